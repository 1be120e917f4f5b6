/- The engine's rules for a region that draws its order. No statement of the seat is proved here. -/
import Derived.Test.YtahjgjmemijofaaMaps
import Derived.OrdersHeld
namespace Go.Proofs.Ytahjgjmemijofaa.Eng
open Go
set_option linter.unusedVariables false

variable {P : Program} {n : Nat} {W0 : World} {K : Kont} {l : Env} {L : Heap} {N : Env → Heap → Prop} {ops : Array Oper} {o : Oper} {Lr : Heap} {fuel : Nat} {listed : Array Bool}

def WA (P : Program) (n : Nat) (W0 : World) (ops : Array Oper) (N : Env → Heap → Prop) (Lr : Heap) (fuel : Nat) (listed : Array Bool) (l : Env) (L : Heap) : Prop :=
  ∀ a w (Q : Exit → Act → World → Prop), (∀ c a w, ¬ Q (.panic c) a w) → RepE n a l → Sep W0 w L →
    (∀ a' w' l' L', RepE n a' l' → Sep W0 w' L' → N l' L' → Q .normal a' w') → wpAnyH P .any ops Q (fun w => Sep W0 w Lr) fuel listed a w

/-- may operation i be taken first? -/
def tk (ops : Array Oper) (listed : Array Bool) (i : Nat) : Bool :=
  Region.noSelect ops && (Region.free .any ops listed i && (Region.ready .any ops listed).contains i)

theorem wa_nil (hr : Region.ready .any ops listed = []) (h : N l L) : WA P n W0 ops N Lr fuel listed l L :=
  fun a w Q hp ha hs hq => wpAnyH_done hr (hq a w l L ha hs h) fuel

theorem wa_take (i : Nat) {d : Nat} {v : Value} (ht : tk ops listed i = true) (hi : ops[i]? = some o) (hd : o.dst = some d) (hdn : Nat.blt d n = true) (hg : o.guard = none) (hsel : Sel L Lr)
    (he : EV P n W0 o l Lr v) (h : WA P n W0 ops N Lr fuel (listed.setIfInBounds i true) ((d, v) :: l) L) : WA P n W0 ops N Lr (fuel + 1) listed l L := by
  intro a w Q hp ha hs hq
  simp only [tk, Bool.and_eq_true] at ht
  refine wpAnyH_take hi ht.1 ht.2.1 ht.2.2 (fun c a w hc => absurd hc (hp c _ w)) (.inl ⟨by simp [Region.wanted, hg], fun w' hw' => he a w' ha hw'⟩) (hs.sel hsel) ?_
  rw [hd]
  exact h _ w Q hp (ha.put hdn v) hs hq

theorem wa_takeb (i : Nat) {d : Nat} {r : Bool} (ht : tk ops listed i = true) (hi : ops[i]? = some o) (hd : o.dst = some d) (hdn : Nat.blt d n = true) (hg : o.guard = none) (hsel : Sel L Lr)
    (he : EV P n W0 o l Lr (.bool r)) (h : ∀ t, t = r → WA P n W0 ops N Lr fuel (listed.setIfInBounds i true) ((d, .bool t) :: l) L) : WA P n W0 ops N Lr (fuel + 1) listed l L :=
  wa_take i ht hi hd hdn hg hsel he (h r rfl)

theorem wa_takeg (i : Nat) {d j : Nat} {b : Bool} {v : Value} (ht : tk ops listed i = true) (hi : ops[i]? = some o) (hd : o.dst = some d) (hdn : Nat.blt d n = true) (hg : o.guard = some (j, b)) (hy : yl ops l j = some b) (hsel : Sel L Lr)
    (he : EV P n W0 o l Lr v) (h : WA P n W0 ops N Lr fuel (listed.setIfInBounds i true) ((d, v) :: l) L) : WA P n W0 ops N Lr (fuel + 1) listed l L := by
  intro a w Q hp ha hs hq
  simp only [tk, Bool.and_eq_true] at ht
  refine wpAnyH_take hi ht.1 ht.2.1 ht.2.2 (fun c a w hc => absurd hc (hp c _ w)) (.inl ⟨by simp [Region.wanted, hg, ha.yielded hy], fun w' hw' => he a w' ha hw'⟩) (hs.sel hsel) ?_
  rw [hd]
  exact h _ w Q hp (ha.put hdn v) hs hq

theorem wa_skip (i : Nat) {d j : Nat} {b c : Bool} (ht : tk ops listed i = true) (hi : ops[i]? = some o) (hd : o.dst = some d) (hdn : Nat.blt d n = true) (hg : o.guard = some (j, b)) (hy : yl ops l j = some c) (hne : (c == b) = false) (hsel : Sel L Lr)
    (h : WA P n W0 ops N Lr fuel (listed.setIfInBounds i true) ((d, undef) :: l) L) : WA P n W0 ops N Lr (fuel + 1) listed l L := by
  intro a w Q hp ha hs hq
  simp only [tk, Bool.and_eq_true] at ht
  refine wpAnyH_take hi ht.1 ht.2.1 ht.2.2 (fun c a w hc => absurd hc (hp c _ w)) (v := undef) (.inr ⟨by simp [Region.wanted, hg, ha.yielded hy]; simpa using hne, rfl⟩) (hs.sel hsel) ?_
  rw [hd]
  exact h _ w Q hp (ha.put hdn undef) hs hq

def WAll (P : Program) (n : Nat) (W0 : World) (ops : Array Oper) (N : Env → Heap → Prop) (Lr : Heap) (fuel : Nat) (listed : Array Bool) (l : Env) (L : Heap) : List Nat → Prop
  | [] => True
  | i :: r => (∃ o, ops[i]? = some o ∧ (o.guard = none ∨ ∃ j b, o.guard = some (j, b) ∧ yl ops l j = some b) ∧
      OP P n W0 o l L (fun l' L' => Sel L' Lr ∧ WA P n W0 ops N Lr fuel (listed.setIfInBounds i true) l' L')) ∧ WAll P n W0 ops N Lr fuel listed l L r

theorem wall_mem {rs : List Nat} (h : WAll P n W0 ops N Lr fuel listed l L rs) : ∀ i ∈ rs, ∃ o, ops[i]? = some o ∧ (o.guard = none ∨ ∃ j b, o.guard = some (j, b) ∧ yl ops l j = some b) ∧
      OP P n W0 o l L (fun l' L' => Sel L' Lr ∧ WA P n W0 ops N Lr fuel (listed.setIfInBounds i true) l' L') := by
  induction rs with
  | nil => intro i hi; cases hi
  | cons j r ih =>
    intro i hi
    cases List.mem_cons.1 hi with
    | inl e => subst e; exact h.1
    | inr e => exact ih h.2 i e

theorem wa_all (rs : List Nat) (hr : Region.ready .any ops listed = rs) (hne : rs.isEmpty = false) (h : WAll P n W0 ops N Lr fuel listed l L rs) : WA P n W0 ops N Lr (fuel + 1) listed l L := by
  intro a w Q hp ha hs hq
  refine wpAnyH_all hr (by intro e; simp [e] at hne) ?_
  intro i hi
  obtain ⟨o, ho, hg, hop⟩ := wall_mem h i hi
  have hw : Region.wanted o (Go.yielded ops a.tmps) = true := by
    rcases hg with hg | ⟨j, b, hg, hy⟩
    · simp [Region.wanted, hg]
    · simp [Region.wanted, hg, ha.yielded hy]
  unfold Go.wpOp
  simp only [ho, hw, if_true]
  exact .inl (hop a w _ Q ha hs fun a' w' l' L' ha' hs' hk => ⟨hs'.sel hk.1, hk.2 a' w' Q hp ha' hs' hq⟩)

theorem wall_one (i : Nat) (hi : ops[i]? = some o) (hg : o.guard = none) (h : OP P n W0 o l L (fun l' L' => Sel L' Lr ∧ WA P n W0 ops N Lr fuel (listed.setIfInBounds i true) l' L')) {r : List Nat}
    (hr : WAll P n W0 ops N Lr fuel listed l L r) : WAll P n W0 ops N Lr fuel listed l L (i :: r) := ⟨⟨o, hi, .inl hg, h⟩, hr⟩

theorem QK_no_panic (c : List PanicEntry) (a : Act) (w : World) : ¬ QK n W0 K (.panic c) a w := fun ⟨_, _, _, _, h⟩ => h

theorem wc_draw (Lr : Heap) {id : Nat} {lst : List Oper} (hm : P.follows .mixedOrders = true) (h : WA P n W0 lst.toArray K.norm Lr lst.length (Array.replicate lst.length false) l L) :
    WC P n W0 (.region id lst.toArray true) K l L := by
  intro a w ha hs
  refine wp_region_held (S := fun w => Sep W0 w Lr) hm ?_
  have := h a w.drew (QK n W0 K) QK_no_panic ha hs.drew (fun a' w' l' L' ha' hs' hk => ⟨l', L', ha', hs', hk⟩)
  simpa using this

/-- a region whose ways come to one end -/
theorem wc_drawcut {σ : Type} (E : σ → Env) (H : σ → Heap) (Φ : σ → Prop) (Lr : Heap) {id : Nat} {lst : List Oper} (hm : P.follows .mixedOrders = true)
    (h : WA P n W0 lst.toArray (fun l L => ∃ s, Φ s ∧ Sub (E s) l ∧ Sel L (H s)) Lr lst.length (Array.replicate lst.length false) l L)
    (hk : ∀ s, Φ s → K.norm (E s) (H s)) :
    WC P n W0 (.region id lst.toArray true) K l L := by
  intro a w ha hs
  refine wp_region_held (S := fun w => Sep W0 w Lr) hm ?_
  have := h a w.drew (QK n W0 K) QK_no_panic ha hs.drew (fun a' w' l' L' ha' hs' ⟨s, h1, h2, h3⟩ => ⟨E s, H s, ha'.sub h2, hs'.sel h3, hk s h1⟩)
  simpa using this

/-- ways that come to one end -/
theorem wc_cut {σ : Type} (E : σ → Env) (H : σ → Heap) (Φ : σ → Prop) {x y : Code}
    (h : WC P n W0 x { norm := fun l L => ∃ s, Φ s ∧ Sub (E s) l ∧ Sel L (H s), ret := K.ret, ex := K.ex } l L)
    (hk : ∀ s, Φ s → WC P n W0 y K (E s) (H s)) : WC P n W0 (.seq x y) K l L := by
  refine wc_seq ?_
  intro a w ha hs
  refine Code.wp_mono ?_ (h a w ha hs)
  rintro e a' w' ⟨l', L', ha', hs', hq⟩
  cases e with
  | normal => obtain ⟨s, h1, h2, h3⟩ := hq; exact ⟨E s, H s, ha'.sub h2, hs'.sel h3, hk s h1⟩
  | ret => exact ⟨l', L', ha', hs', hq⟩
  | exit i => exact ⟨l', L', ha', hs', hq⟩
  | goto i => exact hq.elim
  | panic c => exact hq.elim
  | outgrown => exact hq.elim
end Go.Proofs.Ytahjgjmemijofaa.Eng
