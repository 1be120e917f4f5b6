/- The engine's rules for a range over a map told by a list (any keys), and tables of files. No statement of the seat is proved here. -/
import Derived.Sort.KeysCollected
import Derived.StringKeys
import Derived.Test.YtahjgjmemijofaaFs
import Derived.Test.YtahjgjmemijofaaOps5
import Derived.Maps.RangeRun
namespace Go.Proofs.Ytahjgjmemijofaa.Eng
open Go
set_option linter.unusedVariables false
set_option linter.unusedSimpArgs false
set_option linter.unusedSectionVars false

variable {P : Program} {n : Nat} {W0 : World} {l : Env} {L : Heap} {K : Env → Heap → Prop} {o : Oper}
variable {κ α : Type} [DecidableEq κ]

section
variable {d : Nat} {ty : TypeId} {pos : String} {af : Array Edge} {gd : Option (Nat × Bool)} (hdn : Nat.blt d n = true)

omit [DecidableEq κ] in
include hdn in
theorem oRg {t kt e : TypeId} {x : Operand} {a1 a2 : Nat} {z1 : Option Value} {ke : κ → Value} {ve : α → Value} {m : List (κ × α × Nat)} {clk r : Nat}
    (ht : tinf P t = some (.map kt e, a1, a2, z1)) (hx : evo l x = some (.map (some r))) (hm : Has L r (mp ke ve m clk))
    (h : ∀ b, K ((d, .pointer (some ⟨b, 0, none⟩)) :: l) ((b, .mapIter (some r) clk #[] clk) :: L)) : OP P n W0 ⟨some d, .range t x, ty, pos, af, gd⟩ l L K :=
  .val rfl hdn fun a w ha hs => ⟨_, _, _, by
    simp only [execOp, ha.eval hx]
    have := run_range_map (P := P) w t kt e r _ _ (tinf_run ht).1 (hs.get hm)
    simp [this], hs.alloc _, h _⟩

theorem Sep.setBlock {w : World} {b : Nat} {o o' : Obj} {L0 : Heap} (hs : Sep W0 w ((b, o) :: L0)) : Sep W0 (ChangeMaps.setBlock w b o') ((b, o') :: L0) := hs.setObj Upd.h

omit [DecidableEq κ] in
include hdn in
theorem oNx {it : Operand} {ke : κ → Value} {ve : α → Value} {m : List (κ × α × Nat)} {clk r b : Nat} {seen : List Nat} {L0 : Heap}
    (hx : evo l it = some (.pointer (some ⟨b, 0, none⟩))) (hp : Pick L (b, .mapIter (some r) clk seen.toArray clk) L0) (hm : Has L0 r (mp ke ve m clk)) (hold : ∀ e ∈ m, e.2.2 < clk)
    (h0 : (∀ e ∈ m, e.2.2 ∈ seen) → K ((d, .tuple #[.bool false]) :: l) L)
    (h1 : ∀ e ∈ m, e.2.2 ∉ seen → K ((d, .tuple #[.bool true, ke e.1, ve e.2.1]) :: l) ((b, .mapIter (some r) clk (seen ++ [e.2.2]).toArray clk) :: L0)) :
    OP P n W0 ⟨some d, .next it false, ty, pos, af, gd⟩ l L K :=
  .val rfl hdn fun a w ha hs => by
    have hs1 := hs.perm hp.perm
    have hr := hs1.get Has.h
    have hb := hs1.get (Has.t hm)
    rcases run_next_at (P := P) w ty b r clk clk seen.toArray (mpL ke ve m).toArray clk hr hb (by
      intro x hx
      simp only [mpL, List.mem_map] at hx
      obtain ⟨e, he, rfl⟩ := hx
      exact hold e he) (Nat.le_refl _) with ⟨h2, h3⟩ | ⟨e, he, w1, hw1, h3⟩
    · refine ⟨_, w, L, by simp [execOp, ha.eval hx, h3], hs, h0 ?_⟩
      intro e he
      have : leftOf (mpL ke ve m).toArray seen.toArray = #[] := Array.eq_empty_of_size_eq_zero h2
      unfold leftOf at this
      rw [Array.filter_eq_empty_iff] at this
      have := this { key := ke e.1, val := ve e.2.1, born := e.2.2 } (by simp [mpL]; exact ⟨_, _, _, he, rfl, rfl, rfl⟩)
      simpa using this
    · have he2 : e ∈ mpL ke ve m ∧ e.born ∉ seen := by
        unfold leftOf at he
        simp at he
        exact he
      obtain ⟨hm1, hm2⟩ := he2
      simp only [mpL, List.mem_map] at hm1
      obtain ⟨e', he', rfl⟩ := hm1
      have hs2 : Sep W0 w1 ((b, .mapIter (some r) clk seen.toArray clk) :: L0) := by rcases hw1 with rfl | rfl; exact hs1; exact hs1.drew
      refine ⟨_, _, _, by simp [execOp, ha.eval hx, h3]; exact ⟨rfl, rfl⟩, hs2.setBlock, ?_⟩
      have := h1 e' he' hm2
      simpa using this

omit [DecidableEq κ] in
theorem eEn {D : Option Nat} {it : Operand} {ke : κ → Value} {ve : α → Value} {m : List (κ × α × Nat)} {clk r b since : Nat} {seen : List Nat} (e : κ × α × Nat)
    (hx : evo l it = some (.pointer (some ⟨b, 0, none⟩))) (hb : Has L b (.mapIter (some r) since (seen ++ [e.2.2]).toArray clk)) (hm : Has L r (mp ke ve m clk)) (he : e ∈ m) (hn : (m.map (·.2.2)).Nodup) :
    EV P n W0 ⟨D, .entry it, ty, pos, af, gd⟩ l L (.tuple #[ke e.1, ve e.2.1]) :=
  fun a w ha hs => by
    have := run_entry_at (P := P) w b r since seen.toArray (mpL ke ve m).toArray clk { key := ke e.1, val := ve e.2.1, born := e.2.2 } (by rw [hs.get hb]; simp) (hs.get hm) (by simp [mpL]; exact ⟨_, _, _, he, rfl, rfl, rfl⟩) (by simpa [mpL, List.map_map, Function.comp_def] using hn)
    simp [execOp, ha.eval hx, this]

theorem oDel0 {t kt e : TypeId} {x y : Operand} {ts : Array TypeId} {a1 a2 : Nat} {z1 : Option Value} {ke : κ → Value} {ve : α → Value} {m : List (κ × α × Nat)} {clk : Nat} {r : Nat} {k : κ} {L' : Heap}
    (ht : tinf P t = some (.map kt e, a1, a2, z1)) (hts : ts[0]? = some t) (hk : KOk P kt ke) (hx : evo l x = some (.map (some r))) (hy : evo l y = some (ke k))
    (hb : Upd L r (mp ke ve m clk) (mp ke ve (mdel k m) clk) L')
    (h : K l L') : OP P n W0 ⟨none, .call ⟨.builtin .delete, #[x, y], ts⟩, ty, pos, af, gd⟩ l L K :=
  .val0 rfl fun a w ha hs => ⟨.tuple #[], _, L', by
    have := run_delete ht hts hk (hs.get hb.has) k ty
    simp [execOp, resolve, invoke, builtin, ha.eval hx, ha.eval hy, this], hs.setObj hb, h⟩
end

/-! plain facts -/
theorem mdel_filter {k : κ} : ∀ {m : List (κ × α × Nat)}, (m.map (·.1)).Nodup → mdel k m = m.filter (fun e => decide (e.1 ≠ k)) := by
  intro m
  induction m with
  | nil => intro _; rfl
  | cons e r ih =>
    intro h
    simp only [List.map_cons, List.nodup_cons] at h
    simp only [mdel, List.filter_cons]
    by_cases he : e.1 = k
    · simp only [he, if_true, ne_eq, not_true, decide_false, Bool.false_eq_true, if_false]
      symm
      rw [List.filter_eq_self]
      intro x hx
      have : x.1 ≠ e.1 := fun e2 => h.1 (List.mem_map.2 ⟨x, hx, e2⟩)
      simp [← he, this]
    · simp only [he, if_false, ne_eq, not_false_eq_true, decide_true, if_true, ih h.2]

theorem mget_mem {k : κ} {v : α} : ∀ {m : List (κ × α × Nat)}, mget k m = some v → ∃ b, (k, v, b) ∈ m := by
  intro m
  induction m with
  | nil => intro h; simp [mget] at h
  | cons e r ih =>
    intro h
    simp only [mget] at h
    split at h
    · rename_i he; cases h; subst he; exact ⟨e.2.2, List.mem_cons_self⟩
    · obtain ⟨b, hb⟩ := ih h; exact ⟨b, List.mem_cons_of_mem _ hb⟩
theorem mget_of_mem : ∀ {m : List (κ × α × Nat)} {e : κ × α × Nat}, (m.map (·.1)).Nodup → e ∈ m → mget e.1 m = some e.2.1 := by
  intro m
  induction m with
  | nil => intro e _ h; simp at h
  | cons x r ih =>
    intro e hn h
    simp only [List.map_cons, List.nodup_cons] at hn
    simp only [mget]
    cases List.mem_cons.1 h with
    | inl he => subst he; simp
    | inr he =>
      have : x.1 ≠ e.1 := fun e2 => hn.1 (List.mem_map.2 ⟨e, he, e2.symm⟩)
      rw [if_neg this]; exact ih hn.2 he
theorem mget_none {k : κ} : ∀ {m : List (κ × α × Nat)}, mget k m = none ↔ k ∉ m.map (·.1) := by
  intro m
  induction m with
  | nil => simp [mget]
  | cons x r ih =>
    simp only [mget, List.map_cons, List.mem_cons, not_or]
    by_cases h : x.1 = k
    · simp [h]
    · rw [if_neg h, ih]
      exact ⟨fun h2 => ⟨fun e => h e.symm, h2⟩, fun h2 => h2.2⟩
theorem mset_keys (k : κ) (v : α) (clk : Nat) : ∀ (m : List (κ × α × Nat)), (mset k v clk m).map (·.1) = if (mget k m).isSome then m.map (·.1) else m.map (·.1) ++ [k] := by
  intro m
  induction m with
  | nil => simp [mset, mget]
  | cons e r ih =>
    simp only [mset, mget]
    by_cases he : e.1 = k
    · simp [he]
    · simp only [he, if_false, List.map_cons, ih]
      split <;> simp
theorem mset_borns (k : κ) (v : α) (clk : Nat) : ∀ (m : List (κ × α × Nat)), (mset k v clk m).map (·.2.2) = if (mget k m).isSome then m.map (·.2.2) else m.map (·.2.2) ++ [clk] := by
  intro m
  induction m with
  | nil => simp [mset, mget]
  | cons e r ih =>
    simp only [mset, mget]
    by_cases he : e.1 = k
    · simp [he]
    · simp only [he, if_false, List.map_cons, ih]
      split <;> simp
theorem mset_mem {k : κ} {v : α} {clk : Nat} : ∀ {m : List (κ × α × Nat)} {e : κ × α × Nat}, e ∈ mset k v clk m → e ∈ m ∨ (e.1 = k ∧ e.2.1 = v) := by
  intro m
  induction m with
  | nil => intro e h; simp [mset] at h; subst h; exact .inr ⟨rfl, rfl⟩
  | cons x r ih =>
    intro e h
    simp only [mset] at h
    split at h
    · cases List.mem_cons.1 h with
      | inl h => subst h; exact .inr ⟨rfl, rfl⟩
      | inr h => exact .inl (List.mem_cons_of_mem _ h)
    · cases List.mem_cons.1 h with
      | inl h => exact .inl (by rw [h]; exact List.mem_cons_self)
      | inr h => exact (ih h).imp (List.mem_cons_of_mem _) id
theorem mget_mset (k : κ) (v : α) (clk : Nat) (j : κ) : ∀ (m : List (κ × α × Nat)), mget j (mset k v clk m) = if k = j then some v else mget j m := by
  intro m
  induction m with
  | nil => simp [mset, mget]
  | cons e r ih =>
    simp only [mset, mget]
    by_cases he : e.1 = k
    · simp only [he, if_true, mget]
      by_cases hj : k = j <;> simp [hj]
    · simp only [he, if_false, mget, ih]
      by_cases hj : k = j
      · subst hj; simp [he]
      · simp [hj]

omit [DecidableEq κ] in
theorem eq_of_nodup {β γ : Type} {f : γ → β} : ∀ {m : List γ} {x y : γ}, (m.map f).Nodup → x ∈ m → y ∈ m → f x = f y → x = y := by
  intro m
  induction m with
  | nil => intro x y _ h; simp at h
  | cons a r ih =>
    intro x y hn hx hy e
    simp only [List.map_cons, List.nodup_cons] at hn
    cases List.mem_cons.1 hx with
    | inl h1 =>
      cases List.mem_cons.1 hy with
      | inl h2 => rw [h1, h2]
      | inr h2 => subst h1; exact absurd (List.mem_map.2 ⟨y, h2, e.symm⟩) hn.1
    | inr h1 =>
      cases List.mem_cons.1 hy with
      | inl h2 => subst h2; exact absurd (List.mem_map.2 ⟨x, h1, e⟩) hn.1
      | inr h2 => exact ih hn.2 h1 h2 e

/-- how many are still to come -/
def left (m : List (κ × α × Nat)) (seen : List Nat) : Nat := (m.filter fun e => decide (e.2.2 ∉ seen)).length
theorem left_lt {e : κ × α × Nat} {seen : List Nat} : ∀ {m : List (κ × α × Nat)}, e ∈ m → e.2.2 ∉ seen → left m (seen ++ [e.2.2]) < left m seen := by
  have hle : ∀ m : List (κ × α × Nat), left m (seen ++ [e.2.2]) ≤ left m seen := by
    intro m
    induction m with
    | nil => exact Nat.le_refl _
    | cons x r ih =>
      simp only [left, List.filter_cons] at ih ⊢
      by_cases h1 : x.2.2 ∈ seen <;> by_cases h2 : x.2.2 = e.2.2 <;> simp [h1, h2] <;> simp at ih <;> (try split) <;> (try simp only [List.length_cons]) <;> omega
  intro m
  induction m with
  | nil => intro h; simp at h
  | cons x r ih =>
    intro h hs
    have hr := hle r
    simp only [left, List.filter_cons] at ih hr ⊢
    cases List.mem_cons.1 h with
    | inl h => subst h; simp [hs]; simp at hr; omega
    | inr h =>
      have := ih h hs
      by_cases h1 : x.2.2 ∈ seen <;> by_cases h2 : x.2.2 = e.2.2 <;> simp [h1, h2] <;> simp at this hr <;> (try split) <;> (try simp only [List.length_cons]) <;> omega


omit [DecidableEq κ] in
theorem done_perm {m done : List (κ × α × Nat)} (hm : (m.map (·.2.2)).Nodup) (hd : ∀ e ∈ done, e ∈ m) (hn : (done.map (·.2.2)).Nodup) (hall : ∀ e ∈ m, e.2.2 ∈ done.map (·.2.2)) : done.Perm m := by
  have nd : ∀ {l : List (κ × α × Nat)}, (l.map (·.2.2)).Nodup → l.Nodup := fun {l} h => (List.pairwise_map.1 h).imp fun {a b} hab e => hab (by rw [e])
  refine (List.perm_ext_iff_of_nodup (nd hn) (nd hm)).2 fun e => ⟨hd e, fun he => ?_⟩
  obtain ⟨e', he', h⟩ := List.mem_map.1 (hall e he)
  have := eq_of_nodup hm (hd e' he') he h
  rw [← this]; exact he'
theorem mset_new {k : κ} {v : α} {clk : Nat} : ∀ {m : List (κ × α × Nat)}, mget k m = none → mset k v clk m = m ++ [(k, v, clk)] := by
  intro m
  induction m with
  | nil => intro _; rfl
  | cons e r ih =>
    intro h
    unfold mget at h
    split at h
    · cases h
    · rename_i h1
      unfold mset
      rw [if_neg h1, ih h]; rfl

/-- a map's keys are apart, its births too (keys: names) -/
def MOkS (m : List (List UInt8 × α × Nat)) (clk : Nat) : Prop :=
  (∀ e ∈ m, e.2.2 < clk) ∧ (m.map (·.2.2)).Nodup ∧ (m.map (·.1)).Nodup ∧ (∀ e ∈ m, e.1.length ≤ 32) ∧ m.length ≤ 1099511627776
theorem MOkS.nil (clk : Nat) : MOkS ([] : List (List UInt8 × α × Nat)) clk := by simp [MOkS]
theorem MOkS.filter {m : List (List UInt8 × α × Nat)} {clk : Nat} (h : MOkS m clk) (p : List UInt8 × α × Nat → Bool) : MOkS (m.filter p) clk := by
  obtain ⟨h1, h2, h3, h4, h5⟩ := h
  exact ⟨fun e he => h1 e (List.mem_filter.1 he).1, h2.sublist (List.filter_sublist.map _), h3.sublist (List.filter_sublist.map _), fun e he => h4 e (List.mem_filter.1 he).1, Nat.le_trans (List.length_filter_le _ _) h5⟩
theorem MOkS.set {m : List (List UInt8 × α × Nat)} {clk : Nat} (h : MOkS m clk) (k : List UInt8) (v : α) (hk : k.length ≤ 32) (hl : m.length < 1099511627776) : MOkS (mset k v clk m) (mclk k clk m) := by
  obtain ⟨h1, h2, h3, h4, h5⟩ := h
  cases hg : mget k m with
  | none =>
    rw [mset_new hg]
    have hn := mget_none.1 hg
    unfold mclk
    rw [hg]
    simp only [Option.isSome_none, Bool.false_eq_true, if_false]
    refine ⟨fun e he => ?_, ?_, ?_, fun e he => ?_, ?_⟩
    · rcases List.mem_append.1 he with he | he
      · have := h1 e he; omega
      · simp at he; subst he; exact Nat.lt_succ_self _
    · rw [List.map_append, List.nodup_append]
      refine ⟨h2, by simp, fun a ha b hb e => ?_⟩
      simp at hb; subst hb; subst e
      obtain ⟨x, hx, hx2⟩ := List.mem_map.1 ha
      have := h1 x hx; omega
    · rw [List.map_append, List.nodup_append]
      refine ⟨h3, by simp, fun a ha b hb e => ?_⟩
      simp at hb; subst hb; subst e
      exact hn ha
    · rcases List.mem_append.1 he with he | he
      · exact h4 e he
      · simp at he; subst he; exact hk
    · simp; omega
  | some u =>
    have hk1 := mset_keys k v clk m
    have hb1 := mset_borns k v clk m
    rw [hg] at hk1 hb1
    simp only [Option.isSome_some, if_true] at hk1 hb1
    unfold mclk
    rw [hg]
    simp only [Option.isSome_some, if_true]
    refine ⟨fun e he => ?_, by rw [hb1]; exact h2, by rw [hk1]; exact h3, fun e he => ?_, ?_⟩
    · have : e.2.2 ∈ (mset k v clk m).map (·.2.2) := List.mem_map.2 ⟨e, he, rfl⟩
      rw [hb1] at this
      obtain ⟨x, hx, hx2⟩ := List.mem_map.1 this
      rw [← hx2]; exact h1 x hx
    · have : e.1 ∈ (mset k v clk m).map (·.1) := List.mem_map.2 ⟨e, he, rfl⟩
      rw [hk1] at this
      obtain ⟨x, hx, hx2⟩ := List.mem_map.1 this
      rw [← hx2]; exact h4 x hx
    · have := congrArg List.length hk1
      simp only [List.length_map] at this
      omega
end Go.Proofs.Ytahjgjmemijofaa.Eng
namespace Go.Proofs.Ytahjgjmemijofaa
open Go Eng
set_option linter.unusedVariables false

/-! ### tables of files -/
abbrev TMap := List (Nm × (Value × List Int) × Nat)
def prT (e : Nm × (Value × List Int) × Nat) : Nm × List Int := (e.1, e.2.1.2)
def strK : Nm → Value := Go.Proofs.encStr
def tC (r : Nat) (m : TMap) (clk : Nat) : Nat × Obj := (r, mp strK Prod.fst m clk)
/-- bytes of a file: a slice that is not nil, that can be read -/
def FileV (W0 : World) (I : Heap) (v : Value) (b : List Int) : Prop := (∃ ad n c, v = .slice (some ad) n c) ∧ Rs W0 I v 1 b.length (byteV b) ∧ IsB b
theorem FileV.sel {W0 : World} {I I' : Heap} {v : Value} {b : List Int} (h : FileV W0 I v b) (hs : Sel I' I) : FileV W0 I' v b := ⟨h.1, h.2.1.sel hs, h.2.2⟩

/-- a map that holds files -/
structure Tab (W0 : World) (I : Heap) (m : TMap) (clk : Nat) (l : Files) : Prop where
  ok : MOkS m clk
  perm : (m.map prT).Perm l
  rise : Rising l
  rd : ∀ e ∈ m, FileV W0 I e.2.1.1 e.2.1.2

variable {W0 : World} {I I' : Heap} {m : TMap} {clk : Nat} {l : Files}
theorem Tab.sel (h : Tab W0 I m clk l) (hs : Sel I' I) : Tab W0 I' m clk l := ⟨h.ok, h.perm, h.rise, fun e he => (h.rd e he).sel hs⟩
theorem Tab.nil (clk : Nat) : Tab W0 I [] clk [] := ⟨MOkS.nil _, List.Perm.refl _, by simp [Rising], by simp⟩
theorem Tab.len (h : Tab W0 I m clk l) : m.length = l.length := by have := h.perm.length_eq; simpa using this
theorem prT_keys (m : TMap) : (m.map prT).map (·.1) = m.map (·.1) := by simp [List.map_map, Function.comp_def, prT]
theorem mget_prT (k : Nm) : ∀ (m : TMap), (mget k m).map (·.2) = fget (m.map prT) k
  | [] => rfl
  | e :: r => by
    rw [List.map_cons, fget_cons, ← mget_prT k r]
    show (if e.1 = k then some e.2.1 else mget k r).map (·.2) = if e.1 = k then some e.2.1.2 else _
    split <;> rfl
theorem Tab.get (h : Tab W0 I m clk l) (k : Nm) : fget l k = (mget k m).map (·.2) := by
  rw [mget_prT, fget_perm (by rw [prT_keys]; exact h.ok.2.2.1) h.perm]
theorem Tab.get_some (h : Tab W0 I m clk l) {k : Nm} {u : Value × List Int} (hg : mget k m = some u) : fget l k = some u.2 ∧ FileV W0 I u.1 u.2 := by
  refine ⟨by rw [h.get, hg]; rfl, ?_⟩
  obtain ⟨b, hb⟩ := mget_mem hg
  exact h.rd _ hb
theorem Tab.get_none (h : Tab W0 I m clk l) {k : Nm} (hg : mget k m = none) : fget l k = none := by rw [h.get, hg]; rfl
theorem mdel_prT {m : TMap} (hm : (m.map (·.1)).Nodup) (k : Nm) : (mdel k m).map prT = fless (m.map prT) k := by
  rw [mdel_filter hm]
  unfold fless
  rw [List.filter_map]
  rfl
theorem fless_perm {a b : Files} (h : a.Perm b) (k : Nm) : (fless a k).Perm (fless b k) := h.filter _
theorem Tab.del (h : Tab W0 I m clk l) (k : Nm) : Tab W0 I (mdel k m) clk (fless l k) := by
  refine ⟨by rw [mdel_filter h.ok.2.2.1]; exact h.ok.filter _, by rw [mdel_prT h.ok.2.2.1]; exact fless_perm h.perm k, h.rise.less k, fun e he => ?_⟩
  rw [mdel_filter h.ok.2.2.1] at he
  exact h.rd e (List.mem_filter.1 he).1
theorem mset_perm {k : Nm} {u : Value × List Int} {clk : Nat} : ∀ {m : TMap}, (m.map (·.1)).Nodup → ((mset k u clk m).map prT).Perm ((k, u.2) :: fless (m.map prT) k) := by
  intro m
  induction m with
  | nil => intro _; exact List.Perm.refl _
  | cons e r ih =>
    intro hn
    rw [List.map_cons, List.nodup_cons] at hn
    unfold mset
    split
    · rename_i h1
      have h2 : fless ((e :: r).map prT) k = r.map prT := by
        have h3 : fless ((e :: r).map prT) k = fless (r.map prT) k := by
          have : decide ((prT e).1 ≠ k) = false := by simp [prT, h1]
          simp only [fless, List.map_cons, List.filter_cons, this]; rfl
        rw [h3]
        refine less_none (fget_none.2 fun x hx h4 => ?_)
        obtain ⟨y, hy, rfl⟩ := List.mem_map.1 hx
        exact hn.1 (List.mem_map.2 ⟨y, hy, by rw [h1]; exact h4⟩)
      rw [h2]
      exact List.Perm.refl _
    · rename_i h1
      have h3 : fless ((e :: r).map prT) k = prT e :: fless (r.map prT) k := by
        have : decide ((prT e).1 ≠ k) = true := by simp [prT, h1]
        simp only [fless, List.map_cons, List.filter_cons, this]; rfl
      rw [h3, List.map_cons]
      exact ((ih hn.2).cons _).trans (List.Perm.swap _ _ _)
theorem Tab.set (h : Tab W0 I m clk l) (k : Nm) (v : Value) (b : List Int) (hv : FileV W0 I v b) (hk : k.length ≤ 32) (hl : l.length < 1099511627776) : Tab W0 I (mset k (v, b) clk m) (mclk k clk m) (fwith l k b) := by
  refine ⟨h.ok.set k _ hk (by rw [h.len]; exact hl), ?_, h.rise.with k b, fun e he => ?_⟩
  · exact ((mset_perm h.ok.2.2.1).trans ((fless_perm h.perm k).cons _)).trans (with_perm l k b).symm
  · rcases mset_mem he with he | ⟨_, he⟩
    · exact h.rd e he
    · rw [he]; exact hv
/-- names, rising -/
theorem Tab.names (h : Tab W0 I m clk l) : (m.map (·.1)).mergeSort (fun x y => decide (x ≤ y)) = l.map (·.1) := by
  have hp : (m.map (·.1)).Perm (l.map (·.1)) := by rw [← prT_keys]; exact h.perm.map _
  have hs := Go.mergeSort_of_perm hp
  rw [show (m.map (·.1)).mergeSort (fun x y => decide (x ≤ y)) = (l.map (·.1)).mergeSort (fun x y => decide (x ≤ y)) from hs]
  refine List.mergeSort_of_pairwise ?_
  rw [List.pairwise_map]
  exact h.rise.imp fun {a b} hab => by simpa using List.le_of_lt hab
end Go.Proofs.Ytahjgjmemijofaa
