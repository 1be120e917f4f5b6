/- The walk's engine: judgements over an environment of slots and a list of known blocks, with one rule for each kind of operation and of code. No statement of the seat is proved here. -/
import Derived.WalkKit
import Derived.WalkLawsBesides
import Derived.Deep.LoopGhost
namespace Go.Proofs.Ytahjgjmemijofaa.Eng
open Go
set_option linter.unusedVariables false

abbrev Env := List (Nat × Value)
abbrev Heap := List (Nat × Obj)

def lk : Env → Nat → Option Value
  | [], _ => none
  | (a, v) :: r, t => bif Nat.beq a t then some v else lk r t
/-- a row's cell -/
def lget : List Value → Nat → Option Value
  | [], _ => none
  | v :: _, 0 => some v
  | _ :: r, i + 1 => lget r i
theorem lget_eq : ∀ (l : List Value) (i : Nat), lget l i = l[i]?
  | [], _ => rfl
  | _ :: _, 0 => rfl
  | _ :: r, i + 1 => by simpa [lget] using lget_eq r i
def cg (cs : Array Value) (i : Nat) : Option Value := lget cs.toList i
theorem cg_eq (cs : Array Value) (i : Nat) : cg cs i = cs[i]? := by simp [cg, lget_eq]

theorem lk_cons (d : Nat) (v : Value) (l : Env) (t : Nat) : lk ((d, v) :: l) t = if d = t then some v else lk l t := by
  simp only [lk]
  by_cases h : d = t
  · subst h; simp
  · have : Nat.beq d t = false := by cases hb : Nat.beq d t with | false => rfl | true => exact absurd (Nat.eq_of_beq_eq_true hb) h
    simp [this, h]

structure RepE (n : Nat) (a : Act) (l : Env) : Prop where
  size : a.tmps.size = n
  defers : a.defers = []
  get : ∀ t v, lk l t = some v → a.tmps[t]? = some v

structure Sep (W0 w : World) (L : Heap) : Prop where
  os : w.os = W0.os
  tape : w.tape = W0.tape
  output : w.output = W0.output
  size : W0.heap.size ≤ w.heap.size
  old : ∀ b, b < W0.heap.size → w.heap[b]? = W0.heap[b]?
  has : ∀ p ∈ L, W0.heap.size ≤ p.1 ∧ w.heap[p.1]? = some p.2
  nodup : (L.map Prod.fst).Nodup

theorem RepE.put {n : Nat} {a : Act} {l : Env} (h : RepE n a l) {d : Nat} (hd : Nat.blt d n = true) (v : Value) : RepE n (a.put (some d) v) ((d, v) :: l) := by
  have hd' : d < n := by have := Nat.le_of_ble_eq_true hd; omega
  refine ⟨by simp [Act.put, h.size], by simp [Act.put, h.defers], ?_⟩
  intro t u hu
  rw [lk_cons] at hu
  simp only [Act.put, Array.getElem?_setIfInBounds]
  split at hu
  · rename_i e; subst e; cases hu
    simp [h.size, hd']
  · rename_i e
    rw [if_neg e]; exact h.get t u hu

theorem RepE.put_none {n : Nat} {a : Act} {l : Env} (h : RepE n a l) (v : Value) : RepE n (a.put none v) l := h

def evo (l : Env) : Operand → Option Value
  | .tmp t => lk l t
  | .const v => some v
  | .global g => some (.pointer (some ⟨g, 0, none⟩))
  | .func f => some (.func (.func f) #[] #[])

theorem RepE.eval {n : Nat} {a : Act} {l : Env} (h : RepE n a l) {x : Operand} {v : Value} (hx : evo l x = some v) : a.eval x = v := by
  cases x with
  | tmp t => 
    have := h.get t v hx
    simp only [Act.eval, Array.getD_eq_getD_getElem?, this, Option.getD_some]
  | const c => simpa [evo, Act.eval] using hx
  | global g => simpa [evo, Act.eval] using hx
  | func f => simpa [evo, Act.eval] using hx

/-- every entry of l' is what l tells of its slot -/
def Sub : Env → Env → Prop
  | [], _ => True
  | p :: r, l => lk l p.1 = some p.2 ∧ Sub r l

theorem Sub.lk {l' l : Env} (h : Sub l' l) : ∀ t v, Eng.lk l' t = some v → Eng.lk l t = some v := by
  induction l' with
  | nil => intro t v hv; simp [Eng.lk] at hv
  | cons p r ih =>
    intro t v hv
    obtain ⟨d, u⟩ := p
    rw [lk_cons] at hv
    split at hv
    · rename_i e; subst e; cases hv; exact h.1
    · exact ih h.2 t v hv

theorem RepE.sub {n : Nat} {a : Act} {l l' : Env} (h : RepE n a l) (hs : Sub l' l) : RepE n a l' := ⟨h.size, h.defers, fun t v hv => h.get t v (hs.lk t v hv)⟩

/-! ### the list of blocks -/
inductive Has : Heap → Nat → Obj → Prop
  | h {b o L} : Has ((b, o) :: L) b o
  | t {b o p L} : Has L b o → Has (p :: L) b o

inductive Pick : Heap → Nat × Obj → Heap → Prop
  | h {x L} : Pick (x :: L) x L
  | t {x y L L'} : Pick L x L' → Pick (y :: L) x (y :: L')

inductive Upd : Heap → Nat → Obj → Obj → Heap → Prop
  | h {b o o' L} : Upd ((b, o) :: L) b o o' ((b, o') :: L)
  | t {b o o' p L L'} : Upd L b o o' L' → Upd (p :: L) b o o' (p :: L')

/-- a choice out of a list of blocks, in another order, with whatever else struck -/
inductive Sel : Heap → Heap → Prop
  | all {L} : Sel L L
  | none {L} : Sel L []
  | one {L x L1 L2} : Pick L x L1 → Sel L1 L2 → Sel L (x :: L2)
  | drop {L x L2} : Sel L L2 → Sel (x :: L) L2
  | perm {L L1 L2} : L.Perm L1 → Sel L1 L2 → Sel L L2

theorem Has.mem {L : Heap} {b : Nat} {o : Obj} (h : Has L b o) : (b, o) ∈ L := by
  induction h with
  | h => exact List.mem_cons_self
  | t _ ih => exact List.mem_cons_of_mem _ ih

theorem Pick.perm {L : Heap} {x : Nat × Obj} {L' : Heap} (h : Pick L x L') : L.Perm (x :: L') := by
  induction h with
  | h => exact List.Perm.refl _
  | t _ ih => exact (List.Perm.cons _ ih).trans (List.Perm.swap _ _ _)

theorem Sep.perm {W0 w : World} {L L' : Heap} (h : Sep W0 w L) (hp : L.Perm L') : Sep W0 w L' :=
  ⟨h.os, h.tape, h.output, h.size, h.old, fun p hm => h.has p (hp.mem_iff.2 hm), (hp.map _).nodup_iff.1 h.nodup⟩

theorem Sep.tail {W0 w : World} {x : Nat × Obj} {L : Heap} (h : Sep W0 w (x :: L)) : Sep W0 w L :=
  ⟨h.os, h.tape, h.output, h.size, h.old, fun p hm => h.has p (List.mem_cons_of_mem _ hm), (List.nodup_cons.1 h.nodup).2⟩

theorem Sep.nil {W0 w : World} {L : Heap} (h : Sep W0 w L) : Sep W0 w [] :=
  ⟨h.os, h.tape, h.output, h.size, h.old, fun p hm => by simp at hm, by simp⟩

theorem Sel.sub {L L' : Heap} (h : Sel L L') : ∀ p ∈ L', p ∈ L := by
  induction h with
  | all => exact fun _ h => h
  | none => intro p hp; simp at hp
  | one hp _ ih =>
    intro p hm
    cases List.mem_cons.1 hm with
    | inl e => subst e; exact hp.perm.mem_iff.2 List.mem_cons_self
    | inr e => exact hp.perm.mem_iff.2 (List.mem_cons_of_mem _ (ih p e))
  | drop _ ih => exact fun p hm => List.mem_cons_of_mem _ (ih p hm)
  | perm hp _ ih => exact fun p hm => hp.mem_iff.2 (ih p hm)

theorem Sel.nodup {L L' : Heap} (h : Sel L L') (hn : (L.map Prod.fst).Nodup) : (L'.map Prod.fst).Nodup := by
  induction h with
  | all => exact hn
  | none => simp
  | @one L x L1 L2 hp hs ih =>
    have h2 : ((x :: L1).map Prod.fst).Nodup := (hp.perm.map _).nodup_iff.1 hn
    rw [List.map_cons, List.nodup_cons] at h2 ⊢
    refine ⟨fun hm => h2.1 ?_, ih h2.2⟩
    obtain ⟨p, hp1, hp2⟩ := List.mem_map.1 hm
    exact List.mem_map.2 ⟨p, hs.sub p hp1, hp2⟩
  | drop _ ih => exact ih (by rw [List.map_cons, List.nodup_cons] at hn; exact hn.2)
  | perm hp _ ih => exact ih ((hp.map _).nodup_iff.1 hn)

theorem Sep.sel {W0 w : World} {L L' : Heap} (h : Sep W0 w L) (hs : Sel L L') : Sep W0 w L' :=
  ⟨h.os, h.tape, h.output, h.size, h.old, fun p hm => h.has p (hs.sub p hm), hs.nodup h.nodup⟩

theorem Sep.get {W0 w : World} {L : Heap} (h : Sep W0 w L) {b : Nat} {o : Obj} (hb : Has L b o) : w.heap[b]? = some o := (h.has _ hb.mem).2
theorem Sep.lt {W0 w : World} {L : Heap} (h : Sep W0 w L) {b : Nat} {o : Obj} (hb : Has L b o) : b < w.heap.size := (Array.getElem?_eq_some_iff.1 (h.get hb)).1

theorem Upd.map {L : Heap} {b : Nat} {o o' : Obj} {L' : Heap} (h : Upd L b o o' L') : L'.map Prod.fst = L.map Prod.fst := by
  induction h with
  | h => rfl
  | t _ ih => simp [ih]
theorem Upd.has {L : Heap} {b : Nat} {o o' : Obj} {L' : Heap} (h : Upd L b o o' L') : Has L b o := by
  induction h with
  | h => exact .h
  | t _ ih => exact .t ih
theorem Upd.mem {L : Heap} {b : Nat} {o o' : Obj} {L' : Heap} (h : Upd L b o o' L') (hn : (L.map Prod.fst).Nodup) : ∀ p ∈ L', p = (b, o') ∨ (p ∈ L ∧ p.1 ≠ b) := by
  induction h with
  | @h b o o' L =>
    intro p hp
    rw [List.map_cons, List.nodup_cons] at hn
    cases List.mem_cons.1 hp with
    | inl e => exact .inl e
    | inr e => exact .inr ⟨List.mem_cons_of_mem _ e, fun e2 => hn.1 (List.mem_map.2 ⟨p, e, e2⟩)⟩
  | @t b o o' q L L' h ih =>
    intro p hp
    rw [List.map_cons, List.nodup_cons] at hn
    cases List.mem_cons.1 hp with
    | inl e =>
      subst e
      exact .inr ⟨List.mem_cons_self, fun e2 => hn.1 (List.mem_map.2 ⟨(b, o), h.has.mem, e2.symm⟩)⟩
    | inr e =>
      rcases ih hn.2 p e with e | ⟨e, e2⟩
      · exact .inl e
      · exact .inr ⟨List.mem_cons_of_mem _ e, e2⟩

/-- a world in which one known block has been written -/
theorem Sep.write {W0 w w' : World} {L L' : Heap} {b : Nat} {o o' : Obj} (h : Sep W0 w L) (hu : Upd L b o o' L')
    (hos : w'.os = w.os) (htape : w'.tape = w.tape) (hout : w'.output = w.output) (hsize : w'.heap.size = w.heap.size)
    (hb : w'.heap[b]? = some o') (hne : ∀ k, k ≠ b → w'.heap[k]? = w.heap[k]?) : Sep W0 w' L' := by
  have hlo := (h.has _ hu.has.mem).1
  refine ⟨hos.trans h.os, htape.trans h.tape, hout.trans h.output, by rw [hsize]; exact h.size, ?_, ?_, by rw [hu.map]; exact h.nodup⟩
  · intro k hk
    rw [hne k (by simp at hlo; omega)]; exact h.old k hk
  · intro p hp
    rcases hu.mem h.nodup p hp with e | ⟨hm, e⟩
    · subst e; exact ⟨hlo, hb⟩
    · exact ⟨(h.has p hm).1, by rw [hne _ e]; exact (h.has p hm).2⟩

/-- a new block -/
theorem Sep.alloc {W0 w : World} {L : Heap} (h : Sep W0 w L) (o : Obj) : Sep W0 (w.alloc o) ((w.heap.size, o) :: L) := by
  refine ⟨h.os, h.tape, h.output, by have := h.size; simp; omega, ?_, ?_, ?_⟩
  · intro k hk
    have := h.size
    rw [Go.RowKit.Below.heap_alloc _ _ _ (by omega)]; exact h.old k hk
  · intro p hp
    cases List.mem_cons.1 hp with
    | inl e => subst e; exact ⟨h.size, by show (w.heap.push o)[w.heap.size]? = some o; simp⟩
    | inr e =>
      have h2 := (h.has p e).2
      refine ⟨(h.has p e).1, ?_⟩
      rw [Go.RowKit.Below.heap_alloc _ _ _ (Array.getElem?_eq_some_iff.1 h2).1]; exact h2
  · rw [List.map_cons, List.nodup_cons]
    refine ⟨fun hm => ?_, h.nodup⟩
    obtain ⟨p, hp1, hp2⟩ := List.mem_map.1 hm
    have := (Array.getElem?_eq_some_iff.1 (h.has p hp1).2).1
    simp at hp2; omega

theorem Sep.drew {W0 w : World} {L : Heap} (h : Sep W0 w L) : Sep W0 w.drew L := ⟨h.os, h.tape, h.output, h.size, h.old, h.has, h.nodup⟩

theorem Sep.setCell {W0 w : World} {L L' : Heap} {b : Nat} {cs : Array Value} {T : TypeId} {fz : Nat × Nat} {off : Nat} {v : Value} (h : Sep W0 w L)
    (hu : Upd L b (.cells cs T fz) (.cells (cs.setIfInBounds off v) T fz) L') : Sep W0 (w.setCell ⟨b, off, none⟩ v) L' := by
  have hb := h.get hu.has
  refine h.write hu rfl rfl rfl (by simp) ?_ ?_
  · simp [World.setCell, Array.getElem?_modify, hb]
  · intro k hk
    exact Go.RowKit.Below.heap_setCell _ _ _ _ hk

theorem Sep.setObj {W0 w : World} {L L' : Heap} {b : Nat} {o o' : Obj} (h : Sep W0 w L)
    (hu : Upd L b o o' L') : Sep W0 { w with heap := w.heap.setIfInBounds b o' } L' := by
  have hlt := h.lt hu.has
  refine h.write hu rfl rfl rfl (by simp) ?_ ?_
  · simp [hlt]
  · intro k hk
    simp only [Array.getElem?_setIfInBounds]
    rw [if_neg (by omega)]

theorem Sep.cell {W0 w : World} {L : Heap} {b : Nat} {cs : Array Value} {T : TypeId} {fz : Nat × Nat} (h : Sep W0 w L) (hb : Has L b (.cells cs T fz)) (off : Nat) :
    w.cell? ⟨b, off, none⟩ = cs[off]? := by simp [World.cell?, h.get hb]
theorem Sep.frozen {W0 w : World} {L : Heap} {b : Nat} {cs : Array Value} {T : TypeId} {fz : Nat × Nat} (h : Sep W0 w L) (hb : Has L b (.cells cs T fz)) (off : Nat) :
    w.frozen? ⟨b, off, none⟩ = (decide (fz.1 ≤ off) && decide (off < fz.2)) := by obtain ⟨x, y⟩ := fz; simp [World.frozen?, h.get hb]
theorem Sep.oldCell {W0 w : World} {L : Heap} (h : Sep W0 w L) {a : Addr} {v : Value} (hc : W0.cell? a = some v) : w.cell? a = some v := by
  have := World.block_lt_of_cell? _ _ hc
  rw [World.cell?_of_block (w := W0) (h.old _ this)]; exact hc

/-! ### the judgements -/
structure Kont where
  norm : Env → Heap → Prop
  ret : Env → Heap → Prop
  ex : List (Nat × (Env → Heap → Prop))

def lkx : List (Nat × (Env → Heap → Prop)) → Nat → Option (Env → Heap → Prop)
  | [], _ => none
  | (a, v) :: r, t => bif Nat.beq a t then some v else lkx r t

def QK (n : Nat) (W0 : World) (K : Kont) : Exit → Act → World → Prop := fun e a w => ∃ l L, RepE n a l ∧ Sep W0 w L ∧
  match e with
  | .normal => K.norm l L
  | .ret => K.ret l L
  | .exit i => ∃ T, lkx K.ex i = some T ∧ T l L
  | _ => False

def WC (P : Program) (n : Nat) (W0 : World) (c : Code) (K : Kont) (l : Env) (L : Heap) : Prop :=
  ∀ a w, RepE n a l → Sep W0 w L → c.wp P (QK n W0 K) a w

def OP (P : Program) (n : Nat) (W0 : World) (o : Oper) (l : Env) (L : Heap) (K : Env → Heap → Prop) : Prop :=
  ∀ a w (next : Act → World → Prop) (Q : Exit → Act → World → Prop), RepE n a l → Sep W0 w L →
    (∀ a' w' l' L', RepE n a' l' → Sep W0 w' L' → K l' L' → next a' w') → o.wp P a w next Q

def WL (P : Program) (n : Nat) (W0 : World) (ops : Array Oper) (N : Env → Heap → Prop) (rest : List Oper) (l : Env) (L : Heap) : Prop :=
  ∀ a w (Q : Exit → Act → World → Prop), RepE n a l → Sep W0 w L →
    (∀ a' w' l' L', RepE n a' l' → Sep W0 w' L' → N l' L' → Q .normal a' w') → wpList P ops Q rest a w

variable {P : Program} {n : Nat} {W0 : World} {K : Kont} {l : Env} {L : Heap} {N : Env → Heap → Prop} {ops : Array Oper} {rest : List Oper} {o : Oper}

theorem wl_nil (h : N l L) : WL P n W0 ops N [] l L := fun a w Q ha hs hq => hq a w l L ha hs h

theorem wl (hg : o.guard = none) (h : OP P n W0 o l L (WL P n W0 ops N rest)) : WL P n W0 ops N (o :: rest) l L := by
  intro a w Q ha hs hq
  simp only [wpList, Region.wanted, hg, if_true]
  exact .inl (h a w _ Q ha hs fun a' w' l' L' ha' hs' hk => hk a' w' Q ha' hs' hq)

/-- what the operation that a guard names has yielded -/
def yl (ops : Array Oper) (l : Env) (j : Nat) : Option Bool :=
  match (ops[j]?).bind (·.dst) with
  | some d => match lk l d with
    | some (.bool b) => some b
    | _ => none
  | none => none

theorem RepE.yielded {a : Act} (h : RepE n a l) {ops : Array Oper} {j : Nat} {b : Bool} (hy : yl ops l j = some b) : Go.yielded ops a.tmps j = some b := by
  unfold yl at hy
  unfold Go.yielded
  cases hd : (ops[j]?).bind (·.dst) with
  | none => simp [hd] at hy
  | some d =>
    simp only [hd] at hy
    simp only [Option.bind_some]
    cases hl : lk l d with
    | none => simp [hl] at hy
    | some v =>
      rw [h.get d v hl]
      cases v <;> simp [hl] at hy ⊢
      exact hy

theorem wl_go {j : Nat} {b : Bool} (hg : o.guard = some (j, b)) (hy : yl ops l j = some b) (h : OP P n W0 o l L (WL P n W0 ops N rest)) : WL P n W0 ops N (o :: rest) l L := by
  intro a w Q ha hs hq
  have : Region.wanted o (Go.yielded ops a.tmps) = true := by simp [Region.wanted, hg, ha.yielded hy]
  simp only [wpList, this, if_true]
  exact .inl (h a w _ Q ha hs fun a' w' l' L' ha' hs' hk => hk a' w' Q ha' hs' hq)

theorem wl_skip {j d : Nat} {b c : Bool} (hg : o.guard = some (j, b)) (hd : o.dst = some d) (hdn : Nat.blt d n = true) (hy : yl ops l j = some c) (hne : (c == b) = false)
    (h : WL P n W0 ops N rest ((d, undef) :: l) L) : WL P n W0 ops N (o :: rest) l L := by
  intro a w Q ha hs hq
  have : Region.wanted o (Go.yielded ops a.tmps) = false := by simp [Region.wanted, hg, ha.yielded hy]; simpa using hne
  simp only [wpList, this, Bool.false_eq_true, if_false, hd]
  exact h _ w Q (ha.put hdn undef) hs hq

theorem wl_skip0 {j : Nat} {b c : Bool} (hg : o.guard = some (j, b)) (hd : o.dst = none) (hy : yl ops l j = some c) (hne : (c == b) = false)
    (h : WL P n W0 ops N rest l L) : WL P n W0 ops N (o :: rest) l L := by
  intro a w Q ha hs hq
  have : Region.wanted o (Go.yielded ops a.tmps) = false := by simp [Region.wanted, hg, ha.yielded hy]; simpa using hne
  simp only [wpList, this, Bool.false_eq_true, if_false, hd]
  exact h a w Q ha hs hq

/-! ### code -/
theorem wc_region {id : Nat} {lst : List Oper} (h : WL P n W0 lst.toArray K.norm lst l L) : WC P n W0 (.region id lst.toArray false) K l L := by
  intro a w ha hs
  refine wp_region_lit (h a w _ ha hs ?_)
  intro a' w' l' L' ha' hs' hk
  exact ⟨l', L', ha', hs', hk⟩

theorem wc_skip (h : K.norm l L) : WC P n W0 .skip K l L := fun a w ha hs => wp_skip ⟨l, L, ha, hs, h⟩
theorem wc_ret (h : K.ret l L) : WC P n W0 .ret K l L := fun a w ha hs => wp_ret ⟨l, L, ha, hs, h⟩
theorem wc_exit {i : Nat} {T : Env → Heap → Prop} (hT : lkx K.ex i = some T) (h : T l L) : WC P n W0 (.exit i) K l L := fun a w ha hs => wp_exit ⟨l, L, ha, hs, T, hT, h⟩

theorem wc_seq {x y : Code} (h : WC P n W0 x { norm := WC P n W0 y K, ret := K.ret, ex := K.ex } l L) : WC P n W0 (.seq x y) K l L := by
  intro a w ha hs
  refine wp_seq (Code.wp_mono ?_ (h a w ha hs))
  intro e a' w' hq
  obtain ⟨l', L', ha', hs', hk⟩ := hq
  cases e with
  | normal => exact hk a' w' ha' hs'
  | ret => exact ⟨l', L', ha', hs', hk⟩
  | exit i => exact ⟨l', L', ha', hs', hk⟩
  | goto i => exact hk.elim
  | panic c => exact hk.elim
  | outgrown => exact hk.elim

theorem wc_block {id : Nat} {c : Code} (h : WC P n W0 c { norm := K.norm, ret := K.ret, ex := (id, K.norm) :: K.ex } l L) : WC P n W0 (.block id c) K l L := by
  intro a w ha hs
  refine wp_block (Code.wp_mono ?_ (h a w ha hs))
  intro e a' w' hq
  obtain ⟨l', L', ha', hs', hk⟩ := hq
  cases e with
  | normal => exact ⟨l', L', ha', hs', hk⟩
  | ret => exact ⟨l', L', ha', hs', hk⟩
  | exit i =>
    obtain ⟨T, hT, hk⟩ := hk
    simp only [Exit.inBlock]
    split
    · rename_i e; subst e
      simp [lkx] at hT
      subst hT
      exact ⟨l', L', ha', hs', hk⟩
    · rename_i e
      have hb : Nat.beq id i = false := by cases hb : Nat.beq id i with | false => rfl | true => exact absurd (Nat.eq_of_beq_eq_true hb).symm e
      refine ⟨l', L', ha', hs', T, ?_, hk⟩
      simpa [lkx, hb] using hT
  | goto i => exact hk.elim
  | panic c => exact hk.elim
  | outgrown => exact hk.elim

theorem wc_cond {c : Operand} {x y : Code} {t : Bool} (hc : evo l c = some (.bool t)) (ht : t = true → WC P n W0 x K l L) (hf : t = false → WC P n W0 y K l L) :
    WC P n W0 (.cond c x y) K l L := by
  intro a w ha hs
  refine wp_cond_split (t := t) (ha.eval hc) (fun e => ht e a w ha hs) (fun e => hf e a w ha hs)
theorem wc_then {c : Operand} {x y : Code} (hc : evo l c = some (.bool true)) (h : WC P n W0 x K l L) : WC P n W0 (.cond c x y) K l L :=
  wc_cond hc (fun _ => h) (fun e => by cases e)
theorem wc_else {c : Operand} {x y : Code} (hc : evo l c = some (.bool false)) (h : WC P n W0 y K l L) : WC P n W0 (.cond c x y) K l L :=
  wc_cond hc (fun e => by cases e) (fun _ => h)

theorem wc_loop {σ : Type} (E : σ → Env) (H : σ → Heap) (Φ : σ → Prop) (μ : σ → Nat) {c : Code} (s0 : σ)
    (h0 : Φ s0) (hE : Sub (E s0) l) (hH : Sel L (H s0))
    (round : ∀ s, Φ s → WC P n W0 c { norm := fun l L => ∃ s', Φ s' ∧ μ s' < μ s ∧ Sub (E s') l ∧ Sel L (H s'), ret := K.ret, ex := K.ex } (E s) (H s)) :
    WC P n W0 (.loop c) K l L := by
  intro a w ha hs
  refine wp_loop_ghost (fun m a w => ∃ s, μ s = m ∧ Φ s ∧ RepE n a (E s) ∧ Sep W0 w (H s)) (μ s0) ⟨s0, rfl, h0, ha.sub hE, hs.sel hH⟩ ?_
  rintro m a w ⟨s, rfl, hs1, hs2, hs3⟩
  refine Code.wp_mono ?_ (round s hs1 a w hs2 hs3)
  intro e a' w' hq
  obtain ⟨l', L', ha', hs', hk⟩ := hq
  cases e with
  | normal =>
    obtain ⟨s', h1, h2, h3, h4⟩ := hk
    exact ⟨μ s', h2, s', rfl, h1, ha'.sub h3, hs'.sel h4⟩
  | ret => exact ⟨l', L', ha', hs', hk⟩
  | exit i => exact ⟨l', L', ha', hs', hk⟩
  | goto i => exact hk.elim
  | panic c => exact hk.elim
  | outgrown => exact hk.elim

/-- what is no longer wanted is struck -/
theorem wc_trim (l' : Env) (L' : Heap) (hl : Sub l' l) (hL : Sel L L') {c : Code} (h : WC P n W0 c K l' L') : WC P n W0 c K l L :=
  fun a w ha hs => h a w (ha.sub hl) (hs.sel hL)

theorem wl_trim (l' : Env) (L' : Heap) (hl : Sub l' l) (hL : Sel L L') (h : WL P n W0 ops N rest l' L') : WL P n W0 ops N rest l L :=
  fun a w Q ha hs hq => h a w Q (ha.sub hl) (hs.sel hL) hq

/-! ### calls -/
def FnC (W0 : World) (P : Program) (f : FuncId) (args : Array Value) (L : Heap) (post : Value → Heap → Prop) : Prop :=
  ∀ w, Sep W0 w L → Calls P f args w fun e w' => ∃ v L', e = .returned v ∧ post v L' ∧ Sep W0 w' L'

theorem FnC.mono {f : FuncId} {args : Array Value} {post post' : Value → Heap → Prop} (h : FnC W0 P f args L post) (hp : ∀ v L', post v L' → post' v L') : FnC W0 P f args L post' :=
  fun w hs => (h w hs).mono fun _ _ ⟨v, L', he, hq, hs'⟩ => ⟨v, L', he, hp v L' hq, hs'⟩

theorem FnC.sel {f : FuncId} {args : Array Value} {L1 : Heap} {post : Value → Heap → Prop} (h : FnC W0 P f args L1 post) (hs : Sel L L1) : FnC W0 P f args L post :=
  fun w h1 => h w (h1.sel hs)

/-! ### the types' facts -/
def tinf (P : Program) (t : TypeId) : Option (TypeDesc × Nat × Nat × Option Value) :=
  match P.underlying t, P.info? t with
  | some d, some i => some (d, i.size, i.bytes, i.zero)
  | _, _ => none

def nagg : TypeDesc → Bool
  | .struct _ | .array _ _ => false
  | _ => true

theorem tinf_run {t : TypeId} {d : TypeDesc} {sz by_ : Nat} {z : Option Value} (h : tinf P t = some (d, sz, by_, z)) :
    P.underlying t = some d ∧ ∃ i, P.info? t = some i ∧ i.size = sz ∧ i.bytes = by_ ∧ i.zero = z := by
  unfold tinf at h
  split at h
  · rename_i d' i h1 h2
    simp only [Option.some.injEq, Prod.mk.injEq] at h
    obtain ⟨rfl, rfl, rfl, rfl⟩ := h
    exact ⟨h1, i, h2, rfl, rfl, rfl⟩
  · cases h

theorem run_und {t : TypeId} {d : TypeDesc} {sz by_ : Nat} {z : Option Value} (h : tinf P t = some (d, sz, by_, z)) (w : World) : (underlying t).run P w = .ok d w := by
  simp [underlying, (tinf_run h).1]
theorem run_tinfo {t : TypeId} {d : TypeDesc} {sz by_ : Nat} {z : Option Value} (h : tinf P t = some (d, sz, by_, z)) (w : World) :
    ∃ i, (typeInfo t).run P w = .ok i w ∧ i.size = sz ∧ i.bytes = by_ ∧ i.zero = z := by
  obtain ⟨_, i, h1, h2⟩ := tinf_run h
  exact ⟨i, by simp [typeInfo, h1], h2⟩
theorem run_size {t : TypeId} {d : TypeDesc} {sz by_ : Nat} {z : Option Value} (h : tinf P t = some (d, sz, by_, z)) (w : World) : (sizeOf t).run P w = .ok sz w := by
  obtain ⟨i, h1, h2, _⟩ := run_tinfo h w
  simp [sizeOf, h1, h2]
theorem run_zero {t : TypeId} {d : TypeDesc} {sz by_ : Nat} {v : Value} (h : tinf P t = some (d, sz, by_, some v)) (w : World) : (zeroValue t).run P w = .ok v w := by
  obtain ⟨i, h1, _, _, h2⟩ := run_tinfo h w
  simp [zeroValue, h1, h2]
theorem run_isAgg {t : TypeId} {d : TypeDesc} {sz by_ : Nat} {z : Option Value} (h : tinf P t = some (d, sz, by_, z)) (w : World) : (isAgg t).run P w = .ok (!nagg d) w := by
  have := run_und h w
  cases d <;> simp [isAgg, this, nagg]

theorem addr_add (b off k : Nat) : Addr.add ⟨b, off, none⟩ k = ⟨b, off + k, none⟩ := by
  unfold Addr.add; split <;> simp_all

theorem run_load_cell {w : World} {a : Addr} {v : Value} (h : w.cell? a = some v) : (load a).run P w = .ok v w := by simp [h]

theorem run_loadVar_s {t : TypeId} {d : TypeDesc} {sz by_ : Nat} {z : Option Value} (ht : tinf P t = some (d, sz, by_, z)) (hd : nagg d = true) {w : World} {a : Addr} {v : Value} (h : w.cell? a = some v) :
    (loadVar t a).run P w = .ok v w := by
  simp [loadVar, run_isAgg ht, hd, h]

theorem run_loadVar_a {t : TypeId} {d : TypeDesc} {by_ : Nat} {z : Option Value} {cs : List Value} (ht : tinf P t = some (d, cs.length, by_, z)) (hd : nagg d = false) {w : World} {b off : Nat}
    (h : ∀ j v, cs[j]? = some v → w.cell? ⟨b, off + j, none⟩ = some v) :
    (loadVar t ⟨b, off, none⟩).run P w = .ok (.agg cs.toArray) w := by
  have := run_loadCells_list (P := P) w ⟨b, off, none⟩ cs (fun j v hj => by rw [addr_add]; exact h j v hj)
  simp [loadVar, run_isAgg ht, hd, run_size ht, this]

/-! ### what a function gives back -/
inductive Res (P : Program) (l : Env) (L : Heap) : ResultVar → Value → Prop
  | tmp {t v} : lk l t = some v → Res P l L (.tmp t) v
  | cell {x t b cs T fz d by_ z} : lk l x = some (.pointer (some ⟨b, 0, none⟩)) → Has L b (.cells cs T fz) → tinf P t = some (d, cs.size, by_, z) → nagg d = false → Res P l L (.cell x t) (.agg cs)

inductive Ress (P : Program) (l : Env) (L : Heap) : List ResultVar → List Value → Prop
  | nil : Ress P l L [] []
  | cons {r v rs vs} : Res P l L r v → Ress P l L rs vs → Ress P l L (r :: rs) (v :: vs)

def shutv : List Value → Value
  | [v] => v
  | vs => .tuple vs.toArray

def resOne (tmps : Array Value) : ResultVar → Sem Value
  | .tmp t => pure (tmps.getD t undef)
  | .cell a t => do loadVar t (← asAddr (tmps.getD a undef))

theorem run_resOne {a : Act} (ha : RepE n a l) {w : World} (hs : Sep W0 w L) {r : ResultVar} {v : Value} (h : Res P l L r v) : (resOne a.tmps r).run P w = .ok v w := by
  cases h with
  | tmp h =>
    have := ha.get _ _ h
    simp [resOne, Array.getD_eq_getD_getElem?, this]
  | @cell x t b cs T fz d by_ z h1 h2 h3 h4 =>
    have := ha.get _ _ h1
    have hl := run_loadVar_a (P := P) (cs := cs.toList) (by simpa using h3) h4 (w := w) (b := b) (off := 0) (fun j v hj => by rw [hs.cell h2]; simpa using hj)
    simp [resOne, Array.getD_eq_getD_getElem?, this, asAddr, hl]

theorem run_resAll {a : Act} (ha : RepE n a l) {w : World} (hs : Sep W0 w L) {rs : List ResultVar} {vs : List Value} (h : Ress P l L rs vs) : (rs.mapM (resOne a.tmps)).run P w = .ok vs w := by
  induction h with
  | nil => simp
  | cons h _ ih => simp [List.mapM_cons, run_resOne ha hs h, ih]

theorem results_ress {a : Act} (ha : RepE n a l) {w : World} (hs : Sep W0 w L) (fn : Func) {rs : List ResultVar} (hr : fn.results = rs.toArray) {vs : List Value} (h : Ress P l L rs vs) :
    (results fn a.tmps).run P w = .ok (shutv vs) w := by
  have h1 := run_resAll ha hs h
  have h2 : results fn a.tmps = (do let vs ← fn.results.mapM (resOne a.tmps); pure (if h : vs.size = 1 then vs[0] else .tuple vs)) := by
    unfold results
    congr 2
  rw [h2, hr]
  simp only [List.mapM_toArray, Sem.run_bind, Sem.run_map, h1, Result.andThen_ok, Sem.run_pure]
  cases vs with
  | nil => simp [shutv]
  | cons v vs => cases vs <;> simp [shutv]

def penv : Nat → List Value → Env
  | _, [] => []
  | i, v :: r => (i, v) :: penv (i + 1) r

theorem lk_penv (t : Nat) (v : Value) : ∀ (vs : List Value) (i : Nat), lk (penv i vs) t = some v → i ≤ t ∧ vs[t - i]? = some v := by
  intro vs
  induction vs with
  | nil => intro i h; simp [penv, lk] at h
  | cons u r ih =>
    intro i h
    simp only [penv, lk_cons] at h
    split at h
    · rename_i e; subst e; cases h; simp
    · rename_i e
      obtain ⟨h1, h2⟩ := ih (i + 1) h
      refine ⟨by omega, ?_⟩
      rw [show t - i = (t - (i + 1)) + 1 from by omega]
      simpa using h2

def RetK (P : Program) (rs : List ResultVar) (post : Value → Heap → Prop) : Env → Heap → Prop := fun l L => ∃ us L', Ress P l L rs us ∧ Sel L L' ∧ post (shutv us) L'
theorem ret_mk {L' : Heap} {rs : List ResultVar} {us : List Value} {post : Value → Heap → Prop} (h1 : Ress P l L rs us) (h2 : post (shutv us) L') (h3 : Sel L L') :
    RetK P rs post l L := ⟨us, L', h1, h3, h2⟩
theorem at_ret {N : Env → Heap → Prop} {L' : Heap} {rs : List ResultVar} {us : List Value} {post : Value → Heap → Prop} (hN : N = RetK P rs post) (h1 : Ress P l L rs us) (h2 : post (shutv us) L') (h3 : Sel L L') :
    N l L := hN ▸ ⟨us, L', h1, h3, h2⟩

/-- the body of a function -/
theorem fn_of {f : FuncId} {fn : Func} {c : Code} {vs : List Value} {post : Value → Heap → Prop} {rs : List ResultVar} (hf : P.funcs[f]? = some fn) (hb : fn.body = some c) (hn : fn.ntmps = n) (hr : fn.results = rs.toArray)
    (hle : Nat.ble vs.length n = true)
    (h : WC P n W0 c { norm := RetK P rs post, ret := RetK P rs post, ex := [] } (penv 0 vs) L) :
    FnC W0 P f vs.toArray L post := by
  intro w hs
  have hle' : vs.length ≤ n := Nat.le_of_ble_eq_true hle
  refine calls_of_wp hf hb (Code.wp_mono ?_ (h { tmps := vs.toArray ++ Array.replicate (fn.ntmps - vs.toArray.size) undef, defers := [] } w ?_ hs))
  · intro e a w' hq
    obtain ⟨l', L', ha, hs', hk⟩ := hq
    cases e with
    | normal =>
      obtain ⟨us, L2, hus, hsel, hp⟩ := hk
      exact ⟨ha.defers, _, results_ress ha hs' fn hr hus, _, L2, rfl, hp, hs'.sel hsel⟩
    | ret =>
      obtain ⟨us, L2, hus, hsel, hp⟩ := hk
      exact ⟨ha.defers, _, results_ress ha hs' fn hr hus, _, L2, rfl, hp, hs'.sel hsel⟩
    | exit i => obtain ⟨T, hT, _⟩ := hk; simp [lkx] at hT
    | goto i => exact hk.elim
    | panic c => exact hk.elim
    | outgrown => exact hk.elim
  · refine ⟨by simp [hn]; omega, rfl, ?_⟩
    intro t v hv
    obtain ⟨_, h2⟩ := lk_penv t v vs 0 hv
    have hlt : t < vs.length := by
      rcases Nat.lt_or_ge t vs.length with h | h
      · exact h
      · simp [List.getElem?_eq_none h] at h2
    simp only [Nat.sub_zero] at h2
    rw [List.getElem?_eq_getElem hlt] at h2
    simp [Array.getElem?_append, hlt]
    simpa using h2

attribute [irreducible] RetK
end Go.Proofs.Ytahjgjmemijofaa.Eng
