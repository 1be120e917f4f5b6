/- The engine's rules for built slices, and loop rules over several unknowns. No statement of the seat is proved here. -/
import Derived.Test.YtahjgjmemijofaaMem
import Derived.Great.FillDense
namespace Go.Proofs.Ytahjgjmemijofaa.Eng
open Go
set_option linter.unusedVariables false
set_option linter.unusedSimpArgs false

variable {P : Program} {n : Nat} {W0 : World} {l : Env} {L : Heap} {K : Env → Heap → Prop} {o : Oper}

theorem At.cell {b k cap : Nat} {cs : Array Value} {e : TypeId} {R : Heap} : At ((b, .cells cs e (0, 0)) :: R) (ownH (.slice (some ⟨b, 0, none⟩) k cap) cs e) (fun F' => F' ++ R) := At.h (F := [(b, .cells cs e (0, 0))])

/-- a part of the list is picked -/
inductive PickF : Heap → Heap → Heap → Prop
  | h {F R} : PickF (F ++ R) F R
  | t {p L F L'} : PickF L F L' → PickF (p :: L) F (p :: L')
  | a {G L F L'} : PickF L F L' → PickF (G ++ L) F (G ++ L')
theorem PickF.perm {L F L' : Heap} (h : PickF L F L') : L.Perm (F ++ L') := by
  induction h with
  | h => exact List.Perm.refl _
  | t _ ih => exact (ih.cons _).trans List.perm_middle.symm
  | @a G L F L' _ ih =>
    refine (ih.append_left G).trans ?_
    rw [← List.append_assoc, ← List.append_assoc]
    exact (List.perm_append_comm).append_right L'
theorem Sel.grp {L F L1 L2 : Heap} (hp : PickF L F L1) (h : Sel L1 L2) : Sel L (F ++ L2) := Sel.perm hp.perm (Sel.app h)
theorem Sel.hd {F L : Heap} : Sel (F ++ L) F := by
  have h : Sel (F ++ L) (F ++ []) := Sel.app Sel.none
  rwa [List.append_nil] at h
theorem Sel.nilF {L F L2 : Heap} (hF : F = []) (h : Sel L L2) : Sel L (F ++ L2) := by subst hF; exact h

/-- parts laid into a row of zeros, over lists -/
def setL (z : List Value) (off : Nat) (xs : List Value) : List Value := z.take off ++ (xs ++ z.drop (off + xs.length))
def fillL (pl : List (Nat × Nat)) : List Value → List (Nat × Value) → Option (List Value)
  | z, [] => some z
  | z, (i, v) :: r => match pl[i]? with
    | none => none
    | some (off, sz) => bif Nat.beq v.cells.size sz && Nat.ble (off + sz) z.length then fillL pl (setL z off v.cells.toList) r else none

theorem fill_of_fillL {pl : List (Nat × Nat)} : ∀ {vs : List (Nat × Value)} {z cs : List Value}, fillL pl z vs = some cs → Instr.fill (pl.toArray[·]?) z.toArray vs = some cs.toArray := by
  intro vs
  induction vs with
  | nil => intro z cs h; simp [fillL] at h; simp [Instr.fill, h]
  | cons p r ih =>
    intro z cs h
    obtain ⟨i, v⟩ := p
    simp only [fillL] at h
    cases hp : pl[i]? with
    | none => simp [hp] at h
    | some q =>
      obtain ⟨off, sz⟩ := q
      simp only [hp] at h
      cases hb : (Nat.beq v.cells.size sz && Nat.ble (off + sz) z.length) with
      | false => simp [hb] at h
      | true =>
        simp only [hb, cond_true] at h
        simp only [Bool.and_eq_true] at hb
        have h1 : v.cells.size = sz := Nat.eq_of_beq_eq_true hb.1
        have h2 : off + sz ≤ z.length := Nat.le_of_ble_eq_true hb.2
        have := ih h
        unfold Instr.fill
        simp only [List.getElem?_toArray, hp, h1]
        rw [if_neg (by simp; omega)]
        rw [← this, show (fun x => pl.toArray[x]?) = (fun x => pl[x]?) from funext fun x => List.getElem?_toArray]
        congr 1
        obtain ⟨g1, g2⟩ := Go.Great.foldl_set off v.cells.toList 0 z.toArray
        rw [← Array.foldl_toList, Array.toList_zipIdx]
        apply Array.ext_getElem?
        intro k
        have hz : z.toArray.size = z.length := List.size_toArray
        rw [g2 k]
        simp only [setL, Array.length_toList, h1, Nat.add_zero, List.size_toArray, List.getElem?_toArray]
        rw [List.getElem?_append]
        simp only [List.length_take]
        by_cases hk : k < off
        · rw [if_neg (by omega), if_pos (by omega), List.getElem?_take, if_pos hk]
        · have e1 : ¬ k < min off z.length := by omega
          by_cases hk2 : k < off + sz
          · rw [if_pos ⟨by omega, by omega, by omega⟩, if_neg e1, show min off z.length = off from by omega, List.getElem?_append, if_pos (by simp only [Array.length_toList, h1]; omega)]
          · rw [if_neg (by omega), if_neg e1, show min off z.length = off from by omega, List.getElem?_append, if_neg (by simp only [Array.length_toList, h1]; omega), List.getElem?_drop]
            simp only [Array.length_toList, h1]
            congr 1; omega

theorem eBuL {d : Option Nat} {ty : TypeId} {pos : String} {af : Array Edge} {gd : Option (Nat × Bool)} {t : TypeId} {ps : List (Nat × Operand)} {vs : List (Nat × Value)} {fs : List Field} {sz by_ : Nat} {z : Value} {pl : List (Nat × Nat)} {cells : List Value}
    (ht : tinf P t = some (.struct fs.toArray, sz, by_, some z)) (hpl : plc P fs = some pl) (hp : pev l ps = some vs) (hf : fillL pl z.cells.toList vs = some cells) : EV P n W0 ⟨d, .build t ps.toArray, ty, pos, af, gd⟩ l L (.agg cells.toArray) :=
  eBuS ht hpl hp (by have := fill_of_fillL hf; simpa using this)

section
variable {d : Nat} {ty : TypeId} {pos : String} {af : Array Edge} {gd : Option (Nat × Bool)} (hdn : Nat.blt d n = true)
include hdn

/-- a slice built of all its elements -/
theorem oBSw {t : TypeId} {len : Nat} {ps : List (Nat × Operand)} {vs : List Value} {e : TypeId} {a1 a2 sz by_ : Nat} {z1 : Option Value} {ed : TypeDesc} {z : Value} {cells : List Value}
    (ht : tinf P t = some (.slice e, a1, a2, z1)) (he : tinf P e = some (ed, sz, by_, some z)) (hsz : Nat.ble (len * sz) 16777216 = true) (hpos : Nat.beq (len * sz) 0 = false)
    (hp : pev l ps = some ((vs.zipIdx 0).map fun x => (x.2, x.1))) (hl : vs.length = len) (h1 : vs.all (fun v => v.cells.size == sz) = true) (hc : (vs.flatMap fun v => v.cells.toList) = cells)
    (h : ∀ b, K ((d, .slice (some ⟨b, 0, none⟩) len len) :: l) ((b, .cells cells.toArray e (0, 0)) :: L)) : OP P n W0 ⟨some d, .buildSlice t len ps.toArray, ty, pos, af, gd⟩ l L K :=
  oBS hdn ht he hsz hpos hp (cells := cells.toArray) (by
    subst hc
    have hpos' : 0 < sz := by
      rcases Nat.eq_zero_or_pos sz with rfl | h
      · simp at hpos
      · exact h
    refine Go.Great.fill_whole hpos' vs _ (fun v hv => by simpa using List.all_eq_true.1 h1 v hv) ?_
    rw [hl]; simp) h
end

theorem wc_loop2 {α β : Type} (E : α → β → Env) (H : α → β → Heap) (Φ : α → β → Prop) (μ : α → β → Nat) {c : Code} {K : Kont} (a0 : α) (b0 : β)
    (h0 : Φ a0 b0) (hE : Sub (E a0 b0) l) (hH : Sel L (H a0 b0))
    (round : ∀ a b, Φ a b → WC P n W0 c { norm := fun l L => ∃ a' b', Φ a' b' ∧ μ a' b' < μ a b ∧ Sub (E a' b') l ∧ Sel L (H a' b'), ret := K.ret, ex := K.ex } (E a b) (H a b)) :
    WC P n W0 (.loop c) K l L :=
  wc_loop (σ := α × β) (fun s => E s.1 s.2) (fun s => H s.1 s.2) (fun s => Φ s.1 s.2) (fun s => μ s.1 s.2) (a0, b0) h0 hE hH fun s hs => by
    have := round s.1 s.2 hs
    have e : (fun (l : Env) (L : Heap) => ∃ a' b', Φ a' b' ∧ μ a' b' < μ s.1 s.2 ∧ Sub (E a' b') l ∧ Sel L (H a' b')) = (fun l L => ∃ s' : α × β, Φ s'.1 s'.2 ∧ μ s'.1 s'.2 < μ s.1 s.2 ∧ Sub (E s'.1 s'.2) l ∧ Sel L (H s'.1 s'.2)) := by
      funext l L
      exact propext ⟨fun ⟨a, b, h⟩ => ⟨(a, b), h⟩, fun ⟨s, h⟩ => ⟨s.1, s.2, h⟩⟩
    rw [e] at this
    exact this

theorem wc_loop3 {α β γ : Type} (E : α → β → γ → Env) (H : α → β → γ → Heap) (Φ : α → β → γ → Prop) (μ : α → β → γ → Nat) {c : Code} {K : Kont} (a0 : α) (b0 : β) (c0 : γ)
    (h0 : Φ a0 b0 c0) (hE : Sub (E a0 b0 c0) l) (hH : Sel L (H a0 b0 c0))
    (round : ∀ a b x, Φ a b x → WC P n W0 c { norm := fun l L => ∃ a' b' x', Φ a' b' x' ∧ μ a' b' x' < μ a b x ∧ Sub (E a' b' x') l ∧ Sel L (H a' b' x'), ret := K.ret, ex := K.ex } (E a b x) (H a b x)) :
    WC P n W0 (.loop c) K l L :=
  wc_loop (σ := α × β × γ) (fun s => E s.1 s.2.1 s.2.2) (fun s => H s.1 s.2.1 s.2.2) (fun s => Φ s.1 s.2.1 s.2.2) (fun s => μ s.1 s.2.1 s.2.2) (a0, b0, c0) h0 hE hH fun s hs => by
    have := round s.1 s.2.1 s.2.2 hs
    have e : (fun (l : Env) (L : Heap) => ∃ a' b' x', Φ a' b' x' ∧ μ a' b' x' < μ s.1 s.2.1 s.2.2 ∧ Sub (E a' b' x') l ∧ Sel L (H a' b' x')) = (fun l L => ∃ s' : α × β × γ, Φ s'.1 s'.2.1 s'.2.2 ∧ μ s'.1 s'.2.1 s'.2.2 < μ s.1 s.2.1 s.2.2 ∧ Sub (E s'.1 s'.2.1 s'.2.2) l ∧ Sel L (H s'.1 s'.2.1 s'.2.2)) := by
      funext l L
      exact propext ⟨fun ⟨a, b, x, h⟩ => ⟨(a, b, x), h⟩, fun ⟨s, h⟩ => ⟨s.1, s.2.1, s.2.2, h⟩⟩
    rw [e] at this
    exact this
end Go.Proofs.Ytahjgjmemijofaa.Eng
