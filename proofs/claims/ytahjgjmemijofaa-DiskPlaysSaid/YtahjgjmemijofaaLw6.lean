/- The names of a disk's files may be: plain. No statement of the seat is proved here. -/
import Derived.Test.YtahjgjmemijofaaLw5
namespace Go.Proofs.Ytahjgjmemijofaa
open Go Eng
set_option linter.unusedVariables false
set_option linter.unusedSimpArgs false

def MayL (l : Files) : Prop := ∀ e ∈ l, may e.1 = true
def MayA (a : Act) : Prop := may a.name = true ∧ (a.kind = 2 → may a.to_ = true)
structure MN (d : DK) : Prop where
  last : MayL d.last
  seen : MayL d.seen
  acts : ∀ a ∈ d.acts, MayA a
theorem MayL.with {l : Files} (h : MayL l) {k : Nm} (hk : may k = true) (b : List Int) : MayL (fwith l k b) := by
  intro e he
  have := (with_perm l k b).mem_iff.1 he
  rcases List.mem_cons.1 this with rfl | h2
  · exact hk
  · exact h e (mem_less.1 h2).1
theorem MayL.less {l : Files} (h : MayL l) (k : Nm) : MayL (fless l k) := fun e he => h e (mem_less.1 he).1
theorem MayL.fdo {l : Files} (h : MayL l) {a : Act} (ha : MayA a) : MayL (fdo l a) := by
  unfold Go.Proofs.Ytahjgjmemijofaa.fdo
  split
  · exact h.with ha.1 _
  · split
    · exact h.with ha.1 _
    · split
      · rename_i h2
        exact (h.less _).with (ha.2 h2) _
      · exact h.less _
theorem MayL.foldl : ∀ {ax : List Act} {l : Files}, MayL l → (∀ a ∈ ax, MayA a) → MayL (ax.foldl Go.Proofs.Ytahjgjmemijofaa.fdo l) := by
  intro ax
  induction ax with
  | nil => intro l h _; exact h
  | cons a ax ih => intro l h ha; exact ih (h.fdo (ha a List.mem_cons_self)) fun x hx => ha x (List.mem_cons_of_mem _ hx)
theorem MayL.fallF {l : Files} (h : MayL l) {ax : List Act} (ha : ∀ a ∈ ax, MayA a) (n : Nat) (t : Int) : MayL (fallF l ax n t) := by
  unfold Go.Proofs.Ytahjgjmemijofaa.fallF
  split
  · rename_i a hx
    split
    · exact h
    · refine MayL.fdo (h.foldl fun x hx2 => ha x (List.mem_of_mem_take hx2)) ?_
      exact ha a (List.mem_of_getElem? hx)
  · exact h
theorem MN.fall {d : DK} (h : MN d) (k t : Int) : MN (d.fall k t) := ⟨h.last.fallF h.acts _ _, h.last.fallF h.acts _ _, by simp [DK.fall]⟩
theorem MN.less {d : DK} (h : MN d) : MN d.less := ⟨h.last, h.seen, h.acts⟩
theorem MN.add {d : DK} (h : MN d) {a : Act} (ha : MayA a) : MN (d.add a) := ⟨h.last, h.seen.fdo ha, fun x hx => by
  rcases List.mem_append.1 hx with hx | hx
  · exact h.acts x hx
  · simp at hx; subst hx; exact ha⟩
theorem MN.act {d : DK} (h : MN d) {a : Act} (ha : MayA a) : MN (d.act a).2 := by
  unfold DK.act
  split
  · exact (h.add ha).less.fall _ _
  · exact (h.add ha).less
theorem may_find0 {d : DK} {k : Nm} (h : d.find k = 0) : may k = true := (find_zero h).2.1
theorem MN.writeA {d : DK} (h : MN d) {k : Nm} (hk : may k = true) (n : Int) (b : List Int) : MN (d.writeA k n b).2 := by
  unfold DK.writeA
  split
  · exact h
  · exact h.act ⟨hk, by simp⟩
theorem MN.does {d : DK} (h : MN d) (c : Do) : MN (d.does c).2 := by
  unfold DK.does
  split
  · unfold DK.trim
    split
    · exact h
    · rename_i h1
      split
      · exact h
      · exact h.act ⟨may_find0 (Classical.not_not.1 h1), by simp⟩
  · split
    · unfold DK.move
      split
      · exact h
      · rename_i h1
        split
        · exact h
        · rename_i h2
          exact h.act ⟨may_find0 (Classical.not_not.1 h1), fun _ => by simpa using h2⟩
    · split
      · unfold DK.drop
        split
        · exact h
        · rename_i h1
          exact h.act ⟨may_find0 (Classical.not_not.1 h1), by simp⟩
      · split
        · unfold DK.sync
          split
          · exact h
          · split
            · exact h.less.fall _ _
            · exact ⟨h.seen, h.seen, by simp⟩
        · split
          · unfold DK.arm
            split
            · exact h
            · exact ⟨h.last, h.seen, h.acts⟩
          · split
            · unfold DK.crash
              split
              · exact h
              · exact h.fall _ _
            · split
              · exact ⟨h.last, h.seen, h.acts⟩
              · unfold DK.write
                split
                · rename_i h1
                  split
                  · exact h
                  · exact h.writeA (find_21 h1.1).2.1 _ _
                · split
                  · exact h
                  · rename_i h1
                    split
                    · exact h
                    · exact h.writeA (may_find0 (Classical.not_not.1 h1)) _ _
theorem MN.new (r : Int) : MN (DK.new r) := ⟨by simp [MayL, DK.new], by simp [MayL, DK.new], by simp [DK.new]⟩
theorem MN.start {d : DK} (h : MN d) : MN d.start.2 := ⟨h.last, h.seen, h.acts⟩
theorem MN.arm {d : DK} (h : MN d) (n k t : Int) : MN (d.arm n k t).2 := by
  unfold DK.arm
  split
  · exact h
  · exact ⟨h.last, h.seen, h.acts⟩
theorem MN.crash {d : DK} (h : MN d) (k t : Int) : MN (d.crash k t).2 := by
  unfold DK.crash
  split
  · exact h
  · exact h.fall _ _
theorem crash_acts (d : DK) (k t : Int) : (d.crash k t).2.acts.length ≤ d.acts.length := by
  unfold DK.crash
  split
  · exact Nat.le_refl _
  · simp [DK.fall]
end Go.Proofs.Ytahjgjmemijofaa
