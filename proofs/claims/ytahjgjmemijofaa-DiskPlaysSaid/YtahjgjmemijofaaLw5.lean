/- Plain facts behind the laws of the disk: synced, apart, a beginning. No statement of the seat is proved here. -/
import Derived.Test.YtahjgjmemijofaaLw4
namespace Go.Proofs.Ytahjgjmemijofaa
open Go Eng
set_option linter.unusedVariables false
set_option linter.unusedSimpArgs false
variable {W0 : World} {I I' : Heap}

theorem find_congr {d e : DK} (ho : d.off = e.off) (hs : d.seen = e.seen) (k : Nm) : d.find k = e.find k := by unfold DK.find; rw [ho, hs]
theorem read_congr {d e : DK} (ho : d.off = e.off) (hs : d.seen = e.seen) (k : Nm) : d.read k = e.read k := by
  unfold DK.read; rw [find_congr ho hs, hs]
theorem names_congr {d e : DK} (ho : d.off = e.off) (hs : d.seen = e.seen) : d.names = e.names := by unfold DK.names; rw [ho, hs]
theorem sameB_of {d e : DK} (ho : d.off = e.off) (hs : d.seen = e.seen) : sameB d e = true := by
  unfold sameB
  rw [names_congr ho hs, decide_eq_true rfl, Bool.true_and, List.all_eq_true]
  intro k _
  rw [read_congr ho hs]; simp

theorem synced_law {d : DK} (hc : Calm d) (keep tear : Int) :
    d.sync.1 = 0 ∧ d.sync.2.pend = 0 ∧ (d.sync.2.crash keep tear).1 = 0 ∧ (d.sync.2.crash keep tear).2.names.length = 0 ∧ (d.sync.2.crash keep tear).2.sync = (22, (d.sync.2.crash keep tear).2) ∧
    sameB d.sync.2 (d.sync.2.crash keep tear).2.start.2 = true ∧ d.sync.2.acts.length = 0 := by
  have hs : d.sync = (0, { d.less with last := d.seen, acts := [] }) := by
    unfold DK.sync
    rw [if_neg (by simp [hc.1]), if_neg (by rw [hc.2]; decide)]
  have ho : d.less.off = false := hc.1
  rw [hs]
  have hcr : ({ d.less with last := d.seen, acts := [] } : DK).crash keep tear = (0, ({ d.less with last := d.seen, acts := [] } : DK).fall keep tear) := by
    unfold DK.crash
    rw [if_neg (by simp [ho])]
  show _ ∧ _ ∧ (({ d.less with last := d.seen, acts := [] } : DK).crash keep tear).1 = 0 ∧ _
  have hf : ({ d.less with last := d.seen, acts := [] } : DK).fell keep tear = d.seen := by
    show fallF d.seen [] _ _ = d.seen
    unfold fallF; rfl
  refine ⟨rfl, ?_, by rw [hcr], ?_, ?_, ?_, rfl⟩
  · unfold DK.pend
    show (if d.less.off then 0 else _) = _
    rw [ho]; rfl
  · show (({ d.less with last := d.seen, acts := [] } : DK).crash keep tear).2.names.length = 0
    rw [hcr]; rfl
  · show (({ d.less with last := d.seen, acts := [] } : DK).crash keep tear).2.sync = (22, (({ d.less with last := d.seen, acts := [] } : DK).crash keep tear).2)
    rw [hcr]; rfl
  · show sameB ({ d.less with last := d.seen, acts := [] } : DK) (({ d.less with last := d.seen, acts := [] } : DK).crash keep tear).2.start.2 = true
    rw [hcr]
    refine sameB_of ho ?_
    show d.seen = ({ d.less with last := d.seen, acts := [] } : DK).fell keep tear
    rw [hf]

theorem sync_calm {d : DK} (hc : Calm d) : Calm d.sync.2 ∧ d.sync.2.acts = [] := by
  unfold DK.sync
  rw [if_neg (by simp [hc.1]), if_neg (by rw [hc.2]; decide)]
  exact ⟨⟨hc.1, by show (if d.left = 0 then 0 else d.left - 1) = 0; rw [hc.2]; rfl⟩, rfl⟩

/-! ### what one call does to a disk that is on and not armed -/
/-- the names that an act may touch -/
def touches (a : Act) (k : Nm) : Prop := k = a.name ∨ (a.kind = 2 ∧ k = a.to_)
theorem fdo_other {l : Files} {a : Act} {k : Nm} (h : ¬ touches a k) : fget (fdo l a) k = fget l k := by
  have h1 : a.name ≠ k := fun e => h (.inl e.symm)
  unfold fdo
  split
  · rw [fget_with, if_neg h1]
  · split
    · rw [fget_with, if_neg h1]
    · split
      · rename_i h2
        rw [fget_with, if_neg (fun e => h (.inr ⟨h2, e.symm⟩)), fget_less, if_neg h1]
      · rw [fget_less, if_neg h1]

/-- the act that a call is -/
structure ActOf (c : Do) (a : Act) : Prop where
  name : a.name = c.name
  to_ : a.kind = 2 → a.to_ = c.to_ ∧ k10 c.op = 4
  len : a.B.length ≤ c.B.length
theorem calm_does {d : DK} (hc : Calm d) {c : Do} (hk : k10 c.op < 6) : ((d.does c).1 ≠ 0 ∧ (d.does c).2 = d) ∨ ∃ a, ActOf c a ∧ d.does c = (0, (d.add a).less) := by
  have hact := fun a => (hc.act a).1
  have h7 : ((7 : Int), d).1 ≠ 0 ∧ ((7 : Int), d).2 = d := ⟨by show (7 : Int) ≠ 0; decide, rfl⟩
  have hwa : ∀ (n : Int), ((d.writeA c.name n c.B).1 ≠ 0 ∧ (d.writeA c.name n c.B).2 = d) ∨ ∃ a, ActOf c a ∧ d.writeA c.name n c.B = (0, (d.add a).less) := by
    intro n
    unfold DK.writeA
    split
    · exact .inl h7
    · exact .inr ⟨_, ⟨rfl, by simp, Nat.le_refl _⟩, hact _⟩
  unfold DK.does
  split
  · unfold DK.trim
    split
    · rename_i h; exact .inl ⟨h, rfl⟩
    · split
      · exact .inl ⟨by simp, rfl⟩
      · exact .inr ⟨_, ⟨rfl, by simp, by simp⟩, hact _⟩
  · split
    · rename_i h4
      unfold DK.move
      split
      · rename_i h; exact .inl ⟨h, rfl⟩
      · split
        · exact .inl ⟨by simp, rfl⟩
        · exact .inr ⟨_, ⟨rfl, fun _ => ⟨rfl, h4⟩, by simp⟩, hact _⟩
    · split
      · unfold DK.drop
        split
        · rename_i h; exact .inl ⟨h, rfl⟩
        · exact .inr ⟨_, ⟨rfl, by simp, by simp⟩, hact _⟩
      · rw [if_neg (by omega), if_neg (by omega), if_neg (by omega), if_neg (by omega)]
        unfold DK.write
        split
        · split
          · exact .inl h7
          · exact hwa _
        · split
          · rename_i h; exact .inl ⟨h, rfl⟩
          · split
            · exact .inl ⟨by simp, rfl⟩
            · exact hwa _
theorem calm_does2 {d : DK} (hc : Calm d) {c : Do} (hk : k10 c.op < 6) : Calm (d.does c).2 := by
  rcases calm_does hc hk with ⟨_, h⟩ | ⟨a, _, h⟩
  · rw [h]; exact hc
  · rw [h]; exact (hc.act a).2

theorem apart_law {d : DK} (hc : Calm d) {c : Do} (hk : k10 c.op < 6) {n : Nm} (h1 : n ≠ c.name) (h2 : ¬ (n = c.to_ ∧ k10 c.op = 4)) : (d.does c).2.read n = d.read n := by
  rcases calm_does hc hk with ⟨_, h⟩ | ⟨a, ⟨ha, hb, _⟩, h⟩
  · rw [h]
  · rw [h]
    have hg : fget (fdo d.seen a) n = fget d.seen n := by
      refine fdo_other ?_
      rintro (e | ⟨e1, e2⟩)
      · exact h1 (e.trans ha)
      · exact h2 ⟨e2.trans (hb e1).1, (hb e1).2⟩
    have hf : ((d.add a).less).find n = d.find n := by
      unfold DK.find
      show (if d.off = true then 22 else if may n = false then 20 else if (fget (fdo d.seen a) n).isNone = true then 21 else 0) = _
      rw [hg]
    show ((d.add a).less).read n = _
    unfold DK.read
    rw [hf]
    split
    · show (fgetD (fdo d.seen a) n, (0 : Int)) = _
      unfold fgetD; rw [hg]
    · rfl

/-! ### a beginning -/
/-- how two disks stand, of which one stopped behind so many acts -/
structure PreI (keep : Nat) (d c : DK) : Prop where
  cd : Calm d
  cc : Calm c
  last : c.last = d.last
  acts : c.acts = d.acts.take keep
  eq : d.acts.length ≤ keep → c = d
theorem PreI.skip {keep : Nat} {d c : DK} (h : PreI keep d c) {k : Do} (hk : k10 k.op < 6) (he : (d.does k).1 ≠ 0) : PreI keep (d.does k).2 c := by
  rcases calm_does h.cd hk with ⟨_, h2⟩ | ⟨a, _, h2⟩
  · rw [h2]; exact h
  · rw [h2] at he; exact absurd rfl he
theorem PreI.late {keep : Nat} {d c : DK} (h : PreI keep d c) {k : Do} (hk : k10 k.op < 6) (he : (d.does k).1 = 0) (hp : ¬ (d.does k).2.pend ≤ (keep : Int)) : PreI keep (d.does k).2 c := by
  rcases calm_does h.cd hk with ⟨h1, _⟩ | ⟨a, _, h2⟩
  · exact absurd he h1
  · rw [h2] at hp ⊢
    have hp2 : ¬ (((d.acts ++ [a]).length : Nat) : Int) ≤ keep := by
      have : ((d.add a).less).pend = (((d.acts ++ [a]).length : Nat) : Int) := by
        unfold DK.pend
        show (if d.off = true then 0 else _) = _
        rw [h.cd.1]; rfl
      rwa [this] at hp
    rw [List.length_append, List.length_singleton] at hp2
    refine ⟨(h.cd.act a).2, h.cc, h.last, ?_, fun hl => ?_⟩
    · show c.acts = (d.acts ++ [a]).take keep
      rw [List.take_append_of_le_length (by omega)]; exact h.acts
    · have : (d.acts ++ [a]).length ≤ keep := hl
      rw [List.length_append, List.length_singleton] at this
      omega
theorem PreI.both {keep : Nat} {d c : DK} (h : PreI keep d c) {k : Do} (hk : k10 k.op < 6) (he : (d.does k).1 = 0) (hp : (d.does k).2.pend ≤ (keep : Int)) : c = d ∧ PreI keep (d.does k).2 (c.does k).2 := by
  rcases calm_does h.cd hk with ⟨h1, _⟩ | ⟨a, _, h2⟩
  · exact absurd he h1
  · have hp2 : d.acts.length + 1 ≤ keep := by
      rw [h2] at hp
      have : ((d.add a).less).pend = (((d.acts ++ [a]).length : Nat) : Int) := by
        unfold DK.pend
        show (if d.off = true then 0 else _) = _
        rw [h.cd.1]; rfl
      rw [this, List.length_append, List.length_singleton] at hp
      omega
    have hcd : c = d := h.eq (by omega)
    subst hcd
    refine ⟨rfl, ?_⟩
    rw [h2]
    refine ⟨(h.cd.act a).2, (h.cd.act a).2, rfl, ?_, fun _ => rfl⟩
    show c.acts ++ [a] = (c.acts ++ [a]).take keep
    rw [List.take_of_length_le (by rw [List.length_append, List.length_singleton]; omega)]
theorem PreI.start {keep : Nat} {d : DK} (h : Calm d) (ha : d.acts = []) : PreI keep d d := ⟨h, h, rfl, by rw [ha]; simp, fun _ => rfl⟩
theorem torn_zero (a : Act) : torn a 0 = a := by
  have : clamp 0 a.B.length = 0 := by unfold clamp; omega
  unfold torn
  rw [this, Nat.sub_zero, List.take_of_length_le (Nat.le_refl _)]
theorem fallF_whole (l : Files) (ax : List Act) (n : Nat) (hn : n ≤ ax.length) : fallF l ax n 0 = (ax.take n).foldl fdo l := by
  cases n with
  | zero => rw [fallF_zero]; rfl
  | succ n =>
    have hx : ax[n]? = some (ax[n]'(by omega)) := List.getElem?_eq_getElem (by omega)
    rw [fallF_at hx, torn_zero, List.take_add_one, hx, List.foldl_append]; rfl
theorem PreI.fin {keep : Nat} {d c : DK} (h : PreI keep d c) (hd : DOk d) (hc : DOk c) : (d.crash keep 0).1 = 0 ∧ (d.crash keep 0).2.start.1 = 0 ∧ sameB c (d.crash keep 0).2.start.2 = true := by
  have hcr : d.crash keep 0 = (0, d.fall keep 0) := by unfold DK.crash; rw [if_neg (by simp [h.cd.1])]
  rw [hcr]
  refine ⟨rfl, rfl, sameB_of h.cc.1 ?_⟩
  show c.seen = d.fell keep 0
  have h1 := hc.runs.foldl
  rw [h.last, h.acts] at h1
  have h2 : clamp (keep : Int) d.acts.length = min keep d.acts.length := by unfold clamp; omega
  unfold DK.fell
  rw [h2, fallF_whole _ _ _ (by omega), ← h1]
  congr 1
  rcases Nat.le_total keep d.acts.length with h3 | h3
  · rw [Nat.min_eq_left h3]
  · rw [Nat.min_eq_right h3, List.take_of_length_le h3, List.take_of_length_le (Nat.le_refl _)]
end Go.Proofs.Ytahjgjmemijofaa
