/- Files as a rising list of names with bytes, and acts on them: plain. No statement of the seat is proved here. -/
namespace Go.Proofs.Ytahjgjmemijofaa
set_option linter.unusedVariables false
set_option linter.unusedSimpArgs false

abbrev Nm := List UInt8
abbrev Files := List (Nm × List Int)

def fget (l : Files) (k : Nm) : Option (List Int) := (l.find? fun e => decide (e.1 = k)).map (·.2)
def fless (l : Files) (k : Nm) : Files := l.filter fun e => decide (e.1 ≠ k)
def fins (k : Nm) (b : List Int) : Files → Files
  | [] => [(k, b)]
  | e :: r => if k < e.1 then (k, b) :: e :: r else e :: fins k b r
def fwith (l : Files) (k : Nm) (b : List Int) : Files := fins k b (fless l k)
def Rising (l : Files) : Prop := l.Pairwise fun a b => a.1 < b.1
def total (l : Files) : Nat := (l.map fun e => e.2.length).sum

theorem nm_irrefl (k : Nm) : ¬ k < k := List.lt_irrefl k
theorem nm_trans {a b c : Nm} (h1 : a < b) (h2 : b < c) : a < c := List.lt_trans h1 h2
theorem nm_tri {a b : Nm} (h : a ≠ b) (h2 : ¬ a < b) : b < a := by
  rcases List.le_total a b with h3 | h3
  · exact absurd (List.le_antisymm h3 (List.not_lt.1 h2)) h
  · by_cases h4 : b < a
    · exact h4
    · exact absurd (List.le_antisymm (List.not_lt.1 h4) h3) h

theorem fget_nil (k : Nm) : fget [] k = none := rfl
theorem fget_cons (e : Nm × List Int) (r : Files) (k : Nm) : fget (e :: r) k = if e.1 = k then some e.2 else fget r k := by
  unfold fget
  by_cases h : e.1 = k
  · simp [h]
  · simp [h]
theorem fget_less (l : Files) (k j : Nm) : fget (fless l k) j = if k = j then none else fget l j := by
  induction l with
  | nil => simp [fless, fget]
  | cons e r ih =>
    by_cases h : e.1 = k
    · have : fless (e :: r) k = fless r k := by simp [fless, h]
      rw [this, ih, fget_cons, h]
      by_cases h2 : k = j
      · simp [h2]
      · simp [h2]
    · have : fless (e :: r) k = e :: fless r k := by simp [fless, h]
      rw [this, fget_cons, ih, fget_cons]
      by_cases h2 : e.1 = j
      · subst h2
        simp [Ne.symm h]
      · simp [h2]
theorem fget_ins {k : Nm} {b : List Int} : ∀ {l : Files}, fget l k = none → ∀ j, fget (fins k b l) j = if k = j then some b else fget l j := by
  intro l
  induction l with
  | nil => intro _ j; simp [fins, fget_cons, fget_nil]
  | cons e r ih =>
    intro h j
    rw [fget_cons] at h
    split at h
    · cases h
    · rename_i h1
      unfold fins
      split
      · rw [fget_cons]
      · rw [fget_cons, ih h, fget_cons]
        by_cases h2 : e.1 = j
        · rw [if_pos h2, if_pos h2, if_neg (by rw [← h2]; exact fun h3 => h1 h3.symm)]
        · rw [if_neg h2, if_neg h2]
theorem fget_with (l : Files) (k : Nm) (b : List Int) (j : Nm) : fget (fwith l k b) j = if k = j then some b else fget l j := by
  unfold fwith
  rw [fget_ins (by rw [fget_less]; simp) j]
  by_cases h : k = j
  · simp [h]
  · rw [if_neg h, if_neg h, fget_less, if_neg h]

theorem mem_less {l : Files} {k : Nm} {e : Nm × List Int} : e ∈ fless l k ↔ e ∈ l ∧ e.1 ≠ k := by simp [fless]
theorem mem_ins {k : Nm} {b : List Int} {e : Nm × List Int} : ∀ {l : Files}, e ∈ fins k b l ↔ e = (k, b) ∨ e ∈ l := by
  intro l
  induction l with
  | nil => simp [fins]
  | cons x r ih =>
    unfold fins
    split
    · simp
    · simp only [List.mem_cons, ih]
      constructor
      · rintro (h | h | h)
        · exact .inr (.inl h)
        · exact .inl h
        · exact .inr (.inr h)
      · rintro (h | h | h)
        · exact .inr (.inl h)
        · exact .inl h
        · exact .inr (.inr h)
theorem ins_perm (k : Nm) (b : List Int) : ∀ (l : Files), (fins k b l).Perm ((k, b) :: l)
  | [] => List.Perm.refl _
  | e :: r => by
    unfold fins
    split
    · exact List.Perm.refl _
    · exact ((ins_perm k b r).cons e).trans (List.Perm.swap _ _ _)
theorem with_perm (l : Files) (k : Nm) (b : List Int) : (fwith l k b).Perm ((k, b) :: fless l k) := ins_perm k b _
theorem Rising.less {l : Files} (h : Rising l) (k : Nm) : Rising (fless l k) := h.filter _
theorem Rising.ins {k : Nm} {b : List Int} : ∀ {l : Files}, Rising l → (∀ e ∈ l, e.1 ≠ k) → Rising (fins k b l) := by
  intro l
  induction l with
  | nil => intro _ _; simp [fins, Rising]
  | cons x r ih =>
    intro h hk
    have h2 := List.pairwise_cons.1 h
    unfold fins
    split
    · rename_i hlt
      refine List.pairwise_cons.2 ⟨fun e he => ?_, h⟩
      rcases List.mem_cons.1 he with rfl | he
      · exact hlt
      · exact nm_trans hlt (h2.1 e he)
    · rename_i hlt
      refine List.pairwise_cons.2 ⟨fun e he => ?_, ih h2.2 fun e he => hk e (List.mem_cons_of_mem _ he)⟩
      rcases mem_ins.1 he with rfl | he
      · exact nm_tri (fun h3 => hk x List.mem_cons_self h3.symm) hlt
      · exact h2.1 e he
theorem Rising.with {l : Files} (h : Rising l) (k : Nm) (b : List Int) : Rising (fwith l k b) := (h.less k).ins fun e he => (mem_less.1 he).2
theorem Rising.keys {l : Files} (h : Rising l) : (l.map (·.1)).Nodup := by
  unfold Rising at h
  refine List.pairwise_map.2 (h.imp ?_)
  intro a b hab e
  rw [e] at hab
  exact nm_irrefl _ hab
theorem fget_mem {l : Files} (h : (l.map (·.1)).Nodup) {k : Nm} {b : List Int} : fget l k = some b ↔ (k, b) ∈ l := by
  induction l with
  | nil => simp [fget]
  | cons e r ih =>
    rw [List.map_cons, List.nodup_cons] at h
    rw [fget_cons]
    split
    · rename_i h1
      subst h1
      simp only [Option.some.injEq, List.mem_cons]
      constructor
      · rintro rfl; exact .inl rfl
      · rintro (h2 | h2)
        · rw [← h2]
        · exact absurd (List.mem_map.2 ⟨_, h2, rfl⟩) h.1
    · rename_i h1
      rw [ih h.2, List.mem_cons]
      constructor
      · exact .inr
      · rintro (h2 | h2)
        · rw [← h2] at h1; exact absurd rfl h1
        · exact h2
theorem fget_none {l : Files} {k : Nm} : fget l k = none ↔ ∀ e ∈ l, e.1 ≠ k := by
  induction l with
  | nil => simp [fget]
  | cons e r ih =>
    rw [fget_cons]
    split
    · rename_i h1
      constructor
      · intro h; cases h
      · intro h; exact absurd h1 (h e List.mem_cons_self)
    · rename_i h1
      rw [ih]
      constructor
      · intro h x hx
        rcases List.mem_cons.1 hx with rfl | hx
        · exact h1
        · exact h x hx
      · intro h x hx; exact h x (List.mem_cons_of_mem _ hx)
theorem fget_perm {l l' : Files} (h : (l.map (·.1)).Nodup) (hp : l.Perm l') (k : Nm) : fget l k = fget l' k := by
  have h' : (l'.map (·.1)).Nodup := (hp.map _).nodup_iff.1 h
  cases hg : fget l' k with
  | none =>
    rw [fget_none] at hg ⊢
    exact fun e he => hg e (hp.mem_iff.1 he)
  | some b =>
    rw [fget_mem h'] at hg
    rw [fget_mem h]
    exact hp.mem_iff.2 hg
theorem files_ext {l l' : Files} (h : Rising l) (h' : Rising l') (he : ∀ k, fget l k = fget l' k) : l = l' := by
  have hm : ∀ e, e ∈ l ↔ e ∈ l' := fun e => by rw [← fget_mem h.keys (k := e.1) (b := e.2), he, fget_mem h'.keys]
  have hp : l.Perm l' := by
    refine (List.perm_ext_iff_of_nodup ?_ ?_).2 hm
    · exact h.imp fun {a b} hab e => by rw [e] at hab; exact nm_irrefl _ hab
    · exact h'.imp fun {a b} hab e => by rw [e] at hab; exact nm_irrefl _ hab
  refine List.Perm.eq_of_pairwise (le := fun a b : Nm × List Int => a.1 < b.1) (fun a b _ _ h1 h2 => ?_) h h' hp
  exact absurd (nm_trans h1 h2) (nm_irrefl _)

theorem less_none {l : Files} {k : Nm} (h : fget l k = none) : fless l k = l := by
  rw [fget_none] at h
  exact List.filter_eq_self.2 fun e he => by simpa using h e he
theorem less_perm {l : Files} (h : (l.map (·.1)).Nodup) {k : Nm} {b : List Int} (hg : fget l k = some b) : l.Perm ((k, b) :: fless l k) := by
  induction l with
  | nil => simp [fget] at hg
  | cons e r ih =>
    rw [List.map_cons, List.nodup_cons] at h
    rw [fget_cons] at hg
    split at hg
    · rename_i h1
      subst h1
      cases hg
      have : fless (e :: r) e.1 = r := by
        have h2 : fless (e :: r) e.1 = fless r e.1 := by simp [fless]
        rw [h2]
        exact less_none (fget_none.2 fun x hx h3 => h.1 (List.mem_map.2 ⟨x, hx, h3⟩))
      rw [this]
    · rename_i h1
      have : fless (e :: r) k = e :: fless r k := by simp [fless, h1]
      rw [this]
      exact ((ih h.2 hg).cons e).trans (List.Perm.swap _ _ _)
theorem total_perm {l l' : Files} (h : l.Perm l') : total l = total l' := (h.map (fun e : Nm × List Int => e.2.length)).sum_nat
theorem total_cons (e : Nm × List Int) (l : Files) : total (e :: l) = e.2.length + total l := by simp [total]
theorem total_less {l : Files} (h : Rising l) {k : Nm} {b : List Int} (hg : fget l k = some b) : total l = b.length + total (fless l k) := by
  rw [total_perm (less_perm h.keys hg), total_cons]
theorem total_less_le (l : Files) (k : Nm) : total (fless l k) ≤ total l := by
  induction l with
  | nil => simp [fless]
  | cons e r ih =>
    by_cases h : e.1 = k
    · have : fless (e :: r) k = fless r k := by simp [fless, h]
      rw [this, total_cons]; omega
    · have : fless (e :: r) k = e :: fless r k := by simp [fless, h]
      rw [this, total_cons, total_cons]; omega
theorem total_with (l : Files) (k : Nm) (b : List Int) : total (fwith l k b) = b.length + total (fless l k) := by
  rw [total_perm (with_perm l k b), total_cons]
theorem len_with (l : Files) (k : Nm) (b : List Int) : (fwith l k b).length = (fless l k).length + 1 := by
  rw [(with_perm l k b).length_eq]; rfl
theorem len_less {l : Files} (h : Rising l) {k : Nm} {b : List Int} (hg : fget l k = some b) : l.length = (fless l k).length + 1 := by
  rw [(less_perm h.keys hg).length_eq]; rfl
theorem len_less_le (l : Files) (k : Nm) : (fless l k).length ≤ l.length := List.length_filter_le _ _
theorem get_le_total {l : Files} (h : Rising l) {k : Nm} {b : List Int} (hg : fget l k = some b) : b.length ≤ total l := by
  rw [total_less h hg]; omega

/-! ### acts -/
structure Act where
  kind : Int
  name : Nm
  to_ : Nm
  at_ : Int
  B : List Int
deriving DecidableEq

/-- bytes with some from a place on -/
def wrB (b : List Int) (n : Nat) (B : List Int) : List Int := (b.take n ++ B) ++ b.drop (b.take n ++ B).length
def fgetD (l : Files) (k : Nm) : List Int := (fget l k).getD []
def fdo (l : Files) (a : Act) : Files :=
  if a.kind = 0 then fwith l a.name (wrB (fgetD l a.name) a.at_.toNat a.B)
  else if a.kind = 1 then fwith l a.name ((fgetD l a.name).take a.at_.toNat)
  else if a.kind = 2 then fwith (fless l a.name) a.to_ (fgetD l a.name)
  else fless l a.name

/-- an act that can be done to files -/
structure CanDo (l : Files) (a : Act) : Prop where
  kind : 0 ≤ a.kind ∧ a.kind ≤ 3
  wr : a.kind = 0 → 0 ≤ a.at_ ∧ a.at_ ≤ (fgetD l a.name).length
  tr : a.kind = 1 → 0 ≤ a.at_ ∧ a.at_ ≤ (fgetD l a.name).length ∧ (fget l a.name).isSome
  mv : a.kind = 2 → (fget l a.name).isSome
  dr : a.kind = 3 → (fget l a.name).isSome
  nil : a.kind ≠ 0 → a.B = []
  num : (fdo l a).length ≤ 4096

/-- acts that can be done one behind the other, and what comes of it -/
inductive Runs : Files → List Act → Files → Prop
  | nil {l} : Runs l [] l
  | cons {l a as l'} : CanDo l a → Runs (fdo l a) as l' → Runs l (a :: as) l'

theorem wrB_len (b : List Int) (n : Nat) (B : List Int) : (wrB b n B).length = max (min n b.length + B.length) b.length := by
  simp [wrB]; omega
theorem Rising.fdo {l : Files} (h : Rising l) (a : Act) : Rising (fdo l a) := by
  unfold Go.Proofs.Ytahjgjmemijofaa.fdo
  split
  · exact h.with _ _
  · split
    · exact h.with _ _
    · split
      · exact (h.less _).with _ _
      · exact h.less _
theorem Runs.snoc {l : Files} {as : List Act} {l' : Files} {a : Act} (h : Runs l as l') (hc : CanDo l' a) : Runs l (as ++ [a]) (fdo l' a) := by
  induction h with
  | nil => exact .cons hc .nil
  | cons h1 _ ih => exact .cons h1 (ih hc)
theorem Runs.rising {l : Files} {as : List Act} {l' : Files} (h : Runs l as l') (hr : Rising l) : Rising l' := by
  induction h with
  | nil => exact hr
  | cons _ _ ih => exact ih (hr.fdo _)
theorem Runs.foldl {l : Files} {as : List Act} {l' : Files} (h : Runs l as l') : as.foldl fdo l = l' := by
  induction h with
  | nil => rfl
  | cons _ _ ih => exact ih
theorem Runs.take {l : Files} {as : List Act} {l' : Files} (h : Runs l as l') : ∀ k, Runs l (as.take k) ((as.take k).foldl Go.Proofs.Ytahjgjmemijofaa.fdo l) := by
  induction h with
  | nil => intro k; simpa using Runs.nil
  | @cons l a as l' h1 h2 ih =>
    intro k
    cases k with
    | zero => exact .nil
    | succ k => exact .cons h1 (ih k)
theorem Runs.num {l : Files} {as : List Act} {l' : Files} (h : Runs l as l') (hl : l.length ≤ 4096) : l'.length ≤ 4096 := by
  induction h with
  | nil => exact hl
  | cons h1 _ ih => exact ih h1.num

def costs (as : List Act) : Nat := (as.map fun a => a.B.length).sum
theorem costs_snoc (as : List Act) (a : Act) : costs (as ++ [a]) = costs as + a.B.length := by simp [costs]
theorem fgetD_le {l : Files} (h : Rising l) (k : Nm) : (fgetD l k).length + total (fless l k) = total l := by
  unfold fgetD
  cases hg : fget l k with
  | none => rw [less_none hg]; simp
  | some b => rw [total_less h hg]; rfl
theorem total_do {l : Files} (h : Rising l) {a : Act} (hc : CanDo l a) : total (fdo l a) ≤ total l + a.B.length := by
  have h1 := fgetD_le h a.name
  unfold fdo
  split
  · rename_i hk
    have := hc.wr hk
    rw [total_with, wrB_len]; omega
  · split
    · rw [total_with, List.length_take]; omega
    · split
      · rw [total_with]
        have := total_less_le (fless l a.name) a.to_
        omega
      · omega
theorem Runs.total {l : Files} {as : List Act} {l' : Files} (h : Runs l as l') (hr : Rising l) : total l' ≤ total l + costs as := by
  induction h with
  | nil => simp [costs]
  | @cons l a as l' h1 h2 ih =>
    have h3 := total_do hr h1
    have h4 := ih (hr.fdo a)
    simp only [costs, List.map_cons, List.sum_cons] at h4 ⊢
    omega
end Go.Proofs.Ytahjgjmemijofaa
