/- The engine's rules for a range over a map told by a list, and plain facts on such lists. No statement of the seat is proved here. -/
import Derived.Test.YtbppeijcfkdhjaaRise
import Derived.Test.YtbppeijcfkdhjaaOps3
import Derived.Maps.RangeRun
namespace Go.Proofs.Ytbppeijcfkdhjaa.Eng
open Go
set_option linter.unusedVariables false
set_option linter.unusedSimpArgs false

variable {P : Program} {n : Nat} {W0 : World} {l : Env} {L : Heap} {K : Env → Heap → Prop} {o : Oper}
variable {κ α : Type} [DecidableEq κ]

section
variable {d : Nat} {ty : TypeId} {pos : String} {af : Array Edge} {gd : Option (Nat × Bool)} (hdn : Nat.blt d n = true)

omit [DecidableEq κ] in
include hdn in
theorem oRg {t kt e : TypeId} {x : Operand} {a1 a2 : Nat} {z1 : Option Value} {ke : κ → Value} {ve : α → Value} {m : List (κ × α × Nat)} {clk r : Nat}
    (ht : tinf P t = some (.map kt e, a1, a2, z1)) (hx : evo l x = some (.map (some r))) (hm : Has L r (mp ke ve m clk))
    (h : ∀ b, K ((d, .pointer (some ⟨b, 0, none⟩)) :: l) ((b, .mapIter (some r) clk #[] clk) :: L)) : OP P n W0 ⟨some d, .range t x, ty, pos, af, gd⟩ l L K :=
  .val rfl hdn fun a w ha hs => ⟨_, _, _, by
    simp only [execOp, ha.eval hx]
    have := run_range_map (P := P) w t kt e r _ _ (tinf_run ht).1 (hs.get hm)
    simp [this], hs.alloc _, h _⟩

theorem Sep.setBlock {w : World} {b : Nat} {o o' : Obj} {L0 : Heap} (hs : Sep W0 w ((b, o) :: L0)) : Sep W0 (ChangeMaps.setBlock w b o') ((b, o') :: L0) := hs.setObj Upd.h

omit [DecidableEq κ] in
include hdn in
theorem oNx {it : Operand} {ke : κ → Value} {ve : α → Value} {m : List (κ × α × Nat)} {clk r b : Nat} {seen : List Nat} {L0 : Heap}
    (hx : evo l it = some (.pointer (some ⟨b, 0, none⟩))) (hp : Pick L (b, .mapIter (some r) clk seen.toArray clk) L0) (hm : Has L0 r (mp ke ve m clk)) (hold : ∀ e ∈ m, e.2.2 < clk)
    (h0 : (∀ e ∈ m, e.2.2 ∈ seen) → K ((d, .tuple #[.bool false]) :: l) L)
    (h1 : ∀ e ∈ m, e.2.2 ∉ seen → K ((d, .tuple #[.bool true, ke e.1, ve e.2.1]) :: l) ((b, .mapIter (some r) clk (seen ++ [e.2.2]).toArray clk) :: L0)) :
    OP P n W0 ⟨some d, .next it false, ty, pos, af, gd⟩ l L K :=
  .val rfl hdn fun a w ha hs => by
    have hs1 := hs.perm hp.perm
    have hr := hs1.get Has.h
    have hb := hs1.get (Has.t hm)
    rcases run_next_at (P := P) w ty b r clk clk seen.toArray (mpL ke ve m).toArray clk hr hb (by
      intro x hx
      simp only [mpL, List.mem_map] at hx
      obtain ⟨e, he, rfl⟩ := hx
      exact hold e he) (Nat.le_refl _) with ⟨h2, h3⟩ | ⟨e, he, w1, hw1, h3⟩
    · refine ⟨_, w, L, by simp [execOp, ha.eval hx, h3], hs, h0 ?_⟩
      intro e he
      have : leftOf (mpL ke ve m).toArray seen.toArray = #[] := Array.eq_empty_of_size_eq_zero h2
      unfold leftOf at this
      rw [Array.filter_eq_empty_iff] at this
      have := this { key := ke e.1, val := ve e.2.1, born := e.2.2 } (by simp [mpL]; exact ⟨_, _, _, he, rfl, rfl, rfl⟩)
      simpa using this
    · have he2 : e ∈ mpL ke ve m ∧ e.born ∉ seen := by
        unfold leftOf at he
        simp at he
        exact he
      obtain ⟨hm1, hm2⟩ := he2
      simp only [mpL, List.mem_map] at hm1
      obtain ⟨e', he', rfl⟩ := hm1
      have hs2 : Sep W0 w1 ((b, .mapIter (some r) clk seen.toArray clk) :: L0) := by rcases hw1 with rfl | rfl; exact hs1; exact hs1.drew
      refine ⟨_, _, _, by simp [execOp, ha.eval hx, h3]; exact ⟨rfl, rfl⟩, hs2.setBlock, ?_⟩
      have := h1 e' he' hm2
      simpa using this

omit [DecidableEq κ] in
theorem eEn {D : Option Nat} {it : Operand} {ke : κ → Value} {ve : α → Value} {m : List (κ × α × Nat)} {clk r b since : Nat} {seen : List Nat} (e : κ × α × Nat)
    (hx : evo l it = some (.pointer (some ⟨b, 0, none⟩))) (hb : Has L b (.mapIter (some r) since (seen ++ [e.2.2]).toArray clk)) (hm : Has L r (mp ke ve m clk)) (he : e ∈ m) (hn : (m.map (·.2.2)).Nodup) :
    EV P n W0 ⟨D, .entry it, ty, pos, af, gd⟩ l L (.tuple #[ke e.1, ve e.2.1]) :=
  fun a w ha hs => by
    have := run_entry_at (P := P) w b r since seen.toArray (mpL ke ve m).toArray clk { key := ke e.1, val := ve e.2.1, born := e.2.2 } (by rw [hs.get hb]; simp) (hs.get hm) (by simp [mpL]; exact ⟨_, _, _, he, rfl, rfl, rfl⟩) (by simpa [mpL, List.map_map, Function.comp_def] using hn)
    simp [execOp, ha.eval hx, this]

theorem oDel0 {t kt e : TypeId} {x y : Operand} {ts : Array TypeId} {a1 a2 : Nat} {z1 : Option Value} {ke : κ → Value} {ve : α → Value} {m : List (κ × α × Nat)} {clk : Nat} {r : Nat} {k : κ} {L' : Heap}
    (ht : tinf P t = some (.map kt e, a1, a2, z1)) (hts : ts[0]? = some t) (hk : KOk P kt ke) (hx : evo l x = some (.map (some r))) (hy : evo l y = some (ke k))
    (hb : Upd L r (mp ke ve m clk) (mp ke ve (mdel k m) clk) L')
    (h : K l L') : OP P n W0 ⟨none, .call ⟨.builtin .delete, #[x, y], ts⟩, ty, pos, af, gd⟩ l L K :=
  .val0 rfl fun a w ha hs => ⟨.tuple #[], _, L', by
    have := run_delete ht hts hk (hs.get hb.has) k ty
    simp [execOp, resolve, invoke, builtin, ha.eval hx, ha.eval hy, this], hs.setObj hb, h⟩
end

/-! plain facts -/
theorem mdel_filter {k : κ} : ∀ {m : List (κ × α × Nat)}, (m.map (·.1)).Nodup → mdel k m = m.filter (fun e => decide (e.1 ≠ k)) := by
  intro m
  induction m with
  | nil => intro _; rfl
  | cons e r ih =>
    intro h
    simp only [List.map_cons, List.nodup_cons] at h
    simp only [mdel, List.filter_cons]
    by_cases he : e.1 = k
    · simp only [he, if_true, ne_eq, not_true, decide_false, Bool.false_eq_true, if_false]
      symm
      rw [List.filter_eq_self]
      intro x hx
      have : x.1 ≠ e.1 := fun e2 => h.1 (List.mem_map.2 ⟨x, hx, e2⟩)
      simp [← he, this]
    · simp only [he, if_false, ne_eq, not_false_eq_true, decide_true, if_true, ih h.2]

theorem mget_mem {k : κ} {v : α} : ∀ {m : List (κ × α × Nat)}, mget k m = some v → ∃ b, (k, v, b) ∈ m := by
  intro m
  induction m with
  | nil => intro h; simp [mget] at h
  | cons e r ih =>
    intro h
    simp only [mget] at h
    split at h
    · rename_i he; cases h; subst he; exact ⟨e.2.2, List.mem_cons_self⟩
    · obtain ⟨b, hb⟩ := ih h; exact ⟨b, List.mem_cons_of_mem _ hb⟩
theorem mget_of_mem : ∀ {m : List (κ × α × Nat)} {e : κ × α × Nat}, (m.map (·.1)).Nodup → e ∈ m → mget e.1 m = some e.2.1 := by
  intro m
  induction m with
  | nil => intro e _ h; simp at h
  | cons x r ih =>
    intro e hn h
    simp only [List.map_cons, List.nodup_cons] at hn
    simp only [mget]
    cases List.mem_cons.1 h with
    | inl he => subst he; simp
    | inr he =>
      have : x.1 ≠ e.1 := fun e2 => hn.1 (List.mem_map.2 ⟨e, he, e2.symm⟩)
      rw [if_neg this]; exact ih hn.2 he
theorem mget_none {k : κ} : ∀ {m : List (κ × α × Nat)}, mget k m = none ↔ k ∉ m.map (·.1) := by
  intro m
  induction m with
  | nil => simp [mget]
  | cons x r ih =>
    simp only [mget, List.map_cons, List.mem_cons, not_or]
    by_cases h : x.1 = k
    · simp [h]
    · rw [if_neg h, ih]
      exact ⟨fun h2 => ⟨fun e => h e.symm, h2⟩, fun h2 => h2.2⟩
theorem mset_keys (k : κ) (v : α) (clk : Nat) : ∀ (m : List (κ × α × Nat)), (mset k v clk m).map (·.1) = if (mget k m).isSome then m.map (·.1) else m.map (·.1) ++ [k] := by
  intro m
  induction m with
  | nil => simp [mset, mget]
  | cons e r ih =>
    simp only [mset, mget]
    by_cases he : e.1 = k
    · simp [he]
    · simp only [he, if_false, List.map_cons, ih]
      split <;> simp
theorem mset_borns (k : κ) (v : α) (clk : Nat) : ∀ (m : List (κ × α × Nat)), (mset k v clk m).map (·.2.2) = if (mget k m).isSome then m.map (·.2.2) else m.map (·.2.2) ++ [clk] := by
  intro m
  induction m with
  | nil => simp [mset, mget]
  | cons e r ih =>
    simp only [mset, mget]
    by_cases he : e.1 = k
    · simp [he]
    · simp only [he, if_false, List.map_cons, ih]
      split <;> simp
theorem mset_mem {k : κ} {v : α} {clk : Nat} : ∀ {m : List (κ × α × Nat)} {e : κ × α × Nat}, e ∈ mset k v clk m → e ∈ m ∨ (e.1 = k ∧ e.2.1 = v) := by
  intro m
  induction m with
  | nil => intro e h; simp [mset] at h; subst h; exact .inr ⟨rfl, rfl⟩
  | cons x r ih =>
    intro e h
    simp only [mset] at h
    split at h
    · cases List.mem_cons.1 h with
      | inl h => subst h; exact .inr ⟨rfl, rfl⟩
      | inr h => exact .inl (List.mem_cons_of_mem _ h)
    · cases List.mem_cons.1 h with
      | inl h => exact .inl (by rw [h]; exact List.mem_cons_self)
      | inr h => exact (ih h).imp (List.mem_cons_of_mem _) id
theorem mget_mset (k : κ) (v : α) (clk : Nat) (j : κ) : ∀ (m : List (κ × α × Nat)), mget j (mset k v clk m) = if k = j then some v else mget j m := by
  intro m
  induction m with
  | nil => simp [mset, mget]
  | cons e r ih =>
    simp only [mset, mget]
    by_cases he : e.1 = k
    · simp only [he, if_true, mget]
      by_cases hj : k = j <;> simp [hj]
    · simp only [he, if_false, mget, ih]
      by_cases hj : k = j
      · subst hj; simp [he]
      · simp [hj]

omit [DecidableEq κ] in
theorem eq_of_nodup {β γ : Type} {f : γ → β} : ∀ {m : List γ} {x y : γ}, (m.map f).Nodup → x ∈ m → y ∈ m → f x = f y → x = y := by
  intro m
  induction m with
  | nil => intro x y _ h; simp at h
  | cons a r ih =>
    intro x y hn hx hy e
    simp only [List.map_cons, List.nodup_cons] at hn
    cases List.mem_cons.1 hx with
    | inl h1 =>
      cases List.mem_cons.1 hy with
      | inl h2 => rw [h1, h2]
      | inr h2 => subst h1; exact absurd (List.mem_map.2 ⟨y, h2, e.symm⟩) hn.1
    | inr h1 =>
      cases List.mem_cons.1 hy with
      | inl h2 => subst h2; exact absurd (List.mem_map.2 ⟨x, h1, e⟩) hn.1
      | inr h2 => exact ih hn.2 h1 h2 e

theorem MOk.nil {α : Type} (clk : Nat) : MOk ([] : List (Int × α × Nat)) clk := by simp [MOk]
theorem MOk.filter {α : Type} {m : List (Int × α × Nat)} {clk : Nat} (h : MOk m clk) (p : Int × α × Nat → Bool) : MOk (m.filter p) clk := by
  obtain ⟨h1, h2, h3, h4, h5⟩ := h
  refine ⟨fun e he => h1 e (List.mem_filter.1 he).1, h2.sublist (List.filter_sublist.map _), h3.sublist (List.filter_sublist.map _), fun e he => h4 e (List.mem_filter.1 he).1, ?_⟩
  have := List.length_filter_le p m
  omega
theorem MOk.set {α : Type} {m : List (Int × α × Nat)} {clk : Nat} (h : MOk m clk) (k : Int) (v : α) (hk : -9223372036854775808 ≤ k ∧ k < 9223372036854775808) (hl : m.length < 1099511627776) : MOk (mset k v clk m) (mclk k clk m) := by
  obtain ⟨h1, h2, h3, h4, h5⟩ := h
  have hk1 := mset_keys k v clk m
  have hb1 := mset_borns k v clk m
  have hlen : (mset k v clk m).length ≤ m.length + 1 := by
    have := congrArg List.length hk1
    simp only [List.length_map] at this
    rw [this]; split <;> simp
  refine ⟨?_, ?_, ?_, ?_, by omega⟩
  · intro e he
    have hm : e.2.2 ∈ (mset k v clk m).map (·.2.2) := List.mem_map.2 ⟨e, he, rfl⟩
    rw [hb1] at hm
    unfold mclk
    split at hm
    · rename_i hs
      obtain ⟨x, hx, hx2⟩ := List.mem_map.1 hm
      rw [if_pos hs, ← hx2]; exact h1 x hx
    · rename_i hs
      rw [if_neg hs]
      rcases List.mem_append.1 hm with hm | hm
      · obtain ⟨x, hx, hx2⟩ := List.mem_map.1 hm
        have := h1 x hx
        omega
      · simp at hm; omega
  · rw [hb1]
    split
    · exact h2
    · rw [List.nodup_append]
      refine ⟨h2, by simp, ?_⟩
      intro a ha b hb e
      simp at hb
      obtain ⟨x, hx, hx2⟩ := List.mem_map.1 ha
      have := h1 x hx
      omega
  · rw [hk1]
    split
    · exact h3
    · rename_i hs
      rw [List.nodup_append]
      refine ⟨h3, by simp, ?_⟩
      intro a ha b hb e
      simp at hb
      subst hb; subst e
      have : mget a m = none := by cases hg : mget a m with | none => rfl | some v => simp [hg] at hs
      exact (mget_none.1 this) ha
  · intro e he
    rcases mset_mem he with he | ⟨he, _⟩
    · exact h4 e he
    · rw [he]; exact hk

theorem mkeys_mem {α : Type} {m : List (Int × α × Nat)} {k : Int} : k ∈ mkeys m ↔ ∃ e ∈ m, e.1 = k := by simp [mkeys]
theorem mkeys_filter {α : Type} {m : List (Int × α × Nat)} (p : Int × α × Nat → Bool) (q : Int → Bool) (h : ∀ e ∈ m, p e = q e.1) : mkeys (m.filter p) = (mkeys m).filter q := by
  unfold mkeys
  have h1 : (m.filter p).map (·.1) = (m.map (·.1)).filter q := by
    rw [List.filter_map]
    congr 1
    exact List.filter_congr fun e he => h e he
  rw [h1]
  have hp : ((m.map (·.1)).filter q).Perm (((m.map (·.1)).mergeSort (fun x y => decide (x ≤ y))).filter q) := ((List.mergeSort_perm _ _).symm).filter q
  have hsrt : (((m.map (·.1)).mergeSort (fun x y => decide (x ≤ y))).filter q).Pairwise (fun x y => decide (x ≤ y) = true) := by
    refine List.Pairwise.filter _ (List.pairwise_mergeSort ?_ ?_ _)
    · intro a b c h1 h2; simp at *; omega
    · intro a b; simp; omega
  have := mkeys_of_perm (m := (((m.map (·.1)).mergeSort (fun x y => decide (x ≤ y))).filter q).map fun k => (k, (), 0)) (ss := (m.map (·.1)).filter q) (by simpa [List.map_map, Function.comp_def] using hp)
  rw [this]
  unfold mkeys
  simp only [List.map_map, Function.comp_def, List.map_id']
  exact List.mergeSort_of_pairwise hsrt

/-- a map from which those seen that are named have been struck -/
def dl {α : Type} (m : List (Int × α × Nat)) (p : Int × α × Nat → Bool) (seen : List Nat) : List (Int × α × Nat) := m.filter fun e => !(decide (e.2.2 ∈ seen) && p e)
theorem dl_nil {α : Type} (m : List (Int × α × Nat)) (p : Int × α × Nat → Bool) : dl m p [] = m := by simp [dl]
theorem dl_mem {α : Type} {m : List (Int × α × Nat)} {p : Int × α × Nat → Bool} {seen : List Nat} {e : Int × α × Nat} (h : e ∈ dl m p seen) : e ∈ m := (List.mem_filter.1 h).1
theorem dl_stay {α : Type} {m : List (Int × α × Nat)} {clk : Nat} (hm : MOk m clk) {p : Int × α × Nat → Bool} {seen : List Nat} {e : Int × α × Nat} (he : e ∈ dl m p seen) (hp : p e = false) : dl m p seen = dl m p (seen ++ [e.2.2]) := by
  unfold dl
  refine List.filter_congr fun x hx => ?_
  by_cases h : x.2.2 = e.2.2
  · have : x = e := eq_of_nodup hm.2.1 hx (dl_mem he) h
    subst this; simp [hp]
  · simp [h]
theorem dl_del {α : Type} {m : List (Int × α × Nat)} {clk : Nat} (hm : MOk m clk) {p : Int × α × Nat → Bool} {seen : List Nat} {e : Int × α × Nat} (he : e ∈ dl m p seen) (hp : p e = true) : mdel e.1 (dl m p seen) = dl m p (seen ++ [e.2.2]) := by
  rw [mdel_filter (by exact hm.2.2.1.sublist (List.filter_sublist.map _))]
  unfold dl
  rw [List.filter_filter]
  refine List.filter_congr fun x hx => ?_
  by_cases h : x.1 = e.1
  · have : x = e := eq_of_nodup hm.2.2.1 hx (dl_mem he) h
    subst this; simp [hp]
  · have h2 : x.2.2 ≠ e.2.2 := fun h3 => h (by rw [eq_of_nodup hm.2.1 hx (dl_mem he) h3])
    simp [h, h2]
theorem dl_end {α : Type} {m : List (Int × α × Nat)} {p : Int × α × Nat → Bool} {seen : List Nat} (h : ∀ e ∈ dl m p seen, e.2.2 ∈ seen) : dl m p seen = m.filter (fun e => !p e) := by
  unfold dl
  refine List.filter_congr fun x hx => ?_
  by_cases hs : x.2.2 ∈ seen
  · simp [hs]
  · exact absurd (h x (List.mem_filter.2 ⟨hx, by simp [hs]⟩)) hs
/-- how many are still to come -/
def left {α : Type} (m : List (Int × α × Nat)) (seen : List Nat) : Nat := (m.filter fun e => decide (e.2.2 ∉ seen)).length
theorem left_lt {α : Type} {e : Int × α × Nat} {seen : List Nat} : ∀ {m : List (Int × α × Nat)}, e ∈ m → e.2.2 ∉ seen → left m (seen ++ [e.2.2]) < left m seen := by
  have hle : ∀ m : List (Int × α × Nat), left m (seen ++ [e.2.2]) ≤ left m seen := by
    intro m
    induction m with
    | nil => exact Nat.le_refl _
    | cons x r ih =>
      simp only [left, List.filter_cons] at ih ⊢
      by_cases h1 : x.2.2 ∈ seen <;> by_cases h2 : x.2.2 = e.2.2 <;> simp [h1, h2] <;> simp at ih <;> (try split) <;> (try simp only [List.length_cons]) <;> omega
  intro m
  induction m with
  | nil => intro h; simp at h
  | cons x r ih =>
    intro h hs
    have hr := hle r
    simp only [left, List.filter_cons] at ih hr ⊢
    cases List.mem_cons.1 h with
    | inl h => subst h; simp [hs]; simp at hr; omega
    | inr h =>
      have := ih h hs
      by_cases h1 : x.2.2 ∈ seen <;> by_cases h2 : x.2.2 = e.2.2 <;> simp [h1, h2] <;> simp at this hr <;> (try split) <;> (try simp only [List.length_cons]) <;> omega
end Go.Proofs.Ytbppeijcfkdhjaa.Eng
