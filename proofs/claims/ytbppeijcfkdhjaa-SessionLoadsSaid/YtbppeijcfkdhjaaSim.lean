/- The reference's list is the table's seats by rising numbers: each act keeps it so, and answers alike. No program in sight. -/
import Derived.Test.YtbppeijcfkdhjaaRef4
namespace Go.Proofs.Ytbppeijcfkdhjaa
open Go Eng
set_option linter.unusedVariables false

theorem seat_in {m : SMap} {clk : Nat} (h : TOk m clk) {k : Int} {s : Seat} (hg : mget k m = some s) : s ∈ seatsOf m ∧ s.session = k := by
  obtain ⟨b, hb⟩ := mget_mem hg
  refine ⟨List.mem_map.2 ⟨k, mkeys_mem.2 ⟨_, hb, rfl⟩, by unfold seatAt; rw [hg]; rfl⟩, (h.2.2 _ hb).1⟩

theorem sim_lg {m : SMap} {clk : Nat} (h : TOk m clk) (k : Int) : lg (seatsOf m) k = mget k m := by
  rcases lg_spec (seatsOf m) k with ⟨h1, h2⟩ | ⟨i, s, h1, h2, h3, h4⟩
  · rw [h2]
    cases hg : mget k m with
    | none => rfl
    | some s =>
      obtain ⟨h3, h4⟩ := seat_in h hg
      rcases pl_spec (seatsOf m) k with ⟨_, h5⟩ | ⟨i, _, h5, _⟩
      · exact absurd h4 (h5 s h3)
      · omega
  · rw [h4, ← h3]
    exact (seat_mem h (List.mem_of_getElem? h2)).1.symm

theorem sim_pl {m : SMap} {clk : Nat} (h : TOk m clk) (k : Int) : (0 ≤ pl (seatsOf m) k) ↔ (mget k m).isSome := by
  rw [← sim_lg h k]
  rcases lg_spec (seatsOf m) k with ⟨h1, h2⟩ | ⟨i, s, h1, h2, h3, h4⟩
  · rw [h1, h2]; simp
  · rw [h1, h4]; simp

def insK (a : Int) : List Int → List Int
  | [] => [a]
  | k :: r => if a < k then a :: k :: r else k :: insK a r
theorem insK_perm (a : Int) : ∀ ks : List Int, (insK a ks).Perm (a :: ks) := by
  intro ks
  induction ks with
  | nil => exact List.Perm.refl _
  | cons k r ih =>
    simp only [insK]
    split
    · exact List.Perm.refl _
    · exact (ih.cons k).trans (List.Perm.swap _ _ _)
theorem insK_sorted (a : Int) : ∀ {ks : List Int}, ks.Pairwise (fun x y => decide (x ≤ y) = true) → (insK a ks).Pairwise (fun x y => decide (x ≤ y) = true) := by
  intro ks
  induction ks with
  | nil => intro _; simp [insK]
  | cons k r ih =>
    intro h
    simp only [insK]
    obtain ⟨h1, h2⟩ := List.pairwise_cons.1 h
    split
    · rename_i hk
      refine List.pairwise_cons.2 ⟨fun y hy => ?_, h⟩
      rcases List.mem_cons.1 hy with rfl | hy
      · simp; omega
      · have := h1 y hy
        simp at this ⊢; omega
    · rename_i hk
      refine List.pairwise_cons.2 ⟨fun y hy => ?_, ih h2⟩
      rcases List.mem_cons.1 ((insK_perm a r).mem_iff.1 hy) with rfl | hy
      · simp; omega
      · exact h1 y hy
theorem mkeys_sorted {α : Type} (m : List (Int × α × Nat)) : (mkeys m).Pairwise (fun x y => decide (x ≤ y) = true) := by
  unfold mkeys
  refine List.pairwise_mergeSort ?_ ?_ _
  · intro a b c h1 h2; simp at *; omega
  · intro a b; simp; omega
theorem mkeys_unique {α : Type} {m : List (Int × α × Nat)} {ks : List Int} (hp : ks.Perm (m.map (·.1))) (hs : ks.Pairwise (fun x y => decide (x ≤ y) = true)) : mkeys m = ks := by
  rw [← mkeys_of_perm hp]
  exact List.mergeSort_of_pairwise hs
theorem mkeys_perm {α : Type} (m : List (Int × α × Nat)) : (mkeys m).Perm (m.map (·.1)) := List.mergeSort_perm _ _

theorem insS_map {a : Int} {f g : Int → Seat} (ha : g a = newSeat a) : ∀ {ks : List Int}, (∀ k ∈ ks, (f k).session = k ∧ g k = f k) → insS a (ks.map f) = (insK a ks).map g := by
  intro ks
  induction ks with
  | nil => intro _; simp [insS, insK, ha]
  | cons k r ih =>
    intro h
    obtain ⟨h1, h2⟩ := h k List.mem_cons_self
    have hr := fun x hx => h x (List.mem_cons_of_mem _ hx)
    simp only [List.map_cons, insS, insK, h1]
    split
    · simp only [List.map_cons, ha, h2]
      congr 2
      exact List.map_congr_left fun x hx => (hr x hx).2.symm
    · simp only [List.map_cons, h2, ih hr]

theorem sim_open {m : SMap} {clk : Nat} (h : TOk m clk) (a : Int) : open1 (seatsOf m) a = ((openR m clk a).1, seatsOf (openR m clk a).2.1) := by
  have hl := seats_len m
  have h8 := h.2.1
  have hp := sim_pl h a
  have hs : (0 < (seatAt m a).session) ↔ (mget a m).isSome := by
    cases hg : mget a m with
    | none => simp [seatAt, hg, s0]
    | some s =>
      obtain ⟨b, hb⟩ := mget_mem hg
      obtain ⟨h1, h2, _⟩ := h.2.2 _ hb
      simp only at h1 h2
      simp [seatAt, hg]; omega
  unfold open1 openR
  by_cases hc : a < 1 ∨ 1099511627776 < a ∨ 0 ≤ pl (seatsOf m) a
  · have hc2 : ¬ (1 ≤ a ∧ a ≤ 1099511627776) ∨ 0 < (seatAt m a).session := by rw [hs, ← hp]; omega
    rw [if_pos hc, if_pos hc2]
  · have hno : mget a m = none := by
      cases hg : mget a m with
      | none => rfl
      | some s => exact absurd (hp.2 (by simp [hg])) (by omega)
    have hc2 : ¬ (¬ (1 ≤ a ∧ a ≤ 1099511627776) ∨ 0 < (seatAt m a).session) := by rw [hs, ← hp]; omega
    rw [if_neg hc, if_neg hc2, hl]
    by_cases hf : (m.length : Int) = 8
    · rw [if_pos hf, if_pos (by omega)]
    · rw [if_neg hf, if_neg (by omega)]
      simp only [Prod.mk.injEq, true_and]
      have hk : mkeys (mset a (newSeat a) clk m) = insK a (mkeys m) := by
        refine mkeys_unique ?_ (insK_sorted a (mkeys_sorted m))
        rw [mset_keys, hno]
        simp only [Option.isSome_none, Bool.false_eq_true, if_false]
        refine (insK_perm a _).trans (((mkeys_perm m).cons a).trans ?_)
        exact List.perm_append_comm (l₁ := [a])
      show insS a (seatsOf m) = seatsOf (mset a (newSeat a) clk m)
      unfold seatsOf
      rw [hk]
      refine insS_map ?_ fun k hk2 => ⟨?_, ?_⟩
      · unfold seatAt; rw [mget_mset, if_pos rfl]; rfl
      · obtain ⟨e, he, rfl⟩ := mkeys_mem.1 hk2
        rw [seatAt_mem h.1 he]; exact (h.2.2 e he).1
      · have hne : a ≠ k := by
          intro e
          obtain ⟨x, hx, hx2⟩ := mkeys_mem.1 hk2
          have := mget_none.1 hno
          exact this (List.mem_map.2 ⟨x, hx, by rw [hx2, e]⟩)
        unfold seatAt; rw [mget_mset, if_neg hne]

theorem sim_keep {m : SMap} {clk : Nat} (h : TOk m clk) (k n a : Int) (r : Reply) : keep1 (seatsOf m) k n a r = ((keepR m clk k n a r).1, seatsOf (keepR m clk k n a r).2.1) := by
  unfold keep1 keepR
  rw [ask_eq, sim_lg h k]
  split
  · rfl
  · split
    · rfl
    · rename_i h1 h2
      by_cases hc : ¬ (1 ≤ a ∧ a ≤ 1099511627776) ∨ n > 1099511627776 ∨ checkR r ≠ 0
      · rw [if_pos hc, if_pos (by omega)]
      · rw [if_neg hc, if_neg (by omega)]
        simp only [Prod.mk.injEq, true_and]
        cases hg : mget k m with
        | none => rw [hg] at h1; simp [askO] at h1
        | some s =>
          have hk : mkeys (mset k ⟨k, n, a, r⟩ clk m) = mkeys m := by
            refine mkeys_unique ?_ (mkeys_sorted m)
            rw [mset_keys, hg]
            exact mkeys_perm m
          obtain ⟨i, s', hi, hs, hsk, hlg⟩ : ∃ (i : Nat) (s : Seat), pl (seatsOf m) k = (i : Int) ∧ (seatsOf m)[i]? = some s ∧ s.session = k ∧ lg (seatsOf m) k = some s := by
            rcases lg_spec (seatsOf m) k with h3 | h3
            · rw [sim_lg h k, hg] at h3; cases h3.2
            · exact h3
          have hnd : (mkeys m).Nodup := (mkeys_perm m).nodup_iff.2 h.1.2.2.1
          have hki : (mkeys m)[i]? = some k := by
            unfold seatsOf at hs
            rw [List.getElem?_map] at hs
            cases hk2 : (mkeys m)[i]? with
            | none => rw [hk2] at hs; cases hs
            | some k2 =>
              rw [hk2] at hs
              simp only [Option.map_some, Option.some.injEq] at hs
              obtain ⟨e, he, rfl⟩ := mkeys_mem.1 (List.mem_of_getElem? hk2)
              rw [seatAt_mem h.1 he] at hs
              have h4 := (h.2.2 e he).1
              rw [hs, hsk] at h4
              rw [h4]
          rw [hi, Int.toNat_natCast]
          unfold seatsOf
          rw [hk]
          apply List.ext_getElem?
          intro j
          rw [List.getElem?_set, List.getElem?_map, List.getElem?_map, List.length_map]
          have hil := (List.getElem?_eq_some_iff.1 hki).1
          by_cases hij : i = j
          · subst hij
            rw [if_pos rfl, if_pos hil, hki]
            simp [seatAt, mget_mset]
          · rw [if_neg hij]
            cases hkj : (mkeys m)[j]? with
            | none => rfl
            | some kj =>
              simp only [Option.map_some, Option.some.injEq]
              have hne : k ≠ kj := by
                intro e
                subst e
                obtain ⟨g1, g2⟩ := List.getElem?_eq_some_iff.1 hki
                obtain ⟨g3, g4⟩ := List.getElem?_eq_some_iff.1 hkj
                rcases Nat.lt_or_gt_of_ne hij with h5 | h5
                · exact List.pairwise_iff_getElem.1 hnd i j g1 g3 h5 (g2.trans g4.symm)
                · exact List.pairwise_iff_getElem.1 hnd j i g3 g1 h5 (g4.trans g2.symm)
              unfold seatAt; rw [mget_mset, if_neg hne]
end Go.Proofs.Ytbppeijcfkdhjaa
