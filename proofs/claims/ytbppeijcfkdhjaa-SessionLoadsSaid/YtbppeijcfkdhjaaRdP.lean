/- Numbers as groups of seven bits, read back. No program in sight. -/
import Derived.Test.YtbppeijcfkdhjaaImg
namespace Go.Proofs.Ytbppeijcfkdhjaa
open Go Eng
set_option linter.unusedVariables false

/-- a number read off bytes: what it is, how many bytes it has, the error -/
def rdN : List Int → Nat → Int → Int × Nat × Int
  | [], _, _ => (0, 0, 2)
  | x :: r, i, n => if i = 0 ∧ x = 128 then (0, 0, 10) else if i = 9 then (0, 0, 5) else if x < 128 then (128 * n + x % 128, i + 1, 0) else rdN r (i + 1) (128 * n + x % 128)
def rd (bs : List Int) : Int × Nat × Int := rdN bs 0 0

theorem rdN_hi : ∀ (m : Nat) (i : Nat) (n : Int) (t : List Int), i + (hi m).length ≤ 9 → (i = 0 → n = 0) → rdN (hi m ++ t) i n = rdN t (i + (hi m).length) (n * 128 ^ (hi m).length + m) := by
  intro m
  induction m using Nat.strongRecOn with
  | ind m ih =>
    intro i n t hl hn
    rcases Nat.eq_zero_or_pos m with rfl | h0
    · rw [hi_zero]; simp
    · have hlen : (hi m).length = (hi (m / 128)).length + 1 := by rw [hi_pos h0]; simp
      rw [hlen] at hl ⊢
      rw [hi_pos h0, List.append_assoc, ih (m / 128) (by omega) i n _ (by omega) hn]
      show rdN (((m : Int) % 128 + 128) :: t) _ _ = _
      have h1 : ¬ (i + (hi (m / 128)).length = 0 ∧ (m : Int) % 128 + 128 = 128) := by
        rintro ⟨h1, h2⟩
        have h3 : (hi (m / 128)).length = 0 := by omega
        rcases Nat.eq_zero_or_pos (m / 128) with h4 | h4
        · omega
        · rw [hi_pos h4] at h3; simp at h3
      simp only [rdN]
      rw [if_neg h1, if_neg (by omega), if_neg (by omega)]
      congr 1
      · have e1 : ((m : Int) % 128 + 128) % 128 = (m : Int) % 128 := by omega
        have e2 : ((m / 128 : Nat) : Int) = (m : Int) / 128 := rfl
        rw [e1, e2, Int.pow_succ, ← Int.mul_assoc]
        omega

theorem rd_dg {m : Nat} (h : m < 9223372036854775808) (t : List Int) : rd (dg m ++ t) = ((m : Int), (dg m).length, 0) := by
  have hl := dg_len h
  have hlen : (dg m).length = (hi (m / 128)).length + 1 := by unfold dg; simp
  unfold rd
  unfold dg
  rw [List.append_assoc, rdN_hi (m / 128) 0 0 _ (by omega) (fun _ => rfl)]
  show rdN (((m : Int) % 128) :: t) _ _ = _
  simp only [rdN]
  rw [if_neg (by omega), if_neg (by omega), if_pos (by omega)]
  have e2 : ((m / 128 : Nat) : Int) = (m : Int) / 128 := rfl
  simp only [Int.zero_mul, Int.zero_add, e2, Nat.zero_add, List.length_append, List.length_cons, List.length_nil]
  congr 1
  omega

theorem rdN_ok : ∀ (bs : List Int) (n : Nat), IsB bs → (hi n).length ≤ 9 → n < 128 ^ (hi n).length → ∀ v k, rdN bs (hi n).length n = (v, k, 0) → ∃ j, k = (hi n).length + j ∧ 1 ≤ j ∧ j ≤ bs.length ∧ k ≤ 9 ∧ 0 ≤ v ∧ v.toNat < 128 ^ k ∧ hi n ++ bs.take j = dg v.toNat := by
  intro bs
  induction bs with
  | nil => intro n _ _ _ v k h; simp [rdN] at h
  | cons x r ih =>
    intro n hb hl hn v k h
    have hx := hb x List.mem_cons_self
    simp only [rdN] at h
    split at h
    · simp at h
    · rename_i h1
      split at h
      · simp at h
      · rename_i h2
        split at h
        · rename_i h3
          simp only [Prod.mk.injEq] at h
          obtain ⟨rfl, rfl, _⟩ := h
          refine ⟨1, rfl, Nat.le_refl _, by simp, by omega, by omega, ?_, ?_⟩
          · rw [Nat.pow_succ]; omega
          · have e1 : (128 * (n : Int) + x % 128).toNat = 128 * n + x.toNat := by omega
            rw [e1]
            unfold dg
            have e2 : (128 * n + x.toNat) / 128 = n := by omega
            have e3 : ((128 * n + x.toNat : Nat) : Int) % 128 = x := by omega
            rw [e2, e3]; rfl
        · rename_i h3
          have hpos : 0 < 128 * n + (x % 128).toNat := by
            rcases Nat.eq_zero_or_pos n with h4 | h4
            · subst h4
              rw [hi_zero] at h1
              simp at h1
              omega
            · omega
          have hnx : hi (128 * n + (x % 128).toNat) = hi n ++ [x] := by
            rw [hi_pos hpos]
            have e2 : (128 * n + (x % 128).toNat) / 128 = n := by omega
            have e3 : ((128 * n + (x % 128).toNat : Nat) : Int) % 128 + 128 = x := by omega
            rw [e2, e3]
          have hlx : (hi (128 * n + (x % 128).toNat)).length = (hi n).length + 1 := by rw [hnx]; simp
          have e4 : (128 * (n : Int) + x % 128) = ((128 * n + (x % 128).toNat : Nat) : Int) := by omega
          rw [e4, ← hlx] at h
          obtain ⟨j, g1, g2, g3, g4, g5, g6, g7⟩ := ih (128 * n + (x % 128).toNat) (fun y hy => hb y (List.mem_cons_of_mem _ hy)) (by omega) (by rw [hlx, Nat.pow_succ]; omega) v k h
          refine ⟨j + 1, by omega, by omega, by simp; omega, g4, g5, g6, ?_⟩
          rw [hnx, List.append_assoc] at g7
          exact g7

theorem rd_ok {bs : List Int} (hb : IsB bs) {v : Int} {k : Nat} (h : rd bs = (v, k, 0)) : 1 ≤ k ∧ k ≤ bs.length ∧ 0 ≤ v ∧ v < 9223372036854775808 ∧ bs.take k = dg v.toNat := by
  obtain ⟨j, g1, g2, g3, g4, g5, g6, g7⟩ := rdN_ok bs 0 hb (by rw [hi_zero]; simp) (by rw [hi_zero]; simp) v k (by rw [hi_zero]; exact h)
  rw [hi_zero] at g1 g7
  simp only [List.length_nil, Nat.zero_add] at g1
  subst g1
  have hp : (128 : Nat) ^ k ≤ 128 ^ 9 := Nat.pow_le_pow_right (by decide) g4
  have e9 : (128 : Nat) ^ 9 = 9223372036854775808 := by decide
  exact ⟨g2, g3, g5, by omega, g7⟩
end Go.Proofs.Ytbppeijcfkdhjaa
