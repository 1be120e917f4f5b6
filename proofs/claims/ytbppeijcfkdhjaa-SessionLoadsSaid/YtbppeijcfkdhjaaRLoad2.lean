/- The walk of the reference's Load. -/
import Derived.Test.YtbppeijcfkdhjaaRLoad
namespace Go.Proofs.Ytbppeijcfkdhjaa
open Go Eng
set_option linter.unusedVariables false
set_option maxRecDepth 4000
variable {W0 : World}

/-- what the reference has loaded when some seats were read -/
structure RdI (B : List Int) (n : Int) (Ls : List Seat) (k : Nat) (e : Int) : Prop where
  ok : ∀ s ∈ Ls, SeatOk s.session s
  up : Ls.Pairwise (fun a b => a.session < b.session)
  low : ∀ s ∈ Ls, s.session ≤ lastS Ls
  one : ∀ L, Valid L → img L = B → e = 0 ∧ n = L.length ∧ Ls = L.take Ls.length ∧ B.drop k = numB ((L.drop Ls.length).flatMap numsOf)

theorem RdI.start {B : List Int} (hB : IsB B) {n : Int} {k : Nat} {e : Int} (h : numK B 0 0 = (n, k, e)) : RdI B n [] k e := by
  refine ⟨by simp, List.Pairwise.nil, by simp, fun L hL hi => ?_⟩
  by_cases he : e = 0
  · subst he
    have := (LdI.start hB h).one L hL hi
    exact ⟨rfl, this⟩
  · exact absurd hi ((start_bad h he).2 L hL)

theorem RdI.read {B : List Int} {n : Int} {Ls : List Seat} {k k' : Nat} {e e' : Int} {xs : List Int} (h : RdI B n Ls k e) (hin : (Ls.length : Int) < n) (hr : rdK B k e 11 = (xs, k', e')) {L : List Seat} (hL : Valid L) (hi : img L = B) :
    ∃ s, L[Ls.length]? = some s ∧ ofN xs = s ∧ e' = 0 ∧ B.drop k' = numB ((L.drop (Ls.length + 1)).flatMap numsOf) ∧ lastS Ls < s.session ∧ SeatOk s.session s := by
  obtain ⟨f0, f1, f2, f3⟩ := h.one L hL hi
  subst f0
  have hlt : Ls.length < L.length := by omega
  have hs : L.drop Ls.length = L[Ls.length]'hlt :: L.drop (Ls.length + 1) := List.drop_eq_getElem_cons hlt
  have hok := hL.2.1 _ (List.getElem_mem hlt)
  have hsok := small_nums hok
  rw [hs, List.flatMap_cons, numB_app] at f3
  have h7 := rdK_img hsok f3
  rw [show (numsOf (L[Ls.length]'hlt)).length = 11 from rfl, hr] at h7
  simp only [Prod.mk.injEq] at h7
  obtain ⟨rfl, rfl, rfl⟩ := h7
  refine ⟨_, List.getElem?_eq_getElem hlt, rfl, rfl, drop_of f3, ?_, hok⟩
  rcases List.eq_nil_or_concat Ls with h8 | ⟨ys, y, h8⟩
  · have hl0 : lastS Ls = 0 := by rw [h8]; rfl
    have := hok.2.1
    omega
  · have h9 : lastS Ls = y.session := by rw [h8]; simp [lastS]
    rw [h9]
    have hy : y ∈ L.take Ls.length := by rw [← f2, h8]; simp
    have hp := hL.2.2
    rw [← List.take_append_drop Ls.length L, List.pairwise_append] at hp
    exact hp.2.2 y hy _ (by rw [hs]; exact List.mem_cons_self)

theorem RdI.step {B : List Int} {n : Int} {Ls : List Seat} {k k' : Nat} {e e' : Int} {xs : List Int} (h : RdI B n Ls k e) (hin : (Ls.length : Int) < n) (hr : rdK B k e 11 = (xs, k', e'))
    (h1 : lastS Ls < (ofN xs).session) (hok : SeatOk (ofN xs).session (ofN xs)) : RdI B n (Ls ++ [ofN xs]) k' e' := by
  refine ⟨?_, ?_, ?_, fun L hL hi => ?_⟩
  · intro s hs
    rcases List.mem_append.1 hs with hs | hs
    · exact h.ok s hs
    · simp at hs; rw [hs]; exact hok
  · rw [List.pairwise_append]
    refine ⟨h.up, by simp, fun a ha b hb => ?_⟩
    simp at hb; subst hb
    have := h.low a ha
    omega
  · intro s hs
    rw [lastS_snoc]
    rcases List.mem_append.1 hs with hs | hs
    · have := h.low s hs; omega
    · simp at hs; rw [hs]; exact Int.le_refl _
  · obtain ⟨s, g1, g2, g3, g4, _⟩ := h.read hin hr hL hi
    obtain ⟨f0, f1, f2, f3⟩ := h.one L hL hi
    refine ⟨g3, f1, ?_, ?_⟩
    · rw [List.length_append, List.length_singleton, List.take_add_one, ← f2, g1, g2]; rfl
    · rw [List.length_append, List.length_singleton]; exact g4

theorem RdI.bad {B : List Int} {n : Int} {Ls : List Seat} {k k' : Nat} {e e' : Int} {xs : List Int} (h : RdI B n Ls k e) (hin : (Ls.length : Int) < n) (hr : rdK B k e 11 = (xs, k', e'))
    (hb : (ofN xs).session < 1 ∨ (ofN xs).at_ < 1 ∨ (0 < Ls.length ∧ (ofN xs).session ≤ lastS Ls) ∨ (ofN xs).session > 1099511627776 ∨ (ofN xs).seq > 1099511627776 ∨ (ofN xs).at_ > 1099511627776 ∨ checkR (ofN xs).reply ≠ 0) : ∀ L, Valid L → img L ≠ B := by
  intro L hL hi
  obtain ⟨s, g1, g2, g3, g4, g5, o1, o2, o3, o4, o5, o6, o7, o8, _⟩ := h.read hin hr hL hi
  rw [g2] at hb
  rcases hb with hb | hb | hb | hb | hb | hb | hb
  · omega
  · omega
  · omega
  · omega
  · omega
  · omega
  · exact hb o8

theorem RdI.fin {B : List Int} {n : Int} {Ls : List Seat} {k : Nat} {e : Int} (h : RdI B n Ls k e) (hin : ¬ ((Ls.length : Int) < n ∧ (Ls.length : Int) < 9)) (hb : 8 < Ls.length ∨ img Ls ≠ B) : ∀ L, Valid L → img L ≠ B := by
  intro L hL hi
  obtain ⟨f0, f1, f2, f3⟩ := h.one L hL hi
  have h8 := hL.1
  have hle : Ls.length ≤ L.length := by
    have := congrArg List.length f2
    rw [List.length_take] at this
    omega
  rcases hb with hb | hb
  · omega
  · rw [List.take_of_length_le (by omega)] at f2
    rw [f2] at hb
    exact hb hi
end Go.Proofs.Ytbppeijcfkdhjaa
