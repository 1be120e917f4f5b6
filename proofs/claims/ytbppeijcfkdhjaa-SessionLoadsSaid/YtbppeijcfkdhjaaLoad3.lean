/- The walk of session.Load. -/
import Derived.Test.YtbppeijcfkdhjaaLoad2
namespace Go.Proofs.Ytbppeijcfkdhjaa
open Go Eng
set_option linter.unusedVariables false
set_option maxRecDepth 4000
variable {W0 : World}

theorem LdI.bad {B : List Int} {n : Int} {Ls : List Seat} {k k' : Nat} {m : SMap} {clk : Nat} {xs : List Int} {e : Int} (h : LdI B n Ls k m clk) (hin : (Ls.length : Int) < n) (hr : rdK B k 0 11 = (xs, k', e))
    (hb : e ≠ 0 ∨ (ofN xs).session ≤ lastS Ls ∨ ¬ (1 ≤ (ofN xs).session ∧ (ofN xs).session ≤ 1099511627776) ∨ ¬ (1 ≤ (ofN xs).at_ ∧ (ofN xs).at_ ≤ 1099511627776) ∨ (ofN xs).seq > 1099511627776 ∨ checkR (ofN xs).reply ≠ 0) : ∀ L, Valid L → img L ≠ B := by
  intro L hL hi
  obtain ⟨f1, f2, f3⟩ := h.one L hL hi
  have hlt : Ls.length < L.length := by omega
  have hs : L.drop Ls.length = L[Ls.length]'hlt :: L.drop (Ls.length + 1) := List.drop_eq_getElem_cons hlt
  have hok := hL.2.1 _ (List.getElem_mem hlt)
  have hsok := small_nums hok
  rw [hs, List.flatMap_cons, numB_app] at f3
  have h7 := rdK_img hsok f3
  rw [show (numsOf (L[Ls.length]'hlt)).length = 11 from rfl, hr] at h7
  simp only [Prod.mk.injEq] at h7
  obtain ⟨rfl, rfl, rfl⟩ := h7
  have hof : ofN (numsOf (L[Ls.length]'hlt)) = L[Ls.length]'hlt := rfl
  rw [hof] at hb
  obtain ⟨_, o2, o3, o4, o5, o6, o7, o8, _⟩ := hok
  have hlast : lastS Ls < (L[Ls.length]'hlt).session := by
    rcases List.eq_nil_or_concat Ls with h8 | ⟨ys, y, h8⟩
    · have hl0 : lastS Ls = 0 := by rw [h8]; rfl
      omega
    · have h9 : lastS Ls = y.session := by rw [h8]; simp [lastS]
      rw [h9]
      have hy : y ∈ L.take Ls.length := by rw [← f2, h8]; simp
      have hp := hL.2.2
      rw [← List.take_append_drop Ls.length L, List.pairwise_append] at hp
      exact hp.2.2 y hy _ (by rw [hs]; exact List.mem_cons_self)
  rcases hb with h8 | h8 | h8 | h8 | h8 | h8
  · exact h8 rfl
  · omega
  · omega
  · omega
  · omega
  · exact h8 o8

theorem LdI.finBad {B : List Int} {n : Int} {Ls : List Seat} {k : Nat} {m : SMap} {clk : Nat} (h : LdI B n Ls k m clk) (hk : k ≤ B.length) (hin : ¬ (Ls.length : Int) < n) (hb : k < B.length ∨ 8 < n) : ∀ L, Valid L → img L ≠ B := by
  intro L hL hi
  obtain ⟨f1, f2, f3⟩ := h.one L hL hi
  have h8 := hL.1
  rcases hb with hb | hb
  · have e1 : L.drop Ls.length = [] := List.drop_of_length_le (by omega)
    rw [e1] at f3
    have := congrArg List.length f3
    rw [List.length_drop] at this
    simp [numB] at this
    omega
  · omega

theorem LdI.finOk {B : List Int} {n : Int} {Ls : List Seat} {k : Nat} {m : SMap} {clk : Nat} (h : LdI B n Ls k m clk) (hn : (Ls.length : Int) = n) (hk : k = B.length) (h8 : n ≤ 8) : TOk m clk ∧ img (seatsOf m) = B := by
  have hml : m.length = Ls.length := by rw [← h.seats, seats_len]
  refine ⟨⟨h.mok, by omega, h.mem⟩, ?_⟩
  have hp := h.pre
  rw [hk, List.take_length] at hp
  rw [hp, h.seats]
  unfold img
  congr 2
  omega

theorem case_bad {B : List Int} {n e e3 : Int} {Ls : List Seat} {k : Nat} {m : SMap} {clk : Nat} (hcase : (e = 0 ∧ (Ls.length : Int) ≤ n ∧ LdI B n Ls k m clk) ∨ (e ≠ 0 ∧ n = 0 ∧ Ls = [] ∧ ∀ L, Valid L → img L ≠ B)) (hk : k ≤ B.length) (hin : ¬ (Ls.length : Int) < n)
    (he3 : e3 = if e = 0 ∧ k < B.length then 3 else e) (hb : e3 ≠ 0 ∨ 8 < n) : ∀ L, Valid L → img L ≠ B := by
  rcases hcase with ⟨h1, h2, h3⟩ | ⟨h1, h2, h3, h4⟩
  · rw [h1] at he3
    exact h3.finBad hk hin (by split at he3 <;> omega)
  · exact h4
theorem case_ok {B : List Int} {n e e3 : Int} {Ls : List Seat} {k : Nat} {m : SMap} {clk : Nat} (hcase : (e = 0 ∧ (Ls.length : Int) ≤ n ∧ LdI B n Ls k m clk) ∨ (e ≠ 0 ∧ n = 0 ∧ Ls = [] ∧ ∀ L, Valid L → img L ≠ B)) (hk : k ≤ B.length) (hin : ¬ (Ls.length : Int) < n)
    (he3 : e3 = if e = 0 ∧ k < B.length then 3 else e) (h0 : e3 = 0) (h8 : n ≤ 8) : TOk m clk ∧ img (seatsOf m) = B := by
  rcases hcase with ⟨h1, h2, h3⟩ | ⟨h1, h2, h3, h4⟩
  · rw [h1] at he3
    exact h3.finOk (by omega) (by split at he3 <;> omega) h8
  · rw [if_neg (fun h => h1 h.1)] at he3
    exact absurd (he3 ▸ h0) h1

def LoadP (B : List Int) (R : Heap) (v' : Value) (L' : Heap) : Prop :=
  (∃ t r m clk, v' = .tuple #[ptr t, i64 0] ∧ L' = tC t r :: mC r m clk :: R ∧ TOk m clk ∧ img (seatsOf m) = B) ∨ (v' = .tuple #[.pointer none, i64 83] ∧ L' = R ∧ ∀ L, Valid L → img L ≠ B)

theorem load_ok (v : Value) (B : List Int) (hB : IsB B) (R : Heap) (hv : Rs W0 R v 1 B.length (byteV B)) (hl : B.length ≤ 1048576) :
    FnC W0 Try.prog 24 #[v] R (LoadP B R) := by
  refine fn_of Try.func24 rfl Try.ntmps24 rfl rfl ?_
  refine wc_seq ?_
  refine wc_region ?_
  refine wl rfl (OP.ev rfl rfl (eAs rfl) ?_)
  refine wl rfl (OP.ev rfl rfl (eAs rfl) ?_)
  refine wl_nil ?_
  refine wc_seq ?_
  refine wc_region ?_
  refine wl rfl (OP.ev rfl rfl (eMv rfl) ?_)
  refine wl rfl (oC rfl pf40 rfl (over_ok v B _ hv (by omega)) (by repeat (first | exact Sel.all | exact Sel.none | (apply Sel.one; · repeat (first | exact Pick.h | apply Pick.t | apply Pick.app)) | apply Sel.app | (with_reducible apply Sel.grp; · repeat (first | exact PickF.h | apply PickF.t | apply PickF.a)) | (with_reducible refine Sel.nilF (by with_unfolding_all rfl) ?_) | apply Sel.drop | apply Sel.dropF)) ?_)
  rintro _ _ ⟨b8, b7, w, csB, rfl, hrowB, rfl⟩
  refine wl rfl (OP.ev rfl rfl (eAs rfl) ?_)
  refine wl_nil ?_
  refine wc_seq ?_
  refine wc_region ?_
  refine wl rfl (OP.ev rfl rfl (eMv rfl) ?_)
  refine wl rfl (oC rfl pf41 rfl (snumber_ok b8 b7 0 w csB B 0 hB hrowB (Nat.zero_le _) (by omega) _) (by repeat (first | exact Sel.all | exact Sel.none | (apply Sel.one; · repeat (first | exact Pick.h | apply Pick.t | apply Pick.app)) | apply Sel.app | (with_reducible apply Sel.grp; · repeat (first | exact PickF.h | apply PickF.t | apply PickF.a)) | (with_reducible refine Sel.nilF (by with_unfolding_all rfl) ?_) | apply Sel.drop | apply Sel.dropF)) ?_)
  rintro _ _ ⟨n, k0, e0, hnum0, rfl, rfl⟩
  refine wl rfl (OP.ev rfl rfl (eAs rfl) ?_)
  refine wl_nil ?_
  have hn0 := numK_le hB (Nat.zero_le _) hnum0
  refine wc_seq ?_
  refine wc_region ?_
  refine wl rfl (oC rfl pf18 rfl (new_ok _) (by repeat (first | exact Sel.all | exact Sel.none | (apply Sel.one; · repeat (first | exact Pick.h | apply Pick.t | apply Pick.app)) | apply Sel.app | (with_reducible apply Sel.grp; · repeat (first | exact PickF.h | apply PickF.t | apply PickF.a)) | (with_reducible refine Sel.nilF (by with_unfolding_all rfl) ?_) | apply Sel.drop | apply Sel.dropF)) ?_)
  rintro _ _ ⟨t, r, rfl, rfl⟩
  refine wl rfl (OP.ev rfl rfl (eAs rfl) ?_)
  refine wl_nil ?_
  refine wc_seq ?_
  refine wc_region ?_
  refine wl rfl (OP.ev rfl rfl (eAs rfl) ?_)
  refine wl_nil ?_
  refine wc_seq ?_
  refine wc_seq ?_
  refine wc_region ?_
  refine wl rfl (OP.ev rfl rfl (eAs rfl) ?_)
  refine wl_nil ?_
  refine wc_block ?_
  refine wc_loop (σ := List Seat × Nat × Int × SMap × Nat) (fun q => [(4, ptr b8), (5, i64 n), (6, ptr t), (7, i64 (lastS q.1)), (8, i64 (q.1.length : Int))]) (fun q => tC t r :: mC r q.2.2.2.1 q.2.2.2.2 :: sA b8 b7 q.2.2.1 :: sS b7 w q.2.1 :: (ownH w csB 5 ++ R)) (fun q => q.2.1 ≤ B.length ∧ ((q.2.2.1 = 0 ∧ (q.1.length : Int) ≤ n ∧ LdI B n q.1 q.2.1 q.2.2.2.1 q.2.2.2.2) ∨ (q.2.2.1 ≠ 0 ∧ n = 0 ∧ q.1 = [] ∧ ∀ L, Valid L → img L ≠ B))) (fun q => n.toNat - q.1.length) ([], k0, e0, [], 0) ⟨hn0.2.1, by
    by_cases he : e0 = 0
    · subst he; exact .inl ⟨rfl, by simpa using hn0.2.2.1, LdI.start hB hnum0⟩
    · obtain ⟨g1, g2⟩ := start_bad hnum0 he
      exact .inr ⟨he, g1, rfl, g2⟩⟩ ⟨rfl, rfl, rfl, rfl, rfl, trivial⟩ (by repeat (first | exact Sel.all | exact Sel.none | (apply Sel.one; · repeat (first | exact Pick.h | apply Pick.t | apply Pick.app)) | apply Sel.app | (with_reducible apply Sel.grp; · repeat (first | exact PickF.h | apply PickF.t | apply PickF.a)) | (with_reducible refine Sel.nilF (by with_unfolding_all rfl) ?_) | apply Sel.drop | apply Sel.dropF)) ?_
  rintro ⟨Ls, k, e, m, clk⟩ ⟨hk, hcase⟩
  dsimp only at hk hcase ⊢
  refine wc_seq ?_
  refine wc_seq ?_
  refine wc_region ?_
  refine wl rfl (OP.ev rfl rfl (eMv rfl) ?_)
  refine wl rfl (OP.ev rfl rfl (eMv rfl) ?_)
  refine wl rfl (OP.evb rfl rfl (eLt rfl rfl) fun t17 h17 => ?_)
  refine wl rfl (OP.ev rfl rfl (eMv rfl) ?_)
  cases t17 with
  | true =>
    try have c_t17 := dt h17
    first
    | (exfalso; omega)
    | (
      refine wl_go rfl rfl (OP.ev rfl rfl (eMv rfl) ?_)
      refine wl_go rfl rfl (oC rfl pf42 rfl (serr_ok b8 b7 e _) (by repeat (first | exact Sel.all | exact Sel.none | (apply Sel.one; · repeat (first | exact Pick.h | apply Pick.t | apply Pick.app)) | apply Sel.app | (with_reducible apply Sel.grp; · repeat (first | exact PickF.h | apply PickF.t | apply PickF.a)) | (with_reducible refine Sel.nilF (by with_unfolding_all rfl) ?_) | apply Sel.drop | apply Sel.dropF)) ?_)
      rintro _ _ ⟨rfl, rfl⟩
      refine wl_go rfl rfl (OP.evb rfl rfl (eEq rfl rfl) fun t21 h21 => ?_)
      refine wl rfl (OP.ev rfl rfl (ePk rfl rfl) ?_)
      refine wl_nil ?_
      cases t21 with
      | true =>
        try have c_t21 := dt h21
        first
        | (exfalso; omega)
        | (
          refine wc_then rfl ?_
          refine wc_skip ?_
          refine wc_seq ?_
          refine wc_block ?_
          refine wc_seq ?_
          obtain ⟨he0, hLn, hI⟩ : e = 0 ∧ (Ls.length : Int) ≤ n ∧ LdI B n Ls k m clk := by
            rcases hcase with h | h
            · exact h
            · exact absurd c_t21 h.1
          subst he0
          refine wc_region ?_
          refine wl rfl (OP.ev rfl rfl (eMv rfl) ?_)
          refine wl rfl (oC rfl pf43 rfl (seat_ok b8 b7 0 w csB B k hB hrowB hk (by omega) _) (by repeat (first | exact Sel.all | exact Sel.none | (apply Sel.one; · repeat (first | exact Pick.h | apply Pick.t | apply Pick.app)) | apply Sel.app | (with_reducible apply Sel.grp; · repeat (first | exact PickF.h | apply PickF.t | apply PickF.a)) | (with_reducible refine Sel.nilF (by with_unfolding_all rfl) ?_) | apply Sel.drop | apply Sel.dropF)) ?_)
          rintro _ _ ⟨xs, k2, e2, hrd, hx11, hk1, hk2, rfl, rfl⟩
          refine wl rfl (oAl rfl ty35 rfl fun b9 => ?_)
          refine wl rfl (oStW ty35 rfl rfl rfl rfl (by repeat (first | exact Upd.h | apply Upd.t | apply Upd.app)) (by rfl) ?_)
          refine wl_nil ?_
          refine wc_seq ?_
          refine wc_seq ?_
          refine wc_region ?_
          refine wl rfl (OP.ev rfl rfl (eMv rfl) ?_)
          refine wl rfl (oC rfl pf42 rfl (serr_ok b8 b7 e2 _) (by repeat (first | exact Sel.all | exact Sel.none | (apply Sel.one; · repeat (first | exact Pick.h | apply Pick.t | apply Pick.app)) | apply Sel.app | (with_reducible apply Sel.grp; · repeat (first | exact PickF.h | apply PickF.t | apply PickF.a)) | (with_reducible refine Sel.nilF (by with_unfolding_all rfl) ?_) | apply Sel.drop | apply Sel.dropF)) ?_)
          rintro _ _ ⟨rfl, rfl⟩
          refine wl rfl (OP.evb rfl rfl (eNe rfl rfl) fun t29 h29 => ?_)
          refine wl rfl (OP.ev rfl rfl (eMv rfl) ?_)
          cases t29 with
          | true =>
            try have c_t29 := dt h29
            first
            | (exfalso; omega)
            | (
              refine wl_skip rfl rfl rfl rfl rfl ?_
              refine wl_skip rfl rfl rfl rfl rfl ?_
              refine wl_skip rfl rfl rfl rfl rfl ?_
              refine wl_skip rfl rfl rfl rfl rfl ?_
              refine wl rfl (OP.ev rfl rfl (ePk rfl rfl) ?_)
              refine wl rfl (OP.ev rfl rfl (eMv rfl) ?_)
              refine wl_skip rfl rfl rfl rfl rfl ?_
              refine wl_skip rfl rfl rfl rfl rfl ?_
              refine wl_skip rfl rfl rfl rfl rfl ?_
              refine wl_skip rfl rfl rfl rfl rfl ?_
              refine wl rfl (OP.ev rfl rfl (ePk rfl rfl) ?_)
              refine wl rfl (OP.ev rfl rfl (eMv rfl) ?_)
              refine wl_skip rfl rfl rfl rfl rfl ?_
              refine wl_skip rfl rfl rfl rfl rfl ?_
              refine wl_skip rfl rfl rfl rfl rfl ?_
              refine wl_skip rfl rfl rfl rfl rfl ?_
              refine wl rfl (OP.ev rfl rfl (ePk rfl rfl) ?_)
              refine wl rfl (OP.ev rfl rfl (eMv rfl) ?_)
              refine wl_skip rfl rfl rfl rfl rfl ?_
              refine wl_skip rfl rfl rfl rfl rfl ?_
              refine wl_skip rfl rfl rfl rfl rfl ?_
              refine wl rfl (OP.ev rfl rfl (ePk rfl rfl) ?_)
              refine wl rfl (OP.ev rfl rfl (eMv rfl) ?_)
              refine wl_skip rfl rfl rfl rfl rfl ?_
              refine wl_skip rfl rfl rfl rfl rfl ?_
              refine wl_skip rfl rfl rfl rfl rfl ?_
              refine wl_skip rfl rfl rfl rfl rfl ?_
              refine wl rfl (OP.ev rfl rfl (ePk rfl rfl) ?_)
              refine wl_nil ?_
              refine wc_then rfl ?_
              refine wc_seq ?_
              refine wc_region ?_
              refine wl rfl (OP.ev rfl rfl (eAs rfl) ?_)
              refine wl rfl (OP.ev rfl rfl (eAs rfl) ?_)
              refine wl_nil ?_
              refine wc_ret ?_
              apply at_ret rfl
              · exact (.cons (.tmp rfl) (.cons (.tmp rfl) .nil))
              · first
                | (have hx0 : xs.length = 11 := hx11; exact .inr ⟨rfl, rfl, hI.bad (by omega) hrd (by omega)⟩)
                | exact .inl ⟨t, r, m, clk, rfl, rfl, case_ok hcase hk (by assumption) he3 (by omega) (by omega)⟩
                | exact .inr ⟨rfl, rfl, case_bad hcase hk (by assumption) he3 (.inl c_t69)⟩
                | exact .inr ⟨rfl, rfl, case_bad hcase hk (by assumption) he3 (.inr c_t72)⟩
              · exact (by repeat (first | exact Sel.all | exact Sel.none | (apply Sel.one; · repeat (first | exact Pick.h | apply Pick.t | apply Pick.app)) | apply Sel.app | (with_reducible apply Sel.grp; · repeat (first | exact PickF.h | apply PickF.t | apply PickF.a)) | (with_reducible refine Sel.nilF (by with_unfolding_all rfl) ?_) | apply Sel.drop | apply Sel.dropF)))
          | false =>
            try have c_t29 := df h29
            first
            | (exfalso; omega)
            | (
              refine wl_go rfl rfl (OP.ev rfl rfl (eFld 0 ty35 rfl rfl ty3 rfl) ?_)
              first | refine wl_go rfl rfl (OP.ev rfl rfl (eLd ty3 rfl rfl (by repeat (first | exact Has.h | apply Has.t | apply Has.app)) (by rfl)) ?_) | refine wl_go rfl rfl (OP.ev rfl rfl (eLdO ty3 rfl rfl (by assumption)) ?_)
              refine wl_go rfl rfl (OP.ev rfl rfl (eMv rfl) ?_)
              refine wl_go rfl rfl (OP.evb rfl rfl (eLe rfl rfl) fun t34 h34 => ?_)
              refine wl rfl (OP.ev rfl rfl (ePk rfl rfl) ?_)
              refine wl rfl (OP.ev rfl rfl (eMv rfl) ?_)
              cases t34 with
              | true =>
                try have c_t34 := dt h34
                first
                | (exfalso; omega)
                | (
                  refine wl_skip rfl rfl rfl rfl rfl ?_
                  refine wl_skip rfl rfl rfl rfl rfl ?_
                  refine wl_skip rfl rfl rfl rfl rfl ?_
                  refine wl_skip rfl rfl rfl rfl rfl ?_
                  refine wl rfl (OP.ev rfl rfl (ePk rfl rfl) ?_)
                  refine wl rfl (OP.ev rfl rfl (eMv rfl) ?_)
                  refine wl_skip rfl rfl rfl rfl rfl ?_
                  refine wl_skip rfl rfl rfl rfl rfl ?_
                  refine wl_skip rfl rfl rfl rfl rfl ?_
                  refine wl_skip rfl rfl rfl rfl rfl ?_
                  refine wl rfl (OP.ev rfl rfl (ePk rfl rfl) ?_)
                  refine wl rfl (OP.ev rfl rfl (eMv rfl) ?_)
                  refine wl_skip rfl rfl rfl rfl rfl ?_
                  refine wl_skip rfl rfl rfl rfl rfl ?_
                  refine wl_skip rfl rfl rfl rfl rfl ?_
                  refine wl rfl (OP.ev rfl rfl (ePk rfl rfl) ?_)
                  refine wl rfl (OP.ev rfl rfl (eMv rfl) ?_)
                  refine wl_skip rfl rfl rfl rfl rfl ?_
                  refine wl_skip rfl rfl rfl rfl rfl ?_
                  refine wl_skip rfl rfl rfl rfl rfl ?_
                  refine wl_skip rfl rfl rfl rfl rfl ?_
                  refine wl rfl (OP.ev rfl rfl (ePk rfl rfl) ?_)
                  refine wl_nil ?_
                  refine wc_then rfl ?_
                  refine wc_seq ?_
                  refine wc_region ?_
                  refine wl rfl (OP.ev rfl rfl (eAs rfl) ?_)
                  refine wl rfl (OP.ev rfl rfl (eAs rfl) ?_)
                  refine wl_nil ?_
                  refine wc_ret ?_
                  apply at_ret rfl
                  · exact (.cons (.tmp rfl) (.cons (.tmp rfl) .nil))
                  · first
                    | (have hx0 : xs.length = 11 := hx11; exact .inr ⟨rfl, rfl, hI.bad (by omega) hrd (by omega)⟩)
                    | exact .inl ⟨t, r, m, clk, rfl, rfl, case_ok hcase hk (by assumption) he3 (by omega) (by omega)⟩
                    | exact .inr ⟨rfl, rfl, case_bad hcase hk (by assumption) he3 (.inl c_t69)⟩
                    | exact .inr ⟨rfl, rfl, case_bad hcase hk (by assumption) he3 (.inr c_t72)⟩
                  · exact (by repeat (first | exact Sel.all | exact Sel.none | (apply Sel.one; · repeat (first | exact Pick.h | apply Pick.t | apply Pick.app)) | apply Sel.app | (with_reducible apply Sel.grp; · repeat (first | exact PickF.h | apply PickF.t | apply PickF.a)) | (with_reducible refine Sel.nilF (by with_unfolding_all rfl) ?_) | apply Sel.drop | apply Sel.dropF)))
              | false =>
                try have c_t34 := df h34
                first
                | (exfalso; omega)
                | (
                  refine wl_go rfl rfl (OP.ev rfl rfl (eFld 0 ty35 rfl rfl ty3 rfl) ?_)
                  first | refine wl_go rfl rfl (OP.ev rfl rfl (eLd ty3 rfl rfl (by repeat (first | exact Has.h | apply Has.t | apply Has.app)) (by rfl)) ?_) | refine wl_go rfl rfl (OP.ev rfl rfl (eLdO ty3 rfl rfl (by assumption)) ?_)
                  refine wl_go rfl rfl (oC rfl pf32 rfl (index_ok (ofN xs).session _) (by repeat (first | exact Sel.all | exact Sel.none | (apply Sel.one; · repeat (first | exact Pick.h | apply Pick.t | apply Pick.app)) | apply Sel.app | (with_reducible apply Sel.grp; · repeat (first | exact PickF.h | apply PickF.t | apply PickF.a)) | (with_reducible refine Sel.nilF (by with_unfolding_all rfl) ?_) | apply Sel.drop | apply Sel.dropF)) ?_)
                  rintro _ _ ⟨u1, rfl, hu1, rfl⟩
                  refine wl_go rfl rfl (OP.ev rfl rfl (eNot rfl) ?_)
                  refine wl rfl (OP.ev rfl rfl (ePk rfl rfl) ?_)
                  refine wl rfl (OP.ev rfl rfl (eMv rfl) ?_)
                  cases u1 with
                  | true =>
                    try have c_u1 := dt hu1
                    first
                    | (exfalso; omega)
                    | (
                      refine wl_go rfl rfl (OP.ev rfl rfl (eFld 2 ty35 rfl rfl ty3 rfl) ?_)
                      first | refine wl_go rfl rfl (OP.ev rfl rfl (eLd ty3 rfl rfl (by repeat (first | exact Has.h | apply Has.t | apply Has.app)) (by rfl)) ?_) | refine wl_go rfl rfl (OP.ev rfl rfl (eLdO ty3 rfl rfl (by assumption)) ?_)
                      refine wl_go rfl rfl (oC rfl pf32 rfl (index_ok (ofN xs).at_ _) (by repeat (first | exact Sel.all | exact Sel.none | (apply Sel.one; · repeat (first | exact Pick.h | apply Pick.t | apply Pick.app)) | apply Sel.app | (with_reducible apply Sel.grp; · repeat (first | exact PickF.h | apply PickF.t | apply PickF.a)) | (with_reducible refine Sel.nilF (by with_unfolding_all rfl) ?_) | apply Sel.drop | apply Sel.dropF)) ?_)
                      rintro _ _ ⟨u2, rfl, hu2, rfl⟩
                      refine wl_go rfl rfl (OP.ev rfl rfl (eNot rfl) ?_)
                      refine wl rfl (OP.ev rfl rfl (ePk rfl rfl) ?_)
                      refine wl rfl (OP.ev rfl rfl (eMv rfl) ?_)
                      cases u2 with
                      | true =>
                        try have c_u2 := dt hu2
                        first
                        | (exfalso; omega)
                        | (
                          refine wl_go rfl rfl (OP.ev rfl rfl (eFld 1 ty35 rfl rfl ty3 rfl) ?_)
                          first | refine wl_go rfl rfl (OP.ev rfl rfl (eLd ty3 rfl rfl (by repeat (first | exact Has.h | apply Has.t | apply Has.app)) (by rfl)) ?_) | refine wl_go rfl rfl (OP.ev rfl rfl (eLdO ty3 rfl rfl (by assumption)) ?_)
                          refine wl_go rfl rfl (OP.evb rfl rfl (eGt rfl rfl) fun t51 h51 => ?_)
                          refine wl rfl (OP.ev rfl rfl (ePk rfl rfl) ?_)
                          refine wl rfl (OP.ev rfl rfl (eMv rfl) ?_)
                          cases t51 with
                          | true =>
                            try have c_t51 := dt h51
                            first
                            | (exfalso; omega)
                            | (
                              refine wl_skip rfl rfl rfl rfl rfl ?_
                              refine wl_skip rfl rfl rfl rfl rfl ?_
                              refine wl_skip rfl rfl rfl rfl rfl ?_
                              refine wl_skip rfl rfl rfl rfl rfl ?_
                              refine wl rfl (OP.ev rfl rfl (ePk rfl rfl) ?_)
                              refine wl_nil ?_
                              refine wc_then rfl ?_
                              refine wc_seq ?_
                              refine wc_region ?_
                              refine wl rfl (OP.ev rfl rfl (eAs rfl) ?_)
                              refine wl rfl (OP.ev rfl rfl (eAs rfl) ?_)
                              refine wl_nil ?_
                              refine wc_ret ?_
                              apply at_ret rfl
                              · exact (.cons (.tmp rfl) (.cons (.tmp rfl) .nil))
                              · first
                                | (have hx0 : xs.length = 11 := hx11; exact .inr ⟨rfl, rfl, hI.bad (by omega) hrd (by omega)⟩)
                                | exact .inl ⟨t, r, m, clk, rfl, rfl, case_ok hcase hk (by assumption) he3 (by omega) (by omega)⟩
                                | exact .inr ⟨rfl, rfl, case_bad hcase hk (by assumption) he3 (.inl c_t69)⟩
                                | exact .inr ⟨rfl, rfl, case_bad hcase hk (by assumption) he3 (.inr c_t72)⟩
                              · exact (by repeat (first | exact Sel.all | exact Sel.none | (apply Sel.one; · repeat (first | exact Pick.h | apply Pick.t | apply Pick.app)) | apply Sel.app | (with_reducible apply Sel.grp; · repeat (first | exact PickF.h | apply PickF.t | apply PickF.a)) | (with_reducible refine Sel.nilF (by with_unfolding_all rfl) ?_) | apply Sel.drop | apply Sel.dropF)))
                          | false =>
                            try have c_t51 := df h51
                            first
                            | (exfalso; omega)
                            | (
                              refine wl_go rfl rfl (OP.ev rfl rfl (eFld 3 ty35 rfl rfl ty33 rfl) ?_)
                              first | refine wl_go rfl rfl (OP.ev rfl rfl (eLdW ty33 rfl rfl (by repeat (first | exact Has.h | apply Has.t | apply Has.app)) (by rfl)) ?_) | refine wl_go rfl rfl (OP.ev rfl rfl (eLdA (vs := [_, _, _, _, _, _, _, _]) ty33 rfl rfl (by repeat (first | exact Has.h | apply Has.t | apply Has.app)) (by rfl) (by rfl)) ?_) | refine wl_go rfl rfl (OP.ev rfl rfl (eLdAO ty33 rfl rfl (by assumption) (by assumption)) ?_)
                              refine wl_go rfl rfl (oC rfl pf33 rfl (check_ok (ofN xs).reply _) (by repeat (first | exact Sel.all | exact Sel.none | (apply Sel.one; · repeat (first | exact Pick.h | apply Pick.t | apply Pick.app)) | apply Sel.app | (with_reducible apply Sel.grp; · repeat (first | exact PickF.h | apply PickF.t | apply PickF.a)) | (with_reducible refine Sel.nilF (by with_unfolding_all rfl) ?_) | apply Sel.drop | apply Sel.dropF)) ?_)
                              rintro _ _ ⟨rfl, rfl⟩
                              refine wl_go rfl rfl (OP.evb rfl rfl (eNe rfl rfl) fun t57 h57 => ?_)
                              refine wl rfl (OP.ev rfl rfl (ePk rfl rfl) ?_)
                              refine wl_nil ?_
                              cases t57 with
                              | true =>
                                try have c_t57 := dt h57
                                first
                                | (exfalso; omega)
                                | (
                                  refine wc_then rfl ?_
                                  refine wc_seq ?_
                                  refine wc_region ?_
                                  refine wl rfl (OP.ev rfl rfl (eAs rfl) ?_)
                                  refine wl rfl (OP.ev rfl rfl (eAs rfl) ?_)
                                  refine wl_nil ?_
                                  refine wc_ret ?_
                                  apply at_ret rfl
                                  · exact (.cons (.tmp rfl) (.cons (.tmp rfl) .nil))
                                  · first
                                    | (have hx0 : xs.length = 11 := hx11; exact .inr ⟨rfl, rfl, hI.bad (by omega) hrd (by omega)⟩)
                                    | exact .inl ⟨t, r, m, clk, rfl, rfl, case_ok hcase hk (by assumption) he3 (by omega) (by omega)⟩
                                    | exact .inr ⟨rfl, rfl, case_bad hcase hk (by assumption) he3 (.inl c_t69)⟩
                                    | exact .inr ⟨rfl, rfl, case_bad hcase hk (by assumption) he3 (.inr c_t72)⟩
                                  · exact (by repeat (first | exact Sel.all | exact Sel.none | (apply Sel.one; · repeat (first | exact Pick.h | apply Pick.t | apply Pick.app)) | apply Sel.app | (with_reducible apply Sel.grp; · repeat (first | exact PickF.h | apply PickF.t | apply PickF.a)) | (with_reducible refine Sel.nilF (by with_unfolding_all rfl) ?_) | apply Sel.drop | apply Sel.dropF)))
                              | false =>
                                try have c_t57 := df h57
                                first
                                | (exfalso; omega)
                                | (
                                  refine wc_else rfl ?_
                                  refine wc_skip ?_
                                  refine wc_seq ?_
                                  refine wc_region ?_
                                  refine wl rfl (OP.ev rfl rfl (eFld 0 ty35 rfl rfl ty3 rfl) ?_)
                                  first | refine wl rfl (OP.ev rfl rfl (eLd ty3 rfl rfl (by repeat (first | exact Has.h | apply Has.t | apply Has.app)) (by rfl)) ?_) | refine wl rfl (OP.ev rfl rfl (eLdO ty3 rfl rfl (by assumption)) ?_)
                                  refine wl rfl (OP.ev rfl rfl (eAs rfl) ?_)
                                  refine wl_nil ?_
                                  refine wc_draw [tC t r, (b9, .cells (sC (ofN xs)) 35 (0, 0))] rfl ?_
                                  refine wa_take 0 (by kernel_rfl) rfl rfl rfl rfl (by repeat (first | exact Sel.all | exact Sel.none | (apply Sel.one; · repeat (first | exact Pick.h | apply Pick.t | apply Pick.app)) | apply Sel.app | (with_reducible apply Sel.grp; · repeat (first | exact PickF.h | apply PickF.t | apply PickF.a)) | (with_reducible refine Sel.nilF (by with_unfolding_all rfl) ?_) | apply Sel.drop | apply Sel.dropF)) (eMv rfl) ?_
                                  refine wa_take 1 (by kernel_rfl) rfl rfl rfl rfl (by repeat (first | exact Sel.all | exact Sel.none | (apply Sel.one; · repeat (first | exact Pick.h | apply Pick.t | apply Pick.app)) | apply Sel.app | (with_reducible apply Sel.grp; · repeat (first | exact PickF.h | apply PickF.t | apply PickF.a)) | (with_reducible refine Sel.nilF (by with_unfolding_all rfl) ?_) | apply Sel.drop | apply Sel.dropF)) (eNil rfl) ?_
                                  refine wa_take 2 (by kernel_rfl) rfl rfl rfl rfl (by repeat (first | exact Sel.all | exact Sel.none | (apply Sel.one; · repeat (first | exact Pick.h | apply Pick.t | apply Pick.app)) | apply Sel.app | (with_reducible apply Sel.grp; · repeat (first | exact PickF.h | apply PickF.t | apply PickF.a)) | (with_reducible refine Sel.nilF (by with_unfolding_all rfl) ?_) | apply Sel.drop | apply Sel.dropF)) (eFld 0 ty45 rfl rfl ty43 rfl) ?_
                                  first | refine wa_take 3 (by kernel_rfl) rfl rfl rfl rfl (by repeat (first | exact Sel.all | exact Sel.none | (apply Sel.one; · repeat (first | exact Pick.h | apply Pick.t | apply Pick.app)) | apply Sel.app | (with_reducible apply Sel.grp; · repeat (first | exact PickF.h | apply PickF.t | apply PickF.a)) | (with_reducible refine Sel.nilF (by with_unfolding_all rfl) ?_) | apply Sel.drop | apply Sel.dropF)) (eLd ty43 rfl rfl (by repeat (first | exact Has.h | apply Has.t | apply Has.app)) (by rfl)) ?_ | refine wa_take 3 (by kernel_rfl) rfl rfl rfl rfl (by repeat (first | exact Sel.all | exact Sel.none | (apply Sel.one; · repeat (first | exact Pick.h | apply Pick.t | apply Pick.app)) | apply Sel.app | (with_reducible apply Sel.grp; · repeat (first | exact PickF.h | apply PickF.t | apply PickF.a)) | (with_reducible refine Sel.nilF (by with_unfolding_all rfl) ?_) | apply Sel.drop | apply Sel.dropF)) (eLdO ty43 rfl rfl (by assumption)) ?_
                                  refine wa_take 4 (by kernel_rfl) rfl rfl rfl rfl (by repeat (first | exact Sel.all | exact Sel.none | (apply Sel.one; · repeat (first | exact Pick.h | apply Pick.t | apply Pick.app)) | apply Sel.app | (with_reducible apply Sel.grp; · repeat (first | exact PickF.h | apply PickF.t | apply PickF.a)) | (with_reducible refine Sel.nilF (by with_unfolding_all rfl) ?_) | apply Sel.drop | apply Sel.dropF)) (eMv rfl) ?_
                                  first | refine wa_take 5 (by kernel_rfl) rfl rfl rfl rfl (by repeat (first | exact Sel.all | exact Sel.none | (apply Sel.one; · repeat (first | exact Pick.h | apply Pick.t | apply Pick.app)) | apply Sel.app | (with_reducible apply Sel.grp; · repeat (first | exact PickF.h | apply PickF.t | apply PickF.a)) | (with_reducible refine Sel.nilF (by with_unfolding_all rfl) ?_) | apply Sel.drop | apply Sel.dropF)) (eLdW ty35 rfl rfl (by repeat (first | exact Has.h | apply Has.t | apply Has.app)) (by rfl)) ?_ | refine wa_take 5 (by kernel_rfl) rfl rfl rfl rfl (by repeat (first | exact Sel.all | exact Sel.none | (apply Sel.one; · repeat (first | exact Pick.h | apply Pick.t | apply Pick.app)) | apply Sel.app | (with_reducible apply Sel.grp; · repeat (first | exact PickF.h | apply PickF.t | apply PickF.a)) | (with_reducible refine Sel.nilF (by with_unfolding_all rfl) ?_) | apply Sel.drop | apply Sel.dropF)) (eLdA (vs := [_, _, _, _, _, _, _, _, _, _, _]) ty35 rfl rfl (by repeat (first | exact Has.h | apply Has.t | apply Has.app)) (by rfl) (by rfl)) ?_ | refine wa_take 5 (by kernel_rfl) rfl rfl rfl rfl (by repeat (first | exact Sel.all | exact Sel.none | (apply Sel.one; · repeat (first | exact Pick.h | apply Pick.t | apply Pick.app)) | apply Sel.app | (with_reducible apply Sel.grp; · repeat (first | exact PickF.h | apply PickF.t | apply PickF.a)) | (with_reducible refine Sel.nilF (by with_unfolding_all rfl) ?_) | apply Sel.drop | apply Sel.dropF)) (eLdAO ty35 rfl rfl (by assumption) (by assumption)) ?_
                                  refine wa_all [6] (by kernel_rfl) rfl (wall_one 6 rfl rfl ?_ trivial)
                                  refine oMU (k := (ofN xs).session) (v := ofN xs) ty43 (intKOk ty3) rfl rfl rfl (by repeat (first | exact Upd.h | apply Upd.t | apply Upd.app)) ?_
                                  refine ⟨(by repeat (first | exact Sel.all | exact Sel.none | (apply Sel.one; · repeat (first | exact Pick.h | apply Pick.t | apply Pick.app)) | apply Sel.app | (with_reducible apply Sel.grp; · repeat (first | exact PickF.h | apply PickF.t | apply PickF.a)) | (with_reducible refine Sel.nilF (by with_unfolding_all rfl) ?_) | apply Sel.drop | apply Sel.dropF)), ?_⟩
                                  refine wa_nil (by kernel_rfl) ?_
                                  obtain rfl : e2 = 0 := by omega
                                  have hI2 := hI.step hB hk hl hrd hx11 (by omega) (by omega) (by omega) (by omega) (by omega)
                                  refine wc_region ?_
                                  refine wl rfl (OP.ev rfl rfl (eMv rfl) ?_)
                                  first | refine wl rfl (OP.ev rfl rfl (eAdd rfl rfl (by omega)) ?_) | refine wl rfl (OP.ev rfl rfl (eAddW rfl rfl) ?_)
                                  refine wl rfl (OP.ev rfl rfl (eAs rfl) ?_)
                                  refine wl_nil ?_
                                  exact ⟨(Ls ++ [ofN xs], k2, 0, _, _), ⟨hk2, .inl ⟨rfl, by simp; omega, hI2⟩⟩, by simp; omega, ⟨rfl, rfl, rfl, by rw [lastS_snoc]; rfl, by show some (i64 _) = some (i64 _); congr 2; simp, trivial⟩, (by repeat (first | exact Sel.all | exact Sel.none | (apply Sel.one; · repeat (first | exact Pick.h | apply Pick.t | apply Pick.app)) | apply Sel.app | (with_reducible apply Sel.grp; · repeat (first | exact PickF.h | apply PickF.t | apply PickF.a)) | (with_reducible refine Sel.nilF (by with_unfolding_all rfl) ?_) | apply Sel.drop | apply Sel.dropF))⟩)))
                      | false =>
                        try have c_u2 := df hu2
                        first
                        | (exfalso; omega)
                        | (
                          refine wl_skip rfl rfl rfl rfl rfl ?_
                          refine wl_skip rfl rfl rfl rfl rfl ?_
                          refine wl_skip rfl rfl rfl rfl rfl ?_
                          refine wl rfl (OP.ev rfl rfl (ePk rfl rfl) ?_)
                          refine wl rfl (OP.ev rfl rfl (eMv rfl) ?_)
                          refine wl_skip rfl rfl rfl rfl rfl ?_
                          refine wl_skip rfl rfl rfl rfl rfl ?_
                          refine wl_skip rfl rfl rfl rfl rfl ?_
                          refine wl_skip rfl rfl rfl rfl rfl ?_
                          refine wl rfl (OP.ev rfl rfl (ePk rfl rfl) ?_)
                          refine wl_nil ?_
                          refine wc_then rfl ?_
                          refine wc_seq ?_
                          refine wc_region ?_
                          refine wl rfl (OP.ev rfl rfl (eAs rfl) ?_)
                          refine wl rfl (OP.ev rfl rfl (eAs rfl) ?_)
                          refine wl_nil ?_
                          refine wc_ret ?_
                          apply at_ret rfl
                          · exact (.cons (.tmp rfl) (.cons (.tmp rfl) .nil))
                          · first
                            | (have hx0 : xs.length = 11 := hx11; exact .inr ⟨rfl, rfl, hI.bad (by omega) hrd (by omega)⟩)
                            | exact .inl ⟨t, r, m, clk, rfl, rfl, case_ok hcase hk (by assumption) he3 (by omega) (by omega)⟩
                            | exact .inr ⟨rfl, rfl, case_bad hcase hk (by assumption) he3 (.inl c_t69)⟩
                            | exact .inr ⟨rfl, rfl, case_bad hcase hk (by assumption) he3 (.inr c_t72)⟩
                          · exact (by repeat (first | exact Sel.all | exact Sel.none | (apply Sel.one; · repeat (first | exact Pick.h | apply Pick.t | apply Pick.app)) | apply Sel.app | (with_reducible apply Sel.grp; · repeat (first | exact PickF.h | apply PickF.t | apply PickF.a)) | (with_reducible refine Sel.nilF (by with_unfolding_all rfl) ?_) | apply Sel.drop | apply Sel.dropF))))
                  | false =>
                    try have c_u1 := df hu1
                    first
                    | (exfalso; omega)
                    | (
                      refine wl_skip rfl rfl rfl rfl rfl ?_
                      refine wl_skip rfl rfl rfl rfl rfl ?_
                      refine wl_skip rfl rfl rfl rfl rfl ?_
                      refine wl_skip rfl rfl rfl rfl rfl ?_
                      refine wl rfl (OP.ev rfl rfl (ePk rfl rfl) ?_)
                      refine wl rfl (OP.ev rfl rfl (eMv rfl) ?_)
                      refine wl_skip rfl rfl rfl rfl rfl ?_
                      refine wl_skip rfl rfl rfl rfl rfl ?_
                      refine wl_skip rfl rfl rfl rfl rfl ?_
                      refine wl rfl (OP.ev rfl rfl (ePk rfl rfl) ?_)
                      refine wl rfl (OP.ev rfl rfl (eMv rfl) ?_)
                      refine wl_skip rfl rfl rfl rfl rfl ?_
                      refine wl_skip rfl rfl rfl rfl rfl ?_
                      refine wl_skip rfl rfl rfl rfl rfl ?_
                      refine wl_skip rfl rfl rfl rfl rfl ?_
                      refine wl rfl (OP.ev rfl rfl (ePk rfl rfl) ?_)
                      refine wl_nil ?_
                      refine wc_then rfl ?_
                      refine wc_seq ?_
                      refine wc_region ?_
                      refine wl rfl (OP.ev rfl rfl (eAs rfl) ?_)
                      refine wl rfl (OP.ev rfl rfl (eAs rfl) ?_)
                      refine wl_nil ?_
                      refine wc_ret ?_
                      apply at_ret rfl
                      · exact (.cons (.tmp rfl) (.cons (.tmp rfl) .nil))
                      · first
                        | (have hx0 : xs.length = 11 := hx11; exact .inr ⟨rfl, rfl, hI.bad (by omega) hrd (by omega)⟩)
                        | exact .inl ⟨t, r, m, clk, rfl, rfl, case_ok hcase hk (by assumption) he3 (by omega) (by omega)⟩
                        | exact .inr ⟨rfl, rfl, case_bad hcase hk (by assumption) he3 (.inl c_t69)⟩
                        | exact .inr ⟨rfl, rfl, case_bad hcase hk (by assumption) he3 (.inr c_t72)⟩
                      · exact (by repeat (first | exact Sel.all | exact Sel.none | (apply Sel.one; · repeat (first | exact Pick.h | apply Pick.t | apply Pick.app)) | apply Sel.app | (with_reducible apply Sel.grp; · repeat (first | exact PickF.h | apply PickF.t | apply PickF.a)) | (with_reducible refine Sel.nilF (by with_unfolding_all rfl) ?_) | apply Sel.drop | apply Sel.dropF))))))
      | false =>
        try have c_t21 := df h21
        first
        | (exfalso; omega)
        | (
          refine wc_else rfl ?_
          refine wc_exit rfl ?_
          refine wc_seq ?_
          refine wc_seq ?_
          refine wc_region ?_
          refine wl rfl (OP.ev rfl rfl (eMv rfl) ?_)
          refine wl rfl (oC rfl pf44 rfl (send_ok b8 b7 e w csB B k hrowB hk _) (by repeat (first | exact Sel.all | exact Sel.none | (apply Sel.one; · repeat (first | exact Pick.h | apply Pick.t | apply Pick.app)) | apply Sel.app | (with_reducible apply Sel.grp; · repeat (first | exact PickF.h | apply PickF.t | apply PickF.a)) | (with_reducible refine Sel.nilF (by with_unfolding_all rfl) ?_) | apply Sel.drop | apply Sel.dropF)) ?_)
          rintro _ _ ⟨e3, he3, rfl, rfl⟩
          refine wl rfl (OP.evb rfl rfl (eNe rfl rfl) fun t69 h69 => ?_)
          refine wl rfl (OP.ev rfl rfl (eMv rfl) ?_)
          cases t69 with
          | true =>
            try have c_t69 := dt h69
            first
            | (exfalso; omega)
            | (
              refine wl_skip rfl rfl rfl rfl rfl ?_
              refine wl_skip rfl rfl rfl rfl rfl ?_
              refine wl rfl (OP.ev rfl rfl (ePk rfl rfl) ?_)
              refine wl_nil ?_
              refine wc_then rfl ?_
              refine wc_seq ?_
              refine wc_region ?_
              refine wl rfl (OP.ev rfl rfl (eAs rfl) ?_)
              refine wl rfl (OP.ev rfl rfl (eAs rfl) ?_)
              refine wl_nil ?_
              refine wc_ret ?_
              apply at_ret rfl
              · exact (.cons (.tmp rfl) (.cons (.tmp rfl) .nil))
              · first
                | (have hx0 : xs.length = 11 := hx11; exact .inr ⟨rfl, rfl, hI.bad (by omega) hrd (by omega)⟩)
                | exact .inl ⟨t, r, m, clk, rfl, rfl, case_ok hcase hk (by assumption) he3 (by omega) (by omega)⟩
                | exact .inr ⟨rfl, rfl, case_bad hcase hk (by assumption) he3 (.inl c_t69)⟩
                | exact .inr ⟨rfl, rfl, case_bad hcase hk (by assumption) he3 (.inr c_t72)⟩
              · exact (by repeat (first | exact Sel.all | exact Sel.none | (apply Sel.one; · repeat (first | exact Pick.h | apply Pick.t | apply Pick.app)) | apply Sel.app | (with_reducible apply Sel.grp; · repeat (first | exact PickF.h | apply PickF.t | apply PickF.a)) | (with_reducible refine Sel.nilF (by with_unfolding_all rfl) ?_) | apply Sel.drop | apply Sel.dropF)))
          | false =>
            try have c_t69 := df h69
            first
            | (exfalso; omega)
            | (
              refine wl_go rfl rfl (OP.ev rfl rfl (eMv rfl) ?_)
              refine wl_go rfl rfl (OP.evb rfl rfl (eGt rfl rfl) fun t72 h72 => ?_)
              refine wl rfl (OP.ev rfl rfl (ePk rfl rfl) ?_)
              refine wl_nil ?_
              cases t72 with
              | true =>
                try have c_t72 := dt h72
                first
                | (exfalso; omega)
                | (
                  refine wc_then rfl ?_
                  refine wc_seq ?_
                  refine wc_region ?_
                  refine wl rfl (OP.ev rfl rfl (eAs rfl) ?_)
                  refine wl rfl (OP.ev rfl rfl (eAs rfl) ?_)
                  refine wl_nil ?_
                  refine wc_ret ?_
                  apply at_ret rfl
                  · exact (.cons (.tmp rfl) (.cons (.tmp rfl) .nil))
                  · first
                    | (have hx0 : xs.length = 11 := hx11; exact .inr ⟨rfl, rfl, hI.bad (by omega) hrd (by omega)⟩)
                    | exact .inl ⟨t, r, m, clk, rfl, rfl, case_ok hcase hk (by assumption) he3 (by omega) (by omega)⟩
                    | exact .inr ⟨rfl, rfl, case_bad hcase hk (by assumption) he3 (.inl c_t69)⟩
                    | exact .inr ⟨rfl, rfl, case_bad hcase hk (by assumption) he3 (.inr c_t72)⟩
                  · exact (by repeat (first | exact Sel.all | exact Sel.none | (apply Sel.one; · repeat (first | exact Pick.h | apply Pick.t | apply Pick.app)) | apply Sel.app | (with_reducible apply Sel.grp; · repeat (first | exact PickF.h | apply PickF.t | apply PickF.a)) | (with_reducible refine Sel.nilF (by with_unfolding_all rfl) ?_) | apply Sel.drop | apply Sel.dropF)))
              | false =>
                try have c_t72 := df h72
                first
                | (exfalso; omega)
                | (
                  refine wc_else rfl ?_
                  refine wc_skip ?_
                  refine wc_seq ?_
                  refine wc_region ?_
                  refine wl rfl (OP.ev rfl rfl (eMv rfl) ?_)
                  refine wl rfl (OP.ev rfl rfl (eAs rfl) ?_)
                  refine wl rfl (OP.ev rfl rfl (eAs rfl) ?_)
                  refine wl_nil ?_
                  refine wc_ret ?_
                  apply at_ret rfl
                  · exact (.cons (.tmp rfl) (.cons (.tmp rfl) .nil))
                  · first
                    | (have hx0 : xs.length = 11 := hx11; exact .inr ⟨rfl, rfl, hI.bad (by omega) hrd (by omega)⟩)
                    | exact .inl ⟨t, r, m, clk, rfl, rfl, case_ok hcase hk (by assumption) he3 (by omega) (by omega)⟩
                    | exact .inr ⟨rfl, rfl, case_bad hcase hk (by assumption) he3 (.inl c_t69)⟩
                    | exact .inr ⟨rfl, rfl, case_bad hcase hk (by assumption) he3 (.inr c_t72)⟩
                  · exact (by repeat (first | exact Sel.all | exact Sel.none | (apply Sel.one; · repeat (first | exact Pick.h | apply Pick.t | apply Pick.app)) | apply Sel.app | (with_reducible apply Sel.grp; · repeat (first | exact PickF.h | apply PickF.t | apply PickF.a)) | (with_reducible refine Sel.nilF (by with_unfolding_all rfl) ?_) | apply Sel.drop | apply Sel.dropF))))))
  | false =>
    try have c_t17 := df h17
    first
    | (exfalso; omega)
    | (
      refine wl_skip rfl rfl rfl rfl rfl ?_
      refine wl_skip rfl rfl rfl rfl rfl ?_
      refine wl_skip rfl rfl rfl rfl rfl ?_
      refine wl rfl (OP.ev rfl rfl (ePk rfl rfl) ?_)
      refine wl_nil ?_
      refine wc_else rfl ?_
      refine wc_exit rfl ?_
      refine wc_seq ?_
      refine wc_seq ?_
      refine wc_region ?_
      refine wl rfl (OP.ev rfl rfl (eMv rfl) ?_)
      refine wl rfl (oC rfl pf44 rfl (send_ok b8 b7 e w csB B k hrowB hk _) (by repeat (first | exact Sel.all | exact Sel.none | (apply Sel.one; · repeat (first | exact Pick.h | apply Pick.t | apply Pick.app)) | apply Sel.app | (with_reducible apply Sel.grp; · repeat (first | exact PickF.h | apply PickF.t | apply PickF.a)) | (with_reducible refine Sel.nilF (by with_unfolding_all rfl) ?_) | apply Sel.drop | apply Sel.dropF)) ?_)
      rintro _ _ ⟨e3, he3, rfl, rfl⟩
      refine wl rfl (OP.evb rfl rfl (eNe rfl rfl) fun t69 h69 => ?_)
      refine wl rfl (OP.ev rfl rfl (eMv rfl) ?_)
      cases t69 with
      | true =>
        try have c_t69 := dt h69
        first
        | (exfalso; omega)
        | (
          refine wl_skip rfl rfl rfl rfl rfl ?_
          refine wl_skip rfl rfl rfl rfl rfl ?_
          refine wl rfl (OP.ev rfl rfl (ePk rfl rfl) ?_)
          refine wl_nil ?_
          refine wc_then rfl ?_
          refine wc_seq ?_
          refine wc_region ?_
          refine wl rfl (OP.ev rfl rfl (eAs rfl) ?_)
          refine wl rfl (OP.ev rfl rfl (eAs rfl) ?_)
          refine wl_nil ?_
          refine wc_ret ?_
          apply at_ret rfl
          · exact (.cons (.tmp rfl) (.cons (.tmp rfl) .nil))
          · first
            | (have hx0 : xs.length = 11 := hx11; exact .inr ⟨rfl, rfl, hI.bad (by omega) hrd (by omega)⟩)
            | exact .inl ⟨t, r, m, clk, rfl, rfl, case_ok hcase hk (by assumption) he3 (by omega) (by omega)⟩
            | exact .inr ⟨rfl, rfl, case_bad hcase hk (by assumption) he3 (.inl c_t69)⟩
            | exact .inr ⟨rfl, rfl, case_bad hcase hk (by assumption) he3 (.inr c_t72)⟩
          · exact (by repeat (first | exact Sel.all | exact Sel.none | (apply Sel.one; · repeat (first | exact Pick.h | apply Pick.t | apply Pick.app)) | apply Sel.app | (with_reducible apply Sel.grp; · repeat (first | exact PickF.h | apply PickF.t | apply PickF.a)) | (with_reducible refine Sel.nilF (by with_unfolding_all rfl) ?_) | apply Sel.drop | apply Sel.dropF)))
      | false =>
        try have c_t69 := df h69
        first
        | (exfalso; omega)
        | (
          refine wl_go rfl rfl (OP.ev rfl rfl (eMv rfl) ?_)
          refine wl_go rfl rfl (OP.evb rfl rfl (eGt rfl rfl) fun t72 h72 => ?_)
          refine wl rfl (OP.ev rfl rfl (ePk rfl rfl) ?_)
          refine wl_nil ?_
          cases t72 with
          | true =>
            try have c_t72 := dt h72
            first
            | (exfalso; omega)
            | (
              refine wc_then rfl ?_
              refine wc_seq ?_
              refine wc_region ?_
              refine wl rfl (OP.ev rfl rfl (eAs rfl) ?_)
              refine wl rfl (OP.ev rfl rfl (eAs rfl) ?_)
              refine wl_nil ?_
              refine wc_ret ?_
              apply at_ret rfl
              · exact (.cons (.tmp rfl) (.cons (.tmp rfl) .nil))
              · first
                | (have hx0 : xs.length = 11 := hx11; exact .inr ⟨rfl, rfl, hI.bad (by omega) hrd (by omega)⟩)
                | exact .inl ⟨t, r, m, clk, rfl, rfl, case_ok hcase hk (by assumption) he3 (by omega) (by omega)⟩
                | exact .inr ⟨rfl, rfl, case_bad hcase hk (by assumption) he3 (.inl c_t69)⟩
                | exact .inr ⟨rfl, rfl, case_bad hcase hk (by assumption) he3 (.inr c_t72)⟩
              · exact (by repeat (first | exact Sel.all | exact Sel.none | (apply Sel.one; · repeat (first | exact Pick.h | apply Pick.t | apply Pick.app)) | apply Sel.app | (with_reducible apply Sel.grp; · repeat (first | exact PickF.h | apply PickF.t | apply PickF.a)) | (with_reducible refine Sel.nilF (by with_unfolding_all rfl) ?_) | apply Sel.drop | apply Sel.dropF)))
          | false =>
            try have c_t72 := df h72
            first
            | (exfalso; omega)
            | (
              refine wc_else rfl ?_
              refine wc_skip ?_
              refine wc_seq ?_
              refine wc_region ?_
              refine wl rfl (OP.ev rfl rfl (eMv rfl) ?_)
              refine wl rfl (OP.ev rfl rfl (eAs rfl) ?_)
              refine wl rfl (OP.ev rfl rfl (eAs rfl) ?_)
              refine wl_nil ?_
              refine wc_ret ?_
              apply at_ret rfl
              · exact (.cons (.tmp rfl) (.cons (.tmp rfl) .nil))
              · first
                | (have hx0 : xs.length = 11 := hx11; exact .inr ⟨rfl, rfl, hI.bad (by omega) hrd (by omega)⟩)
                | exact .inl ⟨t, r, m, clk, rfl, rfl, case_ok hcase hk (by assumption) he3 (by omega) (by omega)⟩
                | exact .inr ⟨rfl, rfl, case_bad hcase hk (by assumption) he3 (.inl c_t69)⟩
                | exact .inr ⟨rfl, rfl, case_bad hcase hk (by assumption) he3 (.inr c_t72)⟩
              · exact (by repeat (first | exact Sel.all | exact Sel.none | (apply Sel.one; · repeat (first | exact Pick.h | apply Pick.t | apply Pick.app)) | apply Sel.app | (with_reducible apply Sel.grp; · repeat (first | exact PickF.h | apply PickF.t | apply PickF.a)) | (with_reducible refine Sel.nilF (by with_unfolding_all rfl) ?_) | apply Sel.drop | apply Sel.dropF)))))
end Go.Proofs.Ytbppeijcfkdhjaa
