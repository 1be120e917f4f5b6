/- The walk of SessionBack. -/
import Derived.Test.YtbppeijcfkdhjaaLoad3
import Derived.Test.YtbppeijcfkdhjaaPlays
namespace Go.Proofs.Ytbppeijcfkdhjaa
open Go Eng
set_option linter.unusedVariables false
set_option maxRecDepth 4000
variable {W0 : World}

theorem flatN_inj : ∀ {a b : List Seat}, a.length = b.length → a.flatMap numsOf = b.flatMap numsOf → a = b := by
  intro a
  induction a with
  | nil => intro b h _; exact (List.eq_nil_of_length_eq_zero h.symm).symm
  | cons x a ih =>
    intro b h h2
    cases b with
    | nil => simp at h
    | cons y b =>
      rw [List.flatMap_cons, List.flatMap_cons] at h2
      obtain ⟨h3, h4⟩ := List.append_inj h2 rfl
      have h5 : ofN (numsOf x) = ofN (numsOf y) := by rw [h3]
      have h6 : x = y := h5
      rw [h6, ih (by simpa using h) h4]

theorem img_inj {a b : List Seat} (ha : Valid a) (hb : Valid b) (h : img a = img b) : a = b := by
  have ha8 := ha.1
  have hb8 := hb.1
  have e1 : (img a).drop 0 = dg ((a.length : Int)).toNat ++ numB (a.flatMap numsOf) := rfl
  have e2 : (img a).drop 0 = dg ((b.length : Int)).toNat ++ numB (b.flatMap numsOf) := by rw [h]; rfl
  have h1 := numK_dg e1 (by omega) (by omega)
  have h2 := numK_dg e2 (by omega) (by omega)
  rw [h1] at h2
  simp only [Prod.mk.injEq, and_true] at h2
  have hlen : a.length = b.length := by omega
  have f1 := drop_of e1
  have f2 := drop_of e2
  rw [← h2.2] at f2
  have hall : ∀ {l : List Seat}, Valid l → ∀ x ∈ l.flatMap numsOf, 0 ≤ x ∧ x < 9223372036854775808 := fun hl x hx => by
    obtain ⟨s, hs, hx⟩ := List.mem_flatMap.1 hx
    exact small_nums (hl.2.1 s hs) x hx
  have g1 := rdK_img (t := []) (hall ha) (by rw [List.append_nil]; exact f1)
  have g2 := rdK_img (t := []) (hall hb) (by rw [List.append_nil]; exact f2)
  rw [flatN_len] at g1 g2
  rw [hlen] at g1 g2
  rw [g2] at g1
  simp only [Prod.mk.injEq] at g1
  exact flatN_inj hlen g1.1.symm

theorem valid_of {m : SMap} {clk : Nat} (h : TOk m clk) : Valid (seatsOf m) := by
  refine ⟨by rw [seats_len]; exact h.2.1, fun s hs => (seat_mem h hs).2, ?_⟩
  have hnd : (mkeys m).Nodup := (mkeys_perm m).nodup_iff.2 h.1.2.2.1
  unfold seatsOf
  rw [List.pairwise_map]
  have hp := (mkeys_sorted m).and hnd
  refine hp.imp_of_mem ?_
  intro a b ha hb hab
  obtain ⟨e1, he1, rfl⟩ := mkeys_mem.1 ha
  obtain ⟨e2, he2, rfl⟩ := mkeys_mem.1 hb
  rw [seatAt_mem h.1 he1, seatAt_mem h.1 he2, (h.2.2 e1 he1).1, (h.2.2 e2 he2).1]
  have h1 := of_decide_eq_true hab.1
  have h2 := hab.2
  omega

theorem load_img {m0 : SMap} {clk0 : Nat} (hT : TOk m0 clk0) (v : Value) (R : Heap) (hv : Rs W0 R v 1 (img (seatsOf m0)).length (byteV (img (seatsOf m0)))) :
    FnC W0 Try.prog 24 #[v] R (fun v' L' => ∃ t r m clk, v' = .tuple #[ptr t, i64 0] ∧ L' = tC t r :: mC r m clk :: R ∧ TOk m clk ∧ seatsOf m = seatsOf m0) := by
  have hl : (img (seatsOf m0)).length ≤ 1048576 := by
    have h8 := hT.2.1
    have h1 := dg_len (show (seatsOf m0).length < 9223372036854775808 by rw [seats_len]; omega)
    have h2 : (numB ((seatsOf m0).flatMap numsOf)).length ≤ 9 * ((seatsOf m0).flatMap numsOf).length := numB_len (fun x hx => by
      obtain ⟨s, hs, hx⟩ := List.mem_flatMap.1 hx
      exact small_seats hT s hs x hx)
    rw [flatN_len, seats_len] at h2
    unfold img
    rw [List.length_append]
    omega
  refine (load_ok v (img (seatsOf m0)) (img_isB _) R hv hl).mono ?_
  rintro v' L' (⟨t, r, m, clk, rfl, rfl, hT2, himg⟩ | ⟨rfl, rfl, hno⟩)
  · exact ⟨t, r, m, clk, rfl, rfl, hT2, img_inj (valid_of hT2) (valid_of hT) himg⟩
  · exact absurd rfl (hno _ (valid_of hT))

theorem back_ok (v0 v1 : Value) (l : List Do) (B : List Int) (hv : ∀ L, Rs W0 L v0 12 l.length (dos l)) (hr : ∀ c ∈ l, DoOk c) (hl : l.length ≤ 9223372036854775807) (hv1 : ∀ L, Rs W0 L v1 1 B.length (byteV B)) (hB : IsB B) (hlB : B.length ≤ 9223372036854775807) :
    FnC W0 Try.prog 6 #[v0, v1] [] (fun v' L' => v' = .bool true ∧ L' = []) := by
  refine fn_of Try.func6 rfl Try.ntmps6 rfl rfl ?_
  refine wc_seq ?_
  refine wc_region ?_
  refine wl rfl (OP.ev rfl rfl (eAs rfl) ?_)
  refine wl_nil ?_
  refine wc_seq ?_
  refine wc_seq ?_
  refine wc_region ?_
  refine wl rfl (OP.ev rfl rfl (eMv rfl) ?_)
  refine wl rfl (OP.ev rfl rfl (eLenR ty22 rfl (hv _)) ?_)
  refine wl rfl (OP.evb rfl rfl (eGt rfl rfl) fun t11 h11 => ?_)
  refine wl rfl (OP.ev rfl rfl (eMv rfl) ?_)
  cases t11 with
  | true =>
    try have c_t11 := dt h11
    first
    | (exfalso; omega)
    | (
      refine wl_skip rfl rfl rfl rfl rfl ?_
      refine wl_skip rfl rfl rfl rfl rfl ?_
      refine wl_skip rfl rfl rfl rfl rfl ?_
      refine wl rfl (OP.ev rfl rfl (ePk rfl rfl) ?_)
      refine wl_nil ?_
      refine wc_then rfl ?_
      refine wc_seq ?_
      refine wc_region ?_
      refine wl rfl (oC rfl pf8 rfl (awake_ok _) (by repeat (first | exact Sel.all | exact Sel.none | (apply Sel.one; · repeat (first | exact Pick.h | apply Pick.t | apply Pick.app)) | apply Sel.app | (with_reducible apply Sel.grp; · repeat (first | exact PickF.h | apply PickF.t | apply PickF.a)) | (with_reducible refine Sel.nilF (by with_unfolding_all rfl) ?_) | apply Sel.drop | apply Sel.dropF)) ?_)
      rintro _ _ ⟨rfl, rfl⟩
      refine wl rfl (OP.ev rfl rfl (eAs rfl) ?_)
      refine wl_nil ?_
      refine wc_ret ?_
      apply at_ret rfl
      · exact (.cons (.tmp rfl) .nil)
      · exact ⟨rfl, rfl⟩
      · exact (by repeat (first | exact Sel.all | exact Sel.none | (apply Sel.one; · repeat (first | exact Pick.h | apply Pick.t | apply Pick.app)) | apply Sel.app | (with_reducible apply Sel.grp; · repeat (first | exact PickF.h | apply PickF.t | apply PickF.a)) | (with_reducible refine Sel.nilF (by with_unfolding_all rfl) ?_) | apply Sel.drop | apply Sel.dropF)))
  | false =>
    try have c_t11 := df h11
    first
    | (exfalso; omega)
    | (
      refine wl_go rfl rfl (OP.ev rfl rfl (eMv rfl) ?_)
      refine wl_go rfl rfl (OP.ev rfl rfl (eLenR ty49 rfl (hv1 _)) ?_)
      refine wl_go rfl rfl (OP.evb rfl rfl (eGt rfl rfl) fun t15 h15 => ?_)
      refine wl rfl (OP.ev rfl rfl (ePk rfl rfl) ?_)
      refine wl_nil ?_
      cases t15 with
      | true =>
        try have c_t15 := dt h15
        first
        | (exfalso; omega)
        | (
          refine wc_then rfl ?_
          refine wc_seq ?_
          refine wc_region ?_
          refine wl rfl (oC rfl pf8 rfl (awake_ok _) (by repeat (first | exact Sel.all | exact Sel.none | (apply Sel.one; · repeat (first | exact Pick.h | apply Pick.t | apply Pick.app)) | apply Sel.app | (with_reducible apply Sel.grp; · repeat (first | exact PickF.h | apply PickF.t | apply PickF.a)) | (with_reducible refine Sel.nilF (by with_unfolding_all rfl) ?_) | apply Sel.drop | apply Sel.dropF)) ?_)
          rintro _ _ ⟨rfl, rfl⟩
          refine wl rfl (OP.ev rfl rfl (eAs rfl) ?_)
          refine wl_nil ?_
          refine wc_ret ?_
          apply at_ret rfl
          · exact (.cons (.tmp rfl) .nil)
          · exact ⟨rfl, rfl⟩
          · exact (by repeat (first | exact Sel.all | exact Sel.none | (apply Sel.one; · repeat (first | exact Pick.h | apply Pick.t | apply Pick.app)) | apply Sel.app | (with_reducible apply Sel.grp; · repeat (first | exact PickF.h | apply PickF.t | apply PickF.a)) | (with_reducible refine Sel.nilF (by with_unfolding_all rfl) ?_) | apply Sel.drop | apply Sel.dropF)))
      | false =>
        try have c_t15 := df h15
        first
        | (exfalso; omega)
        | (
          refine wc_else rfl ?_
          refine wc_skip ?_
          refine wc_seq ?_
          refine wc_region ?_
          refine wl rfl (OP.ev rfl rfl (eMv rfl) ?_)
          refine wl rfl (oC rfl pf9 rfl (play_ok v0 l hv hr (by omega) _) (by repeat (first | exact Sel.all | exact Sel.none | (apply Sel.one; · repeat (first | exact Pick.h | apply Pick.t | apply Pick.app)) | apply Sel.app | (with_reducible apply Sel.grp; · repeat (first | exact PickF.h | apply PickF.t | apply PickF.a)) | (with_reducible refine Sel.nilF (by with_unfolding_all rfl) ?_) | apply Sel.drop | apply Sel.dropF)) ?_)
          rintro _ _ ⟨t, r, m, clk, hm, rfl, rfl⟩
          refine wl rfl (OP.ev rfl rfl (eAs rfl) ?_)
          refine wl_nil ?_
          have hT : TOk m clk := by have := TOk.played1 l; rw [← hm] at this; exact this
          have hsl := seats_len m
          have h8 := hT.2.1
          refine wc_seq ?_
          refine wc_region ?_
          refine wl rfl (OP.ev rfl rfl (eMv rfl) ?_)
          refine wl rfl (oC rfl pf16 rfl (image_ok t r m clk hT _) (by repeat (first | exact Sel.all | exact Sel.none | (apply Sel.one; · repeat (first | exact Pick.h | apply Pick.t | apply Pick.app)) | apply Sel.app | (with_reducible apply Sel.grp; · repeat (first | exact PickF.h | apply PickF.t | apply PickF.a)) | (with_reducible refine Sel.nilF (by with_unfolding_all rfl) ?_) | apply Sel.drop | apply Sel.dropF)) ?_)
          rintro v22 _ ⟨cs22, hrow22, rfl⟩
          refine wl rfl (oC (L1 := _) rfl pf24 rfl (load_img hT _ _ (hrow22.rs (by repeat (first | exact At.cell | exact At.h | apply At.t | apply At.a)))) Sel.all ?_)
          rintro _ _ ⟨t1, r1, m1, clk1, rfl, rfl, hT1, hss⟩
          refine wl rfl (OP.ev rfl rfl (eMv rfl) ?_)
          refine wl rfl (OP.ev rfl rfl (eExt rfl rfl) ?_)
          refine wl rfl (OP.ev rfl rfl (eExt rfl rfl) ?_)
          refine wl rfl (OP.ev rfl rfl (eAs rfl) ?_)
          refine wl rfl (OP.ev rfl rfl (eAs rfl) ?_)
          refine wl_nil ?_
          refine wc_seq ?_
          refine wc_seq ?_
          refine wc_region ?_
          refine wl rfl (OP.ev rfl rfl (eMv rfl) ?_)
          refine wl rfl (OP.evb rfl rfl (eNe rfl rfl) fun t27 h27 => ?_)
          refine wl rfl (OP.ev rfl rfl (eMv rfl) ?_)
          cases t27 with
          | true =>
            try have c_t27 := dt h27
            first
            | (exfalso; omega)
            | (
              refine wl_skip rfl rfl rfl rfl rfl ?_
              refine wl_skip rfl rfl rfl rfl rfl ?_
              refine wl_skip rfl rfl rfl rfl rfl ?_
              refine wl_skip rfl rfl rfl rfl rfl ?_
              refine wl_skip rfl rfl rfl rfl rfl ?_
              refine wl_skip rfl rfl rfl rfl rfl ?_
              refine wl rfl (OP.ev rfl rfl (ePk rfl rfl) ?_)
              refine wl_nil ?_
              refine wc_then rfl ?_
              refine wc_seq ?_
              refine wc_region ?_
              refine wl rfl (OP.ev rfl rfl (eAs rfl) ?_)
              refine wl_nil ?_
              refine wc_ret ?_
              apply at_ret rfl
              · exact (.cons (.tmp rfl) .nil)
              · exact ⟨rfl, rfl⟩
              · exact (by repeat (first | exact Sel.all | exact Sel.none | (apply Sel.one; · repeat (first | exact Pick.h | apply Pick.t | apply Pick.app)) | apply Sel.app | (with_reducible apply Sel.grp; · repeat (first | exact PickF.h | apply PickF.t | apply PickF.a)) | (with_reducible refine Sel.nilF (by with_unfolding_all rfl) ?_) | apply Sel.drop | apply Sel.dropF)))
          | false =>
            try have c_t27 := df h27
            first
            | (exfalso; omega)
            | (
              refine wl_go rfl rfl (OP.ev rfl rfl (eMv rfl) ?_)
              refine wl_go rfl rfl (oC rfl pf10 rfl (seats_ok t r m clk hT.1 _) (by repeat (first | exact Sel.all | exact Sel.none | (apply Sel.one; · repeat (first | exact Pick.h | apply Pick.t | apply Pick.app)) | apply Sel.app | (with_reducible apply Sel.grp; · repeat (first | exact PickF.h | apply PickF.t | apply PickF.a)) | (with_reducible refine Sel.nilF (by with_unfolding_all rfl) ?_) | apply Sel.drop | apply Sel.dropF)) ?_)
              rintro v30 _ ⟨cs30, hrow30, rfl⟩
              refine wl_go rfl rfl (OP.ev rfl rfl (eMv rfl) ?_)
              refine wl_go rfl rfl (oC rfl pf10 rfl (seats_ok t1 r1 m1 clk1 hT1.1 _) (by repeat (first | exact Sel.all | exact Sel.none | (apply Sel.one; · repeat (first | exact Pick.h | apply Pick.t | apply Pick.app)) | apply Sel.app | (with_reducible apply Sel.grp; · repeat (first | exact PickF.h | apply PickF.t | apply PickF.a)) | (with_reducible refine Sel.nilF (by with_unfolding_all rfl) ?_) | apply Sel.drop | apply Sel.dropF)) ?_)
              rintro v32 _ ⟨cs32, hrow32, rfl⟩
              rw [hss] at hrow32
              refine wl_go rfl rfl (oC (L1 := _) rfl pf13 rfl (equal_same _ _ (seatsOf m) _ (hrow30.rs (by repeat (first | exact At.cell | exact At.h | apply At.t | apply At.a))) (hrow32.rs (by repeat (first | exact At.cell | exact At.h | apply At.t | apply At.a))) (by omega)) Sel.all ?_)
              rintro _ _ ⟨rfl, rfl⟩
              refine wl_go rfl rfl (OP.ev rfl rfl (eNot rfl) ?_)
              refine wl rfl (OP.ev rfl rfl (ePk rfl rfl) ?_)
              refine wl_nil ?_
              refine wc_else rfl ?_
              refine wc_skip ?_
              refine wc_seq ?_
              refine wc_region ?_
              refine wl rfl (OP.ev rfl rfl (eMv rfl) ?_)
              refine wl rfl (oC (L1 := _) rfl pf24 rfl (load_ok _ B hB _ (hv1 _) (by omega)) Sel.all ?_)
              rintro _ _ (⟨t2, r2, m2, clk2, rfl, rfl, hT2, himg⟩ | ⟨rfl, rfl, hno⟩)
              · refine wl rfl (OP.ev rfl rfl (eMv rfl) ?_)
                refine wl rfl (OP.ev rfl rfl (eExt rfl rfl) ?_)
                refine wl rfl (OP.ev rfl rfl (eExt rfl rfl) ?_)
                refine wl rfl (OP.ev rfl rfl (eAs rfl) ?_)
                refine wl rfl (OP.ev rfl rfl (eAs rfl) ?_)
                refine wl_nil ?_
                refine wc_seq ?_
                refine wc_seq ?_
                refine wc_region ?_
                refine wl rfl (OP.ev rfl rfl (eMv rfl) ?_)
                refine wl rfl (OP.evb rfl rfl (eNe rfl rfl) fun t42 h42 => ?_)
                refine wl_nil ?_
                cases t42 with
                | true =>
                  try have c_t42 := dt h42
                  first
                  | (exfalso; omega)
                  | (
                    refine wc_then rfl ?_
                    refine wc_seq ?_
                    refine wc_region ?_
                    refine wl rfl (OP.ev rfl rfl (eMv rfl) ?_)
                    first | refine wl rfl (OP.ev rfl rfl (eEqP0 rfl rfl ty24) ?_) | refine wl rfl (OP.ev rfl rfl (eEqP1 rfl rfl ty24) ?_)
                    refine wl rfl (OP.ev rfl rfl (eMv rfl) ?_)
                    refine wl_go rfl rfl (OP.ev rfl rfl (eMv rfl) ?_)
                    refine wl_go rfl rfl (OP.evb rfl rfl (eEq rfl rfl) fun t47 h47 => ?_)
                    refine wl rfl (OP.ev rfl rfl (ePk rfl rfl) ?_)
                    refine wl rfl (OP.ev rfl rfl (eMv rfl) ?_)
                    cases t47 with
                    | true =>
                      try have c_t47 := dt h47
                      first
                      | (exfalso; omega)
                      | (
                        refine wl_go rfl rfl (oC rfl pf8 rfl (awake_ok _) (by repeat (first | exact Sel.all | exact Sel.none | (apply Sel.one; · repeat (first | exact Pick.h | apply Pick.t | apply Pick.app)) | apply Sel.app | (with_reducible apply Sel.grp; · repeat (first | exact PickF.h | apply PickF.t | apply PickF.a)) | (with_reducible refine Sel.nilF (by with_unfolding_all rfl) ?_) | apply Sel.drop | apply Sel.dropF)) ?_)
                        rintro _ _ ⟨rfl, rfl⟩
                        refine wl rfl (OP.ev rfl rfl (ePk rfl rfl) ?_)
                        refine wl rfl (OP.ev rfl rfl (eAs rfl) ?_)
                        refine wl_nil ?_
                        refine wc_ret ?_
                        apply at_ret rfl
                        · exact (.cons (.tmp rfl) .nil)
                        · exact ⟨rfl, rfl⟩
                        · exact (by repeat (first | exact Sel.all | exact Sel.none | (apply Sel.one; · repeat (first | exact Pick.h | apply Pick.t | apply Pick.app)) | apply Sel.app | (with_reducible apply Sel.grp; · repeat (first | exact PickF.h | apply PickF.t | apply PickF.a)) | (with_reducible refine Sel.nilF (by with_unfolding_all rfl) ?_) | apply Sel.drop | apply Sel.dropF)))
                    | false =>
                      try have c_t47 := df h47
                      first
                      | (exfalso; omega)
                      | (
                        refine wl_skip rfl rfl rfl rfl rfl ?_
                        refine wl rfl (OP.ev rfl rfl (ePk rfl rfl) ?_)
                        refine wl rfl (OP.ev rfl rfl (eAs rfl) ?_)
                        refine wl_nil ?_
                        refine wc_ret ?_
                        apply at_ret rfl
                        · exact (.cons (.tmp rfl) .nil)
                        · exact ⟨rfl, rfl⟩
                        · exact (by repeat (first | exact Sel.all | exact Sel.none | (apply Sel.one; · repeat (first | exact Pick.h | apply Pick.t | apply Pick.app)) | apply Sel.app | (with_reducible apply Sel.grp; · repeat (first | exact PickF.h | apply PickF.t | apply PickF.a)) | (with_reducible refine Sel.nilF (by with_unfolding_all rfl) ?_) | apply Sel.drop | apply Sel.dropF))))
                | false =>
                  try have c_t42 := df h42
                  first
                  | (exfalso; omega)
                  | (
                    refine wc_else rfl ?_
                    refine wc_skip ?_
                    refine wc_seq ?_
                    refine wc_region ?_
                    refine wl rfl (OP.ev rfl rfl (eMv rfl) ?_)
                    refine wl rfl (oC rfl pf16 rfl (image_ok t2 r2 m2 clk2 hT2 _) (by repeat (first | exact Sel.all | exact Sel.none | (apply Sel.one; · repeat (first | exact Pick.h | apply Pick.t | apply Pick.app)) | apply Sel.app | (with_reducible apply Sel.grp; · repeat (first | exact PickF.h | apply PickF.t | apply PickF.a)) | (with_reducible refine Sel.nilF (by with_unfolding_all rfl) ?_) | apply Sel.drop | apply Sel.dropF)) ?_)
                    rintro v53 _ ⟨cs53, hrow53, rfl⟩
                    refine wl rfl (OP.ev rfl rfl (eMv rfl) ?_)
                    rw [himg] at hrow53
                    refine wl rfl (oC (L1 := _) rfl pf25 rfl (beq_same _ _ B _ (hrow53.rs (by repeat (first | exact At.cell | exact At.h | apply At.t | apply At.a))) (hv1 _) hB) Sel.all ?_)
                    rintro _ _ ⟨rfl, rfl⟩
                    refine wl rfl (OP.ev rfl rfl (eMv rfl) ?_)
                    refine wl_go rfl rfl (oC rfl pf8 rfl (awake_ok _) (by repeat (first | exact Sel.all | exact Sel.none | (apply Sel.one; · repeat (first | exact Pick.h | apply Pick.t | apply Pick.app)) | apply Sel.app | (with_reducible apply Sel.grp; · repeat (first | exact PickF.h | apply PickF.t | apply PickF.a)) | (with_reducible refine Sel.nilF (by with_unfolding_all rfl) ?_) | apply Sel.drop | apply Sel.dropF)) ?_)
                    rintro _ _ ⟨rfl, rfl⟩
                    refine wl rfl (OP.ev rfl rfl (ePk rfl rfl) ?_)
                    refine wl rfl (OP.ev rfl rfl (eAs rfl) ?_)
                    refine wl_nil ?_
                    refine wc_ret ?_
                    apply at_ret rfl
                    · exact (.cons (.tmp rfl) .nil)
                    · exact ⟨rfl, rfl⟩
                    · exact (by repeat (first | exact Sel.all | exact Sel.none | (apply Sel.one; · repeat (first | exact Pick.h | apply Pick.t | apply Pick.app)) | apply Sel.app | (with_reducible apply Sel.grp; · repeat (first | exact PickF.h | apply PickF.t | apply PickF.a)) | (with_reducible refine Sel.nilF (by with_unfolding_all rfl) ?_) | apply Sel.drop | apply Sel.dropF)))
              · refine wl rfl (OP.ev rfl rfl (eMv rfl) ?_)
                refine wl rfl (OP.ev rfl rfl (eExt rfl rfl) ?_)
                refine wl rfl (OP.ev rfl rfl (eExt rfl rfl) ?_)
                refine wl rfl (OP.ev rfl rfl (eAs rfl) ?_)
                refine wl rfl (OP.ev rfl rfl (eAs rfl) ?_)
                refine wl_nil ?_
                refine wc_seq ?_
                refine wc_seq ?_
                refine wc_region ?_
                refine wl rfl (OP.ev rfl rfl (eMv rfl) ?_)
                refine wl rfl (OP.evb rfl rfl (eNe rfl rfl) fun t42 h42 => ?_)
                refine wl_nil ?_
                cases t42 with
                | true =>
                  try have c_t42 := dt h42
                  first
                  | (exfalso; omega)
                  | (
                    refine wc_then rfl ?_
                    refine wc_seq ?_
                    refine wc_region ?_
                    refine wl rfl (OP.ev rfl rfl (eMv rfl) ?_)
                    first | refine wl rfl (OP.ev rfl rfl (eEqP0 rfl rfl ty24) ?_) | refine wl rfl (OP.ev rfl rfl (eEqP1 rfl rfl ty24) ?_)
                    refine wl rfl (OP.ev rfl rfl (eMv rfl) ?_)
                    refine wl_go rfl rfl (OP.ev rfl rfl (eMv rfl) ?_)
                    refine wl_go rfl rfl (OP.evb rfl rfl (eEq rfl rfl) fun t47 h47 => ?_)
                    refine wl rfl (OP.ev rfl rfl (ePk rfl rfl) ?_)
                    refine wl rfl (OP.ev rfl rfl (eMv rfl) ?_)
                    cases t47 with
                    | true =>
                      try have c_t47 := dt h47
                      first
                      | (exfalso; omega)
                      | (
                        refine wl_go rfl rfl (oC rfl pf8 rfl (awake_ok _) (by repeat (first | exact Sel.all | exact Sel.none | (apply Sel.one; · repeat (first | exact Pick.h | apply Pick.t | apply Pick.app)) | apply Sel.app | (with_reducible apply Sel.grp; · repeat (first | exact PickF.h | apply PickF.t | apply PickF.a)) | (with_reducible refine Sel.nilF (by with_unfolding_all rfl) ?_) | apply Sel.drop | apply Sel.dropF)) ?_)
                        rintro _ _ ⟨rfl, rfl⟩
                        refine wl rfl (OP.ev rfl rfl (ePk rfl rfl) ?_)
                        refine wl rfl (OP.ev rfl rfl (eAs rfl) ?_)
                        refine wl_nil ?_
                        refine wc_ret ?_
                        apply at_ret rfl
                        · exact (.cons (.tmp rfl) .nil)
                        · exact ⟨rfl, rfl⟩
                        · exact (by repeat (first | exact Sel.all | exact Sel.none | (apply Sel.one; · repeat (first | exact Pick.h | apply Pick.t | apply Pick.app)) | apply Sel.app | (with_reducible apply Sel.grp; · repeat (first | exact PickF.h | apply PickF.t | apply PickF.a)) | (with_reducible refine Sel.nilF (by with_unfolding_all rfl) ?_) | apply Sel.drop | apply Sel.dropF)))
                    | false =>
                      try have c_t47 := df h47
                      first
                      | (exfalso; omega)
                      | (
                        refine wl_skip rfl rfl rfl rfl rfl ?_
                        refine wl rfl (OP.ev rfl rfl (ePk rfl rfl) ?_)
                        refine wl rfl (OP.ev rfl rfl (eAs rfl) ?_)
                        refine wl_nil ?_
                        refine wc_ret ?_
                        apply at_ret rfl
                        · exact (.cons (.tmp rfl) .nil)
                        · exact ⟨rfl, rfl⟩
                        · exact (by repeat (first | exact Sel.all | exact Sel.none | (apply Sel.one; · repeat (first | exact Pick.h | apply Pick.t | apply Pick.app)) | apply Sel.app | (with_reducible apply Sel.grp; · repeat (first | exact PickF.h | apply PickF.t | apply PickF.a)) | (with_reducible refine Sel.nilF (by with_unfolding_all rfl) ?_) | apply Sel.drop | apply Sel.dropF))))
                | false =>
                  try have c_t42 := df h42
                  first
                  | (exfalso; omega)
                  | (
                    refine wc_else rfl ?_
                    refine wc_skip ?_
                    refine wc_seq ?_
                    refine wc_region ?_
                    refine wl rfl (OP.ev rfl rfl (eMv rfl) ?_)
                    refine wl rfl (oC rfl pf16 rfl (image_ok t2 r2 m2 clk2 hT2 _) (by repeat (first | exact Sel.all | exact Sel.none | (apply Sel.one; · repeat (first | exact Pick.h | apply Pick.t | apply Pick.app)) | apply Sel.app | (with_reducible apply Sel.grp; · repeat (first | exact PickF.h | apply PickF.t | apply PickF.a)) | (with_reducible refine Sel.nilF (by with_unfolding_all rfl) ?_) | apply Sel.drop | apply Sel.dropF)) ?_)
                    rintro v53 _ ⟨cs53, hrow53, rfl⟩
                    refine wl rfl (OP.ev rfl rfl (eMv rfl) ?_)
                    rw [himg] at hrow53
                    refine wl rfl (oC (L1 := _) rfl pf25 rfl (beq_same _ _ B _ (hrow53.rs (by repeat (first | exact At.cell | exact At.h | apply At.t | apply At.a))) (hv1 _) hB) Sel.all ?_)
                    rintro _ _ ⟨rfl, rfl⟩
                    refine wl rfl (OP.ev rfl rfl (eMv rfl) ?_)
                    refine wl_go rfl rfl (oC rfl pf8 rfl (awake_ok _) (by repeat (first | exact Sel.all | exact Sel.none | (apply Sel.one; · repeat (first | exact Pick.h | apply Pick.t | apply Pick.app)) | apply Sel.app | (with_reducible apply Sel.grp; · repeat (first | exact PickF.h | apply PickF.t | apply PickF.a)) | (with_reducible refine Sel.nilF (by with_unfolding_all rfl) ?_) | apply Sel.drop | apply Sel.dropF)) ?_)
                    rintro _ _ ⟨rfl, rfl⟩
                    refine wl rfl (OP.ev rfl rfl (ePk rfl rfl) ?_)
                    refine wl rfl (OP.ev rfl rfl (eAs rfl) ?_)
                    refine wl_nil ?_
                    refine wc_ret ?_
                    apply at_ret rfl
                    · exact (.cons (.tmp rfl) .nil)
                    · exact ⟨rfl, rfl⟩
                    · exact (by repeat (first | exact Sel.all | exact Sel.none | (apply Sel.one; · repeat (first | exact Pick.h | apply Pick.t | apply Pick.app)) | apply Sel.app | (with_reducible apply Sel.grp; · repeat (first | exact PickF.h | apply PickF.t | apply PickF.a)) | (with_reducible refine Sel.nilF (by with_unfolding_all rfl) ?_) | apply Sel.drop | apply Sel.dropF))))))
end Go.Proofs.Ytbppeijcfkdhjaa
