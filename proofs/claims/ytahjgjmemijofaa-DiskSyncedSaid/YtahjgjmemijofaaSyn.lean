/- The walk of DiskSynced. -/
import Derived.Test.YtahjgjmemijofaaLw5
namespace Go.Proofs.Ytahjgjmemijofaa
open Go Eng
set_option linter.unusedVariables false
set_option maxRecDepth 4000
variable {W0 : World} {I I' : Heap}

theorem synced_ok (room : Int) (v1 : Value) (l : List Do) (keep tear : Int) (hk : I64 keep) (ht : I64 tear) (hv : ∀ L, Rs W0 L v1 8 l.length (dos l)) (hr : ∀ c ∈ l, ∀ X, DoR W0 X c) (hl : l.length ≤ 9223372036854775807) :
    FnC W0 Try.prog 9 #[i64 room, v1, i64 keep, i64 tear] [] (fun v' L' => v' = .bool true ∧ L' = []) := by
  refine fn_of Try.func9 rfl Try.ntmps9 rfl rfl ?_
  refine wc_seq ?_
  refine wc_region ?_
  refine wl rfl (OP.ev rfl rfl (eAs rfl) ?_)
  refine wl_nil ?_
  refine wc_seq ?_
  refine wc_region ?_
  refine wl rfl (OP.ev rfl rfl (eMv rfl) ?_)
  refine wl rfl (OP.ev rfl rfl (eMv rfl) ?_)
  refine wl rfl (oCA rfl pf12 rfl (made_ok room v1 l _ (hv _) (fun c hc => hr c hc _) hl) ?_)
  rintro _ _ (⟨hs, x, rfl, rfl⟩ | ⟨hs, b, D, I, rfl, hD, rfl⟩)
  · refine wl rfl (OP.ev rfl rfl (eMv rfl) ?_)
    refine wl rfl (OP.ev rfl rfl (eExt rfl rfl) ?_)
    refine wl rfl (OP.ev rfl rfl (eExt rfl rfl) ?_)
    refine wl rfl (OP.ev rfl rfl (eAs rfl) ?_)
    refine wl rfl (OP.ev rfl rfl (eAs rfl) ?_)
    refine wl_nil ?_
    refine wc_seq ?_
    refine wc_seq ?_
    refine wc_region ?_
    refine wl rfl (OP.ev rfl rfl (eMv rfl) ?_)
    refine wl rfl (OP.ev rfl rfl (eNot rfl) ?_)
    refine wl_nil ?_
    refine wc_then rfl ?_
    refine wc_seq ?_
    refine wc_region ?_
    refine wl rfl (oC rfl pf13 rfl (awake_ok _) (by repeat (first | exact Sel.all | exact Sel.none | exact Sel.hd | (apply Sel.one; · repeat (first | exact Pick.h | apply Pick.t | apply Pick.app)) | apply Sel.app | (with_reducible apply Sel.grp; · repeat (first | exact PickF.h | apply PickF.t | apply PickF.a)) | (with_reducible refine Sel.nilF (by with_unfolding_all rfl) ?_) | apply Sel.drop | apply Sel.dropF)) ?_)
    rintro _ _ ⟨rfl, rfl⟩
    refine wl rfl (OP.ev rfl rfl (eAs rfl) ?_)
    refine wl_nil ?_
    refine wc_ret ?_
    apply at_ret rfl
    · exact (.cons (.tmp rfl) .nil)
    · exact ⟨rfl, rfl⟩
    · exact (by repeat (first | exact Sel.all | exact Sel.none | exact Sel.hd | (apply Sel.one; · repeat (first | exact Pick.h | apply Pick.t | apply Pick.app)) | apply Sel.app | (with_reducible apply Sel.grp; · repeat (first | exact PickF.h | apply PickF.t | apply PickF.a)) | (with_reducible refine Sel.nilF (by with_unfolding_all rfl) ?_) | apply Sel.drop | apply Sel.dropF))
  · refine wl rfl (OP.ev rfl rfl (eMv rfl) ?_)
    refine wl rfl (OP.ev rfl rfl (eExt rfl rfl) ?_)
    refine wl rfl (OP.ev rfl rfl (eExt rfl rfl) ?_)
    refine wl rfl (OP.ev rfl rfl (eAs rfl) ?_)
    refine wl rfl (OP.ev rfl rfl (eAs rfl) ?_)
    refine wl_nil ?_
    refine wc_seq ?_
    refine wc_seq ?_
    refine wc_region ?_
    refine wl rfl (OP.ev rfl rfl (eMv rfl) ?_)
    refine wl rfl (OP.ev rfl rfl (eNot rfl) ?_)
    refine wl_nil ?_
    refine wc_else rfl ?_
    refine wc_skip ?_
    refine wc_seq ?_
    refine wc_region ?_
    refine wl rfl (OP.ev rfl rfl (eMv rfl) ?_)
    refine wl rfl (oC rfl pf14 rfl (start_ok b _ D _ hD) (by repeat (first | exact Sel.all | exact Sel.none | exact Sel.hd | (apply Sel.one; · repeat (first | exact Pick.h | apply Pick.t | apply Pick.app)) | apply Sel.app | (with_reducible apply Sel.grp; · repeat (first | exact PickF.h | apply PickF.t | apply PickF.a)) | (with_reducible refine Sel.nilF (by with_unfolding_all rfl) ?_) | apply Sel.drop | apply Sel.dropF)) ?_)
    rintro _ _ ⟨rfl, D1, I1, hI1, hD1, rfl⟩
    refine wl_nil ?_
    refine wc_seq ?_
    refine wc_region ?_
    refine wl rfl (OP.ev rfl rfl (eMv rfl) ?_)
    refine wl rfl (oC rfl pf15 rfl (arm_ok b _ 0 0 0 D1 _ hD1) (by repeat (first | exact Sel.all | exact Sel.none | exact Sel.hd | (apply Sel.one; · repeat (first | exact Pick.h | apply Pick.t | apply Pick.app)) | apply Sel.app | (with_reducible apply Sel.grp; · repeat (first | exact PickF.h | apply PickF.t | apply PickF.a)) | (with_reducible refine Sel.nilF (by with_unfolding_all rfl) ?_) | apply Sel.drop | apply Sel.dropF)) ?_)
    rintro _ _ ⟨rfl, D2, I2, hI2, hD2, rfl⟩
    refine wl_nil ?_
    refine wc_seq ?_
    refine wc_seq ?_
    obtain ⟨hdk, hda⟩ := made_dok (X := []) room (l := l) (fun c hc => hr c hc [])
    have hd2 : DOk (((made room l).start.2).arm 0 0 0).2 := hdk.start.arm (by simp [I64]) (by simp [I64]) (by simp [I64])
    have hcm := calm_of (made room l)
    have ha2 := arm_acts (made room l) 0 0 0
    have hsl := short_len hs
    rw [← ha2] at hda
    clear ha2
    generalize (((made room l).start.2).arm 0 0 0).2 = d at hd2 hcm hD2 hda
    obtain ⟨s1, s2, s3, s4, s5, s6, s7⟩ := synced_law hcm keep tear
    have hd3 := hd2.sync
    have hd4 := hd3.crash keep tear
    have s8 : ((d.sync.2.crash keep tear).2.start).1 = 0 := rfl
    refine wc_region ?_
    refine wl rfl (OP.ev rfl rfl (eMv rfl) ?_)
    refine wl rfl (oC rfl pf41 rfl (sync_ok b d hd2 D2 _ hD2 (by omega)) (by repeat (first | exact Sel.all | exact Sel.none | exact Sel.hd | (apply Sel.one; · repeat (first | exact Pick.h | apply Pick.t | apply Pick.app)) | apply Sel.app | (with_reducible apply Sel.grp; · repeat (first | exact PickF.h | apply PickF.t | apply PickF.a)) | (with_reducible refine Sel.nilF (by with_unfolding_all rfl) ?_) | apply Sel.drop | apply Sel.dropF)) ?_)
    rintro _ _ ⟨rfl, D3, I3, hI3, hD3, rfl⟩
    refine wl rfl (OP.evb rfl rfl (eNe rfl rfl) fun t27 h27 => ?_)
    refine wl rfl (OP.ev rfl rfl (eMv rfl) ?_)
    cases t27 with
    | true =>
      try have c_t27 := dt h27
      first
      | (exfalso; omega)
      | (
        refine wl_skip rfl rfl rfl rfl rfl ?_
        refine wl_skip rfl rfl rfl rfl rfl ?_
        refine wl_skip rfl rfl rfl rfl rfl ?_
        refine wl rfl (OP.ev rfl rfl (ePk rfl rfl) ?_)
        refine wl_nil ?_
        refine wc_then rfl ?_
        refine wc_seq ?_
        refine wc_region ?_
        refine wl rfl (OP.ev rfl rfl (eAs rfl) ?_)
        refine wl_nil ?_
        refine wc_ret ?_
        apply at_ret rfl
        · exact (.cons (.tmp rfl) .nil)
        · exact ⟨rfl, rfl⟩
        · exact (by repeat (first | exact Sel.all | exact Sel.none | exact Sel.hd | (apply Sel.one; · repeat (first | exact Pick.h | apply Pick.t | apply Pick.app)) | apply Sel.app | (with_reducible apply Sel.grp; · repeat (first | exact PickF.h | apply PickF.t | apply PickF.a)) | (with_reducible refine Sel.nilF (by with_unfolding_all rfl) ?_) | apply Sel.drop | apply Sel.dropF)))
    | false =>
      try have c_t27 := df h27
      first
      | (exfalso; omega)
      | (
        refine wl_go rfl rfl (OP.ev rfl rfl (eMv rfl) ?_)
        refine wl_go rfl rfl (oC rfl pf24 rfl (pend_ok b _ D3 _ hD3) (by repeat (first | exact Sel.all | exact Sel.none | exact Sel.hd | (apply Sel.one; · repeat (first | exact Pick.h | apply Pick.t | apply Pick.app)) | apply Sel.app | (with_reducible apply Sel.grp; · repeat (first | exact PickF.h | apply PickF.t | apply PickF.a)) | (with_reducible refine Sel.nilF (by with_unfolding_all rfl) ?_) | apply Sel.drop | apply Sel.dropF)) ?_)
        rintro _ _ ⟨rfl, rfl⟩
        refine wl_go rfl rfl (OP.evb rfl rfl (eNe rfl rfl) fun t31 h31 => ?_)
        refine wl rfl (OP.ev rfl rfl (ePk rfl rfl) ?_)
        refine wl_nil ?_
        cases t31 with
        | true =>
          try have c_t31 := dt h31
          first
          | (exfalso; omega)
          | (
            refine wc_then rfl ?_
            refine wc_seq ?_
            refine wc_region ?_
            refine wl rfl (OP.ev rfl rfl (eAs rfl) ?_)
            refine wl_nil ?_
            refine wc_ret ?_
            apply at_ret rfl
            · exact (.cons (.tmp rfl) .nil)
            · exact ⟨rfl, rfl⟩
            · exact (by repeat (first | exact Sel.all | exact Sel.none | exact Sel.hd | (apply Sel.one; · repeat (first | exact Pick.h | apply Pick.t | apply Pick.app)) | apply Sel.app | (with_reducible apply Sel.grp; · repeat (first | exact PickF.h | apply PickF.t | apply PickF.a)) | (with_reducible refine Sel.nilF (by with_unfolding_all rfl) ?_) | apply Sel.drop | apply Sel.dropF)))
        | false =>
          try have c_t31 := df h31
          first
          | (exfalso; omega)
          | (
            refine wc_else rfl ?_
            refine wc_skip ?_
            refine wc_seq ?_
            refine wc_region ?_
            refine wl rfl (OP.ev rfl rfl (eMv rfl) ?_)
            refine wl rfl (oC rfl pf22 rfl (clone_ok b _ hd3 D3 _ hD3 (by omega)) (by repeat (first | exact Sel.all | exact Sel.none | exact Sel.hd | (apply Sel.one; · repeat (first | exact Pick.h | apply Pick.t | apply Pick.app)) | apply Sel.app | (with_reducible apply Sel.grp; · repeat (first | exact PickF.h | apply PickF.t | apply PickF.a)) | (with_reducible refine Sel.nilF (by with_unfolding_all rfl) ?_) | apply Sel.drop | apply Sel.dropF)) ?_)
            rintro v34 _ ⟨bc, Dc, I4, rfl, hI4, hDc, rfl⟩
            refine wl rfl (OP.ev rfl rfl (eAs rfl) ?_)
            refine wl_nil ?_
            have hD4 := hD3.sel hI4
            refine wc_seq ?_
            refine wc_region ?_
            refine wl rfl (OP.ev rfl rfl (eMv rfl) ?_)
            refine wl rfl (OP.ev rfl rfl (eMv rfl) ?_)
            refine wl rfl (OP.ev rfl rfl (eMv rfl) ?_)
            refine wl rfl (oC rfl pf39 rfl (crash_ok b _ hd3 keep tear hk ht D3 _ hD4 (by omega)) (by repeat (first | exact Sel.all | exact Sel.none | exact Sel.hd | (apply Sel.one; · repeat (first | exact Pick.h | apply Pick.t | apply Pick.app)) | apply Sel.app | (with_reducible apply Sel.grp; · repeat (first | exact PickF.h | apply PickF.t | apply PickF.a)) | (with_reducible refine Sel.nilF (by with_unfolding_all rfl) ?_) | apply Sel.drop | apply Sel.dropF)) ?_)
            rintro _ _ ⟨rfl, D5, I5, hI5, hD5, rfl⟩
            refine wl rfl (OP.evb rfl rfl (eEq rfl rfl) fun t39 h39 => ?_)
            refine wl rfl (OP.ev rfl rfl (eMv rfl) ?_)
            cases t39 with
            | true =>
              try have c_t39 := dt h39
              first
              | (exfalso; omega)
              | (
                refine wl_go rfl rfl (OP.ev rfl rfl (eMv rfl) ?_)
                refine wl_go rfl rfl (oC rfl pf17 rfl (list_ok b _ hd4 D5 _ hD5) (by repeat (first | exact Sel.all | exact Sel.none | exact Sel.hd | (apply Sel.one; · repeat (first | exact Pick.h | apply Pick.t | apply Pick.app)) | apply Sel.app | (with_reducible apply Sel.grp; · repeat (first | exact PickF.h | apply PickF.t | apply PickF.a)) | (with_reducible refine Sel.nilF (by with_unfolding_all rfl) ?_) | apply Sel.drop | apply Sel.dropF)) ?_)
                rintro v42 _ ⟨cs42, hrow42, rfl⟩
                refine wl_go rfl rfl (OP.ev rfl rfl (eLenRow ty33 rfl hrow42) ?_)
                refine wl_go rfl rfl (OP.evb rfl rfl (eEq rfl rfl) fun t44 h44 => ?_)
                refine wl rfl (OP.ev rfl rfl (ePk rfl rfl) ?_)
                refine wl rfl (OP.ev rfl rfl (eMv rfl) ?_)
                cases t44 with
                | true =>
                  try have c_t44 := dt h44
                  first
                  | (exfalso; omega)
                  | (
                    refine wl_go rfl rfl (OP.ev rfl rfl (eMv rfl) ?_)
                    have hac : (d.sync.2.crash keep tear).2.acts.length ≤ 1000000 := by
                      have h9 : (d.sync.2.crash keep tear).2.acts.length ≤ d.sync.2.acts.length := by unfold DK.crash; split <;> simp [DK.fall]
                      omega
                    refine wl_go rfl rfl (oC rfl pf41 rfl (sync_ok b _ hd4 D5 _ hD5 hac) (by repeat (first | exact Sel.all | exact Sel.none | exact Sel.hd | (apply Sel.one; · repeat (first | exact Pick.h | apply Pick.t | apply Pick.app)) | apply Sel.app | (with_reducible apply Sel.grp; · repeat (first | exact PickF.h | apply PickF.t | apply PickF.a)) | (with_reducible refine Sel.nilF (by with_unfolding_all rfl) ?_) | apply Sel.drop | apply Sel.dropF)) ?_)
                    rintro _ _ ⟨rfl, D6, I6, hI6, hD6, rfl⟩
                    rw [s5] at hD6
                    replace hD6 : DiskR W0 I6 (d.sync.2.crash keep tear).2 b D6 := hD6
                    have s5' := congrArg Prod.fst s5
                    simp only at s5'
                    refine wl_go rfl rfl (OP.evb rfl rfl (eEq rfl rfl) fun t49 h49 => ?_)
                    refine wl rfl (OP.ev rfl rfl (ePk rfl rfl) ?_)
                    refine wl rfl (OP.ev rfl rfl (eMv rfl) ?_)
                    cases t49 with
                    | true =>
                      try have c_t49 := dt h49
                      first
                      | (exfalso; omega)
                      | (
                        refine wl_go rfl rfl (OP.ev rfl rfl (eMv rfl) ?_)
                        refine wl_go rfl rfl (oC rfl pf14 rfl (start_ok b _ D6 _ hD6) (by repeat (first | exact Sel.all | exact Sel.none | exact Sel.hd | (apply Sel.one; · repeat (first | exact Pick.h | apply Pick.t | apply Pick.app)) | apply Sel.app | (with_reducible apply Sel.grp; · repeat (first | exact PickF.h | apply PickF.t | apply PickF.a)) | (with_reducible refine Sel.nilF (by with_unfolding_all rfl) ?_) | apply Sel.drop | apply Sel.dropF)) ?_)
                        rintro _ _ ⟨rfl, D7, I7, hI7, hD7, rfl⟩
                        refine wl_go rfl rfl (OP.evb rfl rfl (eEq rfl rfl) fun t54 h54 => ?_)
                        refine wl rfl (OP.ev rfl rfl (ePk rfl rfl) ?_)
                        refine wl rfl (OP.ev rfl rfl (eMv rfl) ?_)
                        cases t54 with
                        | true =>
                          try have c_t54 := dt h54
                          first
                          | (exfalso; omega)
                          | (
                            refine wl_go rfl rfl (OP.ev rfl rfl (eMv rfl) ?_)
                            refine wl_go rfl rfl (OP.ev rfl rfl (eMv rfl) ?_)
                            refine wl_go rfl rfl (oC rfl pf40 rfl (same_ok bc b _ _ hd3 hd4.start Dc D7 _ (((hDc.sel hI5).sel hI6).sel hI7) hD7) (by repeat (first | exact Sel.all | exact Sel.none | exact Sel.hd | (apply Sel.one; · repeat (first | exact Pick.h | apply Pick.t | apply Pick.app)) | apply Sel.app | (with_reducible apply Sel.grp; · repeat (first | exact PickF.h | apply PickF.t | apply PickF.a)) | (with_reducible refine Sel.nilF (by with_unfolding_all rfl) ?_) | apply Sel.drop | apply Sel.dropF)) ?_)
                            rintro _ _ ⟨rfl, rfl⟩
                            rw [s6]
                            refine wl rfl (OP.ev rfl rfl (ePk rfl rfl) ?_)
                            refine wl rfl (OP.ev rfl rfl (eMv rfl) ?_)
                            refine wl_go rfl rfl (oC rfl pf13 rfl (awake_ok _) (by repeat (first | exact Sel.all | exact Sel.none | exact Sel.hd | (apply Sel.one; · repeat (first | exact Pick.h | apply Pick.t | apply Pick.app)) | apply Sel.app | (with_reducible apply Sel.grp; · repeat (first | exact PickF.h | apply PickF.t | apply PickF.a)) | (with_reducible refine Sel.nilF (by with_unfolding_all rfl) ?_) | apply Sel.drop | apply Sel.dropF)) ?_)
                            rintro _ _ ⟨rfl, rfl⟩
                            refine wl rfl (OP.ev rfl rfl (ePk rfl rfl) ?_)
                            refine wl rfl (OP.ev rfl rfl (eAs rfl) ?_)
                            refine wl_nil ?_
                            skip
                            refine wc_ret ?_
                            apply at_ret rfl
                            · exact (.cons (.tmp rfl) .nil)
                            · exact ⟨rfl, rfl⟩
                            · exact (by repeat (first | exact Sel.all | exact Sel.none | exact Sel.hd | (apply Sel.one; · repeat (first | exact Pick.h | apply Pick.t | apply Pick.app)) | apply Sel.app | (with_reducible apply Sel.grp; · repeat (first | exact PickF.h | apply PickF.t | apply PickF.a)) | (with_reducible refine Sel.nilF (by with_unfolding_all rfl) ?_) | apply Sel.drop | apply Sel.dropF)))
                        | false =>
                          try have c_t54 := df h54
                          first
                          | (exfalso; omega)
                          | (
                            refine wl_skip rfl rfl rfl rfl rfl ?_
                            refine wl_skip rfl rfl rfl rfl rfl ?_
                            refine wl_skip rfl rfl rfl rfl rfl ?_
                            refine wl rfl (OP.ev rfl rfl (ePk rfl rfl) ?_)
                            refine wl rfl (OP.ev rfl rfl (eMv rfl) ?_)
                            refine wl_skip rfl rfl rfl rfl rfl ?_
                            refine wl rfl (OP.ev rfl rfl (ePk rfl rfl) ?_)
                            refine wl rfl (OP.ev rfl rfl (eAs rfl) ?_)
                            refine wl_nil ?_
                            skip
                            refine wc_ret ?_
                            apply at_ret rfl
                            · exact (.cons (.tmp rfl) .nil)
                            · exact ⟨rfl, rfl⟩
                            · exact (by repeat (first | exact Sel.all | exact Sel.none | exact Sel.hd | (apply Sel.one; · repeat (first | exact Pick.h | apply Pick.t | apply Pick.app)) | apply Sel.app | (with_reducible apply Sel.grp; · repeat (first | exact PickF.h | apply PickF.t | apply PickF.a)) | (with_reducible refine Sel.nilF (by with_unfolding_all rfl) ?_) | apply Sel.drop | apply Sel.dropF))))
                    | false =>
                      try have c_t49 := df h49
                      first
                      | (exfalso; omega)
                      | (
                        refine wl_skip rfl rfl rfl rfl rfl ?_
                        refine wl_skip rfl rfl rfl rfl rfl ?_
                        refine wl_skip rfl rfl rfl rfl rfl ?_
                        refine wl rfl (OP.ev rfl rfl (ePk rfl rfl) ?_)
                        refine wl rfl (OP.ev rfl rfl (eMv rfl) ?_)
                        refine wl_skip rfl rfl rfl rfl rfl ?_
                        refine wl_skip rfl rfl rfl rfl rfl ?_
                        refine wl_skip rfl rfl rfl rfl rfl ?_
                        refine wl rfl (OP.ev rfl rfl (ePk rfl rfl) ?_)
                        refine wl rfl (OP.ev rfl rfl (eMv rfl) ?_)
                        refine wl_skip rfl rfl rfl rfl rfl ?_
                        refine wl rfl (OP.ev rfl rfl (ePk rfl rfl) ?_)
                        refine wl rfl (OP.ev rfl rfl (eAs rfl) ?_)
                        refine wl_nil ?_
                        skip
                        refine wc_ret ?_
                        apply at_ret rfl
                        · exact (.cons (.tmp rfl) .nil)
                        · exact ⟨rfl, rfl⟩
                        · exact (by repeat (first | exact Sel.all | exact Sel.none | exact Sel.hd | (apply Sel.one; · repeat (first | exact Pick.h | apply Pick.t | apply Pick.app)) | apply Sel.app | (with_reducible apply Sel.grp; · repeat (first | exact PickF.h | apply PickF.t | apply PickF.a)) | (with_reducible refine Sel.nilF (by with_unfolding_all rfl) ?_) | apply Sel.drop | apply Sel.dropF))))
                | false =>
                  try have c_t44 := df h44
                  first
                  | (exfalso; omega)
                  | (
                    refine wl_skip rfl rfl rfl rfl rfl ?_
                    refine wl_skip rfl rfl rfl rfl rfl ?_
                    refine wl_skip rfl rfl rfl rfl rfl ?_
                    refine wl rfl (OP.ev rfl rfl (ePk rfl rfl) ?_)
                    refine wl rfl (OP.ev rfl rfl (eMv rfl) ?_)
                    refine wl_skip rfl rfl rfl rfl rfl ?_
                    refine wl_skip rfl rfl rfl rfl rfl ?_
                    refine wl_skip rfl rfl rfl rfl rfl ?_
                    refine wl rfl (OP.ev rfl rfl (ePk rfl rfl) ?_)
                    refine wl rfl (OP.ev rfl rfl (eMv rfl) ?_)
                    refine wl_skip rfl rfl rfl rfl rfl ?_
                    refine wl_skip rfl rfl rfl rfl rfl ?_
                    refine wl_skip rfl rfl rfl rfl rfl ?_
                    refine wl rfl (OP.ev rfl rfl (ePk rfl rfl) ?_)
                    refine wl rfl (OP.ev rfl rfl (eMv rfl) ?_)
                    refine wl_skip rfl rfl rfl rfl rfl ?_
                    refine wl rfl (OP.ev rfl rfl (ePk rfl rfl) ?_)
                    refine wl rfl (OP.ev rfl rfl (eAs rfl) ?_)
                    refine wl_nil ?_
                    skip
                    refine wc_ret ?_
                    apply at_ret rfl
                    · exact (.cons (.tmp rfl) .nil)
                    · exact ⟨rfl, rfl⟩
                    · exact (by repeat (first | exact Sel.all | exact Sel.none | exact Sel.hd | (apply Sel.one; · repeat (first | exact Pick.h | apply Pick.t | apply Pick.app)) | apply Sel.app | (with_reducible apply Sel.grp; · repeat (first | exact PickF.h | apply PickF.t | apply PickF.a)) | (with_reducible refine Sel.nilF (by with_unfolding_all rfl) ?_) | apply Sel.drop | apply Sel.dropF))))
            | false =>
              try have c_t39 := df h39
              first
              | (exfalso; omega)
              | (
                refine wl_skip rfl rfl rfl rfl rfl ?_
                refine wl_skip rfl rfl rfl rfl rfl ?_
                refine wl_skip rfl rfl rfl rfl rfl ?_
                refine wl_skip rfl rfl rfl rfl rfl ?_
                refine wl rfl (OP.ev rfl rfl (ePk rfl rfl) ?_)
                refine wl rfl (OP.ev rfl rfl (eMv rfl) ?_)
                refine wl_skip rfl rfl rfl rfl rfl ?_
                refine wl_skip rfl rfl rfl rfl rfl ?_
                refine wl_skip rfl rfl rfl rfl rfl ?_
                refine wl rfl (OP.ev rfl rfl (ePk rfl rfl) ?_)
                refine wl rfl (OP.ev rfl rfl (eMv rfl) ?_)
                refine wl_skip rfl rfl rfl rfl rfl ?_
                refine wl_skip rfl rfl rfl rfl rfl ?_
                refine wl_skip rfl rfl rfl rfl rfl ?_
                refine wl rfl (OP.ev rfl rfl (ePk rfl rfl) ?_)
                refine wl rfl (OP.ev rfl rfl (eMv rfl) ?_)
                refine wl_skip rfl rfl rfl rfl rfl ?_
                refine wl_skip rfl rfl rfl rfl rfl ?_
                refine wl_skip rfl rfl rfl rfl rfl ?_
                refine wl rfl (OP.ev rfl rfl (ePk rfl rfl) ?_)
                refine wl rfl (OP.ev rfl rfl (eMv rfl) ?_)
                refine wl_skip rfl rfl rfl rfl rfl ?_
                refine wl rfl (OP.ev rfl rfl (ePk rfl rfl) ?_)
                refine wl rfl (OP.ev rfl rfl (eAs rfl) ?_)
                refine wl_nil ?_
                skip
                refine wc_ret ?_
                apply at_ret rfl
                · exact (.cons (.tmp rfl) .nil)
                · exact ⟨rfl, rfl⟩
                · exact (by repeat (first | exact Sel.all | exact Sel.none | exact Sel.hd | (apply Sel.one; · repeat (first | exact Pick.h | apply Pick.t | apply Pick.app)) | apply Sel.app | (with_reducible apply Sel.grp; · repeat (first | exact PickF.h | apply PickF.t | apply PickF.a)) | (with_reducible refine Sel.nilF (by with_unfolding_all rfl) ?_) | apply Sel.drop | apply Sel.dropF)))))
end Go.Proofs.Ytahjgjmemijofaa
