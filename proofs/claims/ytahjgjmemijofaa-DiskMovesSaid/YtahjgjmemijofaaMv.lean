/- The walk of DiskMoves. -/
import Derived.Test.YtahjgjmemijofaaLw4
namespace Go.Proofs.Ytahjgjmemijofaa
open Go Eng
set_option linter.unusedVariables false
set_option maxRecDepth 4000
variable {W0 : World} {I I' : Heap}

theorem moves_ok (room : Int) (v1 : Value) (l : List Do) (old name : Nm) (hv : ∀ L, Rs W0 L v1 8 l.length (dos l)) (hr : ∀ c ∈ l, ∀ X, DoR W0 X c) (hl : l.length ≤ 9223372036854775807) :
    FnC W0 Try.prog 3 #[i64 room, v1, strK old, strK name] [] (fun v' L' => v' = .bool true ∧ L' = []) := by
  refine fn_of Try.func3 rfl Try.ntmps3 rfl rfl ?_
  refine wc_seq ?_
  refine wc_region ?_
  refine wl rfl (OP.ev rfl rfl (eAs rfl) ?_)
  refine wl_nil ?_
  refine wc_seq ?_
  refine wc_region ?_
  refine wl rfl (OP.ev rfl rfl (eMv rfl) ?_)
  refine wl rfl (OP.ev rfl rfl (eMv rfl) ?_)
  refine wl rfl (oCA rfl pf12 rfl (made_ok room v1 l _ (hv _) (fun c hc => hr c hc _) hl) ?_)
  rintro _ _ (⟨hs, x, rfl, rfl⟩ | ⟨hs, b, D, I, rfl, hD, rfl⟩)
  · refine wl rfl (OP.ev rfl rfl (eMv rfl) ?_)
    refine wl rfl (OP.ev rfl rfl (eExt rfl rfl) ?_)
    refine wl rfl (OP.ev rfl rfl (eExt rfl rfl) ?_)
    refine wl rfl (OP.ev rfl rfl (eAs rfl) ?_)
    refine wl rfl (OP.ev rfl rfl (eAs rfl) ?_)
    refine wl_nil ?_
    refine wc_seq ?_
    refine wc_seq ?_
    refine wc_region ?_
    refine wl rfl (OP.ev rfl rfl (eMv rfl) ?_)
    refine wl rfl (OP.ev rfl rfl (eNot rfl) ?_)
    refine wl_nil ?_
    refine wc_then rfl ?_
    refine wc_seq ?_
    refine wc_region ?_
    refine wl rfl (oC rfl pf13 rfl (awake_ok _) (by repeat (first | exact Sel.all | exact Sel.none | exact Sel.hd | (apply Sel.one; · repeat (first | exact Pick.h | apply Pick.t | apply Pick.app)) | apply Sel.app | (with_reducible apply Sel.grp; · repeat (first | exact PickF.h | apply PickF.t | apply PickF.a)) | (with_reducible refine Sel.nilF (by with_unfolding_all rfl) ?_) | apply Sel.drop | apply Sel.dropF)) ?_)
    rintro _ _ ⟨rfl, rfl⟩
    refine wl rfl (OP.ev rfl rfl (eAs rfl) ?_)
    refine wl_nil ?_
    refine wc_ret ?_
    apply at_ret rfl
    · exact (.cons (.tmp rfl) .nil)
    · exact ⟨rfl, rfl⟩
    · exact (by repeat (first | exact Sel.all | exact Sel.none | exact Sel.hd | (apply Sel.one; · repeat (first | exact Pick.h | apply Pick.t | apply Pick.app)) | apply Sel.app | (with_reducible apply Sel.grp; · repeat (first | exact PickF.h | apply PickF.t | apply PickF.a)) | (with_reducible refine Sel.nilF (by with_unfolding_all rfl) ?_) | apply Sel.drop | apply Sel.dropF))
  · refine wl rfl (OP.ev rfl rfl (eMv rfl) ?_)
    refine wl rfl (OP.ev rfl rfl (eExt rfl rfl) ?_)
    refine wl rfl (OP.ev rfl rfl (eExt rfl rfl) ?_)
    refine wl rfl (OP.ev rfl rfl (eAs rfl) ?_)
    refine wl rfl (OP.ev rfl rfl (eAs rfl) ?_)
    refine wl_nil ?_
    refine wc_seq ?_
    refine wc_seq ?_
    refine wc_region ?_
    refine wl rfl (OP.ev rfl rfl (eMv rfl) ?_)
    refine wl rfl (OP.ev rfl rfl (eNot rfl) ?_)
    refine wl_nil ?_
    refine wc_else rfl ?_
    refine wc_skip ?_
    refine wc_seq ?_
    refine wc_region ?_
    refine wl rfl (OP.ev rfl rfl (eMv rfl) ?_)
    refine wl rfl (oC rfl pf14 rfl (start_ok b _ D _ hD) (by repeat (first | exact Sel.all | exact Sel.none | exact Sel.hd | (apply Sel.one; · repeat (first | exact Pick.h | apply Pick.t | apply Pick.app)) | apply Sel.app | (with_reducible apply Sel.grp; · repeat (first | exact PickF.h | apply PickF.t | apply PickF.a)) | (with_reducible refine Sel.nilF (by with_unfolding_all rfl) ?_) | apply Sel.drop | apply Sel.dropF)) ?_)
    rintro _ _ ⟨rfl, D1, I1, hI1, hD1, rfl⟩
    refine wl_nil ?_
    refine wc_seq ?_
    refine wc_region ?_
    refine wl rfl (OP.ev rfl rfl (eMv rfl) ?_)
    refine wl rfl (oC rfl pf15 rfl (arm_ok b _ 0 0 0 D1 _ hD1) (by repeat (first | exact Sel.all | exact Sel.none | exact Sel.hd | (apply Sel.one; · repeat (first | exact Pick.h | apply Pick.t | apply Pick.app)) | apply Sel.app | (with_reducible apply Sel.grp; · repeat (first | exact PickF.h | apply PickF.t | apply PickF.a)) | (with_reducible refine Sel.nilF (by with_unfolding_all rfl) ?_) | apply Sel.drop | apply Sel.dropF)) ?_)
    rintro _ _ ⟨rfl, D2, I2, hI2, hD2, rfl⟩
    refine wl_nil ?_
    refine wc_seq ?_
    obtain ⟨hdk, hda⟩ := made_dok (X := []) room (l := l) (fun c hc => hr c hc [])
    have hd2 : DOk (((made room l).start.2).arm 0 0 0).2 := hdk.start.arm (by simp [I64]) (by simp [I64]) (by simp [I64])
    have hcm := calm_of (made room l)
    have ha2 := arm_acts (made room l) 0 0 0
    have hsl := short_len hs
    rw [← ha2] at hda
    clear ha2
    generalize (((made room l).start.2).arm 0 0 0).2 = d at hd2 hcm hD2 hda
    obtain ⟨L1, L2, L3⟩ := moves_law hd2 hcm old name
    have hro := read_code d old
    have hrn := read_code d name
    have hnl := names_le hd2
    have hd3 := hd2.move old name
    refine wc_region ?_
    refine wl rfl (OP.ev rfl rfl (eMv rfl) ?_)
    refine wl rfl (OP.ev rfl rfl (eMv rfl) ?_)
    refine wl rfl (oC rfl pf16 rfl (read_ok b d hd2 old D2 _ hD2) (by repeat (first | exact Sel.all | exact Sel.none | exact Sel.hd | (apply Sel.one; · repeat (first | exact Pick.h | apply Pick.t | apply Pick.app)) | apply Sel.app | (with_reducible apply Sel.grp; · repeat (first | exact PickF.h | apply PickF.t | apply PickF.a)) | (with_reducible refine Sel.nilF (by with_unfolding_all rfl) ?_) | apply Sel.drop | apply Sel.dropF)) ?_)
    rintro _ _ ⟨w37, cs37, rfl, hrow37, hB37, rfl⟩
    refine wl rfl (OP.ev rfl rfl (eMv rfl) ?_)
    refine wl rfl (OP.ev rfl rfl (eExt rfl rfl) ?_)
    refine wl rfl (OP.ev rfl rfl (eExt rfl rfl) ?_)
    refine wl rfl (OP.ev rfl rfl (eAs rfl) ?_)
    refine wl rfl (OP.ev rfl rfl (eAs rfl) ?_)
    refine wl_nil ?_
    refine wc_seq ?_
    refine wc_region ?_
    refine wl rfl (OP.ev rfl rfl (eMv rfl) ?_)
    refine wl rfl (oC rfl pf17 rfl (list_ok b d hd2 D2 _ hD2) (by repeat (first | exact Sel.all | exact Sel.none | exact Sel.hd | (apply Sel.one; · repeat (first | exact Pick.h | apply Pick.t | apply Pick.app)) | apply Sel.app | (with_reducible apply Sel.grp; · repeat (first | exact PickF.h | apply PickF.t | apply PickF.a)) | (with_reducible refine Sel.nilF (by with_unfolding_all rfl) ?_) | apply Sel.drop | apply Sel.dropF)) ?_)
    rintro v41 _ ⟨cs41, hrow41, rfl⟩
    refine wl rfl (OP.ev rfl rfl (eLenRow ty33 rfl hrow41) ?_)
    refine wl rfl (OP.ev rfl rfl (eAs rfl) ?_)
    refine wl_nil ?_
    refine wc_seq ?_
    refine wc_region ?_
    refine wl rfl (OP.ev rfl rfl (eMv rfl) ?_)
    refine wl rfl (OP.ev rfl rfl (eMv rfl) ?_)
    refine wl rfl (oC rfl pf16 rfl (read_ok b d hd2 name D2 _ hD2) (by repeat (first | exact Sel.all | exact Sel.none | exact Sel.hd | (apply Sel.one; · repeat (first | exact Pick.h | apply Pick.t | apply Pick.app)) | apply Sel.app | (with_reducible apply Sel.grp; · repeat (first | exact PickF.h | apply PickF.t | apply PickF.a)) | (with_reducible refine Sel.nilF (by with_unfolding_all rfl) ?_) | apply Sel.drop | apply Sel.dropF)) ?_)
    rintro _ _ ⟨w46, cs46, rfl, hrow46, hB46, rfl⟩
    refine wl rfl (OP.ev rfl rfl (eMv rfl) ?_)
    refine wl rfl (OP.ev rfl rfl (eExt rfl rfl) ?_)
    refine wl rfl (OP.ev rfl rfl (eExt rfl rfl) ?_)
    refine wl rfl (OP.ev rfl rfl (eAs rfl) ?_)
    refine wl rfl (OP.ev rfl rfl (eAs rfl) ?_)
    refine wl_nil ?_
    refine wc_seq ?_
    refine wc_region ?_
    refine wl rfl (OP.ev rfl rfl (eMv rfl) ?_)
    refine wl rfl (OP.ev rfl rfl (eMv rfl) ?_)
    refine wl rfl (OP.ev rfl rfl (eMv rfl) ?_)
    refine wl rfl (oC rfl pf18 rfl (move_ok b d hd2 old name D2 _ hD2 (by omega)) (by repeat (first | exact Sel.all | exact Sel.none | exact Sel.hd | (apply Sel.one; · repeat (first | exact Pick.h | apply Pick.t | apply Pick.app)) | apply Sel.app | (with_reducible apply Sel.grp; · repeat (first | exact PickF.h | apply PickF.t | apply PickF.a)) | (with_reducible refine Sel.nilF (by with_unfolding_all rfl) ?_) | apply Sel.drop | apply Sel.dropF)) ?_)
    rintro _ _ ⟨rfl, D3, I3, hI3, hD3, rfl⟩
    refine wl rfl (OP.ev rfl rfl (eAs rfl) ?_)
    refine wl_nil ?_
    refine wc_seq ?_
    refine wc_seq ?_
    refine wc_region ?_
    refine wl rfl (OP.ev rfl rfl (eMv rfl) ?_)
    refine wl rfl (OP.evb rfl rfl (eNe rfl rfl) fun t54 h54 => ?_)
    refine wl_nil ?_
    cases t54 with
    | true =>
      try have c_t54 := dt h54
      first
      | (exfalso; omega)
      | (
        refine wc_then rfl ?_
        refine wc_seq ?_
        obtain ⟨e1, e2⟩ := L1 (by omega)
        refine wc_region ?_
        refine wl rfl (OP.ev rfl rfl (eMv rfl) ?_)
        refine wl rfl (OP.ev rfl rfl (eMv rfl) ?_)
        refine wl rfl (OP.evb rfl rfl (eEq rfl rfl) fun t57 h57 => ?_)
        refine wl rfl (OP.ev rfl rfl (eMv rfl) ?_)
        cases t57 with
        | true =>
          try have c_t57 := dt h57
          first
          | (exfalso; omega)
          | (
            refine wl_go rfl rfl (oC rfl pf13 rfl (awake_ok _) (by repeat (first | exact Sel.all | exact Sel.none | exact Sel.hd | (apply Sel.one; · repeat (first | exact Pick.h | apply Pick.t | apply Pick.app)) | apply Sel.app | (with_reducible apply Sel.grp; · repeat (first | exact PickF.h | apply PickF.t | apply PickF.a)) | (with_reducible refine Sel.nilF (by with_unfolding_all rfl) ?_) | apply Sel.drop | apply Sel.dropF)) ?_)
            rintro _ _ ⟨rfl, rfl⟩
            refine wl rfl (OP.ev rfl rfl (ePk rfl rfl) ?_)
            refine wl rfl (OP.ev rfl rfl (eAs rfl) ?_)
            refine wl_nil ?_
            refine wc_ret ?_
            apply at_ret rfl
            · exact (.cons (.tmp rfl) .nil)
            · exact ⟨rfl, rfl⟩
            · exact (by repeat (first | exact Sel.all | exact Sel.none | exact Sel.hd | (apply Sel.one; · repeat (first | exact Pick.h | apply Pick.t | apply Pick.app)) | apply Sel.app | (with_reducible apply Sel.grp; · repeat (first | exact PickF.h | apply PickF.t | apply PickF.a)) | (with_reducible refine Sel.nilF (by with_unfolding_all rfl) ?_) | apply Sel.drop | apply Sel.dropF)))
        | false =>
          try have c_t57 := df h57
          first
          | (exfalso; omega)
          | (
            refine wl_skip rfl rfl rfl rfl rfl ?_
            refine wl rfl (OP.ev rfl rfl (ePk rfl rfl) ?_)
            refine wl rfl (OP.ev rfl rfl (eAs rfl) ?_)
            refine wl_nil ?_
            refine wc_ret ?_
            apply at_ret rfl
            · exact (.cons (.tmp rfl) .nil)
            · exact ⟨rfl, rfl⟩
            · exact (by repeat (first | exact Sel.all | exact Sel.none | exact Sel.hd | (apply Sel.one; · repeat (first | exact Pick.h | apply Pick.t | apply Pick.app)) | apply Sel.app | (with_reducible apply Sel.grp; · repeat (first | exact PickF.h | apply PickF.t | apply PickF.a)) | (with_reducible refine Sel.nilF (by with_unfolding_all rfl) ?_) | apply Sel.drop | apply Sel.dropF))))
    | false =>
      try have c_t54 := df h54
      first
      | (exfalso; omega)
      | (
        refine wc_else rfl ?_
        refine wc_skip ?_
        refine wc_seq ?_
        refine wc_seq ?_
        refine wc_region ?_
        refine wl rfl (OP.ev rfl rfl (eMv rfl) ?_)
        refine wl rfl (OP.evb rfl rfl (eNe rfl rfl) fun t62 h62 => ?_)
        refine wl_nil ?_
        cases t62 with
        | true =>
          try have c_t62 := dt h62
          first
          | (exfalso; omega)
          | (
            refine wc_then rfl ?_
            refine wc_seq ?_
            obtain ⟨e1, e2, e3⟩ := L2 (by omega) (by omega)
            rw [e3] at hD3
            refine wc_region ?_
            refine wl rfl (OP.ev rfl rfl (eMv rfl) ?_)
            refine wl rfl (OP.evb rfl rfl (eEq rfl rfl) fun t64 h64 => ?_)
            refine wl rfl (OP.ev rfl rfl (eMv rfl) ?_)
            cases t64 with
            | true =>
              try have c_t64 := dt h64
              first
              | (exfalso; omega)
              | (
                refine wl_go rfl rfl (OP.ev rfl rfl (eMv rfl) ?_)
                refine wl_go rfl rfl (OP.evb rfl rfl (eEq rfl rfl) fun t67 h67 => ?_)
                refine wl rfl (OP.ev rfl rfl (ePk rfl rfl) ?_)
                refine wl rfl (OP.ev rfl rfl (eMv rfl) ?_)
                cases t67 with
                | true =>
                  try have c_t67 := dt h67
                  first
                  | (exfalso; omega)
                  | (
                    refine wl_go rfl rfl (OP.ev rfl rfl (eMv rfl) ?_)
                    refine wl_go rfl rfl (oC rfl pf17 rfl (list_ok b d hd2 D3 _ hD3) (by repeat (first | exact Sel.all | exact Sel.none | exact Sel.hd | (apply Sel.one; · repeat (first | exact Pick.h | apply Pick.t | apply Pick.app)) | apply Sel.app | (with_reducible apply Sel.grp; · repeat (first | exact PickF.h | apply PickF.t | apply PickF.a)) | (with_reducible refine Sel.nilF (by with_unfolding_all rfl) ?_) | apply Sel.drop | apply Sel.dropF)) ?_)
                    rintro v71 _ ⟨cs71, hrow71, rfl⟩
                    refine wl_go rfl rfl (OP.ev rfl rfl (eLenRow ty33 rfl hrow71) ?_)
                    refine wl_go rfl rfl (OP.ev rfl rfl (eMv rfl) ?_)
                    refine wl_go rfl rfl (OP.evb rfl rfl (eEq rfl rfl) fun t74 h74 => ?_)
                    refine wl rfl (OP.ev rfl rfl (ePk rfl rfl) ?_)
                    refine wl rfl (OP.ev rfl rfl (eMv rfl) ?_)
                    cases t74 with
                    | true =>
                      try have c_t74 := dt h74
                      first
                      | (exfalso; omega)
                      | (
                        refine wl_go rfl rfl (oC rfl pf13 rfl (awake_ok _) (by repeat (first | exact Sel.all | exact Sel.none | exact Sel.hd | (apply Sel.one; · repeat (first | exact Pick.h | apply Pick.t | apply Pick.app)) | apply Sel.app | (with_reducible apply Sel.grp; · repeat (first | exact PickF.h | apply PickF.t | apply PickF.a)) | (with_reducible refine Sel.nilF (by with_unfolding_all rfl) ?_) | apply Sel.drop | apply Sel.dropF)) ?_)
                        rintro _ _ ⟨rfl, rfl⟩
                        refine wl rfl (OP.ev rfl rfl (ePk rfl rfl) ?_)
                        refine wl rfl (OP.ev rfl rfl (eAs rfl) ?_)
                        refine wl_nil ?_
                        refine wc_ret ?_
                        apply at_ret rfl
                        · exact (.cons (.tmp rfl) .nil)
                        · exact ⟨rfl, rfl⟩
                        · exact (by repeat (first | exact Sel.all | exact Sel.none | exact Sel.hd | (apply Sel.one; · repeat (first | exact Pick.h | apply Pick.t | apply Pick.app)) | apply Sel.app | (with_reducible apply Sel.grp; · repeat (first | exact PickF.h | apply PickF.t | apply PickF.a)) | (with_reducible refine Sel.nilF (by with_unfolding_all rfl) ?_) | apply Sel.drop | apply Sel.dropF)))
                    | false =>
                      try have c_t74 := df h74
                      first
                      | (exfalso; omega)
                      | (
                        refine wl_skip rfl rfl rfl rfl rfl ?_
                        refine wl rfl (OP.ev rfl rfl (ePk rfl rfl) ?_)
                        refine wl rfl (OP.ev rfl rfl (eAs rfl) ?_)
                        refine wl_nil ?_
                        refine wc_ret ?_
                        apply at_ret rfl
                        · exact (.cons (.tmp rfl) .nil)
                        · exact ⟨rfl, rfl⟩
                        · exact (by repeat (first | exact Sel.all | exact Sel.none | exact Sel.hd | (apply Sel.one; · repeat (first | exact Pick.h | apply Pick.t | apply Pick.app)) | apply Sel.app | (with_reducible apply Sel.grp; · repeat (first | exact PickF.h | apply PickF.t | apply PickF.a)) | (with_reducible refine Sel.nilF (by with_unfolding_all rfl) ?_) | apply Sel.drop | apply Sel.dropF))))
                | false =>
                  try have c_t67 := df h67
                  first
                  | (exfalso; omega)
                  | (
                    refine wl_skip rfl rfl rfl rfl rfl ?_
                    refine wl_skip rfl rfl rfl rfl rfl ?_
                    refine wl_skip rfl rfl rfl rfl rfl ?_
                    refine wl_skip rfl rfl rfl rfl rfl ?_
                    refine wl_skip rfl rfl rfl rfl rfl ?_
                    refine wl rfl (OP.ev rfl rfl (ePk rfl rfl) ?_)
                    refine wl rfl (OP.ev rfl rfl (eMv rfl) ?_)
                    refine wl_skip rfl rfl rfl rfl rfl ?_
                    refine wl rfl (OP.ev rfl rfl (ePk rfl rfl) ?_)
                    refine wl rfl (OP.ev rfl rfl (eAs rfl) ?_)
                    refine wl_nil ?_
                    refine wc_ret ?_
                    apply at_ret rfl
                    · exact (.cons (.tmp rfl) .nil)
                    · exact ⟨rfl, rfl⟩
                    · exact (by repeat (first | exact Sel.all | exact Sel.none | exact Sel.hd | (apply Sel.one; · repeat (first | exact Pick.h | apply Pick.t | apply Pick.app)) | apply Sel.app | (with_reducible apply Sel.grp; · repeat (first | exact PickF.h | apply PickF.t | apply PickF.a)) | (with_reducible refine Sel.nilF (by with_unfolding_all rfl) ?_) | apply Sel.drop | apply Sel.dropF))))
            | false =>
              try have c_t64 := df h64
              first
              | (exfalso; omega)
              | (
                refine wl_skip rfl rfl rfl rfl rfl ?_
                refine wl_skip rfl rfl rfl rfl rfl ?_
                refine wl rfl (OP.ev rfl rfl (ePk rfl rfl) ?_)
                refine wl rfl (OP.ev rfl rfl (eMv rfl) ?_)
                refine wl_skip rfl rfl rfl rfl rfl ?_
                refine wl_skip rfl rfl rfl rfl rfl ?_
                refine wl_skip rfl rfl rfl rfl rfl ?_
                refine wl_skip rfl rfl rfl rfl rfl ?_
                refine wl_skip rfl rfl rfl rfl rfl ?_
                refine wl rfl (OP.ev rfl rfl (ePk rfl rfl) ?_)
                refine wl rfl (OP.ev rfl rfl (eMv rfl) ?_)
                refine wl_skip rfl rfl rfl rfl rfl ?_
                refine wl rfl (OP.ev rfl rfl (ePk rfl rfl) ?_)
                refine wl rfl (OP.ev rfl rfl (eAs rfl) ?_)
                refine wl_nil ?_
                refine wc_ret ?_
                apply at_ret rfl
                · exact (.cons (.tmp rfl) .nil)
                · exact ⟨rfl, rfl⟩
                · exact (by repeat (first | exact Sel.all | exact Sel.none | exact Sel.hd | (apply Sel.one; · repeat (first | exact Pick.h | apply Pick.t | apply Pick.app)) | apply Sel.app | (with_reducible apply Sel.grp; · repeat (first | exact PickF.h | apply PickF.t | apply PickF.a)) | (with_reducible refine Sel.nilF (by with_unfolding_all rfl) ?_) | apply Sel.drop | apply Sel.dropF))))
        | false =>
          try have c_t62 := df h62
          first
          | (exfalso; omega)
          | (
            refine wc_else rfl ?_
            refine wc_skip ?_
            refine wc_seq ?_
            obtain ⟨e1, e2, e3, e4, e5⟩ := L3 (by omega) (by omega)
            refine wc_region ?_
            refine wl rfl (OP.ev rfl rfl (eMv rfl) ?_)
            refine wl rfl (OP.ev rfl rfl (eMv rfl) ?_)
            refine wl rfl (oC rfl pf16 rfl (read_ok b _ hd3 name D3 _ hD3) (by repeat (first | exact Sel.all | exact Sel.none | exact Sel.hd | (apply Sel.one; · repeat (first | exact Pick.h | apply Pick.t | apply Pick.app)) | apply Sel.app | (with_reducible apply Sel.grp; · repeat (first | exact PickF.h | apply PickF.t | apply PickF.a)) | (with_reducible refine Sel.nilF (by with_unfolding_all rfl) ?_) | apply Sel.drop | apply Sel.dropF)) ?_)
            rintro _ _ ⟨w82, cs82, rfl, hrow82, hB82, rfl⟩
            refine wl rfl (OP.ev rfl rfl (eMv rfl) ?_)
            refine wl rfl (OP.ev rfl rfl (eExt rfl rfl) ?_)
            refine wl rfl (OP.ev rfl rfl (eExt rfl rfl) ?_)
            refine wl rfl (OP.ev rfl rfl (eAs rfl) ?_)
            refine wl rfl (OP.ev rfl rfl (eAs rfl) ?_)
            refine wl_nil ?_
            refine wc_seq ?_
            refine wc_region ?_
            refine wl rfl (OP.ev rfl rfl (eMv rfl) ?_)
            refine wl rfl (OP.ev rfl rfl (eMv rfl) ?_)
            refine wl rfl (oC rfl pf16 rfl (read_ok b _ hd3 old D3 _ hD3) (by repeat (first | exact Sel.all | exact Sel.none | exact Sel.hd | (apply Sel.one; · repeat (first | exact Pick.h | apply Pick.t | apply Pick.app)) | apply Sel.app | (with_reducible apply Sel.grp; · repeat (first | exact PickF.h | apply PickF.t | apply PickF.a)) | (with_reducible refine Sel.nilF (by with_unfolding_all rfl) ?_) | apply Sel.drop | apply Sel.dropF)) ?_)
            rintro _ _ ⟨w88, cs88, rfl, hrow88, hB88, rfl⟩
            refine wl rfl (OP.ev rfl rfl (eMv rfl) ?_)
            refine wl rfl (OP.ev rfl rfl (eExt rfl rfl) ?_)
            refine wl rfl (OP.ev rfl rfl (eExt rfl rfl) ?_)
            refine wl rfl (OP.ev rfl rfl (eAs rfl) ?_)
            refine wl rfl (OP.ev rfl rfl (eAs rfl) ?_)
            refine wl_nil ?_
            refine wc_seq ?_
            have hg : ((d.move old name).2.read name).2 = 0 := by rw [e1]
            have hnow : ((d.move old name).2.read name).1 = (d.read old).1 := by rw [e1]
            rw [hnow] at hrow82 hB82
            have hho := read_code (d.move old name).2 old
            by_cases hon : old = name
            · have hb : decide (old = name) = true := decide_eq_true hon
              have e3' := e3 hon
              refine wc_region ?_
              refine wl rfl (OP.ev rfl rfl (eMv rfl) ?_)
              refine wl rfl (OP.evb rfl rfl (eEq rfl rfl) fun t92 h92 => ?_)
              refine wl rfl (OP.ev rfl rfl (eMv rfl) ?_)
              cases t92 with
              | true =>
                try have c_t92 := dt h92
                first
                | (exfalso; omega)
                | (
                  refine wl_go rfl rfl (OP.ev rfl rfl (eMv rfl) ?_)
                  refine wl_go rfl rfl (OP.ev rfl rfl (eMv rfl) ?_)
                  refine wl_go rfl rfl (oCA rfl pf19 rfl (beq_same w82 w37 _ _ (hrow82.rs (by repeat (first | exact At.cell | exact At.h | apply At.t | apply At.a))) (hrow37.rs (by repeat (first | exact At.cell | exact At.h | apply At.t | apply At.a))) hB37) ?_)
                  rintro _ _ ⟨rfl, rfl⟩
                  refine wl rfl (OP.ev rfl rfl (ePk rfl rfl) ?_)
                  refine wl rfl (OP.ev rfl rfl (eMv rfl) ?_)
                  refine wl_go rfl rfl (OP.ev rfl rfl (eMv rfl) ?_)
                  refine wl_go rfl rfl (OP.ev rfl rfl (eMv rfl) ?_)
                  refine wl_go rfl rfl (OP.ev rfl rfl (eEqKb rfl rfl hb) ?_)
                  refine wl_go rfl rfl (OP.ev rfl rfl (eMv rfl) ?_)
                  refine wl_skip rfl rfl rfl rfl rfl ?_
                  refine wl_skip rfl rfl rfl rfl rfl ?_
                  refine wl_go rfl rfl (OP.ev rfl rfl (ePk rfl rfl) ?_)
                  refine wl rfl (OP.ev rfl rfl (ePk rfl rfl) ?_)
                  refine wl rfl (OP.ev rfl rfl (eMv rfl) ?_)
                  refine wl_go rfl rfl (OP.ev rfl rfl (eMv rfl) ?_)
                  refine wl_go rfl rfl (OP.evb rfl rfl (eEq rfl rfl) fun t109 h109 => ?_)
                  refine wl_go rfl rfl (OP.ev rfl rfl (eMv rfl) ?_)
                  cases t109 with
                  | true =>
                    try have c_t109 := dt h109
                    first
                    | (exfalso; omega)
                    | (
                      refine wl_go rfl rfl (OP.ev rfl rfl (eMv rfl) ?_)
                      refine wl_go rfl rfl (OP.ev rfl rfl (eMv rfl) ?_)
                      refine wl_go rfl rfl (OP.ev rfl rfl (eNeKb rfl rfl hb) ?_)
                      refine wl_go rfl rfl (OP.ev rfl rfl (ePk rfl rfl) ?_)
                      refine wl_go rfl rfl (OP.ev rfl rfl (eMv rfl) ?_)
                      refine wl_go rfl rfl (oC rfl pf17 rfl (list_ok b _ hd3 D3 _ hD3) (by repeat (first | exact Sel.all | exact Sel.none | exact Sel.hd | (apply Sel.one; · repeat (first | exact Pick.h | apply Pick.t | apply Pick.app)) | apply Sel.app | (with_reducible apply Sel.grp; · repeat (first | exact PickF.h | apply PickF.t | apply PickF.a)) | (with_reducible refine Sel.nilF (by with_unfolding_all rfl) ?_) | apply Sel.drop | apply Sel.dropF)) ?_)
                      rintro v116 _ ⟨cs116, hrow116, rfl⟩
                      refine wl_go rfl rfl (OP.ev rfl rfl (eLenRow ty33 rfl hrow116) ?_)
                      refine wl_go rfl rfl (OP.ev rfl rfl (eMv rfl) ?_)
                      first | refine wl_go rfl rfl (OP.ev rfl rfl (eSub rfl rfl (by omega)) ?_) | refine wl_go rfl rfl (OP.ev rfl rfl (eSubW rfl rfl) ?_)
                      refine wl_go rfl rfl (OP.evb rfl rfl (eEq rfl rfl) fun t120 h120 => ?_)
                      cases t120 with
                      | true =>
                        try have c_t120 := dt h120
                        first
                        | (exfalso; omega)
                        | (
                          refine wl_go rfl rfl (OP.ev rfl rfl (eEqB_same rfl rfl ty4) ?_)
                          refine wl rfl (OP.ev rfl rfl (ePk rfl rfl) ?_)
                          refine wl rfl (OP.ev rfl rfl (eMv rfl) ?_)
                          refine wl_go rfl rfl (oC rfl pf13 rfl (awake_ok _) (by repeat (first | exact Sel.all | exact Sel.none | exact Sel.hd | (apply Sel.one; · repeat (first | exact Pick.h | apply Pick.t | apply Pick.app)) | apply Sel.app | (with_reducible apply Sel.grp; · repeat (first | exact PickF.h | apply PickF.t | apply PickF.a)) | (with_reducible refine Sel.nilF (by with_unfolding_all rfl) ?_) | apply Sel.drop | apply Sel.dropF)) ?_)
                          rintro _ _ ⟨rfl, rfl⟩
                          refine wl rfl (OP.ev rfl rfl (ePk rfl rfl) ?_)
                          refine wl rfl (OP.ev rfl rfl (eAs rfl) ?_)
                          refine wl_nil ?_
                          refine wc_ret ?_
                          apply at_ret rfl
                          · exact (.cons (.tmp rfl) .nil)
                          · exact ⟨rfl, rfl⟩
                          · exact (by repeat (first | exact Sel.all | exact Sel.none | exact Sel.hd | (apply Sel.one; · repeat (first | exact Pick.h | apply Pick.t | apply Pick.app)) | apply Sel.app | (with_reducible apply Sel.grp; · repeat (first | exact PickF.h | apply PickF.t | apply PickF.a)) | (with_reducible refine Sel.nilF (by with_unfolding_all rfl) ?_) | apply Sel.drop | apply Sel.dropF)))
                      | false =>
                        try have c_t120 := df h120
                        first
                        | (exfalso; omega)
                        | (
                          refine wl_go rfl rfl (OP.ev rfl rfl (eEqB_same rfl rfl ty4) ?_)
                          refine wl rfl (OP.ev rfl rfl (ePk rfl rfl) ?_)
                          refine wl rfl (OP.ev rfl rfl (eMv rfl) ?_)
                          refine wl_go rfl rfl (oC rfl pf13 rfl (awake_ok _) (by repeat (first | exact Sel.all | exact Sel.none | exact Sel.hd | (apply Sel.one; · repeat (first | exact Pick.h | apply Pick.t | apply Pick.app)) | apply Sel.app | (with_reducible apply Sel.grp; · repeat (first | exact PickF.h | apply PickF.t | apply PickF.a)) | (with_reducible refine Sel.nilF (by with_unfolding_all rfl) ?_) | apply Sel.drop | apply Sel.dropF)) ?_)
                          rintro _ _ ⟨rfl, rfl⟩
                          refine wl rfl (OP.ev rfl rfl (ePk rfl rfl) ?_)
                          refine wl rfl (OP.ev rfl rfl (eAs rfl) ?_)
                          refine wl_nil ?_
                          refine wc_ret ?_
                          apply at_ret rfl
                          · exact (.cons (.tmp rfl) .nil)
                          · exact ⟨rfl, rfl⟩
                          · exact (by repeat (first | exact Sel.all | exact Sel.none | exact Sel.hd | (apply Sel.one; · repeat (first | exact Pick.h | apply Pick.t | apply Pick.app)) | apply Sel.app | (with_reducible apply Sel.grp; · repeat (first | exact PickF.h | apply PickF.t | apply PickF.a)) | (with_reducible refine Sel.nilF (by with_unfolding_all rfl) ?_) | apply Sel.drop | apply Sel.dropF))))
                  | false =>
                    try have c_t109 := df h109
                    first
                    | (exfalso; omega)
                    | (
                      refine wl_skip rfl rfl rfl rfl rfl ?_
                      refine wl_skip rfl rfl rfl rfl rfl ?_
                      refine wl_skip rfl rfl rfl rfl rfl ?_
                      refine wl_go rfl rfl (OP.ev rfl rfl (ePk rfl rfl) ?_)
                      refine wl_go rfl rfl (OP.ev rfl rfl (eMv rfl) ?_)
                      refine wl_go rfl rfl (oC rfl pf17 rfl (list_ok b _ hd3 D3 _ hD3) (by repeat (first | exact Sel.all | exact Sel.none | exact Sel.hd | (apply Sel.one; · repeat (first | exact Pick.h | apply Pick.t | apply Pick.app)) | apply Sel.app | (with_reducible apply Sel.grp; · repeat (first | exact PickF.h | apply PickF.t | apply PickF.a)) | (with_reducible refine Sel.nilF (by with_unfolding_all rfl) ?_) | apply Sel.drop | apply Sel.dropF)) ?_)
                      rintro v116 _ ⟨cs116, hrow116, rfl⟩
                      refine wl_go rfl rfl (OP.ev rfl rfl (eLenRow ty33 rfl hrow116) ?_)
                      refine wl_go rfl rfl (OP.ev rfl rfl (eMv rfl) ?_)
                      first | refine wl_go rfl rfl (OP.ev rfl rfl (eSub rfl rfl (by omega)) ?_) | refine wl_go rfl rfl (OP.ev rfl rfl (eSubW rfl rfl) ?_)
                      refine wl_go rfl rfl (OP.evb rfl rfl (eEq rfl rfl) fun t120 h120 => ?_)
                      cases t120 with
                      | true =>
                        try have c_t120 := dt h120
                        first
                        | (exfalso; omega)
                        | (
                          refine wl_go rfl rfl (OP.ev rfl rfl (eEqB_same rfl rfl ty4) ?_)
                          refine wl rfl (OP.ev rfl rfl (ePk rfl rfl) ?_)
                          refine wl rfl (OP.ev rfl rfl (eMv rfl) ?_)
                          refine wl_go rfl rfl (oC rfl pf13 rfl (awake_ok _) (by repeat (first | exact Sel.all | exact Sel.none | exact Sel.hd | (apply Sel.one; · repeat (first | exact Pick.h | apply Pick.t | apply Pick.app)) | apply Sel.app | (with_reducible apply Sel.grp; · repeat (first | exact PickF.h | apply PickF.t | apply PickF.a)) | (with_reducible refine Sel.nilF (by with_unfolding_all rfl) ?_) | apply Sel.drop | apply Sel.dropF)) ?_)
                          rintro _ _ ⟨rfl, rfl⟩
                          refine wl rfl (OP.ev rfl rfl (ePk rfl rfl) ?_)
                          refine wl rfl (OP.ev rfl rfl (eAs rfl) ?_)
                          refine wl_nil ?_
                          refine wc_ret ?_
                          apply at_ret rfl
                          · exact (.cons (.tmp rfl) .nil)
                          · exact ⟨rfl, rfl⟩
                          · exact (by repeat (first | exact Sel.all | exact Sel.none | exact Sel.hd | (apply Sel.one; · repeat (first | exact Pick.h | apply Pick.t | apply Pick.app)) | apply Sel.app | (with_reducible apply Sel.grp; · repeat (first | exact PickF.h | apply PickF.t | apply PickF.a)) | (with_reducible refine Sel.nilF (by with_unfolding_all rfl) ?_) | apply Sel.drop | apply Sel.dropF)))
                      | false =>
                        try have c_t120 := df h120
                        first
                        | (exfalso; omega)
                        | (
                          refine wl_go rfl rfl (OP.ev rfl rfl (eEqB_same rfl rfl ty4) ?_)
                          refine wl rfl (OP.ev rfl rfl (ePk rfl rfl) ?_)
                          refine wl rfl (OP.ev rfl rfl (eMv rfl) ?_)
                          refine wl_go rfl rfl (oC rfl pf13 rfl (awake_ok _) (by repeat (first | exact Sel.all | exact Sel.none | exact Sel.hd | (apply Sel.one; · repeat (first | exact Pick.h | apply Pick.t | apply Pick.app)) | apply Sel.app | (with_reducible apply Sel.grp; · repeat (first | exact PickF.h | apply PickF.t | apply PickF.a)) | (with_reducible refine Sel.nilF (by with_unfolding_all rfl) ?_) | apply Sel.drop | apply Sel.dropF)) ?_)
                          rintro _ _ ⟨rfl, rfl⟩
                          refine wl rfl (OP.ev rfl rfl (ePk rfl rfl) ?_)
                          refine wl rfl (OP.ev rfl rfl (eAs rfl) ?_)
                          refine wl_nil ?_
                          refine wc_ret ?_
                          apply at_ret rfl
                          · exact (.cons (.tmp rfl) .nil)
                          · exact ⟨rfl, rfl⟩
                          · exact (by repeat (first | exact Sel.all | exact Sel.none | exact Sel.hd | (apply Sel.one; · repeat (first | exact Pick.h | apply Pick.t | apply Pick.app)) | apply Sel.app | (with_reducible apply Sel.grp; · repeat (first | exact PickF.h | apply PickF.t | apply PickF.a)) | (with_reducible refine Sel.nilF (by with_unfolding_all rfl) ?_) | apply Sel.drop | apply Sel.dropF)))))
              | false =>
                try have c_t92 := df h92
                first
                | (exfalso; omega)
                | (
                  refine wl_skip rfl rfl rfl rfl rfl ?_
                  refine wl_skip rfl rfl rfl rfl rfl ?_
                  refine wl_skip rfl rfl rfl rfl rfl ?_
                  refine wl rfl (OP.ev rfl rfl (ePk rfl rfl) ?_)
                  refine wl rfl (OP.ev rfl rfl (eMv rfl) ?_)
                  refine wl_skip rfl rfl rfl rfl rfl ?_
                  refine wl_skip rfl rfl rfl rfl rfl ?_
                  refine wl_skip rfl rfl rfl rfl rfl ?_
                  refine wl_skip rfl rfl rfl rfl rfl ?_
                  refine wl_skipU rfl rfl rfl rfl ?_
                  refine wl_skipU rfl rfl rfl rfl ?_
                  refine wl_skip rfl rfl rfl rfl rfl ?_
                  refine wl rfl (OP.ev rfl rfl (ePk rfl rfl) ?_)
                  refine wl rfl (OP.ev rfl rfl (eMv rfl) ?_)
                  refine wl_skip rfl rfl rfl rfl rfl ?_
                  refine wl_skip rfl rfl rfl rfl rfl ?_
                  refine wl_skip rfl rfl rfl rfl rfl ?_
                  refine wl_skipU rfl rfl rfl rfl ?_
                  refine wl_skipU rfl rfl rfl rfl ?_
                  refine wl_skipU rfl rfl rfl rfl ?_
                  refine wl_skip rfl rfl rfl rfl rfl ?_
                  refine wl_skip rfl rfl rfl rfl rfl ?_
                  refine wl_skip rfl rfl rfl rfl rfl ?_
                  refine wl_skip rfl rfl rfl rfl rfl ?_
                  refine wl_skip rfl rfl rfl rfl rfl ?_
                  refine wl_skip rfl rfl rfl rfl rfl ?_
                  refine wl_skip rfl rfl rfl rfl rfl ?_
                  refine wl_skip rfl rfl rfl rfl rfl ?_
                  refine wl rfl (OP.ev rfl rfl (ePk rfl rfl) ?_)
                  refine wl rfl (OP.ev rfl rfl (eMv rfl) ?_)
                  refine wl_skip rfl rfl rfl rfl rfl ?_
                  refine wl rfl (OP.ev rfl rfl (ePk rfl rfl) ?_)
                  refine wl rfl (OP.ev rfl rfl (eAs rfl) ?_)
                  refine wl_nil ?_
                  refine wc_ret ?_
                  apply at_ret rfl
                  · exact (.cons (.tmp rfl) .nil)
                  · exact ⟨rfl, rfl⟩
                  · exact (by repeat (first | exact Sel.all | exact Sel.none | exact Sel.hd | (apply Sel.one; · repeat (first | exact Pick.h | apply Pick.t | apply Pick.app)) | apply Sel.app | (with_reducible apply Sel.grp; · repeat (first | exact PickF.h | apply PickF.t | apply PickF.a)) | (with_reducible refine Sel.nilF (by with_unfolding_all rfl) ?_) | apply Sel.drop | apply Sel.dropF)))
            · have hb : decide (old = name) = false := decide_eq_false hon
              have e2' := e2 hon
              have e4' := e4 hon
              have e5' := e5 hon
              refine wc_region ?_
              refine wl rfl (OP.ev rfl rfl (eMv rfl) ?_)
              refine wl rfl (OP.evb rfl rfl (eEq rfl rfl) fun t92 h92 => ?_)
              refine wl rfl (OP.ev rfl rfl (eMv rfl) ?_)
              cases t92 with
              | true =>
                try have c_t92 := dt h92
                first
                | (exfalso; omega)
                | (
                  refine wl_go rfl rfl (OP.ev rfl rfl (eMv rfl) ?_)
                  refine wl_go rfl rfl (OP.ev rfl rfl (eMv rfl) ?_)
                  refine wl_go rfl rfl (oCA rfl pf19 rfl (beq_same w82 w37 _ _ (hrow82.rs (by repeat (first | exact At.cell | exact At.h | apply At.t | apply At.a))) (hrow37.rs (by repeat (first | exact At.cell | exact At.h | apply At.t | apply At.a))) hB37) ?_)
                  rintro _ _ ⟨rfl, rfl⟩
                  refine wl rfl (OP.ev rfl rfl (ePk rfl rfl) ?_)
                  refine wl rfl (OP.ev rfl rfl (eMv rfl) ?_)
                  refine wl_go rfl rfl (OP.ev rfl rfl (eMv rfl) ?_)
                  refine wl_go rfl rfl (OP.ev rfl rfl (eMv rfl) ?_)
                  refine wl_go rfl rfl (OP.ev rfl rfl (eEqKb rfl rfl hb) ?_)
                  refine wl_go rfl rfl (OP.ev rfl rfl (eMv rfl) ?_)
                  refine wl_go rfl rfl (OP.ev rfl rfl (eMv rfl) ?_)
                  refine wl_go rfl rfl (OP.evb rfl rfl (eEq rfl rfl) fun t104 h104 => ?_)
                  refine wl_go rfl rfl (OP.ev rfl rfl (ePk rfl rfl) ?_)
                  refine wl rfl (OP.ev rfl rfl (ePk rfl rfl) ?_)
                  refine wl rfl (OP.ev rfl rfl (eMv rfl) ?_)
                  cases t104 with
                  | true =>
                    try have c_t104 := dt h104
                    first
                    | (exfalso; omega)
                    | (
                      refine wl_go rfl rfl (OP.ev rfl rfl (eMv rfl) ?_)
                      refine wl_go rfl rfl (OP.evb rfl rfl (eEq rfl rfl) fun t109 h109 => ?_)
                      refine wl_go rfl rfl (OP.ev rfl rfl (eMv rfl) ?_)
                      cases t109 with
                      | true =>
                        try have c_t109 := dt h109
                        first
                        | (exfalso; omega)
                        | (
                          refine wl_go rfl rfl (OP.ev rfl rfl (eMv rfl) ?_)
                          refine wl_go rfl rfl (OP.ev rfl rfl (eMv rfl) ?_)
                          refine wl_go rfl rfl (OP.ev rfl rfl (eNeKb rfl rfl hb) ?_)
                          refine wl_go rfl rfl (OP.ev rfl rfl (ePk rfl rfl) ?_)
                          refine wl_go rfl rfl (OP.ev rfl rfl (eMv rfl) ?_)
                          refine wl_go rfl rfl (oC rfl pf17 rfl (list_ok b _ hd3 D3 _ hD3) (by repeat (first | exact Sel.all | exact Sel.none | exact Sel.hd | (apply Sel.one; · repeat (first | exact Pick.h | apply Pick.t | apply Pick.app)) | apply Sel.app | (with_reducible apply Sel.grp; · repeat (first | exact PickF.h | apply PickF.t | apply PickF.a)) | (with_reducible refine Sel.nilF (by with_unfolding_all rfl) ?_) | apply Sel.drop | apply Sel.dropF)) ?_)
                          rintro v116 _ ⟨cs116, hrow116, rfl⟩
                          refine wl_go rfl rfl (OP.ev rfl rfl (eLenRow ty33 rfl hrow116) ?_)
                          refine wl_go rfl rfl (OP.ev rfl rfl (eMv rfl) ?_)
                          first | refine wl_go rfl rfl (OP.ev rfl rfl (eSub rfl rfl (by omega)) ?_) | refine wl_go rfl rfl (OP.ev rfl rfl (eSubW rfl rfl) ?_)
                          refine wl_go rfl rfl (OP.evb rfl rfl (eEq rfl rfl) fun t120 h120 => ?_)
                          cases t120 with
                          | true =>
                            try have c_t120 := dt h120
                            first
                            | (exfalso; omega)
                            | (
                              refine wl_go rfl rfl (OP.ev rfl rfl (eEqB_same rfl rfl ty4) ?_)
                              refine wl rfl (OP.ev rfl rfl (ePk rfl rfl) ?_)
                              refine wl rfl (OP.ev rfl rfl (eMv rfl) ?_)
                              refine wl_go rfl rfl (oC rfl pf13 rfl (awake_ok _) (by repeat (first | exact Sel.all | exact Sel.none | exact Sel.hd | (apply Sel.one; · repeat (first | exact Pick.h | apply Pick.t | apply Pick.app)) | apply Sel.app | (with_reducible apply Sel.grp; · repeat (first | exact PickF.h | apply PickF.t | apply PickF.a)) | (with_reducible refine Sel.nilF (by with_unfolding_all rfl) ?_) | apply Sel.drop | apply Sel.dropF)) ?_)
                              rintro _ _ ⟨rfl, rfl⟩
                              refine wl rfl (OP.ev rfl rfl (ePk rfl rfl) ?_)
                              refine wl rfl (OP.ev rfl rfl (eAs rfl) ?_)
                              refine wl_nil ?_
                              refine wc_ret ?_
                              apply at_ret rfl
                              · exact (.cons (.tmp rfl) .nil)
                              · exact ⟨rfl, rfl⟩
                              · exact (by repeat (first | exact Sel.all | exact Sel.none | exact Sel.hd | (apply Sel.one; · repeat (first | exact Pick.h | apply Pick.t | apply Pick.app)) | apply Sel.app | (with_reducible apply Sel.grp; · repeat (first | exact PickF.h | apply PickF.t | apply PickF.a)) | (with_reducible refine Sel.nilF (by with_unfolding_all rfl) ?_) | apply Sel.drop | apply Sel.dropF)))
                          | false =>
                            try have c_t120 := df h120
                            first
                            | (exfalso; omega)
                            | (
                              refine wl_go rfl rfl (OP.ev rfl rfl (eEqB_same rfl rfl ty4) ?_)
                              refine wl rfl (OP.ev rfl rfl (ePk rfl rfl) ?_)
                              refine wl rfl (OP.ev rfl rfl (eMv rfl) ?_)
                              refine wl_go rfl rfl (oC rfl pf13 rfl (awake_ok _) (by repeat (first | exact Sel.all | exact Sel.none | exact Sel.hd | (apply Sel.one; · repeat (first | exact Pick.h | apply Pick.t | apply Pick.app)) | apply Sel.app | (with_reducible apply Sel.grp; · repeat (first | exact PickF.h | apply PickF.t | apply PickF.a)) | (with_reducible refine Sel.nilF (by with_unfolding_all rfl) ?_) | apply Sel.drop | apply Sel.dropF)) ?_)
                              rintro _ _ ⟨rfl, rfl⟩
                              refine wl rfl (OP.ev rfl rfl (ePk rfl rfl) ?_)
                              refine wl rfl (OP.ev rfl rfl (eAs rfl) ?_)
                              refine wl_nil ?_
                              refine wc_ret ?_
                              apply at_ret rfl
                              · exact (.cons (.tmp rfl) .nil)
                              · exact ⟨rfl, rfl⟩
                              · exact (by repeat (first | exact Sel.all | exact Sel.none | exact Sel.hd | (apply Sel.one; · repeat (first | exact Pick.h | apply Pick.t | apply Pick.app)) | apply Sel.app | (with_reducible apply Sel.grp; · repeat (first | exact PickF.h | apply PickF.t | apply PickF.a)) | (with_reducible refine Sel.nilF (by with_unfolding_all rfl) ?_) | apply Sel.drop | apply Sel.dropF))))
                      | false =>
                        try have c_t109 := df h109
                        first
                        | (exfalso; omega)
                        | (
                          refine wl_skip rfl rfl rfl rfl rfl ?_
                          refine wl_skip rfl rfl rfl rfl rfl ?_
                          refine wl_skip rfl rfl rfl rfl rfl ?_
                          refine wl_go rfl rfl (OP.ev rfl rfl (ePk rfl rfl) ?_)
                          refine wl_go rfl rfl (OP.ev rfl rfl (eMv rfl) ?_)
                          refine wl_go rfl rfl (oC rfl pf17 rfl (list_ok b _ hd3 D3 _ hD3) (by repeat (first | exact Sel.all | exact Sel.none | exact Sel.hd | (apply Sel.one; · repeat (first | exact Pick.h | apply Pick.t | apply Pick.app)) | apply Sel.app | (with_reducible apply Sel.grp; · repeat (first | exact PickF.h | apply PickF.t | apply PickF.a)) | (with_reducible refine Sel.nilF (by with_unfolding_all rfl) ?_) | apply Sel.drop | apply Sel.dropF)) ?_)
                          rintro v116 _ ⟨cs116, hrow116, rfl⟩
                          refine wl_go rfl rfl (OP.ev rfl rfl (eLenRow ty33 rfl hrow116) ?_)
                          refine wl_go rfl rfl (OP.ev rfl rfl (eMv rfl) ?_)
                          first | refine wl_go rfl rfl (OP.ev rfl rfl (eSub rfl rfl (by omega)) ?_) | refine wl_go rfl rfl (OP.ev rfl rfl (eSubW rfl rfl) ?_)
                          refine wl_go rfl rfl (OP.evb rfl rfl (eEq rfl rfl) fun t120 h120 => ?_)
                          cases t120 with
                          | true =>
                            try have c_t120 := dt h120
                            first
                            | (exfalso; omega)
                            | (
                              refine wl_go rfl rfl (OP.ev rfl rfl (eEqB_same rfl rfl ty4) ?_)
                              refine wl rfl (OP.ev rfl rfl (ePk rfl rfl) ?_)
                              refine wl rfl (OP.ev rfl rfl (eMv rfl) ?_)
                              refine wl_go rfl rfl (oC rfl pf13 rfl (awake_ok _) (by repeat (first | exact Sel.all | exact Sel.none | exact Sel.hd | (apply Sel.one; · repeat (first | exact Pick.h | apply Pick.t | apply Pick.app)) | apply Sel.app | (with_reducible apply Sel.grp; · repeat (first | exact PickF.h | apply PickF.t | apply PickF.a)) | (with_reducible refine Sel.nilF (by with_unfolding_all rfl) ?_) | apply Sel.drop | apply Sel.dropF)) ?_)
                              rintro _ _ ⟨rfl, rfl⟩
                              refine wl rfl (OP.ev rfl rfl (ePk rfl rfl) ?_)
                              refine wl rfl (OP.ev rfl rfl (eAs rfl) ?_)
                              refine wl_nil ?_
                              refine wc_ret ?_
                              apply at_ret rfl
                              · exact (.cons (.tmp rfl) .nil)
                              · exact ⟨rfl, rfl⟩
                              · exact (by repeat (first | exact Sel.all | exact Sel.none | exact Sel.hd | (apply Sel.one; · repeat (first | exact Pick.h | apply Pick.t | apply Pick.app)) | apply Sel.app | (with_reducible apply Sel.grp; · repeat (first | exact PickF.h | apply PickF.t | apply PickF.a)) | (with_reducible refine Sel.nilF (by with_unfolding_all rfl) ?_) | apply Sel.drop | apply Sel.dropF)))
                          | false =>
                            try have c_t120 := df h120
                            first
                            | (exfalso; omega)
                            | (
                              refine wl_go rfl rfl (OP.ev rfl rfl (eEqB_same rfl rfl ty4) ?_)
                              refine wl rfl (OP.ev rfl rfl (ePk rfl rfl) ?_)
                              refine wl rfl (OP.ev rfl rfl (eMv rfl) ?_)
                              refine wl_go rfl rfl (oC rfl pf13 rfl (awake_ok _) (by repeat (first | exact Sel.all | exact Sel.none | exact Sel.hd | (apply Sel.one; · repeat (first | exact Pick.h | apply Pick.t | apply Pick.app)) | apply Sel.app | (with_reducible apply Sel.grp; · repeat (first | exact PickF.h | apply PickF.t | apply PickF.a)) | (with_reducible refine Sel.nilF (by with_unfolding_all rfl) ?_) | apply Sel.drop | apply Sel.dropF)) ?_)
                              rintro _ _ ⟨rfl, rfl⟩
                              refine wl rfl (OP.ev rfl rfl (ePk rfl rfl) ?_)
                              refine wl rfl (OP.ev rfl rfl (eAs rfl) ?_)
                              refine wl_nil ?_
                              refine wc_ret ?_
                              apply at_ret rfl
                              · exact (.cons (.tmp rfl) .nil)
                              · exact ⟨rfl, rfl⟩
                              · exact (by repeat (first | exact Sel.all | exact Sel.none | exact Sel.hd | (apply Sel.one; · repeat (first | exact Pick.h | apply Pick.t | apply Pick.app)) | apply Sel.app | (with_reducible apply Sel.grp; · repeat (first | exact PickF.h | apply PickF.t | apply PickF.a)) | (with_reducible refine Sel.nilF (by with_unfolding_all rfl) ?_) | apply Sel.drop | apply Sel.dropF)))))
                  | false =>
                    try have c_t104 := df h104
                    first
                    | (exfalso; omega)
                    | (
                      refine wl_skip rfl rfl rfl rfl rfl ?_
                      refine wl_skip rfl rfl rfl rfl rfl ?_
                      refine wl_skip rfl rfl rfl rfl rfl ?_
                      refine wl_skipU rfl rfl rfl rfl ?_
                      refine wl_skipU rfl rfl rfl rfl ?_
                      refine wl_skipU rfl rfl rfl rfl ?_
                      refine wl_skip rfl rfl rfl rfl rfl ?_
                      refine wl_skip rfl rfl rfl rfl rfl ?_
                      refine wl_skip rfl rfl rfl rfl rfl ?_
                      refine wl_skip rfl rfl rfl rfl rfl ?_
                      refine wl_skip rfl rfl rfl rfl rfl ?_
                      refine wl_skip rfl rfl rfl rfl rfl ?_
                      refine wl_skip rfl rfl rfl rfl rfl ?_
                      refine wl_skip rfl rfl rfl rfl rfl ?_
                      refine wl rfl (OP.ev rfl rfl (ePk rfl rfl) ?_)
                      refine wl rfl (OP.ev rfl rfl (eMv rfl) ?_)
                      refine wl_skip rfl rfl rfl rfl rfl ?_
                      refine wl rfl (OP.ev rfl rfl (ePk rfl rfl) ?_)
                      refine wl rfl (OP.ev rfl rfl (eAs rfl) ?_)
                      refine wl_nil ?_
                      refine wc_ret ?_
                      apply at_ret rfl
                      · exact (.cons (.tmp rfl) .nil)
                      · exact ⟨rfl, rfl⟩
                      · exact (by repeat (first | exact Sel.all | exact Sel.none | exact Sel.hd | (apply Sel.one; · repeat (first | exact Pick.h | apply Pick.t | apply Pick.app)) | apply Sel.app | (with_reducible apply Sel.grp; · repeat (first | exact PickF.h | apply PickF.t | apply PickF.a)) | (with_reducible refine Sel.nilF (by with_unfolding_all rfl) ?_) | apply Sel.drop | apply Sel.dropF))))
              | false =>
                try have c_t92 := df h92
                first
                | (exfalso; omega)
                | (
                  refine wl_skip rfl rfl rfl rfl rfl ?_
                  refine wl_skip rfl rfl rfl rfl rfl ?_
                  refine wl_skip rfl rfl rfl rfl rfl ?_
                  refine wl rfl (OP.ev rfl rfl (ePk rfl rfl) ?_)
                  refine wl rfl (OP.ev rfl rfl (eMv rfl) ?_)
                  refine wl_skip rfl rfl rfl rfl rfl ?_
                  refine wl_skip rfl rfl rfl rfl rfl ?_
                  refine wl_skip rfl rfl rfl rfl rfl ?_
                  refine wl_skip rfl rfl rfl rfl rfl ?_
                  refine wl_skipU rfl rfl rfl rfl ?_
                  refine wl_skipU rfl rfl rfl rfl ?_
                  refine wl_skip rfl rfl rfl rfl rfl ?_
                  refine wl rfl (OP.ev rfl rfl (ePk rfl rfl) ?_)
                  refine wl rfl (OP.ev rfl rfl (eMv rfl) ?_)
                  refine wl_skip rfl rfl rfl rfl rfl ?_
                  refine wl_skip rfl rfl rfl rfl rfl ?_
                  refine wl_skip rfl rfl rfl rfl rfl ?_
                  refine wl_skipU rfl rfl rfl rfl ?_
                  refine wl_skipU rfl rfl rfl rfl ?_
                  refine wl_skipU rfl rfl rfl rfl ?_
                  refine wl_skip rfl rfl rfl rfl rfl ?_
                  refine wl_skip rfl rfl rfl rfl rfl ?_
                  refine wl_skip rfl rfl rfl rfl rfl ?_
                  refine wl_skip rfl rfl rfl rfl rfl ?_
                  refine wl_skip rfl rfl rfl rfl rfl ?_
                  refine wl_skip rfl rfl rfl rfl rfl ?_
                  refine wl_skip rfl rfl rfl rfl rfl ?_
                  refine wl_skip rfl rfl rfl rfl rfl ?_
                  refine wl rfl (OP.ev rfl rfl (ePk rfl rfl) ?_)
                  refine wl rfl (OP.ev rfl rfl (eMv rfl) ?_)
                  refine wl_skip rfl rfl rfl rfl rfl ?_
                  refine wl rfl (OP.ev rfl rfl (ePk rfl rfl) ?_)
                  refine wl rfl (OP.ev rfl rfl (eAs rfl) ?_)
                  refine wl_nil ?_
                  refine wc_ret ?_
                  apply at_ret rfl
                  · exact (.cons (.tmp rfl) .nil)
                  · exact ⟨rfl, rfl⟩
                  · exact (by repeat (first | exact Sel.all | exact Sel.none | exact Sel.hd | (apply Sel.one; · repeat (first | exact Pick.h | apply Pick.t | apply Pick.app)) | apply Sel.app | (with_reducible apply Sel.grp; · repeat (first | exact PickF.h | apply PickF.t | apply PickF.a)) | (with_reducible refine Sel.nilF (by with_unfolding_all rfl) ?_) | apply Sel.drop | apply Sel.dropF)))))
end Go.Proofs.Ytahjgjmemijofaa
