/- The walk of DiskApart. -/
import Derived.Test.YtahjgjmemijofaaLw5
namespace Go.Proofs.Ytahjgjmemijofaa
open Go Eng
set_option linter.unusedVariables false
set_option maxRecDepth 4000
variable {W0 : World} {I I' : Heap}

theorem map_strK_one (ns : List Nm) : (ns.map strK).all Value.oneCell' = true := by
  rw [List.all_eq_true]
  intro x hx
  obtain ⟨k, _, rfl⟩ := List.mem_map.1 hx
  rfl
theorem apart_ok (room : Int) (v1 : Value) (l : List Do) (k : Do) (hkw : ∀ X, DoR W0 X k) (hv : ∀ L, Rs W0 L v1 8 l.length (dos l)) (hr : ∀ c ∈ l, ∀ X, DoR W0 X c) (hl : l.length ≤ 9223372036854775807) :
    FnC W0 Try.prog 4 #[i64 room, v1, .agg (cC k)] [] (fun v' L' => v' = .bool true ∧ L' = []) := by
  refine fn_of Try.func4 rfl Try.ntmps4 rfl rfl ?_
  refine wc_seq ?_
  refine wc_region ?_
  refine wl rfl (oBox rfl rfl rfl fun b5 => ?_)
  refine wl rfl (OP.ev rfl rfl (eAs rfl) ?_)
  refine wl_nil ?_
  refine wc_seq ?_
  refine wc_region ?_
  refine wl rfl (OP.ev rfl rfl (eMv rfl) ?_)
  refine wl rfl (OP.ev rfl rfl (eMv rfl) ?_)
  refine wl rfl (oCA rfl pf12 rfl (made_ok room v1 l _ (hv _) (fun c hc => hr c hc _) hl) ?_)
  rintro _ _ (⟨hs, x, rfl, rfl⟩ | ⟨hs, b, D, I, rfl, hD, rfl⟩)
  · refine wl rfl (OP.ev rfl rfl (eMv rfl) ?_)
    refine wl rfl (OP.ev rfl rfl (eExt rfl rfl) ?_)
    refine wl rfl (OP.ev rfl rfl (eExt rfl rfl) ?_)
    refine wl rfl (OP.ev rfl rfl (eAs rfl) ?_)
    refine wl rfl (OP.ev rfl rfl (eAs rfl) ?_)
    refine wl_nil ?_
    refine wc_seq ?_
    refine wc_seq ?_
    refine wc_region ?_
    refine wl rfl (OP.ev rfl rfl (eMv rfl) ?_)
    refine wl rfl (OP.ev rfl rfl (eNot rfl) ?_)
    refine wl rfl (OP.ev rfl rfl (eMv rfl) ?_)
    refine wl_skip rfl rfl rfl rfl rfl ?_
    refine wl_skip rfl rfl rfl rfl rfl ?_
    refine wl_skip rfl rfl rfl rfl rfl ?_
    refine wl_skip rfl rfl rfl rfl rfl ?_
    refine wl rfl (OP.ev rfl rfl (ePk rfl rfl) ?_)
    refine wl rfl (OP.ev rfl rfl (eMv rfl) ?_)
    refine wl_skip rfl rfl rfl rfl rfl ?_
    refine wl_skip rfl rfl rfl rfl rfl ?_
    refine wl_skip rfl rfl rfl rfl rfl ?_
    refine wl rfl (OP.ev rfl rfl (ePk rfl rfl) ?_)
    refine wl_nil ?_
    refine wc_then rfl ?_
    refine wc_seq ?_
    refine wc_region ?_
    refine wl rfl (oC rfl pf13 rfl (awake_ok _) (by repeat (first | exact Sel.all | exact Sel.none | exact Sel.hd | (apply Sel.one; · repeat (first | exact Pick.h | apply Pick.t | apply Pick.app)) | apply Sel.app | (with_reducible apply Sel.grp; · repeat (first | exact PickF.h | apply PickF.t | apply PickF.a)) | (with_reducible refine Sel.nilF (by with_unfolding_all rfl) ?_) | apply Sel.drop | apply Sel.dropF)) ?_)
    rintro _ _ ⟨rfl, rfl⟩
    refine wl rfl (OP.ev rfl rfl (eAs rfl) ?_)
    refine wl_nil ?_
    refine wc_ret ?_
    apply at_ret rfl
    · exact (.cons (.tmp rfl) .nil)
    · exact ⟨rfl, rfl⟩
    · exact (by repeat (first | exact Sel.all | exact Sel.none | exact Sel.hd | (apply Sel.one; · repeat (first | exact Pick.h | apply Pick.t | apply Pick.app)) | apply Sel.app | (with_reducible apply Sel.grp; · repeat (first | exact PickF.h | apply PickF.t | apply PickF.a)) | (with_reducible refine Sel.nilF (by with_unfolding_all rfl) ?_) | apply Sel.drop | apply Sel.dropF))
  · refine wl rfl (OP.ev rfl rfl (eMv rfl) ?_)
    refine wl rfl (OP.ev rfl rfl (eExt rfl rfl) ?_)
    refine wl rfl (OP.ev rfl rfl (eExt rfl rfl) ?_)
    refine wl rfl (OP.ev rfl rfl (eAs rfl) ?_)
    refine wl rfl (OP.ev rfl rfl (eAs rfl) ?_)
    refine wl_nil ?_
    refine wc_seq ?_
    refine wc_seq ?_
    refine wc_region ?_
    refine wl rfl (OP.ev rfl rfl (eMv rfl) ?_)
    refine wl rfl (OP.ev rfl rfl (eNot rfl) ?_)
    refine wl rfl (OP.ev rfl rfl (eMv rfl) ?_)
    first | refine wl_go rfl rfl (OP.ev rfl rfl (eLdW ty39 rfl rfl (by repeat (first | exact Has.h | apply Has.t | apply Has.app)) (by rfl)) ?_) | refine wl_go rfl rfl (OP.ev rfl rfl (eLdA (vs := [_, _, _, _, _, _, _, _]) ty39 rfl rfl (by repeat (first | exact Has.h | apply Has.t | apply Has.app)) (by rfl) (by rfl)) ?_) | refine wl_go rfl rfl (OP.ev rfl rfl (eLdAO ty39 rfl rfl (by assumption) (by assumption)) ?_)
    refine wl_go rfl rfl (oBSw (vs := [.agg (cC k)]) rfl ty22 ty39 rfl rfl rfl rfl rfl rfl fun b26 => ?_)
    refine wl_go rfl rfl (oCA rfl pf20 rfl (short_ok _ [k] _ (Rs.mk (Rc.of_has (by repeat (first | exact Has.h | apply Has.t | apply Has.app)) rfl) rfl (Nat.le_refl _)) (fun c hc => by simp at hc; subst hc; exact hkw _) (by simp)) ?_)
    rintro _ _ ⟨rfl, rfl⟩
    refine wl_go rfl rfl (OP.evb rfl rfl (eNot rfl) fun t28 h28 => ?_)
    refine wl rfl (OP.ev rfl rfl (ePk rfl rfl) ?_)
    refine wl rfl (OP.ev rfl rfl (eMv rfl) ?_)
    cases t28 with
    | true =>
      try have c_t28 := dt h28
      first
      | (exfalso; omega)
      | (
        refine wl_skip rfl rfl rfl rfl rfl ?_
        refine wl_skip rfl rfl rfl rfl rfl ?_
        refine wl_skip rfl rfl rfl rfl rfl ?_
        refine wl rfl (OP.ev rfl rfl (ePk rfl rfl) ?_)
        refine wl_nil ?_
        refine wc_then rfl ?_
        refine wc_seq ?_
        refine wc_region ?_
        refine wl rfl (oC rfl pf13 rfl (awake_ok _) (by repeat (first | exact Sel.all | exact Sel.none | exact Sel.hd | (apply Sel.one; · repeat (first | exact Pick.h | apply Pick.t | apply Pick.app)) | apply Sel.app | (with_reducible apply Sel.grp; · repeat (first | exact PickF.h | apply PickF.t | apply PickF.a)) | (with_reducible refine Sel.nilF (by with_unfolding_all rfl) ?_) | apply Sel.drop | apply Sel.dropF)) ?_)
        rintro _ _ ⟨rfl, rfl⟩
        refine wl rfl (OP.ev rfl rfl (eAs rfl) ?_)
        refine wl_nil ?_
        refine wc_ret ?_
        apply at_ret rfl
        · exact (.cons (.tmp rfl) .nil)
        · exact ⟨rfl, rfl⟩
        · exact (by repeat (first | exact Sel.all | exact Sel.none | exact Sel.hd | (apply Sel.one; · repeat (first | exact Pick.h | apply Pick.t | apply Pick.app)) | apply Sel.app | (with_reducible apply Sel.grp; · repeat (first | exact PickF.h | apply PickF.t | apply PickF.a)) | (with_reducible refine Sel.nilF (by with_unfolding_all rfl) ?_) | apply Sel.drop | apply Sel.dropF)))
    | false =>
      try have c_t28 := df h28
      first
      | (exfalso; omega)
      | (
        first | refine wl_go rfl rfl (OP.ev rfl rfl (eLdW ty39 rfl rfl (by repeat (first | exact Has.h | apply Has.t | apply Has.app)) (by rfl)) ?_) | refine wl_go rfl rfl (OP.ev rfl rfl (eLdA (vs := [_, _, _, _, _, _, _, _]) ty39 rfl rfl (by repeat (first | exact Has.h | apply Has.t | apply Has.app)) (by rfl) (by rfl)) ?_) | refine wl_go rfl rfl (OP.ev rfl rfl (eLdAO ty39 rfl rfl (by assumption) (by assumption)) ?_)
        refine wl_go rfl rfl (oCA rfl pf21 rfl (acts_ok k _) ?_)
        rintro _ _ ⟨rfl, rfl⟩
        refine wl_go rfl rfl (OP.evb rfl rfl (eNot rfl) fun t33 h33 => ?_)
        refine wl rfl (OP.ev rfl rfl (ePk rfl rfl) ?_)
        refine wl_nil ?_
        cases t33 with
        | true =>
          try have c_t33 := dt h33
          first
          | (exfalso; omega)
          | (
            refine wc_then rfl ?_
            refine wc_seq ?_
            refine wc_region ?_
            refine wl rfl (oC rfl pf13 rfl (awake_ok _) (by repeat (first | exact Sel.all | exact Sel.none | exact Sel.hd | (apply Sel.one; · repeat (first | exact Pick.h | apply Pick.t | apply Pick.app)) | apply Sel.app | (with_reducible apply Sel.grp; · repeat (first | exact PickF.h | apply PickF.t | apply PickF.a)) | (with_reducible refine Sel.nilF (by with_unfolding_all rfl) ?_) | apply Sel.drop | apply Sel.dropF)) ?_)
            rintro _ _ ⟨rfl, rfl⟩
            refine wl rfl (OP.ev rfl rfl (eAs rfl) ?_)
            refine wl_nil ?_
            refine wc_ret ?_
            apply at_ret rfl
            · exact (.cons (.tmp rfl) .nil)
            · exact ⟨rfl, rfl⟩
            · exact (by repeat (first | exact Sel.all | exact Sel.none | exact Sel.hd | (apply Sel.one; · repeat (first | exact Pick.h | apply Pick.t | apply Pick.app)) | apply Sel.app | (with_reducible apply Sel.grp; · repeat (first | exact PickF.h | apply PickF.t | apply PickF.a)) | (with_reducible refine Sel.nilF (by with_unfolding_all rfl) ?_) | apply Sel.drop | apply Sel.dropF)))
        | false =>
          try have c_t33 := df h33
          first
          | (exfalso; omega)
          | (
            refine wc_else rfl ?_
            refine wc_skip ?_
            refine wc_seq ?_
            refine wc_region ?_
            refine wl rfl (OP.ev rfl rfl (eMv rfl) ?_)
            refine wl rfl (oC rfl pf14 rfl (start_ok b _ D _ hD) (by repeat (first | exact Sel.all | exact Sel.none | exact Sel.hd | (apply Sel.one; · repeat (first | exact Pick.h | apply Pick.t | apply Pick.app)) | apply Sel.app | (with_reducible apply Sel.grp; · repeat (first | exact PickF.h | apply PickF.t | apply PickF.a)) | (with_reducible refine Sel.nilF (by with_unfolding_all rfl) ?_) | apply Sel.drop | apply Sel.dropF)) ?_)
            rintro _ _ ⟨rfl, D1, I1, hI1, hD1, rfl⟩
            refine wl_nil ?_
            refine wc_seq ?_
            refine wc_region ?_
            refine wl rfl (OP.ev rfl rfl (eMv rfl) ?_)
            refine wl rfl (oC rfl pf15 rfl (arm_ok b _ 0 0 0 D1 _ hD1) (by repeat (first | exact Sel.all | exact Sel.none | exact Sel.hd | (apply Sel.one; · repeat (first | exact Pick.h | apply Pick.t | apply Pick.app)) | apply Sel.app | (with_reducible apply Sel.grp; · repeat (first | exact PickF.h | apply PickF.t | apply PickF.a)) | (with_reducible refine Sel.nilF (by with_unfolding_all rfl) ?_) | apply Sel.drop | apply Sel.dropF)) ?_)
            rintro _ _ ⟨rfl, D2, I2, hI2, hD2, rfl⟩
            refine wl_nil ?_
            refine wc_seq ?_
            have hka : k10 k.op < 6 := by simpa using h33
            obtain ⟨hdk, hda⟩ := made_dok (X := []) room (l := l) (fun c hc => hr c hc [])
            have hd2 : DOk (((made room l).start.2).arm 0 0 0).2 := hdk.start.arm (by simp [I64]) (by simp [I64]) (by simp [I64])
            have hcm := calm_of (made room l)
            have ha2 := arm_acts (made room l) 0 0 0
            have hsl := short_len hs
            rw [← ha2] at hda
            clear ha2
            generalize (((made room l).start.2).arm 0 0 0).2 = d at hd2 hcm hD2 hda
            have hd3 := hd2.does (hkw [])
            have hn2 := names_le hd2
            have hn3 := names_le hd3
            refine wc_region ?_
            refine wl rfl (OP.ev rfl rfl (eMv rfl) ?_)
            refine wl rfl (oC rfl pf22 rfl (clone_ok b _ hd2 D2 _ hD2 (by omega)) (by repeat (first | exact Sel.all | exact Sel.none | exact Sel.hd | (apply Sel.one; · repeat (first | exact Pick.h | apply Pick.t | apply Pick.app)) | apply Sel.app | (with_reducible apply Sel.grp; · repeat (first | exact PickF.h | apply PickF.t | apply PickF.a)) | (with_reducible refine Sel.nilF (by with_unfolding_all rfl) ?_) | apply Sel.drop | apply Sel.dropF)) ?_)
            rintro v34 _ ⟨bc, Dc, I4, rfl, hI4, hDc, rfl⟩
            refine wl rfl (OP.ev rfl rfl (eAs rfl) ?_)
            refine wl_nil ?_
            refine wc_seq ?_
            refine wc_region ?_
            refine wl rfl (OP.ev rfl rfl (eMv rfl) ?_)
            first | refine wl rfl (OP.ev rfl rfl (eLdW ty39 rfl rfl (by repeat (first | exact Has.h | apply Has.t | apply Has.app)) (by rfl)) ?_) | refine wl rfl (OP.ev rfl rfl (eLdA (vs := [_, _, _, _, _, _, _, _]) ty39 rfl rfl (by repeat (first | exact Has.h | apply Has.t | apply Has.app)) (by rfl) (by rfl)) ?_) | refine wl rfl (OP.ev rfl rfl (eLdAO ty39 rfl rfl (by assumption) (by assumption)) ?_)
            refine wl rfl (oC rfl pf23 rfl (does_ok b d hd2 k D2 _ (hD2.sel hI4) (hkw _) (by omega)) (by repeat (first | exact Sel.all | exact Sel.none | exact Sel.hd | (apply Sel.one; · repeat (first | exact Pick.h | apply Pick.t | apply Pick.app)) | apply Sel.app | (with_reducible apply Sel.grp; · repeat (first | exact PickF.h | apply PickF.t | apply PickF.a)) | (with_reducible refine Sel.nilF (by with_unfolding_all rfl) ?_) | apply Sel.drop | apply Sel.dropF)) ?_)
            rintro _ _ ⟨rfl, D5, I5, hI5, hD5, rfl⟩
            refine wl_nil ?_
            replace hDc := hDc.sel hI5
            refine wc_seq ?_
            refine wc_seq ?_
            refine wc_region ?_
            refine wl rfl (OP.ev rfl rfl (eMv rfl) ?_)
            refine wl rfl (oC rfl pf17 rfl (list_ok bc d hd2 Dc _ hDc) (by repeat (first | exact Sel.all | exact Sel.none | exact Sel.hd | (apply Sel.one; · repeat (first | exact Pick.h | apply Pick.t | apply Pick.app)) | apply Sel.app | (with_reducible apply Sel.grp; · repeat (first | exact PickF.h | apply PickF.t | apply PickF.a)) | (with_reducible refine Sel.nilF (by with_unfolding_all rfl) ?_) | apply Sel.drop | apply Sel.dropF)) ?_)
            rintro v46 _ ⟨cs46, hrow46, rfl⟩
            refine wl rfl (OP.ev rfl rfl (eMv rfl) ?_)
            refine wl rfl (oC rfl pf17 rfl (list_ok b _ hd3 D5 _ hD5) (by repeat (first | exact Sel.all | exact Sel.none | exact Sel.hd | (apply Sel.one; · repeat (first | exact Pick.h | apply Pick.t | apply Pick.app)) | apply Sel.app | (with_reducible apply Sel.grp; · repeat (first | exact PickF.h | apply PickF.t | apply PickF.a)) | (with_reducible refine Sel.nilF (by with_unfolding_all rfl) ?_) | apply Sel.drop | apply Sel.dropF)) ?_)
            rintro v48 _ ⟨cs48, hrow48, rfl⟩
            refine wl rfl (oApp (m := (d.does k).2.names.length) (news := (d.does k).2.names.map strK) rfl ty33 ty9 rfl rfl rfl hrow46 (by repeat (first | exact At.cell | exact At.h | apply At.t | apply At.a)) (hrow48.rs (by repeat (first | exact At.cell | exact At.h | apply At.t | apply At.a))) (map_strK_one _) (by omega) (by omega) ?_)
            rintro v49 cs49 hrow49 _
            rw [← List.map_append, ← List.length_append] at hrow49
            refine wl rfl (OP.ev rfl rfl (eLenRow ty33 rfl hrow49) ?_)
            refine wl rfl (OP.ev rfl rfl (eMv rfl) ?_)
            refine wl_nil ?_
            refine wc_block ?_
            generalize hns : d.names ++ (d.does k).2.names = ns at hrow49
            have hnl : ns.length ≤ 8192 := by rw [← hns, List.length_append]; omega
            refine wc_loop (σ := Nat) (fun i => [(5, ptr b5), (7, ptr b), (9, ptr bc), (49, v49), (50, i64 (ns.length : Int)), (51, i64 (i : Int))]) (fun i => (b5, .cells (cC k) 39 (0, 0)) :: (ownH v49 cs49 9 ++ (D5 ++ (Dc ++ (I5 ++ []))))) (fun i => i ≤ ns.length) (fun i => ns.length - i) 0 (Nat.zero_le _) ⟨rfl, rfl, rfl, rfl, by rw [← hns, List.length_append]; rfl, rfl, trivial⟩ (by repeat (first | exact Sel.all | exact Sel.none | exact Sel.hd | (apply Sel.one; · repeat (first | exact Pick.h | apply Pick.t | apply Pick.app)) | apply Sel.app | (with_reducible apply Sel.grp; · repeat (first | exact PickF.h | apply PickF.t | apply PickF.a)) | (with_reducible refine Sel.nilF (by with_unfolding_all rfl) ?_) | apply Sel.drop | apply Sel.dropF)) ?_
            rintro i hi
            refine wc_seq ?_
            refine wc_region ?_
            refine wl rfl (OP.evb rfl rfl (eLt rfl rfl) fun t52 h52 => ?_)
            refine wl_nil ?_
            refine wc_seq ?_
            cases t52 with
            | true =>
              try have c_t52 := dt h52
              first
              | (exfalso; omega)
              | (
                refine wc_then rfl ?_
                refine wc_skip ?_
                refine wc_seq ?_
                refine wc_block ?_
                refine wc_seq ?_
                obtain ⟨n, hn⟩ : ∃ n, ns[i]? = some n := ⟨_, List.getElem?_eq_getElem (by omega)⟩
                refine wc_region ?_
                refine wl rfl (OP.ev rfl rfl (eIxS ty33 ty9 rfl (hrow49.rs (by repeat (first | exact At.cell | exact At.h | apply At.t | apply At.a))) rfl (by omega) (by omega)) ?_)
                refine wl rfl (OP.ev rfl rfl (eLdS (u := strK n) ty9 rfl rfl (hrow49.rs (by repeat (first | exact At.cell | exact At.h | apply At.t | apply At.a))) i (by omega) (by simp [hn])) ?_)
                refine wl rfl (OP.ev rfl rfl (eAs rfl) ?_)
                refine wl_nil ?_
                refine wc_seq ?_
                refine wc_region ?_
                refine wl rfl (OP.ev rfl rfl (eMv rfl) ?_)
                refine wl rfl (OP.ev rfl rfl (eMv rfl) ?_)
                refine wl rfl (oC rfl pf16 rfl (read_ok bc d hd2 n Dc _ hDc) (by repeat (first | exact Sel.all | exact Sel.none | exact Sel.hd | (apply Sel.one; · repeat (first | exact Pick.h | apply Pick.t | apply Pick.app)) | apply Sel.app | (with_reducible apply Sel.grp; · repeat (first | exact PickF.h | apply PickF.t | apply PickF.a)) | (with_reducible refine Sel.nilF (by with_unfolding_all rfl) ?_) | apply Sel.drop | apply Sel.dropF)) ?_)
                rintro _ _ ⟨w58, cs58, rfl, hrow58, hB58, rfl⟩
                refine wl rfl (OP.ev rfl rfl (eMv rfl) ?_)
                refine wl rfl (OP.ev rfl rfl (eExt rfl rfl) ?_)
                refine wl rfl (OP.ev rfl rfl (eExt rfl rfl) ?_)
                refine wl rfl (OP.ev rfl rfl (eAs rfl) ?_)
                refine wl rfl (OP.ev rfl rfl (eAs rfl) ?_)
                refine wl_nil ?_
                refine wc_seq ?_
                refine wc_region ?_
                refine wl rfl (OP.ev rfl rfl (eMv rfl) ?_)
                refine wl rfl (OP.ev rfl rfl (eMv rfl) ?_)
                refine wl rfl (oC rfl pf16 rfl (read_ok b _ hd3 n D5 _ hD5) (by repeat (first | exact Sel.all | exact Sel.none | exact Sel.hd | (apply Sel.one; · repeat (first | exact Pick.h | apply Pick.t | apply Pick.app)) | apply Sel.app | (with_reducible apply Sel.grp; · repeat (first | exact PickF.h | apply PickF.t | apply PickF.a)) | (with_reducible refine Sel.nilF (by with_unfolding_all rfl) ?_) | apply Sel.drop | apply Sel.dropF)) ?_)
                rintro _ _ ⟨w64, cs64, rfl, hrow64, hB64, rfl⟩
                refine wl rfl (OP.ev rfl rfl (eMv rfl) ?_)
                refine wl rfl (OP.ev rfl rfl (eExt rfl rfl) ?_)
                refine wl rfl (OP.ev rfl rfl (eExt rfl rfl) ?_)
                refine wl rfl (OP.ev rfl rfl (eAs rfl) ?_)
                refine wl rfl (OP.ev rfl rfl (eAs rfl) ?_)
                refine wl_nil ?_
                refine wc_seq ?_
                by_cases h1 : n = k.name
                · have hb1 : decide (n = k.name) = true := decide_eq_true h1
                  refine wc_region ?_
                  refine wl rfl (OP.ev rfl rfl (eMv rfl) ?_)
                  refine wl rfl (OP.ev rfl rfl (eFld 1 ty39 rfl rfl ty9 rfl) ?_)
                  first | refine wl rfl (OP.ev rfl rfl (eLd ty9 rfl rfl (by repeat (first | exact Has.h | apply Has.t | apply Has.app)) (by rfl)) ?_) | refine wl rfl (OP.ev rfl rfl (eLdO ty9 rfl rfl (by assumption)) ?_)
                  refine wl rfl (OP.ev rfl rfl (eNeKb rfl rfl hb1) ?_)
                  refine wl rfl (OP.ev rfl rfl (eMv rfl) ?_)
                  refine wl_skip rfl rfl rfl rfl rfl ?_
                  refine wl_skip rfl rfl rfl rfl rfl ?_
                  refine wl_skip rfl rfl rfl rfl rfl ?_
                  refine wl_skip rfl rfl rfl rfl rfl ?_
                  refine wl_skip rfl rfl rfl rfl rfl ?_
                  refine wl_skipU rfl rfl rfl rfl ?_
                  refine wl_skipU rfl rfl rfl rfl ?_
                  refine wl_skipU rfl rfl rfl rfl ?_
                  refine wl_skipU rfl rfl rfl rfl ?_
                  refine wl_skipU rfl rfl rfl rfl ?_
                  refine wl_skipU rfl rfl rfl rfl ?_
                  refine wl_skip rfl rfl rfl rfl rfl ?_
                  refine wl rfl (OP.ev rfl rfl (ePk rfl rfl) ?_)
                  refine wl rfl (OP.ev rfl rfl (eMv rfl) ?_)
                  refine wl_skip rfl rfl rfl rfl rfl ?_
                  refine wl_skip rfl rfl rfl rfl rfl ?_
                  refine wl_skip rfl rfl rfl rfl rfl ?_
                  refine wl_skip rfl rfl rfl rfl rfl ?_
                  refine wl_skipU rfl rfl rfl rfl ?_
                  refine wl_skipU rfl rfl rfl rfl ?_
                  refine wl_skipU rfl rfl rfl rfl ?_
                  refine wl_skipU rfl rfl rfl rfl ?_
                  refine wl_skip rfl rfl rfl rfl rfl ?_
                  refine wl rfl (OP.ev rfl rfl (ePk rfl rfl) ?_)
                  refine wl_nil ?_
                  refine wc_else rfl ?_
                  refine wc_skip ?_
                  refine wc_region ?_
                  first | refine wl rfl (OP.ev rfl rfl (eAdd rfl rfl (by omega)) ?_) | refine wl rfl (OP.ev rfl rfl (eAddW rfl rfl) ?_)
                  refine wl rfl (OP.ev rfl rfl (eMv rfl) ?_)
                  refine wl_nil ?_
                  exact ⟨i + 1, by omega, by omega, ⟨rfl, rfl, rfl, rfl, rfl, rfl, trivial⟩, (by repeat (first | exact Sel.all | exact Sel.none | exact Sel.hd | (apply Sel.one; · repeat (first | exact Pick.h | apply Pick.t | apply Pick.app)) | apply Sel.app | (with_reducible apply Sel.grp; · repeat (first | exact PickF.h | apply PickF.t | apply PickF.a)) | (with_reducible refine Sel.nilF (by with_unfolding_all rfl) ?_) | apply Sel.drop | apply Sel.dropF))⟩
                · have hb1 : decide (n = k.name) = false := decide_eq_false h1
                  by_cases h2 : n = k.to_
                  · have hb2 : decide (n = k.to_) = true := decide_eq_true h2
                    by_cases h3 : IntKind.i64.wrap ((IntKind.u64.wrap k.op).tmod 10) = 4
                    · refine wc_region ?_
                      refine wl rfl (OP.ev rfl rfl (eMv rfl) ?_)
                      refine wl rfl (OP.ev rfl rfl (eFld 1 ty39 rfl rfl ty9 rfl) ?_)
                      first | refine wl rfl (OP.ev rfl rfl (eLd ty9 rfl rfl (by repeat (first | exact Has.h | apply Has.t | apply Has.app)) (by rfl)) ?_) | refine wl rfl (OP.ev rfl rfl (eLdO ty9 rfl rfl (by assumption)) ?_)
                      refine wl rfl (OP.ev rfl rfl (eNeKb rfl rfl hb1) ?_)
                      refine wl rfl (OP.ev rfl rfl (eMv rfl) ?_)
                      refine wl_go rfl rfl (OP.ev rfl rfl (eMv rfl) ?_)
                      refine wl_go rfl rfl (OP.ev rfl rfl (eFld 2 ty39 rfl rfl ty9 rfl) ?_)
                      first | refine wl_go rfl rfl (OP.ev rfl rfl (eLd ty9 rfl rfl (by repeat (first | exact Has.h | apply Has.t | apply Has.app)) (by rfl)) ?_) | refine wl_go rfl rfl (OP.ev rfl rfl (eLdO ty9 rfl rfl (by assumption)) ?_)
                      refine wl_go rfl rfl (OP.ev rfl rfl (eNeKb rfl rfl hb2) ?_)
                      refine wl_go rfl rfl (OP.ev rfl rfl (eMv rfl) ?_)
                      refine wl_go rfl rfl (OP.ev rfl rfl (eFld 0 ty39 rfl rfl ty3 rfl) ?_)
                      first | refine wl_go rfl rfl (OP.ev rfl rfl (eLd ty3 rfl rfl (by repeat (first | exact Has.h | apply Has.t | apply Has.app)) (by rfl)) ?_) | refine wl_go rfl rfl (OP.ev rfl rfl (eLdO ty3 rfl rfl (by assumption)) ?_)
                      refine wl_go rfl rfl (OP.ev rfl rfl (eCv ty3 ty44 rfl) ?_)
                      refine wl_go rfl rfl (OP.ev rfl rfl (eRem rfl rfl rfl) ?_)
                      refine wl_go rfl rfl (OP.ev rfl rfl (eCv ty44 ty3 rfl) ?_)
                      refine wl_go rfl rfl (OP.evb rfl rfl (eNe rfl rfl) fun t82 h82 => ?_)
                      refine wl_go rfl rfl (OP.ev rfl rfl (ePk rfl rfl) ?_)
                      refine wl rfl (OP.ev rfl rfl (ePk rfl rfl) ?_)
                      refine wl rfl (OP.ev rfl rfl (eMv rfl) ?_)
                      cases t82 with
                      | true =>
                        try have c_t82 := dt h82
                        first
                        | (exfalso; omega)
                        | (
                          refine wl_go rfl rfl (OP.ev rfl rfl (eMv rfl) ?_)
                          refine wl_go rfl rfl (OP.ev rfl rfl (eMv rfl) ?_)
                          refine wl_go rfl rfl (OP.evb rfl rfl (eNe rfl rfl) fun t88 h88 => ?_)
                          refine wl_go rfl rfl (OP.ev rfl rfl (eMv rfl) ?_)
                          cases t88 with
                          | true =>
                            try have c_t88 := dt h88
                            first
                            | (exfalso; omega)
                            | (
                              refine wl_skip rfl rfl rfl rfl rfl ?_
                              refine wl_skip rfl rfl rfl rfl rfl ?_
                              refine wl_skip rfl rfl rfl rfl rfl ?_
                              refine wl_skip rfl rfl rfl rfl rfl ?_
                              refine wl_go rfl rfl (OP.ev rfl rfl (ePk rfl rfl) ?_)
                              refine wl rfl (OP.ev rfl rfl (ePk rfl rfl) ?_)
                              refine wl_nil ?_
                              refine wc_then rfl ?_
                              refine wc_seq ?_
                              refine wc_region ?_
                              refine wl rfl (OP.ev rfl rfl (eAs rfl) ?_)
                              refine wl_nil ?_
                              refine wc_ret ?_
                              apply at_ret rfl
                              · exact (.cons (.tmp rfl) .nil)
                              · exact ⟨rfl, rfl⟩
                              · exact (by repeat (first | exact Sel.all | exact Sel.none | exact Sel.hd | (apply Sel.one; · repeat (first | exact Pick.h | apply Pick.t | apply Pick.app)) | apply Sel.app | (with_reducible apply Sel.grp; · repeat (first | exact PickF.h | apply PickF.t | apply PickF.a)) | (with_reducible refine Sel.nilF (by with_unfolding_all rfl) ?_) | apply Sel.drop | apply Sel.dropF)))
                          | false =>
                            try have c_t88 := df h88
                            first
                            | (exfalso; omega)
                            | (
                              refine wl_go rfl rfl (OP.ev rfl rfl (eMv rfl) ?_)
                              refine wl_go rfl rfl (OP.ev rfl rfl (eMv rfl) ?_)
                              refine wl_go rfl rfl (oCA rfl pf19 rfl (beq_same w58 w64 _ _ (hrow58.rs (by repeat (first | exact At.cell | exact At.h | apply At.t | apply At.a))) (hrow64.rs (by repeat (first | exact At.cell | exact At.h | apply At.t | apply At.a))) hB58) ?_)
                              rintro _ _ ⟨rfl, rfl⟩
                              refine wl_go rfl rfl (OP.ev rfl rfl (eNot rfl) ?_)
                              refine wl_go rfl rfl (OP.ev rfl rfl (ePk rfl rfl) ?_)
                              refine wl rfl (OP.ev rfl rfl (ePk rfl rfl) ?_)
                              refine wl_nil ?_
                              refine wc_else rfl ?_
                              refine wc_skip ?_
                              refine wc_region ?_
                              first | refine wl rfl (OP.ev rfl rfl (eAdd rfl rfl (by omega)) ?_) | refine wl rfl (OP.ev rfl rfl (eAddW rfl rfl) ?_)
                              refine wl rfl (OP.ev rfl rfl (eMv rfl) ?_)
                              refine wl_nil ?_
                              exact ⟨i + 1, by omega, by omega, ⟨rfl, rfl, rfl, rfl, rfl, rfl, trivial⟩, (by repeat (first | exact Sel.all | exact Sel.none | exact Sel.hd | (apply Sel.one; · repeat (first | exact Pick.h | apply Pick.t | apply Pick.app)) | apply Sel.app | (with_reducible apply Sel.grp; · repeat (first | exact PickF.h | apply PickF.t | apply PickF.a)) | (with_reducible refine Sel.nilF (by with_unfolding_all rfl) ?_) | apply Sel.drop | apply Sel.dropF))⟩))
                      | false =>
                        try have c_t82 := df h82
                        first
                        | (exfalso; omega)
                        | (
                          refine wl_skip rfl rfl rfl rfl rfl ?_
                          refine wl_skip rfl rfl rfl rfl rfl ?_
                          refine wl_skip rfl rfl rfl rfl rfl ?_
                          refine wl_skip rfl rfl rfl rfl rfl ?_
                          refine wl_skipU rfl rfl rfl rfl ?_
                          refine wl_skipU rfl rfl rfl rfl ?_
                          refine wl_skipU rfl rfl rfl rfl ?_
                          refine wl_skipU rfl rfl rfl rfl ?_
                          refine wl_skip rfl rfl rfl rfl rfl ?_
                          refine wl rfl (OP.ev rfl rfl (ePk rfl rfl) ?_)
                          refine wl_nil ?_
                          refine wc_else rfl ?_
                          refine wc_skip ?_
                          refine wc_region ?_
                          first | refine wl rfl (OP.ev rfl rfl (eAdd rfl rfl (by omega)) ?_) | refine wl rfl (OP.ev rfl rfl (eAddW rfl rfl) ?_)
                          refine wl rfl (OP.ev rfl rfl (eMv rfl) ?_)
                          refine wl_nil ?_
                          exact ⟨i + 1, by omega, by omega, ⟨rfl, rfl, rfl, rfl, rfl, rfl, trivial⟩, (by repeat (first | exact Sel.all | exact Sel.none | exact Sel.hd | (apply Sel.one; · repeat (first | exact Pick.h | apply Pick.t | apply Pick.app)) | apply Sel.app | (with_reducible apply Sel.grp; · repeat (first | exact PickF.h | apply PickF.t | apply PickF.a)) | (with_reducible refine Sel.nilF (by with_unfolding_all rfl) ?_) | apply Sel.drop | apply Sel.dropF))⟩)
                    · have hrd := apart_law hcm hka h1 (fun h => h3 h.2)
                      rw [hrd] at hrow64 hB64
                      have hrd2 := congrArg Prod.snd hrd
                      refine wc_region ?_
                      refine wl rfl (OP.ev rfl rfl (eMv rfl) ?_)
                      refine wl rfl (OP.ev rfl rfl (eFld 1 ty39 rfl rfl ty9 rfl) ?_)
                      first | refine wl rfl (OP.ev rfl rfl (eLd ty9 rfl rfl (by repeat (first | exact Has.h | apply Has.t | apply Has.app)) (by rfl)) ?_) | refine wl rfl (OP.ev rfl rfl (eLdO ty9 rfl rfl (by assumption)) ?_)
                      refine wl rfl (OP.ev rfl rfl (eNeKb rfl rfl hb1) ?_)
                      refine wl rfl (OP.ev rfl rfl (eMv rfl) ?_)
                      refine wl_go rfl rfl (OP.ev rfl rfl (eMv rfl) ?_)
                      refine wl_go rfl rfl (OP.ev rfl rfl (eFld 2 ty39 rfl rfl ty9 rfl) ?_)
                      first | refine wl_go rfl rfl (OP.ev rfl rfl (eLd ty9 rfl rfl (by repeat (first | exact Has.h | apply Has.t | apply Has.app)) (by rfl)) ?_) | refine wl_go rfl rfl (OP.ev rfl rfl (eLdO ty9 rfl rfl (by assumption)) ?_)
                      refine wl_go rfl rfl (OP.ev rfl rfl (eNeKb rfl rfl hb2) ?_)
                      refine wl_go rfl rfl (OP.ev rfl rfl (eMv rfl) ?_)
                      refine wl_go rfl rfl (OP.ev rfl rfl (eFld 0 ty39 rfl rfl ty3 rfl) ?_)
                      first | refine wl_go rfl rfl (OP.ev rfl rfl (eLd ty3 rfl rfl (by repeat (first | exact Has.h | apply Has.t | apply Has.app)) (by rfl)) ?_) | refine wl_go rfl rfl (OP.ev rfl rfl (eLdO ty3 rfl rfl (by assumption)) ?_)
                      refine wl_go rfl rfl (OP.ev rfl rfl (eCv ty3 ty44 rfl) ?_)
                      refine wl_go rfl rfl (OP.ev rfl rfl (eRem rfl rfl rfl) ?_)
                      refine wl_go rfl rfl (OP.ev rfl rfl (eCv ty44 ty3 rfl) ?_)
                      refine wl_go rfl rfl (OP.evb rfl rfl (eNe rfl rfl) fun t82 h82 => ?_)
                      refine wl_go rfl rfl (OP.ev rfl rfl (ePk rfl rfl) ?_)
                      refine wl rfl (OP.ev rfl rfl (ePk rfl rfl) ?_)
                      refine wl rfl (OP.ev rfl rfl (eMv rfl) ?_)
                      cases t82 with
                      | true =>
                        try have c_t82 := dt h82
                        first
                        | (exfalso; omega)
                        | (
                          refine wl_go rfl rfl (OP.ev rfl rfl (eMv rfl) ?_)
                          refine wl_go rfl rfl (OP.ev rfl rfl (eMv rfl) ?_)
                          refine wl_go rfl rfl (OP.evb rfl rfl (eNe rfl rfl) fun t88 h88 => ?_)
                          refine wl_go rfl rfl (OP.ev rfl rfl (eMv rfl) ?_)
                          cases t88 with
                          | true =>
                            try have c_t88 := dt h88
                            first
                            | (exfalso; omega)
                            | (
                              refine wl_skip rfl rfl rfl rfl rfl ?_
                              refine wl_skip rfl rfl rfl rfl rfl ?_
                              refine wl_skip rfl rfl rfl rfl rfl ?_
                              refine wl_skip rfl rfl rfl rfl rfl ?_
                              refine wl_go rfl rfl (OP.ev rfl rfl (ePk rfl rfl) ?_)
                              refine wl rfl (OP.ev rfl rfl (ePk rfl rfl) ?_)
                              refine wl_nil ?_
                              refine wc_then rfl ?_
                              refine wc_seq ?_
                              refine wc_region ?_
                              refine wl rfl (OP.ev rfl rfl (eAs rfl) ?_)
                              refine wl_nil ?_
                              refine wc_ret ?_
                              apply at_ret rfl
                              · exact (.cons (.tmp rfl) .nil)
                              · exact ⟨rfl, rfl⟩
                              · exact (by repeat (first | exact Sel.all | exact Sel.none | exact Sel.hd | (apply Sel.one; · repeat (first | exact Pick.h | apply Pick.t | apply Pick.app)) | apply Sel.app | (with_reducible apply Sel.grp; · repeat (first | exact PickF.h | apply PickF.t | apply PickF.a)) | (with_reducible refine Sel.nilF (by with_unfolding_all rfl) ?_) | apply Sel.drop | apply Sel.dropF)))
                          | false =>
                            try have c_t88 := df h88
                            first
                            | (exfalso; omega)
                            | (
                              refine wl_go rfl rfl (OP.ev rfl rfl (eMv rfl) ?_)
                              refine wl_go rfl rfl (OP.ev rfl rfl (eMv rfl) ?_)
                              refine wl_go rfl rfl (oCA rfl pf19 rfl (beq_same w58 w64 _ _ (hrow58.rs (by repeat (first | exact At.cell | exact At.h | apply At.t | apply At.a))) (hrow64.rs (by repeat (first | exact At.cell | exact At.h | apply At.t | apply At.a))) hB58) ?_)
                              rintro _ _ ⟨rfl, rfl⟩
                              refine wl_go rfl rfl (OP.ev rfl rfl (eNot rfl) ?_)
                              refine wl_go rfl rfl (OP.ev rfl rfl (ePk rfl rfl) ?_)
                              refine wl rfl (OP.ev rfl rfl (ePk rfl rfl) ?_)
                              refine wl_nil ?_
                              refine wc_else rfl ?_
                              refine wc_skip ?_
                              refine wc_region ?_
                              first | refine wl rfl (OP.ev rfl rfl (eAdd rfl rfl (by omega)) ?_) | refine wl rfl (OP.ev rfl rfl (eAddW rfl rfl) ?_)
                              refine wl rfl (OP.ev rfl rfl (eMv rfl) ?_)
                              refine wl_nil ?_
                              exact ⟨i + 1, by omega, by omega, ⟨rfl, rfl, rfl, rfl, rfl, rfl, trivial⟩, (by repeat (first | exact Sel.all | exact Sel.none | exact Sel.hd | (apply Sel.one; · repeat (first | exact Pick.h | apply Pick.t | apply Pick.app)) | apply Sel.app | (with_reducible apply Sel.grp; · repeat (first | exact PickF.h | apply PickF.t | apply PickF.a)) | (with_reducible refine Sel.nilF (by with_unfolding_all rfl) ?_) | apply Sel.drop | apply Sel.dropF))⟩))
                      | false =>
                        try have c_t82 := df h82
                        first
                        | (exfalso; omega)
                        | (
                          refine wl_skip rfl rfl rfl rfl rfl ?_
                          refine wl_skip rfl rfl rfl rfl rfl ?_
                          refine wl_skip rfl rfl rfl rfl rfl ?_
                          refine wl_skip rfl rfl rfl rfl rfl ?_
                          refine wl_skipU rfl rfl rfl rfl ?_
                          refine wl_skipU rfl rfl rfl rfl ?_
                          refine wl_skipU rfl rfl rfl rfl ?_
                          refine wl_skipU rfl rfl rfl rfl ?_
                          refine wl_skip rfl rfl rfl rfl rfl ?_
                          refine wl rfl (OP.ev rfl rfl (ePk rfl rfl) ?_)
                          refine wl_nil ?_
                          refine wc_else rfl ?_
                          refine wc_skip ?_
                          refine wc_region ?_
                          first | refine wl rfl (OP.ev rfl rfl (eAdd rfl rfl (by omega)) ?_) | refine wl rfl (OP.ev rfl rfl (eAddW rfl rfl) ?_)
                          refine wl rfl (OP.ev rfl rfl (eMv rfl) ?_)
                          refine wl_nil ?_
                          exact ⟨i + 1, by omega, by omega, ⟨rfl, rfl, rfl, rfl, rfl, rfl, trivial⟩, (by repeat (first | exact Sel.all | exact Sel.none | exact Sel.hd | (apply Sel.one; · repeat (first | exact Pick.h | apply Pick.t | apply Pick.app)) | apply Sel.app | (with_reducible apply Sel.grp; · repeat (first | exact PickF.h | apply PickF.t | apply PickF.a)) | (with_reducible refine Sel.nilF (by with_unfolding_all rfl) ?_) | apply Sel.drop | apply Sel.dropF))⟩)
                  · have hb2 : decide (n = k.to_) = false := decide_eq_false h2
                    have hrd := apart_law hcm hka h1 (fun h => h2 h.1)
                    rw [hrd] at hrow64 hB64
                    have hrd2 := congrArg Prod.snd hrd
                    refine wc_region ?_
                    refine wl rfl (OP.ev rfl rfl (eMv rfl) ?_)
                    refine wl rfl (OP.ev rfl rfl (eFld 1 ty39 rfl rfl ty9 rfl) ?_)
                    first | refine wl rfl (OP.ev rfl rfl (eLd ty9 rfl rfl (by repeat (first | exact Has.h | apply Has.t | apply Has.app)) (by rfl)) ?_) | refine wl rfl (OP.ev rfl rfl (eLdO ty9 rfl rfl (by assumption)) ?_)
                    refine wl rfl (OP.ev rfl rfl (eNeKb rfl rfl hb1) ?_)
                    refine wl rfl (OP.ev rfl rfl (eMv rfl) ?_)
                    refine wl_go rfl rfl (OP.ev rfl rfl (eMv rfl) ?_)
                    refine wl_go rfl rfl (OP.ev rfl rfl (eFld 2 ty39 rfl rfl ty9 rfl) ?_)
                    first | refine wl_go rfl rfl (OP.ev rfl rfl (eLd ty9 rfl rfl (by repeat (first | exact Has.h | apply Has.t | apply Has.app)) (by rfl)) ?_) | refine wl_go rfl rfl (OP.ev rfl rfl (eLdO ty9 rfl rfl (by assumption)) ?_)
                    refine wl_go rfl rfl (OP.ev rfl rfl (eNeKb rfl rfl hb2) ?_)
                    refine wl_go rfl rfl (OP.ev rfl rfl (eMv rfl) ?_)
                    refine wl_skip rfl rfl rfl rfl rfl ?_
                    refine wl_skip rfl rfl rfl rfl rfl ?_
                    refine wl_skip rfl rfl rfl rfl rfl ?_
                    refine wl_skip rfl rfl rfl rfl rfl ?_
                    refine wl_skip rfl rfl rfl rfl rfl ?_
                    refine wl_skip rfl rfl rfl rfl rfl ?_
                    refine wl_go rfl rfl (OP.ev rfl rfl (ePk rfl rfl) ?_)
                    refine wl rfl (OP.ev rfl rfl (ePk rfl rfl) ?_)
                    refine wl rfl (OP.ev rfl rfl (eMv rfl) ?_)
                    refine wl_go rfl rfl (OP.ev rfl rfl (eMv rfl) ?_)
                    refine wl_go rfl rfl (OP.ev rfl rfl (eMv rfl) ?_)
                    refine wl_go rfl rfl (OP.evb rfl rfl (eNe rfl rfl) fun t88 h88 => ?_)
                    refine wl_go rfl rfl (OP.ev rfl rfl (eMv rfl) ?_)
                    cases t88 with
                    | true =>
                      try have c_t88 := dt h88
                      first
                      | (exfalso; omega)
                      | (
                        refine wl_skip rfl rfl rfl rfl rfl ?_
                        refine wl_skip rfl rfl rfl rfl rfl ?_
                        refine wl_skip rfl rfl rfl rfl rfl ?_
                        refine wl_skip rfl rfl rfl rfl rfl ?_
                        refine wl_go rfl rfl (OP.ev rfl rfl (ePk rfl rfl) ?_)
                        refine wl rfl (OP.ev rfl rfl (ePk rfl rfl) ?_)
                        refine wl_nil ?_
                        refine wc_then rfl ?_
                        refine wc_seq ?_
                        refine wc_region ?_
                        refine wl rfl (OP.ev rfl rfl (eAs rfl) ?_)
                        refine wl_nil ?_
                        refine wc_ret ?_
                        apply at_ret rfl
                        · exact (.cons (.tmp rfl) .nil)
                        · exact ⟨rfl, rfl⟩
                        · exact (by repeat (first | exact Sel.all | exact Sel.none | exact Sel.hd | (apply Sel.one; · repeat (first | exact Pick.h | apply Pick.t | apply Pick.app)) | apply Sel.app | (with_reducible apply Sel.grp; · repeat (first | exact PickF.h | apply PickF.t | apply PickF.a)) | (with_reducible refine Sel.nilF (by with_unfolding_all rfl) ?_) | apply Sel.drop | apply Sel.dropF)))
                    | false =>
                      try have c_t88 := df h88
                      first
                      | (exfalso; omega)
                      | (
                        refine wl_go rfl rfl (OP.ev rfl rfl (eMv rfl) ?_)
                        refine wl_go rfl rfl (OP.ev rfl rfl (eMv rfl) ?_)
                        refine wl_go rfl rfl (oCA rfl pf19 rfl (beq_same w58 w64 _ _ (hrow58.rs (by repeat (first | exact At.cell | exact At.h | apply At.t | apply At.a))) (hrow64.rs (by repeat (first | exact At.cell | exact At.h | apply At.t | apply At.a))) hB58) ?_)
                        rintro _ _ ⟨rfl, rfl⟩
                        refine wl_go rfl rfl (OP.ev rfl rfl (eNot rfl) ?_)
                        refine wl_go rfl rfl (OP.ev rfl rfl (ePk rfl rfl) ?_)
                        refine wl rfl (OP.ev rfl rfl (ePk rfl rfl) ?_)
                        refine wl_nil ?_
                        refine wc_else rfl ?_
                        refine wc_skip ?_
                        refine wc_region ?_
                        first | refine wl rfl (OP.ev rfl rfl (eAdd rfl rfl (by omega)) ?_) | refine wl rfl (OP.ev rfl rfl (eAddW rfl rfl) ?_)
                        refine wl rfl (OP.ev rfl rfl (eMv rfl) ?_)
                        refine wl_nil ?_
                        exact ⟨i + 1, by omega, by omega, ⟨rfl, rfl, rfl, rfl, rfl, rfl, trivial⟩, (by repeat (first | exact Sel.all | exact Sel.none | exact Sel.hd | (apply Sel.one; · repeat (first | exact Pick.h | apply Pick.t | apply Pick.app)) | apply Sel.app | (with_reducible apply Sel.grp; · repeat (first | exact PickF.h | apply PickF.t | apply PickF.a)) | (with_reducible refine Sel.nilF (by with_unfolding_all rfl) ?_) | apply Sel.drop | apply Sel.dropF))⟩))
            | false =>
              try have c_t52 := df h52
              first
              | (exfalso; omega)
              | (
                refine wc_else rfl ?_
                refine wc_exit rfl ?_
                refine wc_seq ?_
                refine wc_region ?_
                refine wl rfl (oC rfl pf13 rfl (awake_ok _) (by repeat (first | exact Sel.all | exact Sel.none | exact Sel.hd | (apply Sel.one; · repeat (first | exact Pick.h | apply Pick.t | apply Pick.app)) | apply Sel.app | (with_reducible apply Sel.grp; · repeat (first | exact PickF.h | apply PickF.t | apply PickF.a)) | (with_reducible refine Sel.nilF (by with_unfolding_all rfl) ?_) | apply Sel.drop | apply Sel.dropF)) ?_)
                rintro _ _ ⟨rfl, rfl⟩
                refine wl rfl (OP.ev rfl rfl (eAs rfl) ?_)
                refine wl_nil ?_
                refine wc_ret ?_
                apply at_ret rfl
                · exact (.cons (.tmp rfl) .nil)
                · exact ⟨rfl, rfl⟩
                · exact (by repeat (first | exact Sel.all | exact Sel.none | exact Sel.hd | (apply Sel.one; · repeat (first | exact Pick.h | apply Pick.t | apply Pick.app)) | apply Sel.app | (with_reducible apply Sel.grp; · repeat (first | exact PickF.h | apply PickF.t | apply PickF.a)) | (with_reducible refine Sel.nilF (by with_unfolding_all rfl) ?_) | apply Sel.drop | apply Sel.dropF)))))
end Go.Proofs.Ytahjgjmemijofaa
