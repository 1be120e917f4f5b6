/- The walk of DiskPrefix. -/
import Derived.Test.YtahjgjmemijofaaLw5
namespace Go.Proofs.Ytahjgjmemijofaa
open Go Eng
set_option linter.unusedVariables false
set_option maxRecDepth 4000
variable {W0 : World} {I I' : Heap}

theorem prefix_ok (room : Int) (v1 v2 : Value) (l l2 : List Do) (keep0 : Int) (hv : ∀ L, Rs W0 L v1 8 l.length (dos l)) (hr : ∀ c ∈ l, ∀ X, DoR W0 X c) (hl : l.length ≤ 9223372036854775807)
    (hv2 : ∀ L, Rs W0 L v2 8 l2.length (dos l2)) (hr2 : ∀ c ∈ l2, ∀ X, DoR W0 X c) (hl2 : l2.length ≤ 9223372036854775807) :
    FnC W0 Try.prog 10 #[i64 room, v1, v2, i64 keep0] [] (fun v' L' => v' = .bool true ∧ L' = []) := by
  have hkr := rm_range keep0 (m := 121) (by decide) (by decide)
  have hkn : ∃ keep : Nat, rm keep0 121 = (keep : Int) := ⟨(rm keep0 121).toNat, by omega⟩
  obtain ⟨keep, hkeep⟩ := hkn
  have hkeep' : IntKind.i64.wrap ((IntKind.u64.wrap keep0).tmod 121) = (keep : Int) := hkeep
  refine fn_of Try.func10 rfl Try.ntmps10 rfl rfl ?_
  refine wc_seq ?_
  refine wc_region ?_
  refine wl rfl (OP.ev rfl rfl (eAs rfl) ?_)
  refine wl_nil ?_
  refine wc_seq ?_
  refine wc_region ?_
  refine wl rfl (OP.ev rfl rfl (eMv rfl) ?_)
  refine wl rfl (OP.ev rfl rfl (eMv rfl) ?_)
  refine wl rfl (oCA rfl pf12 rfl (made_ok room v1 l _ (hv _) (fun c hc => hr c hc _) hl) ?_)
  rintro _ _ (⟨hs, x, rfl, rfl⟩ | ⟨hs, b, D, I, rfl, hD, rfl⟩)
  · refine wl rfl (OP.ev rfl rfl (eMv rfl) ?_)
    refine wl rfl (OP.ev rfl rfl (eExt rfl rfl) ?_)
    refine wl rfl (OP.ev rfl rfl (eExt rfl rfl) ?_)
    refine wl rfl (OP.ev rfl rfl (eAs rfl) ?_)
    refine wl rfl (OP.ev rfl rfl (eAs rfl) ?_)
    refine wl_nil ?_
    refine wc_seq ?_
    refine wc_seq ?_
    refine wc_region ?_
    refine wl rfl (OP.ev rfl rfl (eMv rfl) ?_)
    refine wl rfl (OP.ev rfl rfl (eNot rfl) ?_)
    refine wl rfl (OP.ev rfl rfl (eMv rfl) ?_)
    refine wl_skip rfl rfl rfl rfl rfl ?_
    refine wl_skip rfl rfl rfl rfl rfl ?_
    refine wl_skip rfl rfl rfl rfl rfl ?_
    refine wl rfl (OP.ev rfl rfl (ePk rfl rfl) ?_)
    refine wl_nil ?_
    refine wc_then rfl ?_
    refine wc_seq ?_
    refine wc_region ?_
    refine wl rfl (oC rfl pf13 rfl (awake_ok _) (by repeat (first | exact Sel.all | exact Sel.none | exact Sel.hd | (apply Sel.one; · repeat (first | exact Pick.h | apply Pick.t | apply Pick.app)) | apply Sel.app | (with_reducible apply Sel.grp; · repeat (first | exact PickF.h | apply PickF.t | apply PickF.a)) | (with_reducible refine Sel.nilF (by with_unfolding_all rfl) ?_) | apply Sel.drop | apply Sel.dropF)) ?_)
    rintro _ _ ⟨rfl, rfl⟩
    refine wl rfl (OP.ev rfl rfl (eAs rfl) ?_)
    refine wl_nil ?_
    refine wc_ret ?_
    apply at_ret rfl
    · exact (.cons (.tmp rfl) .nil)
    · exact ⟨rfl, rfl⟩
    · exact (by repeat (first | exact Sel.all | exact Sel.none | exact Sel.hd | (apply Sel.one; · repeat (first | exact Pick.h | apply Pick.t | apply Pick.app)) | apply Sel.app | (with_reducible apply Sel.grp; · repeat (first | exact PickF.h | apply PickF.t | apply PickF.a)) | (with_reducible refine Sel.nilF (by with_unfolding_all rfl) ?_) | apply Sel.drop | apply Sel.dropF))
  · refine wl rfl (OP.ev rfl rfl (eMv rfl) ?_)
    refine wl rfl (OP.ev rfl rfl (eExt rfl rfl) ?_)
    refine wl rfl (OP.ev rfl rfl (eExt rfl rfl) ?_)
    refine wl rfl (OP.ev rfl rfl (eAs rfl) ?_)
    refine wl rfl (OP.ev rfl rfl (eAs rfl) ?_)
    refine wl_nil ?_
    refine wc_seq ?_
    refine wc_seq ?_
    refine wc_region ?_
    refine wl rfl (OP.ev rfl rfl (eMv rfl) ?_)
    refine wl rfl (OP.ev rfl rfl (eNot rfl) ?_)
    refine wl rfl (OP.ev rfl rfl (eMv rfl) ?_)
    refine wl_go rfl rfl (OP.ev rfl rfl (eMv rfl) ?_)
    refine wl_go rfl rfl (oCA rfl pf20 rfl (short_ok v2 l2 _ (hv2 _) (fun c hc => hr2 c hc _) hl2) ?_)
    rintro _ _ ⟨rfl, rfl⟩
    refine wl_go rfl rfl (OP.evb rfl rfl (eNot rfl) fun t25 h25 => ?_)
    refine wl rfl (OP.ev rfl rfl (ePk rfl rfl) ?_)
    refine wl_nil ?_
    cases t25 with
    | true =>
      try have c_t25 := dt h25
      first
      | (exfalso; omega)
      | (
        refine wc_then rfl ?_
        refine wc_seq ?_
        refine wc_region ?_
        refine wl rfl (oC rfl pf13 rfl (awake_ok _) (by repeat (first | exact Sel.all | exact Sel.none | exact Sel.hd | (apply Sel.one; · repeat (first | exact Pick.h | apply Pick.t | apply Pick.app)) | apply Sel.app | (with_reducible apply Sel.grp; · repeat (first | exact PickF.h | apply PickF.t | apply PickF.a)) | (with_reducible refine Sel.nilF (by with_unfolding_all rfl) ?_) | apply Sel.drop | apply Sel.dropF)) ?_)
        rintro _ _ ⟨rfl, rfl⟩
        refine wl rfl (OP.ev rfl rfl (eAs rfl) ?_)
        refine wl_nil ?_
        refine wc_ret ?_
        apply at_ret rfl
        · exact (.cons (.tmp rfl) .nil)
        · exact ⟨rfl, rfl⟩
        · exact (by repeat (first | exact Sel.all | exact Sel.none | exact Sel.hd | (apply Sel.one; · repeat (first | exact Pick.h | apply Pick.t | apply Pick.app)) | apply Sel.app | (with_reducible apply Sel.grp; · repeat (first | exact PickF.h | apply PickF.t | apply PickF.a)) | (with_reducible refine Sel.nilF (by with_unfolding_all rfl) ?_) | apply Sel.drop | apply Sel.dropF)))
    | false =>
      try have c_t25 := df h25
      first
      | (exfalso; omega)
      | (
        refine wc_else rfl ?_
        refine wc_skip ?_
        refine wc_seq ?_
        refine wc_region ?_
        refine wl rfl (OP.ev rfl rfl (eMv rfl) ?_)
        refine wl rfl (oC rfl pf14 rfl (start_ok b _ D _ hD) (by repeat (first | exact Sel.all | exact Sel.none | exact Sel.hd | (apply Sel.one; · repeat (first | exact Pick.h | apply Pick.t | apply Pick.app)) | apply Sel.app | (with_reducible apply Sel.grp; · repeat (first | exact PickF.h | apply PickF.t | apply PickF.a)) | (with_reducible refine Sel.nilF (by with_unfolding_all rfl) ?_) | apply Sel.drop | apply Sel.dropF)) ?_)
        rintro _ _ ⟨rfl, D1, I1, hI1, hD1, rfl⟩
        refine wl_nil ?_
        refine wc_seq ?_
        refine wc_region ?_
        refine wl rfl (OP.ev rfl rfl (eMv rfl) ?_)
        refine wl rfl (oC rfl pf15 rfl (arm_ok b _ 0 0 0 D1 _ hD1) (by repeat (first | exact Sel.all | exact Sel.none | exact Sel.hd | (apply Sel.one; · repeat (first | exact Pick.h | apply Pick.t | apply Pick.app)) | apply Sel.app | (with_reducible apply Sel.grp; · repeat (first | exact PickF.h | apply PickF.t | apply PickF.a)) | (with_reducible refine Sel.nilF (by with_unfolding_all rfl) ?_) | apply Sel.drop | apply Sel.dropF)) ?_)
        rintro _ _ ⟨rfl, D2, I2, hI2, hD2, rfl⟩
        refine wl_nil ?_
        refine wc_seq ?_
        obtain ⟨hdk, hda⟩ := made_dok (X := []) room (l := l) (fun c hc => hr c hc [])
        have hd2 : DOk (((made room l).start.2).arm 0 0 0).2 := hdk.start.arm (by simp [I64]) (by simp [I64]) (by simp [I64])
        have hcm := calm_of (made room l)
        have ha2 := arm_acts (made room l) 0 0 0
        have hsl := short_len hs
        have hsl2 := short_len (l := l2) (by simpa using h25)
        rw [← ha2] at hda
        clear ha2
        generalize (((made room l).start.2).arm 0 0 0).2 = d at hd2 hcm hD2 hda
        have hd3 := hd2.sync
        obtain ⟨sc, sa⟩ := sync_calm hcm
        refine wc_region ?_
        refine wl rfl (OP.ev rfl rfl (eMv rfl) ?_)
        refine wl rfl (oC rfl pf41 rfl (sync_ok b d hd2 D2 _ hD2 (by omega)) (by repeat (first | exact Sel.all | exact Sel.none | exact Sel.hd | (apply Sel.one; · repeat (first | exact Pick.h | apply Pick.t | apply Pick.app)) | apply Sel.app | (with_reducible apply Sel.grp; · repeat (first | exact PickF.h | apply PickF.t | apply PickF.a)) | (with_reducible refine Sel.nilF (by with_unfolding_all rfl) ?_) | apply Sel.drop | apply Sel.dropF)) ?_)
        rintro _ _ ⟨rfl, D3, I3, hI3, hD3, rfl⟩
        refine wl_nil ?_
        refine wc_seq ?_
        refine wc_region ?_
        refine wl rfl (OP.ev rfl rfl (eMv rfl) ?_)
        refine wl rfl (oC rfl pf22 rfl (clone_ok b _ hd3 D3 _ hD3 (by rw [sa]; simp)) (by repeat (first | exact Sel.all | exact Sel.none | exact Sel.hd | (apply Sel.one; · repeat (first | exact Pick.h | apply Pick.t | apply Pick.app)) | apply Sel.app | (with_reducible apply Sel.grp; · repeat (first | exact PickF.h | apply PickF.t | apply PickF.a)) | (with_reducible refine Sel.nilF (by with_unfolding_all rfl) ?_) | apply Sel.drop | apply Sel.dropF)) ?_)
        rintro v34 _ ⟨bc, Dc, I4, rfl, hI4, hDc, rfl⟩
        refine wl rfl (OP.ev rfl rfl (eAs rfl) ?_)
        refine wl_nil ?_
        have hD4 := hD3.sel hI4
        generalize d.sync.2 = d0 at hd3 sc sa hDc hD4
        refine wc_seq ?_
        refine wc_region ?_
        refine wl rfl (OP.ev rfl rfl (eMv rfl) ?_)
        refine wl rfl (OP.ev rfl rfl (eCv ty3 ty44 rfl) ?_)
        refine wl rfl (OP.ev rfl rfl (eRem rfl rfl rfl) ?_)
        refine wl rfl (OP.ev rfl rfl (eCv ty44 ty3 rfl) ?_)
        refine wl rfl (OP.ev rfl rfl (eAs rfl) ?_)
        refine wl_nil ?_
        rw [hkeep']
        refine wc_seq ?_
        refine wc_seq ?_
        refine wc_region ?_
        refine wl rfl (OP.ev rfl rfl (eMv rfl) ?_)
        refine wl rfl (OP.ev rfl rfl (eLenR ty22 rfl (hv2 _)) ?_)
        refine wl rfl (OP.ev rfl rfl (eMv rfl) ?_)
        refine wl_nil ?_
        refine wc_block ?_
        refine wc_loop (σ := Nat × DK × DK × Heap × Heap × Heap) (fun q => [(3, i64 (keep : Int)), (9, ptr b), (11, ptr bc), (40, v2), (41, i64 (l2.length : Int)), (42, i64 (q.1 : Int))]) (fun q => q.2.2.2.1 ++ (q.2.2.2.2.1 ++ (q.2.2.2.2.2 ++ []))) (fun q => q.1 ≤ l2.length ∧ PreI keep q.2.1 q.2.2.1 ∧ DOk q.2.1 ∧ DOk q.2.2.1 ∧ DiskR W0 q.2.2.2.2.2 q.2.1 b q.2.2.2.1 ∧ DiskR W0 q.2.2.2.2.2 q.2.2.1 bc q.2.2.2.2.1 ∧ q.2.1.acts.length ≤ q.1 ∧ q.2.2.1.acts.length ≤ q.1) (fun q => l2.length - q.1) (0, d0, d0, D3, Dc, I4) ⟨Nat.zero_le _, PreI.start sc sa, hd3, hd3, hD4, hDc, by show d0.acts.length ≤ 0; rw [sa]; simp, by show d0.acts.length ≤ 0; rw [sa]; simp⟩ ⟨rfl, rfl, rfl, rfl, rfl, rfl, trivial⟩ (by repeat (first | exact Sel.all | exact Sel.none | exact Sel.hd | (apply Sel.one; · repeat (first | exact Pick.h | apply Pick.t | apply Pick.app)) | apply Sel.app | (with_reducible apply Sel.grp; · repeat (first | exact PickF.h | apply PickF.t | apply PickF.a)) | (with_reducible refine Sel.nilF (by with_unfolding_all rfl) ?_) | apply Sel.drop | apply Sel.dropF)) ?_
        rintro ⟨i, d1, c1, D5, Dc5, I5⟩ ⟨hi, hP, hdo, hco, hD5, hDc5, hda5, hca5⟩
        dsimp only at hi hP hdo hco hD5 hDc5 hda5 hca5 ⊢
        refine wc_seq ?_
        refine wc_region ?_
        refine wl rfl (OP.evb rfl rfl (eLt rfl rfl) fun t43 h43 => ?_)
        refine wl_nil ?_
        refine wc_seq ?_
        cases t43 with
        | true =>
          try have c_t43 := dt h43
          first
          | (exfalso; omega)
          | (
            refine wc_then rfl ?_
            refine wc_skip ?_
            refine wc_seq ?_
            refine wc_block ?_
            refine wc_seq ?_
            obtain ⟨k, hk⟩ : ∃ k, l2[i]? = some k := ⟨_, List.getElem?_eq_getElem (by omega)⟩
            have hkr2 := hr2 k (List.mem_of_getElem? hk)
            have hda6 := (does_acts d1 k).1
            have hca6 := (does_acts c1 k).1
            have hdo6 := hdo.does (hkr2 [])
            have hco6 := hco.does (hkr2 [])
            refine wc_region ?_
            refine wl rfl (OP.ev rfl rfl (eIxS ty22 ty39 rfl (hv2 _) rfl (by omega) (by omega)) ?_)
            refine wl rfl (OP.ev rfl rfl (eLdSA (vs := (cC k).toList) ty39 rfl rfl (hv2 _) (i * 8) (by omega) rfl (dos_at hk) (by decide)) ?_)
            refine wl rfl (oAl rfl ty39 rfl fun b13 => ?_)
            refine wl rfl (oStW ty39 rfl rfl rfl (cC_one (hkr2 [])) (by repeat (first | exact Upd.h | apply Upd.t | apply Upd.app)) (by rfl) ?_)
            refine wl_nil ?_
            refine wc_seq ?_
            refine wc_seq ?_
            refine wc_region ?_
            first | refine wl rfl (OP.ev rfl rfl (eLdW ty39 rfl rfl (by repeat (first | exact Has.h | apply Has.t | apply Has.app)) (by rfl)) ?_) | refine wl rfl (OP.ev rfl rfl (eLdA (vs := [_, _, _, _, _, _, _, _]) ty39 rfl rfl (by repeat (first | exact Has.h | apply Has.t | apply Has.app)) (by rfl) (by rfl)) ?_) | refine wl rfl (OP.ev rfl rfl (eLdAO ty39 rfl rfl (by assumption) (by assumption)) ?_)
            refine wl rfl (oCA rfl pf21 rfl (acts_ok k _) ?_)
            rintro _ _ ⟨rfl, rfl⟩
            refine wl rfl (OP.evb rfl rfl (eNot rfl) fun t48 h48 => ?_)
            refine wl_nil ?_
            cases t48 with
            | true =>
              try have c_t48 := dt h48
              first
              | (exfalso; omega)
              | (
                refine wc_then rfl ?_
                refine wc_exit rfl ?_
                refine wc_region ?_
                first | refine wl rfl (OP.ev rfl rfl (eAdd rfl rfl (by omega)) ?_) | refine wl rfl (OP.ev rfl rfl (eAddW rfl rfl) ?_)
                refine wl rfl (OP.ev rfl rfl (eMv rfl) ?_)
                refine wl_nil ?_
                first
                | exact ⟨(i + 1, (d1.does k).2, (c1.does k).2, D6, Dc7, I7), ⟨by show i + 1 ≤ _; omega, hP2, hdo6, hco6, hD6.sel hI7, hDc7, by show (d1.does k).2.acts.length ≤ i + 1; omega, by show (c1.does k).2.acts.length ≤ i + 1; omega⟩, by show _ - (i + 1) < _; omega, ⟨rfl, rfl, rfl, rfl, rfl, rfl, trivial⟩, (by repeat (first | exact Sel.all | exact Sel.none | exact Sel.hd | (apply Sel.one; · repeat (first | exact Pick.h | apply Pick.t | apply Pick.app)) | apply Sel.app | (with_reducible apply Sel.grp; · repeat (first | exact PickF.h | apply PickF.t | apply PickF.a)) | (with_reducible refine Sel.nilF (by with_unfolding_all rfl) ?_) | apply Sel.drop | apply Sel.dropF))⟩
                | exact ⟨(i + 1, (d1.does k).2, c1, D6, Dc5, I6), ⟨by show i + 1 ≤ _; omega, hP.late hka c_t52 c_t57, hdo6, hco, hD6, hDc5.sel hI6, by show (d1.does k).2.acts.length ≤ i + 1; omega, by show c1.acts.length ≤ i + 1; omega⟩, by show _ - (i + 1) < _; omega, ⟨rfl, rfl, rfl, rfl, rfl, rfl, trivial⟩, (by repeat (first | exact Sel.all | exact Sel.none | exact Sel.hd | (apply Sel.one; · repeat (first | exact Pick.h | apply Pick.t | apply Pick.app)) | apply Sel.app | (with_reducible apply Sel.grp; · repeat (first | exact PickF.h | apply PickF.t | apply PickF.a)) | (with_reducible refine Sel.nilF (by with_unfolding_all rfl) ?_) | apply Sel.drop | apply Sel.dropF))⟩
                | exact ⟨(i + 1, (d1.does k).2, c1, D6, Dc5, I6), ⟨by show i + 1 ≤ _; omega, hP.skip hka c_t52, hdo6, hco, hD6, hDc5.sel hI6, by show (d1.does k).2.acts.length ≤ i + 1; omega, by show c1.acts.length ≤ i + 1; omega⟩, by show _ - (i + 1) < _; omega, ⟨rfl, rfl, rfl, rfl, rfl, rfl, trivial⟩, (by repeat (first | exact Sel.all | exact Sel.none | exact Sel.hd | (apply Sel.one; · repeat (first | exact Pick.h | apply Pick.t | apply Pick.app)) | apply Sel.app | (with_reducible apply Sel.grp; · repeat (first | exact PickF.h | apply PickF.t | apply PickF.a)) | (with_reducible refine Sel.nilF (by with_unfolding_all rfl) ?_) | apply Sel.drop | apply Sel.dropF))⟩
                | exact ⟨(i + 1, d1, c1, D5, Dc5, I5), ⟨by show i + 1 ≤ _; omega, hP, hdo, hco, hD5, hDc5, by show d1.acts.length ≤ i + 1; omega, by show c1.acts.length ≤ i + 1; omega⟩, by show _ - (i + 1) < _; omega, ⟨rfl, rfl, rfl, rfl, rfl, rfl, trivial⟩, (by repeat (first | exact Sel.all | exact Sel.none | exact Sel.hd | (apply Sel.one; · repeat (first | exact Pick.h | apply Pick.t | apply Pick.app)) | apply Sel.app | (with_reducible apply Sel.grp; · repeat (first | exact PickF.h | apply PickF.t | apply PickF.a)) | (with_reducible refine Sel.nilF (by with_unfolding_all rfl) ?_) | apply Sel.drop | apply Sel.dropF))⟩)
            | false =>
              try have c_t48 := df h48
              first
              | (exfalso; omega)
              | (
                refine wc_else rfl ?_
                refine wc_skip ?_
                refine wc_seq ?_
                have hka : k10 k.op < 6 := by simpa using h48
                refine wc_region ?_
                refine wl rfl (OP.ev rfl rfl (eMv rfl) ?_)
                first | refine wl rfl (OP.ev rfl rfl (eLdW ty39 rfl rfl (by repeat (first | exact Has.h | apply Has.t | apply Has.app)) (by rfl)) ?_) | refine wl rfl (OP.ev rfl rfl (eLdA (vs := [_, _, _, _, _, _, _, _]) ty39 rfl rfl (by repeat (first | exact Has.h | apply Has.t | apply Has.app)) (by rfl) (by rfl)) ?_) | refine wl rfl (OP.ev rfl rfl (eLdAO ty39 rfl rfl (by assumption) (by assumption)) ?_)
                refine wl rfl (oC rfl pf23 rfl (does_ok b d1 hdo k D5 _ hD5 (hkr2 _) (by omega)) (by repeat (first | exact Sel.all | exact Sel.none | exact Sel.hd | (apply Sel.one; · repeat (first | exact Pick.h | apply Pick.t | apply Pick.app)) | apply Sel.app | (with_reducible apply Sel.grp; · repeat (first | exact PickF.h | apply PickF.t | apply PickF.a)) | (with_reducible refine Sel.nilF (by with_unfolding_all rfl) ?_) | apply Sel.drop | apply Sel.dropF)) ?_)
                rintro _ _ ⟨rfl, D6, I6, hI6, hD6, rfl⟩
                refine wl rfl (OP.evb rfl rfl (eEq rfl rfl) fun t52 h52 => ?_)
                refine wl rfl (OP.ev rfl rfl (eMv rfl) ?_)
                cases t52 with
                | true =>
                  try have c_t52 := dt h52
                  first
                  | (exfalso; omega)
                  | (
                    refine wl_go rfl rfl (OP.ev rfl rfl (eMv rfl) ?_)
                    refine wl_go rfl rfl (oC rfl pf24 rfl (pend_ok b _ D6 _ hD6) (by repeat (first | exact Sel.all | exact Sel.none | exact Sel.hd | (apply Sel.one; · repeat (first | exact Pick.h | apply Pick.t | apply Pick.app)) | apply Sel.app | (with_reducible apply Sel.grp; · repeat (first | exact PickF.h | apply PickF.t | apply PickF.a)) | (with_reducible refine Sel.nilF (by with_unfolding_all rfl) ?_) | apply Sel.drop | apply Sel.dropF)) ?_)
                    rintro _ _ ⟨rfl, rfl⟩
                    refine wl_go rfl rfl (OP.ev rfl rfl (eMv rfl) ?_)
                    refine wl_go rfl rfl (OP.evb rfl rfl (eLe rfl rfl) fun t57 h57 => ?_)
                    refine wl rfl (OP.ev rfl rfl (ePk rfl rfl) ?_)
                    refine wl rfl (OP.ev rfl rfl (eMv rfl) ?_)
                    cases t57 with
                    | true =>
                      try have c_t57 := dt h57
                      first
                      | (exfalso; omega)
                      | (
                        refine wl_go rfl rfl (OP.ev rfl rfl (eMv rfl) ?_)
                        first | refine wl_go rfl rfl (OP.ev rfl rfl (eLdW ty39 rfl rfl (by repeat (first | exact Has.h | apply Has.t | apply Has.app)) (by rfl)) ?_) | refine wl_go rfl rfl (OP.ev rfl rfl (eLdA (vs := [_, _, _, _, _, _, _, _]) ty39 rfl rfl (by repeat (first | exact Has.h | apply Has.t | apply Has.app)) (by rfl) (by rfl)) ?_) | refine wl_go rfl rfl (OP.ev rfl rfl (eLdAO ty39 rfl rfl (by assumption) (by assumption)) ?_)
                        obtain ⟨hcd, hP2⟩ := hP.both hka (by omega) (by omega)
                        have hcode : (c1.does k).1 = 0 := by rw [hcd]; omega
                        refine wl_go rfl rfl (oC rfl pf23 rfl (does_ok bc c1 hco k Dc5 _ (hDc5.sel hI6) (hkr2 _) (by omega)) (by repeat (first | exact Sel.all | exact Sel.none | exact Sel.hd | (apply Sel.one; · repeat (first | exact Pick.h | apply Pick.t | apply Pick.app)) | apply Sel.app | (with_reducible apply Sel.grp; · repeat (first | exact PickF.h | apply PickF.t | apply PickF.a)) | (with_reducible refine Sel.nilF (by with_unfolding_all rfl) ?_) | apply Sel.drop | apply Sel.dropF)) ?_)
                        rintro _ _ ⟨rfl, Dc7, I7, hI7, hDc7, rfl⟩
                        refine wl_go rfl rfl (OP.evb rfl rfl (eNe rfl rfl) fun t63 h63 => ?_)
                        refine wl rfl (OP.ev rfl rfl (ePk rfl rfl) ?_)
                        refine wl_nil ?_
                        cases t63 with
                        | true =>
                          try have c_t63 := dt h63
                          first
                          | (exfalso; omega)
                          | (
                            refine wc_then rfl ?_
                            refine wc_seq ?_
                            refine wc_region ?_
                            refine wl rfl (OP.ev rfl rfl (eAs rfl) ?_)
                            refine wl_nil ?_
                            refine wc_ret ?_
                            apply at_ret rfl
                            · exact (.cons (.tmp rfl) .nil)
                            · exact ⟨rfl, rfl⟩
                            · exact (by repeat (first | exact Sel.all | exact Sel.none | exact Sel.hd | (apply Sel.one; · repeat (first | exact Pick.h | apply Pick.t | apply Pick.app)) | apply Sel.app | (with_reducible apply Sel.grp; · repeat (first | exact PickF.h | apply PickF.t | apply PickF.a)) | (with_reducible refine Sel.nilF (by with_unfolding_all rfl) ?_) | apply Sel.drop | apply Sel.dropF)))
                        | false =>
                          try have c_t63 := df h63
                          first
                          | (exfalso; omega)
                          | (
                            refine wc_else rfl ?_
                            refine wc_skip ?_
                            refine wc_region ?_
                            first | refine wl rfl (OP.ev rfl rfl (eAdd rfl rfl (by omega)) ?_) | refine wl rfl (OP.ev rfl rfl (eAddW rfl rfl) ?_)
                            refine wl rfl (OP.ev rfl rfl (eMv rfl) ?_)
                            refine wl_nil ?_
                            first
                            | exact ⟨(i + 1, (d1.does k).2, (c1.does k).2, D6, Dc7, I7), ⟨by show i + 1 ≤ _; omega, hP2, hdo6, hco6, hD6.sel hI7, hDc7, by show (d1.does k).2.acts.length ≤ i + 1; omega, by show (c1.does k).2.acts.length ≤ i + 1; omega⟩, by show _ - (i + 1) < _; omega, ⟨rfl, rfl, rfl, rfl, rfl, rfl, trivial⟩, (by repeat (first | exact Sel.all | exact Sel.none | exact Sel.hd | (apply Sel.one; · repeat (first | exact Pick.h | apply Pick.t | apply Pick.app)) | apply Sel.app | (with_reducible apply Sel.grp; · repeat (first | exact PickF.h | apply PickF.t | apply PickF.a)) | (with_reducible refine Sel.nilF (by with_unfolding_all rfl) ?_) | apply Sel.drop | apply Sel.dropF))⟩
                            | exact ⟨(i + 1, (d1.does k).2, c1, D6, Dc5, I6), ⟨by show i + 1 ≤ _; omega, hP.late hka c_t52 c_t57, hdo6, hco, hD6, hDc5.sel hI6, by show (d1.does k).2.acts.length ≤ i + 1; omega, by show c1.acts.length ≤ i + 1; omega⟩, by show _ - (i + 1) < _; omega, ⟨rfl, rfl, rfl, rfl, rfl, rfl, trivial⟩, (by repeat (first | exact Sel.all | exact Sel.none | exact Sel.hd | (apply Sel.one; · repeat (first | exact Pick.h | apply Pick.t | apply Pick.app)) | apply Sel.app | (with_reducible apply Sel.grp; · repeat (first | exact PickF.h | apply PickF.t | apply PickF.a)) | (with_reducible refine Sel.nilF (by with_unfolding_all rfl) ?_) | apply Sel.drop | apply Sel.dropF))⟩
                            | exact ⟨(i + 1, (d1.does k).2, c1, D6, Dc5, I6), ⟨by show i + 1 ≤ _; omega, hP.skip hka c_t52, hdo6, hco, hD6, hDc5.sel hI6, by show (d1.does k).2.acts.length ≤ i + 1; omega, by show c1.acts.length ≤ i + 1; omega⟩, by show _ - (i + 1) < _; omega, ⟨rfl, rfl, rfl, rfl, rfl, rfl, trivial⟩, (by repeat (first | exact Sel.all | exact Sel.none | exact Sel.hd | (apply Sel.one; · repeat (first | exact Pick.h | apply Pick.t | apply Pick.app)) | apply Sel.app | (with_reducible apply Sel.grp; · repeat (first | exact PickF.h | apply PickF.t | apply PickF.a)) | (with_reducible refine Sel.nilF (by with_unfolding_all rfl) ?_) | apply Sel.drop | apply Sel.dropF))⟩
                            | exact ⟨(i + 1, d1, c1, D5, Dc5, I5), ⟨by show i + 1 ≤ _; omega, hP, hdo, hco, hD5, hDc5, by show d1.acts.length ≤ i + 1; omega, by show c1.acts.length ≤ i + 1; omega⟩, by show _ - (i + 1) < _; omega, ⟨rfl, rfl, rfl, rfl, rfl, rfl, trivial⟩, (by repeat (first | exact Sel.all | exact Sel.none | exact Sel.hd | (apply Sel.one; · repeat (first | exact Pick.h | apply Pick.t | apply Pick.app)) | apply Sel.app | (with_reducible apply Sel.grp; · repeat (first | exact PickF.h | apply PickF.t | apply PickF.a)) | (with_reducible refine Sel.nilF (by with_unfolding_all rfl) ?_) | apply Sel.drop | apply Sel.dropF))⟩))
                    | false =>
                      try have c_t57 := df h57
                      first
                      | (exfalso; omega)
                      | (
                        refine wl_skip rfl rfl rfl rfl rfl ?_
                        refine wl_skip rfl rfl rfl rfl rfl ?_
                        refine wl_skip rfl rfl rfl rfl rfl ?_
                        refine wl_skip rfl rfl rfl rfl rfl ?_
                        refine wl rfl (OP.ev rfl rfl (ePk rfl rfl) ?_)
                        refine wl_nil ?_
                        refine wc_else rfl ?_
                        refine wc_skip ?_
                        refine wc_region ?_
                        first | refine wl rfl (OP.ev rfl rfl (eAdd rfl rfl (by omega)) ?_) | refine wl rfl (OP.ev rfl rfl (eAddW rfl rfl) ?_)
                        refine wl rfl (OP.ev rfl rfl (eMv rfl) ?_)
                        refine wl_nil ?_
                        first
                        | exact ⟨(i + 1, (d1.does k).2, (c1.does k).2, D6, Dc7, I7), ⟨by show i + 1 ≤ _; omega, hP2, hdo6, hco6, hD6.sel hI7, hDc7, by show (d1.does k).2.acts.length ≤ i + 1; omega, by show (c1.does k).2.acts.length ≤ i + 1; omega⟩, by show _ - (i + 1) < _; omega, ⟨rfl, rfl, rfl, rfl, rfl, rfl, trivial⟩, (by repeat (first | exact Sel.all | exact Sel.none | exact Sel.hd | (apply Sel.one; · repeat (first | exact Pick.h | apply Pick.t | apply Pick.app)) | apply Sel.app | (with_reducible apply Sel.grp; · repeat (first | exact PickF.h | apply PickF.t | apply PickF.a)) | (with_reducible refine Sel.nilF (by with_unfolding_all rfl) ?_) | apply Sel.drop | apply Sel.dropF))⟩
                        | exact ⟨(i + 1, (d1.does k).2, c1, D6, Dc5, I6), ⟨by show i + 1 ≤ _; omega, hP.late hka c_t52 c_t57, hdo6, hco, hD6, hDc5.sel hI6, by show (d1.does k).2.acts.length ≤ i + 1; omega, by show c1.acts.length ≤ i + 1; omega⟩, by show _ - (i + 1) < _; omega, ⟨rfl, rfl, rfl, rfl, rfl, rfl, trivial⟩, (by repeat (first | exact Sel.all | exact Sel.none | exact Sel.hd | (apply Sel.one; · repeat (first | exact Pick.h | apply Pick.t | apply Pick.app)) | apply Sel.app | (with_reducible apply Sel.grp; · repeat (first | exact PickF.h | apply PickF.t | apply PickF.a)) | (with_reducible refine Sel.nilF (by with_unfolding_all rfl) ?_) | apply Sel.drop | apply Sel.dropF))⟩
                        | exact ⟨(i + 1, (d1.does k).2, c1, D6, Dc5, I6), ⟨by show i + 1 ≤ _; omega, hP.skip hka c_t52, hdo6, hco, hD6, hDc5.sel hI6, by show (d1.does k).2.acts.length ≤ i + 1; omega, by show c1.acts.length ≤ i + 1; omega⟩, by show _ - (i + 1) < _; omega, ⟨rfl, rfl, rfl, rfl, rfl, rfl, trivial⟩, (by repeat (first | exact Sel.all | exact Sel.none | exact Sel.hd | (apply Sel.one; · repeat (first | exact Pick.h | apply Pick.t | apply Pick.app)) | apply Sel.app | (with_reducible apply Sel.grp; · repeat (first | exact PickF.h | apply PickF.t | apply PickF.a)) | (with_reducible refine Sel.nilF (by with_unfolding_all rfl) ?_) | apply Sel.drop | apply Sel.dropF))⟩
                        | exact ⟨(i + 1, d1, c1, D5, Dc5, I5), ⟨by show i + 1 ≤ _; omega, hP, hdo, hco, hD5, hDc5, by show d1.acts.length ≤ i + 1; omega, by show c1.acts.length ≤ i + 1; omega⟩, by show _ - (i + 1) < _; omega, ⟨rfl, rfl, rfl, rfl, rfl, rfl, trivial⟩, (by repeat (first | exact Sel.all | exact Sel.none | exact Sel.hd | (apply Sel.one; · repeat (first | exact Pick.h | apply Pick.t | apply Pick.app)) | apply Sel.app | (with_reducible apply Sel.grp; · repeat (first | exact PickF.h | apply PickF.t | apply PickF.a)) | (with_reducible refine Sel.nilF (by with_unfolding_all rfl) ?_) | apply Sel.drop | apply Sel.dropF))⟩))
                | false =>
                  try have c_t52 := df h52
                  first
                  | (exfalso; omega)
                  | (
                    refine wl_skip rfl rfl rfl rfl rfl ?_
                    refine wl_skip rfl rfl rfl rfl rfl ?_
                    refine wl_skip rfl rfl rfl rfl rfl ?_
                    refine wl_skip rfl rfl rfl rfl rfl ?_
                    refine wl rfl (OP.ev rfl rfl (ePk rfl rfl) ?_)
                    refine wl rfl (OP.ev rfl rfl (eMv rfl) ?_)
                    refine wl_skip rfl rfl rfl rfl rfl ?_
                    refine wl_skip rfl rfl rfl rfl rfl ?_
                    refine wl_skip rfl rfl rfl rfl rfl ?_
                    refine wl_skip rfl rfl rfl rfl rfl ?_
                    refine wl rfl (OP.ev rfl rfl (ePk rfl rfl) ?_)
                    refine wl_nil ?_
                    refine wc_else rfl ?_
                    refine wc_skip ?_
                    refine wc_region ?_
                    first | refine wl rfl (OP.ev rfl rfl (eAdd rfl rfl (by omega)) ?_) | refine wl rfl (OP.ev rfl rfl (eAddW rfl rfl) ?_)
                    refine wl rfl (OP.ev rfl rfl (eMv rfl) ?_)
                    refine wl_nil ?_
                    first
                    | exact ⟨(i + 1, (d1.does k).2, (c1.does k).2, D6, Dc7, I7), ⟨by show i + 1 ≤ _; omega, hP2, hdo6, hco6, hD6.sel hI7, hDc7, by show (d1.does k).2.acts.length ≤ i + 1; omega, by show (c1.does k).2.acts.length ≤ i + 1; omega⟩, by show _ - (i + 1) < _; omega, ⟨rfl, rfl, rfl, rfl, rfl, rfl, trivial⟩, (by repeat (first | exact Sel.all | exact Sel.none | exact Sel.hd | (apply Sel.one; · repeat (first | exact Pick.h | apply Pick.t | apply Pick.app)) | apply Sel.app | (with_reducible apply Sel.grp; · repeat (first | exact PickF.h | apply PickF.t | apply PickF.a)) | (with_reducible refine Sel.nilF (by with_unfolding_all rfl) ?_) | apply Sel.drop | apply Sel.dropF))⟩
                    | exact ⟨(i + 1, (d1.does k).2, c1, D6, Dc5, I6), ⟨by show i + 1 ≤ _; omega, hP.late hka c_t52 c_t57, hdo6, hco, hD6, hDc5.sel hI6, by show (d1.does k).2.acts.length ≤ i + 1; omega, by show c1.acts.length ≤ i + 1; omega⟩, by show _ - (i + 1) < _; omega, ⟨rfl, rfl, rfl, rfl, rfl, rfl, trivial⟩, (by repeat (first | exact Sel.all | exact Sel.none | exact Sel.hd | (apply Sel.one; · repeat (first | exact Pick.h | apply Pick.t | apply Pick.app)) | apply Sel.app | (with_reducible apply Sel.grp; · repeat (first | exact PickF.h | apply PickF.t | apply PickF.a)) | (with_reducible refine Sel.nilF (by with_unfolding_all rfl) ?_) | apply Sel.drop | apply Sel.dropF))⟩
                    | exact ⟨(i + 1, (d1.does k).2, c1, D6, Dc5, I6), ⟨by show i + 1 ≤ _; omega, hP.skip hka c_t52, hdo6, hco, hD6, hDc5.sel hI6, by show (d1.does k).2.acts.length ≤ i + 1; omega, by show c1.acts.length ≤ i + 1; omega⟩, by show _ - (i + 1) < _; omega, ⟨rfl, rfl, rfl, rfl, rfl, rfl, trivial⟩, (by repeat (first | exact Sel.all | exact Sel.none | exact Sel.hd | (apply Sel.one; · repeat (first | exact Pick.h | apply Pick.t | apply Pick.app)) | apply Sel.app | (with_reducible apply Sel.grp; · repeat (first | exact PickF.h | apply PickF.t | apply PickF.a)) | (with_reducible refine Sel.nilF (by with_unfolding_all rfl) ?_) | apply Sel.drop | apply Sel.dropF))⟩
                    | exact ⟨(i + 1, d1, c1, D5, Dc5, I5), ⟨by show i + 1 ≤ _; omega, hP, hdo, hco, hD5, hDc5, by show d1.acts.length ≤ i + 1; omega, by show c1.acts.length ≤ i + 1; omega⟩, by show _ - (i + 1) < _; omega, ⟨rfl, rfl, rfl, rfl, rfl, rfl, trivial⟩, (by repeat (first | exact Sel.all | exact Sel.none | exact Sel.hd | (apply Sel.one; · repeat (first | exact Pick.h | apply Pick.t | apply Pick.app)) | apply Sel.app | (with_reducible apply Sel.grp; · repeat (first | exact PickF.h | apply PickF.t | apply PickF.a)) | (with_reducible refine Sel.nilF (by with_unfolding_all rfl) ?_) | apply Sel.drop | apply Sel.dropF))⟩)))
        | false =>
          try have c_t43 := df h43
          first
          | (exfalso; omega)
          | (
            refine wc_else rfl ?_
            refine wc_exit rfl ?_
            refine wc_seq ?_
            obtain ⟨f1, f2, f3⟩ := hP.fin hdo hco
            have hd8 := hdo.crash (keep : Int) 0
            refine wc_region ?_
            refine wl rfl (OP.ev rfl rfl (eMv rfl) ?_)
            refine wl rfl (OP.ev rfl rfl (eMv rfl) ?_)
            refine wl rfl (oC rfl pf39 rfl (crash_ok b d1 hdo (keep : Int) 0 ⟨by omega, by omega⟩ (by simp [I64]) D5 _ hD5 (by omega)) (by repeat (first | exact Sel.all | exact Sel.none | exact Sel.hd | (apply Sel.one; · repeat (first | exact Pick.h | apply Pick.t | apply Pick.app)) | apply Sel.app | (with_reducible apply Sel.grp; · repeat (first | exact PickF.h | apply PickF.t | apply PickF.a)) | (with_reducible refine Sel.nilF (by with_unfolding_all rfl) ?_) | apply Sel.drop | apply Sel.dropF)) ?_)
            rintro _ _ ⟨rfl, D8, I8, hI8, hD8, rfl⟩
            refine wl rfl (OP.evb rfl rfl (eEq rfl rfl) fun t69 h69 => ?_)
            refine wl rfl (OP.ev rfl rfl (eMv rfl) ?_)
            cases t69 with
            | true =>
              try have c_t69 := dt h69
              first
              | (exfalso; omega)
              | (
                refine wl_go rfl rfl (OP.ev rfl rfl (eMv rfl) ?_)
                refine wl_go rfl rfl (oC rfl pf14 rfl (start_ok b _ D8 _ hD8) (by repeat (first | exact Sel.all | exact Sel.none | exact Sel.hd | (apply Sel.one; · repeat (first | exact Pick.h | apply Pick.t | apply Pick.app)) | apply Sel.app | (with_reducible apply Sel.grp; · repeat (first | exact PickF.h | apply PickF.t | apply PickF.a)) | (with_reducible refine Sel.nilF (by with_unfolding_all rfl) ?_) | apply Sel.drop | apply Sel.dropF)) ?_)
                rintro _ _ ⟨rfl, D9, I9, hI9, hD9, rfl⟩
                refine wl_go rfl rfl (OP.evb rfl rfl (eEq rfl rfl) fun t73 h73 => ?_)
                refine wl rfl (OP.ev rfl rfl (ePk rfl rfl) ?_)
                refine wl rfl (OP.ev rfl rfl (eMv rfl) ?_)
                cases t73 with
                | true =>
                  try have c_t73 := dt h73
                  first
                  | (exfalso; omega)
                  | (
                    refine wl_go rfl rfl (OP.ev rfl rfl (eMv rfl) ?_)
                    refine wl_go rfl rfl (OP.ev rfl rfl (eMv rfl) ?_)
                    refine wl_go rfl rfl (oC rfl pf40 rfl (same_ok bc b _ _ hco hd8.start Dc5 D9 _ ((hDc5.sel hI8).sel hI9) hD9) (by repeat (first | exact Sel.all | exact Sel.none | exact Sel.hd | (apply Sel.one; · repeat (first | exact Pick.h | apply Pick.t | apply Pick.app)) | apply Sel.app | (with_reducible apply Sel.grp; · repeat (first | exact PickF.h | apply PickF.t | apply PickF.a)) | (with_reducible refine Sel.nilF (by with_unfolding_all rfl) ?_) | apply Sel.drop | apply Sel.dropF)) ?_)
                    rintro _ _ ⟨rfl, rfl⟩
                    rw [f3]
                    refine wl rfl (OP.ev rfl rfl (ePk rfl rfl) ?_)
                    refine wl rfl (OP.ev rfl rfl (eMv rfl) ?_)
                    refine wl_go rfl rfl (oC rfl pf13 rfl (awake_ok _) (by repeat (first | exact Sel.all | exact Sel.none | exact Sel.hd | (apply Sel.one; · repeat (first | exact Pick.h | apply Pick.t | apply Pick.app)) | apply Sel.app | (with_reducible apply Sel.grp; · repeat (first | exact PickF.h | apply PickF.t | apply PickF.a)) | (with_reducible refine Sel.nilF (by with_unfolding_all rfl) ?_) | apply Sel.drop | apply Sel.dropF)) ?_)
                    rintro _ _ ⟨rfl, rfl⟩
                    refine wl rfl (OP.ev rfl rfl (ePk rfl rfl) ?_)
                    refine wl rfl (OP.ev rfl rfl (eAs rfl) ?_)
                    refine wl_nil ?_
                    refine wc_ret ?_
                    apply at_ret rfl
                    · exact (.cons (.tmp rfl) .nil)
                    · exact ⟨rfl, rfl⟩
                    · exact (by repeat (first | exact Sel.all | exact Sel.none | exact Sel.hd | (apply Sel.one; · repeat (first | exact Pick.h | apply Pick.t | apply Pick.app)) | apply Sel.app | (with_reducible apply Sel.grp; · repeat (first | exact PickF.h | apply PickF.t | apply PickF.a)) | (with_reducible refine Sel.nilF (by with_unfolding_all rfl) ?_) | apply Sel.drop | apply Sel.dropF)))
                | false =>
                  try have c_t73 := df h73
                  first
                  | (exfalso; omega)
                  | (
                    refine wl_skip rfl rfl rfl rfl rfl ?_
                    refine wl_skip rfl rfl rfl rfl rfl ?_
                    refine wl_skip rfl rfl rfl rfl rfl ?_
                    refine wl rfl (OP.ev rfl rfl (ePk rfl rfl) ?_)
                    refine wl rfl (OP.ev rfl rfl (eMv rfl) ?_)
                    refine wl_skip rfl rfl rfl rfl rfl ?_
                    refine wl rfl (OP.ev rfl rfl (ePk rfl rfl) ?_)
                    refine wl rfl (OP.ev rfl rfl (eAs rfl) ?_)
                    refine wl_nil ?_
                    refine wc_ret ?_
                    apply at_ret rfl
                    · exact (.cons (.tmp rfl) .nil)
                    · exact ⟨rfl, rfl⟩
                    · exact (by repeat (first | exact Sel.all | exact Sel.none | exact Sel.hd | (apply Sel.one; · repeat (first | exact Pick.h | apply Pick.t | apply Pick.app)) | apply Sel.app | (with_reducible apply Sel.grp; · repeat (first | exact PickF.h | apply PickF.t | apply PickF.a)) | (with_reducible refine Sel.nilF (by with_unfolding_all rfl) ?_) | apply Sel.drop | apply Sel.dropF))))
            | false =>
              try have c_t69 := df h69
              first
              | (exfalso; omega)
              | (
                refine wl_skip rfl rfl rfl rfl rfl ?_
                refine wl_skip rfl rfl rfl rfl rfl ?_
                refine wl_skip rfl rfl rfl rfl rfl ?_
                refine wl rfl (OP.ev rfl rfl (ePk rfl rfl) ?_)
                refine wl rfl (OP.ev rfl rfl (eMv rfl) ?_)
                refine wl_skip rfl rfl rfl rfl rfl ?_
                refine wl_skip rfl rfl rfl rfl rfl ?_
                refine wl_skip rfl rfl rfl rfl rfl ?_
                refine wl rfl (OP.ev rfl rfl (ePk rfl rfl) ?_)
                refine wl rfl (OP.ev rfl rfl (eMv rfl) ?_)
                refine wl_skip rfl rfl rfl rfl rfl ?_
                refine wl rfl (OP.ev rfl rfl (ePk rfl rfl) ?_)
                refine wl rfl (OP.ev rfl rfl (eAs rfl) ?_)
                refine wl_nil ?_
                refine wc_ret ?_
                apply at_ret rfl
                · exact (.cons (.tmp rfl) .nil)
                · exact ⟨rfl, rfl⟩
                · exact (by repeat (first | exact Sel.all | exact Sel.none | exact Sel.hd | (apply Sel.one; · repeat (first | exact Pick.h | apply Pick.t | apply Pick.app)) | apply Sel.app | (with_reducible apply Sel.grp; · repeat (first | exact PickF.h | apply PickF.t | apply PickF.a)) | (with_reducible refine Sel.nilF (by with_unfolding_all rfl) ?_) | apply Sel.drop | apply Sel.dropF)))))
end Go.Proofs.Ytahjgjmemijofaa
