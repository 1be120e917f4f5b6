/- Contracts of the disk's calls: trim, move, drop, sync, crash. No statement of the seat is proved here. -/
import Derived.Test.YtahjgjmemijofaaDkC
namespace Go.Proofs.Ytahjgjmemijofaa
open Go Eng
set_option linter.unusedVariables false
set_option maxRecDepth 4000
variable {W0 : World} {I I' : Heap}

theorem trim_ok (b : Nat) (d : DK) (hd : DOk d) (k : Nm) (n : Int) (hn64 : I64 n) (D R : Heap) (hD : DiskR W0 I d b D) (hn : d.acts.length < 1000000) :
    FnC W0 Try.prog 52 #[ptr b, strK k, i64 n] (D ++ (I ++ R)) (PutP W0 I R b (d.trim k n).2 (i64 (d.trim k n).1)) := by
  obtain ⟨ms, ml, m1, c1, m2, c2, av, acs, ax, rfl, hT1, hT2, hA⟩ := hD
  have hD0 : DiskR W0 I d b (dkC b d ms ml av :: tC ms m1 c1 :: tC ml m2 c2 :: ownH av acs 82) := ⟨ms, ml, m1, c1, m2, c2, av, acs, ax, rfl, hT1, hT2, hA⟩
  have huse := hd.use
  obtain ⟨ov, ob, hov, hor, hob, hoB⟩ := hT1.look k
  have hgl := hd.get_len k
  obtain ⟨hn1, hn2⟩ := hn64
  simp only [List.cons_append]
  refine fn_of Try.func52 rfl Try.ntmps52 rfl rfl ?_
  refine wc_seq ?_
  refine wc_region ?_
  refine wl rfl (oBox rfl rfl rfl fun b4 => ?_)
  refine wl rfl (oBox rfl rfl rfl fun b5 => ?_)
  refine wl rfl (OP.ev rfl rfl (eAs rfl) ?_)
  refine wl_nil ?_
  refine wc_seq ?_
  refine wc_seq ?_
  refine wc_region ?_
  refine wl rfl (OP.ev rfl rfl (eMv rfl) ?_)
  first | refine wl rfl (OP.ev rfl rfl (eLd ty9 rfl rfl (by repeat (first | exact Has.h | apply Has.t | apply Has.app)) (by rfl)) ?_) | refine wl rfl (OP.ev rfl rfl (eLdO ty9 rfl rfl (by assumption)) ?_)
  refine wl rfl (oC rfl pf44 rfl (find_ok b d ms ml av m1 c1 k hT1 _) (by repeat (first | exact Sel.all | exact Sel.none | exact Sel.hd | (apply Sel.one; · repeat (first | exact Pick.h | apply Pick.t | apply Pick.app)) | apply Sel.app | (with_reducible apply Sel.grp; · repeat (first | exact PickF.h | apply PickF.t | apply PickF.a)) | (with_reducible refine Sel.nilF (by with_unfolding_all rfl) ?_) | apply Sel.drop | apply Sel.dropF)) ?_)
  rintro _ _ ⟨rfl, rfl⟩
  refine wl rfl (OP.ev rfl rfl (eAs rfl) ?_)
  refine wl_nil ?_
  refine wc_seq ?_
  refine wc_region ?_
  refine wl rfl (OP.ev rfl rfl (eMv rfl) ?_)
  refine wl rfl (OP.evb rfl rfl (eNe rfl rfl) fun t12 h12 => ?_)
  refine wl_nil ?_
  cases t12 with
  | true =>
    try have c_t12 := dt h12
    first
    | (exfalso; omega)
    | (
      refine wc_then rfl ?_
      refine wc_seq ?_
      refine wc_region ?_
      refine wl rfl (OP.ev rfl rfl (eMv rfl) ?_)
      refine wl rfl (OP.ev rfl rfl (eAs rfl) ?_)
      refine wl_nil ?_
      refine wc_ret ?_
      apply at_ret rfl
      · exact (.cons (.tmp rfl) .nil)
      · first
        | exact ⟨by unfold DK.trim; rw [if_pos (by omega)]; rfl, _, I, Sel.all, by unfold DK.trim; rw [if_pos (by omega)]; exact hD0, (rfl : (dkC b d ms ml av :: tC ms m1 c1 :: tC ml m2 c2 :: (ownH av acs 82 ++ (I ++ R))) = _)⟩
        | exact ⟨by unfold DK.trim; rw [if_neg (by omega), if_pos (by rw [hob]; omega)]; rfl, _, I, Sel.all, by unfold DK.trim; rw [if_neg (by omega), if_pos (by rw [hob]; omega)]; exact hD0, (rfl : (dkC b d ms ml av :: tC ms m1 c1 :: tC ml m2 c2 :: (ownH av acs 82 ++ (I ++ R))) = _)⟩
        | exact ⟨by unfold DK.trim; rw [if_neg (by omega), if_neg (by rw [hob]; omega)]; rfl, D4, I4, hI4.trans hsI, by unfold DK.trim; rw [if_neg (by omega), if_neg (by rw [hob]; omega)]; exact hD4, rfl⟩
      · exact (by repeat (first | exact Sel.all | exact Sel.none | exact Sel.hd | (apply Sel.one; · repeat (first | exact Pick.h | apply Pick.t | apply Pick.app)) | apply Sel.app | (with_reducible apply Sel.grp; · repeat (first | exact PickF.h | apply PickF.t | apply PickF.a)) | (with_reducible refine Sel.nilF (by with_unfolding_all rfl) ?_) | apply Sel.drop | apply Sel.dropF)))
  | false =>
    try have c_t12 := df h12
    first
    | (exfalso; omega)
    | (
      refine wc_else rfl ?_
      refine wc_skip ?_
      refine wc_seq ?_
      refine wc_seq ?_
      refine wc_draw ((b4, .cells #[strK k] 9 (0, 0)) :: (b5, .cells #[i64 n] 3 (0, 0)) :: dkC b d ms ml av :: tC ms m1 c1 :: (I ++ [])) rfl ?_
      first | refine wa_take 0 (by kernel_rfl) rfl rfl rfl rfl (by repeat (first | exact Sel.all | exact Sel.none | exact Sel.hd | (apply Sel.one; · repeat (first | exact Pick.h | apply Pick.t | apply Pick.app)) | apply Sel.app | (with_reducible apply Sel.grp; · repeat (first | exact PickF.h | apply PickF.t | apply PickF.a)) | (with_reducible refine Sel.nilF (by with_unfolding_all rfl) ?_) | apply Sel.drop | apply Sel.dropF)) (eLd ty3 rfl rfl (by repeat (first | exact Has.h | apply Has.t | apply Has.app)) (by rfl)) ?_ | refine wa_take 0 (by kernel_rfl) rfl rfl rfl rfl (by repeat (first | exact Sel.all | exact Sel.none | exact Sel.hd | (apply Sel.one; · repeat (first | exact Pick.h | apply Pick.t | apply Pick.app)) | apply Sel.app | (with_reducible apply Sel.grp; · repeat (first | exact PickF.h | apply PickF.t | apply PickF.a)) | (with_reducible refine Sel.nilF (by with_unfolding_all rfl) ?_) | apply Sel.drop | apply Sel.dropF)) (eLdO ty3 rfl rfl (by assumption)) ?_
      refine wa_takeb 1 (by kernel_rfl) rfl rfl rfl rfl (by repeat (first | exact Sel.all | exact Sel.none | exact Sel.hd | (apply Sel.one; · repeat (first | exact Pick.h | apply Pick.t | apply Pick.app)) | apply Sel.app | (with_reducible apply Sel.grp; · repeat (first | exact PickF.h | apply PickF.t | apply PickF.a)) | (with_reducible refine Sel.nilF (by with_unfolding_all rfl) ?_) | apply Sel.drop | apply Sel.dropF)) (eLt rfl rfl) fun t15 h15 => ?_
      refine wa_take 2 (by kernel_rfl) rfl rfl rfl rfl (by repeat (first | exact Sel.all | exact Sel.none | exact Sel.hd | (apply Sel.one; · repeat (first | exact Pick.h | apply Pick.t | apply Pick.app)) | apply Sel.app | (with_reducible apply Sel.grp; · repeat (first | exact PickF.h | apply PickF.t | apply PickF.a)) | (with_reducible refine Sel.nilF (by with_unfolding_all rfl) ?_) | apply Sel.drop | apply Sel.dropF)) (eMv rfl) ?_
      cases t15 with
      | true =>
        try have c_t15 := dt h15
        first
        | (exfalso; omega)
        | (
          refine wa_skip 3 (by kernel_rfl) rfl rfl rfl rfl rfl rfl (by repeat (first | exact Sel.all | exact Sel.none | exact Sel.hd | (apply Sel.one; · repeat (first | exact Pick.h | apply Pick.t | apply Pick.app)) | apply Sel.app | (with_reducible apply Sel.grp; · repeat (first | exact PickF.h | apply PickF.t | apply PickF.a)) | (with_reducible refine Sel.nilF (by with_unfolding_all rfl) ?_) | apply Sel.drop | apply Sel.dropF)) ?_
          refine wa_skip 4 (by kernel_rfl) rfl rfl rfl rfl rfl rfl (by repeat (first | exact Sel.all | exact Sel.none | exact Sel.hd | (apply Sel.one; · repeat (first | exact Pick.h | apply Pick.t | apply Pick.app)) | apply Sel.app | (with_reducible apply Sel.grp; · repeat (first | exact PickF.h | apply PickF.t | apply PickF.a)) | (with_reducible refine Sel.nilF (by with_unfolding_all rfl) ?_) | apply Sel.drop | apply Sel.dropF)) ?_
          refine wa_skip 5 (by kernel_rfl) rfl rfl rfl rfl rfl rfl (by repeat (first | exact Sel.all | exact Sel.none | exact Sel.hd | (apply Sel.one; · repeat (first | exact Pick.h | apply Pick.t | apply Pick.app)) | apply Sel.app | (with_reducible apply Sel.grp; · repeat (first | exact PickF.h | apply PickF.t | apply PickF.a)) | (with_reducible refine Sel.nilF (by with_unfolding_all rfl) ?_) | apply Sel.drop | apply Sel.dropF)) ?_
          refine wa_skip 6 (by kernel_rfl) rfl rfl rfl rfl rfl rfl (by repeat (first | exact Sel.all | exact Sel.none | exact Sel.hd | (apply Sel.one; · repeat (first | exact Pick.h | apply Pick.t | apply Pick.app)) | apply Sel.app | (with_reducible apply Sel.grp; · repeat (first | exact PickF.h | apply PickF.t | apply PickF.a)) | (with_reducible refine Sel.nilF (by with_unfolding_all rfl) ?_) | apply Sel.drop | apply Sel.dropF)) ?_
          refine wa_skip 7 (by kernel_rfl) rfl rfl rfl rfl rfl rfl (by repeat (first | exact Sel.all | exact Sel.none | exact Sel.hd | (apply Sel.one; · repeat (first | exact Pick.h | apply Pick.t | apply Pick.app)) | apply Sel.app | (with_reducible apply Sel.grp; · repeat (first | exact PickF.h | apply PickF.t | apply PickF.a)) | (with_reducible refine Sel.nilF (by with_unfolding_all rfl) ?_) | apply Sel.drop | apply Sel.dropF)) ?_
          refine wa_skip 8 (by kernel_rfl) rfl rfl rfl rfl rfl rfl (by repeat (first | exact Sel.all | exact Sel.none | exact Sel.hd | (apply Sel.one; · repeat (first | exact Pick.h | apply Pick.t | apply Pick.app)) | apply Sel.app | (with_reducible apply Sel.grp; · repeat (first | exact PickF.h | apply PickF.t | apply PickF.a)) | (with_reducible refine Sel.nilF (by with_unfolding_all rfl) ?_) | apply Sel.drop | apply Sel.dropF)) ?_
          refine wa_skip 9 (by kernel_rfl) rfl rfl rfl rfl rfl rfl (by repeat (first | exact Sel.all | exact Sel.none | exact Sel.hd | (apply Sel.one; · repeat (first | exact Pick.h | apply Pick.t | apply Pick.app)) | apply Sel.app | (with_reducible apply Sel.grp; · repeat (first | exact PickF.h | apply PickF.t | apply PickF.a)) | (with_reducible refine Sel.nilF (by with_unfolding_all rfl) ?_) | apply Sel.drop | apply Sel.dropF)) ?_
          refine wa_skip 10 (by kernel_rfl) rfl rfl rfl rfl rfl rfl (by repeat (first | exact Sel.all | exact Sel.none | exact Sel.hd | (apply Sel.one; · repeat (first | exact Pick.h | apply Pick.t | apply Pick.app)) | apply Sel.app | (with_reducible apply Sel.grp; · repeat (first | exact PickF.h | apply PickF.t | apply PickF.a)) | (with_reducible refine Sel.nilF (by with_unfolding_all rfl) ?_) | apply Sel.drop | apply Sel.dropF)) ?_
          refine wa_skip 11 (by kernel_rfl) rfl rfl rfl rfl rfl rfl (by repeat (first | exact Sel.all | exact Sel.none | exact Sel.hd | (apply Sel.one; · repeat (first | exact Pick.h | apply Pick.t | apply Pick.app)) | apply Sel.app | (with_reducible apply Sel.grp; · repeat (first | exact PickF.h | apply PickF.t | apply PickF.a)) | (with_reducible refine Sel.nilF (by with_unfolding_all rfl) ?_) | apply Sel.drop | apply Sel.dropF)) ?_
          refine wa_take 12 (by kernel_rfl) rfl rfl rfl rfl (by repeat (first | exact Sel.all | exact Sel.none | exact Sel.hd | (apply Sel.one; · repeat (first | exact Pick.h | apply Pick.t | apply Pick.app)) | apply Sel.app | (with_reducible apply Sel.grp; · repeat (first | exact PickF.h | apply PickF.t | apply PickF.a)) | (with_reducible refine Sel.nilF (by with_unfolding_all rfl) ?_) | apply Sel.drop | apply Sel.dropF)) (ePk rfl rfl) ?_
          refine wa_nil (by kernel_rfl) ?_
          refine wc_then rfl ?_
          refine wc_seq ?_
          refine wc_region ?_
          refine wl rfl (OP.ev rfl rfl (eAs rfl) ?_)
          refine wl_nil ?_
          refine wc_ret ?_
          apply at_ret rfl
          · exact (.cons (.tmp rfl) .nil)
          · first
            | exact ⟨by unfold DK.trim; rw [if_pos (by omega)]; rfl, _, I, Sel.all, by unfold DK.trim; rw [if_pos (by omega)]; exact hD0, (rfl : (dkC b d ms ml av :: tC ms m1 c1 :: tC ml m2 c2 :: (ownH av acs 82 ++ (I ++ R))) = _)⟩
            | exact ⟨by unfold DK.trim; rw [if_neg (by omega), if_pos (by rw [hob]; omega)]; rfl, _, I, Sel.all, by unfold DK.trim; rw [if_neg (by omega), if_pos (by rw [hob]; omega)]; exact hD0, (rfl : (dkC b d ms ml av :: tC ms m1 c1 :: tC ml m2 c2 :: (ownH av acs 82 ++ (I ++ R))) = _)⟩
            | exact ⟨by unfold DK.trim; rw [if_neg (by omega), if_neg (by rw [hob]; omega)]; rfl, D4, I4, hI4.trans hsI, by unfold DK.trim; rw [if_neg (by omega), if_neg (by rw [hob]; omega)]; exact hD4, rfl⟩
          · exact (by repeat (first | exact Sel.all | exact Sel.none | exact Sel.hd | (apply Sel.one; · repeat (first | exact Pick.h | apply Pick.t | apply Pick.app)) | apply Sel.app | (with_reducible apply Sel.grp; · repeat (first | exact PickF.h | apply PickF.t | apply PickF.a)) | (with_reducible refine Sel.nilF (by with_unfolding_all rfl) ?_) | apply Sel.drop | apply Sel.dropF)))
      | false =>
        try have c_t15 := df h15
        first
        | (exfalso; omega)
        | (
          first | refine wa_takeg 3 (by kernel_rfl) rfl rfl rfl rfl rfl (by repeat (first | exact Sel.all | exact Sel.none | exact Sel.hd | (apply Sel.one; · repeat (first | exact Pick.h | apply Pick.t | apply Pick.app)) | apply Sel.app | (with_reducible apply Sel.grp; · repeat (first | exact PickF.h | apply PickF.t | apply PickF.a)) | (with_reducible refine Sel.nilF (by with_unfolding_all rfl) ?_) | apply Sel.drop | apply Sel.dropF)) (eLd ty3 rfl rfl (by repeat (first | exact Has.h | apply Has.t | apply Has.app)) (by rfl)) ?_ | refine wa_takeg 3 (by kernel_rfl) rfl rfl rfl rfl rfl (by repeat (first | exact Sel.all | exact Sel.none | exact Sel.hd | (apply Sel.one; · repeat (first | exact Pick.h | apply Pick.t | apply Pick.app)) | apply Sel.app | (with_reducible apply Sel.grp; · repeat (first | exact PickF.h | apply PickF.t | apply PickF.a)) | (with_reducible refine Sel.nilF (by with_unfolding_all rfl) ?_) | apply Sel.drop | apply Sel.dropF)) (eLdO ty3 rfl rfl (by assumption)) ?_
          refine wa_takeg 4 (by kernel_rfl) rfl rfl rfl rfl rfl (by repeat (first | exact Sel.all | exact Sel.none | exact Sel.hd | (apply Sel.one; · repeat (first | exact Pick.h | apply Pick.t | apply Pick.app)) | apply Sel.app | (with_reducible apply Sel.grp; · repeat (first | exact PickF.h | apply PickF.t | apply PickF.a)) | (with_reducible refine Sel.nilF (by with_unfolding_all rfl) ?_) | apply Sel.drop | apply Sel.dropF)) (eMv rfl) ?_
          refine wa_takeg 5 (by kernel_rfl) rfl rfl rfl rfl rfl (by repeat (first | exact Sel.all | exact Sel.none | exact Sel.hd | (apply Sel.one; · repeat (first | exact Pick.h | apply Pick.t | apply Pick.app)) | apply Sel.app | (with_reducible apply Sel.grp; · repeat (first | exact PickF.h | apply PickF.t | apply PickF.a)) | (with_reducible refine Sel.nilF (by with_unfolding_all rfl) ?_) | apply Sel.drop | apply Sel.dropF)) (eNil rfl) ?_
          refine wa_takeg 6 (by kernel_rfl) rfl rfl rfl rfl rfl (by repeat (first | exact Sel.all | exact Sel.none | exact Sel.hd | (apply Sel.one; · repeat (first | exact Pick.h | apply Pick.t | apply Pick.app)) | apply Sel.app | (with_reducible apply Sel.grp; · repeat (first | exact PickF.h | apply PickF.t | apply PickF.a)) | (with_reducible refine Sel.nilF (by with_unfolding_all rfl) ?_) | apply Sel.drop | apply Sel.dropF)) (eFld 5 ty52 rfl rfl ty49 rfl) ?_
          first | refine wa_takeg 7 (by kernel_rfl) rfl rfl rfl rfl rfl (by repeat (first | exact Sel.all | exact Sel.none | exact Sel.hd | (apply Sel.one; · repeat (first | exact Pick.h | apply Pick.t | apply Pick.app)) | apply Sel.app | (with_reducible apply Sel.grp; · repeat (first | exact PickF.h | apply PickF.t | apply PickF.a)) | (with_reducible refine Sel.nilF (by with_unfolding_all rfl) ?_) | apply Sel.drop | apply Sel.dropF)) (eLd ty49 rfl rfl (by repeat (first | exact Has.h | apply Has.t | apply Has.app)) (by rfl)) ?_ | refine wa_takeg 7 (by kernel_rfl) rfl rfl rfl rfl rfl (by repeat (first | exact Sel.all | exact Sel.none | exact Sel.hd | (apply Sel.one; · repeat (first | exact Pick.h | apply Pick.t | apply Pick.app)) | apply Sel.app | (with_reducible apply Sel.grp; · repeat (first | exact PickF.h | apply PickF.t | apply PickF.a)) | (with_reducible refine Sel.nilF (by with_unfolding_all rfl) ?_) | apply Sel.drop | apply Sel.dropF)) (eLdO ty49 rfl rfl (by assumption)) ?_
          first | refine wa_takeg 8 (by kernel_rfl) rfl rfl rfl rfl rfl (by repeat (first | exact Sel.all | exact Sel.none | exact Sel.hd | (apply Sel.one; · repeat (first | exact Pick.h | apply Pick.t | apply Pick.app)) | apply Sel.app | (with_reducible apply Sel.grp; · repeat (first | exact PickF.h | apply PickF.t | apply PickF.a)) | (with_reducible refine Sel.nilF (by with_unfolding_all rfl) ?_) | apply Sel.drop | apply Sel.dropF)) (eLd ty9 rfl rfl (by repeat (first | exact Has.h | apply Has.t | apply Has.app)) (by rfl)) ?_ | refine wa_takeg 8 (by kernel_rfl) rfl rfl rfl rfl rfl (by repeat (first | exact Sel.all | exact Sel.none | exact Sel.hd | (apply Sel.one; · repeat (first | exact Pick.h | apply Pick.t | apply Pick.app)) | apply Sel.app | (with_reducible apply Sel.grp; · repeat (first | exact PickF.h | apply PickF.t | apply PickF.a)) | (with_reducible refine Sel.nilF (by with_unfolding_all rfl) ?_) | apply Sel.drop | apply Sel.dropF)) (eLdO ty9 rfl rfl (by assumption)) ?_
          refine wa_takeg 9 (by kernel_rfl) rfl rfl rfl rfl rfl (by repeat (first | exact Sel.all | exact Sel.none | exact Sel.hd | (apply Sel.one; · repeat (first | exact Pick.h | apply Pick.t | apply Pick.app)) | apply Sel.app | (with_reducible apply Sel.grp; · repeat (first | exact PickF.h | apply PickF.t | apply PickF.a)) | (with_reducible refine Sel.nilF (by with_unfolding_all rfl) ?_) | apply Sel.drop | apply Sel.dropF)) (eLk1 (v := ov) ty49 ty30 (strKOk' ty9) rfl rfl (by repeat (first | exact Has.h | apply Has.t | apply Has.app)) hov) ?_
          refine wa_takeg 10 (by kernel_rfl) rfl rfl rfl rfl rfl (by repeat (first | exact Sel.all | exact Sel.none | exact Sel.hd | (apply Sel.one; · repeat (first | exact Pick.h | apply Pick.t | apply Pick.app)) | apply Sel.app | (with_reducible apply Sel.grp; · repeat (first | exact PickF.h | apply PickF.t | apply PickF.a)) | (with_reducible refine Sel.nilF (by with_unfolding_all rfl) ?_) | apply Sel.drop | apply Sel.dropF)) (eLenR ty30 rfl (hor.sel (by repeat (first | exact Sel.all | exact Sel.none | exact Sel.hd | (apply Sel.one; · repeat (first | exact Pick.h | apply Pick.t | apply Pick.app)) | apply Sel.app | (with_reducible apply Sel.grp; · repeat (first | exact PickF.h | apply PickF.t | apply PickF.a)) | (with_reducible refine Sel.nilF (by with_unfolding_all rfl) ?_) | apply Sel.drop | apply Sel.dropF)))) ?_
          refine wa_takegb 11 (by kernel_rfl) rfl rfl rfl rfl rfl (by repeat (first | exact Sel.all | exact Sel.none | exact Sel.hd | (apply Sel.one; · repeat (first | exact Pick.h | apply Pick.t | apply Pick.app)) | apply Sel.app | (with_reducible apply Sel.grp; · repeat (first | exact PickF.h | apply PickF.t | apply PickF.a)) | (with_reducible refine Sel.nilF (by with_unfolding_all rfl) ?_) | apply Sel.drop | apply Sel.dropF)) (eGt rfl rfl) fun t25 h25 => ?_
          refine wa_take 12 (by kernel_rfl) rfl rfl rfl rfl (by repeat (first | exact Sel.all | exact Sel.none | exact Sel.hd | (apply Sel.one; · repeat (first | exact Pick.h | apply Pick.t | apply Pick.app)) | apply Sel.app | (with_reducible apply Sel.grp; · repeat (first | exact PickF.h | apply PickF.t | apply PickF.a)) | (with_reducible refine Sel.nilF (by with_unfolding_all rfl) ?_) | apply Sel.drop | apply Sel.dropF)) (ePk rfl rfl) ?_
          refine wa_nil (by kernel_rfl) ?_
          cases t25 with
          | true =>
            try have c_t25 := dt h25
            first
            | (exfalso; omega)
            | (
              refine wc_then rfl ?_
              refine wc_seq ?_
              refine wc_region ?_
              refine wl rfl (OP.ev rfl rfl (eAs rfl) ?_)
              refine wl_nil ?_
              refine wc_ret ?_
              apply at_ret rfl
              · exact (.cons (.tmp rfl) .nil)
              · first
                | exact ⟨by unfold DK.trim; rw [if_pos (by omega)]; rfl, _, I, Sel.all, by unfold DK.trim; rw [if_pos (by omega)]; exact hD0, (rfl : (dkC b d ms ml av :: tC ms m1 c1 :: tC ml m2 c2 :: (ownH av acs 82 ++ (I ++ R))) = _)⟩
                | exact ⟨by unfold DK.trim; rw [if_neg (by omega), if_pos (by rw [hob]; omega)]; rfl, _, I, Sel.all, by unfold DK.trim; rw [if_neg (by omega), if_pos (by rw [hob]; omega)]; exact hD0, (rfl : (dkC b d ms ml av :: tC ms m1 c1 :: tC ml m2 c2 :: (ownH av acs 82 ++ (I ++ R))) = _)⟩
                | exact ⟨by unfold DK.trim; rw [if_neg (by omega), if_neg (by rw [hob]; omega)]; rfl, D4, I4, hI4.trans hsI, by unfold DK.trim; rw [if_neg (by omega), if_neg (by rw [hob]; omega)]; exact hD4, rfl⟩
              · exact (by repeat (first | exact Sel.all | exact Sel.none | exact Sel.hd | (apply Sel.one; · repeat (first | exact Pick.h | apply Pick.t | apply Pick.app)) | apply Sel.app | (with_reducible apply Sel.grp; · repeat (first | exact PickF.h | apply PickF.t | apply PickF.a)) | (with_reducible refine Sel.nilF (by with_unfolding_all rfl) ?_) | apply Sel.drop | apply Sel.dropF)))
          | false =>
            try have c_t25 := df h25
            first
            | (exfalso; omega)
            | (
              refine wc_else rfl ?_
              refine wc_skip ?_
              refine wc_seq ?_
              have hf0 : d.find k = 0 := by omega
              obtain ⟨ho, hm, _⟩ := find_zero hf0
              have hsI : Sel ((b4, .cells #[strK k] 9 (0, 0)) :: (b5, .cells #[i64 n] 3 (0, 0)) :: I) I := Sel.drop (Sel.drop Sel.all)
              have hdo := do_ok (W0 := W0) (I := (b4, .cells #[strK k] 9 (0, 0)) :: (b5, .cells #[i64 n] 3 (0, 0)) :: I) b d hd ho ⟨1, k, [], n, []⟩ (.func (.func 71) #[] #[ptr b4, ptr b5]) (.slice none 0 0) (can_trim hd hf0 (by omega) (by rw [hob]; omega)) (by show ((total d.last + costs d.acts + 0 : Nat) : Int) ≤ _; omega) ⟨may_len hm, by simp⟩ (.inr (.inl ⟨rfl, b4, b5, rfl, Rc.of_has (by repeat (first | exact Has.h | apply Has.t | apply Has.app)) rfl, Rc.of_has (by repeat (first | exact Has.h | apply Has.t | apply Has.app)) rfl⟩)) (Rs.nil 1) (fun x hx => by simp at hx) _ R (hD0.sel hsI) hn
              simp only [List.cons_append] at hdo
              refine wc_region ?_
              refine wl rfl (OP.ev rfl rfl (eMv rfl) ?_)
              refine wl rfl (OP.ev rfl rfl (eMkF rfl rfl) ?_)
              refine wl rfl (oC rfl pf48 rfl hdo (by repeat (first | exact Sel.all | exact Sel.none | exact Sel.hd | (apply Sel.one; · repeat (first | exact Pick.h | apply Pick.t | apply Pick.app)) | apply Sel.app | (with_reducible apply Sel.grp; · repeat (first | exact PickF.h | apply PickF.t | apply PickF.a)) | (with_reducible refine Sel.nilF (by with_unfolding_all rfl) ?_) | apply Sel.drop | apply Sel.dropF)) ?_)
              rintro _ _ ⟨rfl, D4, I4, hI4, hD4, rfl⟩
              refine wl rfl (OP.ev rfl rfl (eAs rfl) ?_)
              refine wl_nil ?_
              refine wc_ret ?_
              apply at_ret rfl
              · exact (.cons (.tmp rfl) .nil)
              · first
                | exact ⟨by unfold DK.trim; rw [if_pos (by omega)]; rfl, _, I, Sel.all, by unfold DK.trim; rw [if_pos (by omega)]; exact hD0, (rfl : (dkC b d ms ml av :: tC ms m1 c1 :: tC ml m2 c2 :: (ownH av acs 82 ++ (I ++ R))) = _)⟩
                | exact ⟨by unfold DK.trim; rw [if_neg (by omega), if_pos (by rw [hob]; omega)]; rfl, _, I, Sel.all, by unfold DK.trim; rw [if_neg (by omega), if_pos (by rw [hob]; omega)]; exact hD0, (rfl : (dkC b d ms ml av :: tC ms m1 c1 :: tC ml m2 c2 :: (ownH av acs 82 ++ (I ++ R))) = _)⟩
                | exact ⟨by unfold DK.trim; rw [if_neg (by omega), if_neg (by rw [hob]; omega)]; rfl, D4, I4, hI4.trans hsI, by unfold DK.trim; rw [if_neg (by omega), if_neg (by rw [hob]; omega)]; exact hD4, rfl⟩
              · exact (by repeat (first | exact Sel.all | exact Sel.none | exact Sel.hd | (apply Sel.one; · repeat (first | exact Pick.h | apply Pick.t | apply Pick.app)) | apply Sel.app | (with_reducible apply Sel.grp; · repeat (first | exact PickF.h | apply PickF.t | apply PickF.a)) | (with_reducible refine Sel.nilF (by with_unfolding_all rfl) ?_) | apply Sel.drop | apply Sel.dropF)))))

theorem move_ok (b : Nat) (d : DK) (hd : DOk d) (k j : Nm) (D R : Heap) (hD : DiskR W0 I d b D) (hn : d.acts.length < 1000000) :
    FnC W0 Try.prog 18 #[ptr b, strK k, strK j] (D ++ (I ++ R)) (PutP W0 I R b (d.move k j).2 (i64 (d.move k j).1)) := by
  obtain ⟨ms, ml, m1, c1, m2, c2, av, acs, ax, rfl, hT1, hT2, hA⟩ := hD
  have hD0 : DiskR W0 I d b (dkC b d ms ml av :: tC ms m1 c1 :: tC ml m2 c2 :: ownH av acs 82) := ⟨ms, ml, m1, c1, m2, c2, av, acs, ax, rfl, hT1, hT2, hA⟩
  have huse := hd.use
  simp only [List.cons_append]
  refine fn_of Try.func18 rfl Try.ntmps18 rfl rfl ?_
  refine wc_seq ?_
  refine wc_region ?_
  refine wl rfl (oBox rfl rfl rfl fun b4 => ?_)
  refine wl rfl (oBox rfl rfl rfl fun b5 => ?_)
  refine wl rfl (OP.ev rfl rfl (eAs rfl) ?_)
  refine wl_nil ?_
  refine wc_seq ?_
  refine wc_seq ?_
  refine wc_region ?_
  refine wl rfl (OP.ev rfl rfl (eMv rfl) ?_)
  first | refine wl rfl (OP.ev rfl rfl (eLd ty9 rfl rfl (by repeat (first | exact Has.h | apply Has.t | apply Has.app)) (by rfl)) ?_) | refine wl rfl (OP.ev rfl rfl (eLdO ty9 rfl rfl (by assumption)) ?_)
  refine wl rfl (oC rfl pf44 rfl (find_ok b d ms ml av m1 c1 k hT1 _) (by repeat (first | exact Sel.all | exact Sel.none | exact Sel.hd | (apply Sel.one; · repeat (first | exact Pick.h | apply Pick.t | apply Pick.app)) | apply Sel.app | (with_reducible apply Sel.grp; · repeat (first | exact PickF.h | apply PickF.t | apply PickF.a)) | (with_reducible refine Sel.nilF (by with_unfolding_all rfl) ?_) | apply Sel.drop | apply Sel.dropF)) ?_)
  rintro _ _ ⟨rfl, rfl⟩
  refine wl rfl (OP.ev rfl rfl (eAs rfl) ?_)
  refine wl_nil ?_
  refine wc_seq ?_
  refine wc_region ?_
  refine wl rfl (OP.ev rfl rfl (eMv rfl) ?_)
  refine wl rfl (OP.evb rfl rfl (eNe rfl rfl) fun t12 h12 => ?_)
  refine wl_nil ?_
  cases t12 with
  | true =>
    try have c_t12 := dt h12
    first
    | (exfalso; omega)
    | (
      refine wc_then rfl ?_
      refine wc_seq ?_
      refine wc_region ?_
      refine wl rfl (OP.ev rfl rfl (eMv rfl) ?_)
      refine wl rfl (OP.ev rfl rfl (eAs rfl) ?_)
      refine wl_nil ?_
      refine wc_ret ?_
      apply at_ret rfl
      · exact (.cons (.tmp rfl) .nil)
      · first
        | exact ⟨by unfold DK.move; rw [if_pos (by omega)]; rfl, _, I, Sel.all, by unfold DK.move; rw [if_pos (by omega)]; exact hD0, (rfl : (dkC b d ms ml av :: tC ms m1 c1 :: tC ml m2 c2 :: (ownH av acs 82 ++ (I ++ R))) = _)⟩
        | exact ⟨by unfold DK.move; rw [if_neg (by omega), if_pos (by simpa using h17)]; rfl, _, I, Sel.all, by unfold DK.move; rw [if_neg (by omega), if_pos (by simpa using h17)]; exact hD0, (rfl : (dkC b d ms ml av :: tC ms m1 c1 :: tC ml m2 c2 :: (ownH av acs 82 ++ (I ++ R))) = _)⟩
        | exact ⟨by unfold DK.move; rw [if_neg (by omega), if_neg (by simp [hmj])]; rfl, D4, I4, hI4.trans hsI, by unfold DK.move; rw [if_neg (by omega), if_neg (by simp [hmj])]; exact hD4, rfl⟩
      · exact (by repeat (first | exact Sel.all | exact Sel.none | exact Sel.hd | (apply Sel.one; · repeat (first | exact Pick.h | apply Pick.t | apply Pick.app)) | apply Sel.app | (with_reducible apply Sel.grp; · repeat (first | exact PickF.h | apply PickF.t | apply PickF.a)) | (with_reducible refine Sel.nilF (by with_unfolding_all rfl) ?_) | apply Sel.drop | apply Sel.dropF)))
  | false =>
    try have c_t12 := df h12
    first
    | (exfalso; omega)
    | (
      refine wc_else rfl ?_
      refine wc_skip ?_
      refine wc_seq ?_
      refine wc_seq ?_
      refine wc_region ?_
      first | refine wl rfl (OP.ev rfl rfl (eLd ty9 rfl rfl (by repeat (first | exact Has.h | apply Has.t | apply Has.app)) (by rfl)) ?_) | refine wl rfl (OP.ev rfl rfl (eLdO ty9 rfl rfl (by assumption)) ?_)
      refine wl rfl (oBSw (vs := [_]) rfl ty33 ty9 rfl rfl rfl rfl rfl rfl fun b15 => ?_)
      refine wl rfl (oCA rfl pf47 rfl (may_ok _ [j] _ (Rs.mk (Rc.of_has (by repeat (first | exact Has.h | apply Has.t | apply Has.app)) rfl) rfl (Nat.le_refl _)) (by simp)) ?_)
      rintro _ _ ⟨rfl, rfl⟩
      refine wl rfl (OP.evb rfl rfl (eNot rfl) fun t17 h17 => ?_)
      refine wl_nil ?_
      cases t17 with
      | true =>
        try have c_t17 := dt h17
        first
        | (exfalso; omega)
        | (
          refine wc_then rfl ?_
          refine wc_seq ?_
          refine wc_region ?_
          refine wl rfl (OP.ev rfl rfl (eAs rfl) ?_)
          refine wl_nil ?_
          refine wc_ret ?_
          apply at_ret rfl
          · exact (.cons (.tmp rfl) .nil)
          · first
            | exact ⟨by unfold DK.move; rw [if_pos (by omega)]; rfl, _, I, Sel.all, by unfold DK.move; rw [if_pos (by omega)]; exact hD0, (rfl : (dkC b d ms ml av :: tC ms m1 c1 :: tC ml m2 c2 :: (ownH av acs 82 ++ (I ++ R))) = _)⟩
            | exact ⟨by unfold DK.move; rw [if_neg (by omega), if_pos (by simpa using h17)]; rfl, _, I, Sel.all, by unfold DK.move; rw [if_neg (by omega), if_pos (by simpa using h17)]; exact hD0, (rfl : (dkC b d ms ml av :: tC ms m1 c1 :: tC ml m2 c2 :: (ownH av acs 82 ++ (I ++ R))) = _)⟩
            | exact ⟨by unfold DK.move; rw [if_neg (by omega), if_neg (by simp [hmj])]; rfl, D4, I4, hI4.trans hsI, by unfold DK.move; rw [if_neg (by omega), if_neg (by simp [hmj])]; exact hD4, rfl⟩
          · exact (by repeat (first | exact Sel.all | exact Sel.none | exact Sel.hd | (apply Sel.one; · repeat (first | exact Pick.h | apply Pick.t | apply Pick.app)) | apply Sel.app | (with_reducible apply Sel.grp; · repeat (first | exact PickF.h | apply PickF.t | apply PickF.a)) | (with_reducible refine Sel.nilF (by with_unfolding_all rfl) ?_) | apply Sel.drop | apply Sel.dropF)))
      | false =>
        try have c_t17 := df h17
        first
        | (exfalso; omega)
        | (
          refine wc_else rfl ?_
          refine wc_skip ?_
          refine wc_seq ?_
          have hf0 : d.find k = 0 := by omega
          have hmj : may j = true := by simpa using h17
          obtain ⟨ho, hm, _⟩ := find_zero hf0
          have hsI : Sel ((b4, .cells #[strK k] 9 (0, 0)) :: (b5, .cells #[strK j] 9 (0, 0)) :: I) I := Sel.drop (Sel.drop Sel.all)
          have hdo := do_ok (W0 := W0) (I := (b4, .cells #[strK k] 9 (0, 0)) :: (b5, .cells #[strK j] 9 (0, 0)) :: I) b d hd ho ⟨2, k, j, 0, []⟩ (.func (.func 49) #[] #[ptr b4, ptr b5]) (.slice none 0 0) (can_move hd hf0) (by show ((total d.last + costs d.acts + 0 : Nat) : Int) ≤ _; omega) ⟨may_len hm, may_len hmj⟩ (.inr (.inr (.inl ⟨rfl, b4, b5, rfl, Rc.of_has (by repeat (first | exact Has.h | apply Has.t | apply Has.app)) rfl, Rc.of_has (by repeat (first | exact Has.h | apply Has.t | apply Has.app)) rfl⟩))) (Rs.nil 1) (fun x hx => by simp at hx) _ R (hD0.sel hsI) hn
          simp only [List.cons_append] at hdo
          refine wc_region ?_
          refine wl rfl (OP.ev rfl rfl (eMv rfl) ?_)
          refine wl rfl (OP.ev rfl rfl (eMkF rfl rfl) ?_)
          refine wl rfl (oC rfl pf48 rfl hdo (by repeat (first | exact Sel.all | exact Sel.none | exact Sel.hd | (apply Sel.one; · repeat (first | exact Pick.h | apply Pick.t | apply Pick.app)) | apply Sel.app | (with_reducible apply Sel.grp; · repeat (first | exact PickF.h | apply PickF.t | apply PickF.a)) | (with_reducible refine Sel.nilF (by with_unfolding_all rfl) ?_) | apply Sel.drop | apply Sel.dropF)) ?_)
          rintro _ _ ⟨rfl, D4, I4, hI4, hD4, rfl⟩
          refine wl rfl (OP.ev rfl rfl (eAs rfl) ?_)
          refine wl_nil ?_
          refine wc_ret ?_
          apply at_ret rfl
          · exact (.cons (.tmp rfl) .nil)
          · first
            | exact ⟨by unfold DK.move; rw [if_pos (by omega)]; rfl, _, I, Sel.all, by unfold DK.move; rw [if_pos (by omega)]; exact hD0, (rfl : (dkC b d ms ml av :: tC ms m1 c1 :: tC ml m2 c2 :: (ownH av acs 82 ++ (I ++ R))) = _)⟩
            | exact ⟨by unfold DK.move; rw [if_neg (by omega), if_pos (by simpa using h17)]; rfl, _, I, Sel.all, by unfold DK.move; rw [if_neg (by omega), if_pos (by simpa using h17)]; exact hD0, (rfl : (dkC b d ms ml av :: tC ms m1 c1 :: tC ml m2 c2 :: (ownH av acs 82 ++ (I ++ R))) = _)⟩
            | exact ⟨by unfold DK.move; rw [if_neg (by omega), if_neg (by simp [hmj])]; rfl, D4, I4, hI4.trans hsI, by unfold DK.move; rw [if_neg (by omega), if_neg (by simp [hmj])]; exact hD4, rfl⟩
          · exact (by repeat (first | exact Sel.all | exact Sel.none | exact Sel.hd | (apply Sel.one; · repeat (first | exact Pick.h | apply Pick.t | apply Pick.app)) | apply Sel.app | (with_reducible apply Sel.grp; · repeat (first | exact PickF.h | apply PickF.t | apply PickF.a)) | (with_reducible refine Sel.nilF (by with_unfolding_all rfl) ?_) | apply Sel.drop | apply Sel.dropF))))

theorem drop_ok (b : Nat) (d : DK) (hd : DOk d) (k : Nm) (D R : Heap) (hD : DiskR W0 I d b D) (hn : d.acts.length < 1000000) :
    FnC W0 Try.prog 53 #[ptr b, strK k] (D ++ (I ++ R)) (PutP W0 I R b (d.drop k).2 (i64 (d.drop k).1)) := by
  obtain ⟨ms, ml, m1, c1, m2, c2, av, acs, ax, rfl, hT1, hT2, hA⟩ := hD
  have hD0 : DiskR W0 I d b (dkC b d ms ml av :: tC ms m1 c1 :: tC ml m2 c2 :: ownH av acs 82) := ⟨ms, ml, m1, c1, m2, c2, av, acs, ax, rfl, hT1, hT2, hA⟩
  have huse := hd.use
  simp only [List.cons_append]
  refine fn_of Try.func53 rfl Try.ntmps53 rfl rfl ?_
  refine wc_seq ?_
  refine wc_region ?_
  refine wl rfl (oBox rfl rfl rfl fun b3 => ?_)
  refine wl rfl (OP.ev rfl rfl (eAs rfl) ?_)
  refine wl_nil ?_
  refine wc_seq ?_
  refine wc_seq ?_
  refine wc_region ?_
  refine wl rfl (OP.ev rfl rfl (eMv rfl) ?_)
  first | refine wl rfl (OP.ev rfl rfl (eLd ty9 rfl rfl (by repeat (first | exact Has.h | apply Has.t | apply Has.app)) (by rfl)) ?_) | refine wl rfl (OP.ev rfl rfl (eLdO ty9 rfl rfl (by assumption)) ?_)
  refine wl rfl (oC rfl pf44 rfl (find_ok b d ms ml av m1 c1 k hT1 _) (by repeat (first | exact Sel.all | exact Sel.none | exact Sel.hd | (apply Sel.one; · repeat (first | exact Pick.h | apply Pick.t | apply Pick.app)) | apply Sel.app | (with_reducible apply Sel.grp; · repeat (first | exact PickF.h | apply PickF.t | apply PickF.a)) | (with_reducible refine Sel.nilF (by with_unfolding_all rfl) ?_) | apply Sel.drop | apply Sel.dropF)) ?_)
  rintro _ _ ⟨rfl, rfl⟩
  refine wl rfl (OP.ev rfl rfl (eAs rfl) ?_)
  refine wl_nil ?_
  refine wc_seq ?_
  refine wc_region ?_
  refine wl rfl (OP.ev rfl rfl (eMv rfl) ?_)
  refine wl rfl (OP.evb rfl rfl (eNe rfl rfl) fun t10 h10 => ?_)
  refine wl_nil ?_
  cases t10 with
  | true =>
    try have c_t10 := dt h10
    first
    | (exfalso; omega)
    | (
      refine wc_then rfl ?_
      refine wc_seq ?_
      refine wc_region ?_
      refine wl rfl (OP.ev rfl rfl (eMv rfl) ?_)
      refine wl rfl (OP.ev rfl rfl (eAs rfl) ?_)
      refine wl_nil ?_
      refine wc_ret ?_
      apply at_ret rfl
      · exact (.cons (.tmp rfl) .nil)
      · first
        | exact ⟨by unfold DK.drop; rw [if_pos (by omega)]; rfl, _, I, Sel.all, by unfold DK.drop; rw [if_pos (by omega)]; exact hD0, (rfl : (dkC b d ms ml av :: tC ms m1 c1 :: tC ml m2 c2 :: (ownH av acs 82 ++ (I ++ R))) = _)⟩
        | exact ⟨by unfold DK.drop; rw [if_neg (by omega)]; rfl, D4, I4, hI4.trans hsI, by unfold DK.drop; rw [if_neg (by omega)]; exact hD4, rfl⟩
      · exact (by repeat (first | exact Sel.all | exact Sel.none | exact Sel.hd | (apply Sel.one; · repeat (first | exact Pick.h | apply Pick.t | apply Pick.app)) | apply Sel.app | (with_reducible apply Sel.grp; · repeat (first | exact PickF.h | apply PickF.t | apply PickF.a)) | (with_reducible refine Sel.nilF (by with_unfolding_all rfl) ?_) | apply Sel.drop | apply Sel.dropF)))
  | false =>
    try have c_t10 := df h10
    first
    | (exfalso; omega)
    | (
      refine wc_else rfl ?_
      refine wc_skip ?_
      refine wc_seq ?_
      have hf0 : d.find k = 0 := by omega
      obtain ⟨ho, hm, _⟩ := find_zero hf0
      have hsI : Sel ((b3, .cells #[strK k] 9 (0, 0)) :: I) I := Sel.drop Sel.all
      have hdo := do_ok (W0 := W0) (I := (b3, .cells #[strK k] 9 (0, 0)) :: I) b d hd ho ⟨3, k, [], 0, []⟩ (.func (.func 72) #[] #[ptr b3]) (.slice none 0 0) (can_drop hd hf0) (by show ((total d.last + costs d.acts + 0 : Nat) : Int) ≤ _; omega) ⟨may_len hm, by simp⟩ (.inr (.inr (.inr ⟨rfl, b3, rfl, Rc.of_has (by repeat (first | exact Has.h | apply Has.t | apply Has.app)) rfl⟩))) (Rs.nil 1) (fun x hx => by simp at hx) _ R (hD0.sel hsI) hn
      simp only [List.cons_append] at hdo
      refine wc_region ?_
      refine wl rfl (OP.ev rfl rfl (eMv rfl) ?_)
      refine wl rfl (OP.ev rfl rfl (eMkF rfl rfl) ?_)
      refine wl rfl (oC rfl pf48 rfl hdo (by repeat (first | exact Sel.all | exact Sel.none | exact Sel.hd | (apply Sel.one; · repeat (first | exact Pick.h | apply Pick.t | apply Pick.app)) | apply Sel.app | (with_reducible apply Sel.grp; · repeat (first | exact PickF.h | apply PickF.t | apply PickF.a)) | (with_reducible refine Sel.nilF (by with_unfolding_all rfl) ?_) | apply Sel.drop | apply Sel.dropF)) ?_)
      rintro _ _ ⟨rfl, D4, I4, hI4, hD4, rfl⟩
      refine wl rfl (OP.ev rfl rfl (eAs rfl) ?_)
      refine wl_nil ?_
      refine wc_ret ?_
      apply at_ret rfl
      · exact (.cons (.tmp rfl) .nil)
      · first
        | exact ⟨by unfold DK.drop; rw [if_pos (by omega)]; rfl, _, I, Sel.all, by unfold DK.drop; rw [if_pos (by omega)]; exact hD0, (rfl : (dkC b d ms ml av :: tC ms m1 c1 :: tC ml m2 c2 :: (ownH av acs 82 ++ (I ++ R))) = _)⟩
        | exact ⟨by unfold DK.drop; rw [if_neg (by omega)]; rfl, D4, I4, hI4.trans hsI, by unfold DK.drop; rw [if_neg (by omega)]; exact hD4, rfl⟩
      · exact (by repeat (first | exact Sel.all | exact Sel.none | exact Sel.hd | (apply Sel.one; · repeat (first | exact Pick.h | apply Pick.t | apply Pick.app)) | apply Sel.app | (with_reducible apply Sel.grp; · repeat (first | exact PickF.h | apply PickF.t | apply PickF.a)) | (with_reducible refine Sel.nilF (by with_unfolding_all rfl) ?_) | apply Sel.drop | apply Sel.dropF)))

theorem ready_off {d : DK} (h : d.ready ≠ 0) : d.off = true ∧ d.ready = 22 := by
  unfold DK.ready at *
  split at h <;> simp_all
theorem ready_on {d : DK} (h : d.ready = 0) : d.off = false := by
  unfold DK.ready at *
  split at h <;> simp_all

theorem sync_ok (b : Nat) (d : DK) (hd : DOk d) (D R : Heap) (hD : DiskR W0 I d b D) (hn : d.acts.length ≤ 1000000) :
    FnC W0 Try.prog 41 #[ptr b] (D ++ (I ++ R)) (PutP W0 I R b d.sync.2 (i64 d.sync.1)) := by
  obtain ⟨ms, ml, m1, c1, m2, c2, av, acs, ax, rfl, hT1, hT2, hA⟩ := hD
  have hD0 : DiskR W0 I d b (dkC b d ms ml av :: tC ms m1 c1 :: tC ml m2 c2 :: ownH av acs 82) := ⟨ms, ml, m1, c1, m2, c2, av, acs, ax, rfl, hT1, hT2, hA⟩
  have hD1 : DiskR W0 I d.less b (dkC b d.less ms ml av :: tC ms m1 c1 :: tC ml m2 c2 :: ownH av acs 82) := ⟨ms, ml, m1, c1, m2, c2, av, acs, ax, rfl, hT1, hT2, hA⟩
  simp only [List.cons_append]
  refine fn_of Try.func41 rfl Try.ntmps41 rfl rfl ?_
  refine wc_seq ?_
  refine wc_region ?_
  refine wl rfl (OP.ev rfl rfl (eAs rfl) ?_)
  refine wl_nil ?_
  refine wc_seq ?_
  refine wc_seq ?_
  refine wc_region ?_
  refine wl rfl (OP.ev rfl rfl (eMv rfl) ?_)
  refine wl rfl (oC rfl pf43 rfl (ready_ok b d ms ml av _) (by repeat (first | exact Sel.all | exact Sel.none | exact Sel.hd | (apply Sel.one; · repeat (first | exact Pick.h | apply Pick.t | apply Pick.app)) | apply Sel.app | (with_reducible apply Sel.grp; · repeat (first | exact PickF.h | apply PickF.t | apply PickF.a)) | (with_reducible refine Sel.nilF (by with_unfolding_all rfl) ?_) | apply Sel.drop | apply Sel.dropF)) ?_)
  rintro _ _ ⟨rfl, rfl⟩
  refine wl rfl (OP.ev rfl rfl (eAs rfl) ?_)
  refine wl_nil ?_
  refine wc_seq ?_
  refine wc_region ?_
  refine wl rfl (OP.ev rfl rfl (eMv rfl) ?_)
  refine wl rfl (OP.evb rfl rfl (eNe rfl rfl) fun t7 h7 => ?_)
  refine wl_nil ?_
  cases t7 with
  | true =>
    try have c_t7 := dt h7
    first
    | (exfalso; omega)
    | (
      refine wc_then rfl ?_
      refine wc_seq ?_
      refine wc_region ?_
      refine wl rfl (OP.ev rfl rfl (eMv rfl) ?_)
      refine wl rfl (OP.ev rfl rfl (eAs rfl) ?_)
      refine wl_nil ?_
      refine wc_ret ?_
      apply at_ret rfl
      · exact (.cons (.tmp rfl) .nil)
      · first
        | exact ⟨by unfold DK.sync; rw [if_pos (ready_off c_t7).1, (ready_off c_t7).2]; rfl, _, I, Sel.all, by unfold DK.sync; rw [if_pos (ready_off c_t7).1]; exact hD0, (rfl : (dkC b d ms ml av :: tC ms m1 c1 :: tC ml m2 c2 :: (ownH av acs 82 ++ (I ++ R))) = _)⟩
        | exact ⟨by unfold DK.sync; rw [if_neg (by simp [ho]), if_pos hl1]; rfl, D4, I4, hI4, by unfold DK.sync; rw [if_neg (by simp [ho]), if_pos hl1]; exact hD4, rfl⟩
        | exact ⟨by rw [hsy]; rfl, _, I4, hI4, by rw [hsy]; exact ⟨ms, r4, m1, c1, m4, c4, .slice none 0 0, #[], [], rfl, hT1.sel hI4, hT4, ActsR.nil⟩, (rfl : (dkC b { d.less with last := d.seen, acts := [] } ms r4 (.slice none 0 0) :: tC ms m1 c1 :: tC r4 m4 c4 :: (I4 ++ R)) = _)⟩
      · exact (by repeat (first | exact Sel.all | exact Sel.none | exact Sel.hd | (apply Sel.one; · repeat (first | exact Pick.h | apply Pick.t | apply Pick.app)) | apply Sel.app | (with_reducible apply Sel.grp; · repeat (first | exact PickF.h | apply PickF.t | apply PickF.a)) | (with_reducible refine Sel.nilF (by with_unfolding_all rfl) ?_) | apply Sel.drop | apply Sel.dropF)))
  | false =>
    try have c_t7 := df h7
    first
    | (exfalso; omega)
    | (
      refine wc_else rfl ?_
      refine wc_skip ?_
      refine wc_seq ?_
      refine wc_seq ?_
      have ho := ready_on (show d.ready = 0 by omega)
      rcases hh : d.hit with _ | _
      · refine wc_region ?_
        refine wl rfl (OP.ev rfl rfl (eMv rfl) ?_)
        refine wl rfl (oC rfl pf66 rfl (struck_ok b d ms ml av hd.left _) (by repeat (first | exact Sel.all | exact Sel.none | exact Sel.hd | (apply Sel.one; · repeat (first | exact Pick.h | apply Pick.t | apply Pick.app)) | apply Sel.app | (with_reducible apply Sel.grp; · repeat (first | exact PickF.h | apply PickF.t | apply PickF.a)) | (with_reducible refine Sel.nilF (by with_unfolding_all rfl) ?_) | apply Sel.drop | apply Sel.dropF)) ?_)
        rintro _ _ ⟨rfl, rfl⟩
        refine wl_nil ?_
        rw [hh]
        refine wc_else rfl ?_
        refine wc_skip ?_
        refine wc_seq ?_
        have hl2 : ¬ d.left = 1 := of_decide_eq_false hh
        have hsy : d.sync = (0, { d.less with last := d.seen, acts := [] }) := by unfold DK.sync; rw [if_neg (by simp [ho]), if_neg hl2]
        refine wc_region ?_
        refine wl rfl (OP.ev rfl rfl (eMv rfl) ?_)
        refine wl rfl (OP.ev rfl rfl (eMv rfl) ?_)
        refine wl rfl (OP.ev rfl rfl (eMv rfl) ?_)
        refine wl rfl (OP.ev rfl rfl (eNil rfl) ?_)
        refine wl rfl (OP.ev rfl rfl (eFld 5 ty52 rfl rfl ty49 rfl) ?_)
        first | refine wl rfl (OP.ev rfl rfl (eLd ty49 rfl rfl (by repeat (first | exact Has.h | apply Has.t | apply Has.app)) (by rfl)) ?_) | refine wl rfl (OP.ev rfl rfl (eLdO ty49 rfl rfl (by assumption)) ?_)
        refine wl rfl (oC rfl pf50 rfl (copied_ok ms m1 c1 d.seen hT1 hd.snum hd.sbytes _) (by repeat (first | exact Sel.all | exact Sel.none | exact Sel.hd | (apply Sel.one; · repeat (first | exact Pick.h | apply Pick.t | apply Pick.app)) | apply Sel.app | (with_reducible apply Sel.grp; · repeat (first | exact PickF.h | apply PickF.t | apply PickF.a)) | (with_reducible refine Sel.nilF (by with_unfolding_all rfl) ?_) | apply Sel.drop | apply Sel.dropF)) ?_)
        rintro v61 _ ⟨r4, m4, c4, I4, rfl, hI4, hT4, rfl⟩
        refine wl rfl (OP.ev rfl rfl (eNil rfl) ?_)
        refine wl rfl (OP.ev rfl rfl (eFld 6 ty52 rfl rfl ty49 rfl) ?_)
        refine wl rfl (oSt ty49 rfl rfl rfl rfl (by repeat (first | exact Upd.h | apply Upd.t | apply Upd.app)) (by first | decide | simp) (by rfl) ?_)
        refine wl rfl (OP.ev rfl rfl (eNil rfl) ?_)
        refine wl rfl (OP.ev rfl rfl (eFld 7 ty52 rfl rfl ty50 rfl) ?_)
        refine wl rfl (oSt ty50 rfl rfl rfl rfl (by repeat (first | exact Upd.h | apply Upd.t | apply Upd.app)) (by first | decide | simp) (by rfl) ?_)
        refine wl_nil ?_
        refine wc_seq ?_
        refine wc_region ?_
        refine wl rfl (OP.ev rfl rfl (eAs rfl) ?_)
        refine wl_nil ?_
        refine wc_ret ?_
        apply at_ret rfl
        · exact (.cons (.tmp rfl) .nil)
        · first
          | exact ⟨by unfold DK.sync; rw [if_pos (ready_off c_t7).1, (ready_off c_t7).2]; rfl, _, I, Sel.all, by unfold DK.sync; rw [if_pos (ready_off c_t7).1]; exact hD0, (rfl : (dkC b d ms ml av :: tC ms m1 c1 :: tC ml m2 c2 :: (ownH av acs 82 ++ (I ++ R))) = _)⟩
          | exact ⟨by unfold DK.sync; rw [if_neg (by simp [ho]), if_pos hl1]; rfl, D4, I4, hI4, by unfold DK.sync; rw [if_neg (by simp [ho]), if_pos hl1]; exact hD4, rfl⟩
          | exact ⟨by rw [hsy]; rfl, _, I4, hI4, by rw [hsy]; exact ⟨ms, r4, m1, c1, m4, c4, .slice none 0 0, #[], [], rfl, hT1.sel hI4, hT4, ActsR.nil⟩, (rfl : (dkC b { d.less with last := d.seen, acts := [] } ms r4 (.slice none 0 0) :: tC ms m1 c1 :: tC r4 m4 c4 :: (I4 ++ R)) = _)⟩
        · exact (by repeat (first | exact Sel.all | exact Sel.none | exact Sel.hd | (apply Sel.one; · repeat (first | exact Pick.h | apply Pick.t | apply Pick.app)) | apply Sel.app | (with_reducible apply Sel.grp; · repeat (first | exact PickF.h | apply PickF.t | apply PickF.a)) | (with_reducible refine Sel.nilF (by with_unfolding_all rfl) ?_) | apply Sel.drop | apply Sel.dropF))
      · refine wc_region ?_
        refine wl rfl (OP.ev rfl rfl (eMv rfl) ?_)
        refine wl rfl (oC rfl pf66 rfl (struck_ok b d ms ml av hd.left _) (by repeat (first | exact Sel.all | exact Sel.none | exact Sel.hd | (apply Sel.one; · repeat (first | exact Pick.h | apply Pick.t | apply Pick.app)) | apply Sel.app | (with_reducible apply Sel.grp; · repeat (first | exact PickF.h | apply PickF.t | apply PickF.a)) | (with_reducible refine Sel.nilF (by with_unfolding_all rfl) ?_) | apply Sel.drop | apply Sel.dropF)) ?_)
        rintro _ _ ⟨rfl, rfl⟩
        refine wl_nil ?_
        rw [hh]
        refine wc_then rfl ?_
        refine wc_seq ?_
        have hfall := fall_ok (W0 := W0) b d.less hd.less d.keep d.tear hd.keep.1 hd.keep.2 _ R hD1 hn
        simp only [List.cons_append] at hfall
        have hl1 : d.left = 1 := of_decide_eq_true hh
        refine wc_draw [] rfl ?_
        refine wa_take 0 (by kernel_rfl) rfl rfl rfl rfl (by repeat (first | exact Sel.all | exact Sel.none | exact Sel.hd | (apply Sel.one; · repeat (first | exact Pick.h | apply Pick.t | apply Pick.app)) | apply Sel.app | (with_reducible apply Sel.grp; · repeat (first | exact PickF.h | apply PickF.t | apply PickF.a)) | (with_reducible refine Sel.nilF (by with_unfolding_all rfl) ?_) | apply Sel.drop | apply Sel.dropF)) (eMv rfl) ?_
        refine wa_take 1 (by kernel_rfl) rfl rfl rfl rfl (by repeat (first | exact Sel.all | exact Sel.none | exact Sel.hd | (apply Sel.one; · repeat (first | exact Pick.h | apply Pick.t | apply Pick.app)) | apply Sel.app | (with_reducible apply Sel.grp; · repeat (first | exact PickF.h | apply PickF.t | apply PickF.a)) | (with_reducible refine Sel.nilF (by with_unfolding_all rfl) ?_) | apply Sel.drop | apply Sel.dropF)) (eMv rfl) ?_
        refine wa_take 2 (by kernel_rfl) rfl rfl rfl rfl (by repeat (first | exact Sel.all | exact Sel.none | exact Sel.hd | (apply Sel.one; · repeat (first | exact Pick.h | apply Pick.t | apply Pick.app)) | apply Sel.app | (with_reducible apply Sel.grp; · repeat (first | exact PickF.h | apply PickF.t | apply PickF.a)) | (with_reducible refine Sel.nilF (by with_unfolding_all rfl) ?_) | apply Sel.drop | apply Sel.dropF)) (eNil rfl) ?_
        refine wa_take 3 (by kernel_rfl) rfl rfl rfl rfl (by repeat (first | exact Sel.all | exact Sel.none | exact Sel.hd | (apply Sel.one; · repeat (first | exact Pick.h | apply Pick.t | apply Pick.app)) | apply Sel.app | (with_reducible apply Sel.grp; · repeat (first | exact PickF.h | apply PickF.t | apply PickF.a)) | (with_reducible refine Sel.nilF (by with_unfolding_all rfl) ?_) | apply Sel.drop | apply Sel.dropF)) (eFld 0 ty52 rfl rfl ty47 rfl) ?_
        refine wa_take 4 (by kernel_rfl) rfl rfl rfl rfl (by repeat (first | exact Sel.all | exact Sel.none | exact Sel.hd | (apply Sel.one; · repeat (first | exact Pick.h | apply Pick.t | apply Pick.app)) | apply Sel.app | (with_reducible apply Sel.grp; · repeat (first | exact PickF.h | apply PickF.t | apply PickF.a)) | (with_reducible refine Sel.nilF (by with_unfolding_all rfl) ?_) | apply Sel.drop | apply Sel.dropF)) (eFld 2 ty47 rfl rfl ty3 rfl) ?_
        refine wa_take 6 (by kernel_rfl) rfl rfl rfl rfl (by repeat (first | exact Sel.all | exact Sel.none | exact Sel.hd | (apply Sel.one; · repeat (first | exact Pick.h | apply Pick.t | apply Pick.app)) | apply Sel.app | (with_reducible apply Sel.grp; · repeat (first | exact PickF.h | apply PickF.t | apply PickF.a)) | (with_reducible refine Sel.nilF (by with_unfolding_all rfl) ?_) | apply Sel.drop | apply Sel.dropF)) (eMv rfl) ?_
        refine wa_take 7 (by kernel_rfl) rfl rfl rfl rfl (by repeat (first | exact Sel.all | exact Sel.none | exact Sel.hd | (apply Sel.one; · repeat (first | exact Pick.h | apply Pick.t | apply Pick.app)) | apply Sel.app | (with_reducible apply Sel.grp; · repeat (first | exact PickF.h | apply PickF.t | apply PickF.a)) | (with_reducible refine Sel.nilF (by with_unfolding_all rfl) ?_) | apply Sel.drop | apply Sel.dropF)) (eNil rfl) ?_
        refine wa_take 8 (by kernel_rfl) rfl rfl rfl rfl (by repeat (first | exact Sel.all | exact Sel.none | exact Sel.hd | (apply Sel.one; · repeat (first | exact Pick.h | apply Pick.t | apply Pick.app)) | apply Sel.app | (with_reducible apply Sel.grp; · repeat (first | exact PickF.h | apply PickF.t | apply PickF.a)) | (with_reducible refine Sel.nilF (by with_unfolding_all rfl) ?_) | apply Sel.drop | apply Sel.dropF)) (eFld 0 ty52 rfl rfl ty47 rfl) ?_
        refine wa_take 9 (by kernel_rfl) rfl rfl rfl rfl (by repeat (first | exact Sel.all | exact Sel.none | exact Sel.hd | (apply Sel.one; · repeat (first | exact Pick.h | apply Pick.t | apply Pick.app)) | apply Sel.app | (with_reducible apply Sel.grp; · repeat (first | exact PickF.h | apply PickF.t | apply PickF.a)) | (with_reducible refine Sel.nilF (by with_unfolding_all rfl) ?_) | apply Sel.drop | apply Sel.dropF)) (eFld 3 ty47 rfl rfl ty3 rfl) ?_
        refine wa_all [5, 10] (by kernel_rfl) rfl ⟨⟨_, rfl, .inl rfl, ?_⟩, ⟨_, rfl, .inl rfl, ?_⟩, trivial⟩
        · skip
          refine OP.ev rfl rfl (eLd ty3 rfl rfl (by repeat (first | exact Has.h | apply Has.t | apply Has.app)) (by rfl)) ?_
          refine ⟨(by repeat (first | exact Sel.all | exact Sel.none | exact Sel.hd | (apply Sel.one; · repeat (first | exact Pick.h | apply Pick.t | apply Pick.app)) | apply Sel.app | (with_reducible apply Sel.grp; · repeat (first | exact PickF.h | apply PickF.t | apply PickF.a)) | (with_reducible refine Sel.nilF (by with_unfolding_all rfl) ?_) | apply Sel.drop | apply Sel.dropF)), ?_⟩
          refine wa_all [10] (by kernel_rfl) rfl (wall_one 10 rfl rfl ?_ trivial)
          refine OP.ev rfl rfl (eLd ty3 rfl rfl (by repeat (first | exact Has.h | apply Has.t | apply Has.app)) (by rfl)) ?_
          refine ⟨(by repeat (first | exact Sel.all | exact Sel.none | exact Sel.hd | (apply Sel.one; · repeat (first | exact Pick.h | apply Pick.t | apply Pick.app)) | apply Sel.app | (with_reducible apply Sel.grp; · repeat (first | exact PickF.h | apply PickF.t | apply PickF.a)) | (with_reducible refine Sel.nilF (by with_unfolding_all rfl) ?_) | apply Sel.drop | apply Sel.dropF)), ?_⟩
          refine wa_all [11] (by kernel_rfl) rfl (wall_one 11 rfl rfl ?_ trivial)
          refine oC rfl pf65 rfl hfall (by repeat (first | exact Sel.all | exact Sel.none | exact Sel.hd | (apply Sel.one; · repeat (first | exact Pick.h | apply Pick.t | apply Pick.app)) | apply Sel.app | (with_reducible apply Sel.grp; · repeat (first | exact PickF.h | apply PickF.t | apply PickF.a)) | (with_reducible refine Sel.nilF (by with_unfolding_all rfl) ?_) | apply Sel.drop | apply Sel.dropF)) ?_
          rintro _ _ ⟨rfl, D4, I4, hI4, hD4, rfl⟩
          refine ⟨(by repeat (first | exact Sel.all | exact Sel.none | exact Sel.hd | (apply Sel.one; · repeat (first | exact Pick.h | apply Pick.t | apply Pick.app)) | apply Sel.app | (with_reducible apply Sel.grp; · repeat (first | exact PickF.h | apply PickF.t | apply PickF.a)) | (with_reducible refine Sel.nilF (by with_unfolding_all rfl) ?_) | apply Sel.drop | apply Sel.dropF)), ?_⟩
          refine wa_nil (by kernel_rfl) ?_
          refine wc_seq ?_
          refine wc_region ?_
          refine wl rfl (OP.ev rfl rfl (eAs rfl) ?_)
          refine wl_nil ?_
          refine wc_ret ?_
          apply at_ret rfl
          · exact (.cons (.tmp rfl) .nil)
          · first
            | exact ⟨by unfold DK.sync; rw [if_pos (ready_off c_t7).1, (ready_off c_t7).2]; rfl, _, I, Sel.all, by unfold DK.sync; rw [if_pos (ready_off c_t7).1]; exact hD0, (rfl : (dkC b d ms ml av :: tC ms m1 c1 :: tC ml m2 c2 :: (ownH av acs 82 ++ (I ++ R))) = _)⟩
            | exact ⟨by unfold DK.sync; rw [if_neg (by simp [ho]), if_pos hl1]; rfl, D4, I4, hI4, by unfold DK.sync; rw [if_neg (by simp [ho]), if_pos hl1]; exact hD4, rfl⟩
            | exact ⟨by rw [hsy]; rfl, _, I4, hI4, by rw [hsy]; exact ⟨ms, r4, m1, c1, m4, c4, .slice none 0 0, #[], [], rfl, hT1.sel hI4, hT4, ActsR.nil⟩, (rfl : (dkC b { d.less with last := d.seen, acts := [] } ms r4 (.slice none 0 0) :: tC ms m1 c1 :: tC r4 m4 c4 :: (I4 ++ R)) = _)⟩
          · exact (by repeat (first | exact Sel.all | exact Sel.none | exact Sel.hd | (apply Sel.one; · repeat (first | exact Pick.h | apply Pick.t | apply Pick.app)) | apply Sel.app | (with_reducible apply Sel.grp; · repeat (first | exact PickF.h | apply PickF.t | apply PickF.a)) | (with_reducible refine Sel.nilF (by with_unfolding_all rfl) ?_) | apply Sel.drop | apply Sel.dropF))
        · skip
          refine OP.ev rfl rfl (eLd ty3 rfl rfl (by repeat (first | exact Has.h | apply Has.t | apply Has.app)) (by rfl)) ?_
          refine ⟨(by repeat (first | exact Sel.all | exact Sel.none | exact Sel.hd | (apply Sel.one; · repeat (first | exact Pick.h | apply Pick.t | apply Pick.app)) | apply Sel.app | (with_reducible apply Sel.grp; · repeat (first | exact PickF.h | apply PickF.t | apply PickF.a)) | (with_reducible refine Sel.nilF (by with_unfolding_all rfl) ?_) | apply Sel.drop | apply Sel.dropF)), ?_⟩
          refine wa_all [5] (by kernel_rfl) rfl (wall_one 5 rfl rfl ?_ trivial)
          refine OP.ev rfl rfl (eLd ty3 rfl rfl (by repeat (first | exact Has.h | apply Has.t | apply Has.app)) (by rfl)) ?_
          refine ⟨(by repeat (first | exact Sel.all | exact Sel.none | exact Sel.hd | (apply Sel.one; · repeat (first | exact Pick.h | apply Pick.t | apply Pick.app)) | apply Sel.app | (with_reducible apply Sel.grp; · repeat (first | exact PickF.h | apply PickF.t | apply PickF.a)) | (with_reducible refine Sel.nilF (by with_unfolding_all rfl) ?_) | apply Sel.drop | apply Sel.dropF)), ?_⟩
          refine wa_all [11] (by kernel_rfl) rfl (wall_one 11 rfl rfl ?_ trivial)
          refine oC rfl pf65 rfl hfall (by repeat (first | exact Sel.all | exact Sel.none | exact Sel.hd | (apply Sel.one; · repeat (first | exact Pick.h | apply Pick.t | apply Pick.app)) | apply Sel.app | (with_reducible apply Sel.grp; · repeat (first | exact PickF.h | apply PickF.t | apply PickF.a)) | (with_reducible refine Sel.nilF (by with_unfolding_all rfl) ?_) | apply Sel.drop | apply Sel.dropF)) ?_
          rintro _ _ ⟨rfl, D4, I4, hI4, hD4, rfl⟩
          refine ⟨(by repeat (first | exact Sel.all | exact Sel.none | exact Sel.hd | (apply Sel.one; · repeat (first | exact Pick.h | apply Pick.t | apply Pick.app)) | apply Sel.app | (with_reducible apply Sel.grp; · repeat (first | exact PickF.h | apply PickF.t | apply PickF.a)) | (with_reducible refine Sel.nilF (by with_unfolding_all rfl) ?_) | apply Sel.drop | apply Sel.dropF)), ?_⟩
          refine wa_nil (by kernel_rfl) ?_
          refine wc_seq ?_
          refine wc_region ?_
          refine wl rfl (OP.ev rfl rfl (eAs rfl) ?_)
          refine wl_nil ?_
          refine wc_ret ?_
          apply at_ret rfl
          · exact (.cons (.tmp rfl) .nil)
          · first
            | exact ⟨by unfold DK.sync; rw [if_pos (ready_off c_t7).1, (ready_off c_t7).2]; rfl, _, I, Sel.all, by unfold DK.sync; rw [if_pos (ready_off c_t7).1]; exact hD0, (rfl : (dkC b d ms ml av :: tC ms m1 c1 :: tC ml m2 c2 :: (ownH av acs 82 ++ (I ++ R))) = _)⟩
            | exact ⟨by unfold DK.sync; rw [if_neg (by simp [ho]), if_pos hl1]; rfl, D4, I4, hI4, by unfold DK.sync; rw [if_neg (by simp [ho]), if_pos hl1]; exact hD4, rfl⟩
            | exact ⟨by rw [hsy]; rfl, _, I4, hI4, by rw [hsy]; exact ⟨ms, r4, m1, c1, m4, c4, .slice none 0 0, #[], [], rfl, hT1.sel hI4, hT4, ActsR.nil⟩, (rfl : (dkC b { d.less with last := d.seen, acts := [] } ms r4 (.slice none 0 0) :: tC ms m1 c1 :: tC r4 m4 c4 :: (I4 ++ R)) = _)⟩
          · exact (by repeat (first | exact Sel.all | exact Sel.none | exact Sel.hd | (apply Sel.one; · repeat (first | exact Pick.h | apply Pick.t | apply Pick.app)) | apply Sel.app | (with_reducible apply Sel.grp; · repeat (first | exact PickF.h | apply PickF.t | apply PickF.a)) | (with_reducible refine Sel.nilF (by with_unfolding_all rfl) ?_) | apply Sel.drop | apply Sel.dropF)))

theorem crash_ok (b : Nat) (d : DK) (hd : DOk d) (keep tear : Int) (hk : I64 keep) (ht : I64 tear) (D R : Heap) (hD : DiskR W0 I d b D) (hn : d.acts.length ≤ 1000000) :
    FnC W0 Try.prog 39 #[ptr b, i64 keep, i64 tear] (D ++ (I ++ R)) (PutP W0 I R b (d.crash keep tear).2 (i64 (d.crash keep tear).1)) := by
  have hfall := fall_ok (W0 := W0) b d hd keep tear hk ht D R hD hn
  obtain ⟨ms, ml, m1, c1, m2, c2, av, acs, ax, rfl, hT1, hT2, hA⟩ := hD
  have hD0 : DiskR W0 I d b (dkC b d ms ml av :: tC ms m1 c1 :: tC ml m2 c2 :: ownH av acs 82) := ⟨ms, ml, m1, c1, m2, c2, av, acs, ax, rfl, hT1, hT2, hA⟩
  simp only [List.cons_append] at hfall ⊢
  refine fn_of Try.func39 rfl Try.ntmps39 rfl rfl ?_
  refine wc_seq ?_
  refine wc_region ?_
  refine wl rfl (OP.ev rfl rfl (eAs rfl) ?_)
  refine wl_nil ?_
  refine wc_seq ?_
  refine wc_seq ?_
  refine wc_region ?_
  refine wl rfl (OP.ev rfl rfl (eMv rfl) ?_)
  refine wl rfl (oC rfl pf43 rfl (ready_ok b d ms ml av _) (by repeat (first | exact Sel.all | exact Sel.none | exact Sel.hd | (apply Sel.one; · repeat (first | exact Pick.h | apply Pick.t | apply Pick.app)) | apply Sel.app | (with_reducible apply Sel.grp; · repeat (first | exact PickF.h | apply PickF.t | apply PickF.a)) | (with_reducible refine Sel.nilF (by with_unfolding_all rfl) ?_) | apply Sel.drop | apply Sel.dropF)) ?_)
  rintro _ _ ⟨rfl, rfl⟩
  refine wl rfl (OP.ev rfl rfl (eAs rfl) ?_)
  refine wl_nil ?_
  refine wc_seq ?_
  refine wc_region ?_
  refine wl rfl (OP.ev rfl rfl (eMv rfl) ?_)
  refine wl rfl (OP.evb rfl rfl (eNe rfl rfl) fun t11 h11 => ?_)
  refine wl_nil ?_
  cases t11 with
  | true =>
    try have c_t11 := dt h11
    first
    | (exfalso; omega)
    | (
      refine wc_then rfl ?_
      refine wc_seq ?_
      refine wc_region ?_
      refine wl rfl (OP.ev rfl rfl (eMv rfl) ?_)
      refine wl rfl (OP.ev rfl rfl (eAs rfl) ?_)
      refine wl_nil ?_
      refine wc_ret ?_
      apply at_ret rfl
      · exact (.cons (.tmp rfl) .nil)
      · first
        | exact ⟨by unfold DK.crash; rw [if_pos (ready_off c_t11).1, (ready_off c_t11).2]; rfl, _, I, Sel.all, by unfold DK.crash; rw [if_pos (ready_off c_t11).1]; exact hD0, (rfl : (dkC b d ms ml av :: tC ms m1 c1 :: tC ml m2 c2 :: (ownH av acs 82 ++ (I ++ R))) = _)⟩
        | exact ⟨by unfold DK.crash; rw [if_neg (by simp [ready_on (show d.ready = 0 by omega)])]; rfl, D4, I4, hI4, by unfold DK.crash; rw [if_neg (by simp [ready_on (show d.ready = 0 by omega)])]; exact hD4, rfl⟩
      · exact (by repeat (first | exact Sel.all | exact Sel.none | exact Sel.hd | (apply Sel.one; · repeat (first | exact Pick.h | apply Pick.t | apply Pick.app)) | apply Sel.app | (with_reducible apply Sel.grp; · repeat (first | exact PickF.h | apply PickF.t | apply PickF.a)) | (with_reducible refine Sel.nilF (by with_unfolding_all rfl) ?_) | apply Sel.drop | apply Sel.dropF)))
  | false =>
    try have c_t11 := df h11
    first
    | (exfalso; omega)
    | (
      refine wc_else rfl ?_
      refine wc_skip ?_
      refine wc_seq ?_
      refine wc_region ?_
      refine wl rfl (OP.ev rfl rfl (eMv rfl) ?_)
      refine wl rfl (OP.ev rfl rfl (eMv rfl) ?_)
      refine wl rfl (OP.ev rfl rfl (eMv rfl) ?_)
      refine wl rfl (oC rfl pf65 rfl hfall (by repeat (first | exact Sel.all | exact Sel.none | exact Sel.hd | (apply Sel.one; · repeat (first | exact Pick.h | apply Pick.t | apply Pick.app)) | apply Sel.app | (with_reducible apply Sel.grp; · repeat (first | exact PickF.h | apply PickF.t | apply PickF.a)) | (with_reducible refine Sel.nilF (by with_unfolding_all rfl) ?_) | apply Sel.drop | apply Sel.dropF)) ?_)
      rintro _ _ ⟨rfl, D4, I4, hI4, hD4, rfl⟩
      refine wl_nil ?_
      refine wc_seq ?_
      refine wc_region ?_
      refine wl rfl (OP.ev rfl rfl (eAs rfl) ?_)
      refine wl_nil ?_
      refine wc_ret ?_
      apply at_ret rfl
      · exact (.cons (.tmp rfl) .nil)
      · first
        | exact ⟨by unfold DK.crash; rw [if_pos (ready_off c_t11).1, (ready_off c_t11).2]; rfl, _, I, Sel.all, by unfold DK.crash; rw [if_pos (ready_off c_t11).1]; exact hD0, (rfl : (dkC b d ms ml av :: tC ms m1 c1 :: tC ml m2 c2 :: (ownH av acs 82 ++ (I ++ R))) = _)⟩
        | exact ⟨by unfold DK.crash; rw [if_neg (by simp [ready_on (show d.ready = 0 by omega)])]; rfl, D4, I4, hI4, by unfold DK.crash; rw [if_neg (by simp [ready_on (show d.ready = 0 by omega)])]; exact hD4, rfl⟩
      · exact (by repeat (first | exact Sel.all | exact Sel.none | exact Sel.hd | (apply Sel.one; · repeat (first | exact Pick.h | apply Pick.t | apply Pick.app)) | apply Sel.app | (with_reducible apply Sel.grp; · repeat (first | exact PickF.h | apply PickF.t | apply PickF.a)) | (with_reducible refine Sel.nilF (by with_unfolding_all rfl) ?_) | apply Sel.drop | apply Sel.dropF)))

theorem start_ok (b : Nat) (d : DK) (D R : Heap) (hD : DiskR W0 I d b D) :
    FnC W0 Try.prog 14 #[ptr b] (D ++ (I ++ R)) (PutP W0 I R b d.start.2 (i64 d.start.1)) := by
  obtain ⟨ms, ml, m1, c1, m2, c2, av, acs, ax, rfl, hT1, hT2, hA⟩ := hD
  simp only [List.cons_append]
  refine fn_of Try.func14 rfl Try.ntmps14 rfl rfl ?_
  refine wc_seq ?_
  refine wc_region ?_
  refine wl rfl (OP.ev rfl rfl (eAs rfl) ?_)
  refine wl_nil ?_
  refine wc_seq ?_
  refine wc_seq ?_
  refine wc_region ?_
  refine wl rfl (OP.ev rfl rfl (eMv rfl) ?_)
  first | refine wl rfl (OP.ev rfl rfl (eEqP0 rfl rfl ty23) ?_) | refine wl rfl (OP.ev rfl rfl (eEqP1 rfl rfl ty23) ?_)
  refine wl rfl (OP.ev rfl rfl (eMv rfl) ?_)
  refine wl_go rfl rfl (OP.ev rfl rfl (eMv rfl) ?_)
  refine wl_go rfl rfl (OP.ev rfl rfl (eNil rfl) ?_)
  refine wl_go rfl rfl (OP.ev rfl rfl (eFld 5 ty52 rfl rfl ty49 rfl) ?_)
  first | refine wl_go rfl rfl (OP.ev rfl rfl (eLd ty49 rfl rfl (by repeat (first | exact Has.h | apply Has.t | apply Has.app)) (by rfl)) ?_) | refine wl_go rfl rfl (OP.ev rfl rfl (eLdO ty49 rfl rfl (by assumption)) ?_)
  first | refine wl_go rfl rfl (OP.ev rfl rfl (eEqM0 rfl rfl ty49) ?_) | refine wl_go rfl rfl (OP.ev rfl rfl (eEqM1 rfl rfl ty49) ?_)
  refine wl rfl (OP.ev rfl rfl (ePk rfl rfl) ?_)
  refine wl_nil ?_
  refine wc_else rfl ?_
  refine wc_skip ?_
  refine wc_seq ?_
  refine wc_region ?_
  refine wl rfl (OP.ev rfl rfl (eMv rfl) ?_)
  refine wl rfl (OP.ev rfl rfl (eNil rfl) ?_)
  refine wl rfl (OP.ev rfl rfl (eFld 0 ty52 rfl rfl ty47 rfl) ?_)
  refine wl rfl (OP.ev rfl rfl (eFld 0 ty47 rfl rfl ty4 rfl) ?_)
  refine wl rfl (oSt ty4 rfl rfl rfl rfl (by repeat (first | exact Upd.h | apply Upd.t | apply Upd.app)) (by first | decide | simp) (by rfl) ?_)
  refine wl_nil ?_
  refine wc_seq ?_
  refine wc_region ?_
  refine wl rfl (OP.ev rfl rfl (eAs rfl) ?_)
  refine wl_nil ?_
  refine wc_ret ?_
  apply at_ret rfl
  · exact (.cons (.tmp rfl) .nil)
  · exact ⟨rfl, _, I, Sel.all, ⟨_, _, _, _, _, _, _, _, _, rfl, hT1, hT2, hA⟩, (rfl : (dkC b d.start.2 ms ml av :: tC ms m1 c1 :: tC ml m2 c2 :: (ownH av acs 82 ++ (I ++ R))) = _)⟩
  · exact (by repeat (first | exact Sel.all | exact Sel.none | exact Sel.hd | (apply Sel.one; · repeat (first | exact Pick.h | apply Pick.t | apply Pick.app)) | apply Sel.app | (with_reducible apply Sel.grp; · repeat (first | exact PickF.h | apply PickF.t | apply PickF.a)) | (with_reducible refine Sel.nilF (by with_unfolding_all rfl) ?_) | apply Sel.drop | apply Sel.dropF))

theorem arm_ok (b : Nat) (d : DK) (n keep tear : Int) (D R : Heap) (hD : DiskR W0 I d b D) :
    FnC W0 Try.prog 15 #[ptr b, i64 n, i64 keep, i64 tear] (D ++ (I ++ R)) (PutP W0 I R b (d.arm n keep tear).2 (i64 (d.arm n keep tear).1)) := by
  obtain ⟨ms, ml, m1, c1, m2, c2, av, acs, ax, rfl, hT1, hT2, hA⟩ := hD
  have hD0 : DiskR W0 I d b (dkC b d ms ml av :: tC ms m1 c1 :: tC ml m2 c2 :: ownH av acs 82) := ⟨ms, ml, m1, c1, m2, c2, av, acs, ax, rfl, hT1, hT2, hA⟩
  simp only [List.cons_append]
  refine fn_of Try.func15 rfl Try.ntmps15 rfl rfl ?_
  refine wc_seq ?_
  refine wc_region ?_
  refine wl rfl (OP.ev rfl rfl (eAs rfl) ?_)
  refine wl_nil ?_
  refine wc_seq ?_
  refine wc_seq ?_
  refine wc_region ?_
  refine wl rfl (OP.ev rfl rfl (eMv rfl) ?_)
  refine wl rfl (oC rfl pf43 rfl (ready_ok b d ms ml av _) (by repeat (first | exact Sel.all | exact Sel.none | exact Sel.hd | (apply Sel.one; · repeat (first | exact Pick.h | apply Pick.t | apply Pick.app)) | apply Sel.app | (with_reducible apply Sel.grp; · repeat (first | exact PickF.h | apply PickF.t | apply PickF.a)) | (with_reducible refine Sel.nilF (by with_unfolding_all rfl) ?_) | apply Sel.drop | apply Sel.dropF)) ?_)
  rintro _ _ ⟨rfl, rfl⟩
  refine wl rfl (OP.ev rfl rfl (eAs rfl) ?_)
  refine wl_nil ?_
  refine wc_seq ?_
  refine wc_region ?_
  refine wl rfl (OP.ev rfl rfl (eMv rfl) ?_)
  refine wl rfl (OP.evb rfl rfl (eNe rfl rfl) fun t13 h13 => ?_)
  refine wl_nil ?_
  cases t13 with
  | true =>
    try have c_t13 := dt h13
    first
    | (exfalso; omega)
    | (
      refine wc_then rfl ?_
      refine wc_seq ?_
      refine wc_region ?_
      refine wl rfl (OP.ev rfl rfl (eMv rfl) ?_)
      refine wl rfl (OP.ev rfl rfl (eAs rfl) ?_)
      refine wl_nil ?_
      refine wc_ret ?_
      apply at_ret rfl
      · exact (.cons (.tmp rfl) .nil)
      · first
        | exact ⟨by unfold DK.arm; rw [if_pos (ready_off c_t13).1, (ready_off c_t13).2]; rfl, _, I, Sel.all, by unfold DK.arm; rw [if_pos (ready_off c_t13).1]; exact hD0, (rfl : (dkC b d ms ml av :: tC ms m1 c1 :: tC ml m2 c2 :: (ownH av acs 82 ++ (I ++ R))) = _)⟩
        | exact ⟨by rw [har]; rfl, _, I, Sel.all, by rw [har]; exact ⟨ms, ml, m1, c1, m2, c2, av, acs, ax, rfl, hT1, hT2, hA⟩, (rfl : (dkC b { d with left := max n 0, keep := keep, tear := tear } ms ml av :: tC ms m1 c1 :: tC ml m2 c2 :: (ownH av acs 82 ++ (I ++ R))) = _)⟩
      · exact (by repeat (first | exact Sel.all | exact Sel.none | exact Sel.hd | (apply Sel.one; · repeat (first | exact Pick.h | apply Pick.t | apply Pick.app)) | apply Sel.app | (with_reducible apply Sel.grp; · repeat (first | exact PickF.h | apply PickF.t | apply PickF.a)) | (with_reducible refine Sel.nilF (by with_unfolding_all rfl) ?_) | apply Sel.drop | apply Sel.dropF)))
  | false =>
    try have c_t13 := df h13
    first
    | (exfalso; omega)
    | (
      refine wc_else rfl ?_
      refine wc_skip ?_
      refine wc_seq ?_
      have har : d.arm n keep tear = (0, { d with left := max n 0, keep := keep, tear := tear }) := by unfold DK.arm; rw [if_neg (by simp [ready_on (show d.ready = 0 by omega)])]
      refine wc_region ?_
      refine wl rfl (OP.ev rfl rfl (eMv rfl) ?_)
      refine wl rfl (OP.ev rfl rfl (eMv rfl) ?_)
      refine wl rfl (OP.ev rfl rfl (eMv rfl) ?_)
      refine wl rfl (OP.ev rfl rfl (eMv rfl) ?_)
      refine wl rfl (OP.ev rfl rfl (eMax rfl rfl) ?_)
      refine wl rfl (OP.ev rfl rfl (eMv rfl) ?_)
      refine wl rfl (OP.ev rfl rfl (eMv rfl) ?_)
      refine wl rfl (OP.ev rfl rfl (eNil rfl) ?_)
      refine wl rfl (OP.ev rfl rfl (eFld 0 ty52 rfl rfl ty47 rfl) ?_)
      refine wl rfl (OP.ev rfl rfl (eFld 1 ty47 rfl rfl ty3 rfl) ?_)
      refine wl rfl (oSt ty3 rfl rfl rfl rfl (by repeat (first | exact Upd.h | apply Upd.t | apply Upd.app)) (by first | decide | simp) (by rfl) ?_)
      refine wl rfl (OP.ev rfl rfl (eNil rfl) ?_)
      refine wl rfl (OP.ev rfl rfl (eFld 0 ty52 rfl rfl ty47 rfl) ?_)
      refine wl rfl (OP.ev rfl rfl (eFld 2 ty47 rfl rfl ty3 rfl) ?_)
      refine wl rfl (oSt ty3 rfl rfl rfl rfl (by repeat (first | exact Upd.h | apply Upd.t | apply Upd.app)) (by first | decide | simp) (by rfl) ?_)
      refine wl rfl (OP.ev rfl rfl (eNil rfl) ?_)
      refine wl rfl (OP.ev rfl rfl (eFld 0 ty52 rfl rfl ty47 rfl) ?_)
      refine wl rfl (OP.ev rfl rfl (eFld 3 ty47 rfl rfl ty3 rfl) ?_)
      refine wl rfl (oSt ty3 rfl rfl rfl rfl (by repeat (first | exact Upd.h | apply Upd.t | apply Upd.app)) (by first | decide | simp) (by rfl) ?_)
      refine wl_nil ?_
      refine wc_seq ?_
      refine wc_region ?_
      refine wl rfl (OP.ev rfl rfl (eAs rfl) ?_)
      refine wl_nil ?_
      refine wc_ret ?_
      apply at_ret rfl
      · exact (.cons (.tmp rfl) .nil)
      · first
        | exact ⟨by unfold DK.arm; rw [if_pos (ready_off c_t13).1, (ready_off c_t13).2]; rfl, _, I, Sel.all, by unfold DK.arm; rw [if_pos (ready_off c_t13).1]; exact hD0, (rfl : (dkC b d ms ml av :: tC ms m1 c1 :: tC ml m2 c2 :: (ownH av acs 82 ++ (I ++ R))) = _)⟩
        | exact ⟨by rw [har]; rfl, _, I, Sel.all, by rw [har]; exact ⟨ms, ml, m1, c1, m2, c2, av, acs, ax, rfl, hT1, hT2, hA⟩, (rfl : (dkC b { d with left := max n 0, keep := keep, tear := tear } ms ml av :: tC ms m1 c1 :: tC ml m2 c2 :: (ownH av acs 82 ++ (I ++ R))) = _)⟩
      · exact (by repeat (first | exact Sel.all | exact Sel.none | exact Sel.hd | (apply Sel.one; · repeat (first | exact Pick.h | apply Pick.t | apply Pick.app)) | apply Sel.app | (with_reducible apply Sel.grp; · repeat (first | exact PickF.h | apply PickF.t | apply PickF.a)) | (with_reducible refine Sel.nilF (by with_unfolding_all rfl) ?_) | apply Sel.drop | apply Sel.dropF)))

theorem actV_one {av : Value} {acs : Array Value} : ∀ {ax : List ActT} {acts : List Act}, (∀ t ∈ ax, IsB t.2.2.B ∧ Rs W0 I t.2.1 1 t.2.2.B.length (byteV t.2.2.B) ∧ FunR W0 I t.1 t.2.2) → (actV ax).all Value.oneCell' = true := by
  intro ax acts h
  induction ax with
  | nil => rfl
  | cons x r ih =>
    obtain ⟨_, h2, h3⟩ := h x List.mem_cons_self
    obtain ⟨ad, k, c, h4⟩ := h2.isSlice
    have h5 := h3.one
    have h6 : x.2.1.oneCell' = true := by rw [h4]; rfl
    show ([x.1, x.2.1, i64 (x.2.2.B.length : Int)] ++ actV r).all Value.oneCell' = true
    rw [List.all_append, all3 h5 h6 rfl, ih fun t ht => h t (List.mem_cons_of_mem _ ht)]; rfl

theorem aclone_ok (av : Value) (acs : Array Value) (ax : List ActT) (acts : List Act) (hA : ActsR W0 I av acs ax acts) (hn : acts.length ≤ 1000000) (R : Heap) :
    FnC W0 Try.prog 51 #[av] (ownH av acs 82 ++ R) (fun v' L' => ∃ cs', ActsR W0 I v' cs' ax acts ∧ L' = ownH v' cs' 82 ++ (ownH av acs 82 ++ R)) := by
  have hal := hA.len
  have hone := actV_one (av := av) (acs := acs) (acts := acts) hA.ok
  have hrow := hA.row
  rcases hrow.2 with ⟨rfl, h0⟩ | ⟨ba, cap, rfl, h1, h2, h3⟩
  · have : ax = [] := List.eq_nil_of_length_eq_zero h0
    subst this
    refine fn_of Try.func51 rfl Try.ntmps51 rfl rfl ?_
    refine wc_seq ?_
    refine wc_region ?_
    refine wl rfl (OP.ev rfl rfl (eAs rfl) ?_)
    refine wl_nil ?_
    refine wc_seq ?_
    refine wc_seq ?_
    refine wc_region ?_
    refine wl rfl (OP.ev rfl rfl (eMv rfl) ?_)
    first | refine wl rfl (OP.ev rfl rfl (eEqS0 rfl rfl ty50) ?_) | refine wl rfl (OP.ev rfl rfl (eEqS1 rfl rfl ty50) ?_)
    refine wl_nil ?_
    refine wc_then rfl ?_
    refine wc_seq ?_
    refine wc_region ?_
    refine wl rfl (OP.ev rfl rfl (eAs rfl) ?_)
    refine wl_nil ?_
    refine wc_ret ?_
    apply at_ret rfl
    · exact (.cons (.tmp rfl) .nil)
    · exact ⟨#[], ⟨Row.nil _ _, hA.acts, hA.ok⟩, rfl⟩
    · exact (by repeat (first | exact Sel.all | exact Sel.none | exact Sel.hd | (apply Sel.one; · repeat (first | exact Pick.h | apply Pick.t | apply Pick.app)) | apply Sel.app | (with_reducible apply Sel.grp; · repeat (first | exact PickF.h | apply PickF.t | apply PickF.a)) | (with_reducible refine Sel.nilF (by with_unfolding_all rfl) ?_) | apply Sel.drop | apply Sel.dropF))
  · skip
    refine fn_of Try.func51 rfl Try.ntmps51 rfl rfl ?_
    refine wc_seq ?_
    refine wc_region ?_
    refine wl rfl (OP.ev rfl rfl (eAs rfl) ?_)
    refine wl_nil ?_
    refine wc_seq ?_
    refine wc_seq ?_
    refine wc_region ?_
    refine wl rfl (OP.ev rfl rfl (eMv rfl) ?_)
    first | refine wl rfl (OP.ev rfl rfl (eEqS0 rfl rfl ty50) ?_) | refine wl rfl (OP.ev rfl rfl (eEqS1 rfl rfl ty50) ?_)
    refine wl_nil ?_
    refine wc_else rfl ?_
    refine wc_skip ?_
    refine wc_seq ?_
    refine wc_region ?_
    refine wl rfl (oBS0 rfl ty50 ty82 fun b5 => ?_)
    refine wl rfl (OP.ev rfl rfl (eMv rfl) ?_)
    refine wl rfl (oApp (m := ax.length) (news := actV ax) rfl ty50 ty82 rfl rfl rfl (Row.mk (b := b5) (k := 0) (cap := 0) (cs := #[]) (sz := 3) (xs := []) (Nat.le_refl _) rfl rfl) (by repeat (first | exact At.cell | exact At.h | apply At.t | apply At.a)) (hrow.rs (by repeat (first | exact At.cell | exact At.h | apply At.t | apply At.a))) hone (by omega) (by omega) ?_)
    rintro v7 cs7 hrow7 hn7
    rw [Nat.zero_add, List.nil_append] at hrow7
    refine wl rfl (OP.ev rfl rfl (eAs rfl) ?_)
    refine wl_nil ?_
    refine wc_ret ?_
    apply at_ret rfl
    · exact (.cons (.tmp rfl) .nil)
    · exact ⟨cs7, ⟨hrow7, hA.acts, hA.ok⟩, rfl⟩
    · exact (by repeat (first | exact Sel.all | exact Sel.none | exact Sel.hd | (apply Sel.one; · repeat (first | exact Pick.h | apply Pick.t | apply Pick.app)) | apply Sel.app | (with_reducible apply Sel.grp; · repeat (first | exact PickF.h | apply PickF.t | apply PickF.a)) | (with_reducible refine Sel.nilF (by with_unfolding_all rfl) ?_) | apply Sel.drop | apply Sel.dropF))

theorem clone_ok (b : Nat) (d : DK) (hd : DOk d) (D R : Heap) (hD : DiskR W0 I d b D) (hn : d.acts.length ≤ 1000000) :
    FnC W0 Try.prog 22 #[ptr b] (D ++ (I ++ R)) (fun v L' => ∃ b' D' I', v = ptr b' ∧ Sel I' I ∧ DiskR W0 I' d b' D' ∧ L' = D' ++ (D ++ (I' ++ R))) := by
  obtain ⟨ms, ml, m1, c1, m2, c2, av, acs, ax, rfl, hT1, hT2, hA⟩ := hD
  simp only [List.cons_append]
  refine fn_of Try.func22 rfl Try.ntmps22 rfl rfl ?_
  refine wc_seq ?_
  refine wc_region ?_
  refine wl rfl (OP.ev rfl rfl (eAs rfl) ?_)
  refine wl_nil ?_
  refine wc_seq ?_
  refine wc_seq ?_
  refine wc_region ?_
  refine wl rfl (OP.ev rfl rfl (eMv rfl) ?_)
  first | refine wl rfl (OP.ev rfl rfl (eEqP0 rfl rfl ty23) ?_) | refine wl rfl (OP.ev rfl rfl (eEqP1 rfl rfl ty23) ?_)
  refine wl rfl (OP.ev rfl rfl (eMv rfl) ?_)
  refine wl_go rfl rfl (OP.ev rfl rfl (eMv rfl) ?_)
  refine wl_go rfl rfl (OP.ev rfl rfl (eNil rfl) ?_)
  refine wl_go rfl rfl (OP.ev rfl rfl (eFld 5 ty52 rfl rfl ty49 rfl) ?_)
  first | refine wl_go rfl rfl (OP.ev rfl rfl (eLd ty49 rfl rfl (by repeat (first | exact Has.h | apply Has.t | apply Has.app)) (by rfl)) ?_) | refine wl_go rfl rfl (OP.ev rfl rfl (eLdO ty49 rfl rfl (by assumption)) ?_)
  first | refine wl_go rfl rfl (OP.ev rfl rfl (eEqM0 rfl rfl ty49) ?_) | refine wl_go rfl rfl (OP.ev rfl rfl (eEqM1 rfl rfl ty49) ?_)
  refine wl rfl (OP.ev rfl rfl (ePk rfl rfl) ?_)
  refine wl_nil ?_
  refine wc_else rfl ?_
  refine wc_skip ?_
  refine wc_seq ?_
  refine wc_draw (dkC b d ms ml av :: tC ms m1 c1 :: tC ml m2 c2 :: (ownH av acs 82 ++ [])) rfl ?_
  refine wa_take 0 (by kernel_rfl) rfl rfl rfl rfl (by repeat (first | exact Sel.all | exact Sel.none | exact Sel.hd | (apply Sel.one; · repeat (first | exact Pick.h | apply Pick.t | apply Pick.app)) | apply Sel.app | (with_reducible apply Sel.grp; · repeat (first | exact PickF.h | apply PickF.t | apply PickF.a)) | (with_reducible refine Sel.nilF (by with_unfolding_all rfl) ?_) | apply Sel.drop | apply Sel.dropF)) (eMv rfl) ?_
  refine wa_take 1 (by kernel_rfl) rfl rfl rfl rfl (by repeat (first | exact Sel.all | exact Sel.none | exact Sel.hd | (apply Sel.one; · repeat (first | exact Pick.h | apply Pick.t | apply Pick.app)) | apply Sel.app | (with_reducible apply Sel.grp; · repeat (first | exact PickF.h | apply PickF.t | apply PickF.a)) | (with_reducible refine Sel.nilF (by with_unfolding_all rfl) ?_) | apply Sel.drop | apply Sel.dropF)) (eNil rfl) ?_
  refine wa_take 2 (by kernel_rfl) rfl rfl rfl rfl (by repeat (first | exact Sel.all | exact Sel.none | exact Sel.hd | (apply Sel.one; · repeat (first | exact Pick.h | apply Pick.t | apply Pick.app)) | apply Sel.app | (with_reducible apply Sel.grp; · repeat (first | exact PickF.h | apply PickF.t | apply PickF.a)) | (with_reducible refine Sel.nilF (by with_unfolding_all rfl) ?_) | apply Sel.drop | apply Sel.dropF)) (eFld 0 ty52 rfl rfl ty47 rfl) ?_
  refine wa_take 3 (by kernel_rfl) rfl rfl rfl rfl (by repeat (first | exact Sel.all | exact Sel.none | exact Sel.hd | (apply Sel.one; · repeat (first | exact Pick.h | apply Pick.t | apply Pick.app)) | apply Sel.app | (with_reducible apply Sel.grp; · repeat (first | exact PickF.h | apply PickF.t | apply PickF.a)) | (with_reducible refine Sel.nilF (by with_unfolding_all rfl) ?_) | apply Sel.drop | apply Sel.dropF)) (eLdA (vs := [.bool d.off, i64 d.left, i64 d.keep, i64 d.tear]) ty47 rfl rfl (by repeat (first | exact Has.h | apply Has.t | apply Has.app)) (by rfl) (by rfl)) ?_
  refine wa_take 4 (by kernel_rfl) rfl rfl rfl rfl (by repeat (first | exact Sel.all | exact Sel.none | exact Sel.hd | (apply Sel.one; · repeat (first | exact Pick.h | apply Pick.t | apply Pick.app)) | apply Sel.app | (with_reducible apply Sel.grp; · repeat (first | exact PickF.h | apply PickF.t | apply PickF.a)) | (with_reducible refine Sel.nilF (by with_unfolding_all rfl) ?_) | apply Sel.drop | apply Sel.dropF)) (eMv rfl) ?_
  refine wa_take 5 (by kernel_rfl) rfl rfl rfl rfl (by repeat (first | exact Sel.all | exact Sel.none | exact Sel.hd | (apply Sel.one; · repeat (first | exact Pick.h | apply Pick.t | apply Pick.app)) | apply Sel.app | (with_reducible apply Sel.grp; · repeat (first | exact PickF.h | apply PickF.t | apply PickF.a)) | (with_reducible refine Sel.nilF (by with_unfolding_all rfl) ?_) | apply Sel.drop | apply Sel.dropF)) (eNil rfl) ?_
  refine wa_take 6 (by kernel_rfl) rfl rfl rfl rfl (by repeat (first | exact Sel.all | exact Sel.none | exact Sel.hd | (apply Sel.one; · repeat (first | exact Pick.h | apply Pick.t | apply Pick.app)) | apply Sel.app | (with_reducible apply Sel.grp; · repeat (first | exact PickF.h | apply PickF.t | apply PickF.a)) | (with_reducible refine Sel.nilF (by with_unfolding_all rfl) ?_) | apply Sel.drop | apply Sel.dropF)) (eFld 4 ty52 rfl rfl ty3 rfl) ?_
  first | refine wa_take 7 (by kernel_rfl) rfl rfl rfl rfl (by repeat (first | exact Sel.all | exact Sel.none | exact Sel.hd | (apply Sel.one; · repeat (first | exact Pick.h | apply Pick.t | apply Pick.app)) | apply Sel.app | (with_reducible apply Sel.grp; · repeat (first | exact PickF.h | apply PickF.t | apply PickF.a)) | (with_reducible refine Sel.nilF (by with_unfolding_all rfl) ?_) | apply Sel.drop | apply Sel.dropF)) (eLd ty3 rfl rfl (by repeat (first | exact Has.h | apply Has.t | apply Has.app)) (by rfl)) ?_ | refine wa_take 7 (by kernel_rfl) rfl rfl rfl rfl (by repeat (first | exact Sel.all | exact Sel.none | exact Sel.hd | (apply Sel.one; · repeat (first | exact Pick.h | apply Pick.t | apply Pick.app)) | apply Sel.app | (with_reducible apply Sel.grp; · repeat (first | exact PickF.h | apply PickF.t | apply PickF.a)) | (with_reducible refine Sel.nilF (by with_unfolding_all rfl) ?_) | apply Sel.drop | apply Sel.dropF)) (eLdO ty3 rfl rfl (by assumption)) ?_
  refine wa_take 8 (by kernel_rfl) rfl rfl rfl rfl (by repeat (first | exact Sel.all | exact Sel.none | exact Sel.hd | (apply Sel.one; · repeat (first | exact Pick.h | apply Pick.t | apply Pick.app)) | apply Sel.app | (with_reducible apply Sel.grp; · repeat (first | exact PickF.h | apply PickF.t | apply PickF.a)) | (with_reducible refine Sel.nilF (by with_unfolding_all rfl) ?_) | apply Sel.drop | apply Sel.dropF)) (eMv rfl) ?_
  refine wa_take 9 (by kernel_rfl) rfl rfl rfl rfl (by repeat (first | exact Sel.all | exact Sel.none | exact Sel.hd | (apply Sel.one; · repeat (first | exact Pick.h | apply Pick.t | apply Pick.app)) | apply Sel.app | (with_reducible apply Sel.grp; · repeat (first | exact PickF.h | apply PickF.t | apply PickF.a)) | (with_reducible refine Sel.nilF (by with_unfolding_all rfl) ?_) | apply Sel.drop | apply Sel.dropF)) (eNil rfl) ?_
  refine wa_take 10 (by kernel_rfl) rfl rfl rfl rfl (by repeat (first | exact Sel.all | exact Sel.none | exact Sel.hd | (apply Sel.one; · repeat (first | exact Pick.h | apply Pick.t | apply Pick.app)) | apply Sel.app | (with_reducible apply Sel.grp; · repeat (first | exact PickF.h | apply PickF.t | apply PickF.a)) | (with_reducible refine Sel.nilF (by with_unfolding_all rfl) ?_) | apply Sel.drop | apply Sel.dropF)) (eFld 5 ty52 rfl rfl ty49 rfl) ?_
  first | refine wa_take 11 (by kernel_rfl) rfl rfl rfl rfl (by repeat (first | exact Sel.all | exact Sel.none | exact Sel.hd | (apply Sel.one; · repeat (first | exact Pick.h | apply Pick.t | apply Pick.app)) | apply Sel.app | (with_reducible apply Sel.grp; · repeat (first | exact PickF.h | apply PickF.t | apply PickF.a)) | (with_reducible refine Sel.nilF (by with_unfolding_all rfl) ?_) | apply Sel.drop | apply Sel.dropF)) (eLd ty49 rfl rfl (by repeat (first | exact Has.h | apply Has.t | apply Has.app)) (by rfl)) ?_ | refine wa_take 11 (by kernel_rfl) rfl rfl rfl rfl (by repeat (first | exact Sel.all | exact Sel.none | exact Sel.hd | (apply Sel.one; · repeat (first | exact Pick.h | apply Pick.t | apply Pick.app)) | apply Sel.app | (with_reducible apply Sel.grp; · repeat (first | exact PickF.h | apply PickF.t | apply PickF.a)) | (with_reducible refine Sel.nilF (by with_unfolding_all rfl) ?_) | apply Sel.drop | apply Sel.dropF)) (eLdO ty49 rfl rfl (by assumption)) ?_
  refine wa_take 13 (by kernel_rfl) rfl rfl rfl rfl (by repeat (first | exact Sel.all | exact Sel.none | exact Sel.hd | (apply Sel.one; · repeat (first | exact Pick.h | apply Pick.t | apply Pick.app)) | apply Sel.app | (with_reducible apply Sel.grp; · repeat (first | exact PickF.h | apply PickF.t | apply PickF.a)) | (with_reducible refine Sel.nilF (by with_unfolding_all rfl) ?_) | apply Sel.drop | apply Sel.dropF)) (eMv rfl) ?_
  refine wa_take 14 (by kernel_rfl) rfl rfl rfl rfl (by repeat (first | exact Sel.all | exact Sel.none | exact Sel.hd | (apply Sel.one; · repeat (first | exact Pick.h | apply Pick.t | apply Pick.app)) | apply Sel.app | (with_reducible apply Sel.grp; · repeat (first | exact PickF.h | apply PickF.t | apply PickF.a)) | (with_reducible refine Sel.nilF (by with_unfolding_all rfl) ?_) | apply Sel.drop | apply Sel.dropF)) (eNil rfl) ?_
  refine wa_take 15 (by kernel_rfl) rfl rfl rfl rfl (by repeat (first | exact Sel.all | exact Sel.none | exact Sel.hd | (apply Sel.one; · repeat (first | exact Pick.h | apply Pick.t | apply Pick.app)) | apply Sel.app | (with_reducible apply Sel.grp; · repeat (first | exact PickF.h | apply PickF.t | apply PickF.a)) | (with_reducible refine Sel.nilF (by with_unfolding_all rfl) ?_) | apply Sel.drop | apply Sel.dropF)) (eFld 6 ty52 rfl rfl ty49 rfl) ?_
  first | refine wa_take 16 (by kernel_rfl) rfl rfl rfl rfl (by repeat (first | exact Sel.all | exact Sel.none | exact Sel.hd | (apply Sel.one; · repeat (first | exact Pick.h | apply Pick.t | apply Pick.app)) | apply Sel.app | (with_reducible apply Sel.grp; · repeat (first | exact PickF.h | apply PickF.t | apply PickF.a)) | (with_reducible refine Sel.nilF (by with_unfolding_all rfl) ?_) | apply Sel.drop | apply Sel.dropF)) (eLd ty49 rfl rfl (by repeat (first | exact Has.h | apply Has.t | apply Has.app)) (by rfl)) ?_ | refine wa_take 16 (by kernel_rfl) rfl rfl rfl rfl (by repeat (first | exact Sel.all | exact Sel.none | exact Sel.hd | (apply Sel.one; · repeat (first | exact Pick.h | apply Pick.t | apply Pick.app)) | apply Sel.app | (with_reducible apply Sel.grp; · repeat (first | exact PickF.h | apply PickF.t | apply PickF.a)) | (with_reducible refine Sel.nilF (by with_unfolding_all rfl) ?_) | apply Sel.drop | apply Sel.dropF)) (eLdO ty49 rfl rfl (by assumption)) ?_
  refine wa_take 18 (by kernel_rfl) rfl rfl rfl rfl (by repeat (first | exact Sel.all | exact Sel.none | exact Sel.hd | (apply Sel.one; · repeat (first | exact Pick.h | apply Pick.t | apply Pick.app)) | apply Sel.app | (with_reducible apply Sel.grp; · repeat (first | exact PickF.h | apply PickF.t | apply PickF.a)) | (with_reducible refine Sel.nilF (by with_unfolding_all rfl) ?_) | apply Sel.drop | apply Sel.dropF)) (eMv rfl) ?_
  refine wa_take 19 (by kernel_rfl) rfl rfl rfl rfl (by repeat (first | exact Sel.all | exact Sel.none | exact Sel.hd | (apply Sel.one; · repeat (first | exact Pick.h | apply Pick.t | apply Pick.app)) | apply Sel.app | (with_reducible apply Sel.grp; · repeat (first | exact PickF.h | apply PickF.t | apply PickF.a)) | (with_reducible refine Sel.nilF (by with_unfolding_all rfl) ?_) | apply Sel.drop | apply Sel.dropF)) (eNil rfl) ?_
  refine wa_take 20 (by kernel_rfl) rfl rfl rfl rfl (by repeat (first | exact Sel.all | exact Sel.none | exact Sel.hd | (apply Sel.one; · repeat (first | exact Pick.h | apply Pick.t | apply Pick.app)) | apply Sel.app | (with_reducible apply Sel.grp; · repeat (first | exact PickF.h | apply PickF.t | apply PickF.a)) | (with_reducible refine Sel.nilF (by with_unfolding_all rfl) ?_) | apply Sel.drop | apply Sel.dropF)) (eFld 7 ty52 rfl rfl ty50 rfl) ?_
  first | refine wa_take 21 (by kernel_rfl) rfl rfl rfl rfl (by repeat (first | exact Sel.all | exact Sel.none | exact Sel.hd | (apply Sel.one; · repeat (first | exact Pick.h | apply Pick.t | apply Pick.app)) | apply Sel.app | (with_reducible apply Sel.grp; · repeat (first | exact PickF.h | apply PickF.t | apply PickF.a)) | (with_reducible refine Sel.nilF (by with_unfolding_all rfl) ?_) | apply Sel.drop | apply Sel.dropF)) (eLd ty50 rfl rfl (by repeat (first | exact Has.h | apply Has.t | apply Has.app)) (by rfl)) ?_ | refine wa_take 21 (by kernel_rfl) rfl rfl rfl rfl (by repeat (first | exact Sel.all | exact Sel.none | exact Sel.hd | (apply Sel.one; · repeat (first | exact Pick.h | apply Pick.t | apply Pick.app)) | apply Sel.app | (with_reducible apply Sel.grp; · repeat (first | exact PickF.h | apply PickF.t | apply PickF.a)) | (with_reducible refine Sel.nilF (by with_unfolding_all rfl) ?_) | apply Sel.drop | apply Sel.dropF)) (eLdO ty50 rfl rfl (by assumption)) ?_
  refine wa_all [12] (by kernel_rfl) rfl (wall_one 12 rfl rfl ?_ trivial)
  refine oC rfl pf50 rfl (copied_ok ms m1 c1 d.seen hT1 hd.snum hd.sbytes _) (by repeat (first | exact Sel.all | exact Sel.none | exact Sel.hd | (apply Sel.one; · repeat (first | exact Pick.h | apply Pick.t | apply Pick.app)) | apply Sel.app | (with_reducible apply Sel.grp; · repeat (first | exact PickF.h | apply PickF.t | apply PickF.a)) | (with_reducible refine Sel.nilF (by with_unfolding_all rfl) ?_) | apply Sel.drop | apply Sel.dropF)) ?_
  rintro v24 _ ⟨r3, m3, c3, I3, rfl, hI3, hT3, rfl⟩
  refine ⟨(by repeat (first | exact Sel.all | exact Sel.none | exact Sel.hd | (apply Sel.one; · repeat (first | exact Pick.h | apply Pick.t | apply Pick.app)) | apply Sel.app | (with_reducible apply Sel.grp; · repeat (first | exact PickF.h | apply PickF.t | apply PickF.a)) | (with_reducible refine Sel.nilF (by with_unfolding_all rfl) ?_) | apply Sel.drop | apply Sel.dropF)), ?_⟩
  refine wa_all [17] (by kernel_rfl) rfl (wall_one 17 rfl rfl ?_ trivial)
  refine oC rfl pf50 rfl (copied_ok ml m2 c2 d.last (hT2.sel hI3) hd.num hd.lbytes _) (by repeat (first | exact Sel.all | exact Sel.none | exact Sel.hd | (apply Sel.one; · repeat (first | exact Pick.h | apply Pick.t | apply Pick.app)) | apply Sel.app | (with_reducible apply Sel.grp; · repeat (first | exact PickF.h | apply PickF.t | apply PickF.a)) | (with_reducible refine Sel.nilF (by with_unfolding_all rfl) ?_) | apply Sel.drop | apply Sel.dropF)) ?_
  rintro v29 _ ⟨r4, m4, c4, I4, rfl, hI4, hT4, rfl⟩
  refine ⟨(by repeat (first | exact Sel.all | exact Sel.none | exact Sel.hd | (apply Sel.one; · repeat (first | exact Pick.h | apply Pick.t | apply Pick.app)) | apply Sel.app | (with_reducible apply Sel.grp; · repeat (first | exact PickF.h | apply PickF.t | apply PickF.a)) | (with_reducible refine Sel.nilF (by with_unfolding_all rfl) ?_) | apply Sel.drop | apply Sel.dropF)), ?_⟩
  refine wa_all [22] (by kernel_rfl) rfl (wall_one 22 rfl rfl ?_ trivial)
  refine oC rfl pf51 rfl (aclone_ok av acs ax d.acts (hA.sel (hI4.trans hI3)) hn _) (by repeat (first | exact Sel.all | exact Sel.none | exact Sel.hd | (apply Sel.one; · repeat (first | exact Pick.h | apply Pick.t | apply Pick.app)) | apply Sel.app | (with_reducible apply Sel.grp; · repeat (first | exact PickF.h | apply PickF.t | apply PickF.a)) | (with_reducible refine Sel.nilF (by with_unfolding_all rfl) ?_) | apply Sel.drop | apply Sel.dropF)) ?_
  rintro v34 _ ⟨cs34, hA4, rfl⟩
  refine ⟨(by repeat (first | exact Sel.all | exact Sel.none | exact Sel.hd | (apply Sel.one; · repeat (first | exact Pick.h | apply Pick.t | apply Pick.app)) | apply Sel.app | (with_reducible apply Sel.grp; · repeat (first | exact PickF.h | apply PickF.t | apply PickF.a)) | (with_reducible refine Sel.nilF (by with_unfolding_all rfl) ?_) | apply Sel.drop | apply Sel.dropF)), ?_⟩
  refine wa_take 23 (by kernel_rfl) rfl rfl rfl rfl (by repeat (first | exact Sel.all | exact Sel.none | exact Sel.hd | (apply Sel.one; · repeat (first | exact Pick.h | apply Pick.t | apply Pick.app)) | apply Sel.app | (with_reducible apply Sel.grp; · repeat (first | exact PickF.h | apply PickF.t | apply PickF.a)) | (with_reducible refine Sel.nilF (by with_unfolding_all rfl) ?_) | apply Sel.drop | apply Sel.dropF)) (eBuL (cells := [.bool d.off, i64 d.left, i64 d.keep, i64 d.tear, i64 d.room, .map (some r3), .map (some r4), v34]) ty52 pl52 rfl (by have h9 := oneCell_of hA4.row.one; simp only [fillL, h9]; rfl)) ?_
  refine wa_all [24] (by kernel_rfl) rfl (wall_one 24 rfl rfl ?_ trivial)
  refine oBox rfl rfl rfl fun b36 => ?_
  refine ⟨(by repeat (first | exact Sel.all | exact Sel.none | exact Sel.hd | (apply Sel.one; · repeat (first | exact Pick.h | apply Pick.t | apply Pick.app)) | apply Sel.app | (with_reducible apply Sel.grp; · repeat (first | exact PickF.h | apply PickF.t | apply PickF.a)) | (with_reducible refine Sel.nilF (by with_unfolding_all rfl) ?_) | apply Sel.drop | apply Sel.dropF)), ?_⟩
  refine wa_take 25 (by kernel_rfl) rfl rfl rfl rfl (by repeat (first | exact Sel.all | exact Sel.none | exact Sel.hd | (apply Sel.one; · repeat (first | exact Pick.h | apply Pick.t | apply Pick.app)) | apply Sel.app | (with_reducible apply Sel.grp; · repeat (first | exact PickF.h | apply PickF.t | apply PickF.a)) | (with_reducible refine Sel.nilF (by with_unfolding_all rfl) ?_) | apply Sel.drop | apply Sel.dropF)) (eAs rfl) ?_
  refine wa_nil (by kernel_rfl) ?_
  refine wc_ret ?_
  apply at_ret rfl
  · exact (.cons (.tmp rfl) .nil)
  · exact ⟨b36, _, I4, rfl, hI4.trans hI3, ⟨r3, r4, m3, c3, m4, c4, v34, cs34, ax, rfl, hT3.sel hI4, hT4, hA4⟩, (rfl : (dkC b36 d r3 r4 v34 :: tC r3 m3 c3 :: tC r4 m4 c4 :: (ownH v34 cs34 82 ++ (dkC b d ms ml av :: tC ms m1 c1 :: tC ml m2 c2 :: (ownH av acs 82 ++ (I4 ++ R))))) = _)⟩
  · exact (by repeat (first | exact Sel.all | exact Sel.none | exact Sel.hd | (apply Sel.one; · repeat (first | exact Pick.h | apply Pick.t | apply Pick.app)) | apply Sel.app | (with_reducible apply Sel.grp; · repeat (first | exact PickF.h | apply PickF.t | apply PickF.a)) | (with_reducible refine Sel.nilF (by with_unfolding_all rfl) ?_) | apply Sel.drop | apply Sel.dropF))
end Go.Proofs.Ytahjgjmemijofaa
