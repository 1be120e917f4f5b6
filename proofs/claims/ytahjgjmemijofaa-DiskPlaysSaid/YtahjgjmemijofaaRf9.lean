/- The reference's disk: write. No statement of the seat is proved here. -/
import Derived.Test.YtahjgjmemijofaaRf8
namespace Go.Proofs.Ytahjgjmemijofaa
open Go Eng
set_option linter.unusedVariables false
set_option linter.unusedSimpArgs false
set_option maxRecDepth 4000
variable {W0 : World} {I I' : Heap}

theorem Eng.Sel.appR {L1 L2 : Heap} (h : Sel L1 L2) (R : Heap) : Sel (L1 ++ R) (L2 ++ R) := by
  induction h with
  | all => exact Sel.all
  | none => exact Sel.dropF Sel.all
  | one hp _ ih => exact Sel.perm (hp.perm.append_right R) (Sel.one Pick.h ih)
  | drop _ ih => exact Sel.drop ih
  | perm hp _ ih => exact Sel.perm (hp.append_right R) ih

theorem rwrite_ok (b : Nat) (d : DK) (hd : DOk d) (k : Nm) (hkl : k.length ≤ 9223372036854775807) (n : Int) (hn64 : I64 n) (bv : Value) (B : List Int) (D R : Heap) (hD : RefR W0 I d b D) (hb : Rs W0 (I ++ R) bv 1 B.length (byteV B)) (hB : IsB B) (hbl : B.length ≤ 9223372036854775807) (hn : d.acts.length < 1000000) :
    FnC W0 Try.prog 36 #[ptr b, strK k, i64 n, bv] (D ++ (I ++ R)) (RPut W0 I R b (d.write k n B).2 (i64 (d.write k n B).1)) := by
  have hD0 := hD
  obtain ⟨Lv, av, acs, ax, kp, tr, rfl, hF, hA, hkt, hk64, ht64⟩ := hD
  have huse := hd.use
  have hroom := hd.room
  have hsn := hd.snum
  have hgl := hd.get_len k
  obtain ⟨hn1, hn2⟩ := hn64
  have hub : 0 ≤ d.used ∧ d.used ≤ d.room := by
    unfold DK.used
    split <;> omega
  have hwhy := why_ok (W0 := W0) b d hd k hkl _ R hD0 (by omega)
  simp only [List.cons_append] at hwhy
  simp only [List.cons_append]
  refine fn_of Try.func36 rfl Try.ntmps36 rfl rfl ?_
  refine wc_seq ?_
  refine wc_region ?_
  refine wl rfl (OP.ev rfl rfl (eAs rfl) ?_)
  refine wl_nil ?_
  refine wc_seq ?_
  refine wc_region ?_
  refine wl rfl (OP.ev rfl rfl (eMv rfl) ?_)
  refine wl rfl (OP.ev rfl rfl (eMv rfl) ?_)
  refine wl rfl (oC rfl pf55 rfl hwhy (by repeat (first|exact Sel.all|exact Sel.none|exact Sel.hd|(apply Sel.one; · repeat (first|exact Pick.h|apply Pick.t|apply Pick.app))|apply Sel.app|(with_reducible apply Sel.grp; · repeat (first|exact PickF.h|apply PickF.t|apply PickF.a))|(with_reducible refine Sel.nilF (by with_unfolding_all rfl) ?_)|apply Sel.drop|apply Sel.dropF)) ?_)
  rintro _ _ ⟨rfl, I1, hI1, rfl⟩
  refine wl rfl (OP.ev rfl rfl (eAs rfl) ?_)
  refine wl_nil ?_
  refine wc_seq ?_
  refine wc_seq ?_
  refine wc_region ?_
  refine wl rfl (OP.ev rfl rfl (eMv rfl) ?_)
  refine wl rfl (OP.evb rfl rfl (eEq rfl rfl) fun t16 h16 => ?_)
  refine wl rfl (OP.ev rfl rfl (eMv rfl) ?_)
  cases t16 with
  | true =>
   try have c_t16 := dt h16
   first
   | (exfalso; omega)
   | (
    refine wl_go rfl rfl (OP.ev rfl rfl (eMv rfl) ?_)
    refine wl_go rfl rfl (OP.evb rfl rfl (eEq rfl rfl) fun t19 h19 => ?_)
    refine wl rfl (OP.ev rfl rfl (ePk rfl rfl) ?_)
    refine wl_nil ?_
    cases t19 with
    | true =>
     try have c_t19 := dt h19
     first
     | (exfalso; omega)
     | (
      refine wc_then rfl ?_
      refine wc_seq ?_
      refine wc_seq ?_
      skip
      refine wc_region ?_
      refine wl rfl (OP.ev rfl rfl (eMv rfl) ?_)
      refine wl rfl (oC rfl pf57 rfl (files_ok b d hd Lv av acs ax kp tr (hF.sel hI1) (hA.sel hI1) (by omega) _) (by repeat (first|exact Sel.all|exact Sel.none|exact Sel.hd|(apply Sel.one; · repeat (first|exact Pick.h|apply Pick.t|apply Pick.app))|apply Sel.app|(with_reducible apply Sel.grp; · repeat (first|exact PickF.h|apply PickF.t|apply PickF.a))|(with_reducible refine Sel.nilF (by with_unfolding_all rfl) ?_)|apply Sel.drop|apply Sel.dropF)) ?_)
      rintro v22 _ ⟨I2, hI2, ⟨xs, hr, hxl, hxo⟩, rfl⟩
      refine wl rfl (OP.ev rfl rfl (eLenR ty83 rfl (hr.sel (by repeat (first|exact Sel.all|exact Sel.none|exact Sel.hd|(apply Sel.one; · repeat (first|exact Pick.h|apply Pick.t|apply Pick.app))|apply Sel.app|(with_reducible apply Sel.grp; · repeat (first|exact PickF.h|apply PickF.t|apply PickF.a))|(with_reducible refine Sel.nilF (by with_unfolding_all rfl) ?_)|apply Sel.drop|apply Sel.dropF)))) ?_)
      refine wl rfl (OP.evb rfl rfl (eGe rfl rfl) fun t24 h24 => ?_)
      refine wl_nil ?_
      have hxn : xs.length = d.seen.length := by rw [← hxl]; simp [fL]
      cases t24 with
      | true =>
       try have c_t24 := dt h24
       first
       | (exfalso; omega)
       | (
        refine wc_then rfl ?_
        refine wc_seq ?_
        refine wc_region ?_
        refine wl rfl (OP.ev rfl rfl (eAs rfl) ?_)
        refine wl_nil ?_
        refine wc_ret ?_
        apply at_ret rfl
        · exact (.cons (.tmp rfl) .nil)
        · first
         | exact ⟨by rw [write_full (by omega) (by omega) (by omega)]; rfl, _, I2, hI2.trans hI1, by rw [write_full (by omega) (by omega) (by omega)]; exact hD0.sel (hI2.trans hI1), (rfl : rkC b d Lv av kp tr :: (ownH av acs 92 ++ (I2 ++ R)) = _)⟩
         | exact ⟨by rw [write_err (by omega) (by omega)]; rfl, _, I1, hI1, by rw [write_err (by omega) (by omega)]; exact hD0.sel hI1, (rfl : rkC b d Lv av kp tr :: (ownH av acs 92 ++ (I1 ++ R)) = _)⟩
         | exact ⟨by rw [write_arg (by omega) (by omega)]; rfl, _, I3, hI3.trans hI8, by rw [write_arg (by omega) (by omega)]; exact hD0.sel (hI3.trans hI8), (rfl : rkC b d Lv av kp tr :: (ownH av acs 92 ++ (I3 ++ R)) = _)⟩
         | exact ⟨by rw [hw9]; unfold DK.writeA; rw [if_pos (by omega)]; rfl, _, I3, hS3, by rw [hw9]; unfold DK.writeA; rw [if_pos (by omega)]; exact hD0.sel hS3, (rfl : rkC b d Lv av kp tr :: (ownH av acs 92 ++ (I3 ++ R)) = _)⟩
         | exact ⟨by rw [hw9]; unfold DK.writeA; rw [if_neg (by omega)]; rfl, D4, I4, (hI4.trans hsI).trans hS3, by rw [hw9]; unfold DK.writeA; rw [if_neg (by omega)]; exact hD4, rfl⟩
        · exact (by repeat (first|exact Sel.all|exact Sel.none|exact Sel.hd|(apply Sel.one; · repeat (first|exact Pick.h|apply Pick.t|apply Pick.app))|apply Sel.app|(with_reducible apply Sel.grp; · repeat (first|exact PickF.h|apply PickF.t|apply PickF.a))|(with_reducible refine Sel.nilF (by with_unfolding_all rfl) ?_)|apply Sel.drop|apply Sel.dropF)))
      | false =>
       try have c_t24 := df h24
       first
       | (exfalso; omega)
       | (
        refine wc_else rfl ?_
        refine wc_skip ?_
        refine wc_region ?_
        refine wl rfl (OP.ev rfl rfl (eAs rfl) ?_)
        refine wl_nil ?_
        refine wc_seq ?_
        refine wc_seq ?_
        refine wc_region ?_
        refine wl rfl (OP.ev rfl rfl (eMv rfl) ?_)
        refine wl rfl (OP.evb rfl rfl (eNe rfl rfl) fun t26 h26 => ?_)
        refine wl_nil ?_
        cases t26 with
        | true =>
         try have c_t26 := dt h26
         first
         | (exfalso; omega)
         | (
          refine wc_then rfl ?_
          refine wc_seq ?_
          refine wc_region ?_
          refine wl rfl (OP.ev rfl rfl (eMv rfl) ?_)
          refine wl rfl (OP.ev rfl rfl (eAs rfl) ?_)
          refine wl_nil ?_
          refine wc_ret ?_
          apply at_ret rfl
          · exact (.cons (.tmp rfl) .nil)
          · first
           | exact ⟨by rw [write_full (by omega) (by omega) (by omega)]; rfl, _, I2, hI2.trans hI1, by rw [write_full (by omega) (by omega) (by omega)]; exact hD0.sel (hI2.trans hI1), (rfl : rkC b d Lv av kp tr :: (ownH av acs 92 ++ (I2 ++ R)) = _)⟩
           | exact ⟨by rw [write_err (by omega) (by omega)]; rfl, _, I1, hI1, by rw [write_err (by omega) (by omega)]; exact hD0.sel hI1, (rfl : rkC b d Lv av kp tr :: (ownH av acs 92 ++ (I1 ++ R)) = _)⟩
           | exact ⟨by rw [write_arg (by omega) (by omega)]; rfl, _, I3, hI3.trans hI8, by rw [write_arg (by omega) (by omega)]; exact hD0.sel (hI3.trans hI8), (rfl : rkC b d Lv av kp tr :: (ownH av acs 92 ++ (I3 ++ R)) = _)⟩
           | exact ⟨by rw [hw9]; unfold DK.writeA; rw [if_pos (by omega)]; rfl, _, I3, hS3, by rw [hw9]; unfold DK.writeA; rw [if_pos (by omega)]; exact hD0.sel hS3, (rfl : rkC b d Lv av kp tr :: (ownH av acs 92 ++ (I3 ++ R)) = _)⟩
           | exact ⟨by rw [hw9]; unfold DK.writeA; rw [if_neg (by omega)]; rfl, D4, I4, (hI4.trans hsI).trans hS3, by rw [hw9]; unfold DK.writeA; rw [if_neg (by omega)]; exact hD4, rfl⟩
          · exact (by repeat (first|exact Sel.all|exact Sel.none|exact Sel.hd|(apply Sel.one; · repeat (first|exact Pick.h|apply Pick.t|apply Pick.app))|apply Sel.app|(with_reducible apply Sel.grp; · repeat (first|exact PickF.h|apply PickF.t|apply PickF.a))|(with_reducible refine Sel.nilF (by with_unfolding_all rfl) ?_)|apply Sel.drop|apply Sel.dropF)))
        | false =>
         try have c_t26 := df h26
         first
         | (exfalso; omega)
         | (
          refine wc_else rfl ?_
          refine wc_skip ?_
          refine wc_seq ?_
          obtain ⟨I8, hI8e, hI8⟩ : ∃ I8, I8 = _ ∧ Sel I8 I := by first | exact ⟨I2, rfl, hI2.trans hI1⟩ | exact ⟨I1, rfl, hI1⟩
          subst hI8e
          refine wc_region ?_
          refine wl rfl (OP.ev rfl rfl (eMv rfl) ?_)
          refine wl rfl (oC rfl pf57 rfl (files_ok b d hd Lv av acs ax kp tr (hF.sel hI8) (hA.sel hI8) (by omega) _) (by repeat (first|exact Sel.all|exact Sel.none|exact Sel.hd|(apply Sel.one; · repeat (first|exact Pick.h|apply Pick.t|apply Pick.app))|apply Sel.app|(with_reducible apply Sel.grp; · repeat (first|exact PickF.h|apply PickF.t|apply PickF.a))|(with_reducible refine Sel.nilF (by with_unfolding_all rfl) ?_)|apply Sel.drop|apply Sel.dropF)) ?_)
          rintro v30 _ ⟨I3, hI3, hF3, rfl⟩
          refine wl rfl (OP.ev rfl rfl (eMv rfl) ?_)
          refine wl rfl (oC rfl pf56 rfl (get_ok _ d.seen k _ hF3 (by omega)) (by repeat (first|exact Sel.all|exact Sel.none|exact Sel.hd|(apply Sel.one; · repeat (first|exact Pick.h|apply Pick.t|apply Pick.app))|apply Sel.app|(with_reducible apply Sel.grp; · repeat (first|exact PickF.h|apply PickF.t|apply PickF.a))|(with_reducible refine Sel.nilF (by with_unfolding_all rfl) ?_)|apply Sel.drop|apply Sel.dropF)) ?_)
          rintro _ _ ⟨w, rfl, hw, hwB, rfl⟩
          refine wl rfl (OP.ev rfl rfl (eMv rfl) ?_)
          refine wl rfl (OP.ev rfl rfl (eExt rfl rfl) ?_)
          refine wl rfl (OP.ev rfl rfl (eExt rfl rfl) ?_)
          refine wl rfl (OP.ev rfl rfl (eAs rfl) ?_)
          refine wl rfl (OP.ev rfl rfl (eAs rfl) ?_)
          refine wl_nil ?_
          refine wc_seq ?_
          refine wc_seq ?_
          refine wc_region ?_
          refine wl rfl (OP.ev rfl rfl (eMv rfl) ?_)
          refine wl rfl (OP.evb rfl rfl (eLt rfl rfl) fun t36 h36 => ?_)
          refine wl rfl (OP.ev rfl rfl (eMv rfl) ?_)
          cases t36 with
          | true =>
           try have c_t36 := dt h36
           first
           | (exfalso; omega)
           | (
            refine wl_skip rfl rfl rfl rfl rfl ?_
            refine wl_skip rfl rfl rfl rfl rfl ?_
            refine wl_skip rfl rfl rfl rfl rfl ?_
            refine wl_skip rfl rfl rfl rfl rfl ?_
            refine wl rfl (OP.ev rfl rfl (ePk rfl rfl) ?_)
            refine wl_nil ?_
            refine wc_then rfl ?_
            refine wc_seq ?_
            refine wc_region ?_
            refine wl rfl (OP.ev rfl rfl (eAs rfl) ?_)
            refine wl_nil ?_
            refine wc_ret ?_
            apply at_ret rfl
            · exact (.cons (.tmp rfl) .nil)
            · first
             | exact ⟨by rw [write_full (by omega) (by omega) (by omega)]; rfl, _, I2, hI2.trans hI1, by rw [write_full (by omega) (by omega) (by omega)]; exact hD0.sel (hI2.trans hI1), (rfl : rkC b d Lv av kp tr :: (ownH av acs 92 ++ (I2 ++ R)) = _)⟩
             | exact ⟨by rw [write_err (by omega) (by omega)]; rfl, _, I1, hI1, by rw [write_err (by omega) (by omega)]; exact hD0.sel hI1, (rfl : rkC b d Lv av kp tr :: (ownH av acs 92 ++ (I1 ++ R)) = _)⟩
             | exact ⟨by rw [write_arg (by omega) (by omega)]; rfl, _, I3, hI3.trans hI8, by rw [write_arg (by omega) (by omega)]; exact hD0.sel (hI3.trans hI8), (rfl : rkC b d Lv av kp tr :: (ownH av acs 92 ++ (I3 ++ R)) = _)⟩
             | exact ⟨by rw [hw9]; unfold DK.writeA; rw [if_pos (by omega)]; rfl, _, I3, hS3, by rw [hw9]; unfold DK.writeA; rw [if_pos (by omega)]; exact hD0.sel hS3, (rfl : rkC b d Lv av kp tr :: (ownH av acs 92 ++ (I3 ++ R)) = _)⟩
             | exact ⟨by rw [hw9]; unfold DK.writeA; rw [if_neg (by omega)]; rfl, D4, I4, (hI4.trans hsI).trans hS3, by rw [hw9]; unfold DK.writeA; rw [if_neg (by omega)]; exact hD4, rfl⟩
            · exact (by repeat (first|exact Sel.all|exact Sel.none|exact Sel.hd|(apply Sel.one; · repeat (first|exact Pick.h|apply Pick.t|apply Pick.app))|apply Sel.app|(with_reducible apply Sel.grp; · repeat (first|exact PickF.h|apply PickF.t|apply PickF.a))|(with_reducible refine Sel.nilF (by with_unfolding_all rfl) ?_)|apply Sel.drop|apply Sel.dropF)))
          | false =>
           try have c_t36 := df h36
           first
           | (exfalso; omega)
           | (
            refine wl_go rfl rfl (OP.ev rfl rfl (eMv rfl) ?_)
            refine wl_go rfl rfl (OP.ev rfl rfl (eMv rfl) ?_)
            refine wl_go rfl rfl (OP.ev rfl rfl (eLenR ty30 rfl (hw.sel (by repeat (first|exact Sel.all|exact Sel.none|exact Sel.hd|(apply Sel.one; · repeat (first|exact Pick.h|apply Pick.t|apply Pick.app))|apply Sel.app|(with_reducible apply Sel.grp; · repeat (first|exact PickF.h|apply PickF.t|apply PickF.a))|(with_reducible refine Sel.nilF (by with_unfolding_all rfl) ?_)|apply Sel.drop|apply Sel.dropF)))) ?_)
            refine wl_go rfl rfl (OP.evb rfl rfl (eGt rfl rfl) fun t41 h41 => ?_)
            refine wl rfl (OP.ev rfl rfl (ePk rfl rfl) ?_)
            refine wl_nil ?_
            cases t41 with
            | true =>
             try have c_t41 := dt h41
             first
             | (exfalso; omega)
             | (
              refine wc_then rfl ?_
              refine wc_seq ?_
              refine wc_region ?_
              refine wl rfl (OP.ev rfl rfl (eAs rfl) ?_)
              refine wl_nil ?_
              refine wc_ret ?_
              apply at_ret rfl
              · exact (.cons (.tmp rfl) .nil)
              · first
               | exact ⟨by rw [write_full (by omega) (by omega) (by omega)]; rfl, _, I2, hI2.trans hI1, by rw [write_full (by omega) (by omega) (by omega)]; exact hD0.sel (hI2.trans hI1), (rfl : rkC b d Lv av kp tr :: (ownH av acs 92 ++ (I2 ++ R)) = _)⟩
               | exact ⟨by rw [write_err (by omega) (by omega)]; rfl, _, I1, hI1, by rw [write_err (by omega) (by omega)]; exact hD0.sel hI1, (rfl : rkC b d Lv av kp tr :: (ownH av acs 92 ++ (I1 ++ R)) = _)⟩
               | exact ⟨by rw [write_arg (by omega) (by omega)]; rfl, _, I3, hI3.trans hI8, by rw [write_arg (by omega) (by omega)]; exact hD0.sel (hI3.trans hI8), (rfl : rkC b d Lv av kp tr :: (ownH av acs 92 ++ (I3 ++ R)) = _)⟩
               | exact ⟨by rw [hw9]; unfold DK.writeA; rw [if_pos (by omega)]; rfl, _, I3, hS3, by rw [hw9]; unfold DK.writeA; rw [if_pos (by omega)]; exact hD0.sel hS3, (rfl : rkC b d Lv av kp tr :: (ownH av acs 92 ++ (I3 ++ R)) = _)⟩
               | exact ⟨by rw [hw9]; unfold DK.writeA; rw [if_neg (by omega)]; rfl, D4, I4, (hI4.trans hsI).trans hS3, by rw [hw9]; unfold DK.writeA; rw [if_neg (by omega)]; exact hD4, rfl⟩
              · exact (by repeat (first|exact Sel.all|exact Sel.none|exact Sel.hd|(apply Sel.one; · repeat (first|exact Pick.h|apply Pick.t|apply Pick.app))|apply Sel.app|(with_reducible apply Sel.grp; · repeat (first|exact PickF.h|apply PickF.t|apply PickF.a))|(with_reducible refine Sel.nilF (by with_unfolding_all rfl) ?_)|apply Sel.drop|apply Sel.dropF)))
            | false =>
             try have c_t41 := df h41
             first
             | (exfalso; omega)
             | (
              refine wc_else rfl ?_
              refine wc_skip ?_
              refine wc_seq ?_
              refine wc_seq ?_
              have hS3 : Sel I3 I := hI3.trans hI8
              have hb3 : Rs W0 (I3 ++ R) bv 1 B.length (byteV B) := hb.sel (hS3.appR R)
              have hw9 : d.write k n B = d.writeA k n B := by first | exact write_new (by omega) (by omega) (by omega) | exact write_old (by omega) (by omega)
              have hcan : CanDo d.seen ⟨0, k, [], n, B⟩ := by first | exact can_write hd (.inl ⟨by omega, by omega, by omega⟩) | exact can_write hd (.inr ⟨by omega, by omega, by omega⟩)
              have hmay : d.off = false ∧ may k = true := by first | exact ⟨(find_21 (d := d) (k := k) (by omega)).1, (find_21 (d := d) (k := k) (by omega)).2.1⟩ | exact ⟨(find_zero (d := d) (k := k) (by omega)).1, (find_zero (d := d) (k := k) (by omega)).2.1⟩
              have husd := rused_ok (W0 := W0) b d hd Lv av acs ax kp tr (hF.sel hS3) (hA.sel hS3) (by omega) R
              refine wc_draw (rkC b d Lv av kp tr :: (I3 ++ R)) rfl ?_
              refine wa_take 0 (by kernel_rfl) rfl rfl rfl rfl (by repeat (first|exact Sel.all|exact Sel.none|exact Sel.hd|(apply Sel.one; · repeat (first|exact Pick.h|apply Pick.t|apply Pick.app))|apply Sel.app|(with_reducible apply Sel.grp; · repeat (first|exact PickF.h|apply PickF.t|apply PickF.a))|(with_reducible refine Sel.nilF (by with_unfolding_all rfl) ?_)|apply Sel.drop|apply Sel.dropF)) (eMv rfl) ?_
              refine wa_take 1 (by kernel_rfl) rfl rfl rfl rfl (by repeat (first|exact Sel.all|exact Sel.none|exact Sel.hd|(apply Sel.one; · repeat (first|exact Pick.h|apply Pick.t|apply Pick.app))|apply Sel.app|(with_reducible apply Sel.grp; · repeat (first|exact PickF.h|apply PickF.t|apply PickF.a))|(with_reducible refine Sel.nilF (by with_unfolding_all rfl) ?_)|apply Sel.drop|apply Sel.dropF)) (eLenR ty30 rfl (hb3.sel (by repeat (first|exact Sel.all|exact Sel.none|exact Sel.hd|(apply Sel.one; · repeat (first|exact Pick.h|apply Pick.t|apply Pick.app))|apply Sel.app|(with_reducible apply Sel.grp; · repeat (first|exact PickF.h|apply PickF.t|apply PickF.a))|(with_reducible refine Sel.nilF (by with_unfolding_all rfl) ?_)|apply Sel.drop|apply Sel.dropF)))) ?_
              refine wa_takeb 2 (by kernel_rfl) rfl rfl rfl rfl (by repeat (first|exact Sel.all|exact Sel.none|exact Sel.hd|(apply Sel.one; · repeat (first|exact Pick.h|apply Pick.t|apply Pick.app))|apply Sel.app|(with_reducible apply Sel.grp; · repeat (first|exact PickF.h|apply PickF.t|apply PickF.a))|(with_reducible refine Sel.nilF (by with_unfolding_all rfl) ?_)|apply Sel.drop|apply Sel.dropF)) (eGt rfl rfl) fun t45 h45 => ?_
              refine wa_take 3 (by kernel_rfl) rfl rfl rfl rfl (by repeat (first|exact Sel.all|exact Sel.none|exact Sel.hd|(apply Sel.one; · repeat (first|exact Pick.h|apply Pick.t|apply Pick.app))|apply Sel.app|(with_reducible apply Sel.grp; · repeat (first|exact PickF.h|apply PickF.t|apply PickF.a))|(with_reducible refine Sel.nilF (by with_unfolding_all rfl) ?_)|apply Sel.drop|apply Sel.dropF)) (eMv rfl) ?_
              cases t45 with
              | true =>
               try have c_t45 := dt h45
               first
               | (exfalso; omega)
               | (
                refine wa_skip 4 (by kernel_rfl) rfl rfl rfl rfl rfl rfl (by repeat (first|exact Sel.all|exact Sel.none|exact Sel.hd|(apply Sel.one; · repeat (first|exact Pick.h|apply Pick.t|apply Pick.app))|apply Sel.app|(with_reducible apply Sel.grp; · repeat (first|exact PickF.h|apply PickF.t|apply PickF.a))|(with_reducible refine Sel.nilF (by with_unfolding_all rfl) ?_)|apply Sel.drop|apply Sel.dropF)) ?_
                refine wa_skip 5 (by kernel_rfl) rfl rfl rfl rfl rfl rfl (by repeat (first|exact Sel.all|exact Sel.none|exact Sel.hd|(apply Sel.one; · repeat (first|exact Pick.h|apply Pick.t|apply Pick.app))|apply Sel.app|(with_reducible apply Sel.grp; · repeat (first|exact PickF.h|apply PickF.t|apply PickF.a))|(with_reducible refine Sel.nilF (by with_unfolding_all rfl) ?_)|apply Sel.drop|apply Sel.dropF)) ?_
                refine wa_skip 6 (by kernel_rfl) rfl rfl rfl rfl rfl rfl (by repeat (first|exact Sel.all|exact Sel.none|exact Sel.hd|(apply Sel.one; · repeat (first|exact Pick.h|apply Pick.t|apply Pick.app))|apply Sel.app|(with_reducible apply Sel.grp; · repeat (first|exact PickF.h|apply PickF.t|apply PickF.a))|(with_reducible refine Sel.nilF (by with_unfolding_all rfl) ?_)|apply Sel.drop|apply Sel.dropF)) ?_
                refine wa_skip 7 (by kernel_rfl) rfl rfl rfl rfl rfl rfl (by repeat (first|exact Sel.all|exact Sel.none|exact Sel.hd|(apply Sel.one; · repeat (first|exact Pick.h|apply Pick.t|apply Pick.app))|apply Sel.app|(with_reducible apply Sel.grp; · repeat (first|exact PickF.h|apply PickF.t|apply PickF.a))|(with_reducible refine Sel.nilF (by with_unfolding_all rfl) ?_)|apply Sel.drop|apply Sel.dropF)) ?_
                refine wa_skip 8 (by kernel_rfl) rfl rfl rfl rfl rfl rfl (by repeat (first|exact Sel.all|exact Sel.none|exact Sel.hd|(apply Sel.one; · repeat (first|exact Pick.h|apply Pick.t|apply Pick.app))|apply Sel.app|(with_reducible apply Sel.grp; · repeat (first|exact PickF.h|apply PickF.t|apply PickF.a))|(with_reducible refine Sel.nilF (by with_unfolding_all rfl) ?_)|apply Sel.drop|apply Sel.dropF)) ?_
                refine wa_skip 9 (by kernel_rfl) rfl rfl rfl rfl rfl rfl (by repeat (first|exact Sel.all|exact Sel.none|exact Sel.hd|(apply Sel.one; · repeat (first|exact Pick.h|apply Pick.t|apply Pick.app))|apply Sel.app|(with_reducible apply Sel.grp; · repeat (first|exact PickF.h|apply PickF.t|apply PickF.a))|(with_reducible refine Sel.nilF (by with_unfolding_all rfl) ?_)|apply Sel.drop|apply Sel.dropF)) ?_
                refine wa_skip 10 (by kernel_rfl) rfl rfl rfl rfl rfl rfl (by repeat (first|exact Sel.all|exact Sel.none|exact Sel.hd|(apply Sel.one; · repeat (first|exact Pick.h|apply Pick.t|apply Pick.app))|apply Sel.app|(with_reducible apply Sel.grp; · repeat (first|exact PickF.h|apply PickF.t|apply PickF.a))|(with_reducible refine Sel.nilF (by with_unfolding_all rfl) ?_)|apply Sel.drop|apply Sel.dropF)) ?_
                refine wa_skip 11 (by kernel_rfl) rfl rfl rfl rfl rfl rfl (by repeat (first|exact Sel.all|exact Sel.none|exact Sel.hd|(apply Sel.one; · repeat (first|exact Pick.h|apply Pick.t|apply Pick.app))|apply Sel.app|(with_reducible apply Sel.grp; · repeat (first|exact PickF.h|apply PickF.t|apply PickF.a))|(with_reducible refine Sel.nilF (by with_unfolding_all rfl) ?_)|apply Sel.drop|apply Sel.dropF)) ?_
                refine wa_skip 12 (by kernel_rfl) rfl rfl rfl rfl rfl rfl (by repeat (first|exact Sel.all|exact Sel.none|exact Sel.hd|(apply Sel.one; · repeat (first|exact Pick.h|apply Pick.t|apply Pick.app))|apply Sel.app|(with_reducible apply Sel.grp; · repeat (first|exact PickF.h|apply PickF.t|apply PickF.a))|(with_reducible refine Sel.nilF (by with_unfolding_all rfl) ?_)|apply Sel.drop|apply Sel.dropF)) ?_
                refine wa_skip 13 (by kernel_rfl) rfl rfl rfl rfl rfl rfl (by repeat (first|exact Sel.all|exact Sel.none|exact Sel.hd|(apply Sel.one; · repeat (first|exact Pick.h|apply Pick.t|apply Pick.app))|apply Sel.app|(with_reducible apply Sel.grp; · repeat (first|exact PickF.h|apply PickF.t|apply PickF.a))|(with_reducible refine Sel.nilF (by with_unfolding_all rfl) ?_)|apply Sel.drop|apply Sel.dropF)) ?_
                refine wa_take 14 (by kernel_rfl) rfl rfl rfl rfl (by repeat (first|exact Sel.all|exact Sel.none|exact Sel.hd|(apply Sel.one; · repeat (first|exact Pick.h|apply Pick.t|apply Pick.app))|apply Sel.app|(with_reducible apply Sel.grp; · repeat (first|exact PickF.h|apply PickF.t|apply PickF.a))|(with_reducible refine Sel.nilF (by with_unfolding_all rfl) ?_)|apply Sel.drop|apply Sel.dropF)) (ePk rfl rfl) ?_
                refine wa_nil (by kernel_rfl) ?_
                refine wc_then rfl ?_
                refine wc_seq ?_
                refine wc_region ?_
                refine wl rfl (OP.ev rfl rfl (eAs rfl) ?_)
                refine wl_nil ?_
                refine wc_ret ?_
                apply at_ret rfl
                · exact (.cons (.tmp rfl) .nil)
                · first
                 | exact ⟨by rw [write_full (by omega) (by omega) (by omega)]; rfl, _, I2, hI2.trans hI1, by rw [write_full (by omega) (by omega) (by omega)]; exact hD0.sel (hI2.trans hI1), (rfl : rkC b d Lv av kp tr :: (ownH av acs 92 ++ (I2 ++ R)) = _)⟩
                 | exact ⟨by rw [write_err (by omega) (by omega)]; rfl, _, I1, hI1, by rw [write_err (by omega) (by omega)]; exact hD0.sel hI1, (rfl : rkC b d Lv av kp tr :: (ownH av acs 92 ++ (I1 ++ R)) = _)⟩
                 | exact ⟨by rw [write_arg (by omega) (by omega)]; rfl, _, I3, hI3.trans hI8, by rw [write_arg (by omega) (by omega)]; exact hD0.sel (hI3.trans hI8), (rfl : rkC b d Lv av kp tr :: (ownH av acs 92 ++ (I3 ++ R)) = _)⟩
                 | exact ⟨by rw [hw9]; unfold DK.writeA; rw [if_pos (by omega)]; rfl, _, I3, hS3, by rw [hw9]; unfold DK.writeA; rw [if_pos (by omega)]; exact hD0.sel hS3, (rfl : rkC b d Lv av kp tr :: (ownH av acs 92 ++ (I3 ++ R)) = _)⟩
                 | exact ⟨by rw [hw9]; unfold DK.writeA; rw [if_neg (by omega)]; rfl, D4, I4, (hI4.trans hsI).trans hS3, by rw [hw9]; unfold DK.writeA; rw [if_neg (by omega)]; exact hD4, rfl⟩
                · exact (by repeat (first|exact Sel.all|exact Sel.none|exact Sel.hd|(apply Sel.one; · repeat (first|exact Pick.h|apply Pick.t|apply Pick.app))|apply Sel.app|(with_reducible apply Sel.grp; · repeat (first|exact PickF.h|apply PickF.t|apply PickF.a))|(with_reducible refine Sel.nilF (by with_unfolding_all rfl) ?_)|apply Sel.drop|apply Sel.dropF)))
              | false =>
               try have c_t45 := df h45
               first
               | (exfalso; omega)
               | (
                refine wa_takeg 4 (by kernel_rfl) rfl rfl rfl rfl rfl (by repeat (first|exact Sel.all|exact Sel.none|exact Sel.hd|(apply Sel.one; · repeat (first|exact Pick.h|apply Pick.t|apply Pick.app))|apply Sel.app|(with_reducible apply Sel.grp; · repeat (first|exact PickF.h|apply PickF.t|apply PickF.a))|(with_reducible refine Sel.nilF (by with_unfolding_all rfl) ?_)|apply Sel.drop|apply Sel.dropF)) (eMv rfl) ?_
                refine wa_takeg 6 (by kernel_rfl) rfl rfl rfl rfl rfl (by repeat (first|exact Sel.all|exact Sel.none|exact Sel.hd|(apply Sel.one; · repeat (first|exact Pick.h|apply Pick.t|apply Pick.app))|apply Sel.app|(with_reducible apply Sel.grp; · repeat (first|exact PickF.h|apply PickF.t|apply PickF.a))|(with_reducible refine Sel.nilF (by with_unfolding_all rfl) ?_)|apply Sel.drop|apply Sel.dropF)) (eMv rfl) ?_
                refine wa_takeg 7 (by kernel_rfl) rfl rfl rfl rfl rfl (by repeat (first|exact Sel.all|exact Sel.none|exact Sel.hd|(apply Sel.one; · repeat (first|exact Pick.h|apply Pick.t|apply Pick.app))|apply Sel.app|(with_reducible apply Sel.grp; · repeat (first|exact PickF.h|apply PickF.t|apply PickF.a))|(with_reducible refine Sel.nilF (by with_unfolding_all rfl) ?_)|apply Sel.drop|apply Sel.dropF)) (eLenR ty30 rfl (hb3.sel (by repeat (first|exact Sel.all|exact Sel.none|exact Sel.hd|(apply Sel.one; · repeat (first|exact Pick.h|apply Pick.t|apply Pick.app))|apply Sel.app|(with_reducible apply Sel.grp; · repeat (first|exact PickF.h|apply PickF.t|apply PickF.a))|(with_reducible refine Sel.nilF (by with_unfolding_all rfl) ?_)|apply Sel.drop|apply Sel.dropF)))) ?_
                refine wa_takeg 9 (by kernel_rfl) rfl rfl rfl rfl rfl (by repeat (first|exact Sel.all|exact Sel.none|exact Sel.hd|(apply Sel.one; · repeat (first|exact Pick.h|apply Pick.t|apply Pick.app))|apply Sel.app|(with_reducible apply Sel.grp; · repeat (first|exact PickF.h|apply PickF.t|apply PickF.a))|(with_reducible refine Sel.nilF (by with_unfolding_all rfl) ?_)|apply Sel.drop|apply Sel.dropF)) (eMv rfl) ?_
                refine wa_takeg 10 (by kernel_rfl) rfl rfl rfl rfl rfl (by repeat (first|exact Sel.all|exact Sel.none|exact Sel.hd|(apply Sel.one; · repeat (first|exact Pick.h|apply Pick.t|apply Pick.app))|apply Sel.app|(with_reducible apply Sel.grp; · repeat (first|exact PickF.h|apply PickF.t|apply PickF.a))|(with_reducible refine Sel.nilF (by with_unfolding_all rfl) ?_)|apply Sel.drop|apply Sel.dropF)) (eNil rfl) ?_
                refine wa_takeg 11 (by kernel_rfl) rfl rfl rfl rfl rfl (by repeat (first|exact Sel.all|exact Sel.none|exact Sel.hd|(apply Sel.one; · repeat (first|exact Pick.h|apply Pick.t|apply Pick.app))|apply Sel.app|(with_reducible apply Sel.grp; · repeat (first|exact PickF.h|apply PickF.t|apply PickF.a))|(with_reducible refine Sel.nilF (by with_unfolding_all rfl) ?_)|apply Sel.drop|apply Sel.dropF)) (eFld 0 ty86 rfl rfl ty3 rfl) ?_
                refine wa_takeg 12 (by kernel_rfl) rfl rfl rfl rfl rfl (by repeat (first|exact Sel.all|exact Sel.none|exact Sel.hd|(apply Sel.one; · repeat (first|exact Pick.h|apply Pick.t|apply Pick.app))|apply Sel.app|(with_reducible apply Sel.grp; · repeat (first|exact PickF.h|apply PickF.t|apply PickF.a))|(with_reducible refine Sel.nilF (by with_unfolding_all rfl) ?_)|apply Sel.drop|apply Sel.dropF)) (eLd ty3 rfl rfl (by repeat (first|exact Has.h|apply Has.t|apply Has.app)) (by rfl)) ?_
                refine wa_all [5] (by kernel_rfl) rfl ⟨⟨_, rfl, .inr ⟨_, _, rfl, rfl⟩, ?_⟩, trivial⟩
                refine oC rfl pf62 rfl husd (by repeat (first|exact Sel.all|exact Sel.none|exact Sel.hd|(apply Sel.one; · repeat (first|exact Pick.h|apply Pick.t|apply Pick.app))|apply Sel.app|(with_reducible apply Sel.grp; · repeat (first|exact PickF.h|apply PickF.t|apply PickF.a))|(with_reducible refine Sel.nilF (by with_unfolding_all rfl) ?_)|apply Sel.drop|apply Sel.dropF)) ?_
                rintro _ _ ⟨rfl, rfl⟩
                refine ⟨(by repeat (first|exact Sel.all|exact Sel.none|exact Sel.hd|(apply Sel.one; · repeat (first|exact Pick.h|apply Pick.t|apply Pick.app))|apply Sel.app|(with_reducible apply Sel.grp; · repeat (first|exact PickF.h|apply PickF.t|apply PickF.a))|(with_reducible refine Sel.nilF (by with_unfolding_all rfl) ?_)|apply Sel.drop|apply Sel.dropF)), ?_⟩
                first | refine wa_takeg 8 (by kernel_rfl) rfl rfl rfl rfl rfl (by repeat (first|exact Sel.all|exact Sel.none|exact Sel.hd|(apply Sel.one; · repeat (first|exact Pick.h|apply Pick.t|apply Pick.app))|apply Sel.app|(with_reducible apply Sel.grp; · repeat (first|exact PickF.h|apply PickF.t|apply PickF.a))|(with_reducible refine Sel.nilF (by with_unfolding_all rfl) ?_)|apply Sel.drop|apply Sel.dropF)) (eAdd rfl rfl (by omega)) ?_ | refine wa_takeg 8 (by kernel_rfl) rfl rfl rfl rfl rfl (by repeat (first|exact Sel.all|exact Sel.none|exact Sel.hd|(apply Sel.one; · repeat (first|exact Pick.h|apply Pick.t|apply Pick.app))|apply Sel.app|(with_reducible apply Sel.grp; · repeat (first|exact PickF.h|apply PickF.t|apply PickF.a))|(with_reducible refine Sel.nilF (by with_unfolding_all rfl) ?_)|apply Sel.drop|apply Sel.dropF)) (eAddW rfl rfl) ?_
                refine wa_takegb 13 (by kernel_rfl) rfl rfl rfl rfl rfl (by repeat (first|exact Sel.all|exact Sel.none|exact Sel.hd|(apply Sel.one; · repeat (first|exact Pick.h|apply Pick.t|apply Pick.app))|apply Sel.app|(with_reducible apply Sel.grp; · repeat (first|exact PickF.h|apply PickF.t|apply PickF.a))|(with_reducible refine Sel.nilF (by with_unfolding_all rfl) ?_)|apply Sel.drop|apply Sel.dropF)) (eGt rfl rfl) fun t56 h56 => ?_
                refine wa_take 14 (by kernel_rfl) rfl rfl rfl rfl (by repeat (first|exact Sel.all|exact Sel.none|exact Sel.hd|(apply Sel.one; · repeat (first|exact Pick.h|apply Pick.t|apply Pick.app))|apply Sel.app|(with_reducible apply Sel.grp; · repeat (first|exact PickF.h|apply PickF.t|apply PickF.a))|(with_reducible refine Sel.nilF (by with_unfolding_all rfl) ?_)|apply Sel.drop|apply Sel.dropF)) (ePk rfl rfl) ?_
                refine wa_nil (by kernel_rfl) ?_
                cases t56 with
                | true =>
                 try have c_t56 := dt h56
                 first
                 | (exfalso; omega)
                 | (
                  refine wc_then rfl ?_
                  refine wc_seq ?_
                  refine wc_region ?_
                  refine wl rfl (OP.ev rfl rfl (eAs rfl) ?_)
                  refine wl_nil ?_
                  refine wc_ret ?_
                  apply at_ret rfl
                  · exact (.cons (.tmp rfl) .nil)
                  · first
                   | exact ⟨by rw [write_full (by omega) (by omega) (by omega)]; rfl, _, I2, hI2.trans hI1, by rw [write_full (by omega) (by omega) (by omega)]; exact hD0.sel (hI2.trans hI1), (rfl : rkC b d Lv av kp tr :: (ownH av acs 92 ++ (I2 ++ R)) = _)⟩
                   | exact ⟨by rw [write_err (by omega) (by omega)]; rfl, _, I1, hI1, by rw [write_err (by omega) (by omega)]; exact hD0.sel hI1, (rfl : rkC b d Lv av kp tr :: (ownH av acs 92 ++ (I1 ++ R)) = _)⟩
                   | exact ⟨by rw [write_arg (by omega) (by omega)]; rfl, _, I3, hI3.trans hI8, by rw [write_arg (by omega) (by omega)]; exact hD0.sel (hI3.trans hI8), (rfl : rkC b d Lv av kp tr :: (ownH av acs 92 ++ (I3 ++ R)) = _)⟩
                   | exact ⟨by rw [hw9]; unfold DK.writeA; rw [if_pos (by omega)]; rfl, _, I3, hS3, by rw [hw9]; unfold DK.writeA; rw [if_pos (by omega)]; exact hD0.sel hS3, (rfl : rkC b d Lv av kp tr :: (ownH av acs 92 ++ (I3 ++ R)) = _)⟩
                   | exact ⟨by rw [hw9]; unfold DK.writeA; rw [if_neg (by omega)]; rfl, D4, I4, (hI4.trans hsI).trans hS3, by rw [hw9]; unfold DK.writeA; rw [if_neg (by omega)]; exact hD4, rfl⟩
                  · exact (by repeat (first|exact Sel.all|exact Sel.none|exact Sel.hd|(apply Sel.one; · repeat (first|exact Pick.h|apply Pick.t|apply Pick.app))|apply Sel.app|(with_reducible apply Sel.grp; · repeat (first|exact PickF.h|apply PickF.t|apply PickF.a))|(with_reducible refine Sel.nilF (by with_unfolding_all rfl) ?_)|apply Sel.drop|apply Sel.dropF)))
                | false =>
                 try have c_t56 := df h56
                 first
                 | (exfalso; omega)
                 | (
                  refine wc_else rfl ?_
                  refine wc_skip ?_
                  refine wc_seq ?_
                  refine wc_region ?_
                  refine wl rfl (OP.ev rfl rfl (eMv rfl) ?_)
                  refine wl rfl (OP.ev rfl rfl (eMv rfl) ?_)
                  refine wl rfl (OP.ev rfl rfl (eMv rfl) ?_)
                  refine wl rfl (oBS0 rfl ty30 ty5 fun b61 => ?_)
                  refine wl rfl (OP.ev rfl rfl (eMv rfl) ?_)
                  refine wl rfl (oApp (m := B.length) (news := byteV B) rfl ty30 ty5 rfl rfl rfl (Row.mk (b := b61) (k := 0) (cap := 0) (cs := #[]) (sz := 1) (xs := []) (Nat.le_refl _) rfl rfl) (by repeat (first|exact At.cell|exact At.h|apply At.t|apply At.a)) (hb3.sel (by repeat (first|exact Sel.all|exact Sel.none|exact Sel.hd|(apply Sel.one; · repeat (first|exact Pick.h|apply Pick.t|apply Pick.app))|apply Sel.app|(with_reducible apply Sel.grp; · repeat (first|exact PickF.h|apply PickF.t|apply PickF.a))|(with_reducible refine Sel.nilF (by with_unfolding_all rfl) ?_)|apply Sel.drop|apply Sel.dropF))) (byteV_one _) (by omega) (by omega) ?_)
                  rintro v63 cs63 hrow63 hn63
                  rw [Nat.zero_add, List.nil_append] at hrow63
                  have hsI : Sel (ownH v63 cs63 5 ++ I3) I3 := Sel.dropF Sel.all
                  have hsp : d.used = ((total d.last + costs d.acts : Nat) : Int) := by unfold DK.used; rw [hmay.1]; rfl
                  have hadd := radd_ok (W0 := W0) (I := ownH v63 cs63 5 ++ I3) b d hd hmay.1 ⟨0, k, [], n, B⟩ v63 hcan (by show ((total d.last + costs d.acts + B.length : Nat) : Int) ≤ _; omega) ⟨may_len hmay.2, by simp⟩ (hrow63.rs (by repeat (first|exact At.cell|exact At.h|apply At.t|apply At.a))) hB _ R ((hD0.sel hS3).sel hsI) hn
                  simp only [List.cons_append, List.append_assoc] at hadd
                  refine wl rfl (OP.ev rfl rfl (eBuL (cells := [i64 0, strK k, strK [], i64 n, v63]) ty92 pl92 rfl (by have h9 := oneCell_of hrow63.one; simp only [fillL, h9]; rfl)) ?_)
                  refine wl rfl (oC rfl pf58 rfl hadd (by repeat (first|exact Sel.all|exact Sel.none|exact Sel.hd|(apply Sel.one; · repeat (first|exact Pick.h|apply Pick.t|apply Pick.app))|apply Sel.app|(with_reducible apply Sel.grp; · repeat (first|exact PickF.h|apply PickF.t|apply PickF.a))|(with_reducible refine Sel.nilF (by with_unfolding_all rfl) ?_)|apply Sel.drop|apply Sel.dropF)) ?_)
                  rintro _ _ ⟨rfl, D4, I4, hI4, hD4, rfl⟩
                  refine wl rfl (OP.ev rfl rfl (eAs rfl) ?_)
                  refine wl_nil ?_
                  refine wc_ret ?_
                  apply at_ret rfl
                  · exact (.cons (.tmp rfl) .nil)
                  · first
                   | exact ⟨by rw [write_full (by omega) (by omega) (by omega)]; rfl, _, I2, hI2.trans hI1, by rw [write_full (by omega) (by omega) (by omega)]; exact hD0.sel (hI2.trans hI1), (rfl : rkC b d Lv av kp tr :: (ownH av acs 92 ++ (I2 ++ R)) = _)⟩
                   | exact ⟨by rw [write_err (by omega) (by omega)]; rfl, _, I1, hI1, by rw [write_err (by omega) (by omega)]; exact hD0.sel hI1, (rfl : rkC b d Lv av kp tr :: (ownH av acs 92 ++ (I1 ++ R)) = _)⟩
                   | exact ⟨by rw [write_arg (by omega) (by omega)]; rfl, _, I3, hI3.trans hI8, by rw [write_arg (by omega) (by omega)]; exact hD0.sel (hI3.trans hI8), (rfl : rkC b d Lv av kp tr :: (ownH av acs 92 ++ (I3 ++ R)) = _)⟩
                   | exact ⟨by rw [hw9]; unfold DK.writeA; rw [if_pos (by omega)]; rfl, _, I3, hS3, by rw [hw9]; unfold DK.writeA; rw [if_pos (by omega)]; exact hD0.sel hS3, (rfl : rkC b d Lv av kp tr :: (ownH av acs 92 ++ (I3 ++ R)) = _)⟩
                   | exact ⟨by rw [hw9]; unfold DK.writeA; rw [if_neg (by omega)]; rfl, D4, I4, (hI4.trans hsI).trans hS3, by rw [hw9]; unfold DK.writeA; rw [if_neg (by omega)]; exact hD4, rfl⟩
                  · exact (by repeat (first|exact Sel.all|exact Sel.none|exact Sel.hd|(apply Sel.one; · repeat (first|exact Pick.h|apply Pick.t|apply Pick.app))|apply Sel.app|(with_reducible apply Sel.grp; · repeat (first|exact PickF.h|apply PickF.t|apply PickF.a))|(with_reducible refine Sel.nilF (by with_unfolding_all rfl) ?_)|apply Sel.drop|apply Sel.dropF)))))))))
    | false =>
     try have c_t19 := df h19
     first
     | (exfalso; omega)
     | (
      refine wc_else rfl ?_
      refine wc_skip ?_
      refine wc_seq ?_
      refine wc_seq ?_
      refine wc_region ?_
      refine wl rfl (OP.ev rfl rfl (eMv rfl) ?_)
      refine wl rfl (OP.evb rfl rfl (eNe rfl rfl) fun t26 h26 => ?_)
      refine wl_nil ?_
      cases t26 with
      | true =>
       try have c_t26 := dt h26
       first
       | (exfalso; omega)
       | (
        refine wc_then rfl ?_
        refine wc_seq ?_
        refine wc_region ?_
        refine wl rfl (OP.ev rfl rfl (eMv rfl) ?_)
        refine wl rfl (OP.ev rfl rfl (eAs rfl) ?_)
        refine wl_nil ?_
        refine wc_ret ?_
        apply at_ret rfl
        · exact (.cons (.tmp rfl) .nil)
        · first
         | exact ⟨by rw [write_full (by omega) (by omega) (by omega)]; rfl, _, I2, hI2.trans hI1, by rw [write_full (by omega) (by omega) (by omega)]; exact hD0.sel (hI2.trans hI1), (rfl : rkC b d Lv av kp tr :: (ownH av acs 92 ++ (I2 ++ R)) = _)⟩
         | exact ⟨by rw [write_err (by omega) (by omega)]; rfl, _, I1, hI1, by rw [write_err (by omega) (by omega)]; exact hD0.sel hI1, (rfl : rkC b d Lv av kp tr :: (ownH av acs 92 ++ (I1 ++ R)) = _)⟩
         | exact ⟨by rw [write_arg (by omega) (by omega)]; rfl, _, I3, hI3.trans hI8, by rw [write_arg (by omega) (by omega)]; exact hD0.sel (hI3.trans hI8), (rfl : rkC b d Lv av kp tr :: (ownH av acs 92 ++ (I3 ++ R)) = _)⟩
         | exact ⟨by rw [hw9]; unfold DK.writeA; rw [if_pos (by omega)]; rfl, _, I3, hS3, by rw [hw9]; unfold DK.writeA; rw [if_pos (by omega)]; exact hD0.sel hS3, (rfl : rkC b d Lv av kp tr :: (ownH av acs 92 ++ (I3 ++ R)) = _)⟩
         | exact ⟨by rw [hw9]; unfold DK.writeA; rw [if_neg (by omega)]; rfl, D4, I4, (hI4.trans hsI).trans hS3, by rw [hw9]; unfold DK.writeA; rw [if_neg (by omega)]; exact hD4, rfl⟩
        · exact (by repeat (first|exact Sel.all|exact Sel.none|exact Sel.hd|(apply Sel.one; · repeat (first|exact Pick.h|apply Pick.t|apply Pick.app))|apply Sel.app|(with_reducible apply Sel.grp; · repeat (first|exact PickF.h|apply PickF.t|apply PickF.a))|(with_reducible refine Sel.nilF (by with_unfolding_all rfl) ?_)|apply Sel.drop|apply Sel.dropF)))
      | false =>
       try have c_t26 := df h26
       first
       | (exfalso; omega)
       | (
        refine wc_else rfl ?_
        refine wc_skip ?_
        refine wc_seq ?_
        obtain ⟨I8, hI8e, hI8⟩ : ∃ I8, I8 = _ ∧ Sel I8 I := by first | exact ⟨I2, rfl, hI2.trans hI1⟩ | exact ⟨I1, rfl, hI1⟩
        subst hI8e
        refine wc_region ?_
        refine wl rfl (OP.ev rfl rfl (eMv rfl) ?_)
        refine wl rfl (oC rfl pf57 rfl (files_ok b d hd Lv av acs ax kp tr (hF.sel hI8) (hA.sel hI8) (by omega) _) (by repeat (first|exact Sel.all|exact Sel.none|exact Sel.hd|(apply Sel.one; · repeat (first|exact Pick.h|apply Pick.t|apply Pick.app))|apply Sel.app|(with_reducible apply Sel.grp; · repeat (first|exact PickF.h|apply PickF.t|apply PickF.a))|(with_reducible refine Sel.nilF (by with_unfolding_all rfl) ?_)|apply Sel.drop|apply Sel.dropF)) ?_)
        rintro v30 _ ⟨I3, hI3, hF3, rfl⟩
        refine wl rfl (OP.ev rfl rfl (eMv rfl) ?_)
        refine wl rfl (oC rfl pf56 rfl (get_ok _ d.seen k _ hF3 (by omega)) (by repeat (first|exact Sel.all|exact Sel.none|exact Sel.hd|(apply Sel.one; · repeat (first|exact Pick.h|apply Pick.t|apply Pick.app))|apply Sel.app|(with_reducible apply Sel.grp; · repeat (first|exact PickF.h|apply PickF.t|apply PickF.a))|(with_reducible refine Sel.nilF (by with_unfolding_all rfl) ?_)|apply Sel.drop|apply Sel.dropF)) ?_)
        rintro _ _ ⟨w, rfl, hw, hwB, rfl⟩
        refine wl rfl (OP.ev rfl rfl (eMv rfl) ?_)
        refine wl rfl (OP.ev rfl rfl (eExt rfl rfl) ?_)
        refine wl rfl (OP.ev rfl rfl (eExt rfl rfl) ?_)
        refine wl rfl (OP.ev rfl rfl (eAs rfl) ?_)
        refine wl rfl (OP.ev rfl rfl (eAs rfl) ?_)
        refine wl_nil ?_
        refine wc_seq ?_
        refine wc_seq ?_
        refine wc_region ?_
        refine wl rfl (OP.ev rfl rfl (eMv rfl) ?_)
        refine wl rfl (OP.evb rfl rfl (eLt rfl rfl) fun t36 h36 => ?_)
        refine wl rfl (OP.ev rfl rfl (eMv rfl) ?_)
        cases t36 with
        | true =>
         try have c_t36 := dt h36
         first
         | (exfalso; omega)
         | (
          refine wl_skip rfl rfl rfl rfl rfl ?_
          refine wl_skip rfl rfl rfl rfl rfl ?_
          refine wl_skip rfl rfl rfl rfl rfl ?_
          refine wl_skip rfl rfl rfl rfl rfl ?_
          refine wl rfl (OP.ev rfl rfl (ePk rfl rfl) ?_)
          refine wl_nil ?_
          refine wc_then rfl ?_
          refine wc_seq ?_
          refine wc_region ?_
          refine wl rfl (OP.ev rfl rfl (eAs rfl) ?_)
          refine wl_nil ?_
          refine wc_ret ?_
          apply at_ret rfl
          · exact (.cons (.tmp rfl) .nil)
          · first
           | exact ⟨by rw [write_full (by omega) (by omega) (by omega)]; rfl, _, I2, hI2.trans hI1, by rw [write_full (by omega) (by omega) (by omega)]; exact hD0.sel (hI2.trans hI1), (rfl : rkC b d Lv av kp tr :: (ownH av acs 92 ++ (I2 ++ R)) = _)⟩
           | exact ⟨by rw [write_err (by omega) (by omega)]; rfl, _, I1, hI1, by rw [write_err (by omega) (by omega)]; exact hD0.sel hI1, (rfl : rkC b d Lv av kp tr :: (ownH av acs 92 ++ (I1 ++ R)) = _)⟩
           | exact ⟨by rw [write_arg (by omega) (by omega)]; rfl, _, I3, hI3.trans hI8, by rw [write_arg (by omega) (by omega)]; exact hD0.sel (hI3.trans hI8), (rfl : rkC b d Lv av kp tr :: (ownH av acs 92 ++ (I3 ++ R)) = _)⟩
           | exact ⟨by rw [hw9]; unfold DK.writeA; rw [if_pos (by omega)]; rfl, _, I3, hS3, by rw [hw9]; unfold DK.writeA; rw [if_pos (by omega)]; exact hD0.sel hS3, (rfl : rkC b d Lv av kp tr :: (ownH av acs 92 ++ (I3 ++ R)) = _)⟩
           | exact ⟨by rw [hw9]; unfold DK.writeA; rw [if_neg (by omega)]; rfl, D4, I4, (hI4.trans hsI).trans hS3, by rw [hw9]; unfold DK.writeA; rw [if_neg (by omega)]; exact hD4, rfl⟩
          · exact (by repeat (first|exact Sel.all|exact Sel.none|exact Sel.hd|(apply Sel.one; · repeat (first|exact Pick.h|apply Pick.t|apply Pick.app))|apply Sel.app|(with_reducible apply Sel.grp; · repeat (first|exact PickF.h|apply PickF.t|apply PickF.a))|(with_reducible refine Sel.nilF (by with_unfolding_all rfl) ?_)|apply Sel.drop|apply Sel.dropF)))
        | false =>
         try have c_t36 := df h36
         first
         | (exfalso; omega)
         | (
          refine wl_go rfl rfl (OP.ev rfl rfl (eMv rfl) ?_)
          refine wl_go rfl rfl (OP.ev rfl rfl (eMv rfl) ?_)
          refine wl_go rfl rfl (OP.ev rfl rfl (eLenR ty30 rfl (hw.sel (by repeat (first|exact Sel.all|exact Sel.none|exact Sel.hd|(apply Sel.one; · repeat (first|exact Pick.h|apply Pick.t|apply Pick.app))|apply Sel.app|(with_reducible apply Sel.grp; · repeat (first|exact PickF.h|apply PickF.t|apply PickF.a))|(with_reducible refine Sel.nilF (by with_unfolding_all rfl) ?_)|apply Sel.drop|apply Sel.dropF)))) ?_)
          refine wl_go rfl rfl (OP.evb rfl rfl (eGt rfl rfl) fun t41 h41 => ?_)
          refine wl rfl (OP.ev rfl rfl (ePk rfl rfl) ?_)
          refine wl_nil ?_
          cases t41 with
          | true =>
           try have c_t41 := dt h41
           first
           | (exfalso; omega)
           | (
            refine wc_then rfl ?_
            refine wc_seq ?_
            refine wc_region ?_
            refine wl rfl (OP.ev rfl rfl (eAs rfl) ?_)
            refine wl_nil ?_
            refine wc_ret ?_
            apply at_ret rfl
            · exact (.cons (.tmp rfl) .nil)
            · first
             | exact ⟨by rw [write_full (by omega) (by omega) (by omega)]; rfl, _, I2, hI2.trans hI1, by rw [write_full (by omega) (by omega) (by omega)]; exact hD0.sel (hI2.trans hI1), (rfl : rkC b d Lv av kp tr :: (ownH av acs 92 ++ (I2 ++ R)) = _)⟩
             | exact ⟨by rw [write_err (by omega) (by omega)]; rfl, _, I1, hI1, by rw [write_err (by omega) (by omega)]; exact hD0.sel hI1, (rfl : rkC b d Lv av kp tr :: (ownH av acs 92 ++ (I1 ++ R)) = _)⟩
             | exact ⟨by rw [write_arg (by omega) (by omega)]; rfl, _, I3, hI3.trans hI8, by rw [write_arg (by omega) (by omega)]; exact hD0.sel (hI3.trans hI8), (rfl : rkC b d Lv av kp tr :: (ownH av acs 92 ++ (I3 ++ R)) = _)⟩
             | exact ⟨by rw [hw9]; unfold DK.writeA; rw [if_pos (by omega)]; rfl, _, I3, hS3, by rw [hw9]; unfold DK.writeA; rw [if_pos (by omega)]; exact hD0.sel hS3, (rfl : rkC b d Lv av kp tr :: (ownH av acs 92 ++ (I3 ++ R)) = _)⟩
             | exact ⟨by rw [hw9]; unfold DK.writeA; rw [if_neg (by omega)]; rfl, D4, I4, (hI4.trans hsI).trans hS3, by rw [hw9]; unfold DK.writeA; rw [if_neg (by omega)]; exact hD4, rfl⟩
            · exact (by repeat (first|exact Sel.all|exact Sel.none|exact Sel.hd|(apply Sel.one; · repeat (first|exact Pick.h|apply Pick.t|apply Pick.app))|apply Sel.app|(with_reducible apply Sel.grp; · repeat (first|exact PickF.h|apply PickF.t|apply PickF.a))|(with_reducible refine Sel.nilF (by with_unfolding_all rfl) ?_)|apply Sel.drop|apply Sel.dropF)))
          | false =>
           try have c_t41 := df h41
           first
           | (exfalso; omega)
           | (
            refine wc_else rfl ?_
            refine wc_skip ?_
            refine wc_seq ?_
            refine wc_seq ?_
            have hS3 : Sel I3 I := hI3.trans hI8
            have hb3 : Rs W0 (I3 ++ R) bv 1 B.length (byteV B) := hb.sel (hS3.appR R)
            have hw9 : d.write k n B = d.writeA k n B := by first | exact write_new (by omega) (by omega) (by omega) | exact write_old (by omega) (by omega)
            have hcan : CanDo d.seen ⟨0, k, [], n, B⟩ := by first | exact can_write hd (.inl ⟨by omega, by omega, by omega⟩) | exact can_write hd (.inr ⟨by omega, by omega, by omega⟩)
            have hmay : d.off = false ∧ may k = true := by first | exact ⟨(find_21 (d := d) (k := k) (by omega)).1, (find_21 (d := d) (k := k) (by omega)).2.1⟩ | exact ⟨(find_zero (d := d) (k := k) (by omega)).1, (find_zero (d := d) (k := k) (by omega)).2.1⟩
            have husd := rused_ok (W0 := W0) b d hd Lv av acs ax kp tr (hF.sel hS3) (hA.sel hS3) (by omega) R
            refine wc_draw (rkC b d Lv av kp tr :: (I3 ++ R)) rfl ?_
            refine wa_take 0 (by kernel_rfl) rfl rfl rfl rfl (by repeat (first|exact Sel.all|exact Sel.none|exact Sel.hd|(apply Sel.one; · repeat (first|exact Pick.h|apply Pick.t|apply Pick.app))|apply Sel.app|(with_reducible apply Sel.grp; · repeat (first|exact PickF.h|apply PickF.t|apply PickF.a))|(with_reducible refine Sel.nilF (by with_unfolding_all rfl) ?_)|apply Sel.drop|apply Sel.dropF)) (eMv rfl) ?_
            refine wa_take 1 (by kernel_rfl) rfl rfl rfl rfl (by repeat (first|exact Sel.all|exact Sel.none|exact Sel.hd|(apply Sel.one; · repeat (first|exact Pick.h|apply Pick.t|apply Pick.app))|apply Sel.app|(with_reducible apply Sel.grp; · repeat (first|exact PickF.h|apply PickF.t|apply PickF.a))|(with_reducible refine Sel.nilF (by with_unfolding_all rfl) ?_)|apply Sel.drop|apply Sel.dropF)) (eLenR ty30 rfl (hb3.sel (by repeat (first|exact Sel.all|exact Sel.none|exact Sel.hd|(apply Sel.one; · repeat (first|exact Pick.h|apply Pick.t|apply Pick.app))|apply Sel.app|(with_reducible apply Sel.grp; · repeat (first|exact PickF.h|apply PickF.t|apply PickF.a))|(with_reducible refine Sel.nilF (by with_unfolding_all rfl) ?_)|apply Sel.drop|apply Sel.dropF)))) ?_
            refine wa_takeb 2 (by kernel_rfl) rfl rfl rfl rfl (by repeat (first|exact Sel.all|exact Sel.none|exact Sel.hd|(apply Sel.one; · repeat (first|exact Pick.h|apply Pick.t|apply Pick.app))|apply Sel.app|(with_reducible apply Sel.grp; · repeat (first|exact PickF.h|apply PickF.t|apply PickF.a))|(with_reducible refine Sel.nilF (by with_unfolding_all rfl) ?_)|apply Sel.drop|apply Sel.dropF)) (eGt rfl rfl) fun t45 h45 => ?_
            refine wa_take 3 (by kernel_rfl) rfl rfl rfl rfl (by repeat (first|exact Sel.all|exact Sel.none|exact Sel.hd|(apply Sel.one; · repeat (first|exact Pick.h|apply Pick.t|apply Pick.app))|apply Sel.app|(with_reducible apply Sel.grp; · repeat (first|exact PickF.h|apply PickF.t|apply PickF.a))|(with_reducible refine Sel.nilF (by with_unfolding_all rfl) ?_)|apply Sel.drop|apply Sel.dropF)) (eMv rfl) ?_
            cases t45 with
            | true =>
             try have c_t45 := dt h45
             first
             | (exfalso; omega)
             | (
              refine wa_skip 4 (by kernel_rfl) rfl rfl rfl rfl rfl rfl (by repeat (first|exact Sel.all|exact Sel.none|exact Sel.hd|(apply Sel.one; · repeat (first|exact Pick.h|apply Pick.t|apply Pick.app))|apply Sel.app|(with_reducible apply Sel.grp; · repeat (first|exact PickF.h|apply PickF.t|apply PickF.a))|(with_reducible refine Sel.nilF (by with_unfolding_all rfl) ?_)|apply Sel.drop|apply Sel.dropF)) ?_
              refine wa_skip 5 (by kernel_rfl) rfl rfl rfl rfl rfl rfl (by repeat (first|exact Sel.all|exact Sel.none|exact Sel.hd|(apply Sel.one; · repeat (first|exact Pick.h|apply Pick.t|apply Pick.app))|apply Sel.app|(with_reducible apply Sel.grp; · repeat (first|exact PickF.h|apply PickF.t|apply PickF.a))|(with_reducible refine Sel.nilF (by with_unfolding_all rfl) ?_)|apply Sel.drop|apply Sel.dropF)) ?_
              refine wa_skip 6 (by kernel_rfl) rfl rfl rfl rfl rfl rfl (by repeat (first|exact Sel.all|exact Sel.none|exact Sel.hd|(apply Sel.one; · repeat (first|exact Pick.h|apply Pick.t|apply Pick.app))|apply Sel.app|(with_reducible apply Sel.grp; · repeat (first|exact PickF.h|apply PickF.t|apply PickF.a))|(with_reducible refine Sel.nilF (by with_unfolding_all rfl) ?_)|apply Sel.drop|apply Sel.dropF)) ?_
              refine wa_skip 7 (by kernel_rfl) rfl rfl rfl rfl rfl rfl (by repeat (first|exact Sel.all|exact Sel.none|exact Sel.hd|(apply Sel.one; · repeat (first|exact Pick.h|apply Pick.t|apply Pick.app))|apply Sel.app|(with_reducible apply Sel.grp; · repeat (first|exact PickF.h|apply PickF.t|apply PickF.a))|(with_reducible refine Sel.nilF (by with_unfolding_all rfl) ?_)|apply Sel.drop|apply Sel.dropF)) ?_
              refine wa_skip 8 (by kernel_rfl) rfl rfl rfl rfl rfl rfl (by repeat (first|exact Sel.all|exact Sel.none|exact Sel.hd|(apply Sel.one; · repeat (first|exact Pick.h|apply Pick.t|apply Pick.app))|apply Sel.app|(with_reducible apply Sel.grp; · repeat (first|exact PickF.h|apply PickF.t|apply PickF.a))|(with_reducible refine Sel.nilF (by with_unfolding_all rfl) ?_)|apply Sel.drop|apply Sel.dropF)) ?_
              refine wa_skip 9 (by kernel_rfl) rfl rfl rfl rfl rfl rfl (by repeat (first|exact Sel.all|exact Sel.none|exact Sel.hd|(apply Sel.one; · repeat (first|exact Pick.h|apply Pick.t|apply Pick.app))|apply Sel.app|(with_reducible apply Sel.grp; · repeat (first|exact PickF.h|apply PickF.t|apply PickF.a))|(with_reducible refine Sel.nilF (by with_unfolding_all rfl) ?_)|apply Sel.drop|apply Sel.dropF)) ?_
              refine wa_skip 10 (by kernel_rfl) rfl rfl rfl rfl rfl rfl (by repeat (first|exact Sel.all|exact Sel.none|exact Sel.hd|(apply Sel.one; · repeat (first|exact Pick.h|apply Pick.t|apply Pick.app))|apply Sel.app|(with_reducible apply Sel.grp; · repeat (first|exact PickF.h|apply PickF.t|apply PickF.a))|(with_reducible refine Sel.nilF (by with_unfolding_all rfl) ?_)|apply Sel.drop|apply Sel.dropF)) ?_
              refine wa_skip 11 (by kernel_rfl) rfl rfl rfl rfl rfl rfl (by repeat (first|exact Sel.all|exact Sel.none|exact Sel.hd|(apply Sel.one; · repeat (first|exact Pick.h|apply Pick.t|apply Pick.app))|apply Sel.app|(with_reducible apply Sel.grp; · repeat (first|exact PickF.h|apply PickF.t|apply PickF.a))|(with_reducible refine Sel.nilF (by with_unfolding_all rfl) ?_)|apply Sel.drop|apply Sel.dropF)) ?_
              refine wa_skip 12 (by kernel_rfl) rfl rfl rfl rfl rfl rfl (by repeat (first|exact Sel.all|exact Sel.none|exact Sel.hd|(apply Sel.one; · repeat (first|exact Pick.h|apply Pick.t|apply Pick.app))|apply Sel.app|(with_reducible apply Sel.grp; · repeat (first|exact PickF.h|apply PickF.t|apply PickF.a))|(with_reducible refine Sel.nilF (by with_unfolding_all rfl) ?_)|apply Sel.drop|apply Sel.dropF)) ?_
              refine wa_skip 13 (by kernel_rfl) rfl rfl rfl rfl rfl rfl (by repeat (first|exact Sel.all|exact Sel.none|exact Sel.hd|(apply Sel.one; · repeat (first|exact Pick.h|apply Pick.t|apply Pick.app))|apply Sel.app|(with_reducible apply Sel.grp; · repeat (first|exact PickF.h|apply PickF.t|apply PickF.a))|(with_reducible refine Sel.nilF (by with_unfolding_all rfl) ?_)|apply Sel.drop|apply Sel.dropF)) ?_
              refine wa_take 14 (by kernel_rfl) rfl rfl rfl rfl (by repeat (first|exact Sel.all|exact Sel.none|exact Sel.hd|(apply Sel.one; · repeat (first|exact Pick.h|apply Pick.t|apply Pick.app))|apply Sel.app|(with_reducible apply Sel.grp; · repeat (first|exact PickF.h|apply PickF.t|apply PickF.a))|(with_reducible refine Sel.nilF (by with_unfolding_all rfl) ?_)|apply Sel.drop|apply Sel.dropF)) (ePk rfl rfl) ?_
              refine wa_nil (by kernel_rfl) ?_
              refine wc_then rfl ?_
              refine wc_seq ?_
              refine wc_region ?_
              refine wl rfl (OP.ev rfl rfl (eAs rfl) ?_)
              refine wl_nil ?_
              refine wc_ret ?_
              apply at_ret rfl
              · exact (.cons (.tmp rfl) .nil)
              · first
               | exact ⟨by rw [write_full (by omega) (by omega) (by omega)]; rfl, _, I2, hI2.trans hI1, by rw [write_full (by omega) (by omega) (by omega)]; exact hD0.sel (hI2.trans hI1), (rfl : rkC b d Lv av kp tr :: (ownH av acs 92 ++ (I2 ++ R)) = _)⟩
               | exact ⟨by rw [write_err (by omega) (by omega)]; rfl, _, I1, hI1, by rw [write_err (by omega) (by omega)]; exact hD0.sel hI1, (rfl : rkC b d Lv av kp tr :: (ownH av acs 92 ++ (I1 ++ R)) = _)⟩
               | exact ⟨by rw [write_arg (by omega) (by omega)]; rfl, _, I3, hI3.trans hI8, by rw [write_arg (by omega) (by omega)]; exact hD0.sel (hI3.trans hI8), (rfl : rkC b d Lv av kp tr :: (ownH av acs 92 ++ (I3 ++ R)) = _)⟩
               | exact ⟨by rw [hw9]; unfold DK.writeA; rw [if_pos (by omega)]; rfl, _, I3, hS3, by rw [hw9]; unfold DK.writeA; rw [if_pos (by omega)]; exact hD0.sel hS3, (rfl : rkC b d Lv av kp tr :: (ownH av acs 92 ++ (I3 ++ R)) = _)⟩
               | exact ⟨by rw [hw9]; unfold DK.writeA; rw [if_neg (by omega)]; rfl, D4, I4, (hI4.trans hsI).trans hS3, by rw [hw9]; unfold DK.writeA; rw [if_neg (by omega)]; exact hD4, rfl⟩
              · exact (by repeat (first|exact Sel.all|exact Sel.none|exact Sel.hd|(apply Sel.one; · repeat (first|exact Pick.h|apply Pick.t|apply Pick.app))|apply Sel.app|(with_reducible apply Sel.grp; · repeat (first|exact PickF.h|apply PickF.t|apply PickF.a))|(with_reducible refine Sel.nilF (by with_unfolding_all rfl) ?_)|apply Sel.drop|apply Sel.dropF)))
            | false =>
             try have c_t45 := df h45
             first
             | (exfalso; omega)
             | (
              refine wa_takeg 4 (by kernel_rfl) rfl rfl rfl rfl rfl (by repeat (first|exact Sel.all|exact Sel.none|exact Sel.hd|(apply Sel.one; · repeat (first|exact Pick.h|apply Pick.t|apply Pick.app))|apply Sel.app|(with_reducible apply Sel.grp; · repeat (first|exact PickF.h|apply PickF.t|apply PickF.a))|(with_reducible refine Sel.nilF (by with_unfolding_all rfl) ?_)|apply Sel.drop|apply Sel.dropF)) (eMv rfl) ?_
              refine wa_takeg 6 (by kernel_rfl) rfl rfl rfl rfl rfl (by repeat (first|exact Sel.all|exact Sel.none|exact Sel.hd|(apply Sel.one; · repeat (first|exact Pick.h|apply Pick.t|apply Pick.app))|apply Sel.app|(with_reducible apply Sel.grp; · repeat (first|exact PickF.h|apply PickF.t|apply PickF.a))|(with_reducible refine Sel.nilF (by with_unfolding_all rfl) ?_)|apply Sel.drop|apply Sel.dropF)) (eMv rfl) ?_
              refine wa_takeg 7 (by kernel_rfl) rfl rfl rfl rfl rfl (by repeat (first|exact Sel.all|exact Sel.none|exact Sel.hd|(apply Sel.one; · repeat (first|exact Pick.h|apply Pick.t|apply Pick.app))|apply Sel.app|(with_reducible apply Sel.grp; · repeat (first|exact PickF.h|apply PickF.t|apply PickF.a))|(with_reducible refine Sel.nilF (by with_unfolding_all rfl) ?_)|apply Sel.drop|apply Sel.dropF)) (eLenR ty30 rfl (hb3.sel (by repeat (first|exact Sel.all|exact Sel.none|exact Sel.hd|(apply Sel.one; · repeat (first|exact Pick.h|apply Pick.t|apply Pick.app))|apply Sel.app|(with_reducible apply Sel.grp; · repeat (first|exact PickF.h|apply PickF.t|apply PickF.a))|(with_reducible refine Sel.nilF (by with_unfolding_all rfl) ?_)|apply Sel.drop|apply Sel.dropF)))) ?_
              refine wa_takeg 9 (by kernel_rfl) rfl rfl rfl rfl rfl (by repeat (first|exact Sel.all|exact Sel.none|exact Sel.hd|(apply Sel.one; · repeat (first|exact Pick.h|apply Pick.t|apply Pick.app))|apply Sel.app|(with_reducible apply Sel.grp; · repeat (first|exact PickF.h|apply PickF.t|apply PickF.a))|(with_reducible refine Sel.nilF (by with_unfolding_all rfl) ?_)|apply Sel.drop|apply Sel.dropF)) (eMv rfl) ?_
              refine wa_takeg 10 (by kernel_rfl) rfl rfl rfl rfl rfl (by repeat (first|exact Sel.all|exact Sel.none|exact Sel.hd|(apply Sel.one; · repeat (first|exact Pick.h|apply Pick.t|apply Pick.app))|apply Sel.app|(with_reducible apply Sel.grp; · repeat (first|exact PickF.h|apply PickF.t|apply PickF.a))|(with_reducible refine Sel.nilF (by with_unfolding_all rfl) ?_)|apply Sel.drop|apply Sel.dropF)) (eNil rfl) ?_
              refine wa_takeg 11 (by kernel_rfl) rfl rfl rfl rfl rfl (by repeat (first|exact Sel.all|exact Sel.none|exact Sel.hd|(apply Sel.one; · repeat (first|exact Pick.h|apply Pick.t|apply Pick.app))|apply Sel.app|(with_reducible apply Sel.grp; · repeat (first|exact PickF.h|apply PickF.t|apply PickF.a))|(with_reducible refine Sel.nilF (by with_unfolding_all rfl) ?_)|apply Sel.drop|apply Sel.dropF)) (eFld 0 ty86 rfl rfl ty3 rfl) ?_
              refine wa_takeg 12 (by kernel_rfl) rfl rfl rfl rfl rfl (by repeat (first|exact Sel.all|exact Sel.none|exact Sel.hd|(apply Sel.one; · repeat (first|exact Pick.h|apply Pick.t|apply Pick.app))|apply Sel.app|(with_reducible apply Sel.grp; · repeat (first|exact PickF.h|apply PickF.t|apply PickF.a))|(with_reducible refine Sel.nilF (by with_unfolding_all rfl) ?_)|apply Sel.drop|apply Sel.dropF)) (eLd ty3 rfl rfl (by repeat (first|exact Has.h|apply Has.t|apply Has.app)) (by rfl)) ?_
              refine wa_all [5] (by kernel_rfl) rfl ⟨⟨_, rfl, .inr ⟨_, _, rfl, rfl⟩, ?_⟩, trivial⟩
              refine oC rfl pf62 rfl husd (by repeat (first|exact Sel.all|exact Sel.none|exact Sel.hd|(apply Sel.one; · repeat (first|exact Pick.h|apply Pick.t|apply Pick.app))|apply Sel.app|(with_reducible apply Sel.grp; · repeat (first|exact PickF.h|apply PickF.t|apply PickF.a))|(with_reducible refine Sel.nilF (by with_unfolding_all rfl) ?_)|apply Sel.drop|apply Sel.dropF)) ?_
              rintro _ _ ⟨rfl, rfl⟩
              refine ⟨(by repeat (first|exact Sel.all|exact Sel.none|exact Sel.hd|(apply Sel.one; · repeat (first|exact Pick.h|apply Pick.t|apply Pick.app))|apply Sel.app|(with_reducible apply Sel.grp; · repeat (first|exact PickF.h|apply PickF.t|apply PickF.a))|(with_reducible refine Sel.nilF (by with_unfolding_all rfl) ?_)|apply Sel.drop|apply Sel.dropF)), ?_⟩
              first | refine wa_takeg 8 (by kernel_rfl) rfl rfl rfl rfl rfl (by repeat (first|exact Sel.all|exact Sel.none|exact Sel.hd|(apply Sel.one; · repeat (first|exact Pick.h|apply Pick.t|apply Pick.app))|apply Sel.app|(with_reducible apply Sel.grp; · repeat (first|exact PickF.h|apply PickF.t|apply PickF.a))|(with_reducible refine Sel.nilF (by with_unfolding_all rfl) ?_)|apply Sel.drop|apply Sel.dropF)) (eAdd rfl rfl (by omega)) ?_ | refine wa_takeg 8 (by kernel_rfl) rfl rfl rfl rfl rfl (by repeat (first|exact Sel.all|exact Sel.none|exact Sel.hd|(apply Sel.one; · repeat (first|exact Pick.h|apply Pick.t|apply Pick.app))|apply Sel.app|(with_reducible apply Sel.grp; · repeat (first|exact PickF.h|apply PickF.t|apply PickF.a))|(with_reducible refine Sel.nilF (by with_unfolding_all rfl) ?_)|apply Sel.drop|apply Sel.dropF)) (eAddW rfl rfl) ?_
              refine wa_takegb 13 (by kernel_rfl) rfl rfl rfl rfl rfl (by repeat (first|exact Sel.all|exact Sel.none|exact Sel.hd|(apply Sel.one; · repeat (first|exact Pick.h|apply Pick.t|apply Pick.app))|apply Sel.app|(with_reducible apply Sel.grp; · repeat (first|exact PickF.h|apply PickF.t|apply PickF.a))|(with_reducible refine Sel.nilF (by with_unfolding_all rfl) ?_)|apply Sel.drop|apply Sel.dropF)) (eGt rfl rfl) fun t56 h56 => ?_
              refine wa_take 14 (by kernel_rfl) rfl rfl rfl rfl (by repeat (first|exact Sel.all|exact Sel.none|exact Sel.hd|(apply Sel.one; · repeat (first|exact Pick.h|apply Pick.t|apply Pick.app))|apply Sel.app|(with_reducible apply Sel.grp; · repeat (first|exact PickF.h|apply PickF.t|apply PickF.a))|(with_reducible refine Sel.nilF (by with_unfolding_all rfl) ?_)|apply Sel.drop|apply Sel.dropF)) (ePk rfl rfl) ?_
              refine wa_nil (by kernel_rfl) ?_
              cases t56 with
              | true =>
               try have c_t56 := dt h56
               first
               | (exfalso; omega)
               | (
                refine wc_then rfl ?_
                refine wc_seq ?_
                refine wc_region ?_
                refine wl rfl (OP.ev rfl rfl (eAs rfl) ?_)
                refine wl_nil ?_
                refine wc_ret ?_
                apply at_ret rfl
                · exact (.cons (.tmp rfl) .nil)
                · first
                 | exact ⟨by rw [write_full (by omega) (by omega) (by omega)]; rfl, _, I2, hI2.trans hI1, by rw [write_full (by omega) (by omega) (by omega)]; exact hD0.sel (hI2.trans hI1), (rfl : rkC b d Lv av kp tr :: (ownH av acs 92 ++ (I2 ++ R)) = _)⟩
                 | exact ⟨by rw [write_err (by omega) (by omega)]; rfl, _, I1, hI1, by rw [write_err (by omega) (by omega)]; exact hD0.sel hI1, (rfl : rkC b d Lv av kp tr :: (ownH av acs 92 ++ (I1 ++ R)) = _)⟩
                 | exact ⟨by rw [write_arg (by omega) (by omega)]; rfl, _, I3, hI3.trans hI8, by rw [write_arg (by omega) (by omega)]; exact hD0.sel (hI3.trans hI8), (rfl : rkC b d Lv av kp tr :: (ownH av acs 92 ++ (I3 ++ R)) = _)⟩
                 | exact ⟨by rw [hw9]; unfold DK.writeA; rw [if_pos (by omega)]; rfl, _, I3, hS3, by rw [hw9]; unfold DK.writeA; rw [if_pos (by omega)]; exact hD0.sel hS3, (rfl : rkC b d Lv av kp tr :: (ownH av acs 92 ++ (I3 ++ R)) = _)⟩
                 | exact ⟨by rw [hw9]; unfold DK.writeA; rw [if_neg (by omega)]; rfl, D4, I4, (hI4.trans hsI).trans hS3, by rw [hw9]; unfold DK.writeA; rw [if_neg (by omega)]; exact hD4, rfl⟩
                · exact (by repeat (first|exact Sel.all|exact Sel.none|exact Sel.hd|(apply Sel.one; · repeat (first|exact Pick.h|apply Pick.t|apply Pick.app))|apply Sel.app|(with_reducible apply Sel.grp; · repeat (first|exact PickF.h|apply PickF.t|apply PickF.a))|(with_reducible refine Sel.nilF (by with_unfolding_all rfl) ?_)|apply Sel.drop|apply Sel.dropF)))
              | false =>
               try have c_t56 := df h56
               first
               | (exfalso; omega)
               | (
                refine wc_else rfl ?_
                refine wc_skip ?_
                refine wc_seq ?_
                refine wc_region ?_
                refine wl rfl (OP.ev rfl rfl (eMv rfl) ?_)
                refine wl rfl (OP.ev rfl rfl (eMv rfl) ?_)
                refine wl rfl (OP.ev rfl rfl (eMv rfl) ?_)
                refine wl rfl (oBS0 rfl ty30 ty5 fun b61 => ?_)
                refine wl rfl (OP.ev rfl rfl (eMv rfl) ?_)
                refine wl rfl (oApp (m := B.length) (news := byteV B) rfl ty30 ty5 rfl rfl rfl (Row.mk (b := b61) (k := 0) (cap := 0) (cs := #[]) (sz := 1) (xs := []) (Nat.le_refl _) rfl rfl) (by repeat (first|exact At.cell|exact At.h|apply At.t|apply At.a)) (hb3.sel (by repeat (first|exact Sel.all|exact Sel.none|exact Sel.hd|(apply Sel.one; · repeat (first|exact Pick.h|apply Pick.t|apply Pick.app))|apply Sel.app|(with_reducible apply Sel.grp; · repeat (first|exact PickF.h|apply PickF.t|apply PickF.a))|(with_reducible refine Sel.nilF (by with_unfolding_all rfl) ?_)|apply Sel.drop|apply Sel.dropF))) (byteV_one _) (by omega) (by omega) ?_)
                rintro v63 cs63 hrow63 hn63
                rw [Nat.zero_add, List.nil_append] at hrow63
                have hsI : Sel (ownH v63 cs63 5 ++ I3) I3 := Sel.dropF Sel.all
                have hsp : d.used = ((total d.last + costs d.acts : Nat) : Int) := by unfold DK.used; rw [hmay.1]; rfl
                have hadd := radd_ok (W0 := W0) (I := ownH v63 cs63 5 ++ I3) b d hd hmay.1 ⟨0, k, [], n, B⟩ v63 hcan (by show ((total d.last + costs d.acts + B.length : Nat) : Int) ≤ _; omega) ⟨may_len hmay.2, by simp⟩ (hrow63.rs (by repeat (first|exact At.cell|exact At.h|apply At.t|apply At.a))) hB _ R ((hD0.sel hS3).sel hsI) hn
                simp only [List.cons_append, List.append_assoc] at hadd
                refine wl rfl (OP.ev rfl rfl (eBuL (cells := [i64 0, strK k, strK [], i64 n, v63]) ty92 pl92 rfl (by have h9 := oneCell_of hrow63.one; simp only [fillL, h9]; rfl)) ?_)
                refine wl rfl (oC rfl pf58 rfl hadd (by repeat (first|exact Sel.all|exact Sel.none|exact Sel.hd|(apply Sel.one; · repeat (first|exact Pick.h|apply Pick.t|apply Pick.app))|apply Sel.app|(with_reducible apply Sel.grp; · repeat (first|exact PickF.h|apply PickF.t|apply PickF.a))|(with_reducible refine Sel.nilF (by with_unfolding_all rfl) ?_)|apply Sel.drop|apply Sel.dropF)) ?_)
                rintro _ _ ⟨rfl, D4, I4, hI4, hD4, rfl⟩
                refine wl rfl (OP.ev rfl rfl (eAs rfl) ?_)
                refine wl_nil ?_
                refine wc_ret ?_
                apply at_ret rfl
                · exact (.cons (.tmp rfl) .nil)
                · first
                 | exact ⟨by rw [write_full (by omega) (by omega) (by omega)]; rfl, _, I2, hI2.trans hI1, by rw [write_full (by omega) (by omega) (by omega)]; exact hD0.sel (hI2.trans hI1), (rfl : rkC b d Lv av kp tr :: (ownH av acs 92 ++ (I2 ++ R)) = _)⟩
                 | exact ⟨by rw [write_err (by omega) (by omega)]; rfl, _, I1, hI1, by rw [write_err (by omega) (by omega)]; exact hD0.sel hI1, (rfl : rkC b d Lv av kp tr :: (ownH av acs 92 ++ (I1 ++ R)) = _)⟩
                 | exact ⟨by rw [write_arg (by omega) (by omega)]; rfl, _, I3, hI3.trans hI8, by rw [write_arg (by omega) (by omega)]; exact hD0.sel (hI3.trans hI8), (rfl : rkC b d Lv av kp tr :: (ownH av acs 92 ++ (I3 ++ R)) = _)⟩
                 | exact ⟨by rw [hw9]; unfold DK.writeA; rw [if_pos (by omega)]; rfl, _, I3, hS3, by rw [hw9]; unfold DK.writeA; rw [if_pos (by omega)]; exact hD0.sel hS3, (rfl : rkC b d Lv av kp tr :: (ownH av acs 92 ++ (I3 ++ R)) = _)⟩
                 | exact ⟨by rw [hw9]; unfold DK.writeA; rw [if_neg (by omega)]; rfl, D4, I4, (hI4.trans hsI).trans hS3, by rw [hw9]; unfold DK.writeA; rw [if_neg (by omega)]; exact hD4, rfl⟩
                · exact (by repeat (first|exact Sel.all|exact Sel.none|exact Sel.hd|(apply Sel.one; · repeat (first|exact Pick.h|apply Pick.t|apply Pick.app))|apply Sel.app|(with_reducible apply Sel.grp; · repeat (first|exact PickF.h|apply PickF.t|apply PickF.a))|(with_reducible refine Sel.nilF (by with_unfolding_all rfl) ?_)|apply Sel.drop|apply Sel.dropF)))))))))
  | false =>
   try have c_t16 := df h16
   first
   | (exfalso; omega)
   | (
    refine wl_skip rfl rfl rfl rfl rfl ?_
    refine wl_skip rfl rfl rfl rfl rfl ?_
    refine wl rfl (OP.ev rfl rfl (ePk rfl rfl) ?_)
    refine wl_nil ?_
    refine wc_else rfl ?_
    refine wc_skip ?_
    refine wc_seq ?_
    refine wc_seq ?_
    refine wc_region ?_
    refine wl rfl (OP.ev rfl rfl (eMv rfl) ?_)
    refine wl rfl (OP.evb rfl rfl (eNe rfl rfl) fun t26 h26 => ?_)
    refine wl_nil ?_
    cases t26 with
    | true =>
     try have c_t26 := dt h26
     first
     | (exfalso; omega)
     | (
      refine wc_then rfl ?_
      refine wc_seq ?_
      refine wc_region ?_
      refine wl rfl (OP.ev rfl rfl (eMv rfl) ?_)
      refine wl rfl (OP.ev rfl rfl (eAs rfl) ?_)
      refine wl_nil ?_
      refine wc_ret ?_
      apply at_ret rfl
      · exact (.cons (.tmp rfl) .nil)
      · first
       | exact ⟨by rw [write_full (by omega) (by omega) (by omega)]; rfl, _, I2, hI2.trans hI1, by rw [write_full (by omega) (by omega) (by omega)]; exact hD0.sel (hI2.trans hI1), (rfl : rkC b d Lv av kp tr :: (ownH av acs 92 ++ (I2 ++ R)) = _)⟩
       | exact ⟨by rw [write_err (by omega) (by omega)]; rfl, _, I1, hI1, by rw [write_err (by omega) (by omega)]; exact hD0.sel hI1, (rfl : rkC b d Lv av kp tr :: (ownH av acs 92 ++ (I1 ++ R)) = _)⟩
       | exact ⟨by rw [write_arg (by omega) (by omega)]; rfl, _, I3, hI3.trans hI8, by rw [write_arg (by omega) (by omega)]; exact hD0.sel (hI3.trans hI8), (rfl : rkC b d Lv av kp tr :: (ownH av acs 92 ++ (I3 ++ R)) = _)⟩
       | exact ⟨by rw [hw9]; unfold DK.writeA; rw [if_pos (by omega)]; rfl, _, I3, hS3, by rw [hw9]; unfold DK.writeA; rw [if_pos (by omega)]; exact hD0.sel hS3, (rfl : rkC b d Lv av kp tr :: (ownH av acs 92 ++ (I3 ++ R)) = _)⟩
       | exact ⟨by rw [hw9]; unfold DK.writeA; rw [if_neg (by omega)]; rfl, D4, I4, (hI4.trans hsI).trans hS3, by rw [hw9]; unfold DK.writeA; rw [if_neg (by omega)]; exact hD4, rfl⟩
      · exact (by repeat (first|exact Sel.all|exact Sel.none|exact Sel.hd|(apply Sel.one; · repeat (first|exact Pick.h|apply Pick.t|apply Pick.app))|apply Sel.app|(with_reducible apply Sel.grp; · repeat (first|exact PickF.h|apply PickF.t|apply PickF.a))|(with_reducible refine Sel.nilF (by with_unfolding_all rfl) ?_)|apply Sel.drop|apply Sel.dropF)))
    | false =>
     try have c_t26 := df h26
     first
     | (exfalso; omega)
     | (
      refine wc_else rfl ?_
      refine wc_skip ?_
      refine wc_seq ?_
      obtain ⟨I8, hI8e, hI8⟩ : ∃ I8, I8 = _ ∧ Sel I8 I := by first | exact ⟨I2, rfl, hI2.trans hI1⟩ | exact ⟨I1, rfl, hI1⟩
      subst hI8e
      refine wc_region ?_
      refine wl rfl (OP.ev rfl rfl (eMv rfl) ?_)
      refine wl rfl (oC rfl pf57 rfl (files_ok b d hd Lv av acs ax kp tr (hF.sel hI8) (hA.sel hI8) (by omega) _) (by repeat (first|exact Sel.all|exact Sel.none|exact Sel.hd|(apply Sel.one; · repeat (first|exact Pick.h|apply Pick.t|apply Pick.app))|apply Sel.app|(with_reducible apply Sel.grp; · repeat (first|exact PickF.h|apply PickF.t|apply PickF.a))|(with_reducible refine Sel.nilF (by with_unfolding_all rfl) ?_)|apply Sel.drop|apply Sel.dropF)) ?_)
      rintro v30 _ ⟨I3, hI3, hF3, rfl⟩
      refine wl rfl (OP.ev rfl rfl (eMv rfl) ?_)
      refine wl rfl (oC rfl pf56 rfl (get_ok _ d.seen k _ hF3 (by omega)) (by repeat (first|exact Sel.all|exact Sel.none|exact Sel.hd|(apply Sel.one; · repeat (first|exact Pick.h|apply Pick.t|apply Pick.app))|apply Sel.app|(with_reducible apply Sel.grp; · repeat (first|exact PickF.h|apply PickF.t|apply PickF.a))|(with_reducible refine Sel.nilF (by with_unfolding_all rfl) ?_)|apply Sel.drop|apply Sel.dropF)) ?_)
      rintro _ _ ⟨w, rfl, hw, hwB, rfl⟩
      refine wl rfl (OP.ev rfl rfl (eMv rfl) ?_)
      refine wl rfl (OP.ev rfl rfl (eExt rfl rfl) ?_)
      refine wl rfl (OP.ev rfl rfl (eExt rfl rfl) ?_)
      refine wl rfl (OP.ev rfl rfl (eAs rfl) ?_)
      refine wl rfl (OP.ev rfl rfl (eAs rfl) ?_)
      refine wl_nil ?_
      refine wc_seq ?_
      refine wc_seq ?_
      refine wc_region ?_
      refine wl rfl (OP.ev rfl rfl (eMv rfl) ?_)
      refine wl rfl (OP.evb rfl rfl (eLt rfl rfl) fun t36 h36 => ?_)
      refine wl rfl (OP.ev rfl rfl (eMv rfl) ?_)
      cases t36 with
      | true =>
       try have c_t36 := dt h36
       first
       | (exfalso; omega)
       | (
        refine wl_skip rfl rfl rfl rfl rfl ?_
        refine wl_skip rfl rfl rfl rfl rfl ?_
        refine wl_skip rfl rfl rfl rfl rfl ?_
        refine wl_skip rfl rfl rfl rfl rfl ?_
        refine wl rfl (OP.ev rfl rfl (ePk rfl rfl) ?_)
        refine wl_nil ?_
        refine wc_then rfl ?_
        refine wc_seq ?_
        refine wc_region ?_
        refine wl rfl (OP.ev rfl rfl (eAs rfl) ?_)
        refine wl_nil ?_
        refine wc_ret ?_
        apply at_ret rfl
        · exact (.cons (.tmp rfl) .nil)
        · first
         | exact ⟨by rw [write_full (by omega) (by omega) (by omega)]; rfl, _, I2, hI2.trans hI1, by rw [write_full (by omega) (by omega) (by omega)]; exact hD0.sel (hI2.trans hI1), (rfl : rkC b d Lv av kp tr :: (ownH av acs 92 ++ (I2 ++ R)) = _)⟩
         | exact ⟨by rw [write_err (by omega) (by omega)]; rfl, _, I1, hI1, by rw [write_err (by omega) (by omega)]; exact hD0.sel hI1, (rfl : rkC b d Lv av kp tr :: (ownH av acs 92 ++ (I1 ++ R)) = _)⟩
         | exact ⟨by rw [write_arg (by omega) (by omega)]; rfl, _, I3, hI3.trans hI8, by rw [write_arg (by omega) (by omega)]; exact hD0.sel (hI3.trans hI8), (rfl : rkC b d Lv av kp tr :: (ownH av acs 92 ++ (I3 ++ R)) = _)⟩
         | exact ⟨by rw [hw9]; unfold DK.writeA; rw [if_pos (by omega)]; rfl, _, I3, hS3, by rw [hw9]; unfold DK.writeA; rw [if_pos (by omega)]; exact hD0.sel hS3, (rfl : rkC b d Lv av kp tr :: (ownH av acs 92 ++ (I3 ++ R)) = _)⟩
         | exact ⟨by rw [hw9]; unfold DK.writeA; rw [if_neg (by omega)]; rfl, D4, I4, (hI4.trans hsI).trans hS3, by rw [hw9]; unfold DK.writeA; rw [if_neg (by omega)]; exact hD4, rfl⟩
        · exact (by repeat (first|exact Sel.all|exact Sel.none|exact Sel.hd|(apply Sel.one; · repeat (first|exact Pick.h|apply Pick.t|apply Pick.app))|apply Sel.app|(with_reducible apply Sel.grp; · repeat (first|exact PickF.h|apply PickF.t|apply PickF.a))|(with_reducible refine Sel.nilF (by with_unfolding_all rfl) ?_)|apply Sel.drop|apply Sel.dropF)))
      | false =>
       try have c_t36 := df h36
       first
       | (exfalso; omega)
       | (
        refine wl_go rfl rfl (OP.ev rfl rfl (eMv rfl) ?_)
        refine wl_go rfl rfl (OP.ev rfl rfl (eMv rfl) ?_)
        refine wl_go rfl rfl (OP.ev rfl rfl (eLenR ty30 rfl (hw.sel (by repeat (first|exact Sel.all|exact Sel.none|exact Sel.hd|(apply Sel.one; · repeat (first|exact Pick.h|apply Pick.t|apply Pick.app))|apply Sel.app|(with_reducible apply Sel.grp; · repeat (first|exact PickF.h|apply PickF.t|apply PickF.a))|(with_reducible refine Sel.nilF (by with_unfolding_all rfl) ?_)|apply Sel.drop|apply Sel.dropF)))) ?_)
        refine wl_go rfl rfl (OP.evb rfl rfl (eGt rfl rfl) fun t41 h41 => ?_)
        refine wl rfl (OP.ev rfl rfl (ePk rfl rfl) ?_)
        refine wl_nil ?_
        cases t41 with
        | true =>
         try have c_t41 := dt h41
         first
         | (exfalso; omega)
         | (
          refine wc_then rfl ?_
          refine wc_seq ?_
          refine wc_region ?_
          refine wl rfl (OP.ev rfl rfl (eAs rfl) ?_)
          refine wl_nil ?_
          refine wc_ret ?_
          apply at_ret rfl
          · exact (.cons (.tmp rfl) .nil)
          · first
           | exact ⟨by rw [write_full (by omega) (by omega) (by omega)]; rfl, _, I2, hI2.trans hI1, by rw [write_full (by omega) (by omega) (by omega)]; exact hD0.sel (hI2.trans hI1), (rfl : rkC b d Lv av kp tr :: (ownH av acs 92 ++ (I2 ++ R)) = _)⟩
           | exact ⟨by rw [write_err (by omega) (by omega)]; rfl, _, I1, hI1, by rw [write_err (by omega) (by omega)]; exact hD0.sel hI1, (rfl : rkC b d Lv av kp tr :: (ownH av acs 92 ++ (I1 ++ R)) = _)⟩
           | exact ⟨by rw [write_arg (by omega) (by omega)]; rfl, _, I3, hI3.trans hI8, by rw [write_arg (by omega) (by omega)]; exact hD0.sel (hI3.trans hI8), (rfl : rkC b d Lv av kp tr :: (ownH av acs 92 ++ (I3 ++ R)) = _)⟩
           | exact ⟨by rw [hw9]; unfold DK.writeA; rw [if_pos (by omega)]; rfl, _, I3, hS3, by rw [hw9]; unfold DK.writeA; rw [if_pos (by omega)]; exact hD0.sel hS3, (rfl : rkC b d Lv av kp tr :: (ownH av acs 92 ++ (I3 ++ R)) = _)⟩
           | exact ⟨by rw [hw9]; unfold DK.writeA; rw [if_neg (by omega)]; rfl, D4, I4, (hI4.trans hsI).trans hS3, by rw [hw9]; unfold DK.writeA; rw [if_neg (by omega)]; exact hD4, rfl⟩
          · exact (by repeat (first|exact Sel.all|exact Sel.none|exact Sel.hd|(apply Sel.one; · repeat (first|exact Pick.h|apply Pick.t|apply Pick.app))|apply Sel.app|(with_reducible apply Sel.grp; · repeat (first|exact PickF.h|apply PickF.t|apply PickF.a))|(with_reducible refine Sel.nilF (by with_unfolding_all rfl) ?_)|apply Sel.drop|apply Sel.dropF)))
        | false =>
         try have c_t41 := df h41
         first
         | (exfalso; omega)
         | (
          refine wc_else rfl ?_
          refine wc_skip ?_
          refine wc_seq ?_
          refine wc_seq ?_
          have hS3 : Sel I3 I := hI3.trans hI8
          have hb3 : Rs W0 (I3 ++ R) bv 1 B.length (byteV B) := hb.sel (hS3.appR R)
          have hw9 : d.write k n B = d.writeA k n B := by first | exact write_new (by omega) (by omega) (by omega) | exact write_old (by omega) (by omega)
          have hcan : CanDo d.seen ⟨0, k, [], n, B⟩ := by first | exact can_write hd (.inl ⟨by omega, by omega, by omega⟩) | exact can_write hd (.inr ⟨by omega, by omega, by omega⟩)
          have hmay : d.off = false ∧ may k = true := by first | exact ⟨(find_21 (d := d) (k := k) (by omega)).1, (find_21 (d := d) (k := k) (by omega)).2.1⟩ | exact ⟨(find_zero (d := d) (k := k) (by omega)).1, (find_zero (d := d) (k := k) (by omega)).2.1⟩
          have husd := rused_ok (W0 := W0) b d hd Lv av acs ax kp tr (hF.sel hS3) (hA.sel hS3) (by omega) R
          refine wc_draw (rkC b d Lv av kp tr :: (I3 ++ R)) rfl ?_
          refine wa_take 0 (by kernel_rfl) rfl rfl rfl rfl (by repeat (first|exact Sel.all|exact Sel.none|exact Sel.hd|(apply Sel.one; · repeat (first|exact Pick.h|apply Pick.t|apply Pick.app))|apply Sel.app|(with_reducible apply Sel.grp; · repeat (first|exact PickF.h|apply PickF.t|apply PickF.a))|(with_reducible refine Sel.nilF (by with_unfolding_all rfl) ?_)|apply Sel.drop|apply Sel.dropF)) (eMv rfl) ?_
          refine wa_take 1 (by kernel_rfl) rfl rfl rfl rfl (by repeat (first|exact Sel.all|exact Sel.none|exact Sel.hd|(apply Sel.one; · repeat (first|exact Pick.h|apply Pick.t|apply Pick.app))|apply Sel.app|(with_reducible apply Sel.grp; · repeat (first|exact PickF.h|apply PickF.t|apply PickF.a))|(with_reducible refine Sel.nilF (by with_unfolding_all rfl) ?_)|apply Sel.drop|apply Sel.dropF)) (eLenR ty30 rfl (hb3.sel (by repeat (first|exact Sel.all|exact Sel.none|exact Sel.hd|(apply Sel.one; · repeat (first|exact Pick.h|apply Pick.t|apply Pick.app))|apply Sel.app|(with_reducible apply Sel.grp; · repeat (first|exact PickF.h|apply PickF.t|apply PickF.a))|(with_reducible refine Sel.nilF (by with_unfolding_all rfl) ?_)|apply Sel.drop|apply Sel.dropF)))) ?_
          refine wa_takeb 2 (by kernel_rfl) rfl rfl rfl rfl (by repeat (first|exact Sel.all|exact Sel.none|exact Sel.hd|(apply Sel.one; · repeat (first|exact Pick.h|apply Pick.t|apply Pick.app))|apply Sel.app|(with_reducible apply Sel.grp; · repeat (first|exact PickF.h|apply PickF.t|apply PickF.a))|(with_reducible refine Sel.nilF (by with_unfolding_all rfl) ?_)|apply Sel.drop|apply Sel.dropF)) (eGt rfl rfl) fun t45 h45 => ?_
          refine wa_take 3 (by kernel_rfl) rfl rfl rfl rfl (by repeat (first|exact Sel.all|exact Sel.none|exact Sel.hd|(apply Sel.one; · repeat (first|exact Pick.h|apply Pick.t|apply Pick.app))|apply Sel.app|(with_reducible apply Sel.grp; · repeat (first|exact PickF.h|apply PickF.t|apply PickF.a))|(with_reducible refine Sel.nilF (by with_unfolding_all rfl) ?_)|apply Sel.drop|apply Sel.dropF)) (eMv rfl) ?_
          cases t45 with
          | true =>
           try have c_t45 := dt h45
           first
           | (exfalso; omega)
           | (
            refine wa_skip 4 (by kernel_rfl) rfl rfl rfl rfl rfl rfl (by repeat (first|exact Sel.all|exact Sel.none|exact Sel.hd|(apply Sel.one; · repeat (first|exact Pick.h|apply Pick.t|apply Pick.app))|apply Sel.app|(with_reducible apply Sel.grp; · repeat (first|exact PickF.h|apply PickF.t|apply PickF.a))|(with_reducible refine Sel.nilF (by with_unfolding_all rfl) ?_)|apply Sel.drop|apply Sel.dropF)) ?_
            refine wa_skip 5 (by kernel_rfl) rfl rfl rfl rfl rfl rfl (by repeat (first|exact Sel.all|exact Sel.none|exact Sel.hd|(apply Sel.one; · repeat (first|exact Pick.h|apply Pick.t|apply Pick.app))|apply Sel.app|(with_reducible apply Sel.grp; · repeat (first|exact PickF.h|apply PickF.t|apply PickF.a))|(with_reducible refine Sel.nilF (by with_unfolding_all rfl) ?_)|apply Sel.drop|apply Sel.dropF)) ?_
            refine wa_skip 6 (by kernel_rfl) rfl rfl rfl rfl rfl rfl (by repeat (first|exact Sel.all|exact Sel.none|exact Sel.hd|(apply Sel.one; · repeat (first|exact Pick.h|apply Pick.t|apply Pick.app))|apply Sel.app|(with_reducible apply Sel.grp; · repeat (first|exact PickF.h|apply PickF.t|apply PickF.a))|(with_reducible refine Sel.nilF (by with_unfolding_all rfl) ?_)|apply Sel.drop|apply Sel.dropF)) ?_
            refine wa_skip 7 (by kernel_rfl) rfl rfl rfl rfl rfl rfl (by repeat (first|exact Sel.all|exact Sel.none|exact Sel.hd|(apply Sel.one; · repeat (first|exact Pick.h|apply Pick.t|apply Pick.app))|apply Sel.app|(with_reducible apply Sel.grp; · repeat (first|exact PickF.h|apply PickF.t|apply PickF.a))|(with_reducible refine Sel.nilF (by with_unfolding_all rfl) ?_)|apply Sel.drop|apply Sel.dropF)) ?_
            refine wa_skip 8 (by kernel_rfl) rfl rfl rfl rfl rfl rfl (by repeat (first|exact Sel.all|exact Sel.none|exact Sel.hd|(apply Sel.one; · repeat (first|exact Pick.h|apply Pick.t|apply Pick.app))|apply Sel.app|(with_reducible apply Sel.grp; · repeat (first|exact PickF.h|apply PickF.t|apply PickF.a))|(with_reducible refine Sel.nilF (by with_unfolding_all rfl) ?_)|apply Sel.drop|apply Sel.dropF)) ?_
            refine wa_skip 9 (by kernel_rfl) rfl rfl rfl rfl rfl rfl (by repeat (first|exact Sel.all|exact Sel.none|exact Sel.hd|(apply Sel.one; · repeat (first|exact Pick.h|apply Pick.t|apply Pick.app))|apply Sel.app|(with_reducible apply Sel.grp; · repeat (first|exact PickF.h|apply PickF.t|apply PickF.a))|(with_reducible refine Sel.nilF (by with_unfolding_all rfl) ?_)|apply Sel.drop|apply Sel.dropF)) ?_
            refine wa_skip 10 (by kernel_rfl) rfl rfl rfl rfl rfl rfl (by repeat (first|exact Sel.all|exact Sel.none|exact Sel.hd|(apply Sel.one; · repeat (first|exact Pick.h|apply Pick.t|apply Pick.app))|apply Sel.app|(with_reducible apply Sel.grp; · repeat (first|exact PickF.h|apply PickF.t|apply PickF.a))|(with_reducible refine Sel.nilF (by with_unfolding_all rfl) ?_)|apply Sel.drop|apply Sel.dropF)) ?_
            refine wa_skip 11 (by kernel_rfl) rfl rfl rfl rfl rfl rfl (by repeat (first|exact Sel.all|exact Sel.none|exact Sel.hd|(apply Sel.one; · repeat (first|exact Pick.h|apply Pick.t|apply Pick.app))|apply Sel.app|(with_reducible apply Sel.grp; · repeat (first|exact PickF.h|apply PickF.t|apply PickF.a))|(with_reducible refine Sel.nilF (by with_unfolding_all rfl) ?_)|apply Sel.drop|apply Sel.dropF)) ?_
            refine wa_skip 12 (by kernel_rfl) rfl rfl rfl rfl rfl rfl (by repeat (first|exact Sel.all|exact Sel.none|exact Sel.hd|(apply Sel.one; · repeat (first|exact Pick.h|apply Pick.t|apply Pick.app))|apply Sel.app|(with_reducible apply Sel.grp; · repeat (first|exact PickF.h|apply PickF.t|apply PickF.a))|(with_reducible refine Sel.nilF (by with_unfolding_all rfl) ?_)|apply Sel.drop|apply Sel.dropF)) ?_
            refine wa_skip 13 (by kernel_rfl) rfl rfl rfl rfl rfl rfl (by repeat (first|exact Sel.all|exact Sel.none|exact Sel.hd|(apply Sel.one; · repeat (first|exact Pick.h|apply Pick.t|apply Pick.app))|apply Sel.app|(with_reducible apply Sel.grp; · repeat (first|exact PickF.h|apply PickF.t|apply PickF.a))|(with_reducible refine Sel.nilF (by with_unfolding_all rfl) ?_)|apply Sel.drop|apply Sel.dropF)) ?_
            refine wa_take 14 (by kernel_rfl) rfl rfl rfl rfl (by repeat (first|exact Sel.all|exact Sel.none|exact Sel.hd|(apply Sel.one; · repeat (first|exact Pick.h|apply Pick.t|apply Pick.app))|apply Sel.app|(with_reducible apply Sel.grp; · repeat (first|exact PickF.h|apply PickF.t|apply PickF.a))|(with_reducible refine Sel.nilF (by with_unfolding_all rfl) ?_)|apply Sel.drop|apply Sel.dropF)) (ePk rfl rfl) ?_
            refine wa_nil (by kernel_rfl) ?_
            refine wc_then rfl ?_
            refine wc_seq ?_
            refine wc_region ?_
            refine wl rfl (OP.ev rfl rfl (eAs rfl) ?_)
            refine wl_nil ?_
            refine wc_ret ?_
            apply at_ret rfl
            · exact (.cons (.tmp rfl) .nil)
            · first
             | exact ⟨by rw [write_full (by omega) (by omega) (by omega)]; rfl, _, I2, hI2.trans hI1, by rw [write_full (by omega) (by omega) (by omega)]; exact hD0.sel (hI2.trans hI1), (rfl : rkC b d Lv av kp tr :: (ownH av acs 92 ++ (I2 ++ R)) = _)⟩
             | exact ⟨by rw [write_err (by omega) (by omega)]; rfl, _, I1, hI1, by rw [write_err (by omega) (by omega)]; exact hD0.sel hI1, (rfl : rkC b d Lv av kp tr :: (ownH av acs 92 ++ (I1 ++ R)) = _)⟩
             | exact ⟨by rw [write_arg (by omega) (by omega)]; rfl, _, I3, hI3.trans hI8, by rw [write_arg (by omega) (by omega)]; exact hD0.sel (hI3.trans hI8), (rfl : rkC b d Lv av kp tr :: (ownH av acs 92 ++ (I3 ++ R)) = _)⟩
             | exact ⟨by rw [hw9]; unfold DK.writeA; rw [if_pos (by omega)]; rfl, _, I3, hS3, by rw [hw9]; unfold DK.writeA; rw [if_pos (by omega)]; exact hD0.sel hS3, (rfl : rkC b d Lv av kp tr :: (ownH av acs 92 ++ (I3 ++ R)) = _)⟩
             | exact ⟨by rw [hw9]; unfold DK.writeA; rw [if_neg (by omega)]; rfl, D4, I4, (hI4.trans hsI).trans hS3, by rw [hw9]; unfold DK.writeA; rw [if_neg (by omega)]; exact hD4, rfl⟩
            · exact (by repeat (first|exact Sel.all|exact Sel.none|exact Sel.hd|(apply Sel.one; · repeat (first|exact Pick.h|apply Pick.t|apply Pick.app))|apply Sel.app|(with_reducible apply Sel.grp; · repeat (first|exact PickF.h|apply PickF.t|apply PickF.a))|(with_reducible refine Sel.nilF (by with_unfolding_all rfl) ?_)|apply Sel.drop|apply Sel.dropF)))
          | false =>
           try have c_t45 := df h45
           first
           | (exfalso; omega)
           | (
            refine wa_takeg 4 (by kernel_rfl) rfl rfl rfl rfl rfl (by repeat (first|exact Sel.all|exact Sel.none|exact Sel.hd|(apply Sel.one; · repeat (first|exact Pick.h|apply Pick.t|apply Pick.app))|apply Sel.app|(with_reducible apply Sel.grp; · repeat (first|exact PickF.h|apply PickF.t|apply PickF.a))|(with_reducible refine Sel.nilF (by with_unfolding_all rfl) ?_)|apply Sel.drop|apply Sel.dropF)) (eMv rfl) ?_
            refine wa_takeg 6 (by kernel_rfl) rfl rfl rfl rfl rfl (by repeat (first|exact Sel.all|exact Sel.none|exact Sel.hd|(apply Sel.one; · repeat (first|exact Pick.h|apply Pick.t|apply Pick.app))|apply Sel.app|(with_reducible apply Sel.grp; · repeat (first|exact PickF.h|apply PickF.t|apply PickF.a))|(with_reducible refine Sel.nilF (by with_unfolding_all rfl) ?_)|apply Sel.drop|apply Sel.dropF)) (eMv rfl) ?_
            refine wa_takeg 7 (by kernel_rfl) rfl rfl rfl rfl rfl (by repeat (first|exact Sel.all|exact Sel.none|exact Sel.hd|(apply Sel.one; · repeat (first|exact Pick.h|apply Pick.t|apply Pick.app))|apply Sel.app|(with_reducible apply Sel.grp; · repeat (first|exact PickF.h|apply PickF.t|apply PickF.a))|(with_reducible refine Sel.nilF (by with_unfolding_all rfl) ?_)|apply Sel.drop|apply Sel.dropF)) (eLenR ty30 rfl (hb3.sel (by repeat (first|exact Sel.all|exact Sel.none|exact Sel.hd|(apply Sel.one; · repeat (first|exact Pick.h|apply Pick.t|apply Pick.app))|apply Sel.app|(with_reducible apply Sel.grp; · repeat (first|exact PickF.h|apply PickF.t|apply PickF.a))|(with_reducible refine Sel.nilF (by with_unfolding_all rfl) ?_)|apply Sel.drop|apply Sel.dropF)))) ?_
            refine wa_takeg 9 (by kernel_rfl) rfl rfl rfl rfl rfl (by repeat (first|exact Sel.all|exact Sel.none|exact Sel.hd|(apply Sel.one; · repeat (first|exact Pick.h|apply Pick.t|apply Pick.app))|apply Sel.app|(with_reducible apply Sel.grp; · repeat (first|exact PickF.h|apply PickF.t|apply PickF.a))|(with_reducible refine Sel.nilF (by with_unfolding_all rfl) ?_)|apply Sel.drop|apply Sel.dropF)) (eMv rfl) ?_
            refine wa_takeg 10 (by kernel_rfl) rfl rfl rfl rfl rfl (by repeat (first|exact Sel.all|exact Sel.none|exact Sel.hd|(apply Sel.one; · repeat (first|exact Pick.h|apply Pick.t|apply Pick.app))|apply Sel.app|(with_reducible apply Sel.grp; · repeat (first|exact PickF.h|apply PickF.t|apply PickF.a))|(with_reducible refine Sel.nilF (by with_unfolding_all rfl) ?_)|apply Sel.drop|apply Sel.dropF)) (eNil rfl) ?_
            refine wa_takeg 11 (by kernel_rfl) rfl rfl rfl rfl rfl (by repeat (first|exact Sel.all|exact Sel.none|exact Sel.hd|(apply Sel.one; · repeat (first|exact Pick.h|apply Pick.t|apply Pick.app))|apply Sel.app|(with_reducible apply Sel.grp; · repeat (first|exact PickF.h|apply PickF.t|apply PickF.a))|(with_reducible refine Sel.nilF (by with_unfolding_all rfl) ?_)|apply Sel.drop|apply Sel.dropF)) (eFld 0 ty86 rfl rfl ty3 rfl) ?_
            refine wa_takeg 12 (by kernel_rfl) rfl rfl rfl rfl rfl (by repeat (first|exact Sel.all|exact Sel.none|exact Sel.hd|(apply Sel.one; · repeat (first|exact Pick.h|apply Pick.t|apply Pick.app))|apply Sel.app|(with_reducible apply Sel.grp; · repeat (first|exact PickF.h|apply PickF.t|apply PickF.a))|(with_reducible refine Sel.nilF (by with_unfolding_all rfl) ?_)|apply Sel.drop|apply Sel.dropF)) (eLd ty3 rfl rfl (by repeat (first|exact Has.h|apply Has.t|apply Has.app)) (by rfl)) ?_
            refine wa_all [5] (by kernel_rfl) rfl ⟨⟨_, rfl, .inr ⟨_, _, rfl, rfl⟩, ?_⟩, trivial⟩
            refine oC rfl pf62 rfl husd (by repeat (first|exact Sel.all|exact Sel.none|exact Sel.hd|(apply Sel.one; · repeat (first|exact Pick.h|apply Pick.t|apply Pick.app))|apply Sel.app|(with_reducible apply Sel.grp; · repeat (first|exact PickF.h|apply PickF.t|apply PickF.a))|(with_reducible refine Sel.nilF (by with_unfolding_all rfl) ?_)|apply Sel.drop|apply Sel.dropF)) ?_
            rintro _ _ ⟨rfl, rfl⟩
            refine ⟨(by repeat (first|exact Sel.all|exact Sel.none|exact Sel.hd|(apply Sel.one; · repeat (first|exact Pick.h|apply Pick.t|apply Pick.app))|apply Sel.app|(with_reducible apply Sel.grp; · repeat (first|exact PickF.h|apply PickF.t|apply PickF.a))|(with_reducible refine Sel.nilF (by with_unfolding_all rfl) ?_)|apply Sel.drop|apply Sel.dropF)), ?_⟩
            first | refine wa_takeg 8 (by kernel_rfl) rfl rfl rfl rfl rfl (by repeat (first|exact Sel.all|exact Sel.none|exact Sel.hd|(apply Sel.one; · repeat (first|exact Pick.h|apply Pick.t|apply Pick.app))|apply Sel.app|(with_reducible apply Sel.grp; · repeat (first|exact PickF.h|apply PickF.t|apply PickF.a))|(with_reducible refine Sel.nilF (by with_unfolding_all rfl) ?_)|apply Sel.drop|apply Sel.dropF)) (eAdd rfl rfl (by omega)) ?_ | refine wa_takeg 8 (by kernel_rfl) rfl rfl rfl rfl rfl (by repeat (first|exact Sel.all|exact Sel.none|exact Sel.hd|(apply Sel.one; · repeat (first|exact Pick.h|apply Pick.t|apply Pick.app))|apply Sel.app|(with_reducible apply Sel.grp; · repeat (first|exact PickF.h|apply PickF.t|apply PickF.a))|(with_reducible refine Sel.nilF (by with_unfolding_all rfl) ?_)|apply Sel.drop|apply Sel.dropF)) (eAddW rfl rfl) ?_
            refine wa_takegb 13 (by kernel_rfl) rfl rfl rfl rfl rfl (by repeat (first|exact Sel.all|exact Sel.none|exact Sel.hd|(apply Sel.one; · repeat (first|exact Pick.h|apply Pick.t|apply Pick.app))|apply Sel.app|(with_reducible apply Sel.grp; · repeat (first|exact PickF.h|apply PickF.t|apply PickF.a))|(with_reducible refine Sel.nilF (by with_unfolding_all rfl) ?_)|apply Sel.drop|apply Sel.dropF)) (eGt rfl rfl) fun t56 h56 => ?_
            refine wa_take 14 (by kernel_rfl) rfl rfl rfl rfl (by repeat (first|exact Sel.all|exact Sel.none|exact Sel.hd|(apply Sel.one; · repeat (first|exact Pick.h|apply Pick.t|apply Pick.app))|apply Sel.app|(with_reducible apply Sel.grp; · repeat (first|exact PickF.h|apply PickF.t|apply PickF.a))|(with_reducible refine Sel.nilF (by with_unfolding_all rfl) ?_)|apply Sel.drop|apply Sel.dropF)) (ePk rfl rfl) ?_
            refine wa_nil (by kernel_rfl) ?_
            cases t56 with
            | true =>
             try have c_t56 := dt h56
             first
             | (exfalso; omega)
             | (
              refine wc_then rfl ?_
              refine wc_seq ?_
              refine wc_region ?_
              refine wl rfl (OP.ev rfl rfl (eAs rfl) ?_)
              refine wl_nil ?_
              refine wc_ret ?_
              apply at_ret rfl
              · exact (.cons (.tmp rfl) .nil)
              · first
               | exact ⟨by rw [write_full (by omega) (by omega) (by omega)]; rfl, _, I2, hI2.trans hI1, by rw [write_full (by omega) (by omega) (by omega)]; exact hD0.sel (hI2.trans hI1), (rfl : rkC b d Lv av kp tr :: (ownH av acs 92 ++ (I2 ++ R)) = _)⟩
               | exact ⟨by rw [write_err (by omega) (by omega)]; rfl, _, I1, hI1, by rw [write_err (by omega) (by omega)]; exact hD0.sel hI1, (rfl : rkC b d Lv av kp tr :: (ownH av acs 92 ++ (I1 ++ R)) = _)⟩
               | exact ⟨by rw [write_arg (by omega) (by omega)]; rfl, _, I3, hI3.trans hI8, by rw [write_arg (by omega) (by omega)]; exact hD0.sel (hI3.trans hI8), (rfl : rkC b d Lv av kp tr :: (ownH av acs 92 ++ (I3 ++ R)) = _)⟩
               | exact ⟨by rw [hw9]; unfold DK.writeA; rw [if_pos (by omega)]; rfl, _, I3, hS3, by rw [hw9]; unfold DK.writeA; rw [if_pos (by omega)]; exact hD0.sel hS3, (rfl : rkC b d Lv av kp tr :: (ownH av acs 92 ++ (I3 ++ R)) = _)⟩
               | exact ⟨by rw [hw9]; unfold DK.writeA; rw [if_neg (by omega)]; rfl, D4, I4, (hI4.trans hsI).trans hS3, by rw [hw9]; unfold DK.writeA; rw [if_neg (by omega)]; exact hD4, rfl⟩
              · exact (by repeat (first|exact Sel.all|exact Sel.none|exact Sel.hd|(apply Sel.one; · repeat (first|exact Pick.h|apply Pick.t|apply Pick.app))|apply Sel.app|(with_reducible apply Sel.grp; · repeat (first|exact PickF.h|apply PickF.t|apply PickF.a))|(with_reducible refine Sel.nilF (by with_unfolding_all rfl) ?_)|apply Sel.drop|apply Sel.dropF)))
            | false =>
             try have c_t56 := df h56
             first
             | (exfalso; omega)
             | (
              refine wc_else rfl ?_
              refine wc_skip ?_
              refine wc_seq ?_
              refine wc_region ?_
              refine wl rfl (OP.ev rfl rfl (eMv rfl) ?_)
              refine wl rfl (OP.ev rfl rfl (eMv rfl) ?_)
              refine wl rfl (OP.ev rfl rfl (eMv rfl) ?_)
              refine wl rfl (oBS0 rfl ty30 ty5 fun b61 => ?_)
              refine wl rfl (OP.ev rfl rfl (eMv rfl) ?_)
              refine wl rfl (oApp (m := B.length) (news := byteV B) rfl ty30 ty5 rfl rfl rfl (Row.mk (b := b61) (k := 0) (cap := 0) (cs := #[]) (sz := 1) (xs := []) (Nat.le_refl _) rfl rfl) (by repeat (first|exact At.cell|exact At.h|apply At.t|apply At.a)) (hb3.sel (by repeat (first|exact Sel.all|exact Sel.none|exact Sel.hd|(apply Sel.one; · repeat (first|exact Pick.h|apply Pick.t|apply Pick.app))|apply Sel.app|(with_reducible apply Sel.grp; · repeat (first|exact PickF.h|apply PickF.t|apply PickF.a))|(with_reducible refine Sel.nilF (by with_unfolding_all rfl) ?_)|apply Sel.drop|apply Sel.dropF))) (byteV_one _) (by omega) (by omega) ?_)
              rintro v63 cs63 hrow63 hn63
              rw [Nat.zero_add, List.nil_append] at hrow63
              have hsI : Sel (ownH v63 cs63 5 ++ I3) I3 := Sel.dropF Sel.all
              have hsp : d.used = ((total d.last + costs d.acts : Nat) : Int) := by unfold DK.used; rw [hmay.1]; rfl
              have hadd := radd_ok (W0 := W0) (I := ownH v63 cs63 5 ++ I3) b d hd hmay.1 ⟨0, k, [], n, B⟩ v63 hcan (by show ((total d.last + costs d.acts + B.length : Nat) : Int) ≤ _; omega) ⟨may_len hmay.2, by simp⟩ (hrow63.rs (by repeat (first|exact At.cell|exact At.h|apply At.t|apply At.a))) hB _ R ((hD0.sel hS3).sel hsI) hn
              simp only [List.cons_append, List.append_assoc] at hadd
              refine wl rfl (OP.ev rfl rfl (eBuL (cells := [i64 0, strK k, strK [], i64 n, v63]) ty92 pl92 rfl (by have h9 := oneCell_of hrow63.one; simp only [fillL, h9]; rfl)) ?_)
              refine wl rfl (oC rfl pf58 rfl hadd (by repeat (first|exact Sel.all|exact Sel.none|exact Sel.hd|(apply Sel.one; · repeat (first|exact Pick.h|apply Pick.t|apply Pick.app))|apply Sel.app|(with_reducible apply Sel.grp; · repeat (first|exact PickF.h|apply PickF.t|apply PickF.a))|(with_reducible refine Sel.nilF (by with_unfolding_all rfl) ?_)|apply Sel.drop|apply Sel.dropF)) ?_)
              rintro _ _ ⟨rfl, D4, I4, hI4, hD4, rfl⟩
              refine wl rfl (OP.ev rfl rfl (eAs rfl) ?_)
              refine wl_nil ?_
              refine wc_ret ?_
              apply at_ret rfl
              · exact (.cons (.tmp rfl) .nil)
              · first
               | exact ⟨by rw [write_full (by omega) (by omega) (by omega)]; rfl, _, I2, hI2.trans hI1, by rw [write_full (by omega) (by omega) (by omega)]; exact hD0.sel (hI2.trans hI1), (rfl : rkC b d Lv av kp tr :: (ownH av acs 92 ++ (I2 ++ R)) = _)⟩
               | exact ⟨by rw [write_err (by omega) (by omega)]; rfl, _, I1, hI1, by rw [write_err (by omega) (by omega)]; exact hD0.sel hI1, (rfl : rkC b d Lv av kp tr :: (ownH av acs 92 ++ (I1 ++ R)) = _)⟩
               | exact ⟨by rw [write_arg (by omega) (by omega)]; rfl, _, I3, hI3.trans hI8, by rw [write_arg (by omega) (by omega)]; exact hD0.sel (hI3.trans hI8), (rfl : rkC b d Lv av kp tr :: (ownH av acs 92 ++ (I3 ++ R)) = _)⟩
               | exact ⟨by rw [hw9]; unfold DK.writeA; rw [if_pos (by omega)]; rfl, _, I3, hS3, by rw [hw9]; unfold DK.writeA; rw [if_pos (by omega)]; exact hD0.sel hS3, (rfl : rkC b d Lv av kp tr :: (ownH av acs 92 ++ (I3 ++ R)) = _)⟩
               | exact ⟨by rw [hw9]; unfold DK.writeA; rw [if_neg (by omega)]; rfl, D4, I4, (hI4.trans hsI).trans hS3, by rw [hw9]; unfold DK.writeA; rw [if_neg (by omega)]; exact hD4, rfl⟩
              · exact (by repeat (first|exact Sel.all|exact Sel.none|exact Sel.hd|(apply Sel.one; · repeat (first|exact Pick.h|apply Pick.t|apply Pick.app))|apply Sel.app|(with_reducible apply Sel.grp; · repeat (first|exact PickF.h|apply PickF.t|apply PickF.a))|(with_reducible refine Sel.nilF (by with_unfolding_all rfl) ?_)|apply Sel.drop|apply Sel.dropF))))))))
end Go.Proofs.Ytahjgjmemijofaa
