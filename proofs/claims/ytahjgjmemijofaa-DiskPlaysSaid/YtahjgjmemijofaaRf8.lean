/- The reference's disk: sync, arm, crash, start. No statement of the seat is proved here. -/
import Derived.Test.YtahjgjmemijofaaRf7
namespace Go.Proofs.Ytahjgjmemijofaa
open Go Eng
set_option linter.unusedVariables false
set_option linter.unusedSimpArgs false
set_option maxRecDepth 4000
variable {W0 : World} {I I' : Heap}

theorem rsync_ok (b : Nat) (d : DK) (hd : DOk d) (D R : Heap) (hD : RefR W0 I d b D) (hn : d.acts.length ≤ 1000000) :
    FnC W0 Try.prog 32 #[ptr b] (D ++ (I ++ R)) (RPut W0 I R b d.sync.2 (i64 d.sync.1)) := by
  have hD0 := hD
  obtain ⟨Lv, av, acs, ax, kp, tr, rfl, hF, hA, hkt, hk64, ht64⟩ := hD
  have hD1 : RefR W0 I d.less b (rkC b d.less Lv av kp tr :: ownH av acs 92) := ⟨_, _, _, _, _, _, rfl, hF, hA, fun h => hkt (fun h2 => h (by show (if d.left = 0 then 0 else d.left - 1) = 0; rw [h2]; rfl)), hk64, ht64⟩
  rcases ho : d.off with _ | _
  · simp only [List.cons_append]
    refine fn_of Try.func32 rfl Try.ntmps32 rfl rfl ?_
    refine wc_seq ?_
    refine wc_region ?_
    refine wl rfl (OP.ev rfl rfl (eAs rfl) ?_)
    refine wl_nil ?_
    refine wc_seq ?_
    refine wc_seq ?_
    refine wc_region ?_
    refine wl rfl (OP.ev rfl rfl (eMv rfl) ?_)
    refine wl rfl (OP.ev rfl rfl (eNil rfl) ?_)
    refine wl rfl (OP.ev rfl rfl (eFld 3 ty86 rfl rfl ty4 rfl) ?_)
    refine wl rfl (OP.ev rfl rfl (eLd (v := .bool false) ty4 rfl rfl (by repeat (first|exact Has.h|apply Has.t|apply Has.app)) (by show some (Value.bool d.off) = _; rw [ho])) ?_)
    refine wl_nil ?_
    refine wc_else rfl ?_
    refine wc_skip ?_
    refine wc_seq ?_
    refine wc_seq ?_
    rcases hh : d.hit with _ | _
    · refine wc_region ?_
      refine wl rfl (OP.ev rfl rfl (eMv rfl) ?_)
      refine wl rfl (oC rfl pf60 rfl (hit_ok b d Lv av kp tr hd.left _) (by repeat (first|exact Sel.all|exact Sel.none|exact Sel.hd|(apply Sel.one; · repeat (first|exact Pick.h|apply Pick.t|apply Pick.app))|apply Sel.app|(with_reducible apply Sel.grp; · repeat (first|exact PickF.h|apply PickF.t|apply PickF.a))|(with_reducible refine Sel.nilF (by with_unfolding_all rfl) ?_)|apply Sel.drop|apply Sel.dropF)) ?_)
      rintro _ _ ⟨rfl, rfl⟩
      refine wl_nil ?_
      rw [hh]
      refine wc_else rfl ?_
      refine wc_skip ?_
      refine wc_seq ?_
      have hnl : d.left ≠ 1 := of_decide_eq_false hh
      refine wc_region ?_
      refine wl rfl (OP.ev rfl rfl (eMv rfl) ?_)
      refine wl rfl (OP.ev rfl rfl (eMv rfl) ?_)
      refine wl rfl (oC rfl pf57 rfl (files_ok b d.less hd.less Lv av acs ax kp tr hF hA hn _) (by repeat (first|exact Sel.all|exact Sel.none|exact Sel.hd|(apply Sel.one; · repeat (first|exact Pick.h|apply Pick.t|apply Pick.app))|apply Sel.app|(with_reducible apply Sel.grp; · repeat (first|exact PickF.h|apply PickF.t|apply PickF.a))|(with_reducible refine Sel.nilF (by with_unfolding_all rfl) ?_)|apply Sel.drop|apply Sel.dropF)) ?_)
      rintro v21 _ ⟨I2, hI2, hF2, rfl⟩
      refine wl rfl (OP.ev rfl rfl (eNil rfl) ?_)
      refine wl rfl (OP.ev rfl rfl (eFld 1 ty86 rfl rfl ty83 rfl) ?_)
      have hF9 := hF2
      obtain ⟨xs9, hr9, _⟩ := hF9
      obtain ⟨ad9, k9, c9, hs9⟩ := hr9.isSlice
      have hon9 := congrArg Value.oneCell' hs9
      refine wl rfl (oSt ty83 rfl rfl hon9 rfl (by repeat (first|exact Upd.h|apply Upd.t|apply Upd.app)) (by first | decide | simp) (by rfl) ?_)
      refine wl_nil ?_
      refine wc_seq ?_
      refine wc_region ?_
      refine wl rfl (OP.ev rfl rfl (eMv rfl) ?_)
      refine wl rfl (OP.ev rfl rfl (eNil rfl) ?_)
      refine wl rfl (OP.ev rfl rfl (eFld 2 ty86 rfl rfl ty84 rfl) ?_)
      refine wl rfl (oSt ty84 rfl rfl rfl rfl (by repeat (first|exact Upd.h|apply Upd.t|apply Upd.app)) (by first | decide | simp) (by rfl) ?_)
      refine wl_nil ?_
      refine wc_seq ?_
      refine wc_region ?_
      refine wl rfl (OP.ev rfl rfl (eAs rfl) ?_)
      refine wl_nil ?_
      refine wc_ret ?_
      apply at_ret rfl
      · exact (.cons (.tmp rfl) .nil)
      · first
        | exact ⟨by unfold DK.sync; rw [if_neg (by simp [ho]), if_pos hl1]; rfl, D4, I4, hI4, by unfold DK.sync; rw [if_neg (by simp [ho]), if_pos hl1]; exact hD4, rfl⟩
        | exact ⟨by unfold DK.sync; rw [if_neg (by simp [ho]), if_neg hnl]; rfl, rkC b { d.less with last := d.seen, acts := [] } v21 (.slice none 0 0) kp tr :: ownH (.slice none 0 0) #[] 92, I2, hI2, by unfold DK.sync; rw [if_neg (by simp [ho]), if_neg hnl]; exact ⟨v21, .slice none 0 0, #[], [], kp, tr, rfl, hF2, RActs.nil, fun h => hkt (fun h2 => h (by show (if d.left = 0 then 0 else d.left - 1) = 0; rw [h2]; rfl)), hk64, ht64⟩, rfl⟩
      · exact (by repeat (first|exact Sel.all|exact Sel.none|exact Sel.hd|(apply Sel.one; · repeat (first|exact Pick.h|apply Pick.t|apply Pick.app))|apply Sel.app|(with_reducible apply Sel.grp; · repeat (first|exact PickF.h|apply PickF.t|apply PickF.a))|(with_reducible refine Sel.nilF (by with_unfolding_all rfl) ?_)|apply Sel.drop|apply Sel.dropF))
    · refine wc_region ?_
      refine wl rfl (OP.ev rfl rfl (eMv rfl) ?_)
      refine wl rfl (oC rfl pf60 rfl (hit_ok b d Lv av kp tr hd.left _) (by repeat (first|exact Sel.all|exact Sel.none|exact Sel.hd|(apply Sel.one; · repeat (first|exact Pick.h|apply Pick.t|apply Pick.app))|apply Sel.app|(with_reducible apply Sel.grp; · repeat (first|exact PickF.h|apply PickF.t|apply PickF.a))|(with_reducible refine Sel.nilF (by with_unfolding_all rfl) ?_)|apply Sel.drop|apply Sel.dropF)) ?_)
      rintro _ _ ⟨rfl, rfl⟩
      refine wl_nil ?_
      rw [hh]
      refine wc_then rfl ?_
      refine wc_seq ?_
      have hl1 : d.left = 1 := of_decide_eq_true hh
      obtain ⟨rfl, rfl⟩ := hkt (by omega)
      have hfall := rfall_ok (W0 := W0) b d.less hd.less d.keep d.tear hd.keep.1 hd.keep.2 _ R hD1 hn
      simp only [List.cons_append] at hfall
      refine wc_draw [] rfl ?_
      refine wa_take 0 (by kernel_rfl) rfl rfl rfl rfl (by repeat (first|exact Sel.all|exact Sel.none|exact Sel.hd|(apply Sel.one; · repeat (first|exact Pick.h|apply Pick.t|apply Pick.app))|apply Sel.app|(with_reducible apply Sel.grp; · repeat (first|exact PickF.h|apply PickF.t|apply PickF.a))|(with_reducible refine Sel.nilF (by with_unfolding_all rfl) ?_)|apply Sel.drop|apply Sel.dropF)) (eMv rfl) ?_
      refine wa_take 1 (by kernel_rfl) rfl rfl rfl rfl (by repeat (first|exact Sel.all|exact Sel.none|exact Sel.hd|(apply Sel.one; · repeat (first|exact Pick.h|apply Pick.t|apply Pick.app))|apply Sel.app|(with_reducible apply Sel.grp; · repeat (first|exact PickF.h|apply PickF.t|apply PickF.a))|(with_reducible refine Sel.nilF (by with_unfolding_all rfl) ?_)|apply Sel.drop|apply Sel.dropF)) (eMv rfl) ?_
      refine wa_take 2 (by kernel_rfl) rfl rfl rfl rfl (by repeat (first|exact Sel.all|exact Sel.none|exact Sel.hd|(apply Sel.one; · repeat (first|exact Pick.h|apply Pick.t|apply Pick.app))|apply Sel.app|(with_reducible apply Sel.grp; · repeat (first|exact PickF.h|apply PickF.t|apply PickF.a))|(with_reducible refine Sel.nilF (by with_unfolding_all rfl) ?_)|apply Sel.drop|apply Sel.dropF)) (eNil rfl) ?_
      refine wa_take 3 (by kernel_rfl) rfl rfl rfl rfl (by repeat (first|exact Sel.all|exact Sel.none|exact Sel.hd|(apply Sel.one; · repeat (first|exact Pick.h|apply Pick.t|apply Pick.app))|apply Sel.app|(with_reducible apply Sel.grp; · repeat (first|exact PickF.h|apply PickF.t|apply PickF.a))|(with_reducible refine Sel.nilF (by with_unfolding_all rfl) ?_)|apply Sel.drop|apply Sel.dropF)) (eFld 5 ty86 rfl rfl ty3 rfl) ?_
      refine wa_take 5 (by kernel_rfl) rfl rfl rfl rfl (by repeat (first|exact Sel.all|exact Sel.none|exact Sel.hd|(apply Sel.one; · repeat (first|exact Pick.h|apply Pick.t|apply Pick.app))|apply Sel.app|(with_reducible apply Sel.grp; · repeat (first|exact PickF.h|apply PickF.t|apply PickF.a))|(with_reducible refine Sel.nilF (by with_unfolding_all rfl) ?_)|apply Sel.drop|apply Sel.dropF)) (eMv rfl) ?_
      refine wa_take 6 (by kernel_rfl) rfl rfl rfl rfl (by repeat (first|exact Sel.all|exact Sel.none|exact Sel.hd|(apply Sel.one; · repeat (first|exact Pick.h|apply Pick.t|apply Pick.app))|apply Sel.app|(with_reducible apply Sel.grp; · repeat (first|exact PickF.h|apply PickF.t|apply PickF.a))|(with_reducible refine Sel.nilF (by with_unfolding_all rfl) ?_)|apply Sel.drop|apply Sel.dropF)) (eNil rfl) ?_
      refine wa_take 7 (by kernel_rfl) rfl rfl rfl rfl (by repeat (first|exact Sel.all|exact Sel.none|exact Sel.hd|(apply Sel.one; · repeat (first|exact Pick.h|apply Pick.t|apply Pick.app))|apply Sel.app|(with_reducible apply Sel.grp; · repeat (first|exact PickF.h|apply PickF.t|apply PickF.a))|(with_reducible refine Sel.nilF (by with_unfolding_all rfl) ?_)|apply Sel.drop|apply Sel.dropF)) (eFld 6 ty86 rfl rfl ty3 rfl) ?_
      refine wa_all [4, 8] (by kernel_rfl) rfl ⟨⟨_, rfl, .inl rfl, ?_⟩, ⟨_, rfl, .inl rfl, ?_⟩, trivial⟩
      · skip
        refine OP.ev rfl rfl (eLd ty3 rfl rfl (by repeat (first|exact Has.h|apply Has.t|apply Has.app)) (by rfl)) ?_
        refine ⟨(by repeat (first|exact Sel.all|exact Sel.none|exact Sel.hd|(apply Sel.one; · repeat (first|exact Pick.h|apply Pick.t|apply Pick.app))|apply Sel.app|(with_reducible apply Sel.grp; · repeat (first|exact PickF.h|apply PickF.t|apply PickF.a))|(with_reducible refine Sel.nilF (by with_unfolding_all rfl) ?_)|apply Sel.drop|apply Sel.dropF)), ?_⟩
        refine wa_all [8] (by kernel_rfl) rfl (wall_one 8 rfl rfl ?_ trivial)
        refine OP.ev rfl rfl (eLd ty3 rfl rfl (by repeat (first|exact Has.h|apply Has.t|apply Has.app)) (by rfl)) ?_
        refine ⟨(by repeat (first|exact Sel.all|exact Sel.none|exact Sel.hd|(apply Sel.one; · repeat (first|exact Pick.h|apply Pick.t|apply Pick.app))|apply Sel.app|(with_reducible apply Sel.grp; · repeat (first|exact PickF.h|apply PickF.t|apply PickF.a))|(with_reducible refine Sel.nilF (by with_unfolding_all rfl) ?_)|apply Sel.drop|apply Sel.dropF)), ?_⟩
        refine wa_all [9] (by kernel_rfl) rfl (wall_one 9 rfl rfl ?_ trivial)
        refine oC rfl pf61 rfl hfall (by repeat (first|exact Sel.all|exact Sel.none|exact Sel.hd|(apply Sel.one; · repeat (first|exact Pick.h|apply Pick.t|apply Pick.app))|apply Sel.app|(with_reducible apply Sel.grp; · repeat (first|exact PickF.h|apply PickF.t|apply PickF.a))|(with_reducible refine Sel.nilF (by with_unfolding_all rfl) ?_)|apply Sel.drop|apply Sel.dropF)) ?_
        rintro _ _ ⟨rfl, D4, I4, hI4, hD4, rfl⟩
        refine ⟨(by repeat (first|exact Sel.all|exact Sel.none|exact Sel.hd|(apply Sel.one; · repeat (first|exact Pick.h|apply Pick.t|apply Pick.app))|apply Sel.app|(with_reducible apply Sel.grp; · repeat (first|exact PickF.h|apply PickF.t|apply PickF.a))|(with_reducible refine Sel.nilF (by with_unfolding_all rfl) ?_)|apply Sel.drop|apply Sel.dropF)), ?_⟩
        refine wa_nil (by kernel_rfl) ?_
        refine wc_seq ?_
        refine wc_region ?_
        refine wl rfl (OP.ev rfl rfl (eAs rfl) ?_)
        refine wl_nil ?_
        refine wc_ret ?_
        apply at_ret rfl
        · exact (.cons (.tmp rfl) .nil)
        · first
          | exact ⟨by unfold DK.sync; rw [if_neg (by simp [ho]), if_pos hl1]; rfl, D4, I4, hI4, by unfold DK.sync; rw [if_neg (by simp [ho]), if_pos hl1]; exact hD4, rfl⟩
          | exact ⟨by unfold DK.sync; rw [if_neg (by simp [ho]), if_neg hnl]; rfl, rkC b { d.less with last := d.seen, acts := [] } v21 (.slice none 0 0) kp tr :: ownH (.slice none 0 0) #[] 92, I2, hI2, by unfold DK.sync; rw [if_neg (by simp [ho]), if_neg hnl]; exact ⟨v21, .slice none 0 0, #[], [], kp, tr, rfl, hF2, RActs.nil, fun h => hkt (fun h2 => h (by show (if d.left = 0 then 0 else d.left - 1) = 0; rw [h2]; rfl)), hk64, ht64⟩, rfl⟩
        · exact (by repeat (first|exact Sel.all|exact Sel.none|exact Sel.hd|(apply Sel.one; · repeat (first|exact Pick.h|apply Pick.t|apply Pick.app))|apply Sel.app|(with_reducible apply Sel.grp; · repeat (first|exact PickF.h|apply PickF.t|apply PickF.a))|(with_reducible refine Sel.nilF (by with_unfolding_all rfl) ?_)|apply Sel.drop|apply Sel.dropF))
      · skip
        refine OP.ev rfl rfl (eLd ty3 rfl rfl (by repeat (first|exact Has.h|apply Has.t|apply Has.app)) (by rfl)) ?_
        refine ⟨(by repeat (first|exact Sel.all|exact Sel.none|exact Sel.hd|(apply Sel.one; · repeat (first|exact Pick.h|apply Pick.t|apply Pick.app))|apply Sel.app|(with_reducible apply Sel.grp; · repeat (first|exact PickF.h|apply PickF.t|apply PickF.a))|(with_reducible refine Sel.nilF (by with_unfolding_all rfl) ?_)|apply Sel.drop|apply Sel.dropF)), ?_⟩
        refine wa_all [4] (by kernel_rfl) rfl (wall_one 4 rfl rfl ?_ trivial)
        refine OP.ev rfl rfl (eLd ty3 rfl rfl (by repeat (first|exact Has.h|apply Has.t|apply Has.app)) (by rfl)) ?_
        refine ⟨(by repeat (first|exact Sel.all|exact Sel.none|exact Sel.hd|(apply Sel.one; · repeat (first|exact Pick.h|apply Pick.t|apply Pick.app))|apply Sel.app|(with_reducible apply Sel.grp; · repeat (first|exact PickF.h|apply PickF.t|apply PickF.a))|(with_reducible refine Sel.nilF (by with_unfolding_all rfl) ?_)|apply Sel.drop|apply Sel.dropF)), ?_⟩
        refine wa_all [9] (by kernel_rfl) rfl (wall_one 9 rfl rfl ?_ trivial)
        refine oC rfl pf61 rfl hfall (by repeat (first|exact Sel.all|exact Sel.none|exact Sel.hd|(apply Sel.one; · repeat (first|exact Pick.h|apply Pick.t|apply Pick.app))|apply Sel.app|(with_reducible apply Sel.grp; · repeat (first|exact PickF.h|apply PickF.t|apply PickF.a))|(with_reducible refine Sel.nilF (by with_unfolding_all rfl) ?_)|apply Sel.drop|apply Sel.dropF)) ?_
        rintro _ _ ⟨rfl, D4, I4, hI4, hD4, rfl⟩
        refine ⟨(by repeat (first|exact Sel.all|exact Sel.none|exact Sel.hd|(apply Sel.one; · repeat (first|exact Pick.h|apply Pick.t|apply Pick.app))|apply Sel.app|(with_reducible apply Sel.grp; · repeat (first|exact PickF.h|apply PickF.t|apply PickF.a))|(with_reducible refine Sel.nilF (by with_unfolding_all rfl) ?_)|apply Sel.drop|apply Sel.dropF)), ?_⟩
        refine wa_nil (by kernel_rfl) ?_
        refine wc_seq ?_
        refine wc_region ?_
        refine wl rfl (OP.ev rfl rfl (eAs rfl) ?_)
        refine wl_nil ?_
        refine wc_ret ?_
        apply at_ret rfl
        · exact (.cons (.tmp rfl) .nil)
        · first
          | exact ⟨by unfold DK.sync; rw [if_neg (by simp [ho]), if_pos hl1]; rfl, D4, I4, hI4, by unfold DK.sync; rw [if_neg (by simp [ho]), if_pos hl1]; exact hD4, rfl⟩
          | exact ⟨by unfold DK.sync; rw [if_neg (by simp [ho]), if_neg hnl]; rfl, rkC b { d.less with last := d.seen, acts := [] } v21 (.slice none 0 0) kp tr :: ownH (.slice none 0 0) #[] 92, I2, hI2, by unfold DK.sync; rw [if_neg (by simp [ho]), if_neg hnl]; exact ⟨v21, .slice none 0 0, #[], [], kp, tr, rfl, hF2, RActs.nil, fun h => hkt (fun h2 => h (by show (if d.left = 0 then 0 else d.left - 1) = 0; rw [h2]; rfl)), hk64, ht64⟩, rfl⟩
        · exact (by repeat (first|exact Sel.all|exact Sel.none|exact Sel.hd|(apply Sel.one; · repeat (first|exact Pick.h|apply Pick.t|apply Pick.app))|apply Sel.app|(with_reducible apply Sel.grp; · repeat (first|exact PickF.h|apply PickF.t|apply PickF.a))|(with_reducible refine Sel.nilF (by with_unfolding_all rfl) ?_)|apply Sel.drop|apply Sel.dropF))
  · simp only [List.cons_append]
    refine fn_of Try.func32 rfl Try.ntmps32 rfl rfl ?_
    refine wc_seq ?_
    refine wc_region ?_
    refine wl rfl (OP.ev rfl rfl (eAs rfl) ?_)
    refine wl_nil ?_
    refine wc_seq ?_
    refine wc_seq ?_
    refine wc_region ?_
    refine wl rfl (OP.ev rfl rfl (eMv rfl) ?_)
    refine wl rfl (OP.ev rfl rfl (eNil rfl) ?_)
    refine wl rfl (OP.ev rfl rfl (eFld 3 ty86 rfl rfl ty4 rfl) ?_)
    refine wl rfl (OP.ev rfl rfl (eLd (v := .bool true) ty4 rfl rfl (by repeat (first|exact Has.h|apply Has.t|apply Has.app)) (by show some (Value.bool d.off) = _; rw [ho])) ?_)
    refine wl_nil ?_
    refine wc_then rfl ?_
    refine wc_seq ?_
    refine wc_region ?_
    refine wl rfl (OP.ev rfl rfl (eAs rfl) ?_)
    refine wl_nil ?_
    refine wc_ret ?_
    apply at_ret rfl
    · exact (.cons (.tmp rfl) .nil)
    · exact ⟨by unfold DK.sync; rw [if_pos ho]; rfl, _, I, Sel.all, by unfold DK.sync; rw [if_pos ho]; exact hD0, (rfl : rkC b d Lv av kp tr :: (ownH av acs 92 ++ (I ++ R)) = _)⟩
    · exact (by repeat (first|exact Sel.all|exact Sel.none|exact Sel.hd|(apply Sel.one; · repeat (first|exact Pick.h|apply Pick.t|apply Pick.app))|apply Sel.app|(with_reducible apply Sel.grp; · repeat (first|exact PickF.h|apply PickF.t|apply PickF.a))|(with_reducible refine Sel.nilF (by with_unfolding_all rfl) ?_)|apply Sel.drop|apply Sel.dropF))

theorem rarm_ok (b : Nat) (d : DK) (n keep tear : Int) (hk : I64 keep) (ht : I64 tear) (D R : Heap) (hD : RefR W0 I d b D) :
    FnC W0 Try.prog 33 #[ptr b, i64 n, i64 keep, i64 tear] (D ++ (I ++ R)) (RPut W0 I R b (d.arm n keep tear).2 (i64 (d.arm n keep tear).1)) := by
  have hD0 := hD
  obtain ⟨Lv, av, acs, ax, kp, tr, rfl, hF, hA, hkt, hk64, ht64⟩ := hD
  rcases ho : d.off with _ | _
  · have har : d.arm n keep tear = (0, { d with left := max n 0, keep := keep, tear := tear }) := by unfold DK.arm; rw [if_neg (by simp [ho])]
    simp only [List.cons_append]
    refine fn_of Try.func33 rfl Try.ntmps33 rfl rfl ?_
    refine wc_seq ?_
    refine wc_region ?_
    refine wl rfl (OP.ev rfl rfl (eAs rfl) ?_)
    refine wl_nil ?_
    refine wc_seq ?_
    refine wc_seq ?_
    refine wc_region ?_
    refine wl rfl (OP.ev rfl rfl (eMv rfl) ?_)
    refine wl rfl (OP.ev rfl rfl (eNil rfl) ?_)
    refine wl rfl (OP.ev rfl rfl (eFld 3 ty86 rfl rfl ty4 rfl) ?_)
    refine wl rfl (OP.ev rfl rfl (eLd (v := .bool false) ty4 rfl rfl (by repeat (first|exact Has.h|apply Has.t|apply Has.app)) (by show some (Value.bool d.off) = _; rw [ho])) ?_)
    refine wl_nil ?_
    refine wc_else rfl ?_
    refine wc_skip ?_
    refine wc_seq ?_
    refine wc_region ?_
    refine wl rfl (OP.ev rfl rfl (eMv rfl) ?_)
    refine wl rfl (OP.ev rfl rfl (eMv rfl) ?_)
    refine wl rfl (OP.ev rfl rfl (eMax rfl rfl) ?_)
    refine wl rfl (OP.ev rfl rfl (eNil rfl) ?_)
    refine wl rfl (OP.ev rfl rfl (eFld 4 ty86 rfl rfl ty3 rfl) ?_)
    refine wl rfl (oSt ty3 rfl rfl rfl rfl (by repeat (first|exact Upd.h|apply Upd.t|apply Upd.app)) (by first | decide | simp) (by rfl) ?_)
    refine wl_nil ?_
    refine wc_seq ?_
    refine wc_region ?_
    refine wl rfl (OP.ev rfl rfl (eMv rfl) ?_)
    refine wl rfl (OP.ev rfl rfl (eMv rfl) ?_)
    refine wl rfl (OP.ev rfl rfl (eNil rfl) ?_)
    refine wl rfl (OP.ev rfl rfl (eFld 5 ty86 rfl rfl ty3 rfl) ?_)
    refine wl rfl (oSt ty3 rfl rfl rfl rfl (by repeat (first|exact Upd.h|apply Upd.t|apply Upd.app)) (by first | decide | simp) (by rfl) ?_)
    refine wl_nil ?_
    refine wc_seq ?_
    refine wc_region ?_
    refine wl rfl (OP.ev rfl rfl (eMv rfl) ?_)
    refine wl rfl (OP.ev rfl rfl (eMv rfl) ?_)
    refine wl rfl (OP.ev rfl rfl (eNil rfl) ?_)
    refine wl rfl (OP.ev rfl rfl (eFld 6 ty86 rfl rfl ty3 rfl) ?_)
    refine wl rfl (oSt ty3 rfl rfl rfl rfl (by repeat (first|exact Upd.h|apply Upd.t|apply Upd.app)) (by first | decide | simp) (by rfl) ?_)
    refine wl_nil ?_
    refine wc_seq ?_
    refine wc_region ?_
    refine wl rfl (OP.ev rfl rfl (eAs rfl) ?_)
    refine wl_nil ?_
    refine wc_ret ?_
    apply at_ret rfl
    · exact (.cons (.tmp rfl) .nil)
    · exact ⟨by rw [har]; rfl, rkC b { d with left := max n 0, keep := keep, tear := tear } Lv av keep tear :: ownH av acs 92, I, Sel.all, by rw [har]; exact ⟨Lv, av, acs, ax, keep, tear, rfl, hF, hA, fun _ => ⟨rfl, rfl⟩, hk, ht⟩, (rfl : rkC b { d with left := max n 0, keep := keep, tear := tear } Lv av keep tear :: (ownH av acs 92 ++ (I ++ R)) = _)⟩
    · exact (by repeat (first|exact Sel.all|exact Sel.none|exact Sel.hd|(apply Sel.one; · repeat (first|exact Pick.h|apply Pick.t|apply Pick.app))|apply Sel.app|(with_reducible apply Sel.grp; · repeat (first|exact PickF.h|apply PickF.t|apply PickF.a))|(with_reducible refine Sel.nilF (by with_unfolding_all rfl) ?_)|apply Sel.drop|apply Sel.dropF))
  · simp only [List.cons_append]
    refine fn_of Try.func33 rfl Try.ntmps33 rfl rfl ?_
    refine wc_seq ?_
    refine wc_region ?_
    refine wl rfl (OP.ev rfl rfl (eAs rfl) ?_)
    refine wl_nil ?_
    refine wc_seq ?_
    refine wc_seq ?_
    refine wc_region ?_
    refine wl rfl (OP.ev rfl rfl (eMv rfl) ?_)
    refine wl rfl (OP.ev rfl rfl (eNil rfl) ?_)
    refine wl rfl (OP.ev rfl rfl (eFld 3 ty86 rfl rfl ty4 rfl) ?_)
    refine wl rfl (OP.ev rfl rfl (eLd (v := .bool true) ty4 rfl rfl (by repeat (first|exact Has.h|apply Has.t|apply Has.app)) (by show some (Value.bool d.off) = _; rw [ho])) ?_)
    refine wl_nil ?_
    refine wc_then rfl ?_
    refine wc_seq ?_
    refine wc_region ?_
    refine wl rfl (OP.ev rfl rfl (eAs rfl) ?_)
    refine wl_nil ?_
    refine wc_ret ?_
    apply at_ret rfl
    · exact (.cons (.tmp rfl) .nil)
    · exact ⟨by unfold DK.arm; rw [if_pos ho]; rfl, _, I, Sel.all, by unfold DK.arm; rw [if_pos ho]; exact hD0, (rfl : rkC b d Lv av kp tr :: (ownH av acs 92 ++ (I ++ R)) = _)⟩
    · exact (by repeat (first|exact Sel.all|exact Sel.none|exact Sel.hd|(apply Sel.one; · repeat (first|exact Pick.h|apply Pick.t|apply Pick.app))|apply Sel.app|(with_reducible apply Sel.grp; · repeat (first|exact PickF.h|apply PickF.t|apply PickF.a))|(with_reducible refine Sel.nilF (by with_unfolding_all rfl) ?_)|apply Sel.drop|apply Sel.dropF))

theorem rcrash_ok (b : Nat) (d : DK) (hd : DOk d) (keep tear : Int) (hk : I64 keep) (ht : I64 tear) (D R : Heap) (hD : RefR W0 I d b D) (hn : d.acts.length ≤ 1000000) :
    FnC W0 Try.prog 34 #[ptr b, i64 keep, i64 tear] (D ++ (I ++ R)) (RPut W0 I R b (d.crash keep tear).2 (i64 (d.crash keep tear).1)) := by
  have hD0 := hD
  obtain ⟨Lv, av, acs, ax, kp, tr, rfl, hF, hA, hkt, hk64, ht64⟩ := hD
  rcases ho : d.off with _ | _
  · have hfall := rfall_ok (W0 := W0) b d hd keep tear hk ht _ R hD0 hn
    simp only [List.cons_append] at hfall
    simp only [List.cons_append]
    refine fn_of Try.func34 rfl Try.ntmps34 rfl rfl ?_
    refine wc_seq ?_
    refine wc_region ?_
    refine wl rfl (OP.ev rfl rfl (eAs rfl) ?_)
    refine wl_nil ?_
    refine wc_seq ?_
    refine wc_seq ?_
    refine wc_region ?_
    refine wl rfl (OP.ev rfl rfl (eMv rfl) ?_)
    refine wl rfl (OP.ev rfl rfl (eNil rfl) ?_)
    refine wl rfl (OP.ev rfl rfl (eFld 3 ty86 rfl rfl ty4 rfl) ?_)
    refine wl rfl (OP.ev rfl rfl (eLd (v := .bool false) ty4 rfl rfl (by repeat (first|exact Has.h|apply Has.t|apply Has.app)) (by show some (Value.bool d.off) = _; rw [ho])) ?_)
    refine wl_nil ?_
    refine wc_else rfl ?_
    refine wc_skip ?_
    refine wc_seq ?_
    refine wc_region ?_
    refine wl rfl (OP.ev rfl rfl (eMv rfl) ?_)
    refine wl rfl (OP.ev rfl rfl (eMv rfl) ?_)
    refine wl rfl (OP.ev rfl rfl (eMv rfl) ?_)
    refine wl rfl (oC rfl pf61 rfl hfall (by repeat (first|exact Sel.all|exact Sel.none|exact Sel.hd|(apply Sel.one; · repeat (first|exact Pick.h|apply Pick.t|apply Pick.app))|apply Sel.app|(with_reducible apply Sel.grp; · repeat (first|exact PickF.h|apply PickF.t|apply PickF.a))|(with_reducible refine Sel.nilF (by with_unfolding_all rfl) ?_)|apply Sel.drop|apply Sel.dropF)) ?_)
    rintro _ _ ⟨rfl, D4, I4, hI4, hD4, rfl⟩
    refine wl_nil ?_
    refine wc_seq ?_
    refine wc_region ?_
    refine wl rfl (OP.ev rfl rfl (eAs rfl) ?_)
    refine wl_nil ?_
    refine wc_ret ?_
    apply at_ret rfl
    · exact (.cons (.tmp rfl) .nil)
    · exact ⟨by unfold DK.crash; rw [if_neg (by simp [ho])]; rfl, D4, I4, hI4, by unfold DK.crash; rw [if_neg (by simp [ho])]; exact hD4, rfl⟩
    · exact (by repeat (first|exact Sel.all|exact Sel.none|exact Sel.hd|(apply Sel.one; · repeat (first|exact Pick.h|apply Pick.t|apply Pick.app))|apply Sel.app|(with_reducible apply Sel.grp; · repeat (first|exact PickF.h|apply PickF.t|apply PickF.a))|(with_reducible refine Sel.nilF (by with_unfolding_all rfl) ?_)|apply Sel.drop|apply Sel.dropF))
  · simp only [List.cons_append]
    refine fn_of Try.func34 rfl Try.ntmps34 rfl rfl ?_
    refine wc_seq ?_
    refine wc_region ?_
    refine wl rfl (OP.ev rfl rfl (eAs rfl) ?_)
    refine wl_nil ?_
    refine wc_seq ?_
    refine wc_seq ?_
    refine wc_region ?_
    refine wl rfl (OP.ev rfl rfl (eMv rfl) ?_)
    refine wl rfl (OP.ev rfl rfl (eNil rfl) ?_)
    refine wl rfl (OP.ev rfl rfl (eFld 3 ty86 rfl rfl ty4 rfl) ?_)
    refine wl rfl (OP.ev rfl rfl (eLd (v := .bool true) ty4 rfl rfl (by repeat (first|exact Has.h|apply Has.t|apply Has.app)) (by show some (Value.bool d.off) = _; rw [ho])) ?_)
    refine wl_nil ?_
    refine wc_then rfl ?_
    refine wc_seq ?_
    refine wc_region ?_
    refine wl rfl (OP.ev rfl rfl (eAs rfl) ?_)
    refine wl_nil ?_
    refine wc_ret ?_
    apply at_ret rfl
    · exact (.cons (.tmp rfl) .nil)
    · exact ⟨by unfold DK.crash; rw [if_pos ho]; rfl, _, I, Sel.all, by unfold DK.crash; rw [if_pos ho]; exact hD0, (rfl : rkC b d Lv av kp tr :: (ownH av acs 92 ++ (I ++ R)) = _)⟩
    · exact (by repeat (first|exact Sel.all|exact Sel.none|exact Sel.hd|(apply Sel.one; · repeat (first|exact Pick.h|apply Pick.t|apply Pick.app))|apply Sel.app|(with_reducible apply Sel.grp; · repeat (first|exact PickF.h|apply PickF.t|apply PickF.a))|(with_reducible refine Sel.nilF (by with_unfolding_all rfl) ?_)|apply Sel.drop|apply Sel.dropF))

theorem rstart_ok (b : Nat) (d : DK) (D R : Heap) (hD : RefR W0 I d b D) :
    FnC W0 Try.prog 35 #[ptr b] (D ++ (I ++ R)) (RPut W0 I R b d.start.2 (i64 d.start.1)) := by
  obtain ⟨Lv, av, acs, ax, kp, tr, rfl, hF, hA, hkt, hk64, ht64⟩ := hD
  simp only [List.cons_append]
  refine fn_of Try.func35 rfl Try.ntmps35 rfl rfl ?_
  refine wc_seq ?_
  refine wc_region ?_
  refine wl rfl (OP.ev rfl rfl (eAs rfl) ?_)
  refine wl_nil ?_
  refine wc_seq ?_
  refine wc_region ?_
  refine wl rfl (OP.ev rfl rfl (eMv rfl) ?_)
  refine wl rfl (OP.ev rfl rfl (eNil rfl) ?_)
  refine wl rfl (OP.ev rfl rfl (eFld 3 ty86 rfl rfl ty4 rfl) ?_)
  refine wl rfl (oSt ty4 rfl rfl rfl rfl (by repeat (first|exact Upd.h|apply Upd.t|apply Upd.app)) (by first | decide | simp) (by rfl) ?_)
  refine wl_nil ?_
  refine wc_seq ?_
  refine wc_region ?_
  refine wl rfl (OP.ev rfl rfl (eAs rfl) ?_)
  refine wl_nil ?_
  refine wc_ret ?_
  apply at_ret rfl
  · exact (.cons (.tmp rfl) .nil)
  · exact ⟨rfl, rkC b d.start.2 Lv av kp tr :: ownH av acs 92, I, Sel.all, ⟨Lv, av, acs, ax, kp, tr, rfl, hF, hA, hkt, hk64, ht64⟩, (rfl : rkC b d.start.2 Lv av kp tr :: (ownH av acs 92 ++ (I ++ R)) = _)⟩
  · exact (by repeat (first|exact Sel.all|exact Sel.none|exact Sel.hd|(apply Sel.one; · repeat (first|exact Pick.h|apply Pick.t|apply Pick.app))|apply Sel.app|(with_reducible apply Sel.grp; · repeat (first|exact PickF.h|apply PickF.t|apply PickF.a))|(with_reducible refine Sel.nilF (by with_unfolding_all rfl) ?_)|apply Sel.drop|apply Sel.dropF))
end Go.Proofs.Ytahjgjmemijofaa
