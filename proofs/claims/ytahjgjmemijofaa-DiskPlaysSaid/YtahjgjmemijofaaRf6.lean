/- The reference's disk: its calls. No statement of the seat is proved here. -/
import Derived.Test.YtahjgjmemijofaaRf5
namespace Go.Proofs.Ytahjgjmemijofaa
open Go Eng
set_option linter.unusedVariables false
set_option linter.unusedSimpArgs false
set_option maxRecDepth 4000
variable {W0 : World} {I I' : Heap}

theorem rnew_ok (x : Int) (R : Heap) (hx : I64 x) : FnC W0 Try.prog 27 #[i64 x] R (fun v L' => (x < 0 ∨ x > 16777216) ∧ v = .tuple #[.pointer none, i64 1] ∧ L' = R ∨ (0 ≤ x ∧ x ≤ 16777216) ∧ ∃ b, v = .tuple #[ptr b, i64 0] ∧ L' = rkC b (DK.new x) (.slice none 0 0) (.slice none 0 0) 0 0 :: R) := by
  refine fn_of Try.func27 rfl Try.ntmps27 rfl rfl ?_
  refine wc_seq ?_
  refine wc_region ?_
  refine wl rfl (OP.ev rfl rfl (eAs rfl) ?_)
  refine wl rfl (OP.ev rfl rfl (eAs rfl) ?_)
  refine wl_nil ?_
  refine wc_seq ?_
  refine wc_seq ?_
  refine wc_region ?_
  refine wl rfl (OP.ev rfl rfl (eMv rfl) ?_)
  refine wl rfl (OP.evb rfl rfl (eLt rfl rfl) fun t5 h5 => ?_)
  refine wl rfl (OP.ev rfl rfl (eMv rfl) ?_)
  cases t5 with
  | true =>
    try have c_t5 := dt h5
    first
    | (exfalso; omega)
    | (
      refine wl_skip rfl rfl rfl rfl rfl ?_
      refine wl_skip rfl rfl rfl rfl rfl ?_
      refine wl rfl (OP.ev rfl rfl (ePk rfl rfl) ?_)
      refine wl_nil ?_
      refine wc_then rfl ?_
      refine wc_seq ?_
      refine wc_region ?_
      refine wl rfl (OP.ev rfl rfl (eAs rfl) ?_)
      refine wl rfl (OP.ev rfl rfl (eAs rfl) ?_)
      refine wl_nil ?_
      refine wc_ret ?_
      apply at_ret rfl
      · exact (.cons (.tmp rfl) (.cons (.tmp rfl) .nil))
      · first
        | exact .inl ⟨by omega, rfl, rfl⟩
        | exact .inr ⟨by omega, _, rfl, rfl⟩
      · exact (by repeat (first | exact Sel.all | exact Sel.none | exact Sel.hd | (apply Sel.one; · repeat (first | exact Pick.h | apply Pick.t | apply Pick.app)) | apply Sel.app | (with_reducible apply Sel.grp; · repeat (first | exact PickF.h | apply PickF.t | apply PickF.a)) | (with_reducible refine Sel.nilF (by with_unfolding_all rfl) ?_) | apply Sel.drop | apply Sel.dropF)))
  | false =>
    try have c_t5 := df h5
    first
    | (exfalso; omega)
    | (
      refine wl_go rfl rfl (OP.ev rfl rfl (eMv rfl) ?_)
      refine wl_go rfl rfl (OP.evb rfl rfl (eGt rfl rfl) fun t8 h8 => ?_)
      refine wl rfl (OP.ev rfl rfl (ePk rfl rfl) ?_)
      refine wl_nil ?_
      cases t8 with
      | true =>
        try have c_t8 := dt h8
        first
        | (exfalso; omega)
        | (
          refine wc_then rfl ?_
          refine wc_seq ?_
          refine wc_region ?_
          refine wl rfl (OP.ev rfl rfl (eAs rfl) ?_)
          refine wl rfl (OP.ev rfl rfl (eAs rfl) ?_)
          refine wl_nil ?_
          refine wc_ret ?_
          apply at_ret rfl
          · exact (.cons (.tmp rfl) (.cons (.tmp rfl) .nil))
          · first
            | exact .inl ⟨by omega, rfl, rfl⟩
            | exact .inr ⟨by omega, _, rfl, rfl⟩
          · exact (by repeat (first | exact Sel.all | exact Sel.none | exact Sel.hd | (apply Sel.one; · repeat (first | exact Pick.h | apply Pick.t | apply Pick.app)) | apply Sel.app | (with_reducible apply Sel.grp; · repeat (first | exact PickF.h | apply PickF.t | apply PickF.a)) | (with_reducible refine Sel.nilF (by with_unfolding_all rfl) ?_) | apply Sel.drop | apply Sel.dropF)))
      | false =>
        try have c_t8 := df h8
        first
        | (exfalso; omega)
        | (
          refine wc_else rfl ?_
          refine wc_skip ?_
          refine wc_seq ?_
          refine wc_region ?_
          refine wl rfl (OP.ev rfl rfl (eMv rfl) ?_)
          refine wl rfl (OP.ev rfl rfl (eBuL (cells := [_, .slice none 0 0, .slice none 0 0, .bool false, .int .i64 0, .int .i64 0, .int .i64 0]) ty86 pl86 rfl rfl) ?_)
          refine wl rfl (oBox rfl rfl rfl fun b12 => ?_)
          refine wl rfl (OP.ev rfl rfl (eAs rfl) ?_)
          refine wl rfl (OP.ev rfl rfl (eAs rfl) ?_)
          refine wl_nil ?_
          refine wc_ret ?_
          apply at_ret rfl
          · exact (.cons (.tmp rfl) (.cons (.tmp rfl) .nil))
          · first
            | exact .inl ⟨by omega, rfl, rfl⟩
            | exact .inr ⟨by omega, _, rfl, rfl⟩
          · exact (by repeat (first | exact Sel.all | exact Sel.none | exact Sel.hd | (apply Sel.one; · repeat (first | exact Pick.h | apply Pick.t | apply Pick.app)) | apply Sel.app | (with_reducible apply Sel.grp; · repeat (first | exact PickF.h | apply PickF.t | apply PickF.a)) | (with_reducible refine Sel.nilF (by with_unfolding_all rfl) ?_) | apply Sel.drop | apply Sel.dropF))))
theorem rnew_ref (x : Int) (b : Nat) : RefR W0 [] (DK.new x) b [rkC b (DK.new x) (.slice none 0 0) (.slice none 0 0) 0 0] :=
  ⟨_, _, #[], [], 0, 0, rfl, ⟨[], Rs.nil 2, rfl, by intro t ht; simp at ht⟩, RActs.nil, fun h => absurd rfl h, by simp [I64], by simp [I64]⟩

theorem RefR.open {d : DK} {b : Nat} {D : Heap} (h : RefR W0 I d b D) : ∃ Lv av acs ax kp tr, D = rkC b d Lv av kp tr :: ownH av acs 92 ∧ FilesV W0 I Lv d.last ∧ RActs W0 I av acs ax d.acts ∧ (d.left ≠ 0 → kp = d.keep ∧ tr = d.tear) ∧ I64 kp ∧ I64 tr := h

/-- files as they are seen, of a disk in memory -/
theorem rfiles_ok (b : Nat) (d : DK) (hd : DOk d) (D R : Heap) (hD : RefR W0 I d b D) (hn : d.acts.length ≤ 1000000) :
    FnC W0 Try.prog 57 #[ptr b] (D ++ (I ++ R)) (fun v L' => ∃ I', Sel I' I ∧ FilesV W0 I' v d.seen ∧ L' = D ++ (I' ++ R)) := by
  obtain ⟨Lv, av, acs, ax, kp, tr, rfl, hF, hA, _⟩ := hD
  exact files_ok b d hd Lv av acs ax kp tr hF hA hn R

theorem rtrim_ok (b : Nat) (d : DK) (hd : DOk d) (k : Nm) (hkl : k.length ≤ 9223372036854775807) (n : Int) (hn64 : I64 n) (D R : Heap) (hD : RefR W0 I d b D) (hn : d.acts.length < 1000000) :
    FnC W0 Try.prog 29 #[ptr b, strK k, i64 n] (D ++ (I ++ R)) (RPut W0 I R b (d.trim k n).2 (i64 (d.trim k n).1)) := by
  have huse := hd.use
  have hgl := hd.get_len k
  have hsn := hd.snum
  refine fn_of Try.func29 rfl Try.ntmps29 rfl rfl ?_
  refine wc_seq ?_
  refine wc_region ?_
  refine wl rfl (OP.ev rfl rfl (eAs rfl) ?_)
  refine wl_nil ?_
  refine wc_seq ?_
  refine wc_seq ?_
  refine wc_region ?_
  refine wl rfl (OP.ev rfl rfl (eMv rfl) ?_)
  refine wl rfl (OP.ev rfl rfl (eMv rfl) ?_)
  refine wl rfl (oC rfl pf55 rfl (why_ok b d hd k hkl D _ hD (by omega)) (by repeat (first | exact Sel.all | exact Sel.none | exact Sel.hd | (apply Sel.one; · repeat (first | exact Pick.h | apply Pick.t | apply Pick.app)) | apply Sel.app | (with_reducible apply Sel.grp; · repeat (first | exact PickF.h | apply PickF.t | apply PickF.a)) | (with_reducible refine Sel.nilF (by with_unfolding_all rfl) ?_) | apply Sel.drop | apply Sel.dropF)) ?_)
  rintro _ _ ⟨rfl, I1, hI1, rfl⟩
  refine wl rfl (OP.ev rfl rfl (eAs rfl) ?_)
  refine wl_nil ?_
  refine wc_seq ?_
  refine wc_region ?_
  refine wl rfl (OP.ev rfl rfl (eMv rfl) ?_)
  refine wl rfl (OP.evb rfl rfl (eNe rfl rfl) fun t14 h14 => ?_)
  refine wl_nil ?_
  cases t14 with
  | true =>
    try have c_t14 := dt h14
    first
    | (exfalso; omega)
    | (
      refine wc_then rfl ?_
      refine wc_seq ?_
      refine wc_region ?_
      refine wl rfl (OP.ev rfl rfl (eMv rfl) ?_)
      refine wl rfl (OP.ev rfl rfl (eAs rfl) ?_)
      refine wl_nil ?_
      refine wc_ret ?_
      apply at_ret rfl
      · exact (.cons (.tmp rfl) .nil)
      · first
        | exact ⟨by unfold DK.trim; rw [if_neg (by omega), if_neg (by omega)]; rfl, D4, I4, (hI4.trans hI2).trans hI1, by unfold DK.trim; rw [if_neg (by omega), if_neg (by omega)]; exact hD4, rfl⟩
        | exact ⟨by unfold DK.trim; rw [if_neg (by omega), if_pos (by omega)]; rfl, D, I2, hI2.trans hI1, by unfold DK.trim; rw [if_neg (by omega), if_pos (by omega)]; exact (hD.sel hI1).sel hI2, rfl⟩
        | exact ⟨by unfold DK.trim; rw [if_pos (by omega)]; rfl, D, I1, hI1, by unfold DK.trim; rw [if_pos (by omega)]; exact hD.sel hI1, rfl⟩
      · exact (by repeat (first | exact Sel.all | exact Sel.none | exact Sel.hd | (apply Sel.one; · repeat (first | exact Pick.h | apply Pick.t | apply Pick.app)) | apply Sel.app | (with_reducible apply Sel.grp; · repeat (first | exact PickF.h | apply PickF.t | apply PickF.a)) | (with_reducible refine Sel.nilF (by with_unfolding_all rfl) ?_) | apply Sel.drop | apply Sel.dropF)))
  | false =>
    try have c_t14 := df h14
    first
    | (exfalso; omega)
    | (
      refine wc_else rfl ?_
      refine wc_skip ?_
      refine wc_seq ?_
      refine wc_region ?_
      refine wl rfl (OP.ev rfl rfl (eMv rfl) ?_)
      refine wl rfl (oC rfl pf57 rfl (rfiles_ok b d hd D _ (hD.sel hI1) (by omega)) (by repeat (first | exact Sel.all | exact Sel.none | exact Sel.hd | (apply Sel.one; · repeat (first | exact Pick.h | apply Pick.t | apply Pick.app)) | apply Sel.app | (with_reducible apply Sel.grp; · repeat (first | exact PickF.h | apply PickF.t | apply PickF.a)) | (with_reducible refine Sel.nilF (by with_unfolding_all rfl) ?_) | apply Sel.drop | apply Sel.dropF)) ?_)
      rintro _ _ ⟨I2, hI2, hF2, rfl⟩
      refine wl rfl (OP.ev rfl rfl (eMv rfl) ?_)
      refine wl rfl (oC rfl pf56 rfl (get_ok _ d.seen k _ hF2 (by omega)) (by repeat (first | exact Sel.all | exact Sel.none | exact Sel.hd | (apply Sel.one; · repeat (first | exact Pick.h | apply Pick.t | apply Pick.app)) | apply Sel.app | (with_reducible apply Sel.grp; · repeat (first | exact PickF.h | apply PickF.t | apply PickF.a)) | (with_reducible refine Sel.nilF (by with_unfolding_all rfl) ?_) | apply Sel.drop | apply Sel.dropF)) ?_)
      rintro _ _ ⟨w, rfl, hw, hwB, rfl⟩
      refine wl rfl (OP.ev rfl rfl (eMv rfl) ?_)
      refine wl rfl (OP.ev rfl rfl (eExt rfl rfl) ?_)
      refine wl rfl (OP.ev rfl rfl (eExt rfl rfl) ?_)
      refine wl rfl (OP.ev rfl rfl (eAs rfl) ?_)
      refine wl rfl (OP.ev rfl rfl (eAs rfl) ?_)
      refine wl_nil ?_
      refine wc_seq ?_
      refine wc_seq ?_
      refine wc_region ?_
      refine wl rfl (OP.ev rfl rfl (eMv rfl) ?_)
      refine wl rfl (OP.evb rfl rfl (eLt rfl rfl) fun t24 h24 => ?_)
      refine wl rfl (OP.ev rfl rfl (eMv rfl) ?_)
      cases t24 with
      | true =>
        try have c_t24 := dt h24
        first
        | (exfalso; omega)
        | (
          refine wl_skip rfl rfl rfl rfl rfl ?_
          refine wl_skip rfl rfl rfl rfl rfl ?_
          refine wl_skip rfl rfl rfl rfl rfl ?_
          refine wl_skip rfl rfl rfl rfl rfl ?_
          refine wl rfl (OP.ev rfl rfl (ePk rfl rfl) ?_)
          refine wl_nil ?_
          refine wc_then rfl ?_
          refine wc_seq ?_
          refine wc_region ?_
          refine wl rfl (OP.ev rfl rfl (eAs rfl) ?_)
          refine wl_nil ?_
          refine wc_ret ?_
          apply at_ret rfl
          · exact (.cons (.tmp rfl) .nil)
          · first
            | exact ⟨by unfold DK.trim; rw [if_neg (by omega), if_neg (by omega)]; rfl, D4, I4, (hI4.trans hI2).trans hI1, by unfold DK.trim; rw [if_neg (by omega), if_neg (by omega)]; exact hD4, rfl⟩
            | exact ⟨by unfold DK.trim; rw [if_neg (by omega), if_pos (by omega)]; rfl, D, I2, hI2.trans hI1, by unfold DK.trim; rw [if_neg (by omega), if_pos (by omega)]; exact (hD.sel hI1).sel hI2, rfl⟩
            | exact ⟨by unfold DK.trim; rw [if_pos (by omega)]; rfl, D, I1, hI1, by unfold DK.trim; rw [if_pos (by omega)]; exact hD.sel hI1, rfl⟩
          · exact (by repeat (first | exact Sel.all | exact Sel.none | exact Sel.hd | (apply Sel.one; · repeat (first | exact Pick.h | apply Pick.t | apply Pick.app)) | apply Sel.app | (with_reducible apply Sel.grp; · repeat (first | exact PickF.h | apply PickF.t | apply PickF.a)) | (with_reducible refine Sel.nilF (by with_unfolding_all rfl) ?_) | apply Sel.drop | apply Sel.dropF)))
      | false =>
        try have c_t24 := df h24
        first
        | (exfalso; omega)
        | (
          refine wl_go rfl rfl (OP.ev rfl rfl (eMv rfl) ?_)
          refine wl_go rfl rfl (OP.ev rfl rfl (eMv rfl) ?_)
          refine wl_go rfl rfl (OP.ev rfl rfl (eLenR ty30 rfl (hw.sel (by repeat (first | exact Sel.all | exact Sel.none | exact Sel.hd | (apply Sel.one; · repeat (first | exact Pick.h | apply Pick.t | apply Pick.app)) | apply Sel.app | (with_reducible apply Sel.grp; · repeat (first | exact PickF.h | apply PickF.t | apply PickF.a)) | (with_reducible refine Sel.nilF (by with_unfolding_all rfl) ?_) | apply Sel.drop | apply Sel.dropF)))) ?_)
          refine wl_go rfl rfl (OP.evb rfl rfl (eGt rfl rfl) fun t29 h29 => ?_)
          refine wl rfl (OP.ev rfl rfl (ePk rfl rfl) ?_)
          refine wl_nil ?_
          cases t29 with
          | true =>
            try have c_t29 := dt h29
            first
            | (exfalso; omega)
            | (
              refine wc_then rfl ?_
              refine wc_seq ?_
              refine wc_region ?_
              refine wl rfl (OP.ev rfl rfl (eAs rfl) ?_)
              refine wl_nil ?_
              refine wc_ret ?_
              apply at_ret rfl
              · exact (.cons (.tmp rfl) .nil)
              · first
                | exact ⟨by unfold DK.trim; rw [if_neg (by omega), if_neg (by omega)]; rfl, D4, I4, (hI4.trans hI2).trans hI1, by unfold DK.trim; rw [if_neg (by omega), if_neg (by omega)]; exact hD4, rfl⟩
                | exact ⟨by unfold DK.trim; rw [if_neg (by omega), if_pos (by omega)]; rfl, D, I2, hI2.trans hI1, by unfold DK.trim; rw [if_neg (by omega), if_pos (by omega)]; exact (hD.sel hI1).sel hI2, rfl⟩
                | exact ⟨by unfold DK.trim; rw [if_pos (by omega)]; rfl, D, I1, hI1, by unfold DK.trim; rw [if_pos (by omega)]; exact hD.sel hI1, rfl⟩
              · exact (by repeat (first | exact Sel.all | exact Sel.none | exact Sel.hd | (apply Sel.one; · repeat (first | exact Pick.h | apply Pick.t | apply Pick.app)) | apply Sel.app | (with_reducible apply Sel.grp; · repeat (first | exact PickF.h | apply PickF.t | apply PickF.a)) | (with_reducible refine Sel.nilF (by with_unfolding_all rfl) ?_) | apply Sel.drop | apply Sel.dropF)))
          | false =>
            try have c_t29 := df h29
            first
            | (exfalso; omega)
            | (
              refine wc_else rfl ?_
              refine wc_skip ?_
              refine wc_seq ?_
              have hf0 : d.find k = 0 := by omega
              obtain ⟨ho, hm, _⟩ := find_zero hf0
              have hadd := radd_ok (W0 := W0) b d hd ho ⟨1, k, [], n, []⟩ (.slice none 0 0) (can_trim hd hf0 (by omega) (by omega)) (by show ((total d.last + costs d.acts + 0 : Nat) : Int) ≤ _; omega) ⟨may_len hm, by simp⟩ (Rs.nil 1) (fun x hx => by simp at hx) D R ((hD.sel hI1).sel hI2) hn
              refine wc_region ?_
              refine wl rfl (OP.ev rfl rfl (eMv rfl) ?_)
              refine wl rfl (OP.ev rfl rfl (eMv rfl) ?_)
              refine wl rfl (OP.ev rfl rfl (eMv rfl) ?_)
              refine wl rfl (OP.ev rfl rfl (eBuL (cells := [_, _, .string ⟨#[]⟩, _, .slice none 0 0]) ty92 pl92 rfl rfl) ?_)
              refine wl rfl (oC rfl pf58 rfl hadd (by repeat (first | exact Sel.all | exact Sel.none | exact Sel.hd | (apply Sel.one; · repeat (first | exact Pick.h | apply Pick.t | apply Pick.app)) | apply Sel.app | (with_reducible apply Sel.grp; · repeat (first | exact PickF.h | apply PickF.t | apply PickF.a)) | (with_reducible refine Sel.nilF (by with_unfolding_all rfl) ?_) | apply Sel.drop | apply Sel.dropF)) ?_)
              rintro _ _ ⟨rfl, D4, I4, hI4, hD4, rfl⟩
              refine wl rfl (OP.ev rfl rfl (eAs rfl) ?_)
              refine wl_nil ?_
              refine wc_ret ?_
              apply at_ret rfl
              · exact (.cons (.tmp rfl) .nil)
              · first
                | exact ⟨by unfold DK.trim; rw [if_neg (by omega), if_neg (by omega)]; rfl, D4, I4, (hI4.trans hI2).trans hI1, by unfold DK.trim; rw [if_neg (by omega), if_neg (by omega)]; exact hD4, rfl⟩
                | exact ⟨by unfold DK.trim; rw [if_neg (by omega), if_pos (by omega)]; rfl, D, I2, hI2.trans hI1, by unfold DK.trim; rw [if_neg (by omega), if_pos (by omega)]; exact (hD.sel hI1).sel hI2, rfl⟩
                | exact ⟨by unfold DK.trim; rw [if_pos (by omega)]; rfl, D, I1, hI1, by unfold DK.trim; rw [if_pos (by omega)]; exact hD.sel hI1, rfl⟩
              · exact (by repeat (first | exact Sel.all | exact Sel.none | exact Sel.hd | (apply Sel.one; · repeat (first | exact Pick.h | apply Pick.t | apply Pick.app)) | apply Sel.app | (with_reducible apply Sel.grp; · repeat (first | exact PickF.h | apply PickF.t | apply PickF.a)) | (with_reducible refine Sel.nilF (by with_unfolding_all rfl) ?_) | apply Sel.drop | apply Sel.dropF)))))

theorem rmove_ok (b : Nat) (d : DK) (hd : DOk d) (k j : Nm) (hkl : k.length ≤ 9223372036854775807) (hjl : j.length ≤ 9223372036854775807) (D R : Heap) (hD : RefR W0 I d b D) (hn : d.acts.length < 1000000) :
    FnC W0 Try.prog 30 #[ptr b, strK k, strK j] (D ++ (I ++ R)) (RPut W0 I R b (d.move k j).2 (i64 (d.move k j).1)) := by
  have huse := hd.use
  refine fn_of Try.func30 rfl Try.ntmps30 rfl rfl ?_
  refine wc_seq ?_
  refine wc_region ?_
  refine wl rfl (OP.ev rfl rfl (eAs rfl) ?_)
  refine wl_nil ?_
  refine wc_seq ?_
  refine wc_seq ?_
  refine wc_region ?_
  refine wl rfl (OP.ev rfl rfl (eMv rfl) ?_)
  refine wl rfl (OP.ev rfl rfl (eMv rfl) ?_)
  refine wl rfl (oC rfl pf55 rfl (why_ok b d hd k hkl D _ hD (by omega)) (by repeat (first | exact Sel.all | exact Sel.none | exact Sel.hd | (apply Sel.one; · repeat (first | exact Pick.h | apply Pick.t | apply Pick.app)) | apply Sel.app | (with_reducible apply Sel.grp; · repeat (first | exact PickF.h | apply PickF.t | apply PickF.a)) | (with_reducible refine Sel.nilF (by with_unfolding_all rfl) ?_) | apply Sel.drop | apply Sel.dropF)) ?_)
  rintro _ _ ⟨rfl, I1, hI1, rfl⟩
  refine wl rfl (OP.ev rfl rfl (eAs rfl) ?_)
  refine wl_nil ?_
  refine wc_seq ?_
  refine wc_region ?_
  refine wl rfl (OP.ev rfl rfl (eMv rfl) ?_)
  refine wl rfl (OP.evb rfl rfl (eNe rfl rfl) fun t12 h12 => ?_)
  refine wl_nil ?_
  cases t12 with
  | true =>
    try have c_t12 := dt h12
    first
    | (exfalso; omega)
    | (
      refine wc_then rfl ?_
      refine wc_seq ?_
      refine wc_region ?_
      refine wl rfl (OP.ev rfl rfl (eMv rfl) ?_)
      refine wl rfl (OP.ev rfl rfl (eAs rfl) ?_)
      refine wl_nil ?_
      refine wc_ret ?_
      apply at_ret rfl
      · exact (.cons (.tmp rfl) .nil)
      · first
        | exact ⟨by unfold DK.move; rw [if_neg (by omega), if_neg (by simp [hmj])]; rfl, D4, I4, hI4.trans hI1, by unfold DK.move; rw [if_neg (by omega), if_neg (by simp [hmj])]; exact hD4, rfl⟩
        | exact ⟨by unfold DK.move; rw [if_neg (by omega), if_pos (by simpa using h16)]; rfl, D, I1, hI1, by unfold DK.move; rw [if_neg (by omega), if_pos (by simpa using h16)]; exact hD.sel hI1, rfl⟩
        | exact ⟨by unfold DK.move; rw [if_pos (by omega)]; rfl, D, I1, hI1, by unfold DK.move; rw [if_pos (by omega)]; exact hD.sel hI1, rfl⟩
      · exact (by repeat (first | exact Sel.all | exact Sel.none | exact Sel.hd | (apply Sel.one; · repeat (first | exact Pick.h | apply Pick.t | apply Pick.app)) | apply Sel.app | (with_reducible apply Sel.grp; · repeat (first | exact PickF.h | apply PickF.t | apply PickF.a)) | (with_reducible refine Sel.nilF (by with_unfolding_all rfl) ?_) | apply Sel.drop | apply Sel.dropF)))
  | false =>
    try have c_t12 := df h12
    first
    | (exfalso; omega)
    | (
      refine wc_else rfl ?_
      refine wc_skip ?_
      refine wc_seq ?_
      refine wc_seq ?_
      refine wc_region ?_
      refine wl rfl (OP.ev rfl rfl (eMv rfl) ?_)
      refine wl rfl (oCA rfl pf59 rfl (name59_ok j _ hjl) ?_)
      rintro _ _ ⟨rfl, rfl⟩
      refine wl rfl (OP.evb rfl rfl (eNot rfl) fun t16 h16 => ?_)
      refine wl_nil ?_
      cases t16 with
      | true =>
        try have c_t16 := dt h16
        first
        | (exfalso; omega)
        | (
          refine wc_then rfl ?_
          refine wc_seq ?_
          refine wc_region ?_
          refine wl rfl (OP.ev rfl rfl (eAs rfl) ?_)
          refine wl_nil ?_
          refine wc_ret ?_
          apply at_ret rfl
          · exact (.cons (.tmp rfl) .nil)
          · first
            | exact ⟨by unfold DK.move; rw [if_neg (by omega), if_neg (by simp [hmj])]; rfl, D4, I4, hI4.trans hI1, by unfold DK.move; rw [if_neg (by omega), if_neg (by simp [hmj])]; exact hD4, rfl⟩
            | exact ⟨by unfold DK.move; rw [if_neg (by omega), if_pos (by simpa using h16)]; rfl, D, I1, hI1, by unfold DK.move; rw [if_neg (by omega), if_pos (by simpa using h16)]; exact hD.sel hI1, rfl⟩
            | exact ⟨by unfold DK.move; rw [if_pos (by omega)]; rfl, D, I1, hI1, by unfold DK.move; rw [if_pos (by omega)]; exact hD.sel hI1, rfl⟩
          · exact (by repeat (first | exact Sel.all | exact Sel.none | exact Sel.hd | (apply Sel.one; · repeat (first | exact Pick.h | apply Pick.t | apply Pick.app)) | apply Sel.app | (with_reducible apply Sel.grp; · repeat (first | exact PickF.h | apply PickF.t | apply PickF.a)) | (with_reducible refine Sel.nilF (by with_unfolding_all rfl) ?_) | apply Sel.drop | apply Sel.dropF)))
      | false =>
        try have c_t16 := df h16
        first
        | (exfalso; omega)
        | (
          refine wc_else rfl ?_
          refine wc_skip ?_
          refine wc_seq ?_
          have hf0 : d.find k = 0 := by omega
          have hmj : may j = true := by simpa using h16
          obtain ⟨ho, hm, _⟩ := find_zero hf0
          have hadd := radd_ok (W0 := W0) b d hd ho ⟨2, k, j, 0, []⟩ (.slice none 0 0) (can_move hd hf0) (by show ((total d.last + costs d.acts + 0 : Nat) : Int) ≤ _; omega) ⟨may_len hm, may_len hmj⟩ (Rs.nil 1) (fun x hx => by simp at hx) D R (hD.sel hI1) hn
          refine wc_region ?_
          refine wl rfl (OP.ev rfl rfl (eMv rfl) ?_)
          refine wl rfl (OP.ev rfl rfl (eMv rfl) ?_)
          refine wl rfl (OP.ev rfl rfl (eMv rfl) ?_)
          refine wl rfl (OP.ev rfl rfl (eBuL (cells := [_, _, _, .int .i64 0, .slice none 0 0]) ty92 pl92 rfl rfl) ?_)
          refine wl rfl (oC rfl pf58 rfl hadd (by repeat (first | exact Sel.all | exact Sel.none | exact Sel.hd | (apply Sel.one; · repeat (first | exact Pick.h | apply Pick.t | apply Pick.app)) | apply Sel.app | (with_reducible apply Sel.grp; · repeat (first | exact PickF.h | apply PickF.t | apply PickF.a)) | (with_reducible refine Sel.nilF (by with_unfolding_all rfl) ?_) | apply Sel.drop | apply Sel.dropF)) ?_)
          rintro _ _ ⟨rfl, D4, I4, hI4, hD4, rfl⟩
          refine wl rfl (OP.ev rfl rfl (eAs rfl) ?_)
          refine wl_nil ?_
          refine wc_ret ?_
          apply at_ret rfl
          · exact (.cons (.tmp rfl) .nil)
          · first
            | exact ⟨by unfold DK.move; rw [if_neg (by omega), if_neg (by simp [hmj])]; rfl, D4, I4, hI4.trans hI1, by unfold DK.move; rw [if_neg (by omega), if_neg (by simp [hmj])]; exact hD4, rfl⟩
            | exact ⟨by unfold DK.move; rw [if_neg (by omega), if_pos (by simpa using h16)]; rfl, D, I1, hI1, by unfold DK.move; rw [if_neg (by omega), if_pos (by simpa using h16)]; exact hD.sel hI1, rfl⟩
            | exact ⟨by unfold DK.move; rw [if_pos (by omega)]; rfl, D, I1, hI1, by unfold DK.move; rw [if_pos (by omega)]; exact hD.sel hI1, rfl⟩
          · exact (by repeat (first | exact Sel.all | exact Sel.none | exact Sel.hd | (apply Sel.one; · repeat (first | exact Pick.h | apply Pick.t | apply Pick.app)) | apply Sel.app | (with_reducible apply Sel.grp; · repeat (first | exact PickF.h | apply PickF.t | apply PickF.a)) | (with_reducible refine Sel.nilF (by with_unfolding_all rfl) ?_) | apply Sel.drop | apply Sel.dropF))))

theorem rdrop_ok (b : Nat) (d : DK) (hd : DOk d) (k : Nm) (hkl : k.length ≤ 9223372036854775807) (D R : Heap) (hD : RefR W0 I d b D) (hn : d.acts.length < 1000000) :
    FnC W0 Try.prog 31 #[ptr b, strK k] (D ++ (I ++ R)) (RPut W0 I R b (d.drop k).2 (i64 (d.drop k).1)) := by
  have huse := hd.use
  refine fn_of Try.func31 rfl Try.ntmps31 rfl rfl ?_
  refine wc_seq ?_
  refine wc_region ?_
  refine wl rfl (OP.ev rfl rfl (eAs rfl) ?_)
  refine wl_nil ?_
  refine wc_seq ?_
  refine wc_seq ?_
  refine wc_region ?_
  refine wl rfl (OP.ev rfl rfl (eMv rfl) ?_)
  refine wl rfl (OP.ev rfl rfl (eMv rfl) ?_)
  refine wl rfl (oC rfl pf55 rfl (why_ok b d hd k hkl D _ hD (by omega)) (by repeat (first | exact Sel.all | exact Sel.none | exact Sel.hd | (apply Sel.one; · repeat (first | exact Pick.h | apply Pick.t | apply Pick.app)) | apply Sel.app | (with_reducible apply Sel.grp; · repeat (first | exact PickF.h | apply PickF.t | apply PickF.a)) | (with_reducible refine Sel.nilF (by with_unfolding_all rfl) ?_) | apply Sel.drop | apply Sel.dropF)) ?_)
  rintro _ _ ⟨rfl, I1, hI1, rfl⟩
  refine wl rfl (OP.ev rfl rfl (eAs rfl) ?_)
  refine wl_nil ?_
  refine wc_seq ?_
  refine wc_region ?_
  refine wl rfl (OP.ev rfl rfl (eMv rfl) ?_)
  refine wl rfl (OP.evb rfl rfl (eNe rfl rfl) fun t10 h10 => ?_)
  refine wl_nil ?_
  cases t10 with
  | true =>
    try have c_t10 := dt h10
    first
    | (exfalso; omega)
    | (
      refine wc_then rfl ?_
      refine wc_seq ?_
      refine wc_region ?_
      refine wl rfl (OP.ev rfl rfl (eMv rfl) ?_)
      refine wl rfl (OP.ev rfl rfl (eAs rfl) ?_)
      refine wl_nil ?_
      refine wc_ret ?_
      apply at_ret rfl
      · exact (.cons (.tmp rfl) .nil)
      · first
        | exact ⟨by unfold DK.drop; rw [if_neg (by omega)]; rfl, D4, I4, hI4.trans hI1, by unfold DK.drop; rw [if_neg (by omega)]; exact hD4, rfl⟩
        | exact ⟨by unfold DK.drop; rw [if_pos (by omega)]; rfl, D, I1, hI1, by unfold DK.drop; rw [if_pos (by omega)]; exact hD.sel hI1, rfl⟩
      · exact (by repeat (first | exact Sel.all | exact Sel.none | exact Sel.hd | (apply Sel.one; · repeat (first | exact Pick.h | apply Pick.t | apply Pick.app)) | apply Sel.app | (with_reducible apply Sel.grp; · repeat (first | exact PickF.h | apply PickF.t | apply PickF.a)) | (with_reducible refine Sel.nilF (by with_unfolding_all rfl) ?_) | apply Sel.drop | apply Sel.dropF)))
  | false =>
    try have c_t10 := df h10
    first
    | (exfalso; omega)
    | (
      refine wc_else rfl ?_
      refine wc_skip ?_
      refine wc_seq ?_
      have hf0 : d.find k = 0 := by omega
      obtain ⟨ho, hm, _⟩ := find_zero hf0
      have hadd := radd_ok (W0 := W0) b d hd ho ⟨3, k, [], 0, []⟩ (.slice none 0 0) (can_drop hd hf0) (by show ((total d.last + costs d.acts + 0 : Nat) : Int) ≤ _; omega) ⟨may_len hm, by simp⟩ (Rs.nil 1) (fun x hx => by simp at hx) D R (hD.sel hI1) hn
      refine wc_region ?_
      refine wl rfl (OP.ev rfl rfl (eMv rfl) ?_)
      refine wl rfl (OP.ev rfl rfl (eMv rfl) ?_)
      refine wl rfl (OP.ev rfl rfl (eBuL (cells := [_, _, .string ⟨#[]⟩, .int .i64 0, .slice none 0 0]) ty92 pl92 rfl rfl) ?_)
      refine wl rfl (oC rfl pf58 rfl hadd (by repeat (first | exact Sel.all | exact Sel.none | exact Sel.hd | (apply Sel.one; · repeat (first | exact Pick.h | apply Pick.t | apply Pick.app)) | apply Sel.app | (with_reducible apply Sel.grp; · repeat (first | exact PickF.h | apply PickF.t | apply PickF.a)) | (with_reducible refine Sel.nilF (by with_unfolding_all rfl) ?_) | apply Sel.drop | apply Sel.dropF)) ?_)
      rintro _ _ ⟨rfl, D4, I4, hI4, hD4, rfl⟩
      refine wl rfl (OP.ev rfl rfl (eAs rfl) ?_)
      refine wl_nil ?_
      refine wc_ret ?_
      apply at_ret rfl
      · exact (.cons (.tmp rfl) .nil)
      · first
        | exact ⟨by unfold DK.drop; rw [if_neg (by omega)]; rfl, D4, I4, hI4.trans hI1, by unfold DK.drop; rw [if_neg (by omega)]; exact hD4, rfl⟩
        | exact ⟨by unfold DK.drop; rw [if_pos (by omega)]; rfl, D, I1, hI1, by unfold DK.drop; rw [if_pos (by omega)]; exact hD.sel hI1, rfl⟩
      · exact (by repeat (first | exact Sel.all | exact Sel.none | exact Sel.hd | (apply Sel.one; · repeat (first | exact Pick.h | apply Pick.t | apply Pick.app)) | apply Sel.app | (with_reducible apply Sel.grp; · repeat (first | exact PickF.h | apply PickF.t | apply PickF.a)) | (with_reducible refine Sel.nilF (by with_unfolding_all rfl) ?_) | apply Sel.drop | apply Sel.dropF)))

theorem rread_ok (b : Nat) (d : DK) (hd : DOk d) (k : Nm) (hkl : k.length ≤ 9223372036854775807) (D R : Heap) (hD : RefR W0 I d b D) (hn : d.acts.length < 1000000) :
    FnC W0 Try.prog 37 #[ptr b, strK k] (D ++ (I ++ R)) (fun v L' => ∃ w I', v = .tuple #[w, i64 (d.read k).2] ∧ Sel I' I ∧ Rs W0 I' w 1 (d.read k).1.length (byteV (d.read k).1) ∧ IsB (d.read k).1 ∧ L' = D ++ (I' ++ R)) := by
  have hsn := hd.snum
  refine fn_of Try.func37 rfl Try.ntmps37 rfl rfl ?_
  refine wc_seq ?_
  refine wc_region ?_
  refine wl rfl (OP.ev rfl rfl (eAs rfl) ?_)
  refine wl rfl (OP.ev rfl rfl (eAs rfl) ?_)
  refine wl_nil ?_
  refine wc_seq ?_
  refine wc_seq ?_
  refine wc_region ?_
  refine wl rfl (OP.ev rfl rfl (eMv rfl) ?_)
  refine wl rfl (OP.ev rfl rfl (eMv rfl) ?_)
  refine wl rfl (oC rfl pf55 rfl (why_ok b d hd k hkl D _ hD (by omega)) (by repeat (first | exact Sel.all | exact Sel.none | exact Sel.hd | (apply Sel.one; · repeat (first | exact Pick.h | apply Pick.t | apply Pick.app)) | apply Sel.app | (with_reducible apply Sel.grp; · repeat (first | exact PickF.h | apply PickF.t | apply PickF.a)) | (with_reducible refine Sel.nilF (by with_unfolding_all rfl) ?_) | apply Sel.drop | apply Sel.dropF)) ?_)
  rintro _ _ ⟨rfl, I1, hI1, rfl⟩
  refine wl rfl (OP.ev rfl rfl (eAs rfl) ?_)
  refine wl_nil ?_
  refine wc_seq ?_
  refine wc_region ?_
  refine wl rfl (OP.ev rfl rfl (eMv rfl) ?_)
  refine wl rfl (OP.evb rfl rfl (eNe rfl rfl) fun t13 h13 => ?_)
  refine wl_nil ?_
  cases t13 with
  | true =>
    try have c_t13 := dt h13
    first
    | (exfalso; omega)
    | (
      refine wc_then rfl ?_
      refine wc_seq ?_
      refine wc_region ?_
      refine wl rfl (OP.ev rfl rfl (eMv rfl) ?_)
      refine wl rfl (OP.ev rfl rfl (eAs rfl) ?_)
      refine wl rfl (OP.ev rfl rfl (eAs rfl) ?_)
      refine wl_nil ?_
      refine wc_ret ?_
      apply at_ret rfl
      · exact (.cons (.tmp rfl) (.cons (.tmp rfl) .nil))
      · first
        | exact ⟨w, I2, by unfold DK.read; rw [if_pos (by omega)]; rfl, hI2.trans hI1, by unfold DK.read; rw [if_pos (by omega)]; exact hw, by unfold DK.read; rw [if_pos (by omega)]; exact hwB, rfl⟩
        | exact ⟨.slice none 0 0, I1, by rw [read_away (by omega)]; rfl, hI1, by rw [read_away (by omega)]; exact Rs.nil 1, by rw [read_away (by omega)]; intro x hx; simp at hx, rfl⟩
      · exact (by repeat (first | exact Sel.all | exact Sel.none | exact Sel.hd | (apply Sel.one; · repeat (first | exact Pick.h | apply Pick.t | apply Pick.app)) | apply Sel.app | (with_reducible apply Sel.grp; · repeat (first | exact PickF.h | apply PickF.t | apply PickF.a)) | (with_reducible refine Sel.nilF (by with_unfolding_all rfl) ?_) | apply Sel.drop | apply Sel.dropF)))
  | false =>
    try have c_t13 := df h13
    first
    | (exfalso; omega)
    | (
      refine wc_else rfl ?_
      refine wc_skip ?_
      refine wc_seq ?_
      refine wc_region ?_
      refine wl rfl (OP.ev rfl rfl (eMv rfl) ?_)
      refine wl rfl (oC rfl pf57 rfl (rfiles_ok b d hd D _ (hD.sel hI1) (by omega)) (by repeat (first | exact Sel.all | exact Sel.none | exact Sel.hd | (apply Sel.one; · repeat (first | exact Pick.h | apply Pick.t | apply Pick.app)) | apply Sel.app | (with_reducible apply Sel.grp; · repeat (first | exact PickF.h | apply PickF.t | apply PickF.a)) | (with_reducible refine Sel.nilF (by with_unfolding_all rfl) ?_) | apply Sel.drop | apply Sel.dropF)) ?_)
      rintro _ _ ⟨I2, hI2, hF2, rfl⟩
      refine wl rfl (OP.ev rfl rfl (eMv rfl) ?_)
      refine wl rfl (oC rfl pf56 rfl (get_ok _ d.seen k _ hF2 (by omega)) (by repeat (first | exact Sel.all | exact Sel.none | exact Sel.hd | (apply Sel.one; · repeat (first | exact Pick.h | apply Pick.t | apply Pick.app)) | apply Sel.app | (with_reducible apply Sel.grp; · repeat (first | exact PickF.h | apply PickF.t | apply PickF.a)) | (with_reducible refine Sel.nilF (by with_unfolding_all rfl) ?_) | apply Sel.drop | apply Sel.dropF)) ?_)
      rintro _ _ ⟨w, rfl, hw, hwB, rfl⟩
      refine wl rfl (OP.ev rfl rfl (eMv rfl) ?_)
      refine wl rfl (OP.ev rfl rfl (eExt rfl rfl) ?_)
      refine wl rfl (OP.ev rfl rfl (eExt rfl rfl) ?_)
      refine wl rfl (OP.ev rfl rfl (eAs rfl) ?_)
      refine wl rfl (OP.ev rfl rfl (eAs rfl) ?_)
      refine wl_nil ?_
      refine wc_seq ?_
      refine wc_region ?_
      refine wl rfl (OP.ev rfl rfl (eMv rfl) ?_)
      refine wl rfl (OP.ev rfl rfl (eAs rfl) ?_)
      refine wl rfl (OP.ev rfl rfl (eAs rfl) ?_)
      refine wl_nil ?_
      refine wc_ret ?_
      apply at_ret rfl
      · exact (.cons (.tmp rfl) (.cons (.tmp rfl) .nil))
      · first
        | exact ⟨w, I2, by unfold DK.read; rw [if_pos (by omega)]; rfl, hI2.trans hI1, by unfold DK.read; rw [if_pos (by omega)]; exact hw, by unfold DK.read; rw [if_pos (by omega)]; exact hwB, rfl⟩
        | exact ⟨.slice none 0 0, I1, by rw [read_away (by omega)]; rfl, hI1, by rw [read_away (by omega)]; exact Rs.nil 1, by rw [read_away (by omega)]; intro x hx; simp at hx, rfl⟩
      · exact (by repeat (first | exact Sel.all | exact Sel.none | exact Sel.hd | (apply Sel.one; · repeat (first | exact Pick.h | apply Pick.t | apply Pick.app)) | apply Sel.app | (with_reducible apply Sel.grp; · repeat (first | exact PickF.h | apply PickF.t | apply PickF.a)) | (with_reducible refine Sel.nilF (by with_unfolding_all rfl) ?_) | apply Sel.drop | apply Sel.dropF)))
end Go.Proofs.Ytahjgjmemijofaa
