/- Contracts of the disk's calls. No statement of the seat is proved here. -/
import Derived.Test.YtahjgjmemijofaaDkM2
namespace Go.Proofs.Ytahjgjmemijofaa
open Go Eng
set_option linter.unusedVariables false
set_option maxRecDepth 4000
variable {W0 : World} {I I' : Heap}

theorem read_ok (b : Nat) (d : DK) (hd : DOk d) (k : Nm) (D R : Heap) (hD : DiskR W0 I d b D) :
    FnC W0 Try.prog 16 #[ptr b, strK k] (D ++ (I ++ R)) (fun v L' => ∃ w cs, v = .tuple #[w, i64 (d.read k).2] ∧ Row w cs 1 (d.read k).1.length (byteV (d.read k).1) ∧ IsB (d.read k).1 ∧ L' = ownH w cs 5 ++ (D ++ (I ++ R))) := by
  obtain ⟨ms, ml, m1, c1, m2, c2, av, acs, ax, rfl, hT1, hT2, hA⟩ := hD
  simp only [List.cons_append]
  refine fn_of Try.func16 rfl Try.ntmps16 rfl rfl ?_
  refine wc_seq ?_
  refine wc_region ?_
  refine wl rfl (OP.ev rfl rfl (eAs rfl) ?_)
  refine wl rfl (OP.ev rfl rfl (eAs rfl) ?_)
  refine wl_nil ?_
  refine wc_seq ?_
  refine wc_seq ?_
  refine wc_region ?_
  refine wl rfl (OP.ev rfl rfl (eMv rfl) ?_)
  refine wl rfl (OP.ev rfl rfl (eMv rfl) ?_)
  refine wl rfl (oC rfl pf44 rfl (find_ok b d ms ml av m1 c1 k hT1 _) (by repeat (first | exact Sel.all | exact Sel.none | exact Sel.hd | (apply Sel.one; · repeat (first | exact Pick.h | apply Pick.t | apply Pick.app)) | apply Sel.app | (with_reducible apply Sel.grp; · repeat (first | exact PickF.h | apply PickF.t | apply PickF.a)) | (with_reducible refine Sel.nilF (by with_unfolding_all rfl) ?_) | apply Sel.drop | apply Sel.dropF)) ?_)
  rintro _ _ ⟨rfl, rfl⟩
  refine wl rfl (OP.ev rfl rfl (eAs rfl) ?_)
  refine wl_nil ?_
  refine wc_seq ?_
  refine wc_region ?_
  refine wl rfl (OP.ev rfl rfl (eMv rfl) ?_)
  refine wl rfl (OP.evb rfl rfl (eNe rfl rfl) fun t11 h11 => ?_)
  refine wl_nil ?_
  cases t11 with
  | true =>
    try have c_t11 := dt h11
    first
    | (exfalso; omega)
    | (
      refine wc_then rfl ?_
      refine wc_seq ?_
      refine wc_region ?_
      refine wl rfl (OP.ev rfl rfl (eMv rfl) ?_)
      refine wl rfl (OP.ev rfl rfl (eAs rfl) ?_)
      refine wl rfl (OP.ev rfl rfl (eAs rfl) ?_)
      refine wl_nil ?_
      refine wc_ret ?_
      apply at_ret rfl
      · exact (.cons (.tmp rfl) (.cons (.tmp rfl) .nil))
      · first
        | exact ⟨_, _, by rw [hrd]; rfl, by rw [hrd]; exact hrow19, by rw [hrd]; exact hfu.2.2, rfl⟩
        | exact ⟨.slice none 0 0, #[], by show Value.tuple #[.slice none 0 0, i64 (d.find k)] = _; unfold DK.read; rw [if_neg (by omega)], by unfold DK.read; rw [if_neg (by omega)]; exact Row.nil _ _, by unfold DK.read; rw [if_neg (by omega)]; intro x hx; simp at hx, rfl⟩
      · exact (by repeat (first | exact Sel.all | exact Sel.none | exact Sel.hd | (apply Sel.one; · repeat (first | exact Pick.h | apply Pick.t | apply Pick.app)) | apply Sel.app | (with_reducible apply Sel.grp; · repeat (first | exact PickF.h | apply PickF.t | apply PickF.a)) | (with_reducible refine Sel.nilF (by with_unfolding_all rfl) ?_) | apply Sel.drop | apply Sel.dropF)))
  | false =>
    try have c_t11 := df h11
    first
    | (exfalso; omega)
    | (
      refine wc_else rfl ?_
      refine wc_skip ?_
      refine wc_seq ?_
      have hf0 : d.find k = 0 := by omega
      obtain ⟨ho, hm, ob, hob⟩ := find_zero hf0
      obtain ⟨u, hu, hub, hfu⟩ := hT1.look1 (k := k) (by rw [hob]; rfl)
      have hlen := hd.get_len k
      have hrd : d.read k = (u.2, 0) := by unfold DK.read; rw [if_pos hf0, hub]
      refine wc_region ?_
      refine wl rfl (OP.ev rfl rfl (eMv rfl) ?_)
      refine wl rfl (OP.ev rfl rfl (eNil rfl) ?_)
      refine wl rfl (OP.ev rfl rfl (eFld 5 ty52 rfl rfl ty49 rfl) ?_)
      first | refine wl rfl (OP.ev rfl rfl (eLd ty49 rfl rfl (by repeat (first | exact Has.h | apply Has.t | apply Has.app)) (by rfl)) ?_) | refine wl rfl (OP.ev rfl rfl (eLdO ty49 rfl rfl (by assumption)) ?_)
      refine wl rfl (OP.ev rfl rfl (eMv rfl) ?_)
      refine wl rfl (OP.ev rfl rfl (eLk1 (v := u.1) ty49 ty30 (strKOk' ty9) rfl rfl (by repeat (first | exact Has.h | apply Has.t | apply Has.app)) (by rw [hu]; rfl)) ?_)
      refine wl rfl (oCA rfl pf28 rfl (bclone_ok u.1 u.2 _ (hfu.2.1.sel (by repeat (first | exact Sel.all | exact Sel.none | exact Sel.hd | (apply Sel.one; · repeat (first | exact Pick.h | apply Pick.t | apply Pick.app)) | apply Sel.app | (with_reducible apply Sel.grp; · repeat (first | exact PickF.h | apply PickF.t | apply PickF.a)) | (with_reducible refine Sel.nilF (by with_unfolding_all rfl) ?_) | apply Sel.drop | apply Sel.dropF))) (by rw [← hub]; omega)) ?_)
      rintro v19 _ ⟨cs19, hrow19, _, rfl⟩
      refine wl rfl (OP.ev rfl rfl (eAs rfl) ?_)
      refine wl rfl (OP.ev rfl rfl (eAs rfl) ?_)
      refine wl_nil ?_
      refine wc_ret ?_
      apply at_ret rfl
      · exact (.cons (.tmp rfl) (.cons (.tmp rfl) .nil))
      · first
        | exact ⟨_, _, by rw [hrd]; rfl, by rw [hrd]; exact hrow19, by rw [hrd]; exact hfu.2.2, rfl⟩
        | exact ⟨.slice none 0 0, #[], by show Value.tuple #[.slice none 0 0, i64 (d.find k)] = _; unfold DK.read; rw [if_neg (by omega)], by unfold DK.read; rw [if_neg (by omega)]; exact Row.nil _ _, by unfold DK.read; rw [if_neg (by omega)]; intro x hx; simp at hx, rfl⟩
      · exact (by repeat (first | exact Sel.all | exact Sel.none | exact Sel.hd | (apply Sel.one; · repeat (first | exact Pick.h | apply Pick.t | apply Pick.app)) | apply Sel.app | (with_reducible apply Sel.grp; · repeat (first | exact PickF.h | apply PickF.t | apply PickF.a)) | (with_reducible refine Sel.nilF (by with_unfolding_all rfl) ?_) | apply Sel.drop | apply Sel.dropF)))

theorem list_ok (b : Nat) (d : DK) (hd : DOk d) (D R : Heap) (hD : DiskR W0 I d b D) :
    FnC W0 Try.prog 17 #[ptr b] (D ++ (I ++ R)) (fun w L' => ∃ cs, Row w cs 1 d.names.length (d.names.map strK) ∧ L' = ownH w cs 9 ++ (D ++ (I ++ R))) := by
  obtain ⟨ms, ml, m1, c1, m2, c2, av, acs, ax, rfl, hT1, hT2, hA⟩ := hD
  have hnum := hd.snum
  simp only [List.cons_append]
  refine fn_of Try.func17 rfl Try.ntmps17 rfl rfl ?_
  refine wc_seq ?_
  refine wc_region ?_
  refine wl rfl (OP.ev rfl rfl (eAs rfl) ?_)
  refine wl_nil ?_
  refine wc_seq ?_
  refine wc_seq ?_
  refine wc_region ?_
  refine wl rfl (OP.ev rfl rfl (eMv rfl) ?_)
  refine wl rfl (oC rfl pf43 rfl (ready_ok b d ms ml av _) (by repeat (first | exact Sel.all | exact Sel.none | exact Sel.hd | (apply Sel.one; · repeat (first | exact Pick.h | apply Pick.t | apply Pick.app)) | apply Sel.app | (with_reducible apply Sel.grp; · repeat (first | exact PickF.h | apply PickF.t | apply PickF.a)) | (with_reducible refine Sel.nilF (by with_unfolding_all rfl) ?_) | apply Sel.drop | apply Sel.dropF)) ?_)
  rintro _ _ ⟨rfl, rfl⟩
  refine wl rfl (OP.evb rfl rfl (eNe rfl rfl) fun t5 h5 => ?_)
  refine wl_nil ?_
  cases t5 with
  | true =>
    try have c_t5 := dt h5
    first
    | (exfalso; omega)
    | (
      refine wc_then rfl ?_
      refine wc_seq ?_
      refine wc_region ?_
      refine wl rfl (OP.ev rfl rfl (eAs rfl) ?_)
      refine wl_nil ?_
      refine wc_ret ?_
      apply at_ret rfl
      · exact (.cons (.tmp rfl) .nil)
      · first
        | exact ⟨cs11, by have hnm : d.names = d.seen.map (·.1) := (by unfold DK.names DK.ready at *; split <;> simp_all); rw [hnm, List.length_map, List.map_map]; exact hrow11, rfl⟩
        | exact ⟨#[], by have hnm : d.names = [] := (by unfold DK.names DK.ready at *; split <;> simp_all); rw [hnm]; exact Row.nil _ _, rfl⟩
      · exact (by repeat (first | exact Sel.all | exact Sel.none | exact Sel.hd | (apply Sel.one; · repeat (first | exact Pick.h | apply Pick.t | apply Pick.app)) | apply Sel.app | (with_reducible apply Sel.grp; · repeat (first | exact PickF.h | apply PickF.t | apply PickF.a)) | (with_reducible refine Sel.nilF (by with_unfolding_all rfl) ?_) | apply Sel.drop | apply Sel.dropF)))
  | false =>
    try have c_t5 := df h5
    first
    | (exfalso; omega)
    | (
      refine wc_else rfl ?_
      refine wc_skip ?_
      refine wc_seq ?_
      refine wc_region ?_
      refine wl rfl (OP.ev rfl rfl (eMv rfl) ?_)
      refine wl rfl (OP.ev rfl rfl (eNil rfl) ?_)
      refine wl rfl (OP.ev rfl rfl (eFld 5 ty52 rfl rfl ty49 rfl) ?_)
      first | refine wl rfl (OP.ev rfl rfl (eLd ty49 rfl rfl (by repeat (first | exact Has.h | apply Has.t | apply Has.app)) (by rfl)) ?_) | refine wl rfl (OP.ev rfl rfl (eLdO ty49 rfl rfl (by assumption)) ?_)
      refine wl rfl (oCA rfl pf46 rfl (keys_ok ms _) ?_)
      rintro _ _ ⟨b10, rfl, rfl⟩
      refine wl rfl (oC rfl pf45 rfl (sorted_ok hT1 (by omega) ms b10 _) (by repeat (first | exact Sel.all | exact Sel.none | exact Sel.hd | (apply Sel.one; · repeat (first | exact Pick.h | apply Pick.t | apply Pick.app)) | apply Sel.app | (with_reducible apply Sel.grp; · repeat (first | exact PickF.h | apply PickF.t | apply PickF.a)) | (with_reducible refine Sel.nilF (by with_unfolding_all rfl) ?_) | apply Sel.drop | apply Sel.dropF)) ?_)
      rintro v11 _ ⟨cs11, hrow11, rfl⟩
      refine wl rfl (OP.ev rfl rfl (eAs rfl) ?_)
      refine wl_nil ?_
      refine wc_ret ?_
      apply at_ret rfl
      · exact (.cons (.tmp rfl) .nil)
      · first
        | exact ⟨cs11, by have hnm : d.names = d.seen.map (·.1) := (by unfold DK.names DK.ready at *; split <;> simp_all); rw [hnm, List.length_map, List.map_map]; exact hrow11, rfl⟩
        | exact ⟨#[], by have hnm : d.names = [] := (by unfold DK.names DK.ready at *; split <;> simp_all); rw [hnm]; exact Row.nil _ _, rfl⟩
      · exact (by repeat (first | exact Sel.all | exact Sel.none | exact Sel.hd | (apply Sel.one; · repeat (first | exact Pick.h | apply Pick.t | apply Pick.app)) | apply Sel.app | (with_reducible apply Sel.grp; · repeat (first | exact PickF.h | apply PickF.t | apply PickF.a)) | (with_reducible refine Sel.nilF (by with_unfolding_all rfl) ?_) | apply Sel.drop | apply Sel.dropF)))

theorem pend_ok (b : Nat) (d : DK) (D R : Heap) (hD : DiskR W0 I d b D) :
    FnC W0 Try.prog 24 #[ptr b] (D ++ (I ++ R)) (fun v L' => v = i64 d.pend ∧ L' = D ++ (I ++ R)) := by
  obtain ⟨ms, ml, m1, c1, m2, c2, av, acs, ax, rfl, hT1, hT2, hA⟩ := hD
  have hal := hA.len
  simp only [List.cons_append]
  refine fn_of Try.func24 rfl Try.ntmps24 rfl rfl ?_
  refine wc_seq ?_
  refine wc_region ?_
  refine wl rfl (OP.ev rfl rfl (eAs rfl) ?_)
  refine wl_nil ?_
  refine wc_seq ?_
  refine wc_seq ?_
  refine wc_region ?_
  refine wl rfl (OP.ev rfl rfl (eMv rfl) ?_)
  refine wl rfl (oC rfl pf43 rfl (ready_ok b d ms ml av _) (by repeat (first | exact Sel.all | exact Sel.none | exact Sel.hd | (apply Sel.one; · repeat (first | exact Pick.h | apply Pick.t | apply Pick.app)) | apply Sel.app | (with_reducible apply Sel.grp; · repeat (first | exact PickF.h | apply PickF.t | apply PickF.a)) | (with_reducible refine Sel.nilF (by with_unfolding_all rfl) ?_) | apply Sel.drop | apply Sel.dropF)) ?_)
  rintro _ _ ⟨rfl, rfl⟩
  refine wl rfl (OP.evb rfl rfl (eNe rfl rfl) fun t5 h5 => ?_)
  refine wl_nil ?_
  cases t5 with
  | true =>
    try have c_t5 := dt h5
    first
    | (exfalso; omega)
    | (
      refine wc_then rfl ?_
      refine wc_seq ?_
      refine wc_region ?_
      refine wl rfl (OP.ev rfl rfl (eAs rfl) ?_)
      refine wl_nil ?_
      refine wc_ret ?_
      apply at_ret rfl
      · exact (.cons (.tmp rfl) .nil)
      · first
        | exact ⟨by show i64 0 = i64 d.pend; unfold DK.pend DK.ready at *; split <;> simp_all, rfl⟩
        | exact ⟨by show i64 _ = i64 d.pend; unfold DK.pend DK.ready at *; split <;> simp_all, rfl⟩
      · exact (by repeat (first | exact Sel.all | exact Sel.none | exact Sel.hd | (apply Sel.one; · repeat (first | exact Pick.h | apply Pick.t | apply Pick.app)) | apply Sel.app | (with_reducible apply Sel.grp; · repeat (first | exact PickF.h | apply PickF.t | apply PickF.a)) | (with_reducible refine Sel.nilF (by with_unfolding_all rfl) ?_) | apply Sel.drop | apply Sel.dropF)))
  | false =>
    try have c_t5 := df h5
    first
    | (exfalso; omega)
    | (
      refine wc_else rfl ?_
      refine wc_skip ?_
      refine wc_seq ?_
      refine wc_region ?_
      refine wl rfl (OP.ev rfl rfl (eMv rfl) ?_)
      refine wl rfl (OP.ev rfl rfl (eNil rfl) ?_)
      refine wl rfl (OP.ev rfl rfl (eFld 7 ty52 rfl rfl ty50 rfl) ?_)
      first | refine wl rfl (OP.ev rfl rfl (eLd ty50 rfl rfl (by repeat (first | exact Has.h | apply Has.t | apply Has.app)) (by rfl)) ?_) | refine wl rfl (OP.ev rfl rfl (eLdO ty50 rfl rfl (by assumption)) ?_)
      refine wl rfl (OP.ev rfl rfl (eLenRow ty50 rfl hA.row) ?_)
      refine wl rfl (OP.ev rfl rfl (eAs rfl) ?_)
      refine wl_nil ?_
      refine wc_ret ?_
      apply at_ret rfl
      · exact (.cons (.tmp rfl) .nil)
      · first
        | exact ⟨by show i64 0 = i64 d.pend; unfold DK.pend DK.ready at *; split <;> simp_all, rfl⟩
        | exact ⟨by show i64 _ = i64 d.pend; unfold DK.pend DK.ready at *; split <;> simp_all, rfl⟩
      · exact (by repeat (first | exact Sel.all | exact Sel.none | exact Sel.hd | (apply Sel.one; · repeat (first | exact Pick.h | apply Pick.t | apply Pick.app)) | apply Sel.app | (with_reducible apply Sel.grp; · repeat (first | exact PickF.h | apply PickF.t | apply PickF.a)) | (with_reducible refine Sel.nilF (by with_unfolding_all rfl) ?_) | apply Sel.drop | apply Sel.dropF)))

theorem write_full {d : DK} {k : Nm} {n : Int} {B : List Int} (h : d.find k = 21) (hn : n = 0) (h4 : 4096 ≤ d.seen.length) : d.write k n B = (7, d) := by
  unfold DK.write; rw [if_pos ⟨h, hn⟩, if_pos h4]
theorem write_err {d : DK} {k : Nm} {n : Int} {B : List Int} (h : ¬ (d.find k = 21 ∧ n = 0)) (h2 : d.find k ≠ 0) : d.write k n B = (d.find k, d) := by
  unfold DK.write; rw [if_neg h, if_pos h2]
theorem write_arg {d : DK} {k : Nm} {n : Int} {B : List Int} (h : d.find k = 0) (h2 : n < 0 ∨ n > ((fgetD d.seen k).length : Int)) : d.write k n B = (1, d) := by
  unfold DK.write; rw [if_neg (by omega), if_neg (by omega), if_pos h2]
theorem write_new {d : DK} {k : Nm} {n : Int} {B : List Int} (h : d.find k = 21) (hn : n = 0) (h4 : ¬ 4096 ≤ d.seen.length) : d.write k n B = d.writeA k n B := by
  unfold DK.write; rw [if_pos ⟨h, hn⟩, if_neg h4]
theorem write_old {d : DK} {k : Nm} {n : Int} {B : List Int} (h : d.find k = 0) (h2 : ¬ (n < 0 ∨ n > ((fgetD d.seen k).length : Int))) : d.write k n B = d.writeA k n B := by
  unfold DK.write; rw [if_neg (by omega), if_neg (by omega), if_neg h2]

theorem write_ok (b : Nat) (d : DK) (hd : DOk d) (k : Nm) (n : Int) (hn64 : I64 n) (bv : Value) (B : List Int) (D R : Heap) (hD : DiskR W0 I d b D) (hb : Rs W0 (I ++ R) bv 1 B.length (byteV B)) (hB : IsB B) (hbl : B.length ≤ 9223372036854775807) (hn : d.acts.length < 1000000) :
    FnC W0 Try.prog 42 #[ptr b, strK k, i64 n, bv] (D ++ (I ++ R)) (PutP W0 I R b (d.write k n B).2 (i64 (d.write k n B).1)) := by
  obtain ⟨ms, ml, m1, c1, m2, c2, av, acs, ax, rfl, hT1, hT2, hA⟩ := hD
  have hD0 : DiskR W0 I d b (dkC b d ms ml av :: tC ms m1 c1 :: tC ml m2 c2 :: ownH av acs 82) := ⟨ms, ml, m1, c1, m2, c2, av, acs, ax, rfl, hT1, hT2, hA⟩
  have huse := hd.use
  have hroom := hd.room
  have hnum := hT1.len
  have hsn := hd.snum
  obtain ⟨ov, ob, hov, hor, hob, hoB⟩ := hT1.look k
  have hgl := hd.get_len k
  obtain ⟨hn1, hn2⟩ := hn64
  have hub : 0 ≤ d.used ∧ d.used ≤ d.room := by
    unfold DK.used
    split <;> omega
  simp only [List.cons_append]
  refine fn_of Try.func42 rfl Try.ntmps42 rfl rfl ?_
  refine wc_seq ?_
  refine wc_region ?_
  refine wl rfl (oBox rfl rfl rfl fun b5 => ?_)
  refine wl rfl (oBox rfl rfl rfl fun b6 => ?_)
  refine wl rfl (OP.ev rfl rfl (eAs rfl) ?_)
  refine wl_nil ?_
  refine wc_seq ?_
  refine wc_region ?_
  refine wl rfl (OP.ev rfl rfl (eMv rfl) ?_)
  first | refine wl rfl (OP.ev rfl rfl (eLd ty9 rfl rfl (by repeat (first | exact Has.h | apply Has.t | apply Has.app)) (by rfl)) ?_) | refine wl rfl (OP.ev rfl rfl (eLdO ty9 rfl rfl (by assumption)) ?_)
  refine wl rfl (oC rfl pf44 rfl (find_ok b d ms ml av m1 c1 k hT1 _) (by repeat (first | exact Sel.all | exact Sel.none | exact Sel.hd | (apply Sel.one; · repeat (first | exact Pick.h | apply Pick.t | apply Pick.app)) | apply Sel.app | (with_reducible apply Sel.grp; · repeat (first | exact PickF.h | apply PickF.t | apply PickF.a)) | (with_reducible refine Sel.nilF (by with_unfolding_all rfl) ?_) | apply Sel.drop | apply Sel.dropF)) ?_)
  rintro _ _ ⟨rfl, rfl⟩
  refine wl rfl (OP.ev rfl rfl (eAs rfl) ?_)
  refine wl_nil ?_
  refine wc_seq ?_
  refine wc_block ?_
  refine wc_seq ?_
  refine wc_region ?_
  refine wl rfl (OP.ev rfl rfl (eMv rfl) ?_)
  refine wl rfl (OP.evb rfl rfl (eEq rfl rfl) fun t15 h15 => ?_)
  refine wl rfl (OP.ev rfl rfl (eMv rfl) ?_)
  cases t15 with
  | true =>
    try have c_t15 := dt h15
    first
    | (exfalso; omega)
    | (
      first | refine wl_go rfl rfl (OP.ev rfl rfl (eLd ty3 rfl rfl (by repeat (first | exact Has.h | apply Has.t | apply Has.app)) (by rfl)) ?_) | refine wl_go rfl rfl (OP.ev rfl rfl (eLdO ty3 rfl rfl (by assumption)) ?_)
      refine wl_go rfl rfl (OP.evb rfl rfl (eEq rfl rfl) fun t18 h18 => ?_)
      refine wl rfl (OP.ev rfl rfl (ePk rfl rfl) ?_)
      refine wl rfl (OP.ev rfl rfl (eAs rfl) ?_)
      refine wl_nil ?_
      cases t18 with
      | true =>
        try have c_t18 := dt h18
        first
        | (exfalso; omega)
        | (
          refine wc_then rfl ?_
          refine wc_seq ?_
          refine wc_region ?_
          refine wl rfl (OP.ev rfl rfl (eMv rfl) ?_)
          refine wl rfl (OP.ev rfl rfl (eNil rfl) ?_)
          refine wl rfl (OP.ev rfl rfl (eFld 5 ty52 rfl rfl ty49 rfl) ?_)
          first | refine wl rfl (OP.ev rfl rfl (eLd ty49 rfl rfl (by repeat (first | exact Has.h | apply Has.t | apply Has.app)) (by rfl)) ?_) | refine wl rfl (OP.ev rfl rfl (eLdO ty49 rfl rfl (by assumption)) ?_)
          refine wl rfl (OP.ev rfl rfl (eLenMp ty49 rfl (by repeat (first | exact Has.h | apply Has.t | apply Has.app))) ?_)
          refine wl rfl (OP.evb rfl rfl (eGe rfl rfl) fun t25 h25 => ?_)
          refine wl_nil ?_
          cases t25 with
          | true =>
            try have c_t25 := dt h25
            first
            | (exfalso; omega)
            | (
              refine wc_then rfl ?_
              refine wc_seq ?_
              refine wc_region ?_
              refine wl rfl (OP.ev rfl rfl (eAs rfl) ?_)
              refine wl_nil ?_
              refine wc_ret ?_
              apply at_ret rfl
              · exact (.cons (.tmp rfl) .nil)
              · first
                | exact ⟨by rw [write_full (by omega) (by omega) (by omega)]; rfl, _, I, Sel.all, by rw [write_full (by omega) (by omega) (by omega)]; exact hD0, (rfl : (dkC b d ms ml av :: tC ms m1 c1 :: tC ml m2 c2 :: (ownH av acs 82 ++ (I ++ R))) = _)⟩
                | exact ⟨by rw [write_err (by omega) (by omega)]; rfl, _, I, Sel.all, by rw [write_err (by omega) (by omega)]; exact hD0, (rfl : (dkC b d ms ml av :: tC ms m1 c1 :: tC ml m2 c2 :: (ownH av acs 82 ++ (I ++ R))) = _)⟩
                | exact ⟨by rw [write_arg (by omega) (by rw [hob]; omega)]; rfl, _, I, Sel.all, by rw [write_arg (by omega) (by rw [hob]; omega)]; exact hD0, (rfl : (dkC b d ms ml av :: tC ms m1 c1 :: tC ml m2 c2 :: (ownH av acs 82 ++ (I ++ R))) = _)⟩
                | exact ⟨by rw [hw]; unfold DK.writeA; rw [if_pos (by omega)]; rfl, _, I, Sel.all, by rw [hw]; unfold DK.writeA; rw [if_pos (by omega)]; exact hD0, (rfl : (dkC b d ms ml av :: tC ms m1 c1 :: tC ml m2 c2 :: (ownH av acs 82 ++ (I ++ R))) = _)⟩
                | exact ⟨by rw [hw]; unfold DK.writeA; rw [if_neg (by omega)]; rfl, D4, I4, hI4.trans hsI, by rw [hw]; unfold DK.writeA; rw [if_neg (by omega)]; exact hD4, rfl⟩
              · exact (by repeat (first | exact Sel.all | exact Sel.none | exact Sel.hd | (apply Sel.one; · repeat (first | exact Pick.h | apply Pick.t | apply Pick.app)) | apply Sel.app | (with_reducible apply Sel.grp; · repeat (first | exact PickF.h | apply PickF.t | apply PickF.a)) | (with_reducible refine Sel.nilF (by with_unfolding_all rfl) ?_) | apply Sel.drop | apply Sel.dropF)))
          | false =>
            try have c_t25 := df h25
            first
            | (exfalso; omega)
            | (
              refine wc_else rfl ?_
              refine wc_skip ?_
              refine wc_seq ?_
              refine wc_seq ?_
              have hw : d.write k n B = d.writeA k n B := by first | exact write_new (by omega) (by omega) (by omega) | exact write_old (by omega) (by rw [hob]; omega)
              have hcan : CanDo d.seen ⟨0, k, [], n, B⟩ := by first | exact can_write hd (.inl ⟨by omega, by omega, by omega⟩) | exact can_write hd (.inr ⟨by omega, by omega, by rw [hob]; omega⟩)
              have hmay : d.off = false ∧ may k = true := by first | exact ⟨(find_21 (d := d) (k := k) (by omega)).1, (find_21 (d := d) (k := k) (by omega)).2.1⟩ | exact ⟨(find_zero (d := d) (k := k) (by omega)).1, (find_zero (d := d) (k := k) (by omega)).2.1⟩
              have husd := used_ok (W0 := W0) b d hd _ ((b5, .cells #[strK k] 9 (0, 0)) :: (b6, .cells #[i64 n] 3 (0, 0)) :: R) hD0 (by omega)
              simp only [List.cons_append] at husd
              refine wc_draw (dkC b d ms ml av :: (I ++ R)) rfl ?_
              refine wa_take 0 (by kernel_rfl) rfl rfl rfl rfl (by repeat (first | exact Sel.all | exact Sel.none | exact Sel.hd | (apply Sel.one; · repeat (first | exact Pick.h | apply Pick.t | apply Pick.app)) | apply Sel.app | (with_reducible apply Sel.grp; · repeat (first | exact PickF.h | apply PickF.t | apply PickF.a)) | (with_reducible refine Sel.nilF (by with_unfolding_all rfl) ?_) | apply Sel.drop | apply Sel.dropF)) (eMv rfl) ?_
              refine wa_take 1 (by kernel_rfl) rfl rfl rfl rfl (by repeat (first | exact Sel.all | exact Sel.none | exact Sel.hd | (apply Sel.one; · repeat (first | exact Pick.h | apply Pick.t | apply Pick.app)) | apply Sel.app | (with_reducible apply Sel.grp; · repeat (first | exact PickF.h | apply PickF.t | apply PickF.a)) | (with_reducible refine Sel.nilF (by with_unfolding_all rfl) ?_) | apply Sel.drop | apply Sel.dropF)) (eLenR ty30 rfl (hb.sel (by repeat (first | exact Sel.all | exact Sel.none | exact Sel.hd | (apply Sel.one; · repeat (first | exact Pick.h | apply Pick.t | apply Pick.app)) | apply Sel.app | (with_reducible apply Sel.grp; · repeat (first | exact PickF.h | apply PickF.t | apply PickF.a)) | (with_reducible refine Sel.nilF (by with_unfolding_all rfl) ?_) | apply Sel.drop | apply Sel.dropF)))) ?_
              refine wa_take 2 (by kernel_rfl) rfl rfl rfl rfl (by repeat (first | exact Sel.all | exact Sel.none | exact Sel.hd | (apply Sel.one; · repeat (first | exact Pick.h | apply Pick.t | apply Pick.app)) | apply Sel.app | (with_reducible apply Sel.grp; · repeat (first | exact PickF.h | apply PickF.t | apply PickF.a)) | (with_reducible refine Sel.nilF (by with_unfolding_all rfl) ?_) | apply Sel.drop | apply Sel.dropF)) (eMv rfl) ?_
              refine wa_take 3 (by kernel_rfl) rfl rfl rfl rfl (by repeat (first | exact Sel.all | exact Sel.none | exact Sel.hd | (apply Sel.one; · repeat (first | exact Pick.h | apply Pick.t | apply Pick.app)) | apply Sel.app | (with_reducible apply Sel.grp; · repeat (first | exact PickF.h | apply PickF.t | apply PickF.a)) | (with_reducible refine Sel.nilF (by with_unfolding_all rfl) ?_) | apply Sel.drop | apply Sel.dropF)) (eNil rfl) ?_
              refine wa_take 4 (by kernel_rfl) rfl rfl rfl rfl (by repeat (first | exact Sel.all | exact Sel.none | exact Sel.hd | (apply Sel.one; · repeat (first | exact Pick.h | apply Pick.t | apply Pick.app)) | apply Sel.app | (with_reducible apply Sel.grp; · repeat (first | exact PickF.h | apply PickF.t | apply PickF.a)) | (with_reducible refine Sel.nilF (by with_unfolding_all rfl) ?_) | apply Sel.drop | apply Sel.dropF)) (eFld 4 ty52 rfl rfl ty3 rfl) ?_
              first | refine wa_take 5 (by kernel_rfl) rfl rfl rfl rfl (by repeat (first | exact Sel.all | exact Sel.none | exact Sel.hd | (apply Sel.one; · repeat (first | exact Pick.h | apply Pick.t | apply Pick.app)) | apply Sel.app | (with_reducible apply Sel.grp; · repeat (first | exact PickF.h | apply PickF.t | apply PickF.a)) | (with_reducible refine Sel.nilF (by with_unfolding_all rfl) ?_) | apply Sel.drop | apply Sel.dropF)) (eLd ty3 rfl rfl (by repeat (first | exact Has.h | apply Has.t | apply Has.app)) (by rfl)) ?_ | refine wa_take 5 (by kernel_rfl) rfl rfl rfl rfl (by repeat (first | exact Sel.all | exact Sel.none | exact Sel.hd | (apply Sel.one; · repeat (first | exact Pick.h | apply Pick.t | apply Pick.app)) | apply Sel.app | (with_reducible apply Sel.grp; · repeat (first | exact PickF.h | apply PickF.t | apply PickF.a)) | (with_reducible refine Sel.nilF (by with_unfolding_all rfl) ?_) | apply Sel.drop | apply Sel.dropF)) (eLdO ty3 rfl rfl (by assumption)) ?_
              refine wa_take 6 (by kernel_rfl) rfl rfl rfl rfl (by repeat (first | exact Sel.all | exact Sel.none | exact Sel.hd | (apply Sel.one; · repeat (first | exact Pick.h | apply Pick.t | apply Pick.app)) | apply Sel.app | (with_reducible apply Sel.grp; · repeat (first | exact PickF.h | apply PickF.t | apply PickF.a)) | (with_reducible refine Sel.nilF (by with_unfolding_all rfl) ?_) | apply Sel.drop | apply Sel.dropF)) (eMv rfl) ?_
              refine wa_all [7] (by kernel_rfl) rfl (wall_one 7 rfl rfl ?_ trivial)
              refine oC rfl pf25 rfl husd (by repeat (first | exact Sel.all | exact Sel.none | exact Sel.hd | (apply Sel.one; · repeat (first | exact Pick.h | apply Pick.t | apply Pick.app)) | apply Sel.app | (with_reducible apply Sel.grp; · repeat (first | exact PickF.h | apply PickF.t | apply PickF.a)) | (with_reducible refine Sel.nilF (by with_unfolding_all rfl) ?_) | apply Sel.drop | apply Sel.dropF)) ?_
              rintro _ _ ⟨rfl, rfl⟩
              refine ⟨(by repeat (first | exact Sel.all | exact Sel.none | exact Sel.hd | (apply Sel.one; · repeat (first | exact Pick.h | apply Pick.t | apply Pick.app)) | apply Sel.app | (with_reducible apply Sel.grp; · repeat (first | exact PickF.h | apply PickF.t | apply PickF.a)) | (with_reducible refine Sel.nilF (by with_unfolding_all rfl) ?_) | apply Sel.drop | apply Sel.dropF)), ?_⟩
              first | refine wa_take 8 (by kernel_rfl) rfl rfl rfl rfl (by repeat (first | exact Sel.all | exact Sel.none | exact Sel.hd | (apply Sel.one; · repeat (first | exact Pick.h | apply Pick.t | apply Pick.app)) | apply Sel.app | (with_reducible apply Sel.grp; · repeat (first | exact PickF.h | apply PickF.t | apply PickF.a)) | (with_reducible refine Sel.nilF (by with_unfolding_all rfl) ?_) | apply Sel.drop | apply Sel.dropF)) (eSub rfl rfl (by omega)) ?_ | refine wa_take 8 (by kernel_rfl) rfl rfl rfl rfl (by repeat (first | exact Sel.all | exact Sel.none | exact Sel.hd | (apply Sel.one; · repeat (first | exact Pick.h | apply Pick.t | apply Pick.app)) | apply Sel.app | (with_reducible apply Sel.grp; · repeat (first | exact PickF.h | apply PickF.t | apply PickF.a)) | (with_reducible refine Sel.nilF (by with_unfolding_all rfl) ?_) | apply Sel.drop | apply Sel.dropF)) (eSubW rfl rfl) ?_
              refine wa_takeb 9 (by kernel_rfl) rfl rfl rfl rfl (by repeat (first | exact Sel.all | exact Sel.none | exact Sel.hd | (apply Sel.one; · repeat (first | exact Pick.h | apply Pick.t | apply Pick.app)) | apply Sel.app | (with_reducible apply Sel.grp; · repeat (first | exact PickF.h | apply PickF.t | apply PickF.a)) | (with_reducible refine Sel.nilF (by with_unfolding_all rfl) ?_) | apply Sel.drop | apply Sel.dropF)) (eGt rfl rfl) fun t53 h53 => ?_
              refine wa_nil (by kernel_rfl) ?_
              cases t53 with
              | true =>
                try have c_t53 := dt h53
                first
                | (exfalso; omega)
                | (
                  refine wc_then rfl ?_
                  refine wc_seq ?_
                  refine wc_region ?_
                  refine wl rfl (OP.ev rfl rfl (eAs rfl) ?_)
                  refine wl_nil ?_
                  refine wc_ret ?_
                  apply at_ret rfl
                  · exact (.cons (.tmp rfl) .nil)
                  · first
                    | exact ⟨by rw [write_full (by omega) (by omega) (by omega)]; rfl, _, I, Sel.all, by rw [write_full (by omega) (by omega) (by omega)]; exact hD0, (rfl : (dkC b d ms ml av :: tC ms m1 c1 :: tC ml m2 c2 :: (ownH av acs 82 ++ (I ++ R))) = _)⟩
                    | exact ⟨by rw [write_err (by omega) (by omega)]; rfl, _, I, Sel.all, by rw [write_err (by omega) (by omega)]; exact hD0, (rfl : (dkC b d ms ml av :: tC ms m1 c1 :: tC ml m2 c2 :: (ownH av acs 82 ++ (I ++ R))) = _)⟩
                    | exact ⟨by rw [write_arg (by omega) (by rw [hob]; omega)]; rfl, _, I, Sel.all, by rw [write_arg (by omega) (by rw [hob]; omega)]; exact hD0, (rfl : (dkC b d ms ml av :: tC ms m1 c1 :: tC ml m2 c2 :: (ownH av acs 82 ++ (I ++ R))) = _)⟩
                    | exact ⟨by rw [hw]; unfold DK.writeA; rw [if_pos (by omega)]; rfl, _, I, Sel.all, by rw [hw]; unfold DK.writeA; rw [if_pos (by omega)]; exact hD0, (rfl : (dkC b d ms ml av :: tC ms m1 c1 :: tC ml m2 c2 :: (ownH av acs 82 ++ (I ++ R))) = _)⟩
                    | exact ⟨by rw [hw]; unfold DK.writeA; rw [if_neg (by omega)]; rfl, D4, I4, hI4.trans hsI, by rw [hw]; unfold DK.writeA; rw [if_neg (by omega)]; exact hD4, rfl⟩
                  · exact (by repeat (first | exact Sel.all | exact Sel.none | exact Sel.hd | (apply Sel.one; · repeat (first | exact Pick.h | apply Pick.t | apply Pick.app)) | apply Sel.app | (with_reducible apply Sel.grp; · repeat (first | exact PickF.h | apply PickF.t | apply PickF.a)) | (with_reducible refine Sel.nilF (by with_unfolding_all rfl) ?_) | apply Sel.drop | apply Sel.dropF)))
              | false =>
                try have c_t53 := df h53
                first
                | (exfalso; omega)
                | (
                  refine wc_else rfl ?_
                  refine wc_skip ?_
                  refine wc_seq ?_
                  refine wc_region ?_
                  refine wl rfl (OP.ev rfl rfl (eMv rfl) ?_)
                  refine wl rfl (oBS0 rfl ty30 ty5 fun b55 => ?_)
                  refine wl rfl (OP.ev rfl rfl (eMv rfl) ?_)
                  refine wl rfl (oApp (m := B.length) (news := byteV B) rfl ty30 ty5 rfl rfl rfl (Row.mk (b := b55) (k := 0) (cap := 0) (cs := #[]) (sz := 1) (xs := []) (Nat.le_refl _) rfl rfl) (by repeat (first | exact At.cell | exact At.h | apply At.t | apply At.a)) (hb.sel (by repeat (first | exact Sel.all | exact Sel.none | exact Sel.hd | (apply Sel.one; · repeat (first | exact Pick.h | apply Pick.t | apply Pick.app)) | apply Sel.app | (with_reducible apply Sel.grp; · repeat (first | exact PickF.h | apply PickF.t | apply PickF.a)) | (with_reducible refine Sel.nilF (by with_unfolding_all rfl) ?_) | apply Sel.drop | apply Sel.dropF))) (byteV_one _) (by omega) (by omega) ?_)
                  rintro v57 cs57 hrow57 hn57
                  rw [Nat.zero_add, List.nil_append] at hrow57
                  have hsI : Sel (ownH v57 cs57 5 ++ ((b5, .cells #[strK k] 9 (0, 0)) :: (b6, .cells #[i64 n] 3 (0, 0)) :: I)) I := Sel.dropF (Sel.drop (Sel.drop Sel.all))
                  have hsp : d.used = ((total d.last + costs d.acts : Nat) : Int) := by unfold DK.used; rw [hmay.1]; rfl
                  have hdo := do_ok (W0 := W0) (I := ownH v57 cs57 5 ++ ((b5, .cells #[strK k] 9 (0, 0)) :: (b6, .cells #[i64 n] 3 (0, 0)) :: I)) b d hd hmay.1 ⟨0, k, [], n, B⟩ (.func (.func 67) #[] #[ptr b5, ptr b6]) v57 hcan (by show ((total d.last + costs d.acts + B.length : Nat) : Int) ≤ _; omega) ⟨may_len hmay.2, by simp⟩ (.inl ⟨rfl, b5, b6, rfl, Rc.of_has (by repeat (first | exact Has.h | apply Has.t | apply Has.app)) rfl, Rc.of_has (by repeat (first | exact Has.h | apply Has.t | apply Has.app)) rfl⟩) (hrow57.rs (by repeat (first | exact At.cell | exact At.h | apply At.t | apply At.a))) hB _ R (hD0.sel hsI) hn
                  simp only [List.cons_append, List.append_assoc] at hdo
                  refine wl rfl (OP.ev rfl rfl (eMkF rfl rfl) ?_)
                  refine wl rfl (oC rfl pf48 rfl hdo (by repeat (first | exact Sel.all | exact Sel.none | exact Sel.hd | (apply Sel.one; · repeat (first | exact Pick.h | apply Pick.t | apply Pick.app)) | apply Sel.app | (with_reducible apply Sel.grp; · repeat (first | exact PickF.h | apply PickF.t | apply PickF.a)) | (with_reducible refine Sel.nilF (by with_unfolding_all rfl) ?_) | apply Sel.drop | apply Sel.dropF)) ?_)
                  rintro _ _ ⟨rfl, D4, I4, hI4, hD4, rfl⟩
                  refine wl rfl (OP.ev rfl rfl (eAs rfl) ?_)
                  refine wl_nil ?_
                  refine wc_ret ?_
                  apply at_ret rfl
                  · exact (.cons (.tmp rfl) .nil)
                  · first
                    | exact ⟨by rw [write_full (by omega) (by omega) (by omega)]; rfl, _, I, Sel.all, by rw [write_full (by omega) (by omega) (by omega)]; exact hD0, (rfl : (dkC b d ms ml av :: tC ms m1 c1 :: tC ml m2 c2 :: (ownH av acs 82 ++ (I ++ R))) = _)⟩
                    | exact ⟨by rw [write_err (by omega) (by omega)]; rfl, _, I, Sel.all, by rw [write_err (by omega) (by omega)]; exact hD0, (rfl : (dkC b d ms ml av :: tC ms m1 c1 :: tC ml m2 c2 :: (ownH av acs 82 ++ (I ++ R))) = _)⟩
                    | exact ⟨by rw [write_arg (by omega) (by rw [hob]; omega)]; rfl, _, I, Sel.all, by rw [write_arg (by omega) (by rw [hob]; omega)]; exact hD0, (rfl : (dkC b d ms ml av :: tC ms m1 c1 :: tC ml m2 c2 :: (ownH av acs 82 ++ (I ++ R))) = _)⟩
                    | exact ⟨by rw [hw]; unfold DK.writeA; rw [if_pos (by omega)]; rfl, _, I, Sel.all, by rw [hw]; unfold DK.writeA; rw [if_pos (by omega)]; exact hD0, (rfl : (dkC b d ms ml av :: tC ms m1 c1 :: tC ml m2 c2 :: (ownH av acs 82 ++ (I ++ R))) = _)⟩
                    | exact ⟨by rw [hw]; unfold DK.writeA; rw [if_neg (by omega)]; rfl, D4, I4, hI4.trans hsI, by rw [hw]; unfold DK.writeA; rw [if_neg (by omega)]; exact hD4, rfl⟩
                  · exact (by repeat (first | exact Sel.all | exact Sel.none | exact Sel.hd | (apply Sel.one; · repeat (first | exact Pick.h | apply Pick.t | apply Pick.app)) | apply Sel.app | (with_reducible apply Sel.grp; · repeat (first | exact PickF.h | apply PickF.t | apply PickF.a)) | (with_reducible refine Sel.nilF (by with_unfolding_all rfl) ?_) | apply Sel.drop | apply Sel.dropF)))))
      | false =>
        try have c_t18 := df h18
        first
        | (exfalso; omega)
        | (
          refine wc_else rfl ?_
          refine wc_seq ?_
          refine wc_region ?_
          refine wl rfl (OP.ev rfl rfl (eMv rfl) ?_)
          refine wl rfl (OP.evb rfl rfl (eNe rfl rfl) fun t28 h28 => ?_)
          refine wl rfl (OP.ev rfl rfl (eAs rfl) ?_)
          refine wl_nil ?_
          cases t28 with
          | true =>
            try have c_t28 := dt h28
            first
            | (exfalso; omega)
            | (
              refine wc_then rfl ?_
              refine wc_seq ?_
              refine wc_region ?_
              refine wl rfl (OP.ev rfl rfl (eMv rfl) ?_)
              refine wl rfl (OP.ev rfl rfl (eAs rfl) ?_)
              refine wl_nil ?_
              refine wc_ret ?_
              apply at_ret rfl
              · exact (.cons (.tmp rfl) .nil)
              · first
                | exact ⟨by rw [write_full (by omega) (by omega) (by omega)]; rfl, _, I, Sel.all, by rw [write_full (by omega) (by omega) (by omega)]; exact hD0, (rfl : (dkC b d ms ml av :: tC ms m1 c1 :: tC ml m2 c2 :: (ownH av acs 82 ++ (I ++ R))) = _)⟩
                | exact ⟨by rw [write_err (by omega) (by omega)]; rfl, _, I, Sel.all, by rw [write_err (by omega) (by omega)]; exact hD0, (rfl : (dkC b d ms ml av :: tC ms m1 c1 :: tC ml m2 c2 :: (ownH av acs 82 ++ (I ++ R))) = _)⟩
                | exact ⟨by rw [write_arg (by omega) (by rw [hob]; omega)]; rfl, _, I, Sel.all, by rw [write_arg (by omega) (by rw [hob]; omega)]; exact hD0, (rfl : (dkC b d ms ml av :: tC ms m1 c1 :: tC ml m2 c2 :: (ownH av acs 82 ++ (I ++ R))) = _)⟩
                | exact ⟨by rw [hw]; unfold DK.writeA; rw [if_pos (by omega)]; rfl, _, I, Sel.all, by rw [hw]; unfold DK.writeA; rw [if_pos (by omega)]; exact hD0, (rfl : (dkC b d ms ml av :: tC ms m1 c1 :: tC ml m2 c2 :: (ownH av acs 82 ++ (I ++ R))) = _)⟩
                | exact ⟨by rw [hw]; unfold DK.writeA; rw [if_neg (by omega)]; rfl, D4, I4, hI4.trans hsI, by rw [hw]; unfold DK.writeA; rw [if_neg (by omega)]; exact hD4, rfl⟩
              · exact (by repeat (first | exact Sel.all | exact Sel.none | exact Sel.hd | (apply Sel.one; · repeat (first | exact Pick.h | apply Pick.t | apply Pick.app)) | apply Sel.app | (with_reducible apply Sel.grp; · repeat (first | exact PickF.h | apply PickF.t | apply PickF.a)) | (with_reducible refine Sel.nilF (by with_unfolding_all rfl) ?_) | apply Sel.drop | apply Sel.dropF)))
          | false =>
            try have c_t28 := df h28
            first
            | (exfalso; omega)
            | (
              refine wc_else rfl ?_
              refine wc_seq ?_
              refine wc_draw ((b5, .cells #[strK k] 9 (0, 0)) :: (b6, .cells #[i64 n] 3 (0, 0)) :: dkC b d ms ml av :: tC ms m1 c1 :: (I ++ [])) rfl ?_
              first | refine wa_take 0 (by kernel_rfl) rfl rfl rfl rfl (by repeat (first | exact Sel.all | exact Sel.none | exact Sel.hd | (apply Sel.one; · repeat (first | exact Pick.h | apply Pick.t | apply Pick.app)) | apply Sel.app | (with_reducible apply Sel.grp; · repeat (first | exact PickF.h | apply PickF.t | apply PickF.a)) | (with_reducible refine Sel.nilF (by with_unfolding_all rfl) ?_) | apply Sel.drop | apply Sel.dropF)) (eLd ty3 rfl rfl (by repeat (first | exact Has.h | apply Has.t | apply Has.app)) (by rfl)) ?_ | refine wa_take 0 (by kernel_rfl) rfl rfl rfl rfl (by repeat (first | exact Sel.all | exact Sel.none | exact Sel.hd | (apply Sel.one; · repeat (first | exact Pick.h | apply Pick.t | apply Pick.app)) | apply Sel.app | (with_reducible apply Sel.grp; · repeat (first | exact PickF.h | apply PickF.t | apply PickF.a)) | (with_reducible refine Sel.nilF (by with_unfolding_all rfl) ?_) | apply Sel.drop | apply Sel.dropF)) (eLdO ty3 rfl rfl (by assumption)) ?_
              refine wa_takeb 1 (by kernel_rfl) rfl rfl rfl rfl (by repeat (first | exact Sel.all | exact Sel.none | exact Sel.hd | (apply Sel.one; · repeat (first | exact Pick.h | apply Pick.t | apply Pick.app)) | apply Sel.app | (with_reducible apply Sel.grp; · repeat (first | exact PickF.h | apply PickF.t | apply PickF.a)) | (with_reducible refine Sel.nilF (by with_unfolding_all rfl) ?_) | apply Sel.drop | apply Sel.dropF)) (eLt rfl rfl) fun t32 h32 => ?_
              refine wa_take 2 (by kernel_rfl) rfl rfl rfl rfl (by repeat (first | exact Sel.all | exact Sel.none | exact Sel.hd | (apply Sel.one; · repeat (first | exact Pick.h | apply Pick.t | apply Pick.app)) | apply Sel.app | (with_reducible apply Sel.grp; · repeat (first | exact PickF.h | apply PickF.t | apply PickF.a)) | (with_reducible refine Sel.nilF (by with_unfolding_all rfl) ?_) | apply Sel.drop | apply Sel.dropF)) (eMv rfl) ?_
              cases t32 with
              | true =>
                try have c_t32 := dt h32
                first
                | (exfalso; omega)
                | (
                  refine wa_skip 3 (by kernel_rfl) rfl rfl rfl rfl rfl rfl (by repeat (first | exact Sel.all | exact Sel.none | exact Sel.hd | (apply Sel.one; · repeat (first | exact Pick.h | apply Pick.t | apply Pick.app)) | apply Sel.app | (with_reducible apply Sel.grp; · repeat (first | exact PickF.h | apply PickF.t | apply PickF.a)) | (with_reducible refine Sel.nilF (by with_unfolding_all rfl) ?_) | apply Sel.drop | apply Sel.dropF)) ?_
                  refine wa_skip 4 (by kernel_rfl) rfl rfl rfl rfl rfl rfl (by repeat (first | exact Sel.all | exact Sel.none | exact Sel.hd | (apply Sel.one; · repeat (first | exact Pick.h | apply Pick.t | apply Pick.app)) | apply Sel.app | (with_reducible apply Sel.grp; · repeat (first | exact PickF.h | apply PickF.t | apply PickF.a)) | (with_reducible refine Sel.nilF (by with_unfolding_all rfl) ?_) | apply Sel.drop | apply Sel.dropF)) ?_
                  refine wa_skip 5 (by kernel_rfl) rfl rfl rfl rfl rfl rfl (by repeat (first | exact Sel.all | exact Sel.none | exact Sel.hd | (apply Sel.one; · repeat (first | exact Pick.h | apply Pick.t | apply Pick.app)) | apply Sel.app | (with_reducible apply Sel.grp; · repeat (first | exact PickF.h | apply PickF.t | apply PickF.a)) | (with_reducible refine Sel.nilF (by with_unfolding_all rfl) ?_) | apply Sel.drop | apply Sel.dropF)) ?_
                  refine wa_skip 6 (by kernel_rfl) rfl rfl rfl rfl rfl rfl (by repeat (first | exact Sel.all | exact Sel.none | exact Sel.hd | (apply Sel.one; · repeat (first | exact Pick.h | apply Pick.t | apply Pick.app)) | apply Sel.app | (with_reducible apply Sel.grp; · repeat (first | exact PickF.h | apply PickF.t | apply PickF.a)) | (with_reducible refine Sel.nilF (by with_unfolding_all rfl) ?_) | apply Sel.drop | apply Sel.dropF)) ?_
                  refine wa_skip 7 (by kernel_rfl) rfl rfl rfl rfl rfl rfl (by repeat (first | exact Sel.all | exact Sel.none | exact Sel.hd | (apply Sel.one; · repeat (first | exact Pick.h | apply Pick.t | apply Pick.app)) | apply Sel.app | (with_reducible apply Sel.grp; · repeat (first | exact PickF.h | apply PickF.t | apply PickF.a)) | (with_reducible refine Sel.nilF (by with_unfolding_all rfl) ?_) | apply Sel.drop | apply Sel.dropF)) ?_
                  refine wa_skip 8 (by kernel_rfl) rfl rfl rfl rfl rfl rfl (by repeat (first | exact Sel.all | exact Sel.none | exact Sel.hd | (apply Sel.one; · repeat (first | exact Pick.h | apply Pick.t | apply Pick.app)) | apply Sel.app | (with_reducible apply Sel.grp; · repeat (first | exact PickF.h | apply PickF.t | apply PickF.a)) | (with_reducible refine Sel.nilF (by with_unfolding_all rfl) ?_) | apply Sel.drop | apply Sel.dropF)) ?_
                  refine wa_skip 9 (by kernel_rfl) rfl rfl rfl rfl rfl rfl (by repeat (first | exact Sel.all | exact Sel.none | exact Sel.hd | (apply Sel.one; · repeat (first | exact Pick.h | apply Pick.t | apply Pick.app)) | apply Sel.app | (with_reducible apply Sel.grp; · repeat (first | exact PickF.h | apply PickF.t | apply PickF.a)) | (with_reducible refine Sel.nilF (by with_unfolding_all rfl) ?_) | apply Sel.drop | apply Sel.dropF)) ?_
                  refine wa_skip 10 (by kernel_rfl) rfl rfl rfl rfl rfl rfl (by repeat (first | exact Sel.all | exact Sel.none | exact Sel.hd | (apply Sel.one; · repeat (first | exact Pick.h | apply Pick.t | apply Pick.app)) | apply Sel.app | (with_reducible apply Sel.grp; · repeat (first | exact PickF.h | apply PickF.t | apply PickF.a)) | (with_reducible refine Sel.nilF (by with_unfolding_all rfl) ?_) | apply Sel.drop | apply Sel.dropF)) ?_
                  refine wa_skip 11 (by kernel_rfl) rfl rfl rfl rfl rfl rfl (by repeat (first | exact Sel.all | exact Sel.none | exact Sel.hd | (apply Sel.one; · repeat (first | exact Pick.h | apply Pick.t | apply Pick.app)) | apply Sel.app | (with_reducible apply Sel.grp; · repeat (first | exact PickF.h | apply PickF.t | apply PickF.a)) | (with_reducible refine Sel.nilF (by with_unfolding_all rfl) ?_) | apply Sel.drop | apply Sel.dropF)) ?_
                  refine wa_take 12 (by kernel_rfl) rfl rfl rfl rfl (by repeat (first | exact Sel.all | exact Sel.none | exact Sel.hd | (apply Sel.one; · repeat (first | exact Pick.h | apply Pick.t | apply Pick.app)) | apply Sel.app | (with_reducible apply Sel.grp; · repeat (first | exact PickF.h | apply PickF.t | apply PickF.a)) | (with_reducible refine Sel.nilF (by with_unfolding_all rfl) ?_) | apply Sel.drop | apply Sel.dropF)) (ePk rfl rfl) ?_
                  refine wa_take 13 (by kernel_rfl) rfl rfl rfl rfl (by repeat (first | exact Sel.all | exact Sel.none | exact Sel.hd | (apply Sel.one; · repeat (first | exact Pick.h | apply Pick.t | apply Pick.app)) | apply Sel.app | (with_reducible apply Sel.grp; · repeat (first | exact PickF.h | apply PickF.t | apply PickF.a)) | (with_reducible refine Sel.nilF (by with_unfolding_all rfl) ?_) | apply Sel.drop | apply Sel.dropF)) (eAs rfl) ?_
                  refine wa_nil (by kernel_rfl) ?_
                  refine wc_then rfl ?_
                  refine wc_seq ?_
                  refine wc_region ?_
                  refine wl rfl (OP.ev rfl rfl (eAs rfl) ?_)
                  refine wl_nil ?_
                  refine wc_ret ?_
                  apply at_ret rfl
                  · exact (.cons (.tmp rfl) .nil)
                  · first
                    | exact ⟨by rw [write_full (by omega) (by omega) (by omega)]; rfl, _, I, Sel.all, by rw [write_full (by omega) (by omega) (by omega)]; exact hD0, (rfl : (dkC b d ms ml av :: tC ms m1 c1 :: tC ml m2 c2 :: (ownH av acs 82 ++ (I ++ R))) = _)⟩
                    | exact ⟨by rw [write_err (by omega) (by omega)]; rfl, _, I, Sel.all, by rw [write_err (by omega) (by omega)]; exact hD0, (rfl : (dkC b d ms ml av :: tC ms m1 c1 :: tC ml m2 c2 :: (ownH av acs 82 ++ (I ++ R))) = _)⟩
                    | exact ⟨by rw [write_arg (by omega) (by rw [hob]; omega)]; rfl, _, I, Sel.all, by rw [write_arg (by omega) (by rw [hob]; omega)]; exact hD0, (rfl : (dkC b d ms ml av :: tC ms m1 c1 :: tC ml m2 c2 :: (ownH av acs 82 ++ (I ++ R))) = _)⟩
                    | exact ⟨by rw [hw]; unfold DK.writeA; rw [if_pos (by omega)]; rfl, _, I, Sel.all, by rw [hw]; unfold DK.writeA; rw [if_pos (by omega)]; exact hD0, (rfl : (dkC b d ms ml av :: tC ms m1 c1 :: tC ml m2 c2 :: (ownH av acs 82 ++ (I ++ R))) = _)⟩
                    | exact ⟨by rw [hw]; unfold DK.writeA; rw [if_neg (by omega)]; rfl, D4, I4, hI4.trans hsI, by rw [hw]; unfold DK.writeA; rw [if_neg (by omega)]; exact hD4, rfl⟩
                  · exact (by repeat (first | exact Sel.all | exact Sel.none | exact Sel.hd | (apply Sel.one; · repeat (first | exact Pick.h | apply Pick.t | apply Pick.app)) | apply Sel.app | (with_reducible apply Sel.grp; · repeat (first | exact PickF.h | apply PickF.t | apply PickF.a)) | (with_reducible refine Sel.nilF (by with_unfolding_all rfl) ?_) | apply Sel.drop | apply Sel.dropF)))
              | false =>
                try have c_t32 := df h32
                first
                | (exfalso; omega)
                | (
                  first | refine wa_takeg 3 (by kernel_rfl) rfl rfl rfl rfl rfl (by repeat (first | exact Sel.all | exact Sel.none | exact Sel.hd | (apply Sel.one; · repeat (first | exact Pick.h | apply Pick.t | apply Pick.app)) | apply Sel.app | (with_reducible apply Sel.grp; · repeat (first | exact PickF.h | apply PickF.t | apply PickF.a)) | (with_reducible refine Sel.nilF (by with_unfolding_all rfl) ?_) | apply Sel.drop | apply Sel.dropF)) (eLd ty3 rfl rfl (by repeat (first | exact Has.h | apply Has.t | apply Has.app)) (by rfl)) ?_ | refine wa_takeg 3 (by kernel_rfl) rfl rfl rfl rfl rfl (by repeat (first | exact Sel.all | exact Sel.none | exact Sel.hd | (apply Sel.one; · repeat (first | exact Pick.h | apply Pick.t | apply Pick.app)) | apply Sel.app | (with_reducible apply Sel.grp; · repeat (first | exact PickF.h | apply PickF.t | apply PickF.a)) | (with_reducible refine Sel.nilF (by with_unfolding_all rfl) ?_) | apply Sel.drop | apply Sel.dropF)) (eLdO ty3 rfl rfl (by assumption)) ?_
                  refine wa_takeg 4 (by kernel_rfl) rfl rfl rfl rfl rfl (by repeat (first | exact Sel.all | exact Sel.none | exact Sel.hd | (apply Sel.one; · repeat (first | exact Pick.h | apply Pick.t | apply Pick.app)) | apply Sel.app | (with_reducible apply Sel.grp; · repeat (first | exact PickF.h | apply PickF.t | apply PickF.a)) | (with_reducible refine Sel.nilF (by with_unfolding_all rfl) ?_) | apply Sel.drop | apply Sel.dropF)) (eMv rfl) ?_
                  refine wa_takeg 5 (by kernel_rfl) rfl rfl rfl rfl rfl (by repeat (first | exact Sel.all | exact Sel.none | exact Sel.hd | (apply Sel.one; · repeat (first | exact Pick.h | apply Pick.t | apply Pick.app)) | apply Sel.app | (with_reducible apply Sel.grp; · repeat (first | exact PickF.h | apply PickF.t | apply PickF.a)) | (with_reducible refine Sel.nilF (by with_unfolding_all rfl) ?_) | apply Sel.drop | apply Sel.dropF)) (eNil rfl) ?_
                  refine wa_takeg 6 (by kernel_rfl) rfl rfl rfl rfl rfl (by repeat (first | exact Sel.all | exact Sel.none | exact Sel.hd | (apply Sel.one; · repeat (first | exact Pick.h | apply Pick.t | apply Pick.app)) | apply Sel.app | (with_reducible apply Sel.grp; · repeat (first | exact PickF.h | apply PickF.t | apply PickF.a)) | (with_reducible refine Sel.nilF (by with_unfolding_all rfl) ?_) | apply Sel.drop | apply Sel.dropF)) (eFld 5 ty52 rfl rfl ty49 rfl) ?_
                  first | refine wa_takeg 7 (by kernel_rfl) rfl rfl rfl rfl rfl (by repeat (first | exact Sel.all | exact Sel.none | exact Sel.hd | (apply Sel.one; · repeat (first | exact Pick.h | apply Pick.t | apply Pick.app)) | apply Sel.app | (with_reducible apply Sel.grp; · repeat (first | exact PickF.h | apply PickF.t | apply PickF.a)) | (with_reducible refine Sel.nilF (by with_unfolding_all rfl) ?_) | apply Sel.drop | apply Sel.dropF)) (eLd ty49 rfl rfl (by repeat (first | exact Has.h | apply Has.t | apply Has.app)) (by rfl)) ?_ | refine wa_takeg 7 (by kernel_rfl) rfl rfl rfl rfl rfl (by repeat (first | exact Sel.all | exact Sel.none | exact Sel.hd | (apply Sel.one; · repeat (first | exact Pick.h | apply Pick.t | apply Pick.app)) | apply Sel.app | (with_reducible apply Sel.grp; · repeat (first | exact PickF.h | apply PickF.t | apply PickF.a)) | (with_reducible refine Sel.nilF (by with_unfolding_all rfl) ?_) | apply Sel.drop | apply Sel.dropF)) (eLdO ty49 rfl rfl (by assumption)) ?_
                  first | refine wa_takeg 8 (by kernel_rfl) rfl rfl rfl rfl rfl (by repeat (first | exact Sel.all | exact Sel.none | exact Sel.hd | (apply Sel.one; · repeat (first | exact Pick.h | apply Pick.t | apply Pick.app)) | apply Sel.app | (with_reducible apply Sel.grp; · repeat (first | exact PickF.h | apply PickF.t | apply PickF.a)) | (with_reducible refine Sel.nilF (by with_unfolding_all rfl) ?_) | apply Sel.drop | apply Sel.dropF)) (eLd ty9 rfl rfl (by repeat (first | exact Has.h | apply Has.t | apply Has.app)) (by rfl)) ?_ | refine wa_takeg 8 (by kernel_rfl) rfl rfl rfl rfl rfl (by repeat (first | exact Sel.all | exact Sel.none | exact Sel.hd | (apply Sel.one; · repeat (first | exact Pick.h | apply Pick.t | apply Pick.app)) | apply Sel.app | (with_reducible apply Sel.grp; · repeat (first | exact PickF.h | apply PickF.t | apply PickF.a)) | (with_reducible refine Sel.nilF (by with_unfolding_all rfl) ?_) | apply Sel.drop | apply Sel.dropF)) (eLdO ty9 rfl rfl (by assumption)) ?_
                  refine wa_takeg 9 (by kernel_rfl) rfl rfl rfl rfl rfl (by repeat (first | exact Sel.all | exact Sel.none | exact Sel.hd | (apply Sel.one; · repeat (first | exact Pick.h | apply Pick.t | apply Pick.app)) | apply Sel.app | (with_reducible apply Sel.grp; · repeat (first | exact PickF.h | apply PickF.t | apply PickF.a)) | (with_reducible refine Sel.nilF (by with_unfolding_all rfl) ?_) | apply Sel.drop | apply Sel.dropF)) (eLk1 (v := ov) ty49 ty30 (strKOk' ty9) rfl rfl (by repeat (first | exact Has.h | apply Has.t | apply Has.app)) hov) ?_
                  refine wa_takeg 10 (by kernel_rfl) rfl rfl rfl rfl rfl (by repeat (first | exact Sel.all | exact Sel.none | exact Sel.hd | (apply Sel.one; · repeat (first | exact Pick.h | apply Pick.t | apply Pick.app)) | apply Sel.app | (with_reducible apply Sel.grp; · repeat (first | exact PickF.h | apply PickF.t | apply PickF.a)) | (with_reducible refine Sel.nilF (by with_unfolding_all rfl) ?_) | apply Sel.drop | apply Sel.dropF)) (eLenR ty30 rfl (hor.sel (by repeat (first | exact Sel.all | exact Sel.none | exact Sel.hd | (apply Sel.one; · repeat (first | exact Pick.h | apply Pick.t | apply Pick.app)) | apply Sel.app | (with_reducible apply Sel.grp; · repeat (first | exact PickF.h | apply PickF.t | apply PickF.a)) | (with_reducible refine Sel.nilF (by with_unfolding_all rfl) ?_) | apply Sel.drop | apply Sel.dropF)))) ?_
                  refine wa_takegb 11 (by kernel_rfl) rfl rfl rfl rfl rfl (by repeat (first | exact Sel.all | exact Sel.none | exact Sel.hd | (apply Sel.one; · repeat (first | exact Pick.h | apply Pick.t | apply Pick.app)) | apply Sel.app | (with_reducible apply Sel.grp; · repeat (first | exact PickF.h | apply PickF.t | apply PickF.a)) | (with_reducible refine Sel.nilF (by with_unfolding_all rfl) ?_) | apply Sel.drop | apply Sel.dropF)) (eGt rfl rfl) fun t42 h42 => ?_
                  refine wa_take 12 (by kernel_rfl) rfl rfl rfl rfl (by repeat (first | exact Sel.all | exact Sel.none | exact Sel.hd | (apply Sel.one; · repeat (first | exact Pick.h | apply Pick.t | apply Pick.app)) | apply Sel.app | (with_reducible apply Sel.grp; · repeat (first | exact PickF.h | apply PickF.t | apply PickF.a)) | (with_reducible refine Sel.nilF (by with_unfolding_all rfl) ?_) | apply Sel.drop | apply Sel.dropF)) (ePk rfl rfl) ?_
                  refine wa_take 13 (by kernel_rfl) rfl rfl rfl rfl (by repeat (first | exact Sel.all | exact Sel.none | exact Sel.hd | (apply Sel.one; · repeat (first | exact Pick.h | apply Pick.t | apply Pick.app)) | apply Sel.app | (with_reducible apply Sel.grp; · repeat (first | exact PickF.h | apply PickF.t | apply PickF.a)) | (with_reducible refine Sel.nilF (by with_unfolding_all rfl) ?_) | apply Sel.drop | apply Sel.dropF)) (eAs rfl) ?_
                  refine wa_nil (by kernel_rfl) ?_
                  cases t42 with
                  | true =>
                    try have c_t42 := dt h42
                    first
                    | (exfalso; omega)
                    | (
                      refine wc_then rfl ?_
                      refine wc_seq ?_
                      refine wc_region ?_
                      refine wl rfl (OP.ev rfl rfl (eAs rfl) ?_)
                      refine wl_nil ?_
                      refine wc_ret ?_
                      apply at_ret rfl
                      · exact (.cons (.tmp rfl) .nil)
                      · first
                        | exact ⟨by rw [write_full (by omega) (by omega) (by omega)]; rfl, _, I, Sel.all, by rw [write_full (by omega) (by omega) (by omega)]; exact hD0, (rfl : (dkC b d ms ml av :: tC ms m1 c1 :: tC ml m2 c2 :: (ownH av acs 82 ++ (I ++ R))) = _)⟩
                        | exact ⟨by rw [write_err (by omega) (by omega)]; rfl, _, I, Sel.all, by rw [write_err (by omega) (by omega)]; exact hD0, (rfl : (dkC b d ms ml av :: tC ms m1 c1 :: tC ml m2 c2 :: (ownH av acs 82 ++ (I ++ R))) = _)⟩
                        | exact ⟨by rw [write_arg (by omega) (by rw [hob]; omega)]; rfl, _, I, Sel.all, by rw [write_arg (by omega) (by rw [hob]; omega)]; exact hD0, (rfl : (dkC b d ms ml av :: tC ms m1 c1 :: tC ml m2 c2 :: (ownH av acs 82 ++ (I ++ R))) = _)⟩
                        | exact ⟨by rw [hw]; unfold DK.writeA; rw [if_pos (by omega)]; rfl, _, I, Sel.all, by rw [hw]; unfold DK.writeA; rw [if_pos (by omega)]; exact hD0, (rfl : (dkC b d ms ml av :: tC ms m1 c1 :: tC ml m2 c2 :: (ownH av acs 82 ++ (I ++ R))) = _)⟩
                        | exact ⟨by rw [hw]; unfold DK.writeA; rw [if_neg (by omega)]; rfl, D4, I4, hI4.trans hsI, by rw [hw]; unfold DK.writeA; rw [if_neg (by omega)]; exact hD4, rfl⟩
                      · exact (by repeat (first | exact Sel.all | exact Sel.none | exact Sel.hd | (apply Sel.one; · repeat (first | exact Pick.h | apply Pick.t | apply Pick.app)) | apply Sel.app | (with_reducible apply Sel.grp; · repeat (first | exact PickF.h | apply PickF.t | apply PickF.a)) | (with_reducible refine Sel.nilF (by with_unfolding_all rfl) ?_) | apply Sel.drop | apply Sel.dropF)))
                  | false =>
                    try have c_t42 := df h42
                    first
                    | (exfalso; omega)
                    | (
                      refine wc_else rfl ?_
                      refine wc_skip ?_
                      refine wc_seq ?_
                      refine wc_seq ?_
                      have hw : d.write k n B = d.writeA k n B := by first | exact write_new (by omega) (by omega) (by omega) | exact write_old (by omega) (by rw [hob]; omega)
                      have hcan : CanDo d.seen ⟨0, k, [], n, B⟩ := by first | exact can_write hd (.inl ⟨by omega, by omega, by omega⟩) | exact can_write hd (.inr ⟨by omega, by omega, by rw [hob]; omega⟩)
                      have hmay : d.off = false ∧ may k = true := by first | exact ⟨(find_21 (d := d) (k := k) (by omega)).1, (find_21 (d := d) (k := k) (by omega)).2.1⟩ | exact ⟨(find_zero (d := d) (k := k) (by omega)).1, (find_zero (d := d) (k := k) (by omega)).2.1⟩
                      have husd := used_ok (W0 := W0) b d hd _ ((b5, .cells #[strK k] 9 (0, 0)) :: (b6, .cells #[i64 n] 3 (0, 0)) :: R) hD0 (by omega)
                      simp only [List.cons_append] at husd
                      refine wc_draw (dkC b d ms ml av :: (I ++ R)) rfl ?_
                      refine wa_take 0 (by kernel_rfl) rfl rfl rfl rfl (by repeat (first | exact Sel.all | exact Sel.none | exact Sel.hd | (apply Sel.one; · repeat (first | exact Pick.h | apply Pick.t | apply Pick.app)) | apply Sel.app | (with_reducible apply Sel.grp; · repeat (first | exact PickF.h | apply PickF.t | apply PickF.a)) | (with_reducible refine Sel.nilF (by with_unfolding_all rfl) ?_) | apply Sel.drop | apply Sel.dropF)) (eMv rfl) ?_
                      refine wa_take 1 (by kernel_rfl) rfl rfl rfl rfl (by repeat (first | exact Sel.all | exact Sel.none | exact Sel.hd | (apply Sel.one; · repeat (first | exact Pick.h | apply Pick.t | apply Pick.app)) | apply Sel.app | (with_reducible apply Sel.grp; · repeat (first | exact PickF.h | apply PickF.t | apply PickF.a)) | (with_reducible refine Sel.nilF (by with_unfolding_all rfl) ?_) | apply Sel.drop | apply Sel.dropF)) (eLenR ty30 rfl (hb.sel (by repeat (first | exact Sel.all | exact Sel.none | exact Sel.hd | (apply Sel.one; · repeat (first | exact Pick.h | apply Pick.t | apply Pick.app)) | apply Sel.app | (with_reducible apply Sel.grp; · repeat (first | exact PickF.h | apply PickF.t | apply PickF.a)) | (with_reducible refine Sel.nilF (by with_unfolding_all rfl) ?_) | apply Sel.drop | apply Sel.dropF)))) ?_
                      refine wa_take 2 (by kernel_rfl) rfl rfl rfl rfl (by repeat (first | exact Sel.all | exact Sel.none | exact Sel.hd | (apply Sel.one; · repeat (first | exact Pick.h | apply Pick.t | apply Pick.app)) | apply Sel.app | (with_reducible apply Sel.grp; · repeat (first | exact PickF.h | apply PickF.t | apply PickF.a)) | (with_reducible refine Sel.nilF (by with_unfolding_all rfl) ?_) | apply Sel.drop | apply Sel.dropF)) (eMv rfl) ?_
                      refine wa_take 3 (by kernel_rfl) rfl rfl rfl rfl (by repeat (first | exact Sel.all | exact Sel.none | exact Sel.hd | (apply Sel.one; · repeat (first | exact Pick.h | apply Pick.t | apply Pick.app)) | apply Sel.app | (with_reducible apply Sel.grp; · repeat (first | exact PickF.h | apply PickF.t | apply PickF.a)) | (with_reducible refine Sel.nilF (by with_unfolding_all rfl) ?_) | apply Sel.drop | apply Sel.dropF)) (eNil rfl) ?_
                      refine wa_take 4 (by kernel_rfl) rfl rfl rfl rfl (by repeat (first | exact Sel.all | exact Sel.none | exact Sel.hd | (apply Sel.one; · repeat (first | exact Pick.h | apply Pick.t | apply Pick.app)) | apply Sel.app | (with_reducible apply Sel.grp; · repeat (first | exact PickF.h | apply PickF.t | apply PickF.a)) | (with_reducible refine Sel.nilF (by with_unfolding_all rfl) ?_) | apply Sel.drop | apply Sel.dropF)) (eFld 4 ty52 rfl rfl ty3 rfl) ?_
                      first | refine wa_take 5 (by kernel_rfl) rfl rfl rfl rfl (by repeat (first | exact Sel.all | exact Sel.none | exact Sel.hd | (apply Sel.one; · repeat (first | exact Pick.h | apply Pick.t | apply Pick.app)) | apply Sel.app | (with_reducible apply Sel.grp; · repeat (first | exact PickF.h | apply PickF.t | apply PickF.a)) | (with_reducible refine Sel.nilF (by with_unfolding_all rfl) ?_) | apply Sel.drop | apply Sel.dropF)) (eLd ty3 rfl rfl (by repeat (first | exact Has.h | apply Has.t | apply Has.app)) (by rfl)) ?_ | refine wa_take 5 (by kernel_rfl) rfl rfl rfl rfl (by repeat (first | exact Sel.all | exact Sel.none | exact Sel.hd | (apply Sel.one; · repeat (first | exact Pick.h | apply Pick.t | apply Pick.app)) | apply Sel.app | (with_reducible apply Sel.grp; · repeat (first | exact PickF.h | apply PickF.t | apply PickF.a)) | (with_reducible refine Sel.nilF (by with_unfolding_all rfl) ?_) | apply Sel.drop | apply Sel.dropF)) (eLdO ty3 rfl rfl (by assumption)) ?_
                      refine wa_take 6 (by kernel_rfl) rfl rfl rfl rfl (by repeat (first | exact Sel.all | exact Sel.none | exact Sel.hd | (apply Sel.one; · repeat (first | exact Pick.h | apply Pick.t | apply Pick.app)) | apply Sel.app | (with_reducible apply Sel.grp; · repeat (first | exact PickF.h | apply PickF.t | apply PickF.a)) | (with_reducible refine Sel.nilF (by with_unfolding_all rfl) ?_) | apply Sel.drop | apply Sel.dropF)) (eMv rfl) ?_
                      refine wa_all [7] (by kernel_rfl) rfl (wall_one 7 rfl rfl ?_ trivial)
                      refine oC rfl pf25 rfl husd (by repeat (first | exact Sel.all | exact Sel.none | exact Sel.hd | (apply Sel.one; · repeat (first | exact Pick.h | apply Pick.t | apply Pick.app)) | apply Sel.app | (with_reducible apply Sel.grp; · repeat (first | exact PickF.h | apply PickF.t | apply PickF.a)) | (with_reducible refine Sel.nilF (by with_unfolding_all rfl) ?_) | apply Sel.drop | apply Sel.dropF)) ?_
                      rintro _ _ ⟨rfl, rfl⟩
                      refine ⟨(by repeat (first | exact Sel.all | exact Sel.none | exact Sel.hd | (apply Sel.one; · repeat (first | exact Pick.h | apply Pick.t | apply Pick.app)) | apply Sel.app | (with_reducible apply Sel.grp; · repeat (first | exact PickF.h | apply PickF.t | apply PickF.a)) | (with_reducible refine Sel.nilF (by with_unfolding_all rfl) ?_) | apply Sel.drop | apply Sel.dropF)), ?_⟩
                      first | refine wa_take 8 (by kernel_rfl) rfl rfl rfl rfl (by repeat (first | exact Sel.all | exact Sel.none | exact Sel.hd | (apply Sel.one; · repeat (first | exact Pick.h | apply Pick.t | apply Pick.app)) | apply Sel.app | (with_reducible apply Sel.grp; · repeat (first | exact PickF.h | apply PickF.t | apply PickF.a)) | (with_reducible refine Sel.nilF (by with_unfolding_all rfl) ?_) | apply Sel.drop | apply Sel.dropF)) (eSub rfl rfl (by omega)) ?_ | refine wa_take 8 (by kernel_rfl) rfl rfl rfl rfl (by repeat (first | exact Sel.all | exact Sel.none | exact Sel.hd | (apply Sel.one; · repeat (first | exact Pick.h | apply Pick.t | apply Pick.app)) | apply Sel.app | (with_reducible apply Sel.grp; · repeat (first | exact PickF.h | apply PickF.t | apply PickF.a)) | (with_reducible refine Sel.nilF (by with_unfolding_all rfl) ?_) | apply Sel.drop | apply Sel.dropF)) (eSubW rfl rfl) ?_
                      refine wa_takeb 9 (by kernel_rfl) rfl rfl rfl rfl (by repeat (first | exact Sel.all | exact Sel.none | exact Sel.hd | (apply Sel.one; · repeat (first | exact Pick.h | apply Pick.t | apply Pick.app)) | apply Sel.app | (with_reducible apply Sel.grp; · repeat (first | exact PickF.h | apply PickF.t | apply PickF.a)) | (with_reducible refine Sel.nilF (by with_unfolding_all rfl) ?_) | apply Sel.drop | apply Sel.dropF)) (eGt rfl rfl) fun t53 h53 => ?_
                      refine wa_nil (by kernel_rfl) ?_
                      cases t53 with
                      | true =>
                        try have c_t53 := dt h53
                        first
                        | (exfalso; omega)
                        | (
                          refine wc_then rfl ?_
                          refine wc_seq ?_
                          refine wc_region ?_
                          refine wl rfl (OP.ev rfl rfl (eAs rfl) ?_)
                          refine wl_nil ?_
                          refine wc_ret ?_
                          apply at_ret rfl
                          · exact (.cons (.tmp rfl) .nil)
                          · first
                            | exact ⟨by rw [write_full (by omega) (by omega) (by omega)]; rfl, _, I, Sel.all, by rw [write_full (by omega) (by omega) (by omega)]; exact hD0, (rfl : (dkC b d ms ml av :: tC ms m1 c1 :: tC ml m2 c2 :: (ownH av acs 82 ++ (I ++ R))) = _)⟩
                            | exact ⟨by rw [write_err (by omega) (by omega)]; rfl, _, I, Sel.all, by rw [write_err (by omega) (by omega)]; exact hD0, (rfl : (dkC b d ms ml av :: tC ms m1 c1 :: tC ml m2 c2 :: (ownH av acs 82 ++ (I ++ R))) = _)⟩
                            | exact ⟨by rw [write_arg (by omega) (by rw [hob]; omega)]; rfl, _, I, Sel.all, by rw [write_arg (by omega) (by rw [hob]; omega)]; exact hD0, (rfl : (dkC b d ms ml av :: tC ms m1 c1 :: tC ml m2 c2 :: (ownH av acs 82 ++ (I ++ R))) = _)⟩
                            | exact ⟨by rw [hw]; unfold DK.writeA; rw [if_pos (by omega)]; rfl, _, I, Sel.all, by rw [hw]; unfold DK.writeA; rw [if_pos (by omega)]; exact hD0, (rfl : (dkC b d ms ml av :: tC ms m1 c1 :: tC ml m2 c2 :: (ownH av acs 82 ++ (I ++ R))) = _)⟩
                            | exact ⟨by rw [hw]; unfold DK.writeA; rw [if_neg (by omega)]; rfl, D4, I4, hI4.trans hsI, by rw [hw]; unfold DK.writeA; rw [if_neg (by omega)]; exact hD4, rfl⟩
                          · exact (by repeat (first | exact Sel.all | exact Sel.none | exact Sel.hd | (apply Sel.one; · repeat (first | exact Pick.h | apply Pick.t | apply Pick.app)) | apply Sel.app | (with_reducible apply Sel.grp; · repeat (first | exact PickF.h | apply PickF.t | apply PickF.a)) | (with_reducible refine Sel.nilF (by with_unfolding_all rfl) ?_) | apply Sel.drop | apply Sel.dropF)))
                      | false =>
                        try have c_t53 := df h53
                        first
                        | (exfalso; omega)
                        | (
                          refine wc_else rfl ?_
                          refine wc_skip ?_
                          refine wc_seq ?_
                          refine wc_region ?_
                          refine wl rfl (OP.ev rfl rfl (eMv rfl) ?_)
                          refine wl rfl (oBS0 rfl ty30 ty5 fun b55 => ?_)
                          refine wl rfl (OP.ev rfl rfl (eMv rfl) ?_)
                          refine wl rfl (oApp (m := B.length) (news := byteV B) rfl ty30 ty5 rfl rfl rfl (Row.mk (b := b55) (k := 0) (cap := 0) (cs := #[]) (sz := 1) (xs := []) (Nat.le_refl _) rfl rfl) (by repeat (first | exact At.cell | exact At.h | apply At.t | apply At.a)) (hb.sel (by repeat (first | exact Sel.all | exact Sel.none | exact Sel.hd | (apply Sel.one; · repeat (first | exact Pick.h | apply Pick.t | apply Pick.app)) | apply Sel.app | (with_reducible apply Sel.grp; · repeat (first | exact PickF.h | apply PickF.t | apply PickF.a)) | (with_reducible refine Sel.nilF (by with_unfolding_all rfl) ?_) | apply Sel.drop | apply Sel.dropF))) (byteV_one _) (by omega) (by omega) ?_)
                          rintro v57 cs57 hrow57 hn57
                          rw [Nat.zero_add, List.nil_append] at hrow57
                          have hsI : Sel (ownH v57 cs57 5 ++ ((b5, .cells #[strK k] 9 (0, 0)) :: (b6, .cells #[i64 n] 3 (0, 0)) :: I)) I := Sel.dropF (Sel.drop (Sel.drop Sel.all))
                          have hsp : d.used = ((total d.last + costs d.acts : Nat) : Int) := by unfold DK.used; rw [hmay.1]; rfl
                          have hdo := do_ok (W0 := W0) (I := ownH v57 cs57 5 ++ ((b5, .cells #[strK k] 9 (0, 0)) :: (b6, .cells #[i64 n] 3 (0, 0)) :: I)) b d hd hmay.1 ⟨0, k, [], n, B⟩ (.func (.func 67) #[] #[ptr b5, ptr b6]) v57 hcan (by show ((total d.last + costs d.acts + B.length : Nat) : Int) ≤ _; omega) ⟨may_len hmay.2, by simp⟩ (.inl ⟨rfl, b5, b6, rfl, Rc.of_has (by repeat (first | exact Has.h | apply Has.t | apply Has.app)) rfl, Rc.of_has (by repeat (first | exact Has.h | apply Has.t | apply Has.app)) rfl⟩) (hrow57.rs (by repeat (first | exact At.cell | exact At.h | apply At.t | apply At.a))) hB _ R (hD0.sel hsI) hn
                          simp only [List.cons_append, List.append_assoc] at hdo
                          refine wl rfl (OP.ev rfl rfl (eMkF rfl rfl) ?_)
                          refine wl rfl (oC rfl pf48 rfl hdo (by repeat (first | exact Sel.all | exact Sel.none | exact Sel.hd | (apply Sel.one; · repeat (first | exact Pick.h | apply Pick.t | apply Pick.app)) | apply Sel.app | (with_reducible apply Sel.grp; · repeat (first | exact PickF.h | apply PickF.t | apply PickF.a)) | (with_reducible refine Sel.nilF (by with_unfolding_all rfl) ?_) | apply Sel.drop | apply Sel.dropF)) ?_)
                          rintro _ _ ⟨rfl, D4, I4, hI4, hD4, rfl⟩
                          refine wl rfl (OP.ev rfl rfl (eAs rfl) ?_)
                          refine wl_nil ?_
                          refine wc_ret ?_
                          apply at_ret rfl
                          · exact (.cons (.tmp rfl) .nil)
                          · first
                            | exact ⟨by rw [write_full (by omega) (by omega) (by omega)]; rfl, _, I, Sel.all, by rw [write_full (by omega) (by omega) (by omega)]; exact hD0, (rfl : (dkC b d ms ml av :: tC ms m1 c1 :: tC ml m2 c2 :: (ownH av acs 82 ++ (I ++ R))) = _)⟩
                            | exact ⟨by rw [write_err (by omega) (by omega)]; rfl, _, I, Sel.all, by rw [write_err (by omega) (by omega)]; exact hD0, (rfl : (dkC b d ms ml av :: tC ms m1 c1 :: tC ml m2 c2 :: (ownH av acs 82 ++ (I ++ R))) = _)⟩
                            | exact ⟨by rw [write_arg (by omega) (by rw [hob]; omega)]; rfl, _, I, Sel.all, by rw [write_arg (by omega) (by rw [hob]; omega)]; exact hD0, (rfl : (dkC b d ms ml av :: tC ms m1 c1 :: tC ml m2 c2 :: (ownH av acs 82 ++ (I ++ R))) = _)⟩
                            | exact ⟨by rw [hw]; unfold DK.writeA; rw [if_pos (by omega)]; rfl, _, I, Sel.all, by rw [hw]; unfold DK.writeA; rw [if_pos (by omega)]; exact hD0, (rfl : (dkC b d ms ml av :: tC ms m1 c1 :: tC ml m2 c2 :: (ownH av acs 82 ++ (I ++ R))) = _)⟩
                            | exact ⟨by rw [hw]; unfold DK.writeA; rw [if_neg (by omega)]; rfl, D4, I4, hI4.trans hsI, by rw [hw]; unfold DK.writeA; rw [if_neg (by omega)]; exact hD4, rfl⟩
                          · exact (by repeat (first | exact Sel.all | exact Sel.none | exact Sel.hd | (apply Sel.one; · repeat (first | exact Pick.h | apply Pick.t | apply Pick.app)) | apply Sel.app | (with_reducible apply Sel.grp; · repeat (first | exact PickF.h | apply PickF.t | apply PickF.a)) | (with_reducible refine Sel.nilF (by with_unfolding_all rfl) ?_) | apply Sel.drop | apply Sel.dropF))))))))
  | false =>
    try have c_t15 := df h15
    first
    | (exfalso; omega)
    | (
      refine wl_skip rfl rfl rfl rfl rfl ?_
      refine wl_skip rfl rfl rfl rfl rfl ?_
      refine wl rfl (OP.ev rfl rfl (ePk rfl rfl) ?_)
      refine wl rfl (OP.ev rfl rfl (eAs rfl) ?_)
      refine wl_nil ?_
      refine wc_else rfl ?_
      refine wc_seq ?_
      refine wc_region ?_
      refine wl rfl (OP.ev rfl rfl (eMv rfl) ?_)
      refine wl rfl (OP.evb rfl rfl (eNe rfl rfl) fun t28 h28 => ?_)
      refine wl rfl (OP.ev rfl rfl (eAs rfl) ?_)
      refine wl_nil ?_
      cases t28 with
      | true =>
        try have c_t28 := dt h28
        first
        | (exfalso; omega)
        | (
          refine wc_then rfl ?_
          refine wc_seq ?_
          refine wc_region ?_
          refine wl rfl (OP.ev rfl rfl (eMv rfl) ?_)
          refine wl rfl (OP.ev rfl rfl (eAs rfl) ?_)
          refine wl_nil ?_
          refine wc_ret ?_
          apply at_ret rfl
          · exact (.cons (.tmp rfl) .nil)
          · first
            | exact ⟨by rw [write_full (by omega) (by omega) (by omega)]; rfl, _, I, Sel.all, by rw [write_full (by omega) (by omega) (by omega)]; exact hD0, (rfl : (dkC b d ms ml av :: tC ms m1 c1 :: tC ml m2 c2 :: (ownH av acs 82 ++ (I ++ R))) = _)⟩
            | exact ⟨by rw [write_err (by omega) (by omega)]; rfl, _, I, Sel.all, by rw [write_err (by omega) (by omega)]; exact hD0, (rfl : (dkC b d ms ml av :: tC ms m1 c1 :: tC ml m2 c2 :: (ownH av acs 82 ++ (I ++ R))) = _)⟩
            | exact ⟨by rw [write_arg (by omega) (by rw [hob]; omega)]; rfl, _, I, Sel.all, by rw [write_arg (by omega) (by rw [hob]; omega)]; exact hD0, (rfl : (dkC b d ms ml av :: tC ms m1 c1 :: tC ml m2 c2 :: (ownH av acs 82 ++ (I ++ R))) = _)⟩
            | exact ⟨by rw [hw]; unfold DK.writeA; rw [if_pos (by omega)]; rfl, _, I, Sel.all, by rw [hw]; unfold DK.writeA; rw [if_pos (by omega)]; exact hD0, (rfl : (dkC b d ms ml av :: tC ms m1 c1 :: tC ml m2 c2 :: (ownH av acs 82 ++ (I ++ R))) = _)⟩
            | exact ⟨by rw [hw]; unfold DK.writeA; rw [if_neg (by omega)]; rfl, D4, I4, hI4.trans hsI, by rw [hw]; unfold DK.writeA; rw [if_neg (by omega)]; exact hD4, rfl⟩
          · exact (by repeat (first | exact Sel.all | exact Sel.none | exact Sel.hd | (apply Sel.one; · repeat (first | exact Pick.h | apply Pick.t | apply Pick.app)) | apply Sel.app | (with_reducible apply Sel.grp; · repeat (first | exact PickF.h | apply PickF.t | apply PickF.a)) | (with_reducible refine Sel.nilF (by with_unfolding_all rfl) ?_) | apply Sel.drop | apply Sel.dropF)))
      | false =>
        try have c_t28 := df h28
        first
        | (exfalso; omega)
        | (
          refine wc_else rfl ?_
          refine wc_seq ?_
          refine wc_draw ((b5, .cells #[strK k] 9 (0, 0)) :: (b6, .cells #[i64 n] 3 (0, 0)) :: dkC b d ms ml av :: tC ms m1 c1 :: (I ++ [])) rfl ?_
          first | refine wa_take 0 (by kernel_rfl) rfl rfl rfl rfl (by repeat (first | exact Sel.all | exact Sel.none | exact Sel.hd | (apply Sel.one; · repeat (first | exact Pick.h | apply Pick.t | apply Pick.app)) | apply Sel.app | (with_reducible apply Sel.grp; · repeat (first | exact PickF.h | apply PickF.t | apply PickF.a)) | (with_reducible refine Sel.nilF (by with_unfolding_all rfl) ?_) | apply Sel.drop | apply Sel.dropF)) (eLd ty3 rfl rfl (by repeat (first | exact Has.h | apply Has.t | apply Has.app)) (by rfl)) ?_ | refine wa_take 0 (by kernel_rfl) rfl rfl rfl rfl (by repeat (first | exact Sel.all | exact Sel.none | exact Sel.hd | (apply Sel.one; · repeat (first | exact Pick.h | apply Pick.t | apply Pick.app)) | apply Sel.app | (with_reducible apply Sel.grp; · repeat (first | exact PickF.h | apply PickF.t | apply PickF.a)) | (with_reducible refine Sel.nilF (by with_unfolding_all rfl) ?_) | apply Sel.drop | apply Sel.dropF)) (eLdO ty3 rfl rfl (by assumption)) ?_
          refine wa_takeb 1 (by kernel_rfl) rfl rfl rfl rfl (by repeat (first | exact Sel.all | exact Sel.none | exact Sel.hd | (apply Sel.one; · repeat (first | exact Pick.h | apply Pick.t | apply Pick.app)) | apply Sel.app | (with_reducible apply Sel.grp; · repeat (first | exact PickF.h | apply PickF.t | apply PickF.a)) | (with_reducible refine Sel.nilF (by with_unfolding_all rfl) ?_) | apply Sel.drop | apply Sel.dropF)) (eLt rfl rfl) fun t32 h32 => ?_
          refine wa_take 2 (by kernel_rfl) rfl rfl rfl rfl (by repeat (first | exact Sel.all | exact Sel.none | exact Sel.hd | (apply Sel.one; · repeat (first | exact Pick.h | apply Pick.t | apply Pick.app)) | apply Sel.app | (with_reducible apply Sel.grp; · repeat (first | exact PickF.h | apply PickF.t | apply PickF.a)) | (with_reducible refine Sel.nilF (by with_unfolding_all rfl) ?_) | apply Sel.drop | apply Sel.dropF)) (eMv rfl) ?_
          cases t32 with
          | true =>
            try have c_t32 := dt h32
            first
            | (exfalso; omega)
            | (
              refine wa_skip 3 (by kernel_rfl) rfl rfl rfl rfl rfl rfl (by repeat (first | exact Sel.all | exact Sel.none | exact Sel.hd | (apply Sel.one; · repeat (first | exact Pick.h | apply Pick.t | apply Pick.app)) | apply Sel.app | (with_reducible apply Sel.grp; · repeat (first | exact PickF.h | apply PickF.t | apply PickF.a)) | (with_reducible refine Sel.nilF (by with_unfolding_all rfl) ?_) | apply Sel.drop | apply Sel.dropF)) ?_
              refine wa_skip 4 (by kernel_rfl) rfl rfl rfl rfl rfl rfl (by repeat (first | exact Sel.all | exact Sel.none | exact Sel.hd | (apply Sel.one; · repeat (first | exact Pick.h | apply Pick.t | apply Pick.app)) | apply Sel.app | (with_reducible apply Sel.grp; · repeat (first | exact PickF.h | apply PickF.t | apply PickF.a)) | (with_reducible refine Sel.nilF (by with_unfolding_all rfl) ?_) | apply Sel.drop | apply Sel.dropF)) ?_
              refine wa_skip 5 (by kernel_rfl) rfl rfl rfl rfl rfl rfl (by repeat (first | exact Sel.all | exact Sel.none | exact Sel.hd | (apply Sel.one; · repeat (first | exact Pick.h | apply Pick.t | apply Pick.app)) | apply Sel.app | (with_reducible apply Sel.grp; · repeat (first | exact PickF.h | apply PickF.t | apply PickF.a)) | (with_reducible refine Sel.nilF (by with_unfolding_all rfl) ?_) | apply Sel.drop | apply Sel.dropF)) ?_
              refine wa_skip 6 (by kernel_rfl) rfl rfl rfl rfl rfl rfl (by repeat (first | exact Sel.all | exact Sel.none | exact Sel.hd | (apply Sel.one; · repeat (first | exact Pick.h | apply Pick.t | apply Pick.app)) | apply Sel.app | (with_reducible apply Sel.grp; · repeat (first | exact PickF.h | apply PickF.t | apply PickF.a)) | (with_reducible refine Sel.nilF (by with_unfolding_all rfl) ?_) | apply Sel.drop | apply Sel.dropF)) ?_
              refine wa_skip 7 (by kernel_rfl) rfl rfl rfl rfl rfl rfl (by repeat (first | exact Sel.all | exact Sel.none | exact Sel.hd | (apply Sel.one; · repeat (first | exact Pick.h | apply Pick.t | apply Pick.app)) | apply Sel.app | (with_reducible apply Sel.grp; · repeat (first | exact PickF.h | apply PickF.t | apply PickF.a)) | (with_reducible refine Sel.nilF (by with_unfolding_all rfl) ?_) | apply Sel.drop | apply Sel.dropF)) ?_
              refine wa_skip 8 (by kernel_rfl) rfl rfl rfl rfl rfl rfl (by repeat (first | exact Sel.all | exact Sel.none | exact Sel.hd | (apply Sel.one; · repeat (first | exact Pick.h | apply Pick.t | apply Pick.app)) | apply Sel.app | (with_reducible apply Sel.grp; · repeat (first | exact PickF.h | apply PickF.t | apply PickF.a)) | (with_reducible refine Sel.nilF (by with_unfolding_all rfl) ?_) | apply Sel.drop | apply Sel.dropF)) ?_
              refine wa_skip 9 (by kernel_rfl) rfl rfl rfl rfl rfl rfl (by repeat (first | exact Sel.all | exact Sel.none | exact Sel.hd | (apply Sel.one; · repeat (first | exact Pick.h | apply Pick.t | apply Pick.app)) | apply Sel.app | (with_reducible apply Sel.grp; · repeat (first | exact PickF.h | apply PickF.t | apply PickF.a)) | (with_reducible refine Sel.nilF (by with_unfolding_all rfl) ?_) | apply Sel.drop | apply Sel.dropF)) ?_
              refine wa_skip 10 (by kernel_rfl) rfl rfl rfl rfl rfl rfl (by repeat (first | exact Sel.all | exact Sel.none | exact Sel.hd | (apply Sel.one; · repeat (first | exact Pick.h | apply Pick.t | apply Pick.app)) | apply Sel.app | (with_reducible apply Sel.grp; · repeat (first | exact PickF.h | apply PickF.t | apply PickF.a)) | (with_reducible refine Sel.nilF (by with_unfolding_all rfl) ?_) | apply Sel.drop | apply Sel.dropF)) ?_
              refine wa_skip 11 (by kernel_rfl) rfl rfl rfl rfl rfl rfl (by repeat (first | exact Sel.all | exact Sel.none | exact Sel.hd | (apply Sel.one; · repeat (first | exact Pick.h | apply Pick.t | apply Pick.app)) | apply Sel.app | (with_reducible apply Sel.grp; · repeat (first | exact PickF.h | apply PickF.t | apply PickF.a)) | (with_reducible refine Sel.nilF (by with_unfolding_all rfl) ?_) | apply Sel.drop | apply Sel.dropF)) ?_
              refine wa_take 12 (by kernel_rfl) rfl rfl rfl rfl (by repeat (first | exact Sel.all | exact Sel.none | exact Sel.hd | (apply Sel.one; · repeat (first | exact Pick.h | apply Pick.t | apply Pick.app)) | apply Sel.app | (with_reducible apply Sel.grp; · repeat (first | exact PickF.h | apply PickF.t | apply PickF.a)) | (with_reducible refine Sel.nilF (by with_unfolding_all rfl) ?_) | apply Sel.drop | apply Sel.dropF)) (ePk rfl rfl) ?_
              refine wa_take 13 (by kernel_rfl) rfl rfl rfl rfl (by repeat (first | exact Sel.all | exact Sel.none | exact Sel.hd | (apply Sel.one; · repeat (first | exact Pick.h | apply Pick.t | apply Pick.app)) | apply Sel.app | (with_reducible apply Sel.grp; · repeat (first | exact PickF.h | apply PickF.t | apply PickF.a)) | (with_reducible refine Sel.nilF (by with_unfolding_all rfl) ?_) | apply Sel.drop | apply Sel.dropF)) (eAs rfl) ?_
              refine wa_nil (by kernel_rfl) ?_
              refine wc_then rfl ?_
              refine wc_seq ?_
              refine wc_region ?_
              refine wl rfl (OP.ev rfl rfl (eAs rfl) ?_)
              refine wl_nil ?_
              refine wc_ret ?_
              apply at_ret rfl
              · exact (.cons (.tmp rfl) .nil)
              · first
                | exact ⟨by rw [write_full (by omega) (by omega) (by omega)]; rfl, _, I, Sel.all, by rw [write_full (by omega) (by omega) (by omega)]; exact hD0, (rfl : (dkC b d ms ml av :: tC ms m1 c1 :: tC ml m2 c2 :: (ownH av acs 82 ++ (I ++ R))) = _)⟩
                | exact ⟨by rw [write_err (by omega) (by omega)]; rfl, _, I, Sel.all, by rw [write_err (by omega) (by omega)]; exact hD0, (rfl : (dkC b d ms ml av :: tC ms m1 c1 :: tC ml m2 c2 :: (ownH av acs 82 ++ (I ++ R))) = _)⟩
                | exact ⟨by rw [write_arg (by omega) (by rw [hob]; omega)]; rfl, _, I, Sel.all, by rw [write_arg (by omega) (by rw [hob]; omega)]; exact hD0, (rfl : (dkC b d ms ml av :: tC ms m1 c1 :: tC ml m2 c2 :: (ownH av acs 82 ++ (I ++ R))) = _)⟩
                | exact ⟨by rw [hw]; unfold DK.writeA; rw [if_pos (by omega)]; rfl, _, I, Sel.all, by rw [hw]; unfold DK.writeA; rw [if_pos (by omega)]; exact hD0, (rfl : (dkC b d ms ml av :: tC ms m1 c1 :: tC ml m2 c2 :: (ownH av acs 82 ++ (I ++ R))) = _)⟩
                | exact ⟨by rw [hw]; unfold DK.writeA; rw [if_neg (by omega)]; rfl, D4, I4, hI4.trans hsI, by rw [hw]; unfold DK.writeA; rw [if_neg (by omega)]; exact hD4, rfl⟩
              · exact (by repeat (first | exact Sel.all | exact Sel.none | exact Sel.hd | (apply Sel.one; · repeat (first | exact Pick.h | apply Pick.t | apply Pick.app)) | apply Sel.app | (with_reducible apply Sel.grp; · repeat (first | exact PickF.h | apply PickF.t | apply PickF.a)) | (with_reducible refine Sel.nilF (by with_unfolding_all rfl) ?_) | apply Sel.drop | apply Sel.dropF)))
          | false =>
            try have c_t32 := df h32
            first
            | (exfalso; omega)
            | (
              first | refine wa_takeg 3 (by kernel_rfl) rfl rfl rfl rfl rfl (by repeat (first | exact Sel.all | exact Sel.none | exact Sel.hd | (apply Sel.one; · repeat (first | exact Pick.h | apply Pick.t | apply Pick.app)) | apply Sel.app | (with_reducible apply Sel.grp; · repeat (first | exact PickF.h | apply PickF.t | apply PickF.a)) | (with_reducible refine Sel.nilF (by with_unfolding_all rfl) ?_) | apply Sel.drop | apply Sel.dropF)) (eLd ty3 rfl rfl (by repeat (first | exact Has.h | apply Has.t | apply Has.app)) (by rfl)) ?_ | refine wa_takeg 3 (by kernel_rfl) rfl rfl rfl rfl rfl (by repeat (first | exact Sel.all | exact Sel.none | exact Sel.hd | (apply Sel.one; · repeat (first | exact Pick.h | apply Pick.t | apply Pick.app)) | apply Sel.app | (with_reducible apply Sel.grp; · repeat (first | exact PickF.h | apply PickF.t | apply PickF.a)) | (with_reducible refine Sel.nilF (by with_unfolding_all rfl) ?_) | apply Sel.drop | apply Sel.dropF)) (eLdO ty3 rfl rfl (by assumption)) ?_
              refine wa_takeg 4 (by kernel_rfl) rfl rfl rfl rfl rfl (by repeat (first | exact Sel.all | exact Sel.none | exact Sel.hd | (apply Sel.one; · repeat (first | exact Pick.h | apply Pick.t | apply Pick.app)) | apply Sel.app | (with_reducible apply Sel.grp; · repeat (first | exact PickF.h | apply PickF.t | apply PickF.a)) | (with_reducible refine Sel.nilF (by with_unfolding_all rfl) ?_) | apply Sel.drop | apply Sel.dropF)) (eMv rfl) ?_
              refine wa_takeg 5 (by kernel_rfl) rfl rfl rfl rfl rfl (by repeat (first | exact Sel.all | exact Sel.none | exact Sel.hd | (apply Sel.one; · repeat (first | exact Pick.h | apply Pick.t | apply Pick.app)) | apply Sel.app | (with_reducible apply Sel.grp; · repeat (first | exact PickF.h | apply PickF.t | apply PickF.a)) | (with_reducible refine Sel.nilF (by with_unfolding_all rfl) ?_) | apply Sel.drop | apply Sel.dropF)) (eNil rfl) ?_
              refine wa_takeg 6 (by kernel_rfl) rfl rfl rfl rfl rfl (by repeat (first | exact Sel.all | exact Sel.none | exact Sel.hd | (apply Sel.one; · repeat (first | exact Pick.h | apply Pick.t | apply Pick.app)) | apply Sel.app | (with_reducible apply Sel.grp; · repeat (first | exact PickF.h | apply PickF.t | apply PickF.a)) | (with_reducible refine Sel.nilF (by with_unfolding_all rfl) ?_) | apply Sel.drop | apply Sel.dropF)) (eFld 5 ty52 rfl rfl ty49 rfl) ?_
              first | refine wa_takeg 7 (by kernel_rfl) rfl rfl rfl rfl rfl (by repeat (first | exact Sel.all | exact Sel.none | exact Sel.hd | (apply Sel.one; · repeat (first | exact Pick.h | apply Pick.t | apply Pick.app)) | apply Sel.app | (with_reducible apply Sel.grp; · repeat (first | exact PickF.h | apply PickF.t | apply PickF.a)) | (with_reducible refine Sel.nilF (by with_unfolding_all rfl) ?_) | apply Sel.drop | apply Sel.dropF)) (eLd ty49 rfl rfl (by repeat (first | exact Has.h | apply Has.t | apply Has.app)) (by rfl)) ?_ | refine wa_takeg 7 (by kernel_rfl) rfl rfl rfl rfl rfl (by repeat (first | exact Sel.all | exact Sel.none | exact Sel.hd | (apply Sel.one; · repeat (first | exact Pick.h | apply Pick.t | apply Pick.app)) | apply Sel.app | (with_reducible apply Sel.grp; · repeat (first | exact PickF.h | apply PickF.t | apply PickF.a)) | (with_reducible refine Sel.nilF (by with_unfolding_all rfl) ?_) | apply Sel.drop | apply Sel.dropF)) (eLdO ty49 rfl rfl (by assumption)) ?_
              first | refine wa_takeg 8 (by kernel_rfl) rfl rfl rfl rfl rfl (by repeat (first | exact Sel.all | exact Sel.none | exact Sel.hd | (apply Sel.one; · repeat (first | exact Pick.h | apply Pick.t | apply Pick.app)) | apply Sel.app | (with_reducible apply Sel.grp; · repeat (first | exact PickF.h | apply PickF.t | apply PickF.a)) | (with_reducible refine Sel.nilF (by with_unfolding_all rfl) ?_) | apply Sel.drop | apply Sel.dropF)) (eLd ty9 rfl rfl (by repeat (first | exact Has.h | apply Has.t | apply Has.app)) (by rfl)) ?_ | refine wa_takeg 8 (by kernel_rfl) rfl rfl rfl rfl rfl (by repeat (first | exact Sel.all | exact Sel.none | exact Sel.hd | (apply Sel.one; · repeat (first | exact Pick.h | apply Pick.t | apply Pick.app)) | apply Sel.app | (with_reducible apply Sel.grp; · repeat (first | exact PickF.h | apply PickF.t | apply PickF.a)) | (with_reducible refine Sel.nilF (by with_unfolding_all rfl) ?_) | apply Sel.drop | apply Sel.dropF)) (eLdO ty9 rfl rfl (by assumption)) ?_
              refine wa_takeg 9 (by kernel_rfl) rfl rfl rfl rfl rfl (by repeat (first | exact Sel.all | exact Sel.none | exact Sel.hd | (apply Sel.one; · repeat (first | exact Pick.h | apply Pick.t | apply Pick.app)) | apply Sel.app | (with_reducible apply Sel.grp; · repeat (first | exact PickF.h | apply PickF.t | apply PickF.a)) | (with_reducible refine Sel.nilF (by with_unfolding_all rfl) ?_) | apply Sel.drop | apply Sel.dropF)) (eLk1 (v := ov) ty49 ty30 (strKOk' ty9) rfl rfl (by repeat (first | exact Has.h | apply Has.t | apply Has.app)) hov) ?_
              refine wa_takeg 10 (by kernel_rfl) rfl rfl rfl rfl rfl (by repeat (first | exact Sel.all | exact Sel.none | exact Sel.hd | (apply Sel.one; · repeat (first | exact Pick.h | apply Pick.t | apply Pick.app)) | apply Sel.app | (with_reducible apply Sel.grp; · repeat (first | exact PickF.h | apply PickF.t | apply PickF.a)) | (with_reducible refine Sel.nilF (by with_unfolding_all rfl) ?_) | apply Sel.drop | apply Sel.dropF)) (eLenR ty30 rfl (hor.sel (by repeat (first | exact Sel.all | exact Sel.none | exact Sel.hd | (apply Sel.one; · repeat (first | exact Pick.h | apply Pick.t | apply Pick.app)) | apply Sel.app | (with_reducible apply Sel.grp; · repeat (first | exact PickF.h | apply PickF.t | apply PickF.a)) | (with_reducible refine Sel.nilF (by with_unfolding_all rfl) ?_) | apply Sel.drop | apply Sel.dropF)))) ?_
              refine wa_takegb 11 (by kernel_rfl) rfl rfl rfl rfl rfl (by repeat (first | exact Sel.all | exact Sel.none | exact Sel.hd | (apply Sel.one; · repeat (first | exact Pick.h | apply Pick.t | apply Pick.app)) | apply Sel.app | (with_reducible apply Sel.grp; · repeat (first | exact PickF.h | apply PickF.t | apply PickF.a)) | (with_reducible refine Sel.nilF (by with_unfolding_all rfl) ?_) | apply Sel.drop | apply Sel.dropF)) (eGt rfl rfl) fun t42 h42 => ?_
              refine wa_take 12 (by kernel_rfl) rfl rfl rfl rfl (by repeat (first | exact Sel.all | exact Sel.none | exact Sel.hd | (apply Sel.one; · repeat (first | exact Pick.h | apply Pick.t | apply Pick.app)) | apply Sel.app | (with_reducible apply Sel.grp; · repeat (first | exact PickF.h | apply PickF.t | apply PickF.a)) | (with_reducible refine Sel.nilF (by with_unfolding_all rfl) ?_) | apply Sel.drop | apply Sel.dropF)) (ePk rfl rfl) ?_
              refine wa_take 13 (by kernel_rfl) rfl rfl rfl rfl (by repeat (first | exact Sel.all | exact Sel.none | exact Sel.hd | (apply Sel.one; · repeat (first | exact Pick.h | apply Pick.t | apply Pick.app)) | apply Sel.app | (with_reducible apply Sel.grp; · repeat (first | exact PickF.h | apply PickF.t | apply PickF.a)) | (with_reducible refine Sel.nilF (by with_unfolding_all rfl) ?_) | apply Sel.drop | apply Sel.dropF)) (eAs rfl) ?_
              refine wa_nil (by kernel_rfl) ?_
              cases t42 with
              | true =>
                try have c_t42 := dt h42
                first
                | (exfalso; omega)
                | (
                  refine wc_then rfl ?_
                  refine wc_seq ?_
                  refine wc_region ?_
                  refine wl rfl (OP.ev rfl rfl (eAs rfl) ?_)
                  refine wl_nil ?_
                  refine wc_ret ?_
                  apply at_ret rfl
                  · exact (.cons (.tmp rfl) .nil)
                  · first
                    | exact ⟨by rw [write_full (by omega) (by omega) (by omega)]; rfl, _, I, Sel.all, by rw [write_full (by omega) (by omega) (by omega)]; exact hD0, (rfl : (dkC b d ms ml av :: tC ms m1 c1 :: tC ml m2 c2 :: (ownH av acs 82 ++ (I ++ R))) = _)⟩
                    | exact ⟨by rw [write_err (by omega) (by omega)]; rfl, _, I, Sel.all, by rw [write_err (by omega) (by omega)]; exact hD0, (rfl : (dkC b d ms ml av :: tC ms m1 c1 :: tC ml m2 c2 :: (ownH av acs 82 ++ (I ++ R))) = _)⟩
                    | exact ⟨by rw [write_arg (by omega) (by rw [hob]; omega)]; rfl, _, I, Sel.all, by rw [write_arg (by omega) (by rw [hob]; omega)]; exact hD0, (rfl : (dkC b d ms ml av :: tC ms m1 c1 :: tC ml m2 c2 :: (ownH av acs 82 ++ (I ++ R))) = _)⟩
                    | exact ⟨by rw [hw]; unfold DK.writeA; rw [if_pos (by omega)]; rfl, _, I, Sel.all, by rw [hw]; unfold DK.writeA; rw [if_pos (by omega)]; exact hD0, (rfl : (dkC b d ms ml av :: tC ms m1 c1 :: tC ml m2 c2 :: (ownH av acs 82 ++ (I ++ R))) = _)⟩
                    | exact ⟨by rw [hw]; unfold DK.writeA; rw [if_neg (by omega)]; rfl, D4, I4, hI4.trans hsI, by rw [hw]; unfold DK.writeA; rw [if_neg (by omega)]; exact hD4, rfl⟩
                  · exact (by repeat (first | exact Sel.all | exact Sel.none | exact Sel.hd | (apply Sel.one; · repeat (first | exact Pick.h | apply Pick.t | apply Pick.app)) | apply Sel.app | (with_reducible apply Sel.grp; · repeat (first | exact PickF.h | apply PickF.t | apply PickF.a)) | (with_reducible refine Sel.nilF (by with_unfolding_all rfl) ?_) | apply Sel.drop | apply Sel.dropF)))
              | false =>
                try have c_t42 := df h42
                first
                | (exfalso; omega)
                | (
                  refine wc_else rfl ?_
                  refine wc_skip ?_
                  refine wc_seq ?_
                  refine wc_seq ?_
                  have hw : d.write k n B = d.writeA k n B := by first | exact write_new (by omega) (by omega) (by omega) | exact write_old (by omega) (by rw [hob]; omega)
                  have hcan : CanDo d.seen ⟨0, k, [], n, B⟩ := by first | exact can_write hd (.inl ⟨by omega, by omega, by omega⟩) | exact can_write hd (.inr ⟨by omega, by omega, by rw [hob]; omega⟩)
                  have hmay : d.off = false ∧ may k = true := by first | exact ⟨(find_21 (d := d) (k := k) (by omega)).1, (find_21 (d := d) (k := k) (by omega)).2.1⟩ | exact ⟨(find_zero (d := d) (k := k) (by omega)).1, (find_zero (d := d) (k := k) (by omega)).2.1⟩
                  have husd := used_ok (W0 := W0) b d hd _ ((b5, .cells #[strK k] 9 (0, 0)) :: (b6, .cells #[i64 n] 3 (0, 0)) :: R) hD0 (by omega)
                  simp only [List.cons_append] at husd
                  refine wc_draw (dkC b d ms ml av :: (I ++ R)) rfl ?_
                  refine wa_take 0 (by kernel_rfl) rfl rfl rfl rfl (by repeat (first | exact Sel.all | exact Sel.none | exact Sel.hd | (apply Sel.one; · repeat (first | exact Pick.h | apply Pick.t | apply Pick.app)) | apply Sel.app | (with_reducible apply Sel.grp; · repeat (first | exact PickF.h | apply PickF.t | apply PickF.a)) | (with_reducible refine Sel.nilF (by with_unfolding_all rfl) ?_) | apply Sel.drop | apply Sel.dropF)) (eMv rfl) ?_
                  refine wa_take 1 (by kernel_rfl) rfl rfl rfl rfl (by repeat (first | exact Sel.all | exact Sel.none | exact Sel.hd | (apply Sel.one; · repeat (first | exact Pick.h | apply Pick.t | apply Pick.app)) | apply Sel.app | (with_reducible apply Sel.grp; · repeat (first | exact PickF.h | apply PickF.t | apply PickF.a)) | (with_reducible refine Sel.nilF (by with_unfolding_all rfl) ?_) | apply Sel.drop | apply Sel.dropF)) (eLenR ty30 rfl (hb.sel (by repeat (first | exact Sel.all | exact Sel.none | exact Sel.hd | (apply Sel.one; · repeat (first | exact Pick.h | apply Pick.t | apply Pick.app)) | apply Sel.app | (with_reducible apply Sel.grp; · repeat (first | exact PickF.h | apply PickF.t | apply PickF.a)) | (with_reducible refine Sel.nilF (by with_unfolding_all rfl) ?_) | apply Sel.drop | apply Sel.dropF)))) ?_
                  refine wa_take 2 (by kernel_rfl) rfl rfl rfl rfl (by repeat (first | exact Sel.all | exact Sel.none | exact Sel.hd | (apply Sel.one; · repeat (first | exact Pick.h | apply Pick.t | apply Pick.app)) | apply Sel.app | (with_reducible apply Sel.grp; · repeat (first | exact PickF.h | apply PickF.t | apply PickF.a)) | (with_reducible refine Sel.nilF (by with_unfolding_all rfl) ?_) | apply Sel.drop | apply Sel.dropF)) (eMv rfl) ?_
                  refine wa_take 3 (by kernel_rfl) rfl rfl rfl rfl (by repeat (first | exact Sel.all | exact Sel.none | exact Sel.hd | (apply Sel.one; · repeat (first | exact Pick.h | apply Pick.t | apply Pick.app)) | apply Sel.app | (with_reducible apply Sel.grp; · repeat (first | exact PickF.h | apply PickF.t | apply PickF.a)) | (with_reducible refine Sel.nilF (by with_unfolding_all rfl) ?_) | apply Sel.drop | apply Sel.dropF)) (eNil rfl) ?_
                  refine wa_take 4 (by kernel_rfl) rfl rfl rfl rfl (by repeat (first | exact Sel.all | exact Sel.none | exact Sel.hd | (apply Sel.one; · repeat (first | exact Pick.h | apply Pick.t | apply Pick.app)) | apply Sel.app | (with_reducible apply Sel.grp; · repeat (first | exact PickF.h | apply PickF.t | apply PickF.a)) | (with_reducible refine Sel.nilF (by with_unfolding_all rfl) ?_) | apply Sel.drop | apply Sel.dropF)) (eFld 4 ty52 rfl rfl ty3 rfl) ?_
                  first | refine wa_take 5 (by kernel_rfl) rfl rfl rfl rfl (by repeat (first | exact Sel.all | exact Sel.none | exact Sel.hd | (apply Sel.one; · repeat (first | exact Pick.h | apply Pick.t | apply Pick.app)) | apply Sel.app | (with_reducible apply Sel.grp; · repeat (first | exact PickF.h | apply PickF.t | apply PickF.a)) | (with_reducible refine Sel.nilF (by with_unfolding_all rfl) ?_) | apply Sel.drop | apply Sel.dropF)) (eLd ty3 rfl rfl (by repeat (first | exact Has.h | apply Has.t | apply Has.app)) (by rfl)) ?_ | refine wa_take 5 (by kernel_rfl) rfl rfl rfl rfl (by repeat (first | exact Sel.all | exact Sel.none | exact Sel.hd | (apply Sel.one; · repeat (first | exact Pick.h | apply Pick.t | apply Pick.app)) | apply Sel.app | (with_reducible apply Sel.grp; · repeat (first | exact PickF.h | apply PickF.t | apply PickF.a)) | (with_reducible refine Sel.nilF (by with_unfolding_all rfl) ?_) | apply Sel.drop | apply Sel.dropF)) (eLdO ty3 rfl rfl (by assumption)) ?_
                  refine wa_take 6 (by kernel_rfl) rfl rfl rfl rfl (by repeat (first | exact Sel.all | exact Sel.none | exact Sel.hd | (apply Sel.one; · repeat (first | exact Pick.h | apply Pick.t | apply Pick.app)) | apply Sel.app | (with_reducible apply Sel.grp; · repeat (first | exact PickF.h | apply PickF.t | apply PickF.a)) | (with_reducible refine Sel.nilF (by with_unfolding_all rfl) ?_) | apply Sel.drop | apply Sel.dropF)) (eMv rfl) ?_
                  refine wa_all [7] (by kernel_rfl) rfl (wall_one 7 rfl rfl ?_ trivial)
                  refine oC rfl pf25 rfl husd (by repeat (first | exact Sel.all | exact Sel.none | exact Sel.hd | (apply Sel.one; · repeat (first | exact Pick.h | apply Pick.t | apply Pick.app)) | apply Sel.app | (with_reducible apply Sel.grp; · repeat (first | exact PickF.h | apply PickF.t | apply PickF.a)) | (with_reducible refine Sel.nilF (by with_unfolding_all rfl) ?_) | apply Sel.drop | apply Sel.dropF)) ?_
                  rintro _ _ ⟨rfl, rfl⟩
                  refine ⟨(by repeat (first | exact Sel.all | exact Sel.none | exact Sel.hd | (apply Sel.one; · repeat (first | exact Pick.h | apply Pick.t | apply Pick.app)) | apply Sel.app | (with_reducible apply Sel.grp; · repeat (first | exact PickF.h | apply PickF.t | apply PickF.a)) | (with_reducible refine Sel.nilF (by with_unfolding_all rfl) ?_) | apply Sel.drop | apply Sel.dropF)), ?_⟩
                  first | refine wa_take 8 (by kernel_rfl) rfl rfl rfl rfl (by repeat (first | exact Sel.all | exact Sel.none | exact Sel.hd | (apply Sel.one; · repeat (first | exact Pick.h | apply Pick.t | apply Pick.app)) | apply Sel.app | (with_reducible apply Sel.grp; · repeat (first | exact PickF.h | apply PickF.t | apply PickF.a)) | (with_reducible refine Sel.nilF (by with_unfolding_all rfl) ?_) | apply Sel.drop | apply Sel.dropF)) (eSub rfl rfl (by omega)) ?_ | refine wa_take 8 (by kernel_rfl) rfl rfl rfl rfl (by repeat (first | exact Sel.all | exact Sel.none | exact Sel.hd | (apply Sel.one; · repeat (first | exact Pick.h | apply Pick.t | apply Pick.app)) | apply Sel.app | (with_reducible apply Sel.grp; · repeat (first | exact PickF.h | apply PickF.t | apply PickF.a)) | (with_reducible refine Sel.nilF (by with_unfolding_all rfl) ?_) | apply Sel.drop | apply Sel.dropF)) (eSubW rfl rfl) ?_
                  refine wa_takeb 9 (by kernel_rfl) rfl rfl rfl rfl (by repeat (first | exact Sel.all | exact Sel.none | exact Sel.hd | (apply Sel.one; · repeat (first | exact Pick.h | apply Pick.t | apply Pick.app)) | apply Sel.app | (with_reducible apply Sel.grp; · repeat (first | exact PickF.h | apply PickF.t | apply PickF.a)) | (with_reducible refine Sel.nilF (by with_unfolding_all rfl) ?_) | apply Sel.drop | apply Sel.dropF)) (eGt rfl rfl) fun t53 h53 => ?_
                  refine wa_nil (by kernel_rfl) ?_
                  cases t53 with
                  | true =>
                    try have c_t53 := dt h53
                    first
                    | (exfalso; omega)
                    | (
                      refine wc_then rfl ?_
                      refine wc_seq ?_
                      refine wc_region ?_
                      refine wl rfl (OP.ev rfl rfl (eAs rfl) ?_)
                      refine wl_nil ?_
                      refine wc_ret ?_
                      apply at_ret rfl
                      · exact (.cons (.tmp rfl) .nil)
                      · first
                        | exact ⟨by rw [write_full (by omega) (by omega) (by omega)]; rfl, _, I, Sel.all, by rw [write_full (by omega) (by omega) (by omega)]; exact hD0, (rfl : (dkC b d ms ml av :: tC ms m1 c1 :: tC ml m2 c2 :: (ownH av acs 82 ++ (I ++ R))) = _)⟩
                        | exact ⟨by rw [write_err (by omega) (by omega)]; rfl, _, I, Sel.all, by rw [write_err (by omega) (by omega)]; exact hD0, (rfl : (dkC b d ms ml av :: tC ms m1 c1 :: tC ml m2 c2 :: (ownH av acs 82 ++ (I ++ R))) = _)⟩
                        | exact ⟨by rw [write_arg (by omega) (by rw [hob]; omega)]; rfl, _, I, Sel.all, by rw [write_arg (by omega) (by rw [hob]; omega)]; exact hD0, (rfl : (dkC b d ms ml av :: tC ms m1 c1 :: tC ml m2 c2 :: (ownH av acs 82 ++ (I ++ R))) = _)⟩
                        | exact ⟨by rw [hw]; unfold DK.writeA; rw [if_pos (by omega)]; rfl, _, I, Sel.all, by rw [hw]; unfold DK.writeA; rw [if_pos (by omega)]; exact hD0, (rfl : (dkC b d ms ml av :: tC ms m1 c1 :: tC ml m2 c2 :: (ownH av acs 82 ++ (I ++ R))) = _)⟩
                        | exact ⟨by rw [hw]; unfold DK.writeA; rw [if_neg (by omega)]; rfl, D4, I4, hI4.trans hsI, by rw [hw]; unfold DK.writeA; rw [if_neg (by omega)]; exact hD4, rfl⟩
                      · exact (by repeat (first | exact Sel.all | exact Sel.none | exact Sel.hd | (apply Sel.one; · repeat (first | exact Pick.h | apply Pick.t | apply Pick.app)) | apply Sel.app | (with_reducible apply Sel.grp; · repeat (first | exact PickF.h | apply PickF.t | apply PickF.a)) | (with_reducible refine Sel.nilF (by with_unfolding_all rfl) ?_) | apply Sel.drop | apply Sel.dropF)))
                  | false =>
                    try have c_t53 := df h53
                    first
                    | (exfalso; omega)
                    | (
                      refine wc_else rfl ?_
                      refine wc_skip ?_
                      refine wc_seq ?_
                      refine wc_region ?_
                      refine wl rfl (OP.ev rfl rfl (eMv rfl) ?_)
                      refine wl rfl (oBS0 rfl ty30 ty5 fun b55 => ?_)
                      refine wl rfl (OP.ev rfl rfl (eMv rfl) ?_)
                      refine wl rfl (oApp (m := B.length) (news := byteV B) rfl ty30 ty5 rfl rfl rfl (Row.mk (b := b55) (k := 0) (cap := 0) (cs := #[]) (sz := 1) (xs := []) (Nat.le_refl _) rfl rfl) (by repeat (first | exact At.cell | exact At.h | apply At.t | apply At.a)) (hb.sel (by repeat (first | exact Sel.all | exact Sel.none | exact Sel.hd | (apply Sel.one; · repeat (first | exact Pick.h | apply Pick.t | apply Pick.app)) | apply Sel.app | (with_reducible apply Sel.grp; · repeat (first | exact PickF.h | apply PickF.t | apply PickF.a)) | (with_reducible refine Sel.nilF (by with_unfolding_all rfl) ?_) | apply Sel.drop | apply Sel.dropF))) (byteV_one _) (by omega) (by omega) ?_)
                      rintro v57 cs57 hrow57 hn57
                      rw [Nat.zero_add, List.nil_append] at hrow57
                      have hsI : Sel (ownH v57 cs57 5 ++ ((b5, .cells #[strK k] 9 (0, 0)) :: (b6, .cells #[i64 n] 3 (0, 0)) :: I)) I := Sel.dropF (Sel.drop (Sel.drop Sel.all))
                      have hsp : d.used = ((total d.last + costs d.acts : Nat) : Int) := by unfold DK.used; rw [hmay.1]; rfl
                      have hdo := do_ok (W0 := W0) (I := ownH v57 cs57 5 ++ ((b5, .cells #[strK k] 9 (0, 0)) :: (b6, .cells #[i64 n] 3 (0, 0)) :: I)) b d hd hmay.1 ⟨0, k, [], n, B⟩ (.func (.func 67) #[] #[ptr b5, ptr b6]) v57 hcan (by show ((total d.last + costs d.acts + B.length : Nat) : Int) ≤ _; omega) ⟨may_len hmay.2, by simp⟩ (.inl ⟨rfl, b5, b6, rfl, Rc.of_has (by repeat (first | exact Has.h | apply Has.t | apply Has.app)) rfl, Rc.of_has (by repeat (first | exact Has.h | apply Has.t | apply Has.app)) rfl⟩) (hrow57.rs (by repeat (first | exact At.cell | exact At.h | apply At.t | apply At.a))) hB _ R (hD0.sel hsI) hn
                      simp only [List.cons_append, List.append_assoc] at hdo
                      refine wl rfl (OP.ev rfl rfl (eMkF rfl rfl) ?_)
                      refine wl rfl (oC rfl pf48 rfl hdo (by repeat (first | exact Sel.all | exact Sel.none | exact Sel.hd | (apply Sel.one; · repeat (first | exact Pick.h | apply Pick.t | apply Pick.app)) | apply Sel.app | (with_reducible apply Sel.grp; · repeat (first | exact PickF.h | apply PickF.t | apply PickF.a)) | (with_reducible refine Sel.nilF (by with_unfolding_all rfl) ?_) | apply Sel.drop | apply Sel.dropF)) ?_)
                      rintro _ _ ⟨rfl, D4, I4, hI4, hD4, rfl⟩
                      refine wl rfl (OP.ev rfl rfl (eAs rfl) ?_)
                      refine wl_nil ?_
                      refine wc_ret ?_
                      apply at_ret rfl
                      · exact (.cons (.tmp rfl) .nil)
                      · first
                        | exact ⟨by rw [write_full (by omega) (by omega) (by omega)]; rfl, _, I, Sel.all, by rw [write_full (by omega) (by omega) (by omega)]; exact hD0, (rfl : (dkC b d ms ml av :: tC ms m1 c1 :: tC ml m2 c2 :: (ownH av acs 82 ++ (I ++ R))) = _)⟩
                        | exact ⟨by rw [write_err (by omega) (by omega)]; rfl, _, I, Sel.all, by rw [write_err (by omega) (by omega)]; exact hD0, (rfl : (dkC b d ms ml av :: tC ms m1 c1 :: tC ml m2 c2 :: (ownH av acs 82 ++ (I ++ R))) = _)⟩
                        | exact ⟨by rw [write_arg (by omega) (by rw [hob]; omega)]; rfl, _, I, Sel.all, by rw [write_arg (by omega) (by rw [hob]; omega)]; exact hD0, (rfl : (dkC b d ms ml av :: tC ms m1 c1 :: tC ml m2 c2 :: (ownH av acs 82 ++ (I ++ R))) = _)⟩
                        | exact ⟨by rw [hw]; unfold DK.writeA; rw [if_pos (by omega)]; rfl, _, I, Sel.all, by rw [hw]; unfold DK.writeA; rw [if_pos (by omega)]; exact hD0, (rfl : (dkC b d ms ml av :: tC ms m1 c1 :: tC ml m2 c2 :: (ownH av acs 82 ++ (I ++ R))) = _)⟩
                        | exact ⟨by rw [hw]; unfold DK.writeA; rw [if_neg (by omega)]; rfl, D4, I4, hI4.trans hsI, by rw [hw]; unfold DK.writeA; rw [if_neg (by omega)]; exact hD4, rfl⟩
                      · exact (by repeat (first | exact Sel.all | exact Sel.none | exact Sel.hd | (apply Sel.one; · repeat (first | exact Pick.h | apply Pick.t | apply Pick.app)) | apply Sel.app | (with_reducible apply Sel.grp; · repeat (first | exact PickF.h | apply PickF.t | apply PickF.a)) | (with_reducible refine Sel.nilF (by with_unfolding_all rfl) ?_) | apply Sel.drop | apply Sel.dropF)))))))
end Go.Proofs.Ytahjgjmemijofaa
