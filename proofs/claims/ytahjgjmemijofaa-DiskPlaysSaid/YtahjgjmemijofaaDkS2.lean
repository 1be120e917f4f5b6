/- Contracts of the disk's functions that find, count and copy. No statement of the seat is proved here. -/
import Derived.Test.YtahjgjmemijofaaDkS
namespace Go.Proofs.Ytahjgjmemijofaa
open Go Eng
set_option linter.unusedVariables false
set_option maxRecDepth 4000
variable {W0 : World} {I : Heap}

theorem find_ready {d : DK} {k : Nm} (h : d.ready ≠ 0) : d.find k = d.ready := by
  unfold DK.find DK.ready at *
  split <;> simp_all
theorem find_name {d : DK} {k : Nm} (h : d.ready = 0) (hm : may k = false) : d.find k = 20 := by
  unfold DK.find DK.ready at *
  split <;> simp_all
theorem find_none {d : DK} {k : Nm} (h : d.ready = 0) (hm : may k = true) (hg : fget d.seen k = none) : d.find k = 21 := by
  unfold DK.find DK.ready at *
  split <;> simp_all
theorem find_some {d : DK} {k : Nm} {b : List Int} (h : d.ready = 0) (hm : may k = true) (hg : fget d.seen k = some b) : d.find k = 0 := by
  unfold DK.find DK.ready at *
  split <;> simp_all

theorem find_ok (b : Nat) (d : DK) (ms ml : Nat) (av : Value) (m : TMap) (clk : Nat) (k : Nm) (hT : Tab W0 I m clk d.seen) (R : Heap) :
    FnC W0 Try.prog 44 #[ptr b, strK k] (dkC b d ms ml av :: tC ms m clk :: R) (fun v L' => v = i64 (d.find k) ∧ L' = dkC b d ms ml av :: tC ms m clk :: R) := by
  refine fn_of Try.func44 rfl Try.ntmps44 rfl rfl ?_
  refine wc_seq ?_
  refine wc_region ?_
  refine wl rfl (OP.ev rfl rfl (eAs rfl) ?_)
  refine wl_nil ?_
  refine wc_seq ?_
  refine wc_region ?_
  refine wl rfl (OP.ev rfl rfl (eMv rfl) ?_)
  refine wl rfl (oC rfl pf43 rfl (ready_ok b d ms ml av _) (by repeat (first | exact Sel.all | exact Sel.none | exact Sel.hd | (apply Sel.one; · repeat (first | exact Pick.h | apply Pick.t | apply Pick.app)) | apply Sel.app | (with_reducible apply Sel.grp; · repeat (first | exact PickF.h | apply PickF.t | apply PickF.a)) | (with_reducible refine Sel.nilF (by with_unfolding_all rfl) ?_) | apply Sel.drop | apply Sel.dropF)) ?_)
  rintro _ _ ⟨rfl, rfl⟩
  refine wl rfl (OP.ev rfl rfl (eAs rfl) ?_)
  refine wl_nil ?_
  refine wc_seq ?_
  refine wc_block ?_
  refine wc_seq ?_
  refine wc_region ?_
  refine wl rfl (OP.ev rfl rfl (eMv rfl) ?_)
  refine wl rfl (OP.evb rfl rfl (eNe rfl rfl) fun t10 h10 => ?_)
  refine wl rfl (OP.ev rfl rfl (eAs rfl) ?_)
  refine wl_nil ?_
  cases t10 with
  | true =>
    try have c_t10 := dt h10
    first
    | (exfalso; omega)
    | (
      refine wc_then rfl ?_
      refine wc_seq ?_
      refine wc_region ?_
      refine wl rfl (OP.ev rfl rfl (eMv rfl) ?_)
      refine wl rfl (OP.ev rfl rfl (eAs rfl) ?_)
      refine wl_nil ?_
      refine wc_ret ?_
      apply at_ret rfl
      · exact (.cons (.tmp rfl) .nil)
      · first
        | exact ⟨by rw [find_ready (by omega)]; rfl, rfl⟩
        | exact ⟨by rw [find_name (by omega) (by simpa using h16)]; rfl, rfl⟩
        | exact ⟨by rw [find_none hr0 hm0 (hT.get_none hg)]; rfl, rfl⟩
        | exact ⟨by rw [find_some hr0 hm0 hg1]; rfl, rfl⟩
      · exact (by repeat (first | exact Sel.all | exact Sel.none | exact Sel.hd | (apply Sel.one; · repeat (first | exact Pick.h | apply Pick.t | apply Pick.app)) | apply Sel.app | (with_reducible apply Sel.grp; · repeat (first | exact PickF.h | apply PickF.t | apply PickF.a)) | (with_reducible refine Sel.nilF (by with_unfolding_all rfl) ?_) | apply Sel.drop | apply Sel.dropF)))
  | false =>
    try have c_t10 := df h10
    first
    | (exfalso; omega)
    | (
      refine wc_else rfl ?_
      refine wc_seq ?_
      refine wc_region ?_
      refine wl rfl (OP.ev rfl rfl (eMv rfl) ?_)
      refine wl rfl (oBSw (vs := [_]) rfl ty33 ty9 rfl rfl rfl rfl rfl rfl fun b14 => ?_)
      refine wl rfl (oC rfl pf47 rfl (may_ok _ [k] ((b14, .cells #[strK k] 9 (0, 0)) :: dkC b d ms ml av :: tC ms m clk :: R) (Rs.mk (Rc.of_has (by repeat (first | exact Has.h | apply Has.t | apply Has.app)) rfl) rfl (Nat.le_refl _)) (by simp)) (by repeat (first | exact Sel.all | exact Sel.none | exact Sel.hd | (apply Sel.one; · repeat (first | exact Pick.h | apply Pick.t | apply Pick.app)) | apply Sel.app | (with_reducible apply Sel.grp; · repeat (first | exact PickF.h | apply PickF.t | apply PickF.a)) | (with_reducible refine Sel.nilF (by with_unfolding_all rfl) ?_) | apply Sel.drop | apply Sel.dropF)) ?_)
      rintro _ _ ⟨rfl, rfl⟩
      refine wl rfl (OP.evb rfl rfl (eNot rfl) fun t16 h16 => ?_)
      refine wl rfl (OP.ev rfl rfl (eAs rfl) ?_)
      refine wl_nil ?_
      cases t16 with
      | true =>
        try have c_t16 := dt h16
        first
        | (exfalso; omega)
        | (
          refine wc_then rfl ?_
          refine wc_seq ?_
          refine wc_region ?_
          refine wl rfl (OP.ev rfl rfl (eAs rfl) ?_)
          refine wl_nil ?_
          refine wc_ret ?_
          apply at_ret rfl
          · exact (.cons (.tmp rfl) .nil)
          · first
            | exact ⟨by rw [find_ready (by omega)]; rfl, rfl⟩
            | exact ⟨by rw [find_name (by omega) (by simpa using h16)]; rfl, rfl⟩
            | exact ⟨by rw [find_none hr0 hm0 (hT.get_none hg)]; rfl, rfl⟩
            | exact ⟨by rw [find_some hr0 hm0 hg1]; rfl, rfl⟩
          · exact (by repeat (first | exact Sel.all | exact Sel.none | exact Sel.hd | (apply Sel.one; · repeat (first | exact Pick.h | apply Pick.t | apply Pick.app)) | apply Sel.app | (with_reducible apply Sel.grp; · repeat (first | exact PickF.h | apply PickF.t | apply PickF.a)) | (with_reducible refine Sel.nilF (by with_unfolding_all rfl) ?_) | apply Sel.drop | apply Sel.dropF)))
      | false =>
        try have c_t16 := df h16
        first
        | (exfalso; omega)
        | (
          refine wc_else rfl ?_
          refine wc_seq ?_
          have hr0 : d.ready = 0 := by omega
          have hm0 : may k = true := by simpa using h16
          cases hg : mget k m with
          | none =>
            refine wc_region ?_
            refine wl rfl (OP.ev rfl rfl (eMv rfl) ?_)
            refine wl rfl (OP.ev rfl rfl (eNil rfl) ?_)
            refine wl rfl (OP.ev rfl rfl (eFld 5 ty52 rfl rfl ty49 rfl) ?_)
            refine wl rfl (OP.ev rfl rfl (eLd ty49 rfl rfl (by repeat (first | exact Has.h | apply Has.t | apply Has.app)) (by rfl)) ?_)
            refine wl rfl (OP.ev rfl rfl (eMv rfl) ?_)
            refine wl rfl (OP.ev rfl rfl (eLk1 (v := .slice none 0 0) ty49 ty30 (strKOk' ty9) rfl rfl (by repeat (first | exact Has.h | apply Has.t | apply Has.app)) (by rw [hg]; rfl)) ?_)
            refine wl rfl (OP.ev rfl rfl (eEqS0 rfl rfl ty30) ?_)
            refine wl rfl (OP.ev rfl rfl (eAs rfl) ?_)
            refine wl_nil ?_
            refine wc_then rfl ?_
            refine wc_seq ?_
            refine wc_region ?_
            refine wl rfl (OP.ev rfl rfl (eAs rfl) ?_)
            refine wl_nil ?_
            refine wc_ret ?_
            apply at_ret rfl
            · exact (.cons (.tmp rfl) .nil)
            · first
              | exact ⟨by rw [find_ready (by omega)]; rfl, rfl⟩
              | exact ⟨by rw [find_name (by omega) (by simpa using h16)]; rfl, rfl⟩
              | exact ⟨by rw [find_none hr0 hm0 (hT.get_none hg)]; rfl, rfl⟩
              | exact ⟨by rw [find_some hr0 hm0 hg1]; rfl, rfl⟩
            · exact (by repeat (first | exact Sel.all | exact Sel.none | exact Sel.hd | (apply Sel.one; · repeat (first | exact Pick.h | apply Pick.t | apply Pick.app)) | apply Sel.app | (with_reducible apply Sel.grp; · repeat (first | exact PickF.h | apply PickF.t | apply PickF.a)) | (with_reducible refine Sel.nilF (by with_unfolding_all rfl) ?_) | apply Sel.drop | apply Sel.dropF))
          | some u =>
            obtain ⟨hg1, ⟨ad, n1, c1, hu⟩, _⟩ := hT.get_some hg
            refine wc_region ?_
            refine wl rfl (OP.ev rfl rfl (eMv rfl) ?_)
            refine wl rfl (OP.ev rfl rfl (eNil rfl) ?_)
            refine wl rfl (OP.ev rfl rfl (eFld 5 ty52 rfl rfl ty49 rfl) ?_)
            refine wl rfl (OP.ev rfl rfl (eLd ty49 rfl rfl (by repeat (first | exact Has.h | apply Has.t | apply Has.app)) (by rfl)) ?_)
            refine wl rfl (OP.ev rfl rfl (eMv rfl) ?_)
            refine wl rfl (OP.ev rfl rfl (eLk1 (v := .slice (some ad) n1 c1) ty49 ty30 (strKOk' ty9) rfl rfl (by repeat (first | exact Has.h | apply Has.t | apply Has.app)) (by rw [hg]; exact hu)) ?_)
            refine wl rfl (OP.ev rfl rfl (eEqS1 rfl rfl ty30) ?_)
            refine wl rfl (OP.ev rfl rfl (eAs rfl) ?_)
            refine wl_nil ?_
            refine wc_else rfl ?_
            refine wc_skip ?_
            refine wc_seq ?_
            refine wc_region ?_
            refine wl rfl (OP.ev rfl rfl (eAs rfl) ?_)
            refine wl_nil ?_
            refine wc_ret ?_
            apply at_ret rfl
            · exact (.cons (.tmp rfl) .nil)
            · first
              | exact ⟨by rw [find_ready (by omega)]; rfl, rfl⟩
              | exact ⟨by rw [find_name (by omega) (by simpa using h16)]; rfl, rfl⟩
              | exact ⟨by rw [find_none hr0 hm0 (hT.get_none hg)]; rfl, rfl⟩
              | exact ⟨by rw [find_some hr0 hm0 hg1]; rfl, rfl⟩
            · exact (by repeat (first | exact Sel.all | exact Sel.none | exact Sel.hd | (apply Sel.one; · repeat (first | exact Pick.h | apply Pick.t | apply Pick.app)) | apply Sel.app | (with_reducible apply Sel.grp; · repeat (first | exact PickF.h | apply PickF.t | apply PickF.a)) | (with_reducible refine Sel.nilF (by with_unfolding_all rfl) ?_) | apply Sel.drop | apply Sel.dropF))))

theorem struck_ok (b : Nat) (d : DK) (ms ml : Nat) (av : Value) (hl : 0 ≤ d.left ∧ d.left < 9223372036854775808) (R : Heap) :
    FnC W0 Try.prog 66 #[ptr b] (dkC b d ms ml av :: R) (fun v L' => v = .bool d.hit ∧ L' = dkC b d.less ms ml av :: R) := by
  refine fn_of Try.func66 rfl Try.ntmps66 rfl rfl ?_
  refine wc_seq ?_
  refine wc_region ?_
  refine wl rfl (OP.ev rfl rfl (eAs rfl) ?_)
  refine wl_nil ?_
  refine wc_seq ?_
  refine wc_seq ?_
  refine wc_region ?_
  refine wl rfl (OP.ev rfl rfl (eMv rfl) ?_)
  refine wl rfl (OP.ev rfl rfl (eNil rfl) ?_)
  refine wl rfl (OP.ev rfl rfl (eFld 0 ty52 rfl rfl ty47 rfl) ?_)
  refine wl rfl (OP.ev rfl rfl (eFld 1 ty47 rfl rfl ty3 rfl) ?_)
  first | refine wl rfl (OP.ev rfl rfl (eLd ty3 rfl rfl (by repeat (first | exact Has.h | apply Has.t | apply Has.app)) (by rfl)) ?_) | refine wl rfl (OP.ev rfl rfl (eLdO ty3 rfl rfl (by assumption)) ?_)
  refine wl rfl (OP.evb rfl rfl (eEq rfl rfl) fun t8 h8 => ?_)
  refine wl_nil ?_
  cases t8 with
  | true =>
    try have c_t8 := dt h8
    first
    | (exfalso; omega)
    | (
      refine wc_then rfl ?_
      refine wc_seq ?_
      refine wc_region ?_
      refine wl rfl (OP.ev rfl rfl (eAs rfl) ?_)
      refine wl_nil ?_
      refine wc_ret ?_
      apply at_ret rfl
      · exact (.cons (.tmp rfl) .nil)
      · first
        | exact ⟨by show Value.bool false = _; unfold DK.hit; rw [decide_eq_false (by omega)], by show _ = dkC b d.less ms ml av :: R; unfold DK.less; rw [if_pos (by omega), show (0 : Int) = d.left by omega]⟩
        | exact ⟨by show Value.bool _ = _; unfold DK.hit; rw [h23]; congr 1; apply decide_eq_decide.2; omega, by show _ = dkC b d.less ms ml av :: R; unfold DK.less; rw [if_neg (by omega)]⟩
      · exact (by repeat (first | exact Sel.all | exact Sel.none | exact Sel.hd | (apply Sel.one; · repeat (first | exact Pick.h | apply Pick.t | apply Pick.app)) | apply Sel.app | (with_reducible apply Sel.grp; · repeat (first | exact PickF.h | apply PickF.t | apply PickF.a)) | (with_reducible refine Sel.nilF (by with_unfolding_all rfl) ?_) | apply Sel.drop | apply Sel.dropF)))
  | false =>
    try have c_t8 := df h8
    first
    | (exfalso; omega)
    | (
      refine wc_else rfl ?_
      refine wc_skip ?_
      refine wc_seq ?_
      refine wc_region ?_
      refine wl rfl (OP.ev rfl rfl (eMv rfl) ?_)
      refine wl rfl (OP.ev rfl rfl (eNil rfl) ?_)
      refine wl rfl (OP.ev rfl rfl (eFld 0 ty52 rfl rfl ty47 rfl) ?_)
      refine wl rfl (OP.ev rfl rfl (eFld 1 ty47 rfl rfl ty3 rfl) ?_)
      first | refine wl rfl (OP.ev rfl rfl (eLd ty3 rfl rfl (by repeat (first | exact Has.h | apply Has.t | apply Has.app)) (by rfl)) ?_) | refine wl rfl (OP.ev rfl rfl (eLdO ty3 rfl rfl (by assumption)) ?_)
      first | refine wl rfl (OP.ev rfl rfl (eSub rfl rfl (by omega)) ?_) | refine wl rfl (OP.ev rfl rfl (eSubW rfl rfl) ?_)
      refine wl rfl (OP.ev rfl rfl (eNil rfl) ?_)
      refine wl rfl (OP.ev rfl rfl (eFld 0 ty52 rfl rfl ty47 rfl) ?_)
      refine wl rfl (OP.ev rfl rfl (eFld 1 ty47 rfl rfl ty3 rfl) ?_)
      refine wl rfl (oSt ty3 rfl rfl rfl rfl (by repeat (first | exact Upd.h | apply Upd.t | apply Upd.app)) (by first | decide | simp) (by rfl) ?_)
      refine wl_nil ?_
      refine wc_seq ?_
      refine wc_region ?_
      refine wl rfl (OP.ev rfl rfl (eMv rfl) ?_)
      refine wl rfl (OP.ev rfl rfl (eNil rfl) ?_)
      refine wl rfl (OP.ev rfl rfl (eFld 0 ty52 rfl rfl ty47 rfl) ?_)
      refine wl rfl (OP.ev rfl rfl (eFld 1 ty47 rfl rfl ty3 rfl) ?_)
      first | refine wl rfl (OP.ev rfl rfl (eLd ty3 rfl rfl (by repeat (first | exact Has.h | apply Has.t | apply Has.app)) (by rfl)) ?_) | refine wl rfl (OP.ev rfl rfl (eLdO ty3 rfl rfl (by assumption)) ?_)
      refine wl rfl (OP.evb rfl rfl (eEq rfl rfl) fun t23 h23 => ?_)
      refine wl rfl (OP.ev rfl rfl (eAs rfl) ?_)
      refine wl_nil ?_
      refine wc_ret ?_
      apply at_ret rfl
      · exact (.cons (.tmp rfl) .nil)
      · first
        | exact ⟨by show Value.bool false = _; unfold DK.hit; rw [decide_eq_false (by omega)], by show _ = dkC b d.less ms ml av :: R; unfold DK.less; rw [if_pos (by omega), show (0 : Int) = d.left by omega]⟩
        | exact ⟨by show Value.bool _ = _; unfold DK.hit; rw [h23]; congr 1; apply decide_eq_decide.2; omega, by show _ = dkC b d.less ms ml av :: R; unfold DK.less; rw [if_neg (by omega)]⟩
      · exact (by repeat (first | exact Sel.all | exact Sel.none | exact Sel.hd | (apply Sel.one; · repeat (first | exact Pick.h | apply Pick.t | apply Pick.app)) | apply Sel.app | (with_reducible apply Sel.grp; · repeat (first | exact PickF.h | apply PickF.t | apply PickF.a)) | (with_reducible refine Sel.nilF (by with_unfolding_all rfl) ?_) | apply Sel.drop | apply Sel.dropF)))

/-- bytes are copied -/
theorem bclone_ok (v : Value) (B : List Int) (R : Heap) (hv : Rs W0 R v 1 B.length (byteV B)) (hl : B.length ≤ 35184372088832) :
    FnC W0 Try.prog 28 #[v] R (fun v' L' => ∃ cs, Row v' cs 1 B.length (byteV B) ∧ ((∃ ad n c, v = .slice (some ad) n c) → ∃ ad n c, v' = .slice (some ad) n c) ∧ L' = ownH v' cs 5 ++ R) := by
  obtain ⟨ad, k0, c0, rfl⟩ := hv.isSlice
  cases ad with
  | none =>
    have h0 : B = [] := by
      rcases hv.2 with ⟨h, _⟩ | ⟨b, off, cap, h, _⟩
      · exact List.eq_nil_of_length_eq_zero h
      · cases h
    subst h0
    refine fn_of Try.func28 rfl Try.ntmps28 rfl rfl ?_
    refine wc_seq ?_
    refine wc_region ?_
    refine wl rfl (OP.ev rfl rfl (eAs rfl) ?_)
    refine wl_nil ?_
    refine wc_seq ?_
    refine wc_seq ?_
    refine wc_region ?_
    refine wl rfl (OP.ev rfl rfl (eMv rfl) ?_)
    first | refine wl rfl (OP.ev rfl rfl (eEqS0 rfl rfl ty30) ?_) | refine wl rfl (OP.ev rfl rfl (eEqS1 rfl rfl ty30) ?_)
    refine wl_nil ?_
    refine wc_then rfl ?_
    refine wc_seq ?_
    refine wc_region ?_
    refine wl rfl (OP.ev rfl rfl (eAs rfl) ?_)
    refine wl_nil ?_
    refine wc_ret ?_
    apply at_ret rfl
    · exact (.cons (.tmp rfl) .nil)
    · exact ⟨#[], Row.nil _ _, (by rintro ⟨ad, n, c, h⟩; cases h), rfl⟩
    · exact (by repeat (first | exact Sel.all | exact Sel.none | exact Sel.hd | (apply Sel.one; · repeat (first | exact Pick.h | apply Pick.t | apply Pick.app)) | apply Sel.app | (with_reducible apply Sel.grp; · repeat (first | exact PickF.h | apply PickF.t | apply PickF.a)) | (with_reducible refine Sel.nilF (by with_unfolding_all rfl) ?_) | apply Sel.drop | apply Sel.dropF))
  | some ad =>
    refine fn_of Try.func28 rfl Try.ntmps28 rfl rfl ?_
    refine wc_seq ?_
    refine wc_region ?_
    refine wl rfl (OP.ev rfl rfl (eAs rfl) ?_)
    refine wl_nil ?_
    refine wc_seq ?_
    refine wc_seq ?_
    refine wc_region ?_
    refine wl rfl (OP.ev rfl rfl (eMv rfl) ?_)
    first | refine wl rfl (OP.ev rfl rfl (eEqS0 rfl rfl ty30) ?_) | refine wl rfl (OP.ev rfl rfl (eEqS1 rfl rfl ty30) ?_)
    refine wl_nil ?_
    refine wc_else rfl ?_
    refine wc_skip ?_
    refine wc_seq ?_
    refine wc_region ?_
    refine wl rfl (oBS0 rfl ty30 ty5 fun b5 => ?_)
    refine wl rfl (OP.ev rfl rfl (eMv rfl) ?_)
    refine wl rfl (oApp (m := B.length) (news := byteV B) rfl ty30 ty5 rfl rfl rfl (Row.mk (b := b5) (k := 0) (cap := 0) (cs := #[]) (sz := 1) (xs := []) (Nat.le_refl _) rfl rfl) (by repeat (first | exact At.cell | exact At.h | apply At.t | apply At.a)) (hv.sel (by repeat (first | exact Sel.all | exact Sel.none | exact Sel.hd | (apply Sel.one; · repeat (first | exact Pick.h | apply Pick.t | apply Pick.app)) | apply Sel.app | (with_reducible apply Sel.grp; · repeat (first | exact PickF.h | apply PickF.t | apply PickF.a)) | (with_reducible refine Sel.nilF (by with_unfolding_all rfl) ?_) | apply Sel.drop | apply Sel.dropF))) (byteV_one _) (by omega) (by omega) ?_)
    rintro v7 cs7 hrow7 hn7
    rw [Nat.zero_add, List.nil_append] at hrow7
    refine wl rfl (OP.ev rfl rfl (eAs rfl) ?_)
    refine wl_nil ?_
    refine wc_ret ?_
    apply at_ret rfl
    · exact (.cons (.tmp rfl) .nil)
    · exact ⟨cs7, hrow7, fun _ => hrow7.some (fun h => by cases (hn7.1 h).1), rfl⟩
    · exact (by repeat (first | exact Sel.all | exact Sel.none | exact Sel.hd | (apply Sel.one; · repeat (first | exact Pick.h | apply Pick.t | apply Pick.app)) | apply Sel.app | (with_reducible apply Sel.grp; · repeat (first | exact PickF.h | apply PickF.t | apply PickF.a)) | (with_reducible refine Sel.nilF (by with_unfolding_all rfl) ?_) | apply Sel.drop | apply Sel.dropF))

/-- how a copy stands behind some rounds -/
structure CopI (W0 : World) (I : Heap) (m done m2 : TMap) (clk2 : Nat) (I2 : Heap) : Prop where
  sel : Sel I2 I
  sub : ∀ e ∈ done, e ∈ m
  nd : (done.map (·.2.2)).Nodup
  ok : MOkS m2 clk2
  same : m2.map prT = done.map prT
  rd : ∀ e ∈ m2, FileV W0 I2 e.2.1.1 e.2.1.2
theorem CopI.start {m : TMap} : CopI W0 I m [] [] 0 I := ⟨Sel.all, by simp, by simp, MOkS.nil _, rfl, by simp⟩
theorem CopI.step {m done m2 : TMap} {clk clk2 : Nat} {I2 I3 : Heap} {l : Files} (h : CopI W0 I m done m2 clk2 I2) (hT : Tab W0 I m clk l) (hl : l.length ≤ 4096) {e : Nm × (Value × List Int) × Nat} (he : e ∈ m) (hs : e.2.2 ∉ done.map (·.2.2)) (h3 : Sel I3 I2) {v : Value} (hv : FileV W0 I3 v e.2.1.2) :
    CopI W0 I m (done ++ [e]) (mset e.1 (v, e.2.1.2) clk2 m2) (mclk e.1 clk2 m2) I3 := by
  have hk : mget e.1 m2 = none := by
    rw [mget_none, ← prT_keys, h.same, prT_keys]
    intro hm
    obtain ⟨x, hx, hx2⟩ := List.mem_map.1 hm
    have := eq_of_nodup hT.ok.2.2.1 (h.sub x hx) he hx2
    subst this
    exact hs (List.mem_map.2 ⟨_, hx, rfl⟩)
  have hlen : m2.length = done.length := by have := congrArg List.length h.same; simpa using this
  have hdl : done.length ≤ m.length := by
    have h1 := List.Nodup.length_le_of_subset h.nd (l₂ := m.map (·.2.2)) (fun x hx => by
      obtain ⟨y, hy, rfl⟩ := List.mem_map.1 hx
      exact List.mem_map.2 ⟨y, h.sub y hy, rfl⟩)
    simpa using h1
  have hTl := hT.len
  refine ⟨Sel.trans h3 h.sel, ?_, ?_, h.ok.set _ _ (hT.ok.2.2.2.1 e he) (by omega), ?_, ?_⟩
  · intro x hx
    rcases List.mem_append.1 hx with hx | hx
    · exact h.sub x hx
    · simp at hx; subst hx; exact he
  · rw [List.map_append, List.nodup_append]
    refine ⟨h.nd, by simp, fun a ha b hb e2 => ?_⟩
    simp at hb; subst hb; subst e2
    exact hs ha
  · rw [mset_new hk, List.map_append, List.map_append, h.same]; rfl
  · intro x hx
    rcases mset_mem hx with hx | ⟨_, hx⟩
    · exact (h.rd x hx).sel h3
    · rw [hx]; exact hv
theorem CopI.fin {m done m2 : TMap} {clk clk2 : Nat} {I2 : Heap} {l : Files} (h : CopI W0 I m done m2 clk2 I2) (hT : Tab W0 I m clk l) (hall : ∀ e ∈ m, e.2.2 ∈ done.map (·.2.2)) : Tab W0 I2 m2 clk2 l := by
  have hp := done_perm hT.ok.2.1 h.sub h.nd hall
  exact ⟨h.ok, by rw [h.same]; exact (hp.map _).trans hT.perm, hT.rise, h.rd⟩

theorem copied_ok (r : Nat) (m : TMap) (clk : Nat) (l : Files) (hT : Tab W0 I m clk l) (hl : l.length ≤ 4096) (hb : total l ≤ 16777216) (R : Heap) :
    FnC W0 Try.prog 50 #[.map (some r)] (tC r m clk :: (I ++ R)) (fun v L' => ∃ r' m' clk' I', v = .map (some r') ∧ Sel I' I ∧ Tab W0 I' m' clk' l ∧ L' = tC r' m' clk' :: tC r m clk :: (I' ++ R)) := by
  refine fn_of Try.func50 rfl Try.ntmps50 rfl rfl ?_
  refine wc_seq ?_
  refine wc_region ?_
  refine wl rfl (OP.ev rfl rfl (eAs rfl) ?_)
  refine wl_nil ?_
  refine wc_seq ?_
  refine wc_region ?_
  refine wl rfl (oMkM rfl fun b6 => ?_)
  refine wl rfl (OP.ev rfl rfl (eAs rfl) ?_)
  refine wl_nil ?_
  refine wc_seq ?_
  refine wc_seq ?_
  refine wc_region ?_
  refine wl rfl (OP.ev rfl rfl (eMv rfl) ?_)
  refine wl rfl (oRg rfl ty49 rfl (by repeat (first | exact Has.h | apply Has.t | apply Has.app)) fun b8 => ?_)
  refine wl_nil ?_
  refine wc_block ?_
  refine wc_loop (σ := TMap × TMap × Nat × Heap) (fun q => [(3, .map (some b6)), (8, ptr b8)]) (fun q => (b8, .mapIter (some r) clk (q.1.map (·.2.2)).toArray clk) :: tC b6 q.2.1 q.2.2.1 :: tC r m clk :: (q.2.2.2 ++ R)) (fun q => CopI W0 I m q.1 q.2.1 q.2.2.1 q.2.2.2) (fun q => left m (q.1.map (·.2.2))) ([], [], 0, I) CopI.start ⟨rfl, rfl, trivial⟩ (by repeat (first | exact Sel.all | exact Sel.none | exact Sel.hd | (apply Sel.one; · repeat (first | exact Pick.h | apply Pick.t | apply Pick.app)) | apply Sel.app | (with_reducible apply Sel.grp; · repeat (first | exact PickF.h | apply PickF.t | apply PickF.a)) | (with_reducible refine Sel.nilF (by with_unfolding_all rfl) ?_) | apply Sel.drop | apply Sel.dropF)) ?_
  rintro ⟨done, m2, clk2, I2⟩ hI
  dsimp only at hI ⊢
  refine wc_seq ?_
  refine wc_region ?_
  refine wl rfl (oNx rfl rfl (by repeat (first | exact Pick.h | apply Pick.t | apply Pick.app)) (by repeat (first | exact Has.h | apply Has.t | apply Has.app)) hT.ok.1 ?_ ?_)
  · intro hall
    have hT2 := hI.fin hT hall
    refine wl rfl (OP.ev rfl rfl (eExt rfl rfl) ?_)
    refine wl_nil ?_
    refine wc_seq ?_
    refine wc_else rfl ?_
    refine wc_exit rfl ?_
    refine wc_seq ?_
    refine wc_region ?_
    refine wl rfl (OP.ev rfl rfl (eMv rfl) ?_)
    refine wl rfl (OP.ev rfl rfl (eAs rfl) ?_)
    refine wl_nil ?_
    refine wc_ret ?_
    apply at_ret rfl
    · exact (.cons (.tmp rfl) .nil)
    · exact ⟨_, _, _, _, rfl, hI.sel, hT2, rfl⟩
    · exact (by repeat (first | exact Sel.all | exact Sel.none | exact Sel.hd | (apply Sel.one; · repeat (first | exact Pick.h | apply Pick.t | apply Pick.app)) | apply Sel.app | (with_reducible apply Sel.grp; · repeat (first | exact PickF.h | apply PickF.t | apply PickF.a)) | (with_reducible refine Sel.nilF (by with_unfolding_all rfl) ?_) | apply Sel.drop | apply Sel.dropF))
  · intro e he hs
    obtain ⟨hev, hes, heb⟩ := hT.rd e he
    have hlen : e.2.1.2.length ≤ 16777216 := by
      have h1 : (e.1, e.2.1.2) ∈ l := hT.perm.mem_iff.1 (List.mem_map.2 ⟨e, he, rfl⟩)
      have h2 := get_le_total hT.rise ((fget_mem hT.rise.keys).2 h1)
      omega
    have hes2 : Rs W0 (I2 ++ R) e.2.1.1 1 e.2.1.2.length (byteV e.2.1.2) := (hes.sel hI.sel).sel (by repeat (first | exact Sel.all | exact Sel.none | exact Sel.hd | (apply Sel.one; · repeat (first | exact Pick.h | apply Pick.t | apply Pick.app)) | apply Sel.app | (with_reducible apply Sel.grp; · repeat (first | exact PickF.h | apply PickF.t | apply PickF.a)) | (with_reducible refine Sel.nilF (by with_unfolding_all rfl) ?_) | apply Sel.drop | apply Sel.dropF))
    refine wl rfl (OP.ev rfl rfl (eExt rfl rfl) ?_)
    refine wl_nil ?_
    refine wc_seq ?_
    refine wc_then rfl ?_
    refine wc_skip ?_
    refine wc_block ?_
    refine wc_seq ?_
    refine wc_region ?_
    refine wl rfl (OP.ev rfl rfl (eEn e rfl (by repeat (first | exact Has.h | apply Has.t | apply Has.app)) (by repeat (first | exact Has.h | apply Has.t | apply Has.app)) he hT.ok.2.1) ?_)
    refine wl rfl (OP.ev rfl rfl (eExt rfl rfl) ?_)
    refine wl rfl (OP.ev rfl rfl (eExt rfl rfl) ?_)
    refine wl rfl (OP.ev rfl rfl (eAs rfl) ?_)
    refine wl rfl (OP.ev rfl rfl (eAs rfl) ?_)
    refine wl_nil ?_
    refine wc_region ?_
    refine wl rfl (OP.ev rfl rfl (eMv rfl) ?_)
    refine wl rfl (OP.ev rfl rfl (eMv rfl) ?_)
    refine wl rfl (OP.ev rfl rfl (eMv rfl) ?_)
    refine wl rfl (oCA rfl pf28 rfl (bclone_ok e.2.1.1 e.2.1.2 _ (hes2.sel (by repeat (first | exact Sel.all | exact Sel.none | exact Sel.hd | (apply Sel.one; · repeat (first | exact Pick.h | apply Pick.t | apply Pick.app)) | apply Sel.app | (with_reducible apply Sel.grp; · repeat (first | exact PickF.h | apply PickF.t | apply PickF.a)) | (with_reducible refine Sel.nilF (by with_unfolding_all rfl) ?_) | apply Sel.drop | apply Sel.dropF))) (by omega)) ?_)
    rintro v17 _ ⟨cs17, hrow17, hn17, rfl⟩
    refine wl rfl (oMU (ve := Prod.fst) (k := e.1) (v := (v17, e.2.1.2)) ty49 (strKOk' ty9) rfl rfl rfl (by repeat (first | exact Upd.h | apply Upd.t | apply Upd.app)) ?_)
    refine wl_nil ?_
    have hI3 := hI.step hT hl he hs (I3 := ownH v17 cs17 5 ++ I2) sel_app (v := v17) ⟨hn17 hev, hrow17.rs (C := fun F => F ++ I2) At.h, heb⟩
    exact ⟨(done ++ [e], _, _, ownH v17 cs17 5 ++ I2), hI3, by show left m ((done ++ [e]).map _) < _; rw [List.map_append]; exact left_lt he hs, ⟨rfl, rfl, trivial⟩, by show Sel _ (_ :: _ :: _ :: ((ownH v17 cs17 5 ++ I2) ++ R)); rw [List.append_assoc, List.map_append]; exact (by repeat (first | exact Sel.all | exact Sel.none | exact Sel.hd | (apply Sel.one; · repeat (first | exact Pick.h | apply Pick.t | apply Pick.app)) | apply Sel.app | (with_reducible apply Sel.grp; · repeat (first | exact PickF.h | apply PickF.t | apply PickF.a)) | (with_reducible refine Sel.nilF (by with_unfolding_all rfl) ?_) | apply Sel.drop | apply Sel.dropF))⟩

/-- the bytes of those that were seen -/
def fsum (m : TMap) (seen : List Nat) : Nat := ((m.filter fun e => decide (e.2.2 ∈ seen)).map fun e => e.2.1.2.length).sum
theorem fsum_nil (m : TMap) : fsum m [] = 0 := by
  unfold fsum
  rw [List.filter_eq_nil_iff.2 (by simp)]; rfl
theorem fsum_out {seen : List Nat} {b : Nat} : ∀ {m : TMap}, (∀ x ∈ m, x.2.2 ≠ b) → fsum m (seen ++ [b]) = fsum m seen := by
  intro m
  induction m with
  | nil => intro _; rfl
  | cons x r ih =>
    intro h
    have h1 := h x List.mem_cons_self
    have ih' := ih fun y hy => h y (List.mem_cons_of_mem _ hy)
    simp only [fsum, List.filter_cons] at ih' ⊢
    by_cases h2 : x.2.2 ∈ seen <;> simp [h1, h2] <;> simpa using ih'
theorem fsum_step {seen : List Nat} {e : Nm × (Value × List Int) × Nat} : ∀ {m : TMap}, (m.map (·.2.2)).Nodup → e ∈ m → e.2.2 ∉ seen → fsum m (seen ++ [e.2.2]) = fsum m seen + e.2.1.2.length := by
  intro m
  induction m with
  | nil => intro _ h; simp at h
  | cons x r ih =>
    intro hn h hs
    rw [List.map_cons, List.nodup_cons] at hn
    rcases List.mem_cons.1 h with rfl | h
    · have h1 := fsum_out (seen := seen) (b := e.2.2) (m := r) fun y hy h2 => hn.1 (List.mem_map.2 ⟨y, hy, h2⟩)
      simp only [fsum, List.filter_cons] at h1 ⊢
      simp [hs]
      simp at h1
      omega
    · have h1 := ih hn.2 h hs
      have hne : x.2.2 ≠ e.2.2 := fun h2 => hn.1 (List.mem_map.2 ⟨e, h, h2.symm⟩)
      simp only [fsum, List.filter_cons] at h1 ⊢
      by_cases h2 : x.2.2 ∈ seen <;> simp [hne, h2] <;> (try simp at h1) <;> omega
theorem fsum_all {seen : List Nat} {m : TMap} (h : ∀ e ∈ m, e.2.2 ∈ seen) : fsum m seen = total (m.map prT) := by
  unfold fsum total
  rw [List.filter_eq_self.2 (fun e he => by simpa using h e he), List.map_map]
  rfl
theorem fsum_le (seen : List Nat) : ∀ (m : TMap), fsum m seen ≤ total (m.map prT)
  | [] => by simp [fsum]
  | x :: r => by
    have := fsum_le seen r
    rw [List.map_cons, total_cons]
    simp only [fsum, List.filter_cons, prT] at this ⊢
    by_cases h2 : x.2.2 ∈ seen <;> simp [h2] <;> (try simp at this) <;> omega

theorem total_ok (r : Nat) (m : TMap) (clk : Nat) (l : Files) (hT : Tab W0 I m clk l) (hb : total l ≤ 16777216) (R : Heap) :
    FnC W0 Try.prog 54 #[.map (some r)] (tC r m clk :: (I ++ R)) (fun v L' => v = i64 (total l : Int) ∧ L' = tC r m clk :: (I ++ R)) := by
  have htm : total (m.map prT) = total l := total_perm hT.perm
  refine fn_of Try.func54 rfl Try.ntmps54 rfl rfl ?_
  refine wc_seq ?_
  refine wc_region ?_
  refine wl rfl (OP.ev rfl rfl (eAs rfl) ?_)
  refine wl_nil ?_
  refine wc_seq ?_
  refine wc_region ?_
  refine wl rfl (OP.ev rfl rfl (eAs rfl) ?_)
  refine wl_nil ?_
  refine wc_seq ?_
  refine wc_seq ?_
  refine wc_region ?_
  refine wl rfl (OP.ev rfl rfl (eMv rfl) ?_)
  refine wl rfl (oRg rfl ty49 rfl (by repeat (first | exact Has.h | apply Has.t | apply Has.app)) fun b7 => ?_)
  refine wl_nil ?_
  refine wc_block ?_
  refine wc_loop (σ := List Nat) (fun q => [(3, i64 (fsum m q : Int)), (7, ptr b7)]) (fun q => (b7, .mapIter (some r) clk q.toArray clk) :: tC r m clk :: (I ++ R)) (fun q => True) (fun q => left m q) [] trivial ⟨by show some (i64 0) = some (i64 _); rw [fsum_nil]; rfl, rfl, trivial⟩ (by repeat (first | exact Sel.all | exact Sel.none | exact Sel.hd | (apply Sel.one; · repeat (first | exact Pick.h | apply Pick.t | apply Pick.app)) | apply Sel.app | (with_reducible apply Sel.grp; · repeat (first | exact PickF.h | apply PickF.t | apply PickF.a)) | (with_reducible refine Sel.nilF (by with_unfolding_all rfl) ?_) | apply Sel.drop | apply Sel.dropF)) ?_
  rintro seen -
  have hle := fsum_le seen m
  refine wc_seq ?_
  refine wc_region ?_
  refine wl rfl (oNx rfl rfl (by repeat (first | exact Pick.h | apply Pick.t | apply Pick.app)) (by repeat (first | exact Has.h | apply Has.t | apply Has.app)) hT.ok.1 ?_ ?_)
  · intro hall
    refine wl rfl (OP.ev rfl rfl (eExt rfl rfl) ?_)
    refine wl_nil ?_
    refine wc_seq ?_
    refine wc_else rfl ?_
    refine wc_exit rfl ?_
    refine wc_seq ?_
    refine wc_region ?_
    refine wl rfl (OP.ev rfl rfl (eMv rfl) ?_)
    refine wl rfl (OP.ev rfl rfl (eAs rfl) ?_)
    refine wl_nil ?_
    refine wc_ret ?_
    apply at_ret rfl
    · exact (.cons (.tmp rfl) .nil)
    · exact ⟨by show i64 _ = i64 _; rw [fsum_all hall, htm], rfl⟩
    · exact (by repeat (first | exact Sel.all | exact Sel.none | exact Sel.hd | (apply Sel.one; · repeat (first | exact Pick.h | apply Pick.t | apply Pick.app)) | apply Sel.app | (with_reducible apply Sel.grp; · repeat (first | exact PickF.h | apply PickF.t | apply PickF.a)) | (with_reducible refine Sel.nilF (by with_unfolding_all rfl) ?_) | apply Sel.drop | apply Sel.dropF))
  · intro e he hs
    obtain ⟨hev, hes, heb⟩ := hT.rd e he
    have hst := fsum_step hT.ok.2.1 he hs
    have hle2 := fsum_le (seen ++ [e.2.2]) m
    refine wl rfl (OP.ev rfl rfl (eExt rfl rfl) ?_)
    refine wl_nil ?_
    refine wc_seq ?_
    refine wc_then rfl ?_
    refine wc_skip ?_
    refine wc_block ?_
    refine wc_seq ?_
    refine wc_region ?_
    refine wl rfl (OP.ev rfl rfl (eEn e rfl (by repeat (first | exact Has.h | apply Has.t | apply Has.app)) (by repeat (first | exact Has.h | apply Has.t | apply Has.app)) he hT.ok.2.1) ?_)
    refine wl rfl (OP.ev rfl rfl (eExt rfl rfl) ?_)
    refine wl rfl (OP.ev rfl rfl (eAs rfl) ?_)
    refine wl_nil ?_
    refine wc_region ?_
    refine wl rfl (OP.ev rfl rfl (eMv rfl) ?_)
    refine wl rfl (OP.ev rfl rfl (eMv rfl) ?_)
    refine wl rfl (OP.ev rfl rfl (eLenR ty30 rfl (hes.sel (by repeat (first | exact Sel.all | exact Sel.none | exact Sel.hd | (apply Sel.one; · repeat (first | exact Pick.h | apply Pick.t | apply Pick.app)) | apply Sel.app | (with_reducible apply Sel.grp; · repeat (first | exact PickF.h | apply PickF.t | apply PickF.a)) | (with_reducible refine Sel.nilF (by with_unfolding_all rfl) ?_) | apply Sel.drop | apply Sel.dropF)))) ?_)
    first | refine wl rfl (OP.ev rfl rfl (eAdd rfl rfl (by omega)) ?_) | refine wl rfl (OP.ev rfl rfl (eAddW rfl rfl) ?_)
    refine wl rfl (OP.ev rfl rfl (eAs rfl) ?_)
    refine wl_nil ?_
    exact ⟨seen ++ [e.2.2], trivial, left_lt he hs, ⟨by show some (i64 _) = some (i64 _); congr 2; omega, rfl, trivial⟩, (by repeat (first | exact Sel.all | exact Sel.none | exact Sel.hd | (apply Sel.one; · repeat (first | exact Pick.h | apply Pick.t | apply Pick.app)) | apply Sel.app | (with_reducible apply Sel.grp; · repeat (first | exact PickF.h | apply PickF.t | apply PickF.a)) | (with_reducible refine Sel.nilF (by with_unfolding_all rfl) ?_) | apply Sel.drop | apply Sel.dropF))⟩
end Go.Proofs.Ytahjgjmemijofaa
