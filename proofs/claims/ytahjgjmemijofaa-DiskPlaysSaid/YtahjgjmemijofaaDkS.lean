/- Contracts of the disk's small functions. No statement of the seat is proved here. -/
import Derived.Test.YtahjgjmemijofaaDkR
namespace Go.Proofs.Ytahjgjmemijofaa
open Go Eng
set_option linter.unusedVariables false
set_option maxRecDepth 4000
variable {W0 : World} {I : Heap}

theorem new_ok (x : Int) (R : Heap) (hx : I64 x) : FnC W0 Try.prog 26 #[i64 x] R (fun v L' => (x < 0 ∨ x > 16777216) ∧ v = .tuple #[.pointer none, i64 1] ∧ L' = R ∨ (0 ≤ x ∧ x ≤ 16777216) ∧ ∃ b ms ml, v = .tuple #[ptr b, i64 0] ∧ L' = dkC b (DK.new x) ms ml (.slice none 0 0) :: tC ms [] 0 :: tC ml [] 0 :: R) := by
  refine fn_of Try.func26 rfl Try.ntmps26 rfl rfl ?_
  refine wc_seq ?_
  refine wc_region ?_
  refine wl rfl (OP.ev rfl rfl (eAs rfl) ?_)
  refine wl rfl (OP.ev rfl rfl (eAs rfl) ?_)
  refine wl_nil ?_
  refine wc_seq ?_
  refine wc_seq ?_
  refine wc_region ?_
  refine wl rfl (OP.ev rfl rfl (eMv rfl) ?_)
  refine wl rfl (OP.evb rfl rfl (eLt rfl rfl) fun t5 h5 => ?_)
  refine wl rfl (OP.ev rfl rfl (eMv rfl) ?_)
  cases t5 with
  | true =>
    try have c_t5 := dt h5
    first
    | (exfalso; omega)
    | (
      refine wl_skip rfl rfl rfl rfl rfl ?_
      refine wl_skip rfl rfl rfl rfl rfl ?_
      refine wl rfl (OP.ev rfl rfl (ePk rfl rfl) ?_)
      refine wl_nil ?_
      refine wc_then rfl ?_
      refine wc_seq ?_
      refine wc_region ?_
      refine wl rfl (OP.ev rfl rfl (eAs rfl) ?_)
      refine wl rfl (OP.ev rfl rfl (eAs rfl) ?_)
      refine wl_nil ?_
      refine wc_ret ?_
      apply at_ret rfl
      · exact (.cons (.tmp rfl) (.cons (.tmp rfl) .nil))
      · first
        | exact .inl ⟨by omega, rfl, rfl⟩
        | exact .inr ⟨by omega, _, b11, b12, rfl, rfl⟩
      · exact (by repeat (first | exact Sel.all | exact Sel.none | exact Sel.hd | (apply Sel.one; · repeat (first | exact Pick.h | apply Pick.t | apply Pick.app)) | apply Sel.app | (with_reducible apply Sel.grp; · repeat (first | exact PickF.h | apply PickF.t | apply PickF.a)) | (with_reducible refine Sel.nilF (by with_unfolding_all rfl) ?_) | apply Sel.drop | apply Sel.dropF)))
  | false =>
    try have c_t5 := df h5
    first
    | (exfalso; omega)
    | (
      refine wl_go rfl rfl (OP.ev rfl rfl (eMv rfl) ?_)
      refine wl_go rfl rfl (OP.evb rfl rfl (eGt rfl rfl) fun t8 h8 => ?_)
      refine wl rfl (OP.ev rfl rfl (ePk rfl rfl) ?_)
      refine wl_nil ?_
      cases t8 with
      | true =>
        try have c_t8 := dt h8
        first
        | (exfalso; omega)
        | (
          refine wc_then rfl ?_
          refine wc_seq ?_
          refine wc_region ?_
          refine wl rfl (OP.ev rfl rfl (eAs rfl) ?_)
          refine wl rfl (OP.ev rfl rfl (eAs rfl) ?_)
          refine wl_nil ?_
          refine wc_ret ?_
          apply at_ret rfl
          · exact (.cons (.tmp rfl) (.cons (.tmp rfl) .nil))
          · first
            | exact .inl ⟨by omega, rfl, rfl⟩
            | exact .inr ⟨by omega, _, b11, b12, rfl, rfl⟩
          · exact (by repeat (first | exact Sel.all | exact Sel.none | exact Sel.hd | (apply Sel.one; · repeat (first | exact Pick.h | apply Pick.t | apply Pick.app)) | apply Sel.app | (with_reducible apply Sel.grp; · repeat (first | exact PickF.h | apply PickF.t | apply PickF.a)) | (with_reducible refine Sel.nilF (by with_unfolding_all rfl) ?_) | apply Sel.drop | apply Sel.dropF)))
      | false =>
        try have c_t8 := df h8
        first
        | (exfalso; omega)
        | (
          refine wc_else rfl ?_
          refine wc_skip ?_
          refine wc_seq ?_
          refine wc_region ?_
          refine wl rfl (OP.ev rfl rfl (eMv rfl) ?_)
          refine wl rfl (oMkM rfl fun b11 => ?_)
          refine wl rfl (oMkM rfl fun b12 => ?_)
          refine wl rfl (OP.ev rfl rfl (eBuL (cells := [.bool false, .int .i64 0, .int .i64 0, .int .i64 0, _, _, _, .slice none 0 0]) ty52 pl52 rfl rfl) ?_)
          refine wl rfl (oBox rfl rfl rfl fun b14 => ?_)
          refine wl rfl (OP.ev rfl rfl (eAs rfl) ?_)
          refine wl rfl (OP.ev rfl rfl (eAs rfl) ?_)
          refine wl_nil ?_
          refine wc_ret ?_
          apply at_ret rfl
          · exact (.cons (.tmp rfl) (.cons (.tmp rfl) .nil))
          · first
            | exact .inl ⟨by omega, rfl, rfl⟩
            | exact .inr ⟨by omega, _, b11, b12, rfl, rfl⟩
          · exact (by repeat (first | exact Sel.all | exact Sel.none | exact Sel.hd | (apply Sel.one; · repeat (first | exact Pick.h | apply Pick.t | apply Pick.app)) | apply Sel.app | (with_reducible apply Sel.grp; · repeat (first | exact PickF.h | apply PickF.t | apply PickF.a)) | (with_reducible refine Sel.nilF (by with_unfolding_all rfl) ?_) | apply Sel.drop | apply Sel.dropF))))

theorem ready_ok (b : Nat) (d : DK) (ms ml : Nat) (av : Value) (R : Heap) : FnC W0 Try.prog 43 #[ptr b] (dkC b d ms ml av :: R) (fun v L' => v = i64 d.ready ∧ L' = dkC b d ms ml av :: R) := by
  rcases ho : d.off with _ | _
  · skip
    refine fn_of Try.func43 rfl Try.ntmps43 rfl rfl ?_
    refine wc_seq ?_
    refine wc_region ?_
    refine wl rfl (OP.ev rfl rfl (eAs rfl) ?_)
    refine wl_nil ?_
    refine wc_seq ?_
    refine wc_block ?_
    refine wc_seq ?_
    refine wc_region ?_
    refine wl rfl (OP.ev rfl rfl (eMv rfl) ?_)
    first | refine wl rfl (OP.ev rfl rfl (eEqP0 rfl rfl ty23) ?_) | refine wl rfl (OP.ev rfl rfl (eEqP1 rfl rfl ty23) ?_)
    refine wl rfl (OP.ev rfl rfl (eMv rfl) ?_)
    refine wl_go rfl rfl (OP.ev rfl rfl (eMv rfl) ?_)
    refine wl_go rfl rfl (OP.ev rfl rfl (eNil rfl) ?_)
    refine wl_go rfl rfl (OP.ev rfl rfl (eFld 5 ty52 rfl rfl ty49 rfl) ?_)
    first | refine wl_go rfl rfl (OP.ev rfl rfl (eLd ty49 rfl rfl (by repeat (first | exact Has.h | apply Has.t | apply Has.app)) (by rfl)) ?_) | refine wl_go rfl rfl (OP.ev rfl rfl (eLdO ty49 rfl rfl (by assumption)) ?_)
    first | refine wl_go rfl rfl (OP.ev rfl rfl (eEqM0 rfl rfl ty49) ?_) | refine wl_go rfl rfl (OP.ev rfl rfl (eEqM1 rfl rfl ty49) ?_)
    refine wl rfl (OP.ev rfl rfl (ePk rfl rfl) ?_)
    refine wl rfl (OP.ev rfl rfl (eAs rfl) ?_)
    refine wl_nil ?_
    refine wc_else rfl ?_
    refine wc_seq ?_
    refine wc_region ?_
    refine wl rfl (OP.ev rfl rfl (eMv rfl) ?_)
    refine wl rfl (OP.ev rfl rfl (eNil rfl) ?_)
    refine wl rfl (OP.ev rfl rfl (eFld 0 ty52 rfl rfl ty47 rfl) ?_)
    refine wl rfl (OP.ev rfl rfl (eFld 0 ty47 rfl rfl ty4 rfl) ?_)
    refine wl rfl (OP.ev rfl rfl (eLd (v := .bool false) ty4 rfl rfl (by repeat (first | exact Has.h | apply Has.t | apply Has.app)) (by show some (Value.bool d.off) = _; rw [ho])) ?_)
    refine wl rfl (OP.ev rfl rfl (eAs rfl) ?_)
    refine wl_nil ?_
    refine wc_else rfl ?_
    refine wc_skip ?_
    refine wc_seq ?_
    refine wc_region ?_
    refine wl rfl (OP.ev rfl rfl (eAs rfl) ?_)
    refine wl_nil ?_
    refine wc_ret ?_
    apply at_ret rfl
    · exact (.cons (.tmp rfl) .nil)
    · exact ⟨by show i64 0 = i64 d.ready; unfold DK.ready; rw [ho]; rfl, rfl⟩
    · exact (by repeat (first | exact Sel.all | exact Sel.none | exact Sel.hd | (apply Sel.one; · repeat (first | exact Pick.h | apply Pick.t | apply Pick.app)) | apply Sel.app | (with_reducible apply Sel.grp; · repeat (first | exact PickF.h | apply PickF.t | apply PickF.a)) | (with_reducible refine Sel.nilF (by with_unfolding_all rfl) ?_) | apply Sel.drop | apply Sel.dropF))
  · skip
    refine fn_of Try.func43 rfl Try.ntmps43 rfl rfl ?_
    refine wc_seq ?_
    refine wc_region ?_
    refine wl rfl (OP.ev rfl rfl (eAs rfl) ?_)
    refine wl_nil ?_
    refine wc_seq ?_
    refine wc_block ?_
    refine wc_seq ?_
    refine wc_region ?_
    refine wl rfl (OP.ev rfl rfl (eMv rfl) ?_)
    first | refine wl rfl (OP.ev rfl rfl (eEqP0 rfl rfl ty23) ?_) | refine wl rfl (OP.ev rfl rfl (eEqP1 rfl rfl ty23) ?_)
    refine wl rfl (OP.ev rfl rfl (eMv rfl) ?_)
    refine wl_go rfl rfl (OP.ev rfl rfl (eMv rfl) ?_)
    refine wl_go rfl rfl (OP.ev rfl rfl (eNil rfl) ?_)
    refine wl_go rfl rfl (OP.ev rfl rfl (eFld 5 ty52 rfl rfl ty49 rfl) ?_)
    first | refine wl_go rfl rfl (OP.ev rfl rfl (eLd ty49 rfl rfl (by repeat (first | exact Has.h | apply Has.t | apply Has.app)) (by rfl)) ?_) | refine wl_go rfl rfl (OP.ev rfl rfl (eLdO ty49 rfl rfl (by assumption)) ?_)
    first | refine wl_go rfl rfl (OP.ev rfl rfl (eEqM0 rfl rfl ty49) ?_) | refine wl_go rfl rfl (OP.ev rfl rfl (eEqM1 rfl rfl ty49) ?_)
    refine wl rfl (OP.ev rfl rfl (ePk rfl rfl) ?_)
    refine wl rfl (OP.ev rfl rfl (eAs rfl) ?_)
    refine wl_nil ?_
    refine wc_else rfl ?_
    refine wc_seq ?_
    refine wc_region ?_
    refine wl rfl (OP.ev rfl rfl (eMv rfl) ?_)
    refine wl rfl (OP.ev rfl rfl (eNil rfl) ?_)
    refine wl rfl (OP.ev rfl rfl (eFld 0 ty52 rfl rfl ty47 rfl) ?_)
    refine wl rfl (OP.ev rfl rfl (eFld 0 ty47 rfl rfl ty4 rfl) ?_)
    refine wl rfl (OP.ev rfl rfl (eLd (v := .bool true) ty4 rfl rfl (by repeat (first | exact Has.h | apply Has.t | apply Has.app)) (by show some (Value.bool d.off) = _; rw [ho])) ?_)
    refine wl rfl (OP.ev rfl rfl (eAs rfl) ?_)
    refine wl_nil ?_
    refine wc_then rfl ?_
    refine wc_seq ?_
    refine wc_region ?_
    refine wl rfl (OP.ev rfl rfl (eAs rfl) ?_)
    refine wl_nil ?_
    refine wc_ret ?_
    apply at_ret rfl
    · exact (.cons (.tmp rfl) .nil)
    · exact ⟨by show i64 22 = i64 d.ready; unfold DK.ready; rw [ho]; rfl, rfl⟩
    · exact (by repeat (first | exact Sel.all | exact Sel.none | exact Sel.hd | (apply Sel.one; · repeat (first | exact Pick.h | apply Pick.t | apply Pick.app)) | apply Sel.app | (with_reducible apply Sel.grp; · repeat (first | exact PickF.h | apply PickF.t | apply PickF.a)) | (with_reducible refine Sel.nilF (by with_unfolding_all rfl) ?_) | apply Sel.drop | apply Sel.dropF))

theorem ready_nil (R : Heap) : FnC W0 Try.prog 43 #[.pointer none] R (fun v L' => v = i64 6 ∧ L' = R) := by
  refine fn_of Try.func43 rfl Try.ntmps43 rfl rfl ?_
  refine wc_seq ?_
  refine wc_region ?_
  refine wl rfl (OP.ev rfl rfl (eAs rfl) ?_)
  refine wl_nil ?_
  refine wc_seq ?_
  refine wc_block ?_
  refine wc_seq ?_
  refine wc_region ?_
  refine wl rfl (OP.ev rfl rfl (eMv rfl) ?_)
  first | refine wl rfl (OP.ev rfl rfl (eEqP0 rfl rfl ty23) ?_) | refine wl rfl (OP.ev rfl rfl (eEqP1 rfl rfl ty23) ?_)
  refine wl rfl (OP.ev rfl rfl (eMv rfl) ?_)
  refine wl_skip rfl rfl rfl rfl rfl ?_
  refine wl_skip rfl rfl rfl rfl rfl ?_
  refine wl_skip rfl rfl rfl rfl rfl ?_
  refine wl_skip rfl rfl rfl rfl rfl ?_
  refine wl_skip rfl rfl rfl rfl rfl ?_
  refine wl rfl (OP.ev rfl rfl (ePk rfl rfl) ?_)
  refine wl rfl (OP.ev rfl rfl (eAs rfl) ?_)
  refine wl_nil ?_
  refine wc_then rfl ?_
  refine wc_seq ?_
  refine wc_region ?_
  refine wl rfl (OP.ev rfl rfl (eAs rfl) ?_)
  refine wl_nil ?_
  refine wc_ret ?_
  apply at_ret rfl
  · exact (.cons (.tmp rfl) .nil)
  · exact ⟨rfl, rfl⟩
  · exact (by repeat (first | exact Sel.all | exact Sel.none | exact Sel.hd | (apply Sel.one; · repeat (first | exact Pick.h | apply Pick.t | apply Pick.app)) | apply Sel.app | (with_reducible apply Sel.grp; · repeat (first | exact PickF.h | apply PickF.t | apply PickF.a)) | (with_reducible refine Sel.nilF (by with_unfolding_all rfl) ?_) | apply Sel.drop | apply Sel.dropF))
abbrev zC (b : Nat) : Nat × Obj := (b, .cells #[.bool false, i64 0, i64 0, i64 0, i64 0, .map none, .map none, .slice none 0 0] 52 (0, 0))
theorem ready_zero (b : Nat) (R : Heap) : FnC W0 Try.prog 43 #[ptr b] (zC b :: R) (fun v L' => v = i64 6 ∧ L' = zC b :: R) := by
  refine fn_of Try.func43 rfl Try.ntmps43 rfl rfl ?_
  refine wc_seq ?_
  refine wc_region ?_
  refine wl rfl (OP.ev rfl rfl (eAs rfl) ?_)
  refine wl_nil ?_
  refine wc_seq ?_
  refine wc_block ?_
  refine wc_seq ?_
  refine wc_region ?_
  refine wl rfl (OP.ev rfl rfl (eMv rfl) ?_)
  first | refine wl rfl (OP.ev rfl rfl (eEqP0 rfl rfl ty23) ?_) | refine wl rfl (OP.ev rfl rfl (eEqP1 rfl rfl ty23) ?_)
  refine wl rfl (OP.ev rfl rfl (eMv rfl) ?_)
  refine wl_go rfl rfl (OP.ev rfl rfl (eMv rfl) ?_)
  refine wl_go rfl rfl (OP.ev rfl rfl (eNil rfl) ?_)
  refine wl_go rfl rfl (OP.ev rfl rfl (eFld 5 ty52 rfl rfl ty49 rfl) ?_)
  first | refine wl_go rfl rfl (OP.ev rfl rfl (eLd ty49 rfl rfl (by repeat (first | exact Has.h | apply Has.t | apply Has.app)) (by rfl)) ?_) | refine wl_go rfl rfl (OP.ev rfl rfl (eLdO ty49 rfl rfl (by assumption)) ?_)
  first | refine wl_go rfl rfl (OP.ev rfl rfl (eEqM0 rfl rfl ty49) ?_) | refine wl_go rfl rfl (OP.ev rfl rfl (eEqM1 rfl rfl ty49) ?_)
  refine wl rfl (OP.ev rfl rfl (ePk rfl rfl) ?_)
  refine wl rfl (OP.ev rfl rfl (eAs rfl) ?_)
  refine wl_nil ?_
  refine wc_then rfl ?_
  refine wc_seq ?_
  refine wc_region ?_
  refine wl rfl (OP.ev rfl rfl (eAs rfl) ?_)
  refine wl_nil ?_
  refine wc_ret ?_
  apply at_ret rfl
  · exact (.cons (.tmp rfl) .nil)
  · exact ⟨rfl, rfl⟩
  · exact (by repeat (first | exact Sel.all | exact Sel.none | exact Sel.hd | (apply Sel.one; · repeat (first | exact Pick.h | apply Pick.t | apply Pick.app)) | apply Sel.app | (with_reducible apply Sel.grp; · repeat (first | exact PickF.h | apply PickF.t | apply PickF.a)) | (with_reducible refine Sel.nilF (by with_unfolding_all rfl) ?_) | apply Sel.drop | apply Sel.dropF))

theorem all_may_false {ks : List Nm} {i : Nat} {k : Nm} (hk : ks[i]? = some k) (h : may k = false) : ks.all may = false := by
  rw [List.all_eq_false]
  exact ⟨k, List.mem_of_getElem? hk, by simp [h]⟩
theorem may_char {k : Nm} {j : Nat} {c : UInt8} (hc : k[j]? = some c) (h : okC c = false) : may k = false := by
  unfold may
  have : k.all okC = false := List.all_eq_false.2 ⟨c, List.mem_of_getElem? hc, by simp [h]⟩
  rw [this]; simp
theorem nmB_at {k : Nm} {j : Nat} {c : UInt8} (h : k[j]? = some c) : (byteV (nmB k))[j]? = some (.int .u8 (c.toNat : Int)) := by simp [byteV, nmB, h]

theorem may_ok (v : Value) (ks : List Nm) (R : Heap) (hv : Rs W0 R v 1 ks.length (ks.map strK)) (hl : ks.length ≤ 1000) : FnC W0 Try.prog 47 #[v] R (fun v' L' => v' = .bool (ks.all may) ∧ L' = R) := by
  refine fn_of Try.func47 rfl Try.ntmps47 rfl rfl ?_
  refine wc_seq ?_
  refine wc_region ?_
  refine wl rfl (OP.ev rfl rfl (eAs rfl) ?_)
  refine wl_nil ?_
  refine wc_seq ?_
  refine wc_seq ?_
  refine wc_region ?_
  refine wl rfl (OP.ev rfl rfl (eMv rfl) ?_)
  refine wl rfl (OP.ev rfl rfl (eLenR ty33 rfl hv) ?_)
  refine wl rfl (OP.ev rfl rfl (eMv rfl) ?_)
  refine wl_nil ?_
  refine wc_block ?_
  refine wc_loop (σ := Nat) (fun i => [(7, v), (8, i64 (ks.length : Int)), (9, i64 (i : Int))]) (fun i => R) (fun i => i ≤ ks.length ∧ (ks.take i).all may = true) (fun i => ks.length - i) 0 ⟨Nat.zero_le _, rfl⟩ ⟨rfl, rfl, rfl, trivial⟩ (by repeat (first | exact Sel.all | exact Sel.none | exact Sel.hd | (apply Sel.one; · repeat (first | exact Pick.h | apply Pick.t | apply Pick.app)) | apply Sel.app | (with_reducible apply Sel.grp; · repeat (first | exact PickF.h | apply PickF.t | apply PickF.a)) | (with_reducible refine Sel.nilF (by with_unfolding_all rfl) ?_) | apply Sel.drop | apply Sel.dropF)) ?_
  rintro i ⟨hi, hall⟩
  refine wc_seq ?_
  refine wc_region ?_
  refine wl rfl (OP.evb rfl rfl (eLt rfl rfl) fun t10 h10 => ?_)
  refine wl_nil ?_
  refine wc_seq ?_
  cases t10 with
  | true =>
    try have c_t10 := dt h10
    first
    | (exfalso; omega)
    | (
      refine wc_then rfl ?_
      refine wc_skip ?_
      refine wc_seq ?_
      refine wc_block ?_
      refine wc_seq ?_
      obtain ⟨k, hk⟩ : ∃ k, ks[i]? = some k := ⟨_, List.getElem?_eq_getElem (by omega)⟩
      rcases hv.2 with ⟨h0, _⟩ | ⟨b, off, cap, rfl, hcap, hcells⟩
      · exfalso; omega
      refine wc_region ?_
      refine wl rfl (OP.ev rfl rfl (eIx ty33 ty9 rfl rfl (by omega) (by omega)) ?_)
      refine wl rfl (OP.ev rfl rfl (eLdR (v := strK k) ty9 rfl rfl hcells i (by omega) (by simp [hk])) ?_)
      refine wl rfl (OP.ev rfl rfl (eAs rfl) ?_)
      refine wl_nil ?_
      refine wc_seq ?_
      refine wc_seq ?_
      refine wc_region ?_
      refine wl rfl (OP.ev rfl rfl (eMv rfl) ?_)
      first | refine wl rfl (OP.ev rfl rfl (eLenK ty9 rfl) ?_) | refine wl rfl (OP.ev rfl rfl (eLenStr ty9 rfl) ?_)
      refine wl rfl (OP.evb rfl rfl (eLt rfl rfl) fun t15 h15 => ?_)
      refine wl rfl (OP.ev rfl rfl (eMv rfl) ?_)
      cases t15 with
      | true =>
        try have c_t15 := dt h15
        first
        | (exfalso; omega)
        | (
          refine wl_skip rfl rfl rfl rfl rfl ?_
          refine wl_skip rfl rfl rfl rfl rfl ?_
          refine wl_skip rfl rfl rfl rfl rfl ?_
          refine wl rfl (OP.ev rfl rfl (ePk rfl rfl) ?_)
          refine wl_nil ?_
          refine wc_then rfl ?_
          refine wc_seq ?_
          refine wc_region ?_
          refine wl rfl (OP.ev rfl rfl (eAs rfl) ?_)
          refine wl_nil ?_
          refine wc_ret ?_
          apply at_ret rfl
          · exact (.cons (.tmp rfl) .nil)
          · first
            | exact ⟨by rw [List.take_of_length_le (by omega)] at hall; rw [hall]; rfl, rfl⟩
            | exact ⟨by rw [all_may_false hk (may_char hc (by simp [okC]; omega))]; rfl, rfl⟩
            | exact ⟨by rw [all_may_false hk (by unfold may; simp; omega)]; rfl, rfl⟩
          · exact (by repeat (first | exact Sel.all | exact Sel.none | exact Sel.hd | (apply Sel.one; · repeat (first | exact Pick.h | apply Pick.t | apply Pick.app)) | apply Sel.app | (with_reducible apply Sel.grp; · repeat (first | exact PickF.h | apply PickF.t | apply PickF.a)) | (with_reducible refine Sel.nilF (by with_unfolding_all rfl) ?_) | apply Sel.drop | apply Sel.dropF)))
      | false =>
        try have c_t15 := df h15
        first
        | (exfalso; omega)
        | (
          refine wl_go rfl rfl (OP.ev rfl rfl (eMv rfl) ?_)
          first | refine wl_go rfl rfl (OP.ev rfl rfl (eLenK ty9 rfl) ?_) | refine wl_go rfl rfl (OP.ev rfl rfl (eLenStr ty9 rfl) ?_)
          refine wl_go rfl rfl (OP.evb rfl rfl (eGt rfl rfl) fun t19 h19 => ?_)
          refine wl rfl (OP.ev rfl rfl (ePk rfl rfl) ?_)
          refine wl_nil ?_
          cases t19 with
          | true =>
            try have c_t19 := dt h19
            first
            | (exfalso; omega)
            | (
              refine wc_then rfl ?_
              refine wc_seq ?_
              refine wc_region ?_
              refine wl rfl (OP.ev rfl rfl (eAs rfl) ?_)
              refine wl_nil ?_
              refine wc_ret ?_
              apply at_ret rfl
              · exact (.cons (.tmp rfl) .nil)
              · first
                | exact ⟨by rw [List.take_of_length_le (by omega)] at hall; rw [hall]; rfl, rfl⟩
                | exact ⟨by rw [all_may_false hk (may_char hc (by simp [okC]; omega))]; rfl, rfl⟩
                | exact ⟨by rw [all_may_false hk (by unfold may; simp; omega)]; rfl, rfl⟩
              · exact (by repeat (first | exact Sel.all | exact Sel.none | exact Sel.hd | (apply Sel.one; · repeat (first | exact Pick.h | apply Pick.t | apply Pick.app)) | apply Sel.app | (with_reducible apply Sel.grp; · repeat (first | exact PickF.h | apply PickF.t | apply PickF.a)) | (with_reducible refine Sel.nilF (by with_unfolding_all rfl) ?_) | apply Sel.drop | apply Sel.dropF)))
          | false =>
            try have c_t19 := df h19
            first
            | (exfalso; omega)
            | (
              refine wc_else rfl ?_
              refine wc_skip ?_
              refine wc_seq ?_
              refine wc_region ?_
              refine wl rfl (OP.ev rfl rfl (eMv rfl) ?_)
              refine wl rfl (oStrB rfl ty9 ty30 ty5 rfl ?_)
              rintro v22 b22 o22 hv22 ⟨cap22, rfl⟩
              refine wl rfl (OP.ev rfl rfl (eLenR ty30 rfl hv22) ?_)
              refine wl rfl (OP.ev rfl rfl (eMv rfl) ?_)
              refine wl_nil ?_
              refine wc_block ?_
              refine wc_loop (σ := Nat) (fun j => [(7, .slice (some ⟨b, off, none⟩) ks.length cap), (8, i64 (ks.length : Int)), (9, i64 (i : Int)), (22, .slice (some ⟨b22, 0, none⟩) (nmB k).length cap22), (23, i64 ((nmB k).length : Int)), (24, i64 (j : Int))]) (fun j => (b22, o22) :: R) (fun j => j ≤ (nmB k).length ∧ (k.take j).all okC = true) (fun j => (nmB k).length - j) 0 ⟨Nat.zero_le _, rfl⟩ ⟨rfl, rfl, rfl, rfl, rfl, rfl, trivial⟩ (by repeat (first | exact Sel.all | exact Sel.none | exact Sel.hd | (apply Sel.one; · repeat (first | exact Pick.h | apply Pick.t | apply Pick.app)) | apply Sel.app | (with_reducible apply Sel.grp; · repeat (first | exact PickF.h | apply PickF.t | apply PickF.a)) | (with_reducible refine Sel.nilF (by with_unfolding_all rfl) ?_) | apply Sel.drop | apply Sel.dropF)) ?_
              rintro j ⟨hj, hcs⟩
              have hkl := nmB_len k
              refine wc_seq ?_
              refine wc_region ?_
              refine wl rfl (OP.evb rfl rfl (eLt rfl rfl) fun t25 h25 => ?_)
              refine wl_nil ?_
              refine wc_seq ?_
              cases t25 with
              | true =>
                try have c_t25 := dt h25
                first
                | (exfalso; omega)
                | (
                  refine wc_then rfl ?_
                  refine wc_skip ?_
                  refine wc_seq ?_
                  refine wc_block ?_
                  refine wc_seq ?_
                  obtain ⟨c, hc⟩ : ∃ c, k[j]? = some c := ⟨_, List.getElem?_eq_getElem (by omega)⟩
                  have hcl := c.toNat_lt
                  refine wc_region ?_
                  refine wl rfl (OP.ev rfl rfl (eIx ty30 ty5 rfl rfl (by omega) (by omega)) ?_)
                  refine wl rfl (OP.ev rfl rfl (eLdRow0 ty5 rfl rfl hv22 j (by omega) (nmB_at hc)) ?_)
                  refine wl rfl (OP.ev rfl rfl (eAs rfl) ?_)
                  refine wl_nil ?_
                  refine wc_seq ?_
                  refine wc_region ?_
                  refine wl rfl (OP.ev rfl rfl (eMv rfl) ?_)
                  refine wl rfl (OP.evb rfl rfl (eLt rfl rfl) fun t29 h29 => ?_)
                  refine wl rfl (OP.ev rfl rfl (eMv rfl) ?_)
                  cases t29 with
                  | true =>
                    try have c_t29 := dt h29
                    first
                    | (exfalso; omega)
                    | (
                      refine wl_skip rfl rfl rfl rfl rfl ?_
                      refine wl_skip rfl rfl rfl rfl rfl ?_
                      refine wl rfl (OP.ev rfl rfl (ePk rfl rfl) ?_)
                      refine wl rfl (OP.ev rfl rfl (eMv rfl) ?_)
                      refine wl_go rfl rfl (OP.ev rfl rfl (eMv rfl) ?_)
                      refine wl_go rfl rfl (OP.evb rfl rfl (eLt rfl rfl) fun t36 h36 => ?_)
                      refine wl_go rfl rfl (OP.ev rfl rfl (eMv rfl) ?_)
                      cases t36 with
                      | true =>
                        try have c_t36 := dt h36
                        first
                        | (exfalso; omega)
                        | (
                          refine wl_skip rfl rfl rfl rfl rfl ?_
                          refine wl_skip rfl rfl rfl rfl rfl ?_
                          refine wl_go rfl rfl (OP.ev rfl rfl (ePk rfl rfl) ?_)
                          refine wl rfl (OP.ev rfl rfl (ePk rfl rfl) ?_)
                          refine wl rfl (OP.ev rfl rfl (eMv rfl) ?_)
                          refine wl_go rfl rfl (OP.ev rfl rfl (eMv rfl) ?_)
                          refine wl_go rfl rfl (OP.evb rfl rfl (eNe rfl rfl) fun t44 h44 => ?_)
                          refine wl rfl (OP.ev rfl rfl (ePk rfl rfl) ?_)
                          refine wl_nil ?_
                          cases t44 with
                          | true =>
                            try have c_t44 := dt h44
                            first
                            | (exfalso; omega)
                            | (
                              refine wc_then rfl ?_
                              refine wc_seq ?_
                              refine wc_region ?_
                              refine wl rfl (OP.ev rfl rfl (eAs rfl) ?_)
                              refine wl_nil ?_
                              refine wc_ret ?_
                              apply at_ret rfl
                              · exact (.cons (.tmp rfl) .nil)
                              · first
                                | exact ⟨by rw [List.take_of_length_le (by omega)] at hall; rw [hall]; rfl, rfl⟩
                                | exact ⟨by rw [all_may_false hk (may_char hc (by simp [okC]; omega))]; rfl, rfl⟩
                                | exact ⟨by rw [all_may_false hk (by unfold may; simp; omega)]; rfl, rfl⟩
                              · exact (by repeat (first | exact Sel.all | exact Sel.none | exact Sel.hd | (apply Sel.one; · repeat (first | exact Pick.h | apply Pick.t | apply Pick.app)) | apply Sel.app | (with_reducible apply Sel.grp; · repeat (first | exact PickF.h | apply PickF.t | apply PickF.a)) | (with_reducible refine Sel.nilF (by with_unfolding_all rfl) ?_) | apply Sel.drop | apply Sel.dropF)))
                          | false =>
                            try have c_t44 := df h44
                            first
                            | (exfalso; omega)
                            | (
                              refine wc_else rfl ?_
                              refine wc_skip ?_
                              refine wc_region ?_
                              first | refine wl rfl (OP.ev rfl rfl (eAdd rfl rfl (by omega)) ?_) | refine wl rfl (OP.ev rfl rfl (eAddW rfl rfl) ?_)
                              refine wl rfl (OP.ev rfl rfl (eMv rfl) ?_)
                              refine wl_nil ?_
                              first
                              | exact ⟨j + 1, ⟨by omega, by rw [List.take_add_one, hc, List.all_append, hcs]; simp [okC]; omega⟩, by omega, ⟨rfl, rfl, rfl, rfl, rfl, rfl, trivial⟩, (by repeat (first | exact Sel.all | exact Sel.none | exact Sel.hd | (apply Sel.one; · repeat (first | exact Pick.h | apply Pick.t | apply Pick.app)) | apply Sel.app | (with_reducible apply Sel.grp; · repeat (first | exact PickF.h | apply PickF.t | apply PickF.a)) | (with_reducible refine Sel.nilF (by with_unfolding_all rfl) ?_) | apply Sel.drop | apply Sel.dropF))⟩))
                      | false =>
                        try have c_t36 := df h36
                        first
                        | (exfalso; omega)
                        | (
                          refine wl_go rfl rfl (OP.ev rfl rfl (eMv rfl) ?_)
                          refine wl_go rfl rfl (OP.evb rfl rfl (eGt rfl rfl) fun t39 h39 => ?_)
                          refine wl_go rfl rfl (OP.ev rfl rfl (ePk rfl rfl) ?_)
                          refine wl rfl (OP.ev rfl rfl (ePk rfl rfl) ?_)
                          refine wl rfl (OP.ev rfl rfl (eMv rfl) ?_)
                          cases t39 with
                          | true =>
                            try have c_t39 := dt h39
                            first
                            | (exfalso; omega)
                            | (
                              refine wl_go rfl rfl (OP.ev rfl rfl (eMv rfl) ?_)
                              refine wl_go rfl rfl (OP.evb rfl rfl (eNe rfl rfl) fun t44 h44 => ?_)
                              refine wl rfl (OP.ev rfl rfl (ePk rfl rfl) ?_)
                              refine wl_nil ?_
                              cases t44 with
                              | true =>
                                try have c_t44 := dt h44
                                first
                                | (exfalso; omega)
                                | (
                                  refine wc_then rfl ?_
                                  refine wc_seq ?_
                                  refine wc_region ?_
                                  refine wl rfl (OP.ev rfl rfl (eAs rfl) ?_)
                                  refine wl_nil ?_
                                  refine wc_ret ?_
                                  apply at_ret rfl
                                  · exact (.cons (.tmp rfl) .nil)
                                  · first
                                    | exact ⟨by rw [List.take_of_length_le (by omega)] at hall; rw [hall]; rfl, rfl⟩
                                    | exact ⟨by rw [all_may_false hk (may_char hc (by simp [okC]; omega))]; rfl, rfl⟩
                                    | exact ⟨by rw [all_may_false hk (by unfold may; simp; omega)]; rfl, rfl⟩
                                  · exact (by repeat (first | exact Sel.all | exact Sel.none | exact Sel.hd | (apply Sel.one; · repeat (first | exact Pick.h | apply Pick.t | apply Pick.app)) | apply Sel.app | (with_reducible apply Sel.grp; · repeat (first | exact PickF.h | apply PickF.t | apply PickF.a)) | (with_reducible refine Sel.nilF (by with_unfolding_all rfl) ?_) | apply Sel.drop | apply Sel.dropF)))
                              | false =>
                                try have c_t44 := df h44
                                first
                                | (exfalso; omega)
                                | (
                                  refine wc_else rfl ?_
                                  refine wc_skip ?_
                                  refine wc_region ?_
                                  first | refine wl rfl (OP.ev rfl rfl (eAdd rfl rfl (by omega)) ?_) | refine wl rfl (OP.ev rfl rfl (eAddW rfl rfl) ?_)
                                  refine wl rfl (OP.ev rfl rfl (eMv rfl) ?_)
                                  refine wl_nil ?_
                                  first
                                  | exact ⟨j + 1, ⟨by omega, by rw [List.take_add_one, hc, List.all_append, hcs]; simp [okC]; omega⟩, by omega, ⟨rfl, rfl, rfl, rfl, rfl, rfl, trivial⟩, (by repeat (first | exact Sel.all | exact Sel.none | exact Sel.hd | (apply Sel.one; · repeat (first | exact Pick.h | apply Pick.t | apply Pick.app)) | apply Sel.app | (with_reducible apply Sel.grp; · repeat (first | exact PickF.h | apply PickF.t | apply PickF.a)) | (with_reducible refine Sel.nilF (by with_unfolding_all rfl) ?_) | apply Sel.drop | apply Sel.dropF))⟩))
                          | false =>
                            try have c_t39 := df h39
                            first
                            | (exfalso; omega)
                            | (
                              refine wl_skip rfl rfl rfl rfl rfl ?_
                              refine wl_skip rfl rfl rfl rfl rfl ?_
                              refine wl rfl (OP.ev rfl rfl (ePk rfl rfl) ?_)
                              refine wl_nil ?_
                              refine wc_else rfl ?_
                              refine wc_skip ?_
                              refine wc_region ?_
                              first | refine wl rfl (OP.ev rfl rfl (eAdd rfl rfl (by omega)) ?_) | refine wl rfl (OP.ev rfl rfl (eAddW rfl rfl) ?_)
                              refine wl rfl (OP.ev rfl rfl (eMv rfl) ?_)
                              refine wl_nil ?_
                              first
                              | exact ⟨j + 1, ⟨by omega, by rw [List.take_add_one, hc, List.all_append, hcs]; simp [okC]; omega⟩, by omega, ⟨rfl, rfl, rfl, rfl, rfl, rfl, trivial⟩, (by repeat (first | exact Sel.all | exact Sel.none | exact Sel.hd | (apply Sel.one; · repeat (first | exact Pick.h | apply Pick.t | apply Pick.app)) | apply Sel.app | (with_reducible apply Sel.grp; · repeat (first | exact PickF.h | apply PickF.t | apply PickF.a)) | (with_reducible refine Sel.nilF (by with_unfolding_all rfl) ?_) | apply Sel.drop | apply Sel.dropF))⟩)))
                  | false =>
                    try have c_t29 := df h29
                    first
                    | (exfalso; omega)
                    | (
                      refine wl_go rfl rfl (OP.ev rfl rfl (eMv rfl) ?_)
                      refine wl_go rfl rfl (OP.evb rfl rfl (eGt rfl rfl) fun t32 h32 => ?_)
                      refine wl rfl (OP.ev rfl rfl (ePk rfl rfl) ?_)
                      refine wl rfl (OP.ev rfl rfl (eMv rfl) ?_)
                      cases t32 with
                      | true =>
                        try have c_t32 := dt h32
                        first
                        | (exfalso; omega)
                        | (
                          refine wl_go rfl rfl (OP.ev rfl rfl (eMv rfl) ?_)
                          refine wl_go rfl rfl (OP.evb rfl rfl (eLt rfl rfl) fun t36 h36 => ?_)
                          refine wl_go rfl rfl (OP.ev rfl rfl (eMv rfl) ?_)
                          cases t36 with
                          | true =>
                            try have c_t36 := dt h36
                            first
                            | (exfalso; omega)
                            | (
                              refine wl_skip rfl rfl rfl rfl rfl ?_
                              refine wl_skip rfl rfl rfl rfl rfl ?_
                              refine wl_go rfl rfl (OP.ev rfl rfl (ePk rfl rfl) ?_)
                              refine wl rfl (OP.ev rfl rfl (ePk rfl rfl) ?_)
                              refine wl rfl (OP.ev rfl rfl (eMv rfl) ?_)
                              refine wl_go rfl rfl (OP.ev rfl rfl (eMv rfl) ?_)
                              refine wl_go rfl rfl (OP.evb rfl rfl (eNe rfl rfl) fun t44 h44 => ?_)
                              refine wl rfl (OP.ev rfl rfl (ePk rfl rfl) ?_)
                              refine wl_nil ?_
                              cases t44 with
                              | true =>
                                try have c_t44 := dt h44
                                first
                                | (exfalso; omega)
                                | (
                                  refine wc_then rfl ?_
                                  refine wc_seq ?_
                                  refine wc_region ?_
                                  refine wl rfl (OP.ev rfl rfl (eAs rfl) ?_)
                                  refine wl_nil ?_
                                  refine wc_ret ?_
                                  apply at_ret rfl
                                  · exact (.cons (.tmp rfl) .nil)
                                  · first
                                    | exact ⟨by rw [List.take_of_length_le (by omega)] at hall; rw [hall]; rfl, rfl⟩
                                    | exact ⟨by rw [all_may_false hk (may_char hc (by simp [okC]; omega))]; rfl, rfl⟩
                                    | exact ⟨by rw [all_may_false hk (by unfold may; simp; omega)]; rfl, rfl⟩
                                  · exact (by repeat (first | exact Sel.all | exact Sel.none | exact Sel.hd | (apply Sel.one; · repeat (first | exact Pick.h | apply Pick.t | apply Pick.app)) | apply Sel.app | (with_reducible apply Sel.grp; · repeat (first | exact PickF.h | apply PickF.t | apply PickF.a)) | (with_reducible refine Sel.nilF (by with_unfolding_all rfl) ?_) | apply Sel.drop | apply Sel.dropF)))
                              | false =>
                                try have c_t44 := df h44
                                first
                                | (exfalso; omega)
                                | (
                                  refine wc_else rfl ?_
                                  refine wc_skip ?_
                                  refine wc_region ?_
                                  first | refine wl rfl (OP.ev rfl rfl (eAdd rfl rfl (by omega)) ?_) | refine wl rfl (OP.ev rfl rfl (eAddW rfl rfl) ?_)
                                  refine wl rfl (OP.ev rfl rfl (eMv rfl) ?_)
                                  refine wl_nil ?_
                                  first
                                  | exact ⟨j + 1, ⟨by omega, by rw [List.take_add_one, hc, List.all_append, hcs]; simp [okC]; omega⟩, by omega, ⟨rfl, rfl, rfl, rfl, rfl, rfl, trivial⟩, (by repeat (first | exact Sel.all | exact Sel.none | exact Sel.hd | (apply Sel.one; · repeat (first | exact Pick.h | apply Pick.t | apply Pick.app)) | apply Sel.app | (with_reducible apply Sel.grp; · repeat (first | exact PickF.h | apply PickF.t | apply PickF.a)) | (with_reducible refine Sel.nilF (by with_unfolding_all rfl) ?_) | apply Sel.drop | apply Sel.dropF))⟩))
                          | false =>
                            try have c_t36 := df h36
                            first
                            | (exfalso; omega)
                            | (
                              refine wl_go rfl rfl (OP.ev rfl rfl (eMv rfl) ?_)
                              refine wl_go rfl rfl (OP.evb rfl rfl (eGt rfl rfl) fun t39 h39 => ?_)
                              refine wl_go rfl rfl (OP.ev rfl rfl (ePk rfl rfl) ?_)
                              refine wl rfl (OP.ev rfl rfl (ePk rfl rfl) ?_)
                              refine wl rfl (OP.ev rfl rfl (eMv rfl) ?_)
                              cases t39 with
                              | true =>
                                try have c_t39 := dt h39
                                first
                                | (exfalso; omega)
                                | (
                                  refine wl_go rfl rfl (OP.ev rfl rfl (eMv rfl) ?_)
                                  refine wl_go rfl rfl (OP.evb rfl rfl (eNe rfl rfl) fun t44 h44 => ?_)
                                  refine wl rfl (OP.ev rfl rfl (ePk rfl rfl) ?_)
                                  refine wl_nil ?_
                                  cases t44 with
                                  | true =>
                                    try have c_t44 := dt h44
                                    first
                                    | (exfalso; omega)
                                    | (
                                      refine wc_then rfl ?_
                                      refine wc_seq ?_
                                      refine wc_region ?_
                                      refine wl rfl (OP.ev rfl rfl (eAs rfl) ?_)
                                      refine wl_nil ?_
                                      refine wc_ret ?_
                                      apply at_ret rfl
                                      · exact (.cons (.tmp rfl) .nil)
                                      · first
                                        | exact ⟨by rw [List.take_of_length_le (by omega)] at hall; rw [hall]; rfl, rfl⟩
                                        | exact ⟨by rw [all_may_false hk (may_char hc (by simp [okC]; omega))]; rfl, rfl⟩
                                        | exact ⟨by rw [all_may_false hk (by unfold may; simp; omega)]; rfl, rfl⟩
                                      · exact (by repeat (first | exact Sel.all | exact Sel.none | exact Sel.hd | (apply Sel.one; · repeat (first | exact Pick.h | apply Pick.t | apply Pick.app)) | apply Sel.app | (with_reducible apply Sel.grp; · repeat (first | exact PickF.h | apply PickF.t | apply PickF.a)) | (with_reducible refine Sel.nilF (by with_unfolding_all rfl) ?_) | apply Sel.drop | apply Sel.dropF)))
                                  | false =>
                                    try have c_t44 := df h44
                                    first
                                    | (exfalso; omega)
                                    | (
                                      refine wc_else rfl ?_
                                      refine wc_skip ?_
                                      refine wc_region ?_
                                      first | refine wl rfl (OP.ev rfl rfl (eAdd rfl rfl (by omega)) ?_) | refine wl rfl (OP.ev rfl rfl (eAddW rfl rfl) ?_)
                                      refine wl rfl (OP.ev rfl rfl (eMv rfl) ?_)
                                      refine wl_nil ?_
                                      first
                                      | exact ⟨j + 1, ⟨by omega, by rw [List.take_add_one, hc, List.all_append, hcs]; simp [okC]; omega⟩, by omega, ⟨rfl, rfl, rfl, rfl, rfl, rfl, trivial⟩, (by repeat (first | exact Sel.all | exact Sel.none | exact Sel.hd | (apply Sel.one; · repeat (first | exact Pick.h | apply Pick.t | apply Pick.app)) | apply Sel.app | (with_reducible apply Sel.grp; · repeat (first | exact PickF.h | apply PickF.t | apply PickF.a)) | (with_reducible refine Sel.nilF (by with_unfolding_all rfl) ?_) | apply Sel.drop | apply Sel.dropF))⟩))
                              | false =>
                                try have c_t39 := df h39
                                first
                                | (exfalso; omega)
                                | (
                                  refine wl_skip rfl rfl rfl rfl rfl ?_
                                  refine wl_skip rfl rfl rfl rfl rfl ?_
                                  refine wl rfl (OP.ev rfl rfl (ePk rfl rfl) ?_)
                                  refine wl_nil ?_
                                  refine wc_else rfl ?_
                                  refine wc_skip ?_
                                  refine wc_region ?_
                                  first | refine wl rfl (OP.ev rfl rfl (eAdd rfl rfl (by omega)) ?_) | refine wl rfl (OP.ev rfl rfl (eAddW rfl rfl) ?_)
                                  refine wl rfl (OP.ev rfl rfl (eMv rfl) ?_)
                                  refine wl_nil ?_
                                  first
                                  | exact ⟨j + 1, ⟨by omega, by rw [List.take_add_one, hc, List.all_append, hcs]; simp [okC]; omega⟩, by omega, ⟨rfl, rfl, rfl, rfl, rfl, rfl, trivial⟩, (by repeat (first | exact Sel.all | exact Sel.none | exact Sel.hd | (apply Sel.one; · repeat (first | exact Pick.h | apply Pick.t | apply Pick.app)) | apply Sel.app | (with_reducible apply Sel.grp; · repeat (first | exact PickF.h | apply PickF.t | apply PickF.a)) | (with_reducible refine Sel.nilF (by with_unfolding_all rfl) ?_) | apply Sel.drop | apply Sel.dropF))⟩)))
                      | false =>
                        try have c_t32 := df h32
                        first
                        | (exfalso; omega)
                        | (
                          refine wl_skip rfl rfl rfl rfl rfl ?_
                          refine wl_skip rfl rfl rfl rfl rfl ?_
                          refine wl_skip rfl rfl rfl rfl rfl ?_
                          refine wl_skipU rfl rfl rfl rfl ?_
                          refine wl_skipU rfl rfl rfl rfl ?_
                          refine wl_skip rfl rfl rfl rfl rfl ?_
                          refine wl rfl (OP.ev rfl rfl (ePk rfl rfl) ?_)
                          refine wl rfl (OP.ev rfl rfl (eMv rfl) ?_)
                          refine wl_skip rfl rfl rfl rfl rfl ?_
                          refine wl_skip rfl rfl rfl rfl rfl ?_
                          refine wl rfl (OP.ev rfl rfl (ePk rfl rfl) ?_)
                          refine wl_nil ?_
                          refine wc_else rfl ?_
                          refine wc_skip ?_
                          refine wc_region ?_
                          first | refine wl rfl (OP.ev rfl rfl (eAdd rfl rfl (by omega)) ?_) | refine wl rfl (OP.ev rfl rfl (eAddW rfl rfl) ?_)
                          refine wl rfl (OP.ev rfl rfl (eMv rfl) ?_)
                          refine wl_nil ?_
                          first
                          | exact ⟨j + 1, ⟨by omega, by rw [List.take_add_one, hc, List.all_append, hcs]; simp [okC]; omega⟩, by omega, ⟨rfl, rfl, rfl, rfl, rfl, rfl, trivial⟩, (by repeat (first | exact Sel.all | exact Sel.none | exact Sel.hd | (apply Sel.one; · repeat (first | exact Pick.h | apply Pick.t | apply Pick.app)) | apply Sel.app | (with_reducible apply Sel.grp; · repeat (first | exact PickF.h | apply PickF.t | apply PickF.a)) | (with_reducible refine Sel.nilF (by with_unfolding_all rfl) ?_) | apply Sel.drop | apply Sel.dropF))⟩)))
              | false =>
                try have c_t25 := df h25
                first
                | (exfalso; omega)
                | (
                  refine wc_else rfl ?_
                  refine wc_exit rfl ?_
                  refine wc_region ?_
                  first | refine wl rfl (OP.ev rfl rfl (eAdd rfl rfl (by omega)) ?_) | refine wl rfl (OP.ev rfl rfl (eAddW rfl rfl) ?_)
                  refine wl rfl (OP.ev rfl rfl (eMv rfl) ?_)
                  refine wl_nil ?_
                  first
                  | exact ⟨i + 1, ⟨by omega, by rw [List.take_add_one, hk, List.all_append, hall]; simp only [Option.toList_some, List.all_cons, List.all_nil, Bool.and_true, Bool.true_and]; unfold may; rw [List.take_of_length_le (by omega)] at hcs; rw [hcs]; simp; omega⟩, by omega, ⟨rfl, rfl, rfl, trivial⟩, (by repeat (first | exact Sel.all | exact Sel.none | exact Sel.hd | (apply Sel.one; · repeat (first | exact Pick.h | apply Pick.t | apply Pick.app)) | apply Sel.app | (with_reducible apply Sel.grp; · repeat (first | exact PickF.h | apply PickF.t | apply PickF.a)) | (with_reducible refine Sel.nilF (by with_unfolding_all rfl) ?_) | apply Sel.drop | apply Sel.dropF))⟩))))
  | false =>
    try have c_t10 := df h10
    first
    | (exfalso; omega)
    | (
      refine wc_else rfl ?_
      refine wc_exit rfl ?_
      refine wc_seq ?_
      refine wc_region ?_
      refine wl rfl (OP.ev rfl rfl (eAs rfl) ?_)
      refine wl_nil ?_
      refine wc_ret ?_
      apply at_ret rfl
      · exact (.cons (.tmp rfl) .nil)
      · first
        | exact ⟨by rw [List.take_of_length_le (by omega)] at hall; rw [hall]; rfl, rfl⟩
        | exact ⟨by rw [all_may_false hk (may_char hc (by simp [okC]; omega))]; rfl, rfl⟩
        | exact ⟨by rw [all_may_false hk (by unfold may; simp; omega)]; rfl, rfl⟩
      · exact (by repeat (first | exact Sel.all | exact Sel.none | exact Sel.hd | (apply Sel.one; · repeat (first | exact Pick.h | apply Pick.t | apply Pick.app)) | apply Sel.app | (with_reducible apply Sel.grp; · repeat (first | exact PickF.h | apply PickF.t | apply PickF.a)) | (with_reducible refine Sel.nilF (by with_unfolding_all rfl) ?_) | apply Sel.drop | apply Sel.dropF)))
end Go.Proofs.Ytahjgjmemijofaa
