/- The reference's disk in memory: names, files as they are seen, why, hit. No statement of the seat is proved here. -/
import Derived.Test.YtahjgjmemijofaaRf3
namespace Go.Proofs.Ytahjgjmemijofaa
open Go Eng
set_option linter.unusedVariables false
set_option linter.unusedSimpArgs false
set_option maxRecDepth 4000
variable {W0 : World} {I I' : Heap}

theorem Eng.eIdxK {P : Program} {n : Nat} {l : Env} {L : Heap} {ty : TypeId} {pos : String} {af : Array Edge} {gd : Option (Nat × Bool)} {D : Option Nat} {t : TypeId} {x i : Operand} {a1 a2 : Nat} {z : Option Value} {k : Nm} {j : Int} {c : UInt8}
    (ht : tinf P t = some (.string, a1, a2, z)) (hx : evo l x = some (strK k)) (hi : evo l i = some (.int .i64 j)) (h0 : 0 ≤ j) (hj : k[j.toNat]? = some c) : EV P n W0 ⟨D, .index t x i, ty, pos, af, gd⟩ l L (.int .u8 (c.toNat : Int)) :=
  fun a w ha hs => by
    have h1 := (List.getElem?_eq_some_iff.1 hj).1
    have h2 : (⟨k.toArray⟩ : ByteArray).size = k.length := strK_size k
    have h3 : ¬ (k.length : Int) ≤ j := by omega
    have h4 : ¬ j < 0 := by omega
    have h5 : j.toNat < (⟨k.toArray⟩ : ByteArray).size := by rw [h2]; exact h1
    have h6 : (⟨k.toArray⟩ : ByteArray)[j.toNat] = c := by
      show k.toArray[j.toNat] = c
      have := (List.getElem?_eq_some_iff.1 hj).2
      simpa using this
    have hr := run_index_string (P := P) (w := w) t ⟨k.toArray⟩ .i64 j (tinf_run ht).1
    rw [dif_pos ⟨h0, by omega⟩, h6] at hr
    simp only [execOp, ha.eval hx, ha.eval hi, strK, Go.Proofs.encStr, Sem.run_bind, hr]
    rfl

theorem name59_ok (k : Nm) (R : Heap) (hk : k.length ≤ 9223372036854775807) : FnC W0 Try.prog 59 #[strK k] R (fun v' L' => v' = .bool (may k) ∧ L' = R) := by
  refine fn_of Try.func59 rfl Try.ntmps59 rfl rfl ?_
  refine wc_seq ?_
  refine wc_region ?_
  refine wl rfl (OP.ev rfl rfl (eAs rfl) ?_)
  refine wl_nil ?_
  refine wc_seq ?_
  refine wc_seq ?_
  refine wc_region ?_
  refine wl rfl (OP.ev rfl rfl (eMv rfl) ?_)
  refine wl rfl (OP.ev rfl rfl (eLenK ty9 rfl) ?_)
  refine wl rfl (OP.ev rfl rfl (eMv rfl) ?_)
  refine wl_nil ?_
  refine wc_block ?_
  refine wc_loop (σ := Nat) (fun i => [(0, strK k), (6, i64 (k.length : Int)), (7, i64 (i : Int))]) (fun i => R) (fun i => i ≤ k.length ∧ (k.take i).all okC = true) (fun i => k.length - i) 0 ⟨Nat.zero_le _, rfl⟩ ⟨rfl, rfl, rfl, trivial⟩ (by repeat (first | exact Sel.all | exact Sel.none | exact Sel.hd | (apply Sel.one; · repeat (first | exact Pick.h | apply Pick.t | apply Pick.app)) | apply Sel.app | (with_reducible apply Sel.grp; · repeat (first | exact PickF.h | apply PickF.t | apply PickF.a)) | (with_reducible refine Sel.nilF (by with_unfolding_all rfl) ?_) | apply Sel.drop | apply Sel.dropF)) ?_
  rintro i ⟨hi, hall⟩
  refine wc_seq ?_
  refine wc_region ?_
  refine wl rfl (OP.evb rfl rfl (eLt rfl rfl) fun t8 h8 => ?_)
  refine wl_nil ?_
  refine wc_seq ?_
  cases t8 with
  | true =>
    try have c_t8 := dt h8
    first
    | (exfalso; omega)
    | (
      refine wc_then rfl ?_
      refine wc_skip ?_
      refine wc_seq ?_
      refine wc_block ?_
      refine wc_seq ?_
      refine wc_region ?_
      refine wl rfl (OP.ev rfl rfl (eMv rfl) ?_)
      refine wl rfl (OP.ev rfl rfl (eAs rfl) ?_)
      refine wl_nil ?_
      refine wc_seq ?_
      obtain ⟨c, hc⟩ : ∃ c, k[i]? = some c := ⟨_, List.getElem?_eq_getElem (by omega)⟩
      have hcl := c.toNat_lt
      refine wc_region ?_
      refine wl rfl (OP.ev rfl rfl (eMv rfl) ?_)
      refine wl rfl (OP.ev rfl rfl (eMv rfl) ?_)
      refine wl rfl (OP.ev rfl rfl (eIdxK ty9 rfl rfl (by omega) (by simpa using hc)) ?_)
      refine wl rfl (OP.ev rfl rfl (eAs rfl) ?_)
      refine wl_nil ?_
      refine wc_seq ?_
      refine wc_region ?_
      refine wl rfl (OP.ev rfl rfl (eMv rfl) ?_)
      refine wl rfl (OP.evb rfl rfl (eEq rfl rfl) fun t14 h14 => ?_)
      refine wl rfl (OP.ev rfl rfl (eMv rfl) ?_)
      cases t14 with
      | true =>
        try have c_t14 := dt h14
        first
        | (exfalso; omega)
        | (
          refine wl_skip rfl rfl rfl rfl rfl ?_
          refine wl_skip rfl rfl rfl rfl rfl ?_
          refine wl_skip rfl rfl rfl rfl rfl ?_
          refine wl_skipU rfl rfl rfl rfl ?_
          refine wl_skipU rfl rfl rfl rfl ?_
          refine wl_skip rfl rfl rfl rfl rfl ?_
          refine wl rfl (OP.ev rfl rfl (ePk rfl rfl) ?_)
          refine wl rfl (OP.ev rfl rfl (eMv rfl) ?_)
          refine wl_skip rfl rfl rfl rfl rfl ?_
          refine wl_skip rfl rfl rfl rfl rfl ?_
          refine wl_skip rfl rfl rfl rfl rfl ?_
          refine wl_skipU rfl rfl rfl rfl ?_
          refine wl_skipU rfl rfl rfl rfl ?_
          refine wl_skip rfl rfl rfl rfl rfl ?_
          refine wl rfl (OP.ev rfl rfl (ePk rfl rfl) ?_)
          refine wl rfl (OP.ev rfl rfl (eNot rfl) ?_)
          refine wl_nil ?_
          refine wc_else rfl ?_
          refine wc_skip ?_
          refine wc_region ?_
          first | refine wl rfl (OP.ev rfl rfl (eAdd rfl rfl (by omega)) ?_) | refine wl rfl (OP.ev rfl rfl (eAddW rfl rfl) ?_)
          refine wl rfl (OP.ev rfl rfl (eMv rfl) ?_)
          refine wl_nil ?_
          exact ⟨i + 1, ⟨by omega, by rw [List.take_add_one, hc, List.all_append, hall]; simp [okC]; omega⟩, by omega, ⟨rfl, rfl, rfl, trivial⟩, (by repeat (first | exact Sel.all | exact Sel.none | exact Sel.hd | (apply Sel.one; · repeat (first | exact Pick.h | apply Pick.t | apply Pick.app)) | apply Sel.app | (with_reducible apply Sel.grp; · repeat (first | exact PickF.h | apply PickF.t | apply PickF.a)) | (with_reducible refine Sel.nilF (by with_unfolding_all rfl) ?_) | apply Sel.drop | apply Sel.dropF))⟩)
      | false =>
        try have c_t14 := df h14
        first
        | (exfalso; omega)
        | (
          refine wl_go rfl rfl (OP.ev rfl rfl (eMv rfl) ?_)
          refine wl_go rfl rfl (OP.evb rfl rfl (eGe rfl rfl) fun t17 h17 => ?_)
          refine wl_go rfl rfl (OP.ev rfl rfl (eMv rfl) ?_)
          cases t17 with
          | true =>
            try have c_t17 := dt h17
            first
            | (exfalso; omega)
            | (
              refine wl_go rfl rfl (OP.ev rfl rfl (eMv rfl) ?_)
              refine wl_go rfl rfl (OP.evb rfl rfl (eLe rfl rfl) fun t20 h20 => ?_)
              refine wl_go rfl rfl (OP.ev rfl rfl (ePk rfl rfl) ?_)
              refine wl rfl (OP.ev rfl rfl (ePk rfl rfl) ?_)
              refine wl rfl (OP.ev rfl rfl (eMv rfl) ?_)
              cases t20 with
              | true =>
                try have c_t20 := dt h20
                first
                | (exfalso; omega)
                | (
                  refine wl_skip rfl rfl rfl rfl rfl ?_
                  refine wl_skip rfl rfl rfl rfl rfl ?_
                  refine wl_skip rfl rfl rfl rfl rfl ?_
                  refine wl_skipU rfl rfl rfl rfl ?_
                  refine wl_skipU rfl rfl rfl rfl ?_
                  refine wl_skip rfl rfl rfl rfl rfl ?_
                  refine wl rfl (OP.ev rfl rfl (ePk rfl rfl) ?_)
                  refine wl rfl (OP.ev rfl rfl (eNot rfl) ?_)
                  refine wl_nil ?_
                  refine wc_else rfl ?_
                  refine wc_skip ?_
                  refine wc_region ?_
                  first | refine wl rfl (OP.ev rfl rfl (eAdd rfl rfl (by omega)) ?_) | refine wl rfl (OP.ev rfl rfl (eAddW rfl rfl) ?_)
                  refine wl rfl (OP.ev rfl rfl (eMv rfl) ?_)
                  refine wl_nil ?_
                  exact ⟨i + 1, ⟨by omega, by rw [List.take_add_one, hc, List.all_append, hall]; simp [okC]; omega⟩, by omega, ⟨rfl, rfl, rfl, trivial⟩, (by repeat (first | exact Sel.all | exact Sel.none | exact Sel.hd | (apply Sel.one; · repeat (first | exact Pick.h | apply Pick.t | apply Pick.app)) | apply Sel.app | (with_reducible apply Sel.grp; · repeat (first | exact PickF.h | apply PickF.t | apply PickF.a)) | (with_reducible refine Sel.nilF (by with_unfolding_all rfl) ?_) | apply Sel.drop | apply Sel.dropF))⟩)
              | false =>
                try have c_t20 := df h20
                first
                | (exfalso; omega)
                | (
                  refine wl_go rfl rfl (OP.ev rfl rfl (eMv rfl) ?_)
                  refine wl_go rfl rfl (OP.evb rfl rfl (eGe rfl rfl) fun t25 h25 => ?_)
                  refine wl_go rfl rfl (OP.ev rfl rfl (eMv rfl) ?_)
                  cases t25 with
                  | true =>
                    try have c_t25 := dt h25
                    first
                    | (exfalso; omega)
                    | (
                      refine wl_go rfl rfl (OP.ev rfl rfl (eMv rfl) ?_)
                      refine wl_go rfl rfl (OP.evb rfl rfl (eLe rfl rfl) fun t28 h28 => ?_)
                      refine wl_go rfl rfl (OP.ev rfl rfl (ePk rfl rfl) ?_)
                      refine wl rfl (OP.ev rfl rfl (ePk rfl rfl) ?_)
                      refine wl rfl (OP.ev rfl rfl (eNot rfl) ?_)
                      refine wl_nil ?_
                      cases t28 with
                      | true =>
                        try have c_t28 := dt h28
                        first
                        | (exfalso; omega)
                        | (
                          refine wc_else rfl ?_
                          refine wc_skip ?_
                          refine wc_region ?_
                          first | refine wl rfl (OP.ev rfl rfl (eAdd rfl rfl (by omega)) ?_) | refine wl rfl (OP.ev rfl rfl (eAddW rfl rfl) ?_)
                          refine wl rfl (OP.ev rfl rfl (eMv rfl) ?_)
                          refine wl_nil ?_
                          exact ⟨i + 1, ⟨by omega, by rw [List.take_add_one, hc, List.all_append, hall]; simp [okC]; omega⟩, by omega, ⟨rfl, rfl, rfl, trivial⟩, (by repeat (first | exact Sel.all | exact Sel.none | exact Sel.hd | (apply Sel.one; · repeat (first | exact Pick.h | apply Pick.t | apply Pick.app)) | apply Sel.app | (with_reducible apply Sel.grp; · repeat (first | exact PickF.h | apply PickF.t | apply PickF.a)) | (with_reducible refine Sel.nilF (by with_unfolding_all rfl) ?_) | apply Sel.drop | apply Sel.dropF))⟩)
                      | false =>
                        try have c_t28 := df h28
                        first
                        | (exfalso; omega)
                        | (
                          refine wc_then rfl ?_
                          refine wc_seq ?_
                          refine wc_region ?_
                          refine wl rfl (OP.ev rfl rfl (eAs rfl) ?_)
                          refine wl_nil ?_
                          refine wc_ret ?_
                          apply at_ret rfl
                          · exact (.cons (.tmp rfl) .nil)
                          · first
                            | exact ⟨by rw [may_char hc (by simp [okC]; omega)]; rfl, rfl⟩
                            | exact ⟨by
                                rw [List.take_of_length_le (by omega)] at hall
                                unfold may
                                rw [hall, Bool.and_true]
                                first
                                | (rw [decide_eq_false (show ¬ 1 ≤ k.length by omega)]; rfl)
                                | (rw [decide_eq_true (show 1 ≤ k.length by omega), Bool.true_and]; rw [h39]; show Value.bool _ = _; congr 1; apply decide_eq_decide.2; omega), rfl⟩
                          · exact (by repeat (first | exact Sel.all | exact Sel.none | exact Sel.hd | (apply Sel.one; · repeat (first | exact Pick.h | apply Pick.t | apply Pick.app)) | apply Sel.app | (with_reducible apply Sel.grp; · repeat (first | exact PickF.h | apply PickF.t | apply PickF.a)) | (with_reducible refine Sel.nilF (by with_unfolding_all rfl) ?_) | apply Sel.drop | apply Sel.dropF))))
                  | false =>
                    try have c_t25 := df h25
                    first
                    | (exfalso; omega)
                    | (
                      refine wl_skip rfl rfl rfl rfl rfl ?_
                      refine wl_skip rfl rfl rfl rfl rfl ?_
                      refine wl_go rfl rfl (OP.ev rfl rfl (ePk rfl rfl) ?_)
                      refine wl rfl (OP.ev rfl rfl (ePk rfl rfl) ?_)
                      refine wl rfl (OP.ev rfl rfl (eNot rfl) ?_)
                      refine wl_nil ?_
                      refine wc_then rfl ?_
                      refine wc_seq ?_
                      refine wc_region ?_
                      refine wl rfl (OP.ev rfl rfl (eAs rfl) ?_)
                      refine wl_nil ?_
                      refine wc_ret ?_
                      apply at_ret rfl
                      · exact (.cons (.tmp rfl) .nil)
                      · first
                        | exact ⟨by rw [may_char hc (by simp [okC]; omega)]; rfl, rfl⟩
                        | exact ⟨by
                            rw [List.take_of_length_le (by omega)] at hall
                            unfold may
                            rw [hall, Bool.and_true]
                            first
                            | (rw [decide_eq_false (show ¬ 1 ≤ k.length by omega)]; rfl)
                            | (rw [decide_eq_true (show 1 ≤ k.length by omega), Bool.true_and]; rw [h39]; show Value.bool _ = _; congr 1; apply decide_eq_decide.2; omega), rfl⟩
                      · exact (by repeat (first | exact Sel.all | exact Sel.none | exact Sel.hd | (apply Sel.one; · repeat (first | exact Pick.h | apply Pick.t | apply Pick.app)) | apply Sel.app | (with_reducible apply Sel.grp; · repeat (first | exact PickF.h | apply PickF.t | apply PickF.a)) | (with_reducible refine Sel.nilF (by with_unfolding_all rfl) ?_) | apply Sel.drop | apply Sel.dropF)))))
          | false =>
            try have c_t17 := df h17
            first
            | (exfalso; omega)
            | (
              refine wl_skip rfl rfl rfl rfl rfl ?_
              refine wl_skip rfl rfl rfl rfl rfl ?_
              refine wl_go rfl rfl (OP.ev rfl rfl (ePk rfl rfl) ?_)
              refine wl rfl (OP.ev rfl rfl (ePk rfl rfl) ?_)
              refine wl rfl (OP.ev rfl rfl (eMv rfl) ?_)
              refine wl_go rfl rfl (OP.ev rfl rfl (eMv rfl) ?_)
              refine wl_go rfl rfl (OP.evb rfl rfl (eGe rfl rfl) fun t25 h25 => ?_)
              refine wl_go rfl rfl (OP.ev rfl rfl (eMv rfl) ?_)
              cases t25 with
              | true =>
                try have c_t25 := dt h25
                first
                | (exfalso; omega)
                | (
                  refine wl_go rfl rfl (OP.ev rfl rfl (eMv rfl) ?_)
                  refine wl_go rfl rfl (OP.evb rfl rfl (eLe rfl rfl) fun t28 h28 => ?_)
                  refine wl_go rfl rfl (OP.ev rfl rfl (ePk rfl rfl) ?_)
                  refine wl rfl (OP.ev rfl rfl (ePk rfl rfl) ?_)
                  refine wl rfl (OP.ev rfl rfl (eNot rfl) ?_)
                  refine wl_nil ?_
                  cases t28 with
                  | true =>
                    try have c_t28 := dt h28
                    first
                    | (exfalso; omega)
                    | (
                      refine wc_else rfl ?_
                      refine wc_skip ?_
                      refine wc_region ?_
                      first | refine wl rfl (OP.ev rfl rfl (eAdd rfl rfl (by omega)) ?_) | refine wl rfl (OP.ev rfl rfl (eAddW rfl rfl) ?_)
                      refine wl rfl (OP.ev rfl rfl (eMv rfl) ?_)
                      refine wl_nil ?_
                      exact ⟨i + 1, ⟨by omega, by rw [List.take_add_one, hc, List.all_append, hall]; simp [okC]; omega⟩, by omega, ⟨rfl, rfl, rfl, trivial⟩, (by repeat (first | exact Sel.all | exact Sel.none | exact Sel.hd | (apply Sel.one; · repeat (first | exact Pick.h | apply Pick.t | apply Pick.app)) | apply Sel.app | (with_reducible apply Sel.grp; · repeat (first | exact PickF.h | apply PickF.t | apply PickF.a)) | (with_reducible refine Sel.nilF (by with_unfolding_all rfl) ?_) | apply Sel.drop | apply Sel.dropF))⟩)
                  | false =>
                    try have c_t28 := df h28
                    first
                    | (exfalso; omega)
                    | (
                      refine wc_then rfl ?_
                      refine wc_seq ?_
                      refine wc_region ?_
                      refine wl rfl (OP.ev rfl rfl (eAs rfl) ?_)
                      refine wl_nil ?_
                      refine wc_ret ?_
                      apply at_ret rfl
                      · exact (.cons (.tmp rfl) .nil)
                      · first
                        | exact ⟨by rw [may_char hc (by simp [okC]; omega)]; rfl, rfl⟩
                        | exact ⟨by
                            rw [List.take_of_length_le (by omega)] at hall
                            unfold may
                            rw [hall, Bool.and_true]
                            first
                            | (rw [decide_eq_false (show ¬ 1 ≤ k.length by omega)]; rfl)
                            | (rw [decide_eq_true (show 1 ≤ k.length by omega), Bool.true_and]; rw [h39]; show Value.bool _ = _; congr 1; apply decide_eq_decide.2; omega), rfl⟩
                      · exact (by repeat (first | exact Sel.all | exact Sel.none | exact Sel.hd | (apply Sel.one; · repeat (first | exact Pick.h | apply Pick.t | apply Pick.app)) | apply Sel.app | (with_reducible apply Sel.grp; · repeat (first | exact PickF.h | apply PickF.t | apply PickF.a)) | (with_reducible refine Sel.nilF (by with_unfolding_all rfl) ?_) | apply Sel.drop | apply Sel.dropF))))
              | false =>
                try have c_t25 := df h25
                first
                | (exfalso; omega)
                | (
                  refine wl_skip rfl rfl rfl rfl rfl ?_
                  refine wl_skip rfl rfl rfl rfl rfl ?_
                  refine wl_go rfl rfl (OP.ev rfl rfl (ePk rfl rfl) ?_)
                  refine wl rfl (OP.ev rfl rfl (ePk rfl rfl) ?_)
                  refine wl rfl (OP.ev rfl rfl (eNot rfl) ?_)
                  refine wl_nil ?_
                  refine wc_then rfl ?_
                  refine wc_seq ?_
                  refine wc_region ?_
                  refine wl rfl (OP.ev rfl rfl (eAs rfl) ?_)
                  refine wl_nil ?_
                  refine wc_ret ?_
                  apply at_ret rfl
                  · exact (.cons (.tmp rfl) .nil)
                  · first
                    | exact ⟨by rw [may_char hc (by simp [okC]; omega)]; rfl, rfl⟩
                    | exact ⟨by
                        rw [List.take_of_length_le (by omega)] at hall
                        unfold may
                        rw [hall, Bool.and_true]
                        first
                        | (rw [decide_eq_false (show ¬ 1 ≤ k.length by omega)]; rfl)
                        | (rw [decide_eq_true (show 1 ≤ k.length by omega), Bool.true_and]; rw [h39]; show Value.bool _ = _; congr 1; apply decide_eq_decide.2; omega), rfl⟩
                  · exact (by repeat (first | exact Sel.all | exact Sel.none | exact Sel.hd | (apply Sel.one; · repeat (first | exact Pick.h | apply Pick.t | apply Pick.app)) | apply Sel.app | (with_reducible apply Sel.grp; · repeat (first | exact PickF.h | apply PickF.t | apply PickF.a)) | (with_reducible refine Sel.nilF (by with_unfolding_all rfl) ?_) | apply Sel.drop | apply Sel.dropF))))))
  | false =>
    try have c_t8 := df h8
    first
    | (exfalso; omega)
    | (
      refine wc_else rfl ?_
      refine wc_exit rfl ?_
      refine wc_seq ?_
      refine wc_region ?_
      refine wl rfl (OP.ev rfl rfl (eMv rfl) ?_)
      refine wl rfl (OP.ev rfl rfl (eLenK ty9 rfl) ?_)
      refine wl rfl (OP.evb rfl rfl (eGt rfl rfl) fun t35 h35 => ?_)
      refine wl rfl (OP.ev rfl rfl (eMv rfl) ?_)
      cases t35 with
      | true =>
        try have c_t35 := dt h35
        first
        | (exfalso; omega)
        | (
          refine wl_go rfl rfl (OP.ev rfl rfl (eMv rfl) ?_)
          refine wl_go rfl rfl (OP.ev rfl rfl (eLenK ty9 rfl) ?_)
          refine wl_go rfl rfl (OP.evb rfl rfl (eLt rfl rfl) fun t39 h39 => ?_)
          refine wl rfl (OP.ev rfl rfl (ePk rfl rfl) ?_)
          refine wl rfl (OP.ev rfl rfl (eAs rfl) ?_)
          refine wl_nil ?_
          refine wc_ret ?_
          apply at_ret rfl
          · exact (.cons (.tmp rfl) .nil)
          · first
            | exact ⟨by rw [may_char hc (by simp [okC]; omega)]; rfl, rfl⟩
            | exact ⟨by
                rw [List.take_of_length_le (by omega)] at hall
                unfold may
                rw [hall, Bool.and_true]
                first
                | (rw [decide_eq_false (show ¬ 1 ≤ k.length by omega)]; rfl)
                | (rw [decide_eq_true (show 1 ≤ k.length by omega), Bool.true_and]; rw [h39]; show Value.bool _ = _; congr 1; apply decide_eq_decide.2; omega), rfl⟩
          · exact (by repeat (first | exact Sel.all | exact Sel.none | exact Sel.hd | (apply Sel.one; · repeat (first | exact Pick.h | apply Pick.t | apply Pick.app)) | apply Sel.app | (with_reducible apply Sel.grp; · repeat (first | exact PickF.h | apply PickF.t | apply PickF.a)) | (with_reducible refine Sel.nilF (by with_unfolding_all rfl) ?_) | apply Sel.drop | apply Sel.dropF)))
      | false =>
        try have c_t35 := df h35
        first
        | (exfalso; omega)
        | (
          refine wl_skip rfl rfl rfl rfl rfl ?_
          refine wl_skip rfl rfl rfl rfl rfl ?_
          refine wl_skip rfl rfl rfl rfl rfl ?_
          refine wl rfl (OP.ev rfl rfl (ePk rfl rfl) ?_)
          refine wl rfl (OP.ev rfl rfl (eAs rfl) ?_)
          refine wl_nil ?_
          refine wc_ret ?_
          apply at_ret rfl
          · exact (.cons (.tmp rfl) .nil)
          · first
            | exact ⟨by rw [may_char hc (by simp [okC]; omega)]; rfl, rfl⟩
            | exact ⟨by
                rw [List.take_of_length_le (by omega)] at hall
                unfold may
                rw [hall, Bool.and_true]
                first
                | (rw [decide_eq_false (show ¬ 1 ≤ k.length by omega)]; rfl)
                | (rw [decide_eq_true (show 1 ≤ k.length by omega), Bool.true_and]; rw [h39]; show Value.bool _ = _; congr 1; apply decide_eq_decide.2; omega), rfl⟩
          · exact (by repeat (first | exact Sel.all | exact Sel.none | exact Sel.hd | (apply Sel.one; · repeat (first | exact Pick.h | apply Pick.t | apply Pick.app)) | apply Sel.app | (with_reducible apply Sel.grp; · repeat (first | exact PickF.h | apply PickF.t | apply PickF.a)) | (with_reducible refine Sel.nilF (by with_unfolding_all rfl) ?_) | apply Sel.drop | apply Sel.dropF))))

/-- the reference's acts -/
structure RActs (W0 : World) (I : Heap) (av : Value) (acs : Array Value) (ax : List AT) (acts : List Act) : Prop where
  row : Row av acs 5 ax.length (aV ax)
  acts : ax.map (·.2) = acts
  ok : ∀ t ∈ ax, Rs W0 I t.1 1 t.2.B.length (byteV t.2.B) ∧ IsB t.2.B
theorem RActs.sel {av : Value} {acs : Array Value} {ax : List AT} {acts : List Act} (h : RActs W0 I av acs ax acts) (hs : Sel I' I) : RActs W0 I' av acs ax acts := ⟨h.row, h.acts, fun t ht => ⟨(h.ok t ht).1.sel hs, (h.ok t ht).2⟩⟩
theorem RActs.len {av : Value} {acs : Array Value} {ax : List AT} {acts : List Act} (h : RActs W0 I av acs ax acts) : ax.length = acts.length := by rw [← h.acts]; simp
theorem RActs.at {av : Value} {acs : Array Value} {ax : List AT} {acts : List Act} (h : RActs W0 I av acs ax acts) {i : Nat} {t : AT} (ht : ax[i]? = some t) : acts[i]? = some t.2 := by rw [← h.acts]; simp [ht]
theorem RActs.one {av : Value} {acs : Array Value} {ax : List AT} {acts : List Act} (h : RActs W0 I av acs ax acts) {i : Nat} {t : AT} (ht : ax[i]? = some t) : t.1.oneCell' = true := by
  obtain ⟨h2, _⟩ := h.ok t (List.mem_of_getElem? ht)
  obtain ⟨ad, k, c, h4⟩ := h2.isSlice
  rw [h4]; rfl
theorem RActs.nil : RActs W0 I (.slice none 0 0) #[] [] [] := ⟨Row.nil _ _, rfl, by simp⟩
abbrev rkC (b : Nat) (d : DK) (Lv av : Value) (kp tr : Int) : Nat × Obj := (b, .cells #[i64 d.room, Lv, av, .bool d.off, i64 d.left, i64 kp, i64 tr] 86 (0, 0))
/-- the reference's disk in memory -/
def RefR (W0 : World) (I : Heap) (d : DK) (b : Nat) (D : Heap) : Prop :=
  ∃ Lv av acs ax kp tr, D = rkC b d Lv av kp tr :: ownH av acs 92 ∧ FilesV W0 I Lv d.last ∧ RActs W0 I av acs ax d.acts ∧ (d.left ≠ 0 → kp = d.keep ∧ tr = d.tear) ∧ I64 kp ∧ I64 tr
theorem RefR.sel {d : DK} {b : Nat} {D : Heap} (h : RefR W0 I d b D) (hs : Sel I' I) : RefR W0 I' d b D := by
  obtain ⟨Lv, av, acs, ax, kp, tr, h1, h2, h3, h4⟩ := h
  exact ⟨Lv, av, acs, ax, kp, tr, h1, h2.sel hs, h3.sel hs, h4⟩

theorem files_ok (b : Nat) (d : DK) (hd : DOk d) (Lv av : Value) (acs : Array Value) (ax : List AT) (kp tr : Int) (hF : FilesV W0 I Lv d.last) (hA : RActs W0 I av acs ax d.acts) (hn : d.acts.length ≤ 1000000) (R : Heap) :
    FnC W0 Try.prog 57 #[ptr b] (rkC b d Lv av kp tr :: (ownH av acs 92 ++ (I ++ R))) (fun v L' => ∃ I', Sel I' I ∧ FilesV W0 I' v d.seen ∧ L' = rkC b d Lv av kp tr :: (ownH av acs 92 ++ (I' ++ R))) := by
  have hal := hA.len
  refine fn_of Try.func57 rfl Try.ntmps57 rfl rfl ?_
  refine wc_seq ?_
  refine wc_region ?_
  refine wl rfl (OP.ev rfl rfl (eAs rfl) ?_)
  refine wl_nil ?_
  refine wc_seq ?_
  refine wc_region ?_
  refine wl rfl (OP.ev rfl rfl (eMv rfl) ?_)
  refine wl rfl (OP.ev rfl rfl (eNil rfl) ?_)
  refine wl rfl (OP.ev rfl rfl (eFld 1 ty86 rfl rfl ty83 rfl) ?_)
  first | refine wl rfl (OP.ev rfl rfl (eLd ty83 rfl rfl (by repeat (first | exact Has.h | apply Has.t | apply Has.app)) (by rfl)) ?_) | refine wl rfl (OP.ev rfl rfl (eLdO ty83 rfl rfl (by assumption)) ?_)
  refine wl rfl (OP.ev rfl rfl (eAs rfl) ?_)
  refine wl_nil ?_
  refine wc_seq ?_
  refine wc_seq ?_
  refine wc_region ?_
  refine wl rfl (OP.ev rfl rfl (eMv rfl) ?_)
  refine wl rfl (OP.ev rfl rfl (eNil rfl) ?_)
  refine wl rfl (OP.ev rfl rfl (eFld 2 ty86 rfl rfl ty84 rfl) ?_)
  first | refine wl rfl (OP.ev rfl rfl (eLd ty84 rfl rfl (by repeat (first | exact Has.h | apply Has.t | apply Has.app)) (by rfl)) ?_) | refine wl rfl (OP.ev rfl rfl (eLdO ty84 rfl rfl (by assumption)) ?_)
  refine wl rfl (OP.ev rfl rfl (eLenRow ty84 rfl hA.row) ?_)
  refine wl rfl (OP.ev rfl rfl (eMv rfl) ?_)
  refine wl_nil ?_
  refine wc_block ?_
  refine wc_loop (σ := Nat × Value × Heap) (fun q => [(3, q.2.1), (13, av), (14, i64 (ax.length : Int)), (15, i64 (q.1 : Int))]) (fun q => rkC b d Lv av kp tr :: (ownH av acs 92 ++ (q.2.2 ++ R))) (fun q => q.1 ≤ ax.length ∧ Sel q.2.2 I ∧ FilesV W0 q.2.2 q.2.1 ((d.acts.take q.1).foldl fdo d.last)) (fun q => ax.length - q.1) (0, Lv, I) ⟨Nat.zero_le _, Sel.all, hF⟩ ⟨rfl, rfl, rfl, rfl, trivial⟩ (by repeat (first | exact Sel.all | exact Sel.none | exact Sel.hd | (apply Sel.one; · repeat (first | exact Pick.h | apply Pick.t | apply Pick.app)) | apply Sel.app | (with_reducible apply Sel.grp; · repeat (first | exact PickF.h | apply PickF.t | apply PickF.a)) | (with_reducible refine Sel.nilF (by with_unfolding_all rfl) ?_) | apply Sel.drop | apply Sel.dropF)) ?_
  rintro ⟨i, v, I2⟩ ⟨hi, hI2, hFv⟩
  dsimp only at hi hI2 hFv ⊢
  refine wc_seq ?_
  refine wc_region ?_
  refine wl rfl (OP.evb rfl rfl (eLt rfl rfl) fun t16 h16 => ?_)
  refine wl_nil ?_
  refine wc_seq ?_
  cases t16 with
  | true =>
    try have c_t16 := dt h16
    first
    | (exfalso; omega)
    | (
      refine wc_then rfl ?_
      refine wc_skip ?_
      refine wc_seq ?_
      refine wc_block ?_
      refine wc_seq ?_
      obtain ⟨t, ht⟩ : ∃ t, ax[i]? = some t := ⟨_, List.getElem?_eq_getElem (by omega)⟩
      have hat := hA.at ht
      have hon := hA.one ht
      obtain ⟨htr, htb⟩ := hA.ok t (List.mem_of_getElem? ht)
      have hlen := hd.act_len (List.mem_of_getElem? hat)
      have hcan := hd.runs.at hat
      have htot : total ((d.acts.take i).foldl fdo d.last) ≤ 16777216 := by
        have h1 := (hd.runs.take i).total hd.rl
        have h2 := costs_take d.acts i
        have h3 := hd.use
        have h4 := hd.room
        omega
      have hnum := (hd.runs.take i).num hd.num
      have hgl := fgetD_le ((hd.runs.take i).rising hd.rl) t.2.name
      refine wc_region ?_
      refine wl rfl (OP.ev rfl rfl (eIxS ty84 ty92 rfl (hA.row.rs (by repeat (first | exact At.cell | exact At.h | apply At.t | apply At.a))) rfl (by omega) (by omega)) ?_)
      refine wl rfl (OP.ev rfl rfl (eLdSA (vs := (aC t.2 t.1).toList) ty92 rfl rfl (hA.row.rs (by repeat (first | exact At.cell | exact At.h | apply At.t | apply At.a))) (i * 5) (by omega) rfl (aV_at ht) (by decide)) ?_)
      refine wl rfl (oAl rfl ty92 rfl fun b5 => ?_)
      refine wl rfl (oStW ty92 rfl rfl rfl (aC_one hon) (by repeat (first | exact Upd.h | apply Upd.t | apply Upd.app)) (by rfl) ?_)
      refine wl_nil ?_
      refine wc_region ?_
      refine wl rfl (OP.ev rfl rfl (eMv rfl) ?_)
      first | refine wl rfl (OP.ev rfl rfl (eLdW ty92 rfl rfl (by repeat (first | exact Has.h | apply Has.t | apply Has.app)) (by rfl)) ?_) | refine wl rfl (OP.ev rfl rfl (eLdA (vs := [_, _, _, _, _]) ty92 rfl rfl (by repeat (first | exact Has.h | apply Has.t | apply Has.app)) (by rfl) (by rfl)) ?_) | refine wl rfl (OP.ev rfl rfl (eLdAO ty92 rfl rfl (by assumption) (by assumption)) ?_)
      refine wl rfl (oC rfl pf73 rfl (do73_ok v _ t.2 t.1 _ hFv (htr.sel hI2) htb (by omega) hcan hlen (by omega)) (by repeat (first | exact Sel.all | exact Sel.none | exact Sel.hd | (apply Sel.one; · repeat (first | exact Pick.h | apply Pick.t | apply Pick.app)) | apply Sel.app | (with_reducible apply Sel.grp; · repeat (first | exact PickF.h | apply PickF.t | apply PickF.a)) | (with_reducible refine Sel.nilF (by with_unfolding_all rfl) ?_) | apply Sel.drop | apply Sel.dropF)) ?_)
      rintro _ _ ⟨I3, hI3, hF3, rfl⟩
      refine wl rfl (OP.ev rfl rfl (eAs rfl) ?_)
      refine wl_nil ?_
      refine wc_region ?_
      first | refine wl rfl (OP.ev rfl rfl (eAdd rfl rfl (by omega)) ?_) | refine wl rfl (OP.ev rfl rfl (eAddW rfl rfl) ?_)
      refine wl rfl (OP.ev rfl rfl (eMv rfl) ?_)
      refine wl_nil ?_
      exact ⟨(i + 1, _, I3), ⟨by show i + 1 ≤ _; omega, hI3.trans hI2, by show FilesV W0 I3 _ ((d.acts.take (i + 1)).foldl fdo d.last); rw [List.take_add_one, hat, List.foldl_append]; exact hF3⟩, by show _ - (i + 1) < _; omega, ⟨rfl, rfl, rfl, rfl, trivial⟩, (by repeat (first | exact Sel.all | exact Sel.none | exact Sel.hd | (apply Sel.one; · repeat (first | exact Pick.h | apply Pick.t | apply Pick.app)) | apply Sel.app | (with_reducible apply Sel.grp; · repeat (first | exact PickF.h | apply PickF.t | apply PickF.a)) | (with_reducible refine Sel.nilF (by with_unfolding_all rfl) ?_) | apply Sel.drop | apply Sel.dropF))⟩)
  | false =>
    try have c_t16 := df h16
    first
    | (exfalso; omega)
    | (
      refine wc_else rfl ?_
      refine wc_exit rfl ?_
      refine wc_seq ?_
      refine wc_region ?_
      refine wl rfl (OP.ev rfl rfl (eMv rfl) ?_)
      refine wl rfl (OP.ev rfl rfl (eAs rfl) ?_)
      refine wl_nil ?_
      refine wc_ret ?_
      apply at_ret rfl
      · exact (.cons (.tmp rfl) .nil)
      · exact ⟨I2, hI2, by rw [List.take_of_length_le (by omega), hd.runs.foldl] at hFv; exact hFv, rfl⟩
      · exact (by repeat (first | exact Sel.all | exact Sel.none | exact Sel.hd | (apply Sel.one; · repeat (first | exact Pick.h | apply Pick.t | apply Pick.app)) | apply Sel.app | (with_reducible apply Sel.grp; · repeat (first | exact PickF.h | apply PickF.t | apply PickF.a)) | (with_reducible refine Sel.nilF (by with_unfolding_all rfl) ?_) | apply Sel.drop | apply Sel.dropF)))

theorem why_ok (b : Nat) (d : DK) (hd : DOk d) (k : Nm) (hkl : k.length ≤ 9223372036854775807) (D R : Heap) (hD : RefR W0 I d b D) (hn : d.acts.length ≤ 1000000) :
    FnC W0 Try.prog 55 #[ptr b, strK k] (D ++ (I ++ R)) (fun v L' => v = i64 (d.find k) ∧ ∃ I', Sel I' I ∧ L' = D ++ (I' ++ R)) := by
  obtain ⟨Lv, av, acs, ax, kp, tr, rfl, hF, hA, hkt, hk64, ht64⟩ := hD
  have hsn := hd.snum
  rcases ho : d.off with _ | _
  · simp only [List.cons_append]
    refine fn_of Try.func55 rfl Try.ntmps55 rfl rfl ?_
    refine wc_seq ?_
    refine wc_region ?_
    refine wl rfl (OP.ev rfl rfl (eAs rfl) ?_)
    refine wl_nil ?_
    refine wc_seq ?_
    refine wc_seq ?_
    refine wc_region ?_
    refine wl rfl (OP.ev rfl rfl (eMv rfl) ?_)
    refine wl rfl (OP.ev rfl rfl (eNil rfl) ?_)
    refine wl rfl (OP.ev rfl rfl (eFld 3 ty86 rfl rfl ty4 rfl) ?_)
    refine wl rfl (OP.ev rfl rfl (eLd (v := .bool false) ty4 rfl rfl (by repeat (first | exact Has.h | apply Has.t | apply Has.app)) (by show some (Value.bool d.off) = _; rw [ho])) ?_)
    refine wl_nil ?_
    refine wc_else rfl ?_
    refine wc_skip ?_
    refine wc_seq ?_
    refine wc_seq ?_
    refine wc_region ?_
    refine wl rfl (OP.ev rfl rfl (eMv rfl) ?_)
    refine wl rfl (oCA rfl pf59 rfl (name59_ok k _ hkl) ?_)
    rintro _ _ ⟨rfl, rfl⟩
    refine wl rfl (OP.evb rfl rfl (eNot rfl) fun t13 h13 => ?_)
    refine wl_nil ?_
    cases t13 with
    | true =>
      try have c_t13 := dt h13
      first
      | (exfalso; omega)
      | (
        refine wc_then rfl ?_
        refine wc_seq ?_
        refine wc_region ?_
        refine wl rfl (OP.ev rfl rfl (eAs rfl) ?_)
        refine wl_nil ?_
        refine wc_ret ?_
        apply at_ret rfl
        · exact (.cons (.tmp rfl) .nil)
        · first
          | exact ⟨by rw [find_bad ho (by simpa using h13)]; rfl, I, Sel.all, rfl⟩
          | exact ⟨by rw [find_away ho (by simpa using h13) (by simpa using h22)]; rfl, I2, hI2, (rfl : rkC b d Lv av kp tr :: (ownH av acs 92 ++ (I2 ++ R)) = _)⟩
          | exact ⟨by
              cases hg : fget d.seen k with
              | none => rw [hg] at h22; simp at h22
              | some x => rw [find_here ho (by simpa using h13) hg]; rfl, I2, hI2, (rfl : rkC b d Lv av kp tr :: (ownH av acs 92 ++ (I2 ++ R)) = _)⟩
        · exact (by repeat (first | exact Sel.all | exact Sel.none | exact Sel.hd | (apply Sel.one; · repeat (first | exact Pick.h | apply Pick.t | apply Pick.app)) | apply Sel.app | (with_reducible apply Sel.grp; · repeat (first | exact PickF.h | apply PickF.t | apply PickF.a)) | (with_reducible refine Sel.nilF (by with_unfolding_all rfl) ?_) | apply Sel.drop | apply Sel.dropF)))
    | false =>
      try have c_t13 := df h13
      first
      | (exfalso; omega)
      | (
        refine wc_else rfl ?_
        refine wc_skip ?_
        refine wc_seq ?_
        refine wc_seq ?_
        refine wc_region ?_
        refine wl rfl (OP.ev rfl rfl (eMv rfl) ?_)
        refine wl rfl (oC rfl pf57 rfl (files_ok b d hd Lv av acs ax kp tr hF hA hn _) (by repeat (first | exact Sel.all | exact Sel.none | exact Sel.hd | (apply Sel.one; · repeat (first | exact Pick.h | apply Pick.t | apply Pick.app)) | apply Sel.app | (with_reducible apply Sel.grp; · repeat (first | exact PickF.h | apply PickF.t | apply PickF.a)) | (with_reducible refine Sel.nilF (by with_unfolding_all rfl) ?_) | apply Sel.drop | apply Sel.dropF)) ?_)
        rintro _ _ ⟨I2, hI2, hF2, rfl⟩
        refine wl rfl (OP.ev rfl rfl (eMv rfl) ?_)
        refine wl rfl (oC rfl pf56 rfl (get_ok _ d.seen k _ hF2 (by omega)) (by repeat (first | exact Sel.all | exact Sel.none | exact Sel.hd | (apply Sel.one; · repeat (first | exact Pick.h | apply Pick.t | apply Pick.app)) | apply Sel.app | (with_reducible apply Sel.grp; · repeat (first | exact PickF.h | apply PickF.t | apply PickF.a)) | (with_reducible refine Sel.nilF (by with_unfolding_all rfl) ?_) | apply Sel.drop | apply Sel.dropF)) ?_)
        rintro _ _ ⟨w, rfl, hw, hwB, rfl⟩
        refine wl rfl (OP.ev rfl rfl (eMv rfl) ?_)
        refine wl rfl (OP.ev rfl rfl (eExt rfl rfl) ?_)
        refine wl rfl (OP.ev rfl rfl (eExt rfl rfl) ?_)
        refine wl rfl (OP.ev rfl rfl (eAs rfl) ?_)
        refine wl rfl (OP.ev rfl rfl (eAs rfl) ?_)
        refine wl_nil ?_
        refine wc_seq ?_
        refine wc_region ?_
        refine wl rfl (OP.ev rfl rfl (eMv rfl) ?_)
        refine wl rfl (OP.evb rfl rfl (eNot rfl) fun t22 h22 => ?_)
        refine wl_nil ?_
        cases t22 with
        | true =>
          try have c_t22 := dt h22
          first
          | (exfalso; omega)
          | (
            refine wc_then rfl ?_
            refine wc_seq ?_
            refine wc_region ?_
            refine wl rfl (OP.ev rfl rfl (eAs rfl) ?_)
            refine wl_nil ?_
            refine wc_ret ?_
            apply at_ret rfl
            · exact (.cons (.tmp rfl) .nil)
            · first
              | exact ⟨by rw [find_bad ho (by simpa using h13)]; rfl, I, Sel.all, rfl⟩
              | exact ⟨by rw [find_away ho (by simpa using h13) (by simpa using h22)]; rfl, I2, hI2, (rfl : rkC b d Lv av kp tr :: (ownH av acs 92 ++ (I2 ++ R)) = _)⟩
              | exact ⟨by
                  cases hg : fget d.seen k with
                  | none => rw [hg] at h22; simp at h22
                  | some x => rw [find_here ho (by simpa using h13) hg]; rfl, I2, hI2, (rfl : rkC b d Lv av kp tr :: (ownH av acs 92 ++ (I2 ++ R)) = _)⟩
            · exact (by repeat (first | exact Sel.all | exact Sel.none | exact Sel.hd | (apply Sel.one; · repeat (first | exact Pick.h | apply Pick.t | apply Pick.app)) | apply Sel.app | (with_reducible apply Sel.grp; · repeat (first | exact PickF.h | apply PickF.t | apply PickF.a)) | (with_reducible refine Sel.nilF (by with_unfolding_all rfl) ?_) | apply Sel.drop | apply Sel.dropF)))
        | false =>
          try have c_t22 := df h22
          first
          | (exfalso; omega)
          | (
            refine wc_else rfl ?_
            refine wc_skip ?_
            refine wc_seq ?_
            refine wc_region ?_
            refine wl rfl (OP.ev rfl rfl (eAs rfl) ?_)
            refine wl_nil ?_
            refine wc_ret ?_
            apply at_ret rfl
            · exact (.cons (.tmp rfl) .nil)
            · first
              | exact ⟨by rw [find_bad ho (by simpa using h13)]; rfl, I, Sel.all, rfl⟩
              | exact ⟨by rw [find_away ho (by simpa using h13) (by simpa using h22)]; rfl, I2, hI2, (rfl : rkC b d Lv av kp tr :: (ownH av acs 92 ++ (I2 ++ R)) = _)⟩
              | exact ⟨by
                  cases hg : fget d.seen k with
                  | none => rw [hg] at h22; simp at h22
                  | some x => rw [find_here ho (by simpa using h13) hg]; rfl, I2, hI2, (rfl : rkC b d Lv av kp tr :: (ownH av acs 92 ++ (I2 ++ R)) = _)⟩
            · exact (by repeat (first | exact Sel.all | exact Sel.none | exact Sel.hd | (apply Sel.one; · repeat (first | exact Pick.h | apply Pick.t | apply Pick.app)) | apply Sel.app | (with_reducible apply Sel.grp; · repeat (first | exact PickF.h | apply PickF.t | apply PickF.a)) | (with_reducible refine Sel.nilF (by with_unfolding_all rfl) ?_) | apply Sel.drop | apply Sel.dropF))))
  · simp only [List.cons_append]
    refine fn_of Try.func55 rfl Try.ntmps55 rfl rfl ?_
    refine wc_seq ?_
    refine wc_region ?_
    refine wl rfl (OP.ev rfl rfl (eAs rfl) ?_)
    refine wl_nil ?_
    refine wc_seq ?_
    refine wc_seq ?_
    refine wc_region ?_
    refine wl rfl (OP.ev rfl rfl (eMv rfl) ?_)
    refine wl rfl (OP.ev rfl rfl (eNil rfl) ?_)
    refine wl rfl (OP.ev rfl rfl (eFld 3 ty86 rfl rfl ty4 rfl) ?_)
    refine wl rfl (OP.ev rfl rfl (eLd (v := .bool true) ty4 rfl rfl (by repeat (first | exact Has.h | apply Has.t | apply Has.app)) (by show some (Value.bool d.off) = _; rw [ho])) ?_)
    refine wl_nil ?_
    refine wc_then rfl ?_
    refine wc_seq ?_
    refine wc_region ?_
    refine wl rfl (OP.ev rfl rfl (eAs rfl) ?_)
    refine wl_nil ?_
    refine wc_ret ?_
    apply at_ret rfl
    · exact (.cons (.tmp rfl) .nil)
    · exact ⟨by unfold DK.find; rw [if_pos ho]; rfl, I, Sel.all, rfl⟩
    · exact (by repeat (first | exact Sel.all | exact Sel.none | exact Sel.hd | (apply Sel.one; · repeat (first | exact Pick.h | apply Pick.t | apply Pick.app)) | apply Sel.app | (with_reducible apply Sel.grp; · repeat (first | exact PickF.h | apply PickF.t | apply PickF.a)) | (with_reducible refine Sel.nilF (by with_unfolding_all rfl) ?_) | apply Sel.drop | apply Sel.dropF))

theorem hit_ok (b : Nat) (d : DK) (Lv av : Value) (kp tr : Int) (hl : 0 ≤ d.left ∧ d.left < 9223372036854775808) (R : Heap) :
    FnC W0 Try.prog 60 #[ptr b] (rkC b d Lv av kp tr :: R) (fun v L' => v = .bool d.hit ∧ L' = rkC b d.less Lv av kp tr :: R) := by
  refine fn_of Try.func60 rfl Try.ntmps60 rfl rfl ?_
  refine wc_seq ?_
  refine wc_region ?_
  refine wl rfl (OP.ev rfl rfl (eAs rfl) ?_)
  refine wl_nil ?_
  refine wc_seq ?_
  refine wc_seq ?_
  refine wc_region ?_
  refine wl rfl (OP.ev rfl rfl (eMv rfl) ?_)
  refine wl rfl (OP.ev rfl rfl (eNil rfl) ?_)
  refine wl rfl (OP.ev rfl rfl (eFld 4 ty86 rfl rfl ty3 rfl) ?_)
  first | refine wl rfl (OP.ev rfl rfl (eLd ty3 rfl rfl (by repeat (first | exact Has.h | apply Has.t | apply Has.app)) (by rfl)) ?_) | refine wl rfl (OP.ev rfl rfl (eLdO ty3 rfl rfl (by assumption)) ?_)
  refine wl rfl (OP.evb rfl rfl (eEq rfl rfl) fun t7 h7 => ?_)
  refine wl_nil ?_
  cases t7 with
  | true =>
    try have c_t7 := dt h7
    first
    | (exfalso; omega)
    | (
      refine wc_then rfl ?_
      refine wc_seq ?_
      refine wc_region ?_
      refine wl rfl (OP.ev rfl rfl (eAs rfl) ?_)
      refine wl_nil ?_
      refine wc_ret ?_
      apply at_ret rfl
      · exact (.cons (.tmp rfl) .nil)
      · first
        | exact ⟨by show Value.bool false = _; unfold DK.hit; rw [decide_eq_false (by omega)], by show _ = rkC b d.less Lv av kp tr :: R; unfold DK.less; rw [if_pos (by omega), show (0 : Int) = d.left by omega]⟩
        | exact ⟨by show Value.bool _ = _; unfold DK.hit; rw [h19]; congr 1; apply decide_eq_decide.2; omega, by show _ = rkC b d.less Lv av kp tr :: R; unfold DK.less; rw [if_neg (by omega)]⟩
      · exact (by repeat (first | exact Sel.all | exact Sel.none | exact Sel.hd | (apply Sel.one; · repeat (first | exact Pick.h | apply Pick.t | apply Pick.app)) | apply Sel.app | (with_reducible apply Sel.grp; · repeat (first | exact PickF.h | apply PickF.t | apply PickF.a)) | (with_reducible refine Sel.nilF (by with_unfolding_all rfl) ?_) | apply Sel.drop | apply Sel.dropF)))
  | false =>
    try have c_t7 := df h7
    first
    | (exfalso; omega)
    | (
      refine wc_else rfl ?_
      refine wc_skip ?_
      refine wc_seq ?_
      refine wc_region ?_
      refine wl rfl (OP.ev rfl rfl (eMv rfl) ?_)
      refine wl rfl (OP.ev rfl rfl (eNil rfl) ?_)
      refine wl rfl (OP.ev rfl rfl (eFld 4 ty86 rfl rfl ty3 rfl) ?_)
      first | refine wl rfl (OP.ev rfl rfl (eLd ty3 rfl rfl (by repeat (first | exact Has.h | apply Has.t | apply Has.app)) (by rfl)) ?_) | refine wl rfl (OP.ev rfl rfl (eLdO ty3 rfl rfl (by assumption)) ?_)
      first | refine wl rfl (OP.ev rfl rfl (eSub rfl rfl (by omega)) ?_) | refine wl rfl (OP.ev rfl rfl (eSubW rfl rfl) ?_)
      refine wl rfl (OP.ev rfl rfl (eNil rfl) ?_)
      refine wl rfl (OP.ev rfl rfl (eFld 4 ty86 rfl rfl ty3 rfl) ?_)
      refine wl rfl (oSt ty3 rfl rfl rfl rfl (by repeat (first | exact Upd.h | apply Upd.t | apply Upd.app)) (by first | decide | simp) (by rfl) ?_)
      refine wl_nil ?_
      refine wc_seq ?_
      refine wc_region ?_
      refine wl rfl (OP.ev rfl rfl (eMv rfl) ?_)
      refine wl rfl (OP.ev rfl rfl (eNil rfl) ?_)
      refine wl rfl (OP.ev rfl rfl (eFld 4 ty86 rfl rfl ty3 rfl) ?_)
      first | refine wl rfl (OP.ev rfl rfl (eLd ty3 rfl rfl (by repeat (first | exact Has.h | apply Has.t | apply Has.app)) (by rfl)) ?_) | refine wl rfl (OP.ev rfl rfl (eLdO ty3 rfl rfl (by assumption)) ?_)
      refine wl rfl (OP.evb rfl rfl (eEq rfl rfl) fun t19 h19 => ?_)
      refine wl rfl (OP.ev rfl rfl (eAs rfl) ?_)
      refine wl_nil ?_
      refine wc_ret ?_
      apply at_ret rfl
      · exact (.cons (.tmp rfl) .nil)
      · first
        | exact ⟨by show Value.bool false = _; unfold DK.hit; rw [decide_eq_false (by omega)], by show _ = rkC b d.less Lv av kp tr :: R; unfold DK.less; rw [if_pos (by omega), show (0 : Int) = d.left by omega]⟩
        | exact ⟨by show Value.bool _ = _; unfold DK.hit; rw [h19]; congr 1; apply decide_eq_decide.2; omega, by show _ = rkC b d.less Lv av kp tr :: R; unfold DK.less; rw [if_neg (by omega)]⟩
      · exact (by repeat (first | exact Sel.all | exact Sel.none | exact Sel.hd | (apply Sel.one; · repeat (first | exact Pick.h | apply Pick.t | apply Pick.app)) | apply Sel.app | (with_reducible apply Sel.grp; · repeat (first | exact PickF.h | apply PickF.t | apply PickF.a)) | (with_reducible refine Sel.nilF (by with_unfolding_all rfl) ?_) | apply Sel.drop | apply Sel.dropF)))
end Go.Proofs.Ytahjgjmemijofaa
