/- The contracts of the reference's table: Keep and Open. -/
import Derived.Test.YtbppeijcfkdhjaaRef2
namespace Go.Proofs.Ytbppeijcfkdhjaa
open Go Eng
set_option linter.unusedVariables false
set_option maxRecDepth 4000
variable {W0 : World}

theorem flat_set {l : List Seat} {j : Nat} (hj : j < l.length) (s : Seat) : flat (l.set j s) = (flat l).take (j * 11) ++ ((sC s).toList ++ (flat l).drop (j * 11 + 11)) := by
  have hlen := flat_len (l.take j)
  rw [List.length_take, Nat.min_eq_left (by omega)] at hlen
  have e0 : l = l.take j ++ l[j]'hj :: l.drop (j + 1) := by rw [← List.drop_eq_getElem_cons hj, List.take_append_drop]
  have e1 : flat l = flat (l.take j) ++ ((sC (l[j]'hj)).toList ++ flat (l.drop (j + 1))) := (congrArg flat e0).trans (by unfold flat; rw [List.flatMap_append, List.flatMap_cons])
  have e2 : (flat l).take (j * 11) = flat (l.take j) := by rw [e1, List.take_left' hlen]
  have e3 : (flat l).drop (j * 11 + 11) = flat (l.drop (j + 1)) := by
    have h1 : ((flat l).drop (j * 11)).drop 11 = flat (l.drop (j + 1)) := by
      rw [e1, List.drop_left' hlen]; exact List.drop_left' rfl
    rw [List.drop_drop] at h1; exact h1
  rw [List.set_eq_take_append_cons_drop, if_pos hj, e2, e3]
  simp [flat]

theorem Eng.Row.setSeat {b cap : Nat} {cs : Array Value} {l : List Seat} (h : Row (.slice (some ⟨b, 0, none⟩) l.length cap) cs 11 l.length (flat l)) {j : Nat} (hj : j < l.length) (s : Seat) :
    Row (.slice (some ⟨b, 0, none⟩) l.length cap) (seg cs (j * 11) (sC s).toList) 11 (l.set j s).length (flat (l.set j s)) := by
  obtain ⟨h1, h2⟩ := h
  rcases h2 with ⟨h3, _⟩ | ⟨b', cap', h3, h4, h5, h6⟩
  · cases h3
  · cases h3
    have hsz : cs.toList.length = cap * 11 := by simpa using h5
    have hle : j * 11 + 11 ≤ l.length * 11 := by omega
    have hle2 : l.length * 11 ≤ cap * 11 := Nat.mul_le_mul_right _ h4
    have hl11 : (sC s).toList.length = 11 := rfl
    refine ⟨by rw [flat_len], .inr ⟨b, cap, by rw [List.length_set], by rw [List.length_set]; exact h4, ?_, ?_⟩⟩
    · unfold seg
      simp only [List.size_toArray, List.length_append, List.length_take, List.length_drop, hl11, hsz]; omega
    · rw [List.length_set, flat_set hj, ← h6]
      unfold seg
      simp only [hl11]
      rw [List.append_assoc, List.take_append, List.take_of_length_le (by simp; omega), List.take_take, Nat.min_eq_left (by omega)]
      congr 1
      have e3 : (cs.toList.take (j * 11)).length = j * 11 := by rw [List.length_take]; omega
      rw [e3, List.take_append, List.take_of_length_le (by omega)]
      congr 1
      rw [hl11, List.drop_take]
      congr 1

def keep1 (l : List Seat) (k n a : Int) (r : Reply) : Int × List Seat :=
  if (askO (lg l k) n).2.2 ≠ 0 then ((askO (lg l k) n).2.2, l)
  else if (askO (lg l k) n).2.1 = true then (81, l)
  else if ¬ (1 ≤ a ∧ a ≤ 1099511627776) ∨ n > 1099511627776 ∨ checkR r ≠ 0 then (1, l)
  else (0, l.set (pl l k).toNat ⟨k, n, a, r⟩)

theorem rkeep_ok (b : Nat) (v : Value) (cs : Array Value) (l : List Seat) (k n a : Int) (rp : Reply) (hrow : Row v cs 11 l.length (flat l)) (hl : l.length ≤ 1048576) (hq : ∀ s ∈ l, 0 ≤ s.seq ∧ s.seq ≤ 1099511627776) (hn : -9223372036854775808 ≤ n ∧ n < 9223372036854775808) (R : Heap) :
    FnC W0 Try.prog 22 #[ptr b, i64 k, i64 n, i64 a, .agg (rC rp)] (xC b v :: (ownH v cs 35 ++ R)) (fun v' L' => ∃ c l' w cs', keep1 l k n a rp = (c, l') ∧ v' = i64 c ∧ Row w cs' 11 l'.length (flat l') ∧ L' = xC b w :: (ownH w cs' 35 ++ R)) := by
  obtain ⟨q1, q2, q3, hq0⟩ : ∃ q1 q2 q3, askO (lg l k) n = (q1, q2, q3) := ⟨_, _, _, rfl⟩
  have hask : ∀ R : Heap, FnC W0 Try.prog 20 #[ptr b, i64 k, i64 n] (xC b v :: (ownH v cs 35 ++ R)) (fun v' L' => v' = .tuple #[.agg (rC q1), .bool q2, i64 q3] ∧ L' = xC b v :: (ownH v cs 35 ++ R)) := by
    intro R
    have := rask_ok (W0 := W0) b v cs l k n hrow hl hq hn R
    rw [hq0] at this; exact this
  have e := Eq.refl (keep1 l k n a rp)
  conv at e => rhs; unfold keep1
  simp only [hq0] at e
  refine fn_of Try.func22 rfl Try.ntmps22 rfl rfl ?_
  refine wc_seq ?_
  refine wc_region ?_
  refine wl rfl (oBox rfl rfl rfl fun b9 => ?_)
  refine wl rfl (OP.ev rfl rfl (eAs rfl) ?_)
  refine wl_nil ?_
  refine wc_seq ?_
  refine wc_region ?_
  refine wl rfl (OP.ev rfl rfl (eMv rfl) ?_)
  refine wl rfl (OP.ev rfl rfl (eMv rfl) ?_)
  refine wl rfl (OP.ev rfl rfl (eMv rfl) ?_)
  refine wl rfl (oC rfl pf20 rfl (hask _) (by repeat (first | exact Sel.all | exact Sel.none | (apply Sel.one; · repeat (first | exact Pick.h | apply Pick.t | apply Pick.app)) | apply Sel.app | (with_reducible apply Sel.grp; · repeat (first | exact PickF.h | apply PickF.t | apply PickF.a)) | (with_reducible refine Sel.nilF (by with_unfolding_all rfl) ?_) | apply Sel.drop | apply Sel.dropF)) ?_)
  rintro _ _ ⟨rfl, rfl⟩
  refine wl rfl (OP.ev rfl rfl (eMv rfl) ?_)
  refine wl rfl (OP.ev rfl rfl (eExt rfl rfl) ?_)
  refine wl rfl (OP.ev rfl rfl (eExt rfl rfl) ?_)
  refine wl rfl (OP.ev rfl rfl (eExt rfl rfl) ?_)
  refine wl rfl (oAl rfl ty33 rfl fun b11 => ?_)
  refine wl rfl (oStW ty33 rfl rfl rfl rfl (by repeat (first | exact Upd.h | apply Upd.t | apply Upd.app)) (by rfl) ?_)
  refine wl rfl (OP.ev rfl rfl (eAs rfl) ?_)
  refine wl rfl (OP.ev rfl rfl (eAs rfl) ?_)
  refine wl_nil ?_
  refine wc_seq ?_
  refine wc_seq ?_
  refine wc_region ?_
  refine wl rfl (OP.ev rfl rfl (eMv rfl) ?_)
  refine wl rfl (OP.evb rfl rfl (eNe rfl rfl) fun t24 h24 => ?_)
  refine wl_nil ?_
  cases t24 with
  | true =>
    try have c_t24 := dt h24
    first
    | (exfalso; omega)
    | (
      refine wc_then rfl ?_
      refine wc_seq ?_
      refine wc_region ?_
      refine wl rfl (OP.ev rfl rfl (eMv rfl) ?_)
      refine wl rfl (OP.ev rfl rfl (eAs rfl) ?_)
      refine wl_nil ?_
      refine wc_ret ?_
      apply at_ret rfl
      · exact (.cons (.tmp rfl) .nil)
      · repeat (first | rw [if_pos (by omega)] at e | rw [if_neg (by omega)] at e | rw [if_neg Bool.false_ne_true] at e | rw [if_pos (Eq.refl true)] at e)
        first | exact ⟨_, _, v, cs, e, rfl, hrow, rfl⟩ | exact ⟨_, _, .slice (some ⟨b14, 0, none⟩) l.length cap14, cs14', e, rfl, hrow14', rfl⟩
      · exact (by repeat (first | exact Sel.all | exact Sel.none | (apply Sel.one; · repeat (first | exact Pick.h | apply Pick.t | apply Pick.app)) | apply Sel.app | (with_reducible apply Sel.grp; · repeat (first | exact PickF.h | apply PickF.t | apply PickF.a)) | (with_reducible refine Sel.nilF (by with_unfolding_all rfl) ?_) | apply Sel.drop | apply Sel.dropF)))
  | false =>
    try have c_t24 := df h24
    first
    | (exfalso; omega)
    | (
      refine wc_else rfl ?_
      refine wc_skip ?_
      refine wc_seq ?_
      refine wc_seq ?_
      refine wc_region ?_
      refine wl rfl (OP.ev rfl rfl (eMv rfl) ?_)
      refine wl_nil ?_
      cases q2 with
      | true =>
        first
        | (exfalso; omega)
        | (
          refine wc_then rfl ?_
          refine wc_seq ?_
          refine wc_region ?_
          refine wl rfl (OP.ev rfl rfl (eAs rfl) ?_)
          refine wl_nil ?_
          refine wc_ret ?_
          apply at_ret rfl
          · exact (.cons (.tmp rfl) .nil)
          · repeat (first | rw [if_pos (by omega)] at e | rw [if_neg (by omega)] at e | rw [if_neg Bool.false_ne_true] at e | rw [if_pos (Eq.refl true)] at e)
            first | exact ⟨_, _, v, cs, e, rfl, hrow, rfl⟩ | exact ⟨_, _, .slice (some ⟨b14, 0, none⟩) l.length cap14, cs14', e, rfl, hrow14', rfl⟩
          · exact (by repeat (first | exact Sel.all | exact Sel.none | (apply Sel.one; · repeat (first | exact Pick.h | apply Pick.t | apply Pick.app)) | apply Sel.app | (with_reducible apply Sel.grp; · repeat (first | exact PickF.h | apply PickF.t | apply PickF.a)) | (with_reducible refine Sel.nilF (by with_unfolding_all rfl) ?_) | apply Sel.drop | apply Sel.dropF)))
      | false =>
        first
        | (exfalso; omega)
        | (
          refine wc_else rfl ?_
          refine wc_skip ?_
          refine wc_seq ?_
          refine wc_seq ?_
          refine wc_region ?_
          refine wl rfl (OP.ev rfl rfl (eMv rfl) ?_)
          refine wl rfl (OP.evb rfl rfl (eLt rfl rfl) fun t28 h28 => ?_)
          refine wl rfl (OP.ev rfl rfl (eMv rfl) ?_)
          cases t28 with
          | true =>
            try have c_t28 := dt h28
            first
            | (exfalso; omega)
            | (
              refine wl_skip rfl rfl rfl rfl rfl ?_
              refine wl_skip rfl rfl rfl rfl rfl ?_
              refine wl rfl (OP.ev rfl rfl (ePk rfl rfl) ?_)
              refine wl rfl (OP.ev rfl rfl (eMv rfl) ?_)
              refine wl_skip rfl rfl rfl rfl rfl ?_
              refine wl_skip rfl rfl rfl rfl rfl ?_
              refine wl rfl (OP.ev rfl rfl (ePk rfl rfl) ?_)
              refine wl rfl (OP.ev rfl rfl (eMv rfl) ?_)
              refine wl_skip rfl rfl rfl rfl rfl ?_
              refine wl_skip rfl rfl rfl rfl rfl ?_
              refine wl_skip rfl rfl rfl rfl rfl ?_
              refine wl rfl (OP.ev rfl rfl (ePk rfl rfl) ?_)
              refine wl_nil ?_
              refine wc_then rfl ?_
              refine wc_seq ?_
              refine wc_region ?_
              refine wl rfl (OP.ev rfl rfl (eAs rfl) ?_)
              refine wl_nil ?_
              refine wc_ret ?_
              apply at_ret rfl
              · exact (.cons (.tmp rfl) .nil)
              · repeat (first | rw [if_pos (by omega)] at e | rw [if_neg (by omega)] at e | rw [if_neg Bool.false_ne_true] at e | rw [if_pos (Eq.refl true)] at e)
                first | exact ⟨_, _, v, cs, e, rfl, hrow, rfl⟩ | exact ⟨_, _, .slice (some ⟨b14, 0, none⟩) l.length cap14, cs14', e, rfl, hrow14', rfl⟩
              · exact (by repeat (first | exact Sel.all | exact Sel.none | (apply Sel.one; · repeat (first | exact Pick.h | apply Pick.t | apply Pick.app)) | apply Sel.app | (with_reducible apply Sel.grp; · repeat (first | exact PickF.h | apply PickF.t | apply PickF.a)) | (with_reducible refine Sel.nilF (by with_unfolding_all rfl) ?_) | apply Sel.drop | apply Sel.dropF)))
          | false =>
            try have c_t28 := df h28
            first
            | (exfalso; omega)
            | (
              refine wl_go rfl rfl (OP.ev rfl rfl (eMv rfl) ?_)
              refine wl_go rfl rfl (OP.evb rfl rfl (eGt rfl rfl) fun t31 h31 => ?_)
              refine wl rfl (OP.ev rfl rfl (ePk rfl rfl) ?_)
              refine wl rfl (OP.ev rfl rfl (eMv rfl) ?_)
              cases t31 with
              | true =>
                try have c_t31 := dt h31
                first
                | (exfalso; omega)
                | (
                  refine wl_skip rfl rfl rfl rfl rfl ?_
                  refine wl_skip rfl rfl rfl rfl rfl ?_
                  refine wl rfl (OP.ev rfl rfl (ePk rfl rfl) ?_)
                  refine wl rfl (OP.ev rfl rfl (eMv rfl) ?_)
                  refine wl_skip rfl rfl rfl rfl rfl ?_
                  refine wl_skip rfl rfl rfl rfl rfl ?_
                  refine wl_skip rfl rfl rfl rfl rfl ?_
                  refine wl rfl (OP.ev rfl rfl (ePk rfl rfl) ?_)
                  refine wl_nil ?_
                  refine wc_then rfl ?_
                  refine wc_seq ?_
                  refine wc_region ?_
                  refine wl rfl (OP.ev rfl rfl (eAs rfl) ?_)
                  refine wl_nil ?_
                  refine wc_ret ?_
                  apply at_ret rfl
                  · exact (.cons (.tmp rfl) .nil)
                  · repeat (first | rw [if_pos (by omega)] at e | rw [if_neg (by omega)] at e | rw [if_neg Bool.false_ne_true] at e | rw [if_pos (Eq.refl true)] at e)
                    first | exact ⟨_, _, v, cs, e, rfl, hrow, rfl⟩ | exact ⟨_, _, .slice (some ⟨b14, 0, none⟩) l.length cap14, cs14', e, rfl, hrow14', rfl⟩
                  · exact (by repeat (first | exact Sel.all | exact Sel.none | (apply Sel.one; · repeat (first | exact Pick.h | apply Pick.t | apply Pick.app)) | apply Sel.app | (with_reducible apply Sel.grp; · repeat (first | exact PickF.h | apply PickF.t | apply PickF.a)) | (with_reducible refine Sel.nilF (by with_unfolding_all rfl) ?_) | apply Sel.drop | apply Sel.dropF)))
              | false =>
                try have c_t31 := df h31
                first
                | (exfalso; omega)
                | (
                  refine wl_go rfl rfl (OP.ev rfl rfl (eMv rfl) ?_)
                  refine wl_go rfl rfl (OP.evb rfl rfl (eGt rfl rfl) fun t35 h35 => ?_)
                  refine wl rfl (OP.ev rfl rfl (ePk rfl rfl) ?_)
                  refine wl rfl (OP.ev rfl rfl (eMv rfl) ?_)
                  cases t35 with
                  | true =>
                    try have c_t35 := dt h35
                    first
                    | (exfalso; omega)
                    | (
                      refine wl_skip rfl rfl rfl rfl rfl ?_
                      refine wl_skip rfl rfl rfl rfl rfl ?_
                      refine wl_skip rfl rfl rfl rfl rfl ?_
                      refine wl rfl (OP.ev rfl rfl (ePk rfl rfl) ?_)
                      refine wl_nil ?_
                      refine wc_then rfl ?_
                      refine wc_seq ?_
                      refine wc_region ?_
                      refine wl rfl (OP.ev rfl rfl (eAs rfl) ?_)
                      refine wl_nil ?_
                      refine wc_ret ?_
                      apply at_ret rfl
                      · exact (.cons (.tmp rfl) .nil)
                      · repeat (first | rw [if_pos (by omega)] at e | rw [if_neg (by omega)] at e | rw [if_neg Bool.false_ne_true] at e | rw [if_pos (Eq.refl true)] at e)
                        first | exact ⟨_, _, v, cs, e, rfl, hrow, rfl⟩ | exact ⟨_, _, .slice (some ⟨b14, 0, none⟩) l.length cap14, cs14', e, rfl, hrow14', rfl⟩
                      · exact (by repeat (first | exact Sel.all | exact Sel.none | (apply Sel.one; · repeat (first | exact Pick.h | apply Pick.t | apply Pick.app)) | apply Sel.app | (with_reducible apply Sel.grp; · repeat (first | exact PickF.h | apply PickF.t | apply PickF.a)) | (with_reducible refine Sel.nilF (by with_unfolding_all rfl) ?_) | apply Sel.drop | apply Sel.dropF)))
                  | false =>
                    try have c_t35 := df h35
                    first
                    | (exfalso; omega)
                    | (
                      first | refine wl_go rfl rfl (OP.ev rfl rfl (eLdW ty33 rfl rfl (by repeat (first | exact Has.h | apply Has.t | apply Has.app)) (by rfl)) ?_) | refine wl_go rfl rfl (OP.ev rfl rfl (eLdA (vs := [_, _, _, _, _, _, _, _]) ty33 rfl rfl (by repeat (first | exact Has.h | apply Has.t | apply Has.app)) (by rfl) (by rfl)) ?_) | refine wl_go rfl rfl (OP.ev rfl rfl (eLdAO ty33 rfl rfl (by assumption) (by assumption)) ?_)
                      refine wl_go rfl rfl (oC rfl pf38 rfl (rcheck_ok rp _) (by repeat (first | exact Sel.all | exact Sel.none | (apply Sel.one; · repeat (first | exact Pick.h | apply Pick.t | apply Pick.app)) | apply Sel.app | (with_reducible apply Sel.grp; · repeat (first | exact PickF.h | apply PickF.t | apply PickF.a)) | (with_reducible refine Sel.nilF (by with_unfolding_all rfl) ?_) | apply Sel.drop | apply Sel.dropF)) ?_)
                      rintro _ _ ⟨rfl, rfl⟩
                      refine wl_go rfl rfl (OP.evb rfl rfl (eNe rfl rfl) fun t40 h40 => ?_)
                      refine wl rfl (OP.ev rfl rfl (ePk rfl rfl) ?_)
                      refine wl_nil ?_
                      cases t40 with
                      | true =>
                        try have c_t40 := dt h40
                        first
                        | (exfalso; omega)
                        | (
                          refine wc_then rfl ?_
                          refine wc_seq ?_
                          refine wc_region ?_
                          refine wl rfl (OP.ev rfl rfl (eAs rfl) ?_)
                          refine wl_nil ?_
                          refine wc_ret ?_
                          apply at_ret rfl
                          · exact (.cons (.tmp rfl) .nil)
                          · repeat (first | rw [if_pos (by omega)] at e | rw [if_neg (by omega)] at e | rw [if_neg Bool.false_ne_true] at e | rw [if_pos (Eq.refl true)] at e)
                            first | exact ⟨_, _, v, cs, e, rfl, hrow, rfl⟩ | exact ⟨_, _, .slice (some ⟨b14, 0, none⟩) l.length cap14, cs14', e, rfl, hrow14', rfl⟩
                          · exact (by repeat (first | exact Sel.all | exact Sel.none | (apply Sel.one; · repeat (first | exact Pick.h | apply Pick.t | apply Pick.app)) | apply Sel.app | (with_reducible apply Sel.grp; · repeat (first | exact PickF.h | apply PickF.t | apply PickF.a)) | (with_reducible refine Sel.nilF (by with_unfolding_all rfl) ?_) | apply Sel.drop | apply Sel.dropF)))
                      | false =>
                        try have c_t40 := df h40
                        first
                        | (exfalso; omega)
                        | (
                          refine wc_else rfl ?_
                          refine wc_skip ?_
                          refine wc_seq ?_
                          obtain ⟨i, s, hi, hs, hsk, hlg⟩ : ∃ (i : Nat) (s : Seat), pl l k = (i : Int) ∧ l[i]? = some s ∧ s.session = k ∧ lg l k = some s := by
                            rcases lg_spec l k with h | h
                            · rw [h.2] at hq0; simp [askO] at hq0; omega
                            · exact h
                          have hil := (List.getElem?_eq_some_iff.1 hs).1
                          refine wc_region ?_
                          refine wl rfl (oBS0 rfl ty26 ty35 fun b42 => ?_)
                          refine wl rfl (OP.ev rfl rfl (eMv rfl) ?_)
                          refine wl rfl (OP.ev rfl rfl (eNil rfl) ?_)
                          refine wl rfl (OP.ev rfl rfl (eFld 0 ty55 rfl rfl ty26 rfl) ?_)
                          first | refine wl rfl (OP.ev rfl rfl (eLd ty26 rfl rfl (by repeat (first | exact Has.h | apply Has.t | apply Has.app)) (by rfl)) ?_) | refine wl rfl (OP.ev rfl rfl (eLdO ty26 rfl rfl (by assumption)) ?_)
                          refine wl rfl (oApp (m := l.length) (news := flat l) rfl ty26 ty35 rfl rfl rfl (Row.mk (b := b42) (k := 0) (cap := 0) (cs := #[]) (sz := 11) (xs := []) (Nat.le_refl _) rfl rfl) (by repeat (first | exact At.cell | exact At.h | apply At.t | apply At.a)) (hrow.rs (by repeat (first | exact At.cell | exact At.h | apply At.t | apply At.a))) (flat_one _) (by omega) (by omega) ?_)
                          rintro v14 cs14 hrow14 _
                          rw [Nat.zero_add, List.nil_append] at hrow14
                          refine wl rfl (OP.ev rfl rfl (eAs rfl) ?_)
                          refine wl_nil ?_
                          rcases id hrow14.2 with ⟨_, h0⟩ | ⟨b14, cap14, rfl, h141, h142, h143⟩
                          · exfalso; omega
                          refine wc_seq ?_
                          refine wc_drawcut (σ := Array Value) (fun q => [(0, ptr b), (14, .slice (some ⟨b14, 0, none⟩) l.length cap14)]) (fun q => ownH (.slice (some ⟨b14, 0, none⟩) l.length cap14) q 35 ++ (xC b v :: (ownH v cs 35 ++ R))) (fun q => Row (.slice (some ⟨b14, 0, none⟩) l.length cap14) q 11 (l.set (pl l k).toNat ⟨k, n, a, rp⟩).length (flat (l.set (pl l k).toNat ⟨k, n, a, rp⟩))) [(b9, .cells (rC rp) 33 (0, 0)), xC b v] rfl ?_ ?_
                          · skip
                            refine wa_take 0 (by kernel_rfl) rfl rfl rfl rfl (by repeat (first | exact Sel.all | exact Sel.none | (apply Sel.one; · repeat (first | exact Pick.h | apply Pick.t | apply Pick.app)) | apply Sel.app | (with_reducible apply Sel.grp; · repeat (first | exact PickF.h | apply PickF.t | apply PickF.a)) | (with_reducible refine Sel.nilF (by with_unfolding_all rfl) ?_) | apply Sel.drop | apply Sel.dropF)) (eMv rfl) ?_
                            refine wa_take 1 (by kernel_rfl) rfl rfl rfl rfl (by repeat (first | exact Sel.all | exact Sel.none | (apply Sel.one; · repeat (first | exact Pick.h | apply Pick.t | apply Pick.app)) | apply Sel.app | (with_reducible apply Sel.grp; · repeat (first | exact PickF.h | apply PickF.t | apply PickF.a)) | (with_reducible refine Sel.nilF (by with_unfolding_all rfl) ?_) | apply Sel.drop | apply Sel.dropF)) (eMv rfl) ?_
                            refine wa_take 2 (by kernel_rfl) rfl rfl rfl rfl (by repeat (first | exact Sel.all | exact Sel.none | (apply Sel.one; · repeat (first | exact Pick.h | apply Pick.t | apply Pick.app)) | apply Sel.app | (with_reducible apply Sel.grp; · repeat (first | exact PickF.h | apply PickF.t | apply PickF.a)) | (with_reducible refine Sel.nilF (by with_unfolding_all rfl) ?_) | apply Sel.drop | apply Sel.dropF)) (eMv rfl) ?_
                            refine wa_take 4 (by kernel_rfl) rfl rfl rfl rfl (by repeat (first | exact Sel.all | exact Sel.none | (apply Sel.one; · repeat (first | exact Pick.h | apply Pick.t | apply Pick.app)) | apply Sel.app | (with_reducible apply Sel.grp; · repeat (first | exact PickF.h | apply PickF.t | apply PickF.a)) | (with_reducible refine Sel.nilF (by with_unfolding_all rfl) ?_) | apply Sel.drop | apply Sel.dropF)) (eMv rfl) ?_
                            refine wa_take 5 (by kernel_rfl) rfl rfl rfl rfl (by repeat (first | exact Sel.all | exact Sel.none | (apply Sel.one; · repeat (first | exact Pick.h | apply Pick.t | apply Pick.app)) | apply Sel.app | (with_reducible apply Sel.grp; · repeat (first | exact PickF.h | apply PickF.t | apply PickF.a)) | (with_reducible refine Sel.nilF (by with_unfolding_all rfl) ?_) | apply Sel.drop | apply Sel.dropF)) (eMv rfl) ?_
                            refine wa_take 6 (by kernel_rfl) rfl rfl rfl rfl (by repeat (first | exact Sel.all | exact Sel.none | (apply Sel.one; · repeat (first | exact Pick.h | apply Pick.t | apply Pick.app)) | apply Sel.app | (with_reducible apply Sel.grp; · repeat (first | exact PickF.h | apply PickF.t | apply PickF.a)) | (with_reducible refine Sel.nilF (by with_unfolding_all rfl) ?_) | apply Sel.drop | apply Sel.dropF)) (eMv rfl) ?_
                            first | refine wa_take 7 (by kernel_rfl) rfl rfl rfl rfl (by repeat (first | exact Sel.all | exact Sel.none | (apply Sel.one; · repeat (first | exact Pick.h | apply Pick.t | apply Pick.app)) | apply Sel.app | (with_reducible apply Sel.grp; · repeat (first | exact PickF.h | apply PickF.t | apply PickF.a)) | (with_reducible refine Sel.nilF (by with_unfolding_all rfl) ?_) | apply Sel.drop | apply Sel.dropF)) (eLdW ty33 rfl rfl (by repeat (first | exact Has.h | apply Has.t | apply Has.app)) (by rfl)) ?_ | refine wa_take 7 (by kernel_rfl) rfl rfl rfl rfl (by repeat (first | exact Sel.all | exact Sel.none | (apply Sel.one; · repeat (first | exact Pick.h | apply Pick.t | apply Pick.app)) | apply Sel.app | (with_reducible apply Sel.grp; · repeat (first | exact PickF.h | apply PickF.t | apply PickF.a)) | (with_reducible refine Sel.nilF (by with_unfolding_all rfl) ?_) | apply Sel.drop | apply Sel.dropF)) (eLdA (vs := [_, _, _, _, _, _, _, _]) ty33 rfl rfl (by repeat (first | exact Has.h | apply Has.t | apply Has.app)) (by rfl) (by rfl)) ?_ | refine wa_take 7 (by kernel_rfl) rfl rfl rfl rfl (by repeat (first | exact Sel.all | exact Sel.none | (apply Sel.one; · repeat (first | exact Pick.h | apply Pick.t | apply Pick.app)) | apply Sel.app | (with_reducible apply Sel.grp; · repeat (first | exact PickF.h | apply PickF.t | apply PickF.a)) | (with_reducible refine Sel.nilF (by with_unfolding_all rfl) ?_) | apply Sel.drop | apply Sel.dropF)) (eLdAO ty33 rfl rfl (by assumption) (by assumption)) ?_
                            refine wa_take 8 (by kernel_rfl) rfl rfl rfl rfl (by repeat (first | exact Sel.all | exact Sel.none | (apply Sel.one; · repeat (first | exact Pick.h | apply Pick.t | apply Pick.app)) | apply Sel.app | (with_reducible apply Sel.grp; · repeat (first | exact PickF.h | apply PickF.t | apply PickF.a)) | (with_reducible refine Sel.nilF (by with_unfolding_all rfl) ?_) | apply Sel.drop | apply Sel.dropF)) (eBuL (cells := [_, _, _, _, _, _, _, _, _, _, _]) ty35 pl35 rfl rfl) ?_
                            refine wa_all [3] (by kernel_rfl) rfl (wall_one 3 rfl rfl ?_ trivial)
                            refine oC rfl pf37 rfl (place_ok b v cs l k hrow (by omega) _) (by repeat (first | exact Sel.all | exact Sel.none | (apply Sel.one; · repeat (first | exact Pick.h | apply Pick.t | apply Pick.app)) | apply Sel.app | (with_reducible apply Sel.grp; · repeat (first | exact PickF.h | apply PickF.t | apply PickF.a)) | (with_reducible refine Sel.nilF (by with_unfolding_all rfl) ?_) | apply Sel.drop | apply Sel.dropF)) ?_
                            rintro _ _ ⟨rfl, rfl⟩
                            refine ⟨(by repeat (first | exact Sel.all | exact Sel.none | (apply Sel.one; · repeat (first | exact Pick.h | apply Pick.t | apply Pick.app)) | apply Sel.app | (with_reducible apply Sel.grp; · repeat (first | exact PickF.h | apply PickF.t | apply PickF.a)) | (with_reducible refine Sel.nilF (by with_unfolding_all rfl) ?_) | apply Sel.drop | apply Sel.dropF)), ?_⟩
                            refine wa_take 9 (by kernel_rfl) rfl rfl rfl rfl (by repeat (first | exact Sel.all | exact Sel.none | (apply Sel.one; · repeat (first | exact Pick.h | apply Pick.t | apply Pick.app)) | apply Sel.app | (with_reducible apply Sel.grp; · repeat (first | exact PickF.h | apply PickF.t | apply PickF.a)) | (with_reducible refine Sel.nilF (by with_unfolding_all rfl) ?_) | apply Sel.drop | apply Sel.dropF)) (eIx ty26 ty35 rfl rfl (by omega) (by omega)) ?_
                            refine wa_all [10] (by kernel_rfl) rfl (wall_one 10 rfl rfl ?_ trivial)
                            refine oStA (cs := cs14) (vs := (sC ⟨k, n, a, rp⟩).toList) (off := (pl l k).toNat * 11) (o' := .cells (seg cs14 ((pl l k).toNat * 11) (sC ⟨k, n, a, rp⟩).toList) 35 (0, 0)) ty35 (by show some _ = some _; rw [Nat.zero_add]) rfl rfl rfl rfl (by repeat (first | exact Upd.h | apply Upd.t | apply Upd.app)) (by rw [h142]; show _ + 11 ≤ _; omega) ?_
                            have hrowS := hrow14.setSeat (j := (pl l k).toNat) (by omega) ⟨k, n, a, rp⟩
                            refine ⟨(by repeat (first | exact Sel.all | exact Sel.none | (apply Sel.one; · repeat (first | exact Pick.h | apply Pick.t | apply Pick.app)) | apply Sel.app | (with_reducible apply Sel.grp; · repeat (first | exact PickF.h | apply PickF.t | apply PickF.a)) | (with_reducible refine Sel.nilF (by with_unfolding_all rfl) ?_) | apply Sel.drop | apply Sel.dropF)), ?_⟩
                            refine wa_nil (by kernel_rfl) ?_
                            exact ⟨_, hrowS, ⟨rfl, rfl, trivial⟩, (by repeat (first | exact Sel.all | exact Sel.none | (apply Sel.one; · repeat (first | exact Pick.h | apply Pick.t | apply Pick.app)) | apply Sel.app | (with_reducible apply Sel.grp; · repeat (first | exact PickF.h | apply PickF.t | apply PickF.a)) | (with_reducible refine Sel.nilF (by with_unfolding_all rfl) ?_) | apply Sel.drop | apply Sel.dropF))⟩
                          · intro cs14' hrow14'
                            refine wc_seq ?_
                            refine wc_region ?_
                            refine wl rfl (OP.ev rfl rfl (eMv rfl) ?_)
                            refine wl rfl (OP.ev rfl rfl (eMv rfl) ?_)
                            refine wl rfl (OP.ev rfl rfl (eNil rfl) ?_)
                            refine wl rfl (OP.ev rfl rfl (eFld 0 ty55 rfl rfl ty26 rfl) ?_)
                            refine wl rfl (oSt ty26 rfl rfl hrow14'.one rfl (by repeat (first | exact Upd.h | apply Upd.t | apply Upd.app)) (by simp) (by rfl) ?_)
                            refine wl_nil ?_
                            refine wc_seq ?_
                            refine wc_region ?_
                            refine wl rfl (OP.ev rfl rfl (eAs rfl) ?_)
                            refine wl_nil ?_
                            refine wc_ret ?_
                            apply at_ret rfl
                            · exact (.cons (.tmp rfl) .nil)
                            · repeat (first | rw [if_pos (by omega)] at e | rw [if_neg (by omega)] at e | rw [if_neg Bool.false_ne_true] at e | rw [if_pos (Eq.refl true)] at e)
                              first | exact ⟨_, _, v, cs, e, rfl, hrow, rfl⟩ | exact ⟨_, _, .slice (some ⟨b14, 0, none⟩) l.length cap14, cs14', e, rfl, hrow14', rfl⟩
                            · exact (by repeat (first | exact Sel.all | exact Sel.none | (apply Sel.one; · repeat (first | exact Pick.h | apply Pick.t | apply Pick.app)) | apply Sel.app | (with_reducible apply Sel.grp; · repeat (first | exact PickF.h | apply PickF.t | apply PickF.a)) | (with_reducible refine Sel.nilF (by with_unfolding_all rfl) ?_) | apply Sel.drop | apply Sel.dropF))))))))
end Go.Proofs.Ytbppeijcfkdhjaa
