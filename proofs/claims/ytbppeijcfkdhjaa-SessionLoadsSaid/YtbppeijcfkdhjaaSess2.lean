/- The contracts of the package session's functions that change a table: New, Open, Keep, Expire. -/
import Derived.Test.YtbppeijcfkdhjaaSess
namespace Go.Proofs.Ytbppeijcfkdhjaa
open Go Eng
set_option linter.unusedVariables false
set_option maxRecDepth 4000
variable {W0 : World}

theorem new_ok (R : Heap) : FnC W0 Try.prog 18 #[] R (fun v L' => ∃ t r, v = ptr t ∧ L' = tC t r :: mC r [] 0 :: R) := by
  refine fn_of Try.func18 rfl Try.ntmps18 rfl rfl ?_
  refine wc_seq ?_
  refine wc_region ?_
  refine wl rfl (OP.ev rfl rfl (eAs rfl) ?_)
  refine wl_nil ?_
  refine wc_seq ?_
  refine wc_region ?_
  refine wl rfl (oMkM rfl fun b1 => ?_)
  refine wl rfl (OP.ev rfl rfl (eBuL (cells := [_]) ty45 pl45 rfl rfl) ?_)
  refine wl rfl (oBox rfl rfl rfl fun b3 => ?_)
  refine wl rfl (OP.ev rfl rfl (eAs rfl) ?_)
  refine wl_nil ?_
  refine wc_ret ?_
  apply at_ret rfl
  · exact (.cons (.tmp rfl) .nil)
  · exact ⟨b3, b1, rfl, rfl⟩
  · exact (by repeat (first | exact Sel.all | exact Sel.none | (apply Sel.one; · repeat (first | exact Pick.h | apply Pick.t | apply Pick.app)) | apply Sel.app | (with_reducible apply Sel.grp; · repeat (first | exact PickF.h | apply PickF.t | apply PickF.a)) | (with_reducible refine Sel.nilF (by with_unfolding_all rfl) ?_) | apply Sel.drop | apply Sel.dropF))

/-- what Open gives back, and what it leaves in the table -/
def openR (m : SMap) (clk : Nat) (a : Int) : Int × SMap × Nat :=
  if ¬ (1 ≤ a ∧ a ≤ 1099511627776) ∨ 0 < (seatAt m a).session then (1, m, clk)
  else if 8 ≤ (m.length : Int) then (7, m, clk)
  else (0, mset a ⟨a, 0, a, r0⟩ clk m, mclk a clk m)

theorem open_ok (t r : Nat) (m : SMap) (clk : Nat) (a : Int) (R : Heap) :
    FnC W0 Try.prog 14 #[ptr t, i64 a] (tC t r :: mC r m clk :: R) (fun v L' => ∃ c m' clk', v = i64 c ∧ L' = tC t r :: mC r m' clk' :: R ∧ openR m clk a = (c, m', clk')) := by
  refine fn_of Try.func14 rfl Try.ntmps14 rfl rfl ?_
  refine wc_seq ?_
  refine wc_region ?_
  refine wl rfl (OP.ev rfl rfl (eAs rfl) ?_)
  refine wl_nil ?_
  refine wc_seq ?_
  refine wc_block ?_
  refine wc_seq ?_
  refine wc_region ?_
  refine wl rfl (OP.ev rfl rfl (eMv rfl) ?_)
  refine wl rfl (oC rfl pf28 rfl (made_ok t r _) (by repeat (first | exact Sel.all | exact Sel.none | (apply Sel.one; · repeat (first | exact Pick.h | apply Pick.t | apply Pick.app)) | apply Sel.app | (with_reducible apply Sel.grp; · repeat (first | exact PickF.h | apply PickF.t | apply PickF.a)) | (with_reducible refine Sel.nilF (by with_unfolding_all rfl) ?_) | apply Sel.drop | apply Sel.dropF)) ?_)
  rintro _ _ ⟨rfl, rfl⟩
  refine wl rfl (OP.ev rfl rfl (eNot rfl) ?_)
  refine wl rfl (OP.ev rfl rfl (eAs rfl) ?_)
  refine wl_nil ?_
  refine wc_else rfl ?_
  refine wc_seq ?_
  refine wc_region ?_
  refine wl rfl (OP.ev rfl rfl (eMv rfl) ?_)
  refine wl rfl (oC rfl pf32 rfl (index_ok a _) (by repeat (first | exact Sel.all | exact Sel.none | (apply Sel.one; · repeat (first | exact Pick.h | apply Pick.t | apply Pick.app)) | apply Sel.app | (with_reducible apply Sel.grp; · repeat (first | exact PickF.h | apply PickF.t | apply PickF.a)) | (with_reducible refine Sel.nilF (by with_unfolding_all rfl) ?_) | apply Sel.drop | apply Sel.dropF)) ?_)
  rintro _ _ ⟨u, rfl, hu, rfl⟩
  refine wl rfl (OP.ev rfl rfl (eNot rfl) ?_)
  refine wl rfl (OP.ev rfl rfl (eMv rfl) ?_)
  cases u with
  | true =>
    try have c_u := dt hu
    first
    | (exfalso; omega)
    | (
      refine wl_go rfl rfl (OP.ev rfl rfl (eMv rfl) ?_)
      refine wl_go rfl rfl (OP.ev rfl rfl (eNil rfl) ?_)
      refine wl_go rfl rfl (OP.ev rfl rfl (eFld 0 ty45 rfl rfl ty43 rfl) ?_)
      first | refine wl_go rfl rfl (OP.ev rfl rfl (eLd ty43 rfl rfl (by repeat (first | exact Has.h | apply Has.t | apply Has.app)) (by rfl)) ?_) | refine wl_go rfl rfl (OP.ev rfl rfl (eLdO ty43 rfl rfl (by assumption)) ?_)
      refine wl_go rfl rfl (OP.ev rfl rfl (eMv rfl) ?_)
      refine wl_go rfl rfl (OP.ev rfl rfl (eLk1 (v := sV (seatAt m a)) ty43 ty35 (intKOk ty3) rfl rfl (by repeat (first | exact Has.h | apply Has.t | apply Has.app)) (by unfold seatAt; cases mget a m <;> rfl)) ?_)
      refine wl_go rfl rfl (OP.ev rfl rfl (eField 0 ty35 rfl rfl ty3 rfl rfl rfl) ?_)
      refine wl_go rfl rfl (OP.evb rfl rfl (eGt rfl rfl) fun t21 h21 => ?_)
      refine wl rfl (OP.ev rfl rfl (ePk rfl rfl) ?_)
      refine wl rfl (OP.ev rfl rfl (eAs rfl) ?_)
      refine wl_nil ?_
      cases t21 with
      | true =>
        try have c_t21 := dt h21
        first
        | (exfalso; omega)
        | (
          refine wc_then rfl ?_
          refine wc_seq ?_
          refine wc_region ?_
          refine wl rfl (OP.ev rfl rfl (eAs rfl) ?_)
          refine wl_nil ?_
          refine wc_ret ?_
          apply at_ret rfl
          · exact (.cons (.tmp rfl) .nil)
          · have e := Eq.refl (openR m clk a)
            conv at e => rhs; unfold openR
            repeat (first | rw [if_pos (by omega)] at e | rw [if_neg (by omega)] at e)
            exact ⟨_, _, _, rfl, rfl, e⟩
          · exact (by repeat (first | exact Sel.all | exact Sel.none | (apply Sel.one; · repeat (first | exact Pick.h | apply Pick.t | apply Pick.app)) | apply Sel.app | (with_reducible apply Sel.grp; · repeat (first | exact PickF.h | apply PickF.t | apply PickF.a)) | (with_reducible refine Sel.nilF (by with_unfolding_all rfl) ?_) | apply Sel.drop | apply Sel.dropF)))
      | false =>
        try have c_t21 := df h21
        first
        | (exfalso; omega)
        | (
          refine wc_else rfl ?_
          refine wc_seq ?_
          refine wc_region ?_
          refine wl rfl (OP.ev rfl rfl (eMv rfl) ?_)
          refine wl rfl (OP.ev rfl rfl (eNil rfl) ?_)
          refine wl rfl (OP.ev rfl rfl (eFld 0 ty45 rfl rfl ty43 rfl) ?_)
          first | refine wl rfl (OP.ev rfl rfl (eLd ty43 rfl rfl (by repeat (first | exact Has.h | apply Has.t | apply Has.app)) (by rfl)) ?_) | refine wl rfl (OP.ev rfl rfl (eLdO ty43 rfl rfl (by assumption)) ?_)
          refine wl rfl (OP.ev rfl rfl (eLenMp ty43 rfl (by repeat (first | exact Has.h | apply Has.t | apply Has.app))) ?_)
          refine wl rfl (OP.evb rfl rfl (eGe rfl rfl) fun t29 h29 => ?_)
          refine wl rfl (OP.ev rfl rfl (eAs rfl) ?_)
          refine wl_nil ?_
          cases t29 with
          | true =>
            try have c_t29 := dt h29
            first
            | (exfalso; omega)
            | (
              refine wc_then rfl ?_
              refine wc_seq ?_
              refine wc_region ?_
              refine wl rfl (OP.ev rfl rfl (eAs rfl) ?_)
              refine wl_nil ?_
              refine wc_ret ?_
              apply at_ret rfl
              · exact (.cons (.tmp rfl) .nil)
              · have e := Eq.refl (openR m clk a)
                conv at e => rhs; unfold openR
                repeat (first | rw [if_pos (by omega)] at e | rw [if_neg (by omega)] at e)
                exact ⟨_, _, _, rfl, rfl, e⟩
              · exact (by repeat (first | exact Sel.all | exact Sel.none | (apply Sel.one; · repeat (first | exact Pick.h | apply Pick.t | apply Pick.app)) | apply Sel.app | (with_reducible apply Sel.grp; · repeat (first | exact PickF.h | apply PickF.t | apply PickF.a)) | (with_reducible refine Sel.nilF (by with_unfolding_all rfl) ?_) | apply Sel.drop | apply Sel.dropF)))
          | false =>
            try have c_t29 := df h29
            first
            | (exfalso; omega)
            | (
              refine wc_else rfl ?_
              refine wc_skip ?_
              refine wc_seq ?_
              refine wc_region ?_
              refine wl rfl (OP.ev rfl rfl (eMv rfl) ?_)
              refine wl rfl (OP.ev rfl rfl (eNil rfl) ?_)
              refine wl rfl (OP.ev rfl rfl (eFld 0 ty45 rfl rfl ty43 rfl) ?_)
              first | refine wl rfl (OP.ev rfl rfl (eLd ty43 rfl rfl (by repeat (first | exact Has.h | apply Has.t | apply Has.app)) (by rfl)) ?_) | refine wl rfl (OP.ev rfl rfl (eLdO ty43 rfl rfl (by assumption)) ?_)
              refine wl rfl (OP.ev rfl rfl (eMv rfl) ?_)
              refine wl rfl (OP.ev rfl rfl (eMv rfl) ?_)
              refine wl rfl (OP.ev rfl rfl (eMv rfl) ?_)
              refine wl rfl (OP.ev rfl rfl (eBuL (cells := [_, .int .i64 0, _, .int .i64 0, .int .i64 0, .int .i64 0, .int .i64 0, .int .i64 0, .int .i64 0, .int .i64 0, .int .i64 0]) ty35 pl35 rfl rfl) ?_)
              refine wl rfl (oMU (k := a) (v := (⟨a, 0, a, r0⟩ : Seat)) ty43 (intKOk ty3) rfl rfl rfl (by repeat (first | exact Upd.h | apply Upd.t | apply Upd.app)) ?_)
              refine wl_nil ?_
              refine wc_seq ?_
              refine wc_region ?_
              refine wl rfl (OP.ev rfl rfl (eAs rfl) ?_)
              refine wl_nil ?_
              refine wc_ret ?_
              apply at_ret rfl
              · exact (.cons (.tmp rfl) .nil)
              · have e := Eq.refl (openR m clk a)
                conv at e => rhs; unfold openR
                repeat (first | rw [if_pos (by omega)] at e | rw [if_neg (by omega)] at e)
                exact ⟨_, _, _, rfl, rfl, e⟩
              · exact (by repeat (first | exact Sel.all | exact Sel.none | (apply Sel.one; · repeat (first | exact Pick.h | apply Pick.t | apply Pick.app)) | apply Sel.app | (with_reducible apply Sel.grp; · repeat (first | exact PickF.h | apply PickF.t | apply PickF.a)) | (with_reducible refine Sel.nilF (by with_unfolding_all rfl) ?_) | apply Sel.drop | apply Sel.dropF)))))
  | false =>
    try have c_u := df hu
    first
    | (exfalso; omega)
    | (
      refine wl_skip rfl rfl rfl rfl rfl ?_
      refine wl_skip rfl rfl rfl rfl rfl ?_
      refine wl_skip rfl rfl rfl rfl rfl ?_
      refine wl_skip rfl rfl rfl rfl rfl ?_
      refine wl_skip rfl rfl rfl rfl rfl ?_
      refine wl_skip rfl rfl rfl rfl rfl ?_
      refine wl_skip rfl rfl rfl rfl rfl ?_
      refine wl_skip rfl rfl rfl rfl rfl ?_
      refine wl rfl (OP.ev rfl rfl (ePk rfl rfl) ?_)
      refine wl rfl (OP.ev rfl rfl (eAs rfl) ?_)
      refine wl_nil ?_
      refine wc_then rfl ?_
      refine wc_seq ?_
      refine wc_region ?_
      refine wl rfl (OP.ev rfl rfl (eAs rfl) ?_)
      refine wl_nil ?_
      refine wc_ret ?_
      apply at_ret rfl
      · exact (.cons (.tmp rfl) .nil)
      · have e := Eq.refl (openR m clk a)
        conv at e => rhs; unfold openR
        repeat (first | rw [if_pos (by omega)] at e | rw [if_neg (by omega)] at e)
        exact ⟨_, _, _, rfl, rfl, e⟩
      · exact (by repeat (first | exact Sel.all | exact Sel.none | (apply Sel.one; · repeat (first | exact Pick.h | apply Pick.t | apply Pick.app)) | apply Sel.app | (with_reducible apply Sel.grp; · repeat (first | exact PickF.h | apply PickF.t | apply PickF.a)) | (with_reducible refine Sel.nilF (by with_unfolding_all rfl) ?_) | apply Sel.drop | apply Sel.dropF)))

abbrev nC (b : Nat) (a : Int) : Nat × Obj := (b, .cells #[.int .i64 a] 3 (0, 0))

theorem before_ok (b : Nat) (a k : Int) (s : Seat) (R : Heap) : FnC W0 Try.prog 31 #[i64 k, sV s, ptr b] (nC b a :: R) (fun v L' => ∃ u, v = .bool u ∧ u = decide (s.at_ < a) ∧ L' = nC b a :: R) := by
  refine fn_of Try.func31 rfl Try.ntmps31 rfl rfl ?_
  refine wc_seq ?_
  refine wc_region ?_
  refine wl rfl (oBox rfl rfl rfl fun b4 => ?_)
  refine wl rfl (OP.ev rfl rfl (eAs rfl) ?_)
  refine wl_nil ?_
  refine wc_seq ?_
  refine wc_region ?_
  refine wl rfl (OP.ev rfl rfl (eFld 2 ty35 rfl rfl ty3 rfl) ?_)
  first | refine wl rfl (OP.ev rfl rfl (eLd ty3 rfl rfl (by repeat (first | exact Has.h | apply Has.t | apply Has.app)) (by rfl)) ?_) | refine wl rfl (OP.ev rfl rfl (eLdO ty3 rfl rfl (by assumption)) ?_)
  first | refine wl rfl (OP.ev rfl rfl (eLd ty3 rfl rfl (by repeat (first | exact Has.h | apply Has.t | apply Has.app)) (by rfl)) ?_) | refine wl rfl (OP.ev rfl rfl (eLdO ty3 rfl rfl (by assumption)) ?_)
  refine wl rfl (OP.evb rfl rfl (eLt rfl rfl) fun t9 h9 => ?_)
  refine wl rfl (OP.ev rfl rfl (eAs rfl) ?_)
  refine wl_nil ?_
  refine wc_ret ?_
  apply at_ret rfl
  · exact (.cons (.tmp rfl) .nil)
  · exact ⟨_, rfl, h9, rfl⟩
  · exact (by repeat (first | exact Sel.all | exact Sel.none | (apply Sel.one; · repeat (first | exact Pick.h | apply Pick.t | apply Pick.app)) | apply Sel.app | (with_reducible apply Sel.grp; · repeat (first | exact PickF.h | apply PickF.t | apply PickF.a)) | (with_reducible refine Sel.nilF (by with_unfolding_all rfl) ?_) | apply Sel.drop | apply Sel.dropF))

theorem delf_ok (r b : Nat) (a : Int) (m : SMap) (clk : Nat) (hm : MOk m clk) (R : Heap) :
    FnC W0 Try.prog 30 #[.map (some r), .func (.func 31) #[] #[ptr b]] (mC r m clk :: nC b a :: R) (fun v L' => L' = mC r (m.filter fun e => !decide (e.2.1.at_ < a)) clk :: nC b a :: R) := by
  refine fn_of Try.func30 rfl Try.ntmps30 rfl rfl ?_
  refine wc_seq ?_
  refine wc_region ?_
  refine wl rfl (OP.ev rfl rfl (eMv rfl) ?_)
  refine wl rfl (oRg rfl ty43 rfl (by repeat (first | exact Has.h | apply Has.t | apply Has.app)) fun b7 => ?_)
  refine wl_nil ?_
  refine wc_block ?_
  refine wc_loop2 (fun (seen : List Nat) (m' : SMap) => [(0, .map (some r)), (1, .func (.func 31) #[] #[ptr b]), (7, ptr b7)]) (fun seen m' => (b7, .mapIter (some r) clk seen.toArray clk) :: mC r m' clk :: nC b a :: R) (fun seen m' => m' = dl m (fun e => decide (e.2.1.at_ < a)) seen) (fun seen _ => left m seen) [] m (dl_nil _ _).symm ⟨rfl, rfl, rfl, trivial⟩ (by repeat (first | exact Sel.all | exact Sel.none | (apply Sel.one; · repeat (first | exact Pick.h | apply Pick.t | apply Pick.app)) | apply Sel.app | (with_reducible apply Sel.grp; · repeat (first | exact PickF.h | apply PickF.t | apply PickF.a)) | (with_reducible refine Sel.nilF (by with_unfolding_all rfl) ?_) | apply Sel.drop | apply Sel.dropF)) ?_
  rintro seen m' hm'
  have hmk : MOk m' clk := by rw [hm']; exact hm.filter _
  refine wc_seq ?_
  refine wc_region ?_
  refine wl rfl (oNx rfl rfl (by repeat (first | exact Pick.h | apply Pick.t | apply Pick.app)) (by repeat (first | exact Has.h | apply Has.t | apply Has.app)) hmk.1 ?_ ?_)
  · intro hall
    obtain rfl : m' = m.filter (fun e => !decide (e.2.1.at_ < a)) := by rw [hm'] at hall ⊢; exact dl_end hall
    refine wl rfl (OP.ev rfl rfl (eExt rfl rfl) ?_)
    refine wl_nil ?_
    refine wc_seq ?_
    refine wc_else rfl ?_
    refine wc_exit rfl ?_
    apply at_ret rfl
    · exact .nil
    · exact rfl
    · exact (by repeat (first | exact Sel.all | exact Sel.none | (apply Sel.one; · repeat (first | exact Pick.h | apply Pick.t | apply Pick.app)) | apply Sel.app | (with_reducible apply Sel.grp; · repeat (first | exact PickF.h | apply PickF.t | apply PickF.a)) | (with_reducible refine Sel.nilF (by with_unfolding_all rfl) ?_) | apply Sel.drop | apply Sel.dropF))
  · intro e he hs
    refine wl rfl (OP.ev rfl rfl (eExt rfl rfl) ?_)
    refine wl_nil ?_
    refine wc_seq ?_
    refine wc_then rfl ?_
    refine wc_skip ?_
    refine wc_block ?_
    refine wc_seq ?_
    refine wc_region ?_
    refine wl rfl (OP.ev rfl rfl (eEn e rfl (by repeat (first | exact Has.h | apply Has.t | apply Has.app)) (by repeat (first | exact Has.h | apply Has.t | apply Has.app)) he hmk.2.1) ?_)
    refine wl rfl (OP.ev rfl rfl (eExt rfl rfl) ?_)
    refine wl rfl (OP.ev rfl rfl (eExt rfl rfl) ?_)
    refine wl rfl (oAl rfl ty35 rfl fun b5 => ?_)
    refine wl rfl (OP.ev rfl rfl (eAs rfl) ?_)
    refine wl rfl (oStW ty35 rfl rfl rfl rfl (by repeat (first | exact Upd.h | apply Upd.t | apply Upd.app)) (by rfl) ?_)
    refine wl_nil ?_
    refine wc_seq ?_
    refine wc_region ?_
    refine wl rfl (OP.ev rfl rfl (eMv rfl) ?_)
    refine wl rfl (OP.ev rfl rfl (eMv rfl) ?_)
    first | refine wl rfl (OP.ev rfl rfl (eLdW ty35 rfl rfl (by repeat (first | exact Has.h | apply Has.t | apply Has.app)) (by rfl)) ?_) | refine wl rfl (OP.ev rfl rfl (eLdA (vs := [_, _, _, _, _, _, _, _, _, _, _]) ty35 rfl rfl (by repeat (first | exact Has.h | apply Has.t | apply Has.app)) (by rfl) (by rfl)) ?_) | refine wl rfl (OP.ev rfl rfl (eLdAO ty35 rfl rfl (by assumption) (by assumption)) ?_)
    refine wl rfl (oCall rfl pf31 rfl rfl rfl (before_ok b a e.1 e.2.1 _) (by repeat (first | exact Sel.all | exact Sel.none | (apply Sel.one; · repeat (first | exact Pick.h | apply Pick.t | apply Pick.app)) | apply Sel.app | (with_reducible apply Sel.grp; · repeat (first | exact PickF.h | apply PickF.t | apply PickF.a)) | (with_reducible refine Sel.nilF (by with_unfolding_all rfl) ?_) | apply Sel.drop | apply Sel.dropF)) ?_)
    rintro _ _ ⟨u, rfl, hu, rfl⟩
    refine wl_nil ?_
    cases u with
    | true =>
      try have c_u := dt hu
      first
      | (exfalso; omega)
      | (
        refine wc_then rfl ?_
        refine wc_region ?_
        refine wl rfl (OP.ev rfl rfl (eMv rfl) ?_)
        refine wl rfl (OP.ev rfl rfl (eMv rfl) ?_)
        refine wl rfl (oDel0 ty43 rfl (intKOk ty3) rfl rfl (by repeat (first | exact Upd.h | apply Upd.t | apply Upd.app)) ?_)
        refine wl_nil ?_
        first | exact ⟨seen ++ [e.2.2], _, hm'.trans (dl_stay hm (hm' ▸ he) (by simpa using c_u)), left_lt (dl_mem (hm' ▸ he)) hs, ⟨rfl, rfl, rfl, trivial⟩, (by repeat (first | exact Sel.all | exact Sel.none | (apply Sel.one; · repeat (first | exact Pick.h | apply Pick.t | apply Pick.app)) | apply Sel.app | (with_reducible apply Sel.grp; · repeat (first | exact PickF.h | apply PickF.t | apply PickF.a)) | (with_reducible refine Sel.nilF (by with_unfolding_all rfl) ?_) | apply Sel.drop | apply Sel.dropF))⟩ | exact ⟨seen ++ [e.2.2], _, (congrArg (mdel e.1) hm').trans (dl_del (p := fun e => decide (e.2.1.at_ < a)) (seen := seen) hm (hm' ▸ he) (by simpa using c_u)), left_lt (dl_mem (hm' ▸ he)) hs, ⟨rfl, rfl, rfl, trivial⟩, (by repeat (first | exact Sel.all | exact Sel.none | (apply Sel.one; · repeat (first | exact Pick.h | apply Pick.t | apply Pick.app)) | apply Sel.app | (with_reducible apply Sel.grp; · repeat (first | exact PickF.h | apply PickF.t | apply PickF.a)) | (with_reducible refine Sel.nilF (by with_unfolding_all rfl) ?_) | apply Sel.drop | apply Sel.dropF))⟩)
    | false =>
      try have c_u := df hu
      first
      | (exfalso; omega)
      | (
        refine wc_else rfl ?_
        refine wc_skip ?_
        first | exact ⟨seen ++ [e.2.2], _, hm'.trans (dl_stay hm (hm' ▸ he) (by simpa using c_u)), left_lt (dl_mem (hm' ▸ he)) hs, ⟨rfl, rfl, rfl, trivial⟩, (by repeat (first | exact Sel.all | exact Sel.none | (apply Sel.one; · repeat (first | exact Pick.h | apply Pick.t | apply Pick.app)) | apply Sel.app | (with_reducible apply Sel.grp; · repeat (first | exact PickF.h | apply PickF.t | apply PickF.a)) | (with_reducible refine Sel.nilF (by with_unfolding_all rfl) ?_) | apply Sel.drop | apply Sel.dropF))⟩ | exact ⟨seen ++ [e.2.2], _, (congrArg (mdel e.1) hm').trans (dl_del (p := fun e => decide (e.2.1.at_ < a)) (seen := seen) hm (hm' ▸ he) (by simpa using c_u)), left_lt (dl_mem (hm' ▸ he)) hs, ⟨rfl, rfl, rfl, trivial⟩, (by repeat (first | exact Sel.all | exact Sel.none | (apply Sel.one; · repeat (first | exact Pick.h | apply Pick.t | apply Pick.app)) | apply Sel.app | (with_reducible apply Sel.grp; · repeat (first | exact PickF.h | apply PickF.t | apply PickF.a)) | (with_reducible refine Sel.nilF (by with_unfolding_all rfl) ?_) | apply Sel.drop | apply Sel.dropF))⟩)

def keepers (m : SMap) (a : Int) : SMap := m.filter fun e => !decide (e.2.1.at_ < a)

theorem expire_ok (t r : Nat) (m : SMap) (clk : Nat) (hm : MOk m clk) (a : Int) (R : Heap) :
    FnC W0 Try.prog 11 #[ptr t, i64 a] (tC t r :: mC r m clk :: R) (fun v L' => v = i64 ((m.length : Int) - ((keepers m a).length : Int)) ∧ L' = tC t r :: mC r (keepers m a) clk :: R) := by
  have hl := hm.2.2.2.2
  have hk : (m.filter fun e => !decide (e.2.1.at_ < a)).length ≤ m.length := List.length_filter_le _ _
  refine fn_of Try.func11 rfl Try.ntmps11 rfl rfl ?_
  refine wc_seq ?_
  refine wc_region ?_
  refine wl rfl (oBox rfl rfl rfl fun b3 => ?_)
  refine wl rfl (OP.ev rfl rfl (eAs rfl) ?_)
  refine wl_nil ?_
  refine wc_seq ?_
  refine wc_seq ?_
  refine wc_region ?_
  refine wl rfl (OP.ev rfl rfl (eMv rfl) ?_)
  refine wl rfl (oC rfl pf28 rfl (made_ok t r _) (by repeat (first | exact Sel.all | exact Sel.none | (apply Sel.one; · repeat (first | exact Pick.h | apply Pick.t | apply Pick.app)) | apply Sel.app | (with_reducible apply Sel.grp; · repeat (first | exact PickF.h | apply PickF.t | apply PickF.a)) | (with_reducible refine Sel.nilF (by with_unfolding_all rfl) ?_) | apply Sel.drop | apply Sel.dropF)) ?_)
  rintro _ _ ⟨rfl, rfl⟩
  refine wl rfl (OP.ev rfl rfl (eNot rfl) ?_)
  refine wl_nil ?_
  refine wc_else rfl ?_
  refine wc_skip ?_
  refine wc_seq ?_
  refine wc_region ?_
  refine wl rfl (OP.ev rfl rfl (eMv rfl) ?_)
  refine wl rfl (OP.ev rfl rfl (eNil rfl) ?_)
  refine wl rfl (OP.ev rfl rfl (eFld 0 ty45 rfl rfl ty43 rfl) ?_)
  first | refine wl rfl (OP.ev rfl rfl (eLd ty43 rfl rfl (by repeat (first | exact Has.h | apply Has.t | apply Has.app)) (by rfl)) ?_) | refine wl rfl (OP.ev rfl rfl (eLdO ty43 rfl rfl (by assumption)) ?_)
  refine wl rfl (OP.ev rfl rfl (eLenMp ty43 rfl (by repeat (first | exact Has.h | apply Has.t | apply Has.app))) ?_)
  refine wl rfl (OP.ev rfl rfl (eAs rfl) ?_)
  refine wl_nil ?_
  refine wc_seq ?_
  refine wc_region ?_
  refine wl rfl (OP.ev rfl rfl (eMv rfl) ?_)
  refine wl rfl (OP.ev rfl rfl (eNil rfl) ?_)
  refine wl rfl (OP.ev rfl rfl (eFld 0 ty45 rfl rfl ty43 rfl) ?_)
  first | refine wl rfl (OP.ev rfl rfl (eLd ty43 rfl rfl (by repeat (first | exact Has.h | apply Has.t | apply Has.app)) (by rfl)) ?_) | refine wl rfl (OP.ev rfl rfl (eLdO ty43 rfl rfl (by assumption)) ?_)
  refine wl rfl (OP.ev rfl rfl (eMkF rfl rfl) ?_)
  refine wl rfl (oC rfl pf30 rfl (delf_ok r _ a m clk hm _) (by repeat (first | exact Sel.all | exact Sel.none | (apply Sel.one; · repeat (first | exact Pick.h | apply Pick.t | apply Pick.app)) | apply Sel.app | (with_reducible apply Sel.grp; · repeat (first | exact PickF.h | apply PickF.t | apply PickF.a)) | (with_reducible refine Sel.nilF (by with_unfolding_all rfl) ?_) | apply Sel.drop | apply Sel.dropF)) ?_)
  rintro _ _ rfl
  refine wl_nil ?_
  refine wc_seq ?_
  refine wc_region ?_
  refine wl rfl (OP.ev rfl rfl (eMv rfl) ?_)
  refine wl rfl (OP.ev rfl rfl (eMv rfl) ?_)
  refine wl rfl (OP.ev rfl rfl (eNil rfl) ?_)
  refine wl rfl (OP.ev rfl rfl (eFld 0 ty45 rfl rfl ty43 rfl) ?_)
  first | refine wl rfl (OP.ev rfl rfl (eLd ty43 rfl rfl (by repeat (first | exact Has.h | apply Has.t | apply Has.app)) (by rfl)) ?_) | refine wl rfl (OP.ev rfl rfl (eLdO ty43 rfl rfl (by assumption)) ?_)
  refine wl rfl (OP.ev rfl rfl (eLenMp ty43 rfl (by repeat (first | exact Has.h | apply Has.t | apply Has.app))) ?_)
  first | refine wl rfl (OP.ev rfl rfl (eSub rfl rfl (by omega)) ?_) | refine wl rfl (OP.ev rfl rfl (eSubW rfl rfl) ?_)
  refine wl rfl (OP.ev rfl rfl (eAs rfl) ?_)
  refine wl_nil ?_
  refine wc_ret ?_
  apply at_ret rfl
  · exact (.cons (.tmp rfl) .nil)
  · exact ⟨rfl, rfl⟩
  · exact (by repeat (first | exact Sel.all | exact Sel.none | (apply Sel.one; · repeat (first | exact Pick.h | apply Pick.t | apply Pick.app)) | apply Sel.app | (with_reducible apply Sel.grp; · repeat (first | exact PickF.h | apply PickF.t | apply PickF.a)) | (with_reducible refine Sel.nilF (by with_unfolding_all rfl) ?_) | apply Sel.drop | apply Sel.dropF))
end Go.Proofs.Ytbppeijcfkdhjaa
