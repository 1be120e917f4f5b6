/- What a table that no call made answers: the contracts, and the walk of SessionNobody. -/
import Derived.Test.YtbppeijcfkdhjaaSess5
namespace Go.Proofs.Ytbppeijcfkdhjaa
open Go Eng
set_option linter.unusedVariables false
set_option maxRecDepth 4000
variable {W0 : World}

abbrev uC (b : Nat) : Nat × Obj := (b, .cells #[.map none] 45 (0, 0))
/-- a table, or none, that no call made -/
def Unm (W0 : World) (p : Value) (b : Nat) : Prop := ∀ R, FnC W0 Try.prog 28 #[p] (uC b :: R) (fun v L' => v = .bool false ∧ L' = uC b :: R)

theorem unm_nil (b : Nat) : Unm W0 (.pointer none) b := fun R => made_nil _
theorem unm_zero (b : Nat) : Unm W0 (ptr b) b := by
  intro R
  refine fn_of Try.func28 rfl Try.ntmps28 rfl rfl ?_
  refine wc_seq ?_
  refine wc_region ?_
  refine wl rfl (OP.ev rfl rfl (eAs rfl) ?_)
  refine wl_nil ?_
  refine wc_seq ?_
  refine wc_region ?_
  refine wl rfl (OP.ev rfl rfl (eMv rfl) ?_)
  first | refine wl rfl (OP.ev rfl rfl (eNeP0 rfl rfl ty24) ?_) | refine wl rfl (OP.ev rfl rfl (eNeP1 rfl rfl ty24) ?_)
  refine wl rfl (OP.ev rfl rfl (eMv rfl) ?_)
  refine wl_go rfl rfl (OP.ev rfl rfl (eMv rfl) ?_)
  refine wl_go rfl rfl (OP.ev rfl rfl (eNil rfl) ?_)
  refine wl_go rfl rfl (OP.ev rfl rfl (eFld 0 ty45 rfl rfl ty43 rfl) ?_)
  first | refine wl_go rfl rfl (OP.ev rfl rfl (eLd ty43 rfl rfl (by repeat (first | exact Has.h | apply Has.t | apply Has.app)) (by rfl)) ?_) | refine wl_go rfl rfl (OP.ev rfl rfl (eLdO ty43 rfl rfl (by assumption)) ?_)
  first | refine wl_go rfl rfl (OP.ev rfl rfl (eNeM0 rfl rfl ty43) ?_) | refine wl_go rfl rfl (OP.ev rfl rfl (eNeM1 rfl rfl ty43) ?_)
  refine wl rfl (OP.ev rfl rfl (ePk rfl rfl) ?_)
  refine wl rfl (OP.ev rfl rfl (eAs rfl) ?_)
  refine wl_nil ?_
  refine wc_ret ?_
  apply at_ret rfl
  · exact (.cons (.tmp rfl) .nil)
  · exact ⟨rfl, rfl⟩
  · exact (by repeat (first | exact Sel.all | exact Sel.none | (apply Sel.one; · repeat (first | exact Pick.h | apply Pick.t | apply Pick.app)) | apply Sel.app | (with_reducible apply Sel.grp; · repeat (first | exact PickF.h | apply PickF.t | apply PickF.a)) | (with_reducible refine Sel.nilF (by with_unfolding_all rfl) ?_) | apply Sel.drop | apply Sel.dropF))

theorem ask_un {p : Value} {b : Nat} (hp : Unm W0 p b) (k n : Int) (R : Heap) : FnC W0 Try.prog 12 #[p, i64 k, i64 n] (uC b :: R) (fun v L' => v = .tuple #[.agg (rC r0), .bool false, i64 6] ∧ L' = uC b :: R) := by
  refine fn_of Try.func12 rfl Try.ntmps12 rfl rfl ?_
  refine wc_seq ?_
  refine wc_region ?_
  refine wl rfl (oAl rfl ty33 rfl fun b6 => ?_)
  refine wl rfl (OP.ev rfl rfl (eAs rfl) ?_)
  refine wl rfl (OP.ev rfl rfl (eAs rfl) ?_)
  refine wl_nil ?_
  refine wc_seq ?_
  refine wc_region ?_
  refine wl rfl (OP.ev rfl rfl (eBuL (cells := [.int .i64 0, .int .i64 0, .int .i64 0, .int .i64 0, .int .i64 0, .int .i64 0, .int .i64 0, .int .i64 0]) ty33 pl33 rfl rfl) ?_)
  refine wl rfl (oAl rfl ty33 rfl fun b9 => ?_)
  refine wl rfl (oStW ty33 rfl rfl rfl rfl (by repeat (first | exact Upd.h | apply Upd.t | apply Upd.app)) (by rfl) ?_)
  refine wl_nil ?_
  refine wc_seq ?_
  refine wc_seq ?_
  refine wc_region ?_
  refine wl rfl (OP.ev rfl rfl (eMv rfl) ?_)
  refine wl rfl (oC rfl pf28 rfl (hp _) (by repeat (first | exact Sel.all | exact Sel.none | (apply Sel.one; · repeat (first | exact Pick.h | apply Pick.t | apply Pick.app)) | apply Sel.app | (with_reducible apply Sel.grp; · repeat (first | exact PickF.h | apply PickF.t | apply PickF.a)) | (with_reducible refine Sel.nilF (by with_unfolding_all rfl) ?_) | apply Sel.drop | apply Sel.dropF)) ?_)
  rintro _ _ ⟨rfl, rfl⟩
  refine wl rfl (OP.ev rfl rfl (eNot rfl) ?_)
  refine wl_nil ?_
  refine wc_then rfl ?_
  refine wc_seq ?_
  refine wc_region ?_
  first | refine wl rfl (OP.ev rfl rfl (eLdW ty33 rfl rfl (by repeat (first | exact Has.h | apply Has.t | apply Has.app)) (by rfl)) ?_) | refine wl rfl (OP.ev rfl rfl (eLdA (vs := [_, _, _, _, _, _, _, _]) ty33 rfl rfl (by repeat (first | exact Has.h | apply Has.t | apply Has.app)) (by rfl) (by rfl)) ?_) | refine wl rfl (OP.ev rfl rfl (eLdAO ty33 rfl rfl (by assumption) (by assumption)) ?_)
  refine wl rfl (oStW ty33 rfl rfl rfl rfl (by repeat (first | exact Upd.h | apply Upd.t | apply Upd.app)) (by rfl) ?_)
  refine wl rfl (OP.ev rfl rfl (eAs rfl) ?_)
  refine wl rfl (OP.ev rfl rfl (eAs rfl) ?_)
  refine wl_nil ?_
  refine wc_ret ?_
  apply at_ret rfl
  · exact (.cons (.cell rfl (by repeat (first | exact Has.h | apply Has.t | apply Has.app)) ty33 rfl) (.cons (.tmp rfl) (.cons (.tmp rfl) .nil)))
  · exact ⟨rfl, rfl⟩
  · exact (by repeat (first | exact Sel.all | exact Sel.none | (apply Sel.one; · repeat (first | exact Pick.h | apply Pick.t | apply Pick.app)) | apply Sel.app | (with_reducible apply Sel.grp; · repeat (first | exact PickF.h | apply PickF.t | apply PickF.a)) | (with_reducible refine Sel.nilF (by with_unfolding_all rfl) ?_) | apply Sel.drop | apply Sel.dropF))
theorem open_un {p : Value} {b : Nat} (hp : Unm W0 p b) (a : Int) (R : Heap) : FnC W0 Try.prog 14 #[p, i64 a] (uC b :: R) (fun v L' => v = i64 6 ∧ L' = uC b :: R) := by
  refine fn_of Try.func14 rfl Try.ntmps14 rfl rfl ?_
  refine wc_seq ?_
  refine wc_region ?_
  refine wl rfl (OP.ev rfl rfl (eAs rfl) ?_)
  refine wl_nil ?_
  refine wc_seq ?_
  refine wc_block ?_
  refine wc_seq ?_
  refine wc_region ?_
  refine wl rfl (OP.ev rfl rfl (eMv rfl) ?_)
  refine wl rfl (oC rfl pf28 rfl (hp _) (by repeat (first | exact Sel.all | exact Sel.none | (apply Sel.one; · repeat (first | exact Pick.h | apply Pick.t | apply Pick.app)) | apply Sel.app | (with_reducible apply Sel.grp; · repeat (first | exact PickF.h | apply PickF.t | apply PickF.a)) | (with_reducible refine Sel.nilF (by with_unfolding_all rfl) ?_) | apply Sel.drop | apply Sel.dropF)) ?_)
  rintro _ _ ⟨rfl, rfl⟩
  refine wl rfl (OP.ev rfl rfl (eNot rfl) ?_)
  refine wl rfl (OP.ev rfl rfl (eAs rfl) ?_)
  refine wl_nil ?_
  refine wc_then rfl ?_
  refine wc_seq ?_
  refine wc_region ?_
  refine wl rfl (OP.ev rfl rfl (eAs rfl) ?_)
  refine wl_nil ?_
  refine wc_ret ?_
  apply at_ret rfl
  · exact (.cons (.tmp rfl) .nil)
  · exact ⟨rfl, rfl⟩
  · exact (by repeat (first | exact Sel.all | exact Sel.none | (apply Sel.one; · repeat (first | exact Pick.h | apply Pick.t | apply Pick.app)) | apply Sel.app | (with_reducible apply Sel.grp; · repeat (first | exact PickF.h | apply PickF.t | apply PickF.a)) | (with_reducible refine Sel.nilF (by with_unfolding_all rfl) ?_) | apply Sel.drop | apply Sel.dropF))
theorem expire_un {p : Value} {b : Nat} (hp : Unm W0 p b) (a : Int) (R : Heap) : FnC W0 Try.prog 11 #[p, i64 a] (uC b :: R) (fun v L' => v = i64 0 ∧ L' = uC b :: R) := by
  refine fn_of Try.func11 rfl Try.ntmps11 rfl rfl ?_
  refine wc_seq ?_
  refine wc_region ?_
  refine wl rfl (oBox rfl rfl rfl fun b3 => ?_)
  refine wl rfl (OP.ev rfl rfl (eAs rfl) ?_)
  refine wl_nil ?_
  refine wc_seq ?_
  refine wc_seq ?_
  refine wc_region ?_
  refine wl rfl (OP.ev rfl rfl (eMv rfl) ?_)
  refine wl rfl (oC rfl pf28 rfl (hp _) (by repeat (first | exact Sel.all | exact Sel.none | (apply Sel.one; · repeat (first | exact Pick.h | apply Pick.t | apply Pick.app)) | apply Sel.app | (with_reducible apply Sel.grp; · repeat (first | exact PickF.h | apply PickF.t | apply PickF.a)) | (with_reducible refine Sel.nilF (by with_unfolding_all rfl) ?_) | apply Sel.drop | apply Sel.dropF)) ?_)
  rintro _ _ ⟨rfl, rfl⟩
  refine wl rfl (OP.ev rfl rfl (eNot rfl) ?_)
  refine wl_nil ?_
  refine wc_then rfl ?_
  refine wc_seq ?_
  refine wc_region ?_
  refine wl rfl (OP.ev rfl rfl (eAs rfl) ?_)
  refine wl_nil ?_
  refine wc_ret ?_
  apply at_ret rfl
  · exact (.cons (.tmp rfl) .nil)
  · exact ⟨rfl, rfl⟩
  · exact (by repeat (first | exact Sel.all | exact Sel.none | (apply Sel.one; · repeat (first | exact Pick.h | apply Pick.t | apply Pick.app)) | apply Sel.app | (with_reducible apply Sel.grp; · repeat (first | exact PickF.h | apply PickF.t | apply PickF.a)) | (with_reducible refine Sel.nilF (by with_unfolding_all rfl) ?_) | apply Sel.drop | apply Sel.dropF))
theorem seats_un {p : Value} {b : Nat} (hp : Unm W0 p b) (R : Heap) : FnC W0 Try.prog 10 #[p] (uC b :: R) (fun v L' => v = .slice none 0 0 ∧ L' = uC b :: R) := by
  refine fn_of Try.func10 rfl Try.ntmps10 rfl rfl ?_
  refine wc_seq ?_
  refine wc_region ?_
  refine wl rfl (OP.ev rfl rfl (eAs rfl) ?_)
  refine wl_nil ?_
  refine wc_seq ?_
  refine wc_seq ?_
  refine wc_region ?_
  refine wl rfl (OP.ev rfl rfl (eMv rfl) ?_)
  refine wl rfl (oC rfl pf28 rfl (hp _) (by repeat (first | exact Sel.all | exact Sel.none | (apply Sel.one; · repeat (first | exact Pick.h | apply Pick.t | apply Pick.app)) | apply Sel.app | (with_reducible apply Sel.grp; · repeat (first | exact PickF.h | apply PickF.t | apply PickF.a)) | (with_reducible refine Sel.nilF (by with_unfolding_all rfl) ?_) | apply Sel.drop | apply Sel.dropF)) ?_)
  rintro _ _ ⟨rfl, rfl⟩
  refine wl rfl (OP.ev rfl rfl (eNot rfl) ?_)
  refine wl_nil ?_
  refine wc_then rfl ?_
  refine wc_seq ?_
  refine wc_region ?_
  refine wl rfl (OP.ev rfl rfl (eAs rfl) ?_)
  refine wl_nil ?_
  refine wc_ret ?_
  apply at_ret rfl
  · exact (.cons (.tmp rfl) .nil)
  · exact ⟨rfl, rfl⟩
  · exact (by repeat (first | exact Sel.all | exact Sel.none | (apply Sel.one; · repeat (first | exact Pick.h | apply Pick.t | apply Pick.app)) | apply Sel.app | (with_reducible apply Sel.grp; · repeat (first | exact PickF.h | apply PickF.t | apply PickF.a)) | (with_reducible refine Sel.nilF (by with_unfolding_all rfl) ?_) | apply Sel.drop | apply Sel.dropF))
theorem image_un {p : Value} {b : Nat} (hp : Unm W0 p b) (R : Heap) : FnC W0 Try.prog 16 #[p] (uC b :: R) (fun v L' => v = .slice none 0 0 ∧ L' = uC b :: R) := by
  refine fn_of Try.func16 rfl Try.ntmps16 rfl rfl ?_
  refine wc_seq ?_
  refine wc_region ?_
  refine wl rfl (OP.ev rfl rfl (eAs rfl) ?_)
  refine wl_nil ?_
  refine wc_seq ?_
  refine wc_seq ?_
  refine wc_region ?_
  refine wl rfl (OP.ev rfl rfl (eMv rfl) ?_)
  refine wl rfl (oC rfl pf28 rfl (hp _) (by repeat (first | exact Sel.all | exact Sel.none | (apply Sel.one; · repeat (first | exact Pick.h | apply Pick.t | apply Pick.app)) | apply Sel.app | (with_reducible apply Sel.grp; · repeat (first | exact PickF.h | apply PickF.t | apply PickF.a)) | (with_reducible refine Sel.nilF (by with_unfolding_all rfl) ?_) | apply Sel.drop | apply Sel.dropF)) ?_)
  rintro _ _ ⟨rfl, rfl⟩
  refine wl rfl (OP.ev rfl rfl (eNot rfl) ?_)
  refine wl_nil ?_
  refine wc_then rfl ?_
  refine wc_seq ?_
  refine wc_region ?_
  refine wl rfl (OP.ev rfl rfl (eAs rfl) ?_)
  refine wl_nil ?_
  refine wc_ret ?_
  apply at_ret rfl
  · exact (.cons (.tmp rfl) .nil)
  · exact ⟨rfl, rfl⟩
  · exact (by repeat (first | exact Sel.all | exact Sel.none | (apply Sel.one; · repeat (first | exact Pick.h | apply Pick.t | apply Pick.app)) | apply Sel.app | (with_reducible apply Sel.grp; · repeat (first | exact PickF.h | apply PickF.t | apply PickF.a)) | (with_reducible refine Sel.nilF (by with_unfolding_all rfl) ?_) | apply Sel.drop | apply Sel.dropF))
theorem clone_un {p : Value} {b : Nat} (hp : Unm W0 p b) (R : Heap) : FnC W0 Try.prog 17 #[p] (uC b :: R) (fun v L' => v = .pointer none ∧ L' = uC b :: R) := by
  refine fn_of Try.func17 rfl Try.ntmps17 rfl rfl ?_
  refine wc_seq ?_
  refine wc_region ?_
  refine wl rfl (OP.ev rfl rfl (eAs rfl) ?_)
  refine wl_nil ?_
  refine wc_seq ?_
  refine wc_seq ?_
  refine wc_region ?_
  refine wl rfl (OP.ev rfl rfl (eMv rfl) ?_)
  refine wl rfl (oC rfl pf28 rfl (hp _) (by repeat (first | exact Sel.all | exact Sel.none | (apply Sel.one; · repeat (first | exact Pick.h | apply Pick.t | apply Pick.app)) | apply Sel.app | (with_reducible apply Sel.grp; · repeat (first | exact PickF.h | apply PickF.t | apply PickF.a)) | (with_reducible refine Sel.nilF (by with_unfolding_all rfl) ?_) | apply Sel.drop | apply Sel.dropF)) ?_)
  rintro _ _ ⟨rfl, rfl⟩
  refine wl rfl (OP.ev rfl rfl (eNot rfl) ?_)
  refine wl_nil ?_
  refine wc_then rfl ?_
  refine wc_seq ?_
  refine wc_region ?_
  refine wl rfl (OP.ev rfl rfl (eAs rfl) ?_)
  refine wl_nil ?_
  refine wc_ret ?_
  apply at_ret rfl
  · exact (.cons (.tmp rfl) .nil)
  · exact ⟨rfl, rfl⟩
  · exact (by repeat (first | exact Sel.all | exact Sel.none | (apply Sel.one; · repeat (first | exact Pick.h | apply Pick.t | apply Pick.app)) | apply Sel.app | (with_reducible apply Sel.grp; · repeat (first | exact PickF.h | apply PickF.t | apply PickF.a)) | (with_reducible refine Sel.nilF (by with_unfolding_all rfl) ?_) | apply Sel.drop | apply Sel.dropF))
theorem keep_un {p : Value} {b : Nat} (hp : Unm W0 p b) (k n a : Int) (r : Reply) (R : Heap) : FnC W0 Try.prog 15 #[p, i64 k, i64 n, i64 a, .agg (rC r)] (uC b :: R) (fun v L' => v = i64 6 ∧ L' = uC b :: R) := by
  refine fn_of Try.func15 rfl Try.ntmps15 rfl rfl ?_
  refine wc_seq ?_
  refine wc_region ?_
  refine wl rfl (oBox rfl rfl rfl fun b9 => ?_)
  refine wl rfl (OP.ev rfl rfl (eAs rfl) ?_)
  refine wl_nil ?_
  refine wc_seq ?_
  refine wc_region ?_
  refine wl rfl (OP.ev rfl rfl (eMv rfl) ?_)
  refine wl rfl (OP.ev rfl rfl (eMv rfl) ?_)
  refine wl rfl (OP.ev rfl rfl (eMv rfl) ?_)
  refine wl rfl (oC rfl pf12 rfl (ask_un hp k n _) (by repeat (first | exact Sel.all | exact Sel.none | (apply Sel.one; · repeat (first | exact Pick.h | apply Pick.t | apply Pick.app)) | apply Sel.app | (with_reducible apply Sel.grp; · repeat (first | exact PickF.h | apply PickF.t | apply PickF.a)) | (with_reducible refine Sel.nilF (by with_unfolding_all rfl) ?_) | apply Sel.drop | apply Sel.dropF)) ?_)
  rintro _ _ ⟨rfl, rfl⟩
  refine wl rfl (OP.ev rfl rfl (eMv rfl) ?_)
  refine wl rfl (OP.ev rfl rfl (eExt rfl rfl) ?_)
  refine wl rfl (OP.ev rfl rfl (eExt rfl rfl) ?_)
  refine wl rfl (OP.ev rfl rfl (eExt rfl rfl) ?_)
  refine wl rfl (oAl rfl ty33 rfl fun b11 => ?_)
  refine wl rfl (oStW ty33 rfl rfl rfl rfl (by repeat (first | exact Upd.h | apply Upd.t | apply Upd.app)) (by rfl) ?_)
  refine wl rfl (OP.ev rfl rfl (eAs rfl) ?_)
  refine wl rfl (OP.ev rfl rfl (eAs rfl) ?_)
  refine wl_nil ?_
  refine wc_seq ?_
  refine wc_block ?_
  refine wc_seq ?_
  refine wc_region ?_
  refine wl rfl (OP.ev rfl rfl (eMv rfl) ?_)
  refine wl rfl (OP.ev rfl rfl (eNe rfl rfl) ?_)
  refine wl rfl (OP.ev rfl rfl (eAs rfl) ?_)
  refine wl_nil ?_
  refine wc_then rfl ?_
  refine wc_seq ?_
  refine wc_region ?_
  refine wl rfl (OP.ev rfl rfl (eMv rfl) ?_)
  refine wl rfl (OP.ev rfl rfl (eAs rfl) ?_)
  refine wl_nil ?_
  refine wc_ret ?_
  apply at_ret rfl
  · exact (.cons (.tmp rfl) .nil)
  · exact ⟨rfl, rfl⟩
  · exact (by repeat (first | exact Sel.all | exact Sel.none | (apply Sel.one; · repeat (first | exact Pick.h | apply Pick.t | apply Pick.app)) | apply Sel.app | (with_reducible apply Sel.grp; · repeat (first | exact PickF.h | apply PickF.t | apply PickF.a)) | (with_reducible refine Sel.nilF (by with_unfolding_all rfl) ?_) | apply Sel.drop | apply Sel.dropF))

theorem nobody_ok (c : Do) : FnC W0 Try.prog 4 #[.agg (cC c)] [] (fun v L' => v = .bool true ∧ L' = []) := by
  refine fn_of Try.func4 rfl Try.ntmps4 rfl rfl ?_
  refine wc_seq ?_
  refine wc_region ?_
  refine wl rfl (oBox rfl rfl rfl fun b1 => ?_)
  refine wl rfl (OP.ev rfl rfl (eAs rfl) ?_)
  refine wl_nil ?_
  refine wc_seq ?_
  refine wc_seq ?_
  refine wc_region ?_
  refine wl rfl (OP.ev rfl rfl (eBuL (cells := [.map none]) ty45 pl45 rfl rfl) ?_)
  refine wl rfl (oBox rfl rfl rfl fun b9 => ?_)
  refine wl rfl (oBSw (vs := [_, _]) rfl ty46 ty24 rfl rfl rfl rfl rfl rfl fun b10 => ?_)
  refine wl rfl (OP.ev rfl rfl (eLenS ty46 rfl) ?_)
  refine wl rfl (OP.ev rfl rfl (eMv rfl) ?_)
  refine wl_nil ?_
  refine wc_block ?_
  refine wc_loop (σ := Nat) (fun i => [(1, ptr b1), (10, .slice (some ⟨b10, 0, none⟩) 2 2), (11, i64 2), (12, .int .i64 (i : Int))]) (fun i => (b10, .cells #[.pointer none, ptr b9] 24 (0, 0)) :: (b1, .cells (cC c) 41 (0, 0)) :: uC b9 :: []) (fun i => i ≤ 2) (fun i => 2 - i) 0 (by omega) ⟨rfl, rfl, rfl, rfl, trivial⟩ (by repeat (first | exact Sel.all | exact Sel.none | (apply Sel.one; · repeat (first | exact Pick.h | apply Pick.t | apply Pick.app)) | apply Sel.app | (with_reducible apply Sel.grp; · repeat (first | exact PickF.h | apply PickF.t | apply PickF.a)) | (with_reducible refine Sel.nilF (by with_unfolding_all rfl) ?_) | apply Sel.drop | apply Sel.dropF)) ?_
  rintro i hi
  refine wc_seq ?_
  refine wc_region ?_
  refine wl rfl (OP.evb rfl rfl (eLt rfl rfl) fun t13 h13 => ?_)
  refine wl_nil ?_
  refine wc_seq ?_
  cases t13 with
  | true =>
    try have c_t13 := dt h13
    first
    | (exfalso; omega)
    | (
      refine wc_then rfl ?_
      refine wc_skip ?_
      refine wc_seq ?_
      refine wc_block ?_
      refine wc_seq ?_
      obtain ⟨p, hp1, hp⟩ : ∃ p, [Value.pointer none, ptr b9][i]? = some p ∧ Unm W0 p b9 := by
        match i, (show i < 2 by omega) with
        | 0, _ => exact ⟨_, rfl, unm_nil b9⟩
        | 1, _ => exact ⟨_, rfl, unm_zero b9⟩
      refine wc_region ?_
      refine wl rfl (OP.ev rfl rfl (eIx ty46 ty24 rfl rfl (by omega) (by omega)) ?_)
      refine wl rfl (OP.ev rfl rfl (eLdR (off := 0) (cells := [Value.pointer none, ptr b9]) ty24 rfl rfl (Rc.of_has (by repeat (first | exact Has.h | apply Has.t | apply Has.app)) rfl) i (by simp) hp1) ?_)
      refine wl rfl (OP.ev rfl rfl (eAs rfl) ?_)
      refine wl_nil ?_
      refine wc_seq ?_
      refine wc_region ?_
      refine wl rfl (OP.ev rfl rfl (eMv rfl) ?_)
      refine wl rfl (OP.ev rfl rfl (eFld 1 ty41 rfl rfl ty3 rfl) ?_)
      first | refine wl rfl (OP.ev rfl rfl (eLd ty3 rfl rfl (by repeat (first | exact Has.h | apply Has.t | apply Has.app)) (by rfl)) ?_) | refine wl rfl (OP.ev rfl rfl (eLdO ty3 rfl rfl (by assumption)) ?_)
      refine wl rfl (OP.ev rfl rfl (eFld 2 ty41 rfl rfl ty3 rfl) ?_)
      first | refine wl rfl (OP.ev rfl rfl (eLd ty3 rfl rfl (by repeat (first | exact Has.h | apply Has.t | apply Has.app)) (by rfl)) ?_) | refine wl rfl (OP.ev rfl rfl (eLdO ty3 rfl rfl (by assumption)) ?_)
      refine wl rfl (oC rfl pf12 rfl (ask_un hp _ _ _) (by repeat (first | exact Sel.all | exact Sel.none | (apply Sel.one; · repeat (first | exact Pick.h | apply Pick.t | apply Pick.app)) | apply Sel.app | (with_reducible apply Sel.grp; · repeat (first | exact PickF.h | apply PickF.t | apply PickF.a)) | (with_reducible refine Sel.nilF (by with_unfolding_all rfl) ?_) | apply Sel.drop | apply Sel.dropF)) ?_)
      rintro _ _ ⟨rfl, rfl⟩
      refine wl rfl (OP.ev rfl rfl (eMv rfl) ?_)
      refine wl rfl (OP.ev rfl rfl (eExt rfl rfl) ?_)
      refine wl rfl (OP.ev rfl rfl (eExt rfl rfl) ?_)
      refine wl rfl (OP.ev rfl rfl (eExt rfl rfl) ?_)
      refine wl rfl (oAl rfl ty33 rfl fun b5 => ?_)
      refine wl rfl (oStW ty33 rfl rfl rfl rfl (by repeat (first | exact Upd.h | apply Upd.t | apply Upd.app)) (by rfl) ?_)
      refine wl rfl (OP.ev rfl rfl (eAs rfl) ?_)
      refine wl rfl (OP.ev rfl rfl (eAs rfl) ?_)
      refine wl_nil ?_
      refine wc_seq ?_
      refine wc_region ?_
      first | refine wl rfl (OP.ev rfl rfl (eLdW ty33 rfl rfl (by repeat (first | exact Has.h | apply Has.t | apply Has.app)) (by rfl)) ?_) | refine wl rfl (OP.ev rfl rfl (eLdA (vs := [_, _, _, _, _, _, _, _]) ty33 rfl rfl (by repeat (first | exact Has.h | apply Has.t | apply Has.app)) (by rfl) (by rfl)) ?_) | refine wl rfl (OP.ev rfl rfl (eLdAO ty33 rfl rfl (by assumption) (by assumption)) ?_)
      refine wl rfl (OP.ev rfl rfl (eBuL (cells := [.int .i64 0, .int .i64 0, .int .i64 0, .int .i64 0, .int .i64 0, .int .i64 0, .int .i64 0, .int .i64 0]) ty33 pl33 rfl rfl) ?_)
      refine wl rfl (OP.ev rfl rfl (eNeA rfl rfl (eqv_reply_same r0) rfl guard33) ?_)
      refine wl rfl (OP.ev rfl rfl (eMv rfl) ?_)
      refine wl_go rfl rfl (OP.ev rfl rfl (eMv rfl) ?_)
      refine wl rfl (OP.ev rfl rfl (ePk rfl rfl) ?_)
      refine wl rfl (OP.ev rfl rfl (eMv rfl) ?_)
      refine wl_go rfl rfl (OP.ev rfl rfl (eMv rfl) ?_)
      refine wl_go rfl rfl (OP.ev rfl rfl (eNe rfl rfl) ?_)
      refine wl rfl (OP.ev rfl rfl (ePk rfl rfl) ?_)
      refine wl rfl (OP.ev rfl rfl (eMv rfl) ?_)
      refine wl_go rfl rfl (OP.ev rfl rfl (eMv rfl) ?_)
      refine wl_go rfl rfl (OP.ev rfl rfl (eFld 3 ty41 rfl rfl ty3 rfl) ?_)
      first | refine wl_go rfl rfl (OP.ev rfl rfl (eLd ty3 rfl rfl (by repeat (first | exact Has.h | apply Has.t | apply Has.app)) (by rfl)) ?_) | refine wl_go rfl rfl (OP.ev rfl rfl (eLdO ty3 rfl rfl (by assumption)) ?_)
      refine wl_go rfl rfl (oC rfl pf14 rfl (open_un hp _ _) (by repeat (first | exact Sel.all | exact Sel.none | (apply Sel.one; · repeat (first | exact Pick.h | apply Pick.t | apply Pick.app)) | apply Sel.app | (with_reducible apply Sel.grp; · repeat (first | exact PickF.h | apply PickF.t | apply PickF.a)) | (with_reducible refine Sel.nilF (by with_unfolding_all rfl) ?_) | apply Sel.drop | apply Sel.dropF)) ?_)
      rintro _ _ ⟨rfl, rfl⟩
      refine wl_go rfl rfl (OP.ev rfl rfl (eNe rfl rfl) ?_)
      refine wl rfl (OP.ev rfl rfl (ePk rfl rfl) ?_)
      refine wl rfl (OP.ev rfl rfl (eMv rfl) ?_)
      refine wl_go rfl rfl (OP.ev rfl rfl (eMv rfl) ?_)
      refine wl_go rfl rfl (OP.ev rfl rfl (eFld 1 ty41 rfl rfl ty3 rfl) ?_)
      first | refine wl_go rfl rfl (OP.ev rfl rfl (eLd ty3 rfl rfl (by repeat (first | exact Has.h | apply Has.t | apply Has.app)) (by rfl)) ?_) | refine wl_go rfl rfl (OP.ev rfl rfl (eLdO ty3 rfl rfl (by assumption)) ?_)
      refine wl_go rfl rfl (OP.ev rfl rfl (eFld 2 ty41 rfl rfl ty3 rfl) ?_)
      first | refine wl_go rfl rfl (OP.ev rfl rfl (eLd ty3 rfl rfl (by repeat (first | exact Has.h | apply Has.t | apply Has.app)) (by rfl)) ?_) | refine wl_go rfl rfl (OP.ev rfl rfl (eLdO ty3 rfl rfl (by assumption)) ?_)
      refine wl_go rfl rfl (OP.ev rfl rfl (eFld 3 ty41 rfl rfl ty3 rfl) ?_)
      first | refine wl_go rfl rfl (OP.ev rfl rfl (eLd ty3 rfl rfl (by repeat (first | exact Has.h | apply Has.t | apply Has.app)) (by rfl)) ?_) | refine wl_go rfl rfl (OP.ev rfl rfl (eLdO ty3 rfl rfl (by assumption)) ?_)
      refine wl_go rfl rfl (OP.ev rfl rfl (eFld 4 ty41 rfl rfl ty33 rfl) ?_)
      first | refine wl_go rfl rfl (OP.ev rfl rfl (eLdW ty33 rfl rfl (by repeat (first | exact Has.h | apply Has.t | apply Has.app)) (by rfl)) ?_) | refine wl_go rfl rfl (OP.ev rfl rfl (eLdA (vs := [_, _, _, _, _, _, _, _]) ty33 rfl rfl (by repeat (first | exact Has.h | apply Has.t | apply Has.app)) (by rfl) (by rfl)) ?_) | refine wl_go rfl rfl (OP.ev rfl rfl (eLdAO ty33 rfl rfl (by assumption) (by assumption)) ?_)
      refine wl_go rfl rfl (oC rfl pf15 rfl (keep_un hp _ _ _ c.r _) (by repeat (first | exact Sel.all | exact Sel.none | (apply Sel.one; · repeat (first | exact Pick.h | apply Pick.t | apply Pick.app)) | apply Sel.app | (with_reducible apply Sel.grp; · repeat (first | exact PickF.h | apply PickF.t | apply PickF.a)) | (with_reducible refine Sel.nilF (by with_unfolding_all rfl) ?_) | apply Sel.drop | apply Sel.dropF)) ?_)
      rintro _ _ ⟨rfl, rfl⟩
      refine wl_go rfl rfl (OP.ev rfl rfl (eNe rfl rfl) ?_)
      refine wl rfl (OP.ev rfl rfl (ePk rfl rfl) ?_)
      refine wl rfl (OP.ev rfl rfl (eMv rfl) ?_)
      refine wl_go rfl rfl (OP.ev rfl rfl (eMv rfl) ?_)
      refine wl_go rfl rfl (OP.ev rfl rfl (eFld 3 ty41 rfl rfl ty3 rfl) ?_)
      first | refine wl_go rfl rfl (OP.ev rfl rfl (eLd ty3 rfl rfl (by repeat (first | exact Has.h | apply Has.t | apply Has.app)) (by rfl)) ?_) | refine wl_go rfl rfl (OP.ev rfl rfl (eLdO ty3 rfl rfl (by assumption)) ?_)
      refine wl_go rfl rfl (oC rfl pf11 rfl (expire_un hp _ _) (by repeat (first | exact Sel.all | exact Sel.none | (apply Sel.one; · repeat (first | exact Pick.h | apply Pick.t | apply Pick.app)) | apply Sel.app | (with_reducible apply Sel.grp; · repeat (first | exact PickF.h | apply PickF.t | apply PickF.a)) | (with_reducible refine Sel.nilF (by with_unfolding_all rfl) ?_) | apply Sel.drop | apply Sel.dropF)) ?_)
      rintro _ _ ⟨rfl, rfl⟩
      refine wl_go rfl rfl (OP.ev rfl rfl (eNe rfl rfl) ?_)
      refine wl rfl (OP.ev rfl rfl (ePk rfl rfl) ?_)
      refine wl rfl (OP.ev rfl rfl (eMv rfl) ?_)
      refine wl_go rfl rfl (OP.ev rfl rfl (eMv rfl) ?_)
      refine wl_go rfl rfl (oC rfl pf10 rfl (seats_un hp _) (by repeat (first | exact Sel.all | exact Sel.none | (apply Sel.one; · repeat (first | exact Pick.h | apply Pick.t | apply Pick.app)) | apply Sel.app | (with_reducible apply Sel.grp; · repeat (first | exact PickF.h | apply PickF.t | apply PickF.a)) | (with_reducible refine Sel.nilF (by with_unfolding_all rfl) ?_) | apply Sel.drop | apply Sel.dropF)) ?_)
      rintro _ _ ⟨rfl, rfl⟩
      refine wl_go rfl rfl (OP.ev rfl rfl (eLenS ty26 rfl) ?_)
      refine wl_go rfl rfl (OP.ev rfl rfl (eMv rfl) ?_)
      refine wl_go rfl rfl (oC rfl pf16 rfl (image_un hp _) (by repeat (first | exact Sel.all | exact Sel.none | (apply Sel.one; · repeat (first | exact Pick.h | apply Pick.t | apply Pick.app)) | apply Sel.app | (with_reducible apply Sel.grp; · repeat (first | exact PickF.h | apply PickF.t | apply PickF.a)) | (with_reducible refine Sel.nilF (by with_unfolding_all rfl) ?_) | apply Sel.drop | apply Sel.dropF)) ?_)
      rintro _ _ ⟨rfl, rfl⟩
      refine wl_go rfl rfl (OP.ev rfl rfl (eLenS ty49 rfl) ?_)
      first | refine wl_go rfl rfl (OP.ev rfl rfl (eAdd rfl rfl (by omega)) ?_) | refine wl_go rfl rfl (OP.ev rfl rfl (eAddW rfl rfl) ?_)
      refine wl_go rfl rfl (OP.ev rfl rfl (eGt rfl rfl) ?_)
      refine wl rfl (OP.ev rfl rfl (ePk rfl rfl) ?_)
      refine wl rfl (OP.ev rfl rfl (eMv rfl) ?_)
      refine wl_go rfl rfl (OP.ev rfl rfl (eMv rfl) ?_)
      refine wl_go rfl rfl (oC rfl pf17 rfl (clone_un hp _) (by repeat (first | exact Sel.all | exact Sel.none | (apply Sel.one; · repeat (first | exact Pick.h | apply Pick.t | apply Pick.app)) | apply Sel.app | (with_reducible apply Sel.grp; · repeat (first | exact PickF.h | apply PickF.t | apply PickF.a)) | (with_reducible refine Sel.nilF (by with_unfolding_all rfl) ?_) | apply Sel.drop | apply Sel.dropF)) ?_)
      rintro _ _ ⟨rfl, rfl⟩
      first | refine wl_go rfl rfl (OP.ev rfl rfl (eNeP0 rfl rfl ty24) ?_) | refine wl_go rfl rfl (OP.ev rfl rfl (eNeP1 rfl rfl ty24) ?_)
      refine wl rfl (OP.ev rfl rfl (ePk rfl rfl) ?_)
      refine wl_nil ?_
      refine wc_else rfl ?_
      refine wc_skip ?_
      refine wc_region ?_
      first | refine wl rfl (OP.ev rfl rfl (eAdd rfl rfl (by omega)) ?_) | refine wl rfl (OP.ev rfl rfl (eAddW rfl rfl) ?_)
      refine wl rfl (OP.ev rfl rfl (eMv rfl) ?_)
      refine wl_nil ?_
      exact ⟨i + 1, by omega, by omega, ⟨rfl, rfl, rfl, rfl, trivial⟩, (by repeat (first | exact Sel.all | exact Sel.none | (apply Sel.one; · repeat (first | exact Pick.h | apply Pick.t | apply Pick.app)) | apply Sel.app | (with_reducible apply Sel.grp; · repeat (first | exact PickF.h | apply PickF.t | apply PickF.a)) | (with_reducible refine Sel.nilF (by with_unfolding_all rfl) ?_) | apply Sel.drop | apply Sel.dropF))⟩)
  | false =>
    try have c_t13 := df h13
    first
    | (exfalso; omega)
    | (
      refine wc_else rfl ?_
      refine wc_exit rfl ?_
      refine wc_seq ?_
      refine wc_region ?_
      refine wl rfl (oC rfl pf8 rfl (awake_ok _) (by repeat (first | exact Sel.all | exact Sel.none | (apply Sel.one; · repeat (first | exact Pick.h | apply Pick.t | apply Pick.app)) | apply Sel.app | (with_reducible apply Sel.grp; · repeat (first | exact PickF.h | apply PickF.t | apply PickF.a)) | (with_reducible refine Sel.nilF (by with_unfolding_all rfl) ?_) | apply Sel.drop | apply Sel.dropF)) ?_)
      rintro _ _ ⟨rfl, rfl⟩
      refine wl rfl (OP.ev rfl rfl (eAs rfl) ?_)
      refine wl_nil ?_
      refine wc_ret ?_
      apply at_ret rfl
      · exact (.cons (.tmp rfl) .nil)
      · exact ⟨rfl, rfl⟩
      · exact (by repeat (first | exact Sel.all | exact Sel.none | (apply Sel.one; · repeat (first | exact Pick.h | apply Pick.t | apply Pick.app)) | apply Sel.app | (with_reducible apply Sel.grp; · repeat (first | exact PickF.h | apply PickF.t | apply PickF.a)) | (with_reducible refine Sel.nilF (by with_unfolding_all rfl) ?_) | apply Sel.drop | apply Sel.dropF)))
end Go.Proofs.Ytbppeijcfkdhjaa
