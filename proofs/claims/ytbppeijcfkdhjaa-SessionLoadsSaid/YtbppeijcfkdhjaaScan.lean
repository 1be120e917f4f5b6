/- The contracts of the package wire's Scan. -/
import Derived.Test.YtbppeijcfkdhjaaRdP
import Derived.Test.YtbppeijcfkdhjaaOps5
namespace Go.Proofs.Ytbppeijcfkdhjaa
open Go Eng
set_option linter.unusedVariables false
set_option maxRecDepth 4000
variable {W0 : World}

abbrev sA (b8 b7 : Nat) (e : Int) : Nat × Obj := (b8, .cells #[ptr b7, .int .i64 e] 101 (0, 0))
abbrev sS (b7 : Nat) (v : Value) (k : Nat) : Nat × Obj := (b7, .cells #[v, .int .i64 (k : Int)] 99 (0, 0))

theorem smade_ok (b8 b7 : Nat) (e : Int) (R : Heap) : FnC W0 Try.prog 52 #[ptr b8] (sA b8 b7 e :: R) (fun v L' => v = .bool true ∧ L' = sA b8 b7 e :: R) := by
  refine fn_of Try.func52 rfl Try.ntmps52 rfl rfl ?_
  refine wc_seq ?_
  refine wc_region ?_
  refine wl rfl (OP.ev rfl rfl (eAs rfl) ?_)
  refine wl_nil ?_
  refine wc_seq ?_
  refine wc_region ?_
  refine wl rfl (OP.ev rfl rfl (eMv rfl) ?_)
  first | refine wl rfl (OP.ev rfl rfl (eNeP0 rfl rfl ty80) ?_) | refine wl rfl (OP.ev rfl rfl (eNeP1 rfl rfl ty80) ?_)
  refine wl rfl (OP.ev rfl rfl (eMv rfl) ?_)
  refine wl_go rfl rfl (OP.ev rfl rfl (eMv rfl) ?_)
  refine wl_go rfl rfl (OP.ev rfl rfl (eNil rfl) ?_)
  refine wl_go rfl rfl (OP.ev rfl rfl (eFld 0 ty101 rfl rfl ty97 rfl) ?_)
  first | refine wl_go rfl rfl (OP.ev rfl rfl (eLd ty97 rfl rfl (by repeat (first | exact Has.h | apply Has.t | apply Has.app)) (by rfl)) ?_) | refine wl_go rfl rfl (OP.ev rfl rfl (eLdO ty97 rfl rfl (by assumption)) ?_)
  first | refine wl_go rfl rfl (OP.ev rfl rfl (eNeP0 rfl rfl ty97) ?_) | refine wl_go rfl rfl (OP.ev rfl rfl (eNeP1 rfl rfl ty97) ?_)
  refine wl rfl (OP.ev rfl rfl (ePk rfl rfl) ?_)
  refine wl rfl (OP.ev rfl rfl (eAs rfl) ?_)
  refine wl_nil ?_
  refine wc_ret ?_
  apply at_ret rfl
  · exact (.cons (.tmp rfl) .nil)
  · exact ⟨rfl, rfl⟩
  · exact (by repeat (first | exact Sel.all | exact Sel.none | (apply Sel.one; · repeat (first | exact Pick.h | apply Pick.t | apply Pick.app)) | apply Sel.app | (with_reducible apply Sel.grp; · repeat (first | exact PickF.h | apply PickF.t | apply PickF.a)) | (with_reducible refine Sel.nilF (by with_unfolding_all rfl) ?_) | apply Sel.drop | apply Sel.dropF))

theorem serr_ok (b8 b7 : Nat) (e : Int) (R : Heap) : FnC W0 Try.prog 42 #[ptr b8] (sA b8 b7 e :: R) (fun v L' => v = i64 e ∧ L' = sA b8 b7 e :: R) := by
  refine fn_of Try.func42 rfl Try.ntmps42 rfl rfl ?_
  refine wc_seq ?_
  refine wc_region ?_
  refine wl rfl (OP.ev rfl rfl (eAs rfl) ?_)
  refine wl_nil ?_
  refine wc_seq ?_
  refine wc_seq ?_
  refine wc_region ?_
  refine wl rfl (OP.ev rfl rfl (eMv rfl) ?_)
  refine wl rfl (oC rfl pf52 rfl (smade_ok b8 b7 e _) (by repeat (first | exact Sel.all | exact Sel.none | (apply Sel.one; · repeat (first | exact Pick.h | apply Pick.t | apply Pick.app)) | apply Sel.app | (with_reducible apply Sel.grp; · repeat (first | exact PickF.h | apply PickF.t | apply PickF.a)) | (with_reducible refine Sel.nilF (by with_unfolding_all rfl) ?_) | apply Sel.drop | apply Sel.dropF)) ?_)
  rintro _ _ ⟨rfl, rfl⟩
  refine wl rfl (OP.ev rfl rfl (eNot rfl) ?_)
  refine wl_nil ?_
  refine wc_else rfl ?_
  refine wc_skip ?_
  refine wc_seq ?_
  refine wc_region ?_
  refine wl rfl (OP.ev rfl rfl (eMv rfl) ?_)
  refine wl rfl (OP.ev rfl rfl (eNil rfl) ?_)
  refine wl rfl (OP.ev rfl rfl (eFld 1 ty101 rfl rfl ty29 rfl) ?_)
  first | refine wl rfl (OP.ev rfl rfl (eLd ty29 rfl rfl (by repeat (first | exact Has.h | apply Has.t | apply Has.app)) (by rfl)) ?_) | refine wl rfl (OP.ev rfl rfl (eLdO ty29 rfl rfl (by assumption)) ?_)
  refine wl rfl (OP.ev rfl rfl (eAs rfl) ?_)
  refine wl_nil ?_
  refine wc_ret ?_
  apply at_ret rfl
  · exact (.cons (.tmp rfl) .nil)
  · exact ⟨rfl, rfl⟩
  · exact (by repeat (first | exact Sel.all | exact Sel.none | (apply Sel.one; · repeat (first | exact Pick.h | apply Pick.t | apply Pick.app)) | apply Sel.app | (with_reducible apply Sel.grp; · repeat (first | exact PickF.h | apply PickF.t | apply PickF.a)) | (with_reducible refine Sel.nilF (by with_unfolding_all rfl) ?_) | apply Sel.drop | apply Sel.dropF))

theorem sfail_ok (b8 b7 : Nat) (e x : Int) (R : Heap) : FnC W0 Try.prog 54 #[ptr b8, i64 x] (sA b8 b7 e :: R) (fun v L' => v = i64 0 ∧ L' = sA b8 b7 (if e = 0 then x else e) :: R) := by
  by_cases he : e = 0
  · rw [if_pos he]
    refine fn_of Try.func54 rfl Try.ntmps54 rfl rfl ?_
    refine wc_seq ?_
    refine wc_region ?_
    refine wl rfl (OP.ev rfl rfl (eAs rfl) ?_)
    refine wl_nil ?_
    refine wc_seq ?_
    refine wc_seq ?_
    refine wc_region ?_
    refine wl rfl (OP.ev rfl rfl (eMv rfl) ?_)
    refine wl rfl (oC rfl pf52 rfl (smade_ok b8 b7 e _) (by repeat (first | exact Sel.all | exact Sel.none | (apply Sel.one; · repeat (first | exact Pick.h | apply Pick.t | apply Pick.app)) | apply Sel.app | (with_reducible apply Sel.grp; · repeat (first | exact PickF.h | apply PickF.t | apply PickF.a)) | (with_reducible refine Sel.nilF (by with_unfolding_all rfl) ?_) | apply Sel.drop | apply Sel.dropF)) ?_)
    rintro _ _ ⟨rfl, rfl⟩
    refine wl rfl (OP.ev rfl rfl (eMv rfl) ?_)
    refine wl_go rfl rfl (OP.ev rfl rfl (eMv rfl) ?_)
    refine wl_go rfl rfl (OP.ev rfl rfl (eNil rfl) ?_)
    refine wl_go rfl rfl (OP.ev rfl rfl (eFld 1 ty101 rfl rfl ty29 rfl) ?_)
    first | refine wl_go rfl rfl (OP.ev rfl rfl (eLd ty29 rfl rfl (by repeat (first | exact Has.h | apply Has.t | apply Has.app)) (by rfl)) ?_) | refine wl_go rfl rfl (OP.ev rfl rfl (eLdO ty29 rfl rfl (by assumption)) ?_)
    refine wl_go rfl rfl (OP.evb rfl rfl (eEq rfl rfl) fun t12 h12 => ?_)
    refine wl rfl (OP.ev rfl rfl (ePk rfl rfl) ?_)
    refine wl_nil ?_
    cases t12 with
    | true =>
      try have c_t12 := dt h12
      first
      | (exfalso; omega)
      | (
        refine wc_then rfl ?_
        refine wc_region ?_
        refine wl rfl (OP.ev rfl rfl (eMv rfl) ?_)
        refine wl rfl (OP.ev rfl rfl (eMv rfl) ?_)
        refine wl rfl (OP.ev rfl rfl (eNil rfl) ?_)
        refine wl rfl (OP.ev rfl rfl (eFld 1 ty101 rfl rfl ty29 rfl) ?_)
        refine wl rfl (oSt ty29 rfl rfl rfl rfl (by repeat (first | exact Upd.h | apply Upd.t | apply Upd.app)) (by first | decide | simp) (by rfl) ?_)
        refine wl_nil ?_
        refine wc_seq ?_
        refine wc_region ?_
        refine wl rfl (OP.ev rfl rfl (eAs rfl) ?_)
        refine wl_nil ?_
        refine wc_ret ?_
        apply at_ret rfl
        · exact (.cons (.tmp rfl) .nil)
        · exact ⟨rfl, rfl⟩
        · exact (by repeat (first | exact Sel.all | exact Sel.none | (apply Sel.one; · repeat (first | exact Pick.h | apply Pick.t | apply Pick.app)) | apply Sel.app | (with_reducible apply Sel.grp; · repeat (first | exact PickF.h | apply PickF.t | apply PickF.a)) | (with_reducible refine Sel.nilF (by with_unfolding_all rfl) ?_) | apply Sel.drop | apply Sel.dropF)))
    | false =>
      try have c_t12 := df h12
      first
      | (exfalso; omega)
      | (
        refine wc_else rfl ?_
        refine wc_skip ?_
        refine wc_seq ?_
        refine wc_region ?_
        refine wl rfl (OP.ev rfl rfl (eAs rfl) ?_)
        refine wl_nil ?_
        refine wc_ret ?_
        apply at_ret rfl
        · exact (.cons (.tmp rfl) .nil)
        · exact ⟨rfl, rfl⟩
        · exact (by repeat (first | exact Sel.all | exact Sel.none | (apply Sel.one; · repeat (first | exact Pick.h | apply Pick.t | apply Pick.app)) | apply Sel.app | (with_reducible apply Sel.grp; · repeat (first | exact PickF.h | apply PickF.t | apply PickF.a)) | (with_reducible refine Sel.nilF (by with_unfolding_all rfl) ?_) | apply Sel.drop | apply Sel.dropF)))
  · rw [if_neg he]
    refine fn_of Try.func54 rfl Try.ntmps54 rfl rfl ?_
    refine wc_seq ?_
    refine wc_region ?_
    refine wl rfl (OP.ev rfl rfl (eAs rfl) ?_)
    refine wl_nil ?_
    refine wc_seq ?_
    refine wc_seq ?_
    refine wc_region ?_
    refine wl rfl (OP.ev rfl rfl (eMv rfl) ?_)
    refine wl rfl (oC rfl pf52 rfl (smade_ok b8 b7 e _) (by repeat (first | exact Sel.all | exact Sel.none | (apply Sel.one; · repeat (first | exact Pick.h | apply Pick.t | apply Pick.app)) | apply Sel.app | (with_reducible apply Sel.grp; · repeat (first | exact PickF.h | apply PickF.t | apply PickF.a)) | (with_reducible refine Sel.nilF (by with_unfolding_all rfl) ?_) | apply Sel.drop | apply Sel.dropF)) ?_)
    rintro _ _ ⟨rfl, rfl⟩
    refine wl rfl (OP.ev rfl rfl (eMv rfl) ?_)
    refine wl_go rfl rfl (OP.ev rfl rfl (eMv rfl) ?_)
    refine wl_go rfl rfl (OP.ev rfl rfl (eNil rfl) ?_)
    refine wl_go rfl rfl (OP.ev rfl rfl (eFld 1 ty101 rfl rfl ty29 rfl) ?_)
    first | refine wl_go rfl rfl (OP.ev rfl rfl (eLd ty29 rfl rfl (by repeat (first | exact Has.h | apply Has.t | apply Has.app)) (by rfl)) ?_) | refine wl_go rfl rfl (OP.ev rfl rfl (eLdO ty29 rfl rfl (by assumption)) ?_)
    refine wl_go rfl rfl (OP.evb rfl rfl (eEq rfl rfl) fun t12 h12 => ?_)
    refine wl rfl (OP.ev rfl rfl (ePk rfl rfl) ?_)
    refine wl_nil ?_
    cases t12 with
    | true =>
      try have c_t12 := dt h12
      first
      | (exfalso; omega)
      | (
        refine wc_then rfl ?_
        refine wc_region ?_
        refine wl rfl (OP.ev rfl rfl (eMv rfl) ?_)
        refine wl rfl (OP.ev rfl rfl (eMv rfl) ?_)
        refine wl rfl (OP.ev rfl rfl (eNil rfl) ?_)
        refine wl rfl (OP.ev rfl rfl (eFld 1 ty101 rfl rfl ty29 rfl) ?_)
        refine wl rfl (oSt ty29 rfl rfl rfl rfl (by repeat (first | exact Upd.h | apply Upd.t | apply Upd.app)) (by first | decide | simp) (by rfl) ?_)
        refine wl_nil ?_
        refine wc_seq ?_
        refine wc_region ?_
        refine wl rfl (OP.ev rfl rfl (eAs rfl) ?_)
        refine wl_nil ?_
        refine wc_ret ?_
        apply at_ret rfl
        · exact (.cons (.tmp rfl) .nil)
        · exact ⟨rfl, rfl⟩
        · exact (by repeat (first | exact Sel.all | exact Sel.none | (apply Sel.one; · repeat (first | exact Pick.h | apply Pick.t | apply Pick.app)) | apply Sel.app | (with_reducible apply Sel.grp; · repeat (first | exact PickF.h | apply PickF.t | apply PickF.a)) | (with_reducible refine Sel.nilF (by with_unfolding_all rfl) ?_) | apply Sel.drop | apply Sel.dropF)))
    | false =>
      try have c_t12 := df h12
      first
      | (exfalso; omega)
      | (
        refine wc_else rfl ?_
        refine wc_skip ?_
        refine wc_seq ?_
        refine wc_region ?_
        refine wl rfl (OP.ev rfl rfl (eAs rfl) ?_)
        refine wl_nil ?_
        refine wc_ret ?_
        apply at_ret rfl
        · exact (.cons (.tmp rfl) .nil)
        · exact ⟨rfl, rfl⟩
        · exact (by repeat (first | exact Sel.all | exact Sel.none | (apply Sel.one; · repeat (first | exact Pick.h | apply Pick.t | apply Pick.app)) | apply Sel.app | (with_reducible apply Sel.grp; · repeat (first | exact PickF.h | apply PickF.t | apply PickF.a)) | (with_reducible refine Sel.nilF (by with_unfolding_all rfl) ?_) | apply Sel.drop | apply Sel.dropF)))

theorem srest_ok (b7 : Nat) (v : Value) (cs : Array Value) (B : List Int) (k : Nat) (hrow : Row v cs 1 B.length (byteV B)) (hk : k ≤ B.length) (R : Heap) :
    FnC W0 Try.prog 53 #[ptr b7] (sS b7 v k :: (ownH v cs 5 ++ R)) (fun v' L' => L' = sS b7 v k :: (ownH v cs 5 ++ R) ∧ Rs W0 (sS b7 v k :: (ownH v cs 5 ++ R)) v' 1 (B.length - k) (byteV (B.drop k))) := by
  refine fn_of Try.func53 rfl Try.ntmps53 rfl rfl ?_
  refine wc_seq ?_
  refine wc_region ?_
  refine wl rfl (OP.ev rfl rfl (eAs rfl) ?_)
  refine wl_nil ?_
  refine wc_seq ?_
  refine wc_draw (sS b7 v k :: (ownH v cs 5 ++ R)) rfl ?_
  refine wa_take 0 (by kernel_rfl) rfl rfl rfl rfl (by repeat (first | exact Sel.all | exact Sel.none | (apply Sel.one; · repeat (first | exact Pick.h | apply Pick.t | apply Pick.app)) | apply Sel.app | (with_reducible apply Sel.grp; · repeat (first | exact PickF.h | apply PickF.t | apply PickF.a)) | (with_reducible refine Sel.nilF (by with_unfolding_all rfl) ?_) | apply Sel.drop | apply Sel.dropF)) (eMv rfl) ?_
  refine wa_take 1 (by kernel_rfl) rfl rfl rfl rfl (by repeat (first | exact Sel.all | exact Sel.none | (apply Sel.one; · repeat (first | exact Pick.h | apply Pick.t | apply Pick.app)) | apply Sel.app | (with_reducible apply Sel.grp; · repeat (first | exact PickF.h | apply PickF.t | apply PickF.a)) | (with_reducible refine Sel.nilF (by with_unfolding_all rfl) ?_) | apply Sel.drop | apply Sel.dropF)) (eNil rfl) ?_
  refine wa_take 2 (by kernel_rfl) rfl rfl rfl rfl (by repeat (first | exact Sel.all | exact Sel.none | (apply Sel.one; · repeat (first | exact Pick.h | apply Pick.t | apply Pick.app)) | apply Sel.app | (with_reducible apply Sel.grp; · repeat (first | exact PickF.h | apply PickF.t | apply PickF.a)) | (with_reducible refine Sel.nilF (by with_unfolding_all rfl) ?_) | apply Sel.drop | apply Sel.dropF)) (eFld 0 ty99 rfl rfl ty49 rfl) ?_
  first | refine wa_take 3 (by kernel_rfl) rfl rfl rfl rfl (by repeat (first | exact Sel.all | exact Sel.none | (apply Sel.one; · repeat (first | exact Pick.h | apply Pick.t | apply Pick.app)) | apply Sel.app | (with_reducible apply Sel.grp; · repeat (first | exact PickF.h | apply PickF.t | apply PickF.a)) | (with_reducible refine Sel.nilF (by with_unfolding_all rfl) ?_) | apply Sel.drop | apply Sel.dropF)) (eLd ty49 rfl rfl (by repeat (first | exact Has.h | apply Has.t | apply Has.app)) (by rfl)) ?_ | refine wa_take 3 (by kernel_rfl) rfl rfl rfl rfl (by repeat (first | exact Sel.all | exact Sel.none | (apply Sel.one; · repeat (first | exact Pick.h | apply Pick.t | apply Pick.app)) | apply Sel.app | (with_reducible apply Sel.grp; · repeat (first | exact PickF.h | apply PickF.t | apply PickF.a)) | (with_reducible refine Sel.nilF (by with_unfolding_all rfl) ?_) | apply Sel.drop | apply Sel.dropF)) (eLdO ty49 rfl rfl (by assumption)) ?_
  refine wa_take 4 (by kernel_rfl) rfl rfl rfl rfl (by repeat (first | exact Sel.all | exact Sel.none | (apply Sel.one; · repeat (first | exact Pick.h | apply Pick.t | apply Pick.app)) | apply Sel.app | (with_reducible apply Sel.grp; · repeat (first | exact PickF.h | apply PickF.t | apply PickF.a)) | (with_reducible refine Sel.nilF (by with_unfolding_all rfl) ?_) | apply Sel.drop | apply Sel.dropF)) (eMv rfl) ?_
  refine wa_take 5 (by kernel_rfl) rfl rfl rfl rfl (by repeat (first | exact Sel.all | exact Sel.none | (apply Sel.one; · repeat (first | exact Pick.h | apply Pick.t | apply Pick.app)) | apply Sel.app | (with_reducible apply Sel.grp; · repeat (first | exact PickF.h | apply PickF.t | apply PickF.a)) | (with_reducible refine Sel.nilF (by with_unfolding_all rfl) ?_) | apply Sel.drop | apply Sel.dropF)) (eNil rfl) ?_
  refine wa_take 6 (by kernel_rfl) rfl rfl rfl rfl (by repeat (first | exact Sel.all | exact Sel.none | (apply Sel.one; · repeat (first | exact Pick.h | apply Pick.t | apply Pick.app)) | apply Sel.app | (with_reducible apply Sel.grp; · repeat (first | exact PickF.h | apply PickF.t | apply PickF.a)) | (with_reducible refine Sel.nilF (by with_unfolding_all rfl) ?_) | apply Sel.drop | apply Sel.dropF)) (eFld 1 ty99 rfl rfl ty3 rfl) ?_
  first | refine wa_take 7 (by kernel_rfl) rfl rfl rfl rfl (by repeat (first | exact Sel.all | exact Sel.none | (apply Sel.one; · repeat (first | exact Pick.h | apply Pick.t | apply Pick.app)) | apply Sel.app | (with_reducible apply Sel.grp; · repeat (first | exact PickF.h | apply PickF.t | apply PickF.a)) | (with_reducible refine Sel.nilF (by with_unfolding_all rfl) ?_) | apply Sel.drop | apply Sel.dropF)) (eLd ty3 rfl rfl (by repeat (first | exact Has.h | apply Has.t | apply Has.app)) (by rfl)) ?_ | refine wa_take 7 (by kernel_rfl) rfl rfl rfl rfl (by repeat (first | exact Sel.all | exact Sel.none | (apply Sel.one; · repeat (first | exact Pick.h | apply Pick.t | apply Pick.app)) | apply Sel.app | (with_reducible apply Sel.grp; · repeat (first | exact PickF.h | apply PickF.t | apply PickF.a)) | (with_reducible refine Sel.nilF (by with_unfolding_all rfl) ?_) | apply Sel.drop | apply Sel.dropF)) (eLdO ty3 rfl rfl (by assumption)) ?_
  refine wa_all [8] (by kernel_rfl) rfl (wall_one 8 rfl rfl ?_ trivial)
  refine oSlL rfl ty49 ty5 rfl (hrow.rs (by repeat (first | exact At.cell | exact At.h | apply At.t | apply At.a))) rfl (by omega) (by omega) ?_
  rintro v11 hrs
  rw [Int.toNat_natCast, Nat.mul_one, show (byteV B).drop k = byteV (B.drop k) by simp [byteV]] at hrs
  refine ⟨(by repeat (first | exact Sel.all | exact Sel.none | (apply Sel.one; · repeat (first | exact Pick.h | apply Pick.t | apply Pick.app)) | apply Sel.app | (with_reducible apply Sel.grp; · repeat (first | exact PickF.h | apply PickF.t | apply PickF.a)) | (with_reducible refine Sel.nilF (by with_unfolding_all rfl) ?_) | apply Sel.drop | apply Sel.dropF)), ?_⟩
  refine wa_take 9 (by kernel_rfl) rfl rfl rfl rfl (by repeat (first | exact Sel.all | exact Sel.none | (apply Sel.one; · repeat (first | exact Pick.h | apply Pick.t | apply Pick.app)) | apply Sel.app | (with_reducible apply Sel.grp; · repeat (first | exact PickF.h | apply PickF.t | apply PickF.a)) | (with_reducible refine Sel.nilF (by with_unfolding_all rfl) ?_) | apply Sel.drop | apply Sel.dropF)) (eAs rfl) ?_
  refine wa_nil (by kernel_rfl) ?_
  refine wc_ret ?_
  apply at_ret rfl
  · exact (.cons (.tmp rfl) .nil)
  · exact ⟨rfl, hrs⟩
  · exact (by repeat (first | exact Sel.all | exact Sel.none | (apply Sel.one; · repeat (first | exact Pick.h | apply Pick.t | apply Pick.app)) | apply Sel.app | (with_reducible apply Sel.grp; · repeat (first | exact PickF.h | apply PickF.t | apply PickF.a)) | (with_reducible refine Sel.nilF (by with_unfolding_all rfl) ?_) | apply Sel.drop | apply Sel.dropF))

theorem sleft_ok (b8 b7 : Nat) (e : Int) (v : Value) (cs : Array Value) (B : List Int) (k : Nat) (hrow : Row v cs 1 B.length (byteV B)) (hk : k ≤ B.length) (R : Heap) :
    FnC W0 Try.prog 55 #[ptr b8] (sA b8 b7 e :: sS b7 v k :: (ownH v cs 5 ++ R)) (fun v' L' => v' = i64 ((B.length - k : Nat) : Int) ∧ L' = sA b8 b7 e :: sS b7 v k :: (ownH v cs 5 ++ R)) := by
  refine fn_of Try.func55 rfl Try.ntmps55 rfl rfl ?_
  refine wc_seq ?_
  refine wc_region ?_
  refine wl rfl (OP.ev rfl rfl (eAs rfl) ?_)
  refine wl_nil ?_
  refine wc_seq ?_
  refine wc_seq ?_
  refine wc_region ?_
  refine wl rfl (OP.ev rfl rfl (eMv rfl) ?_)
  refine wl rfl (oC rfl pf52 rfl (smade_ok b8 b7 e _) (by repeat (first | exact Sel.all | exact Sel.none | (apply Sel.one; · repeat (first | exact Pick.h | apply Pick.t | apply Pick.app)) | apply Sel.app | (with_reducible apply Sel.grp; · repeat (first | exact PickF.h | apply PickF.t | apply PickF.a)) | (with_reducible refine Sel.nilF (by with_unfolding_all rfl) ?_) | apply Sel.drop | apply Sel.dropF)) ?_)
  rintro _ _ ⟨rfl, rfl⟩
  refine wl rfl (OP.ev rfl rfl (eNot rfl) ?_)
  refine wl_nil ?_
  refine wc_else rfl ?_
  refine wc_skip ?_
  refine wc_seq ?_
  refine wc_region ?_
  refine wl rfl (OP.ev rfl rfl (eMv rfl) ?_)
  refine wl rfl (OP.ev rfl rfl (eNil rfl) ?_)
  refine wl rfl (OP.ev rfl rfl (eFld 0 ty101 rfl rfl ty97 rfl) ?_)
  first | refine wl rfl (OP.ev rfl rfl (eLd ty97 rfl rfl (by repeat (first | exact Has.h | apply Has.t | apply Has.app)) (by rfl)) ?_) | refine wl rfl (OP.ev rfl rfl (eLdO ty97 rfl rfl (by assumption)) ?_)
  refine wl rfl (oC rfl pf53 rfl (srest_ok b7 v cs B k hrow hk _) (by repeat (first | exact Sel.all | exact Sel.none | (apply Sel.one; · repeat (first | exact Pick.h | apply Pick.t | apply Pick.app)) | apply Sel.app | (with_reducible apply Sel.grp; · repeat (first | exact PickF.h | apply PickF.t | apply PickF.a)) | (with_reducible refine Sel.nilF (by with_unfolding_all rfl) ?_) | apply Sel.drop | apply Sel.dropF)) ?_)
  rintro v10 _ ⟨rfl, hrs⟩
  refine wl rfl (OP.ev rfl rfl (eLenR ty49 rfl hrs) ?_)
  refine wl rfl (OP.ev rfl rfl (eAs rfl) ?_)
  refine wl_nil ?_
  refine wc_ret ?_
  apply at_ret rfl
  · exact (.cons (.tmp rfl) .nil)
  · exact ⟨rfl, rfl⟩
  · exact (by repeat (first | exact Sel.all | exact Sel.none | (apply Sel.one; · repeat (first | exact Pick.h | apply Pick.t | apply Pick.app)) | apply Sel.app | (with_reducible apply Sel.grp; · repeat (first | exact PickF.h | apply PickF.t | apply PickF.a)) | (with_reducible refine Sel.nilF (by with_unfolding_all rfl) ?_) | apply Sel.drop | apply Sel.dropF))

theorem send_ok (b8 b7 : Nat) (e : Int) (v : Value) (cs : Array Value) (B : List Int) (k : Nat) (hrow : Row v cs 1 B.length (byteV B)) (hk : k ≤ B.length) (R : Heap) :
    FnC W0 Try.prog 44 #[ptr b8] (sA b8 b7 e :: sS b7 v k :: (ownH v cs 5 ++ R)) (fun v' L' => ∃ e', (e' = if e = 0 ∧ k < B.length then 3 else e) ∧ v' = i64 e' ∧ L' = sA b8 b7 e' :: sS b7 v k :: (ownH v cs 5 ++ R)) := by
  refine fn_of Try.func44 rfl Try.ntmps44 rfl rfl ?_
  refine wc_seq ?_
  refine wc_region ?_
  refine wl rfl (OP.ev rfl rfl (eAs rfl) ?_)
  refine wl_nil ?_
  refine wc_seq ?_
  refine wc_seq ?_
  refine wc_region ?_
  refine wl rfl (OP.ev rfl rfl (eMv rfl) ?_)
  refine wl rfl (oC rfl pf42 rfl (serr_ok b8 b7 e _) (by repeat (first | exact Sel.all | exact Sel.none | (apply Sel.one; · repeat (first | exact Pick.h | apply Pick.t | apply Pick.app)) | apply Sel.app | (with_reducible apply Sel.grp; · repeat (first | exact PickF.h | apply PickF.t | apply PickF.a)) | (with_reducible refine Sel.nilF (by with_unfolding_all rfl) ?_) | apply Sel.drop | apply Sel.dropF)) ?_)
  rintro _ _ ⟨rfl, rfl⟩
  refine wl rfl (OP.evb rfl rfl (eEq rfl rfl) fun t5 h5 => ?_)
  refine wl rfl (OP.ev rfl rfl (eMv rfl) ?_)
  cases t5 with
  | true =>
    try have c_t5 := dt h5
    first
    | (exfalso; omega)
    | (
      refine wl_go rfl rfl (OP.ev rfl rfl (eMv rfl) ?_)
      refine wl_go rfl rfl (oC rfl pf55 rfl (sleft_ok b8 b7 e v cs B k hrow hk _) (by repeat (first | exact Sel.all | exact Sel.none | (apply Sel.one; · repeat (first | exact Pick.h | apply Pick.t | apply Pick.app)) | apply Sel.app | (with_reducible apply Sel.grp; · repeat (first | exact PickF.h | apply PickF.t | apply PickF.a)) | (with_reducible refine Sel.nilF (by with_unfolding_all rfl) ?_) | apply Sel.drop | apply Sel.dropF)) ?_)
      rintro _ _ ⟨rfl, rfl⟩
      refine wl_go rfl rfl (OP.evb rfl rfl (eGt rfl rfl) fun t9 h9 => ?_)
      refine wl rfl (OP.ev rfl rfl (ePk rfl rfl) ?_)
      refine wl_nil ?_
      cases t9 with
      | true =>
        try have c_t9 := dt h9
        first
        | (exfalso; omega)
        | (
          refine wc_then rfl ?_
          refine wc_region ?_
          refine wl rfl (OP.ev rfl rfl (eMv rfl) ?_)
          refine wl rfl (oC rfl pf54 rfl (sfail_ok b8 b7 e 3 _) (by repeat (first | exact Sel.all | exact Sel.none | (apply Sel.one; · repeat (first | exact Pick.h | apply Pick.t | apply Pick.app)) | apply Sel.app | (with_reducible apply Sel.grp; · repeat (first | exact PickF.h | apply PickF.t | apply PickF.a)) | (with_reducible refine Sel.nilF (by with_unfolding_all rfl) ?_) | apply Sel.drop | apply Sel.dropF)) ?_)
          rintro _ _ ⟨rfl, rfl⟩
          refine wl_nil ?_
          refine wc_seq ?_
          refine wc_region ?_
          refine wl rfl (OP.ev rfl rfl (eMv rfl) ?_)
          refine wl rfl (oC rfl pf42 rfl (serr_ok b8 b7 _ _) (by repeat (first | exact Sel.all | exact Sel.none | (apply Sel.one; · repeat (first | exact Pick.h | apply Pick.t | apply Pick.app)) | apply Sel.app | (with_reducible apply Sel.grp; · repeat (first | exact PickF.h | apply PickF.t | apply PickF.a)) | (with_reducible refine Sel.nilF (by with_unfolding_all rfl) ?_) | apply Sel.drop | apply Sel.dropF)) ?_)
          rintro _ _ ⟨rfl, rfl⟩
          refine wl rfl (OP.ev rfl rfl (eAs rfl) ?_)
          refine wl_nil ?_
          refine wc_ret ?_
          apply at_ret rfl
          · exact (.cons (.tmp rfl) .nil)
          · first | exact ⟨_, by rw [if_pos (by omega), if_pos (by omega)], rfl, rfl⟩ | exact ⟨_, by rw [if_neg (by omega)], rfl, rfl⟩
          · exact (by repeat (first | exact Sel.all | exact Sel.none | (apply Sel.one; · repeat (first | exact Pick.h | apply Pick.t | apply Pick.app)) | apply Sel.app | (with_reducible apply Sel.grp; · repeat (first | exact PickF.h | apply PickF.t | apply PickF.a)) | (with_reducible refine Sel.nilF (by with_unfolding_all rfl) ?_) | apply Sel.drop | apply Sel.dropF)))
      | false =>
        try have c_t9 := df h9
        first
        | (exfalso; omega)
        | (
          refine wc_else rfl ?_
          refine wc_skip ?_
          refine wc_seq ?_
          refine wc_region ?_
          refine wl rfl (OP.ev rfl rfl (eMv rfl) ?_)
          refine wl rfl (oC rfl pf42 rfl (serr_ok b8 b7 _ _) (by repeat (first | exact Sel.all | exact Sel.none | (apply Sel.one; · repeat (first | exact Pick.h | apply Pick.t | apply Pick.app)) | apply Sel.app | (with_reducible apply Sel.grp; · repeat (first | exact PickF.h | apply PickF.t | apply PickF.a)) | (with_reducible refine Sel.nilF (by with_unfolding_all rfl) ?_) | apply Sel.drop | apply Sel.dropF)) ?_)
          rintro _ _ ⟨rfl, rfl⟩
          refine wl rfl (OP.ev rfl rfl (eAs rfl) ?_)
          refine wl_nil ?_
          refine wc_ret ?_
          apply at_ret rfl
          · exact (.cons (.tmp rfl) .nil)
          · first | exact ⟨_, by rw [if_pos (by omega), if_pos (by omega)], rfl, rfl⟩ | exact ⟨_, by rw [if_neg (by omega)], rfl, rfl⟩
          · exact (by repeat (first | exact Sel.all | exact Sel.none | (apply Sel.one; · repeat (first | exact Pick.h | apply Pick.t | apply Pick.app)) | apply Sel.app | (with_reducible apply Sel.grp; · repeat (first | exact PickF.h | apply PickF.t | apply PickF.a)) | (with_reducible refine Sel.nilF (by with_unfolding_all rfl) ?_) | apply Sel.drop | apply Sel.dropF))))
  | false =>
    try have c_t5 := df h5
    first
    | (exfalso; omega)
    | (
      refine wl_skip rfl rfl rfl rfl rfl ?_
      refine wl_skip rfl rfl rfl rfl rfl ?_
      refine wl_skip rfl rfl rfl rfl rfl ?_
      refine wl rfl (OP.ev rfl rfl (ePk rfl rfl) ?_)
      refine wl_nil ?_
      refine wc_else rfl ?_
      refine wc_skip ?_
      refine wc_seq ?_
      refine wc_region ?_
      refine wl rfl (OP.ev rfl rfl (eMv rfl) ?_)
      refine wl rfl (oC rfl pf42 rfl (serr_ok b8 b7 _ _) (by repeat (first | exact Sel.all | exact Sel.none | (apply Sel.one; · repeat (first | exact Pick.h | apply Pick.t | apply Pick.app)) | apply Sel.app | (with_reducible apply Sel.grp; · repeat (first | exact PickF.h | apply PickF.t | apply PickF.a)) | (with_reducible refine Sel.nilF (by with_unfolding_all rfl) ?_) | apply Sel.drop | apply Sel.dropF)) ?_)
      rintro _ _ ⟨rfl, rfl⟩
      refine wl rfl (OP.ev rfl rfl (eAs rfl) ?_)
      refine wl_nil ?_
      refine wc_ret ?_
      apply at_ret rfl
      · exact (.cons (.tmp rfl) .nil)
      · first | exact ⟨_, by rw [if_pos (by omega), if_pos (by omega)], rfl, rfl⟩ | exact ⟨_, by rw [if_neg (by omega)], rfl, rfl⟩
      · exact (by repeat (first | exact Sel.all | exact Sel.none | (apply Sel.one; · repeat (first | exact Pick.h | apply Pick.t | apply Pick.app)) | apply Sel.app | (with_reducible apply Sel.grp; · repeat (first | exact PickF.h | apply PickF.t | apply PickF.a)) | (with_reducible refine Sel.nilF (by with_unfolding_all rfl) ?_) | apply Sel.drop | apply Sel.dropF)))

/-- the next number of a scan: what it is, how far it goes, the error -/
def numK (B : List Int) (k : Nat) (e : Int) : Int × Nat × Int :=
  if e ≠ 0 then (0, k, e) else if (rd (B.drop k)).2.2 = 0 then ((rd (B.drop k)).1, k + (rd (B.drop k)).2.1, 0) else (0, k, (rd (B.drop k)).2.2)
theorem numK_err {B : List Int} {k : Nat} {e : Int} (h : e ≠ 0) : numK B k e = (0, k, e) := by unfold numK; rw [if_pos h]
theorem numK_good {B : List Int} {k j : Nat} {x : Int} (h : rd (B.drop k) = (x, j, 0)) : numK B k 0 = (x, k + j, 0) := by
  unfold numK; rw [if_neg (by simp), h]; simp
theorem numK_bad {B : List Int} {k j : Nat} {x e : Int} (h : rd (B.drop k) = (x, j, e)) (he : e ≠ 0) : numK B k 0 = (0, k, e) := by
  unfold numK; rw [if_neg (by simp), h]; simp [he]

theorem snumber_ok (b8 b7 : Nat) (e : Int) (v : Value) (cs : Array Value) (B : List Int) (k : Nat) (hB : IsB B) (hrow : Row v cs 1 B.length (byteV B)) (hk : k ≤ B.length) (hl : B.length ≤ 35184372088832) (R : Heap) :
    FnC W0 Try.prog 41 #[ptr b8] (sA b8 b7 e :: sS b7 v k :: (ownH v cs 5 ++ R)) (fun v' L' => ∃ x k' e', numK B k e = (x, k', e') ∧ v' = i64 x ∧ L' = sA b8 b7 e' :: sS b7 v k' :: (ownH v cs 5 ++ R)) := by
  by_cases he : e = 0
  · subst he
    refine fn_of Try.func41 rfl Try.ntmps41 rfl rfl ?_
    refine wc_seq ?_
    refine wc_region ?_
    refine wl rfl (OP.ev rfl rfl (eAs rfl) ?_)
    refine wl_nil ?_
    refine wc_seq ?_
    refine wc_seq ?_
    refine wc_region ?_
    refine wl rfl (OP.ev rfl rfl (eMv rfl) ?_)
    refine wl rfl (oC rfl pf52 rfl (smade_ok b8 b7 0 _) (by repeat (first | exact Sel.all | exact Sel.none | (apply Sel.one; · repeat (first | exact Pick.h | apply Pick.t | apply Pick.app)) | apply Sel.app | (with_reducible apply Sel.grp; · repeat (first | exact PickF.h | apply PickF.t | apply PickF.a)) | (with_reducible refine Sel.nilF (by with_unfolding_all rfl) ?_) | apply Sel.drop | apply Sel.dropF)) ?_)
    rintro _ _ ⟨rfl, rfl⟩
    refine wl rfl (OP.ev rfl rfl (eNot rfl) ?_)
    refine wl rfl (OP.ev rfl rfl (eMv rfl) ?_)
    refine wl_go rfl rfl (OP.ev rfl rfl (eMv rfl) ?_)
    refine wl_go rfl rfl (OP.ev rfl rfl (eNil rfl) ?_)
    refine wl_go rfl rfl (OP.ev rfl rfl (eFld 1 ty101 rfl rfl ty29 rfl) ?_)
    first | refine wl_go rfl rfl (OP.ev rfl rfl (eLd ty29 rfl rfl (by repeat (first | exact Has.h | apply Has.t | apply Has.app)) (by rfl)) ?_) | refine wl_go rfl rfl (OP.ev rfl rfl (eLdO ty29 rfl rfl (by assumption)) ?_)
    refine wl_go rfl rfl (OP.ev rfl rfl (eNe rfl rfl) ?_)
    refine wl rfl (OP.ev rfl rfl (ePk rfl rfl) ?_)
    refine wl_nil ?_
    refine wc_else rfl ?_
    refine wc_skip ?_
    refine wc_seq ?_
    refine wc_region ?_
    refine wl rfl (OP.ev rfl rfl (eAs rfl) ?_)
    refine wl_nil ?_
    refine wc_seq ?_
    refine wc_seq ?_
    refine wc_region ?_
    refine wl rfl (OP.ev rfl rfl (eMv rfl) ?_)
    refine wl rfl (OP.ev rfl rfl (eNil rfl) ?_)
    refine wl rfl (OP.ev rfl rfl (eFld 0 ty101 rfl rfl ty97 rfl) ?_)
    first | refine wl rfl (OP.ev rfl rfl (eLd ty97 rfl rfl (by repeat (first | exact Has.h | apply Has.t | apply Has.app)) (by rfl)) ?_) | refine wl rfl (OP.ev rfl rfl (eLdO ty97 rfl rfl (by assumption)) ?_)
    refine wl rfl (oC rfl pf53 rfl (srest_ok b7 v cs B k hrow hk _) (by repeat (first | exact Sel.all | exact Sel.none | (apply Sel.one; · repeat (first | exact Pick.h | apply Pick.t | apply Pick.app)) | apply Sel.app | (with_reducible apply Sel.grp; · repeat (first | exact PickF.h | apply PickF.t | apply PickF.a)) | (with_reducible refine Sel.nilF (by with_unfolding_all rfl) ?_) | apply Sel.drop | apply Sel.dropF)) ?_)
    rintro v20 _ ⟨rfl, hrs⟩
    refine wl rfl (OP.ev rfl rfl (eLenR ty49 rfl hrs) ?_)
    refine wl rfl (OP.ev rfl rfl (eMv rfl) ?_)
    refine wl_nil ?_
    refine wc_block ?_
    refine wc_loop2 (fun (i : Nat) (n : Nat) => [(0, ptr b8), (3, i64 (n : Int)), (20, v20), (21, i64 ((B.length - k : Nat) : Int)), (22, i64 (i : Int))]) (fun i n => sA b8 b7 0 :: sS b7 v k :: (ownH v cs 5 ++ R)) (fun i n => i ≤ B.length - k ∧ i ≤ 9 ∧ n < 128 ^ i ∧ rd (B.drop k) = rdN ((B.drop k).drop i) i n) (fun i n => B.length - k - i) 0 0 ⟨Nat.zero_le _, Nat.zero_le _, by simp, rfl⟩ ⟨rfl, rfl, rfl, rfl, rfl, trivial⟩ (by repeat (first | exact Sel.all | exact Sel.none | (apply Sel.one; · repeat (first | exact Pick.h | apply Pick.t | apply Pick.app)) | apply Sel.app | (with_reducible apply Sel.grp; · repeat (first | exact PickF.h | apply PickF.t | apply PickF.a)) | (with_reducible refine Sel.nilF (by with_unfolding_all rfl) ?_) | apply Sel.drop | apply Sel.dropF)) ?_
    rintro i n ⟨hi, hi9, hn, hrd⟩
    refine wc_seq ?_
    refine wc_region ?_
    refine wl rfl (OP.evb rfl rfl (eLt rfl rfl) fun t23 h23 => ?_)
    refine wl_nil ?_
    refine wc_seq ?_
    cases t23 with
    | true =>
      try have c_t23 := dt h23
      first
      | (exfalso; omega)
      | (
        refine wc_then rfl ?_
        refine wc_skip ?_
        refine wc_seq ?_
        refine wc_block ?_
        refine wc_seq ?_
        have hdl : (B.drop k).length = B.length - k := List.length_drop
        obtain ⟨x, hx⟩ : ∃ c, (B.drop k)[i]? = some c := ⟨_, List.getElem?_eq_getElem (by omega)⟩
        have hxb := hB x (List.mem_of_mem_drop (List.mem_of_getElem? hx))
        have hstep : (B.drop k).drop i = x :: (B.drop k).drop (i + 1) := by
          have hlt := (List.getElem?_eq_some_iff.1 hx).1
          rw [List.drop_eq_getElem_cons hlt, (List.getElem?_eq_some_iff.1 hx).2]
        rw [hstep] at hrd
        simp only [rdN] at hrd
        rcases id hrs.2 with ⟨h0, _⟩ | ⟨rb, ro, rc, rfl, hrc1, hrc2⟩
        · exfalso; omega
        refine wc_region ?_
        refine wl rfl (OP.ev rfl rfl (eMv rfl) ?_)
        refine wl rfl (OP.ev rfl rfl (eIx ty49 ty5 rfl rfl (by omega) (by omega)) ?_)
        refine wl rfl (OP.ev rfl rfl (eLdR (off := ro) (cells := byteV (B.drop k)) (v := .int .u8 x) ty5 rfl rfl (hrc2.sel (by repeat (first | exact Sel.all | exact Sel.none | (apply Sel.one; · repeat (first | exact Pick.h | apply Pick.t | apply Pick.app)) | apply Sel.app | (with_reducible apply Sel.grp; · repeat (first | exact PickF.h | apply PickF.t | apply PickF.a)) | (with_reducible refine Sel.nilF (by with_unfolding_all rfl) ?_) | apply Sel.drop | apply Sel.dropF))) i (by omega) (by unfold byteV; rw [List.getElem?_map, hx]; rfl)) ?_)
        refine wl rfl (OP.ev rfl rfl (eAs rfl) ?_)
        refine wl rfl (OP.ev rfl rfl (eAs rfl) ?_)
        refine wl_nil ?_
        refine wc_seq ?_
        refine wc_block ?_
        refine wc_seq ?_
        refine wc_region ?_
        refine wl rfl (OP.ev rfl rfl (eMv rfl) ?_)
        refine wl rfl (OP.evb rfl rfl (eEq rfl rfl) fun t29 h29 => ?_)
        refine wl rfl (OP.ev rfl rfl (eMv rfl) ?_)
        cases t29 with
        | true =>
          try have c_t29 := dt h29
          first
          | (exfalso; omega)
          | (
            refine wl_go rfl rfl (OP.ev rfl rfl (eMv rfl) ?_)
            refine wl_go rfl rfl (OP.evb rfl rfl (eEq rfl rfl) fun t32 h32 => ?_)
            refine wl rfl (OP.ev rfl rfl (ePk rfl rfl) ?_)
            refine wl rfl (OP.ev rfl rfl (eAs rfl) ?_)
            refine wl_nil ?_
            cases t32 with
            | true =>
              try have c_t32 := dt h32
              first
              | (exfalso; omega)
              | (
                refine wc_then rfl ?_
                refine wc_seq ?_
                refine wc_region ?_
                refine wl rfl (OP.ev rfl rfl (eMv rfl) ?_)
                refine wl rfl (oC rfl pf54 rfl (sfail_ok b8 b7 0 _ _) (by repeat (first | exact Sel.all | exact Sel.none | (apply Sel.one; · repeat (first | exact Pick.h | apply Pick.t | apply Pick.app)) | apply Sel.app | (with_reducible apply Sel.grp; · repeat (first | exact PickF.h | apply PickF.t | apply PickF.a)) | (with_reducible refine Sel.nilF (by with_unfolding_all rfl) ?_) | apply Sel.drop | apply Sel.dropF)) ?_)
                rintro _ _ ⟨rfl, rfl⟩
                refine wl rfl (OP.ev rfl rfl (eAs rfl) ?_)
                refine wl_nil ?_
                refine wc_ret ?_
                apply at_ret rfl
                · exact (.cons (.tmp rfl) .nil)
                · first
                  | (rw [if_pos (by omega)] at hrd; exact ⟨_, _, _, numK_bad hrd (by decide), rfl, rfl⟩)
                  | (rw [if_neg (by omega), if_pos (by omega)] at hrd; exact ⟨_, _, _, numK_bad hrd (by decide), rfl, rfl⟩)
                  | (rw [if_pos (by omega)] at hrd; exact ⟨_, _, _, numK_good hrd, rfl, rfl⟩)
                  | (rw [show (B.drop k).drop i = [] from List.drop_of_length_le (by rw [List.length_drop]; omega)] at hrd; exact ⟨_, _, _, numK_bad hrd (by decide), rfl, rfl⟩)
                · exact (by repeat (first | exact Sel.all | exact Sel.none | (apply Sel.one; · repeat (first | exact Pick.h | apply Pick.t | apply Pick.app)) | apply Sel.app | (with_reducible apply Sel.grp; · repeat (first | exact PickF.h | apply PickF.t | apply PickF.a)) | (with_reducible refine Sel.nilF (by with_unfolding_all rfl) ?_) | apply Sel.drop | apply Sel.dropF)))
            | false =>
              try have c_t32 := df h32
              first
              | (exfalso; omega)
              | (
                refine wc_else rfl ?_
                refine wc_seq ?_
                refine wc_region ?_
                refine wl rfl (OP.ev rfl rfl (eMv rfl) ?_)
                refine wl rfl (OP.evb rfl rfl (eEq rfl rfl) fun t38 h38 => ?_)
                refine wl rfl (OP.ev rfl rfl (eAs rfl) ?_)
                refine wl_nil ?_
                cases t38 with
                | true =>
                  try have c_t38 := dt h38
                  first
                  | (exfalso; omega)
                  | (
                    refine wc_then rfl ?_
                    refine wc_seq ?_
                    refine wc_region ?_
                    refine wl rfl (OP.ev rfl rfl (eMv rfl) ?_)
                    refine wl rfl (oC rfl pf54 rfl (sfail_ok b8 b7 0 _ _) (by repeat (first | exact Sel.all | exact Sel.none | (apply Sel.one; · repeat (first | exact Pick.h | apply Pick.t | apply Pick.app)) | apply Sel.app | (with_reducible apply Sel.grp; · repeat (first | exact PickF.h | apply PickF.t | apply PickF.a)) | (with_reducible refine Sel.nilF (by with_unfolding_all rfl) ?_) | apply Sel.drop | apply Sel.dropF)) ?_)
                    rintro _ _ ⟨rfl, rfl⟩
                    refine wl rfl (OP.ev rfl rfl (eAs rfl) ?_)
                    refine wl_nil ?_
                    refine wc_ret ?_
                    apply at_ret rfl
                    · exact (.cons (.tmp rfl) .nil)
                    · first
                      | (rw [if_pos (by omega)] at hrd; exact ⟨_, _, _, numK_bad hrd (by decide), rfl, rfl⟩)
                      | (rw [if_neg (by omega), if_pos (by omega)] at hrd; exact ⟨_, _, _, numK_bad hrd (by decide), rfl, rfl⟩)
                      | (rw [if_pos (by omega)] at hrd; exact ⟨_, _, _, numK_good hrd, rfl, rfl⟩)
                      | (rw [show (B.drop k).drop i = [] from List.drop_of_length_le (by rw [List.length_drop]; omega)] at hrd; exact ⟨_, _, _, numK_bad hrd (by decide), rfl, rfl⟩)
                    · exact (by repeat (first | exact Sel.all | exact Sel.none | (apply Sel.one; · repeat (first | exact Pick.h | apply Pick.t | apply Pick.app)) | apply Sel.app | (with_reducible apply Sel.grp; · repeat (first | exact PickF.h | apply PickF.t | apply PickF.a)) | (with_reducible refine Sel.nilF (by with_unfolding_all rfl) ?_) | apply Sel.drop | apply Sel.dropF)))
                | false =>
                  try have c_t38 := df h38
                  first
                  | (exfalso; omega)
                  | (
                    refine wc_else rfl ?_
                    refine wc_skip ?_
                    refine wc_seq ?_
                    have hn8 : n < 72057594037927936 := by
                      have h1 := Nat.pow_le_pow_right (show 0 < 128 by decide) (show i ≤ 8 by omega)
                      have h2 : (128 : Nat) ^ 8 = 72057594037927936 := by decide
                      omega
                    rw [if_neg (by omega), if_neg (by omega)] at hrd
                    refine wc_region ?_
                    refine wl rfl (OP.ev rfl rfl (eMv rfl) ?_)
                    refine wl rfl (OP.ev rfl rfl (eShl7 rfl rfl (by omega) (by omega)) ?_)
                    refine wl rfl (OP.ev rfl rfl (eMv rfl) ?_)
                    refine wl rfl (OP.ev rfl rfl (eAnd127B rfl rfl (by omega) (by omega)) ?_)
                    refine wl rfl (OP.ev rfl rfl (eCvI64 ty5 ty3 rfl (by omega) (by omega)) ?_)
                    refine wl rfl (OP.ev rfl rfl (eOrLow rfl rfl (by omega) (by omega) (by omega) (by omega)) ?_)
                    refine wl rfl (OP.ev rfl rfl (eAs rfl) ?_)
                    refine wl_nil ?_
                    refine wc_seq ?_
                    refine wc_region ?_
                    refine wl rfl (OP.ev rfl rfl (eMv rfl) ?_)
                    refine wl rfl (OP.evb rfl rfl (eLt rfl rfl) fun t48 h48 => ?_)
                    refine wl_nil ?_
                    cases t48 with
                    | true =>
                      try have c_t48 := dt h48
                      first
                      | (exfalso; omega)
                      | (
                        refine wc_then rfl ?_
                        refine wc_seq ?_
                        refine wc_region ?_
                        refine wl rfl (OP.ev rfl rfl (eMv rfl) ?_)
                        refine wl rfl (OP.ev rfl rfl (eNil rfl) ?_)
                        refine wl rfl (OP.ev rfl rfl (eFld 0 ty101 rfl rfl ty97 rfl) ?_)
                        first | refine wl rfl (OP.ev rfl rfl (eLd ty97 rfl rfl (by repeat (first | exact Has.h | apply Has.t | apply Has.app)) (by rfl)) ?_) | refine wl rfl (OP.ev rfl rfl (eLdO ty97 rfl rfl (by assumption)) ?_)
                        refine wl rfl (OP.ev rfl rfl (eNil rfl) ?_)
                        refine wl rfl (OP.ev rfl rfl (eFld 1 ty99 rfl rfl ty3 rfl) ?_)
                        first | refine wl rfl (OP.ev rfl rfl (eLd ty3 rfl rfl (by repeat (first | exact Has.h | apply Has.t | apply Has.app)) (by rfl)) ?_) | refine wl rfl (OP.ev rfl rfl (eLdO ty3 rfl rfl (by assumption)) ?_)
                        refine wl rfl (OP.ev rfl rfl (eMv rfl) ?_)
                        first | refine wl rfl (OP.ev rfl rfl (eAdd rfl rfl (by omega)) ?_) | refine wl rfl (OP.ev rfl rfl (eAddW rfl rfl) ?_)
                        first | refine wl rfl (OP.ev rfl rfl (eAdd rfl rfl (by omega)) ?_) | refine wl rfl (OP.ev rfl rfl (eAddW rfl rfl) ?_)
                        refine wl rfl (OP.ev rfl rfl (eNil rfl) ?_)
                        refine wl rfl (OP.ev rfl rfl (eFld 1 ty99 rfl rfl ty3 rfl) ?_)
                        refine wl rfl (oSt ty3 rfl rfl rfl rfl (by repeat (first | exact Upd.h | apply Upd.t | apply Upd.app)) (by first | decide | simp) (by rfl) ?_)
                        refine wl_nil ?_
                        refine wc_seq ?_
                        refine wc_region ?_
                        refine wl rfl (OP.ev rfl rfl (eMv rfl) ?_)
                        refine wl rfl (OP.ev rfl rfl (eAs rfl) ?_)
                        refine wl_nil ?_
                        refine wc_ret ?_
                        apply at_ret rfl
                        · exact (.cons (.tmp rfl) .nil)
                        · first
                          | (rw [if_pos (by omega)] at hrd; exact ⟨_, _, _, numK_bad hrd (by decide), rfl, rfl⟩)
                          | (rw [if_neg (by omega), if_pos (by omega)] at hrd; exact ⟨_, _, _, numK_bad hrd (by decide), rfl, rfl⟩)
                          | (rw [if_pos (by omega)] at hrd; exact ⟨_, _, _, numK_good hrd, rfl, rfl⟩)
                          | (rw [show (B.drop k).drop i = [] from List.drop_of_length_le (by rw [List.length_drop]; omega)] at hrd; exact ⟨_, _, _, numK_bad hrd (by decide), rfl, rfl⟩)
                        · exact (by repeat (first | exact Sel.all | exact Sel.none | (apply Sel.one; · repeat (first | exact Pick.h | apply Pick.t | apply Pick.app)) | apply Sel.app | (with_reducible apply Sel.grp; · repeat (first | exact PickF.h | apply PickF.t | apply PickF.a)) | (with_reducible refine Sel.nilF (by with_unfolding_all rfl) ?_) | apply Sel.drop | apply Sel.dropF)))
                    | false =>
                      try have c_t48 := df h48
                      first
                      | (exfalso; omega)
                      | (
                        refine wc_else rfl ?_
                        refine wc_skip ?_
                        refine wc_region ?_
                        first | refine wl rfl (OP.ev rfl rfl (eAdd rfl rfl (by omega)) ?_) | refine wl rfl (OP.ev rfl rfl (eAddW rfl rfl) ?_)
                        refine wl rfl (OP.ev rfl rfl (eMv rfl) ?_)
                        refine wl_nil ?_
                        exact ⟨i + 1, 128 * n + (x % 128).toNat, ⟨by omega, by omega, by rw [Nat.pow_succ]; omega, by rw [if_neg (by omega)] at hrd; rw [hrd]; congr 1; omega⟩, by omega, ⟨rfl, by show some (i64 _) = some (i64 _); congr 2; omega, rfl, rfl, rfl, trivial⟩, (by repeat (first | exact Sel.all | exact Sel.none | (apply Sel.one; · repeat (first | exact Pick.h | apply Pick.t | apply Pick.app)) | apply Sel.app | (with_reducible apply Sel.grp; · repeat (first | exact PickF.h | apply PickF.t | apply PickF.a)) | (with_reducible refine Sel.nilF (by with_unfolding_all rfl) ?_) | apply Sel.drop | apply Sel.dropF))⟩))))
        | false =>
          try have c_t29 := df h29
          first
          | (exfalso; omega)
          | (
            refine wl_skip rfl rfl rfl rfl rfl ?_
            refine wl_skip rfl rfl rfl rfl rfl ?_
            refine wl rfl (OP.ev rfl rfl (ePk rfl rfl) ?_)
            refine wl rfl (OP.ev rfl rfl (eAs rfl) ?_)
            refine wl_nil ?_
            refine wc_else rfl ?_
            refine wc_seq ?_
            refine wc_region ?_
            refine wl rfl (OP.ev rfl rfl (eMv rfl) ?_)
            refine wl rfl (OP.evb rfl rfl (eEq rfl rfl) fun t38 h38 => ?_)
            refine wl rfl (OP.ev rfl rfl (eAs rfl) ?_)
            refine wl_nil ?_
            cases t38 with
            | true =>
              try have c_t38 := dt h38
              first
              | (exfalso; omega)
              | (
                refine wc_then rfl ?_
                refine wc_seq ?_
                refine wc_region ?_
                refine wl rfl (OP.ev rfl rfl (eMv rfl) ?_)
                refine wl rfl (oC rfl pf54 rfl (sfail_ok b8 b7 0 _ _) (by repeat (first | exact Sel.all | exact Sel.none | (apply Sel.one; · repeat (first | exact Pick.h | apply Pick.t | apply Pick.app)) | apply Sel.app | (with_reducible apply Sel.grp; · repeat (first | exact PickF.h | apply PickF.t | apply PickF.a)) | (with_reducible refine Sel.nilF (by with_unfolding_all rfl) ?_) | apply Sel.drop | apply Sel.dropF)) ?_)
                rintro _ _ ⟨rfl, rfl⟩
                refine wl rfl (OP.ev rfl rfl (eAs rfl) ?_)
                refine wl_nil ?_
                refine wc_ret ?_
                apply at_ret rfl
                · exact (.cons (.tmp rfl) .nil)
                · first
                  | (rw [if_pos (by omega)] at hrd; exact ⟨_, _, _, numK_bad hrd (by decide), rfl, rfl⟩)
                  | (rw [if_neg (by omega), if_pos (by omega)] at hrd; exact ⟨_, _, _, numK_bad hrd (by decide), rfl, rfl⟩)
                  | (rw [if_pos (by omega)] at hrd; exact ⟨_, _, _, numK_good hrd, rfl, rfl⟩)
                  | (rw [show (B.drop k).drop i = [] from List.drop_of_length_le (by rw [List.length_drop]; omega)] at hrd; exact ⟨_, _, _, numK_bad hrd (by decide), rfl, rfl⟩)
                · exact (by repeat (first | exact Sel.all | exact Sel.none | (apply Sel.one; · repeat (first | exact Pick.h | apply Pick.t | apply Pick.app)) | apply Sel.app | (with_reducible apply Sel.grp; · repeat (first | exact PickF.h | apply PickF.t | apply PickF.a)) | (with_reducible refine Sel.nilF (by with_unfolding_all rfl) ?_) | apply Sel.drop | apply Sel.dropF)))
            | false =>
              try have c_t38 := df h38
              first
              | (exfalso; omega)
              | (
                refine wc_else rfl ?_
                refine wc_skip ?_
                refine wc_seq ?_
                have hn8 : n < 72057594037927936 := by
                  have h1 := Nat.pow_le_pow_right (show 0 < 128 by decide) (show i ≤ 8 by omega)
                  have h2 : (128 : Nat) ^ 8 = 72057594037927936 := by decide
                  omega
                rw [if_neg (by omega), if_neg (by omega)] at hrd
                refine wc_region ?_
                refine wl rfl (OP.ev rfl rfl (eMv rfl) ?_)
                refine wl rfl (OP.ev rfl rfl (eShl7 rfl rfl (by omega) (by omega)) ?_)
                refine wl rfl (OP.ev rfl rfl (eMv rfl) ?_)
                refine wl rfl (OP.ev rfl rfl (eAnd127B rfl rfl (by omega) (by omega)) ?_)
                refine wl rfl (OP.ev rfl rfl (eCvI64 ty5 ty3 rfl (by omega) (by omega)) ?_)
                refine wl rfl (OP.ev rfl rfl (eOrLow rfl rfl (by omega) (by omega) (by omega) (by omega)) ?_)
                refine wl rfl (OP.ev rfl rfl (eAs rfl) ?_)
                refine wl_nil ?_
                refine wc_seq ?_
                refine wc_region ?_
                refine wl rfl (OP.ev rfl rfl (eMv rfl) ?_)
                refine wl rfl (OP.evb rfl rfl (eLt rfl rfl) fun t48 h48 => ?_)
                refine wl_nil ?_
                cases t48 with
                | true =>
                  try have c_t48 := dt h48
                  first
                  | (exfalso; omega)
                  | (
                    refine wc_then rfl ?_
                    refine wc_seq ?_
                    refine wc_region ?_
                    refine wl rfl (OP.ev rfl rfl (eMv rfl) ?_)
                    refine wl rfl (OP.ev rfl rfl (eNil rfl) ?_)
                    refine wl rfl (OP.ev rfl rfl (eFld 0 ty101 rfl rfl ty97 rfl) ?_)
                    first | refine wl rfl (OP.ev rfl rfl (eLd ty97 rfl rfl (by repeat (first | exact Has.h | apply Has.t | apply Has.app)) (by rfl)) ?_) | refine wl rfl (OP.ev rfl rfl (eLdO ty97 rfl rfl (by assumption)) ?_)
                    refine wl rfl (OP.ev rfl rfl (eNil rfl) ?_)
                    refine wl rfl (OP.ev rfl rfl (eFld 1 ty99 rfl rfl ty3 rfl) ?_)
                    first | refine wl rfl (OP.ev rfl rfl (eLd ty3 rfl rfl (by repeat (first | exact Has.h | apply Has.t | apply Has.app)) (by rfl)) ?_) | refine wl rfl (OP.ev rfl rfl (eLdO ty3 rfl rfl (by assumption)) ?_)
                    refine wl rfl (OP.ev rfl rfl (eMv rfl) ?_)
                    first | refine wl rfl (OP.ev rfl rfl (eAdd rfl rfl (by omega)) ?_) | refine wl rfl (OP.ev rfl rfl (eAddW rfl rfl) ?_)
                    first | refine wl rfl (OP.ev rfl rfl (eAdd rfl rfl (by omega)) ?_) | refine wl rfl (OP.ev rfl rfl (eAddW rfl rfl) ?_)
                    refine wl rfl (OP.ev rfl rfl (eNil rfl) ?_)
                    refine wl rfl (OP.ev rfl rfl (eFld 1 ty99 rfl rfl ty3 rfl) ?_)
                    refine wl rfl (oSt ty3 rfl rfl rfl rfl (by repeat (first | exact Upd.h | apply Upd.t | apply Upd.app)) (by first | decide | simp) (by rfl) ?_)
                    refine wl_nil ?_
                    refine wc_seq ?_
                    refine wc_region ?_
                    refine wl rfl (OP.ev rfl rfl (eMv rfl) ?_)
                    refine wl rfl (OP.ev rfl rfl (eAs rfl) ?_)
                    refine wl_nil ?_
                    refine wc_ret ?_
                    apply at_ret rfl
                    · exact (.cons (.tmp rfl) .nil)
                    · first
                      | (rw [if_pos (by omega)] at hrd; exact ⟨_, _, _, numK_bad hrd (by decide), rfl, rfl⟩)
                      | (rw [if_neg (by omega), if_pos (by omega)] at hrd; exact ⟨_, _, _, numK_bad hrd (by decide), rfl, rfl⟩)
                      | (rw [if_pos (by omega)] at hrd; exact ⟨_, _, _, numK_good hrd, rfl, rfl⟩)
                      | (rw [show (B.drop k).drop i = [] from List.drop_of_length_le (by rw [List.length_drop]; omega)] at hrd; exact ⟨_, _, _, numK_bad hrd (by decide), rfl, rfl⟩)
                    · exact (by repeat (first | exact Sel.all | exact Sel.none | (apply Sel.one; · repeat (first | exact Pick.h | apply Pick.t | apply Pick.app)) | apply Sel.app | (with_reducible apply Sel.grp; · repeat (first | exact PickF.h | apply PickF.t | apply PickF.a)) | (with_reducible refine Sel.nilF (by with_unfolding_all rfl) ?_) | apply Sel.drop | apply Sel.dropF)))
                | false =>
                  try have c_t48 := df h48
                  first
                  | (exfalso; omega)
                  | (
                    refine wc_else rfl ?_
                    refine wc_skip ?_
                    refine wc_region ?_
                    first | refine wl rfl (OP.ev rfl rfl (eAdd rfl rfl (by omega)) ?_) | refine wl rfl (OP.ev rfl rfl (eAddW rfl rfl) ?_)
                    refine wl rfl (OP.ev rfl rfl (eMv rfl) ?_)
                    refine wl_nil ?_
                    exact ⟨i + 1, 128 * n + (x % 128).toNat, ⟨by omega, by omega, by rw [Nat.pow_succ]; omega, by rw [if_neg (by omega)] at hrd; rw [hrd]; congr 1; omega⟩, by omega, ⟨rfl, by show some (i64 _) = some (i64 _); congr 2; omega, rfl, rfl, rfl, trivial⟩, (by repeat (first | exact Sel.all | exact Sel.none | (apply Sel.one; · repeat (first | exact Pick.h | apply Pick.t | apply Pick.app)) | apply Sel.app | (with_reducible apply Sel.grp; · repeat (first | exact PickF.h | apply PickF.t | apply PickF.a)) | (with_reducible refine Sel.nilF (by with_unfolding_all rfl) ?_) | apply Sel.drop | apply Sel.dropF))⟩))))
    | false =>
      try have c_t23 := df h23
      first
      | (exfalso; omega)
      | (
        refine wc_else rfl ?_
        refine wc_exit rfl ?_
        refine wc_seq ?_
        refine wc_region ?_
        refine wl rfl (OP.ev rfl rfl (eMv rfl) ?_)
        refine wl rfl (oC rfl pf54 rfl (sfail_ok b8 b7 0 _ _) (by repeat (first | exact Sel.all | exact Sel.none | (apply Sel.one; · repeat (first | exact Pick.h | apply Pick.t | apply Pick.app)) | apply Sel.app | (with_reducible apply Sel.grp; · repeat (first | exact PickF.h | apply PickF.t | apply PickF.a)) | (with_reducible refine Sel.nilF (by with_unfolding_all rfl) ?_) | apply Sel.drop | apply Sel.dropF)) ?_)
        rintro _ _ ⟨rfl, rfl⟩
        refine wl rfl (OP.ev rfl rfl (eAs rfl) ?_)
        refine wl_nil ?_
        refine wc_ret ?_
        apply at_ret rfl
        · exact (.cons (.tmp rfl) .nil)
        · first
          | (rw [if_pos (by omega)] at hrd; exact ⟨_, _, _, numK_bad hrd (by decide), rfl, rfl⟩)
          | (rw [if_neg (by omega), if_pos (by omega)] at hrd; exact ⟨_, _, _, numK_bad hrd (by decide), rfl, rfl⟩)
          | (rw [if_pos (by omega)] at hrd; exact ⟨_, _, _, numK_good hrd, rfl, rfl⟩)
          | (rw [show (B.drop k).drop i = [] from List.drop_of_length_le (by rw [List.length_drop]; omega)] at hrd; exact ⟨_, _, _, numK_bad hrd (by decide), rfl, rfl⟩)
        · exact (by repeat (first | exact Sel.all | exact Sel.none | (apply Sel.one; · repeat (first | exact Pick.h | apply Pick.t | apply Pick.app)) | apply Sel.app | (with_reducible apply Sel.grp; · repeat (first | exact PickF.h | apply PickF.t | apply PickF.a)) | (with_reducible refine Sel.nilF (by with_unfolding_all rfl) ?_) | apply Sel.drop | apply Sel.dropF)))
  · skip
    refine fn_of Try.func41 rfl Try.ntmps41 rfl rfl ?_
    refine wc_seq ?_
    refine wc_region ?_
    refine wl rfl (OP.ev rfl rfl (eAs rfl) ?_)
    refine wl_nil ?_
    refine wc_seq ?_
    refine wc_seq ?_
    refine wc_region ?_
    refine wl rfl (OP.ev rfl rfl (eMv rfl) ?_)
    refine wl rfl (oC rfl pf52 rfl (smade_ok b8 b7 e _) (by repeat (first | exact Sel.all | exact Sel.none | (apply Sel.one; · repeat (first | exact Pick.h | apply Pick.t | apply Pick.app)) | apply Sel.app | (with_reducible apply Sel.grp; · repeat (first | exact PickF.h | apply PickF.t | apply PickF.a)) | (with_reducible refine Sel.nilF (by with_unfolding_all rfl) ?_) | apply Sel.drop | apply Sel.dropF)) ?_)
    rintro _ _ ⟨rfl, rfl⟩
    refine wl rfl (OP.ev rfl rfl (eNot rfl) ?_)
    refine wl rfl (OP.ev rfl rfl (eMv rfl) ?_)
    refine wl_go rfl rfl (OP.ev rfl rfl (eMv rfl) ?_)
    refine wl_go rfl rfl (OP.ev rfl rfl (eNil rfl) ?_)
    refine wl_go rfl rfl (OP.ev rfl rfl (eFld 1 ty101 rfl rfl ty29 rfl) ?_)
    first | refine wl_go rfl rfl (OP.ev rfl rfl (eLd ty29 rfl rfl (by repeat (first | exact Has.h | apply Has.t | apply Has.app)) (by rfl)) ?_) | refine wl_go rfl rfl (OP.ev rfl rfl (eLdO ty29 rfl rfl (by assumption)) ?_)
    refine wl_go rfl rfl (OP.evb rfl rfl (eNe rfl rfl) fun t14 h14 => ?_)
    refine wl rfl (OP.ev rfl rfl (ePk rfl rfl) ?_)
    refine wl_nil ?_
    cases t14 with
    | true =>
      try have c_t14 := dt h14
      first
      | (exfalso; omega)
      | (
        refine wc_then rfl ?_
        refine wc_seq ?_
        refine wc_region ?_
        refine wl rfl (OP.ev rfl rfl (eAs rfl) ?_)
        refine wl_nil ?_
        refine wc_ret ?_
        apply at_ret rfl
        · exact (.cons (.tmp rfl) .nil)
        · exact ⟨_, _, _, numK_err he, rfl, rfl⟩
        · exact (by repeat (first | exact Sel.all | exact Sel.none | (apply Sel.one; · repeat (first | exact Pick.h | apply Pick.t | apply Pick.app)) | apply Sel.app | (with_reducible apply Sel.grp; · repeat (first | exact PickF.h | apply PickF.t | apply PickF.a)) | (with_reducible refine Sel.nilF (by with_unfolding_all rfl) ?_) | apply Sel.drop | apply Sel.dropF)))
    | false =>
      try have c_t14 := df h14
      first
      | (exfalso; omega)
      | (
        refine wc_else rfl ?_
        refine wc_skip ?_
        refine wc_seq ?_
        refine wc_region ?_
        refine wl rfl (OP.ev rfl rfl (eAs rfl) ?_)
        refine wl_nil ?_
        refine wc_seq ?_
        refine wc_seq ?_
        refine wc_region ?_
        refine wl rfl (OP.ev rfl rfl (eMv rfl) ?_)
        refine wl rfl (OP.ev rfl rfl (eNil rfl) ?_)
        refine wl rfl (OP.ev rfl rfl (eFld 0 ty101 rfl rfl ty97 rfl) ?_)
        first | refine wl rfl (OP.ev rfl rfl (eLd ty97 rfl rfl (by repeat (first | exact Has.h | apply Has.t | apply Has.app)) (by rfl)) ?_) | refine wl rfl (OP.ev rfl rfl (eLdO ty97 rfl rfl (by assumption)) ?_)
        fail "CALL_53_4_4"
        refine wl rfl (OP.ev rfl rfl (eLenS ty49 rfl) ?_)
        refine wl rfl (OP.ev rfl rfl (eMv rfl) ?_)
        refine wl_nil ?_
        refine wc_block ?_
        fail "LOOP_0")
end Go.Proofs.Ytbppeijcfkdhjaa
