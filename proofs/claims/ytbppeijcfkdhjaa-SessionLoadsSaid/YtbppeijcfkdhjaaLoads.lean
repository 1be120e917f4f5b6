/- The walk of SessionLoads. -/
import Derived.Test.YtbppeijcfkdhjaaRLoad3
import Derived.Test.YtbppeijcfkdhjaaBack
namespace Go.Proofs.Ytbppeijcfkdhjaa
open Go Eng
set_option linter.unusedVariables false
set_option maxRecDepth 4000
variable {W0 : World}

theorem Eng.eEqB_same {P : Program} {n : Nat} {l : Env} {L : Heap} {ty : TypeId} {pos : String} {af : Array Edge} {gd : Option (Nat × Bool)} {D : Option Nat} {xt yt : TypeId} {x y : Operand} {p : Bool} {a1 a2 : Nat} {z : Option Value} (hx : evo l x = some (.bool p)) (hy : evo l y = some (.bool p)) (ht : tinf P xt = some (.bool, a1, a2, z)) :
    EV P n W0 ⟨D, .binOp .eql xt x y yt, ty, pos, af, gd⟩ l L (.bool true) := by
  have := eEqB (P := P) (n := n) (W0 := W0) (L := L) (D := D) (yt := yt) (ty := ty) (pos := pos) (af := af) (gd := gd) hx hy ht
  rwa [show (p == p) = true by simp] at this

theorem loads_ok (v0 : Value) (B : List Int) (hv : ∀ L, Rs W0 L v0 1 B.length (byteV B)) (hB : IsB B) (hl : B.length ≤ 9223372036854775807) :
    FnC W0 Try.prog 7 #[v0] [] (fun v' L' => v' = .bool true ∧ L' = []) := by
  refine fn_of Try.func7 rfl Try.ntmps7 rfl rfl ?_
  refine wc_seq ?_
  refine wc_region ?_
  refine wl rfl (OP.ev rfl rfl (eAs rfl) ?_)
  refine wl_nil ?_
  refine wc_seq ?_
  refine wc_seq ?_
  refine wc_region ?_
  refine wl rfl (OP.ev rfl rfl (eMv rfl) ?_)
  refine wl rfl (OP.ev rfl rfl (eLenR ty49 rfl (hv _)) ?_)
  refine wl rfl (OP.evb rfl rfl (eGt rfl rfl) fun t10 h10 => ?_)
  refine wl_nil ?_
  cases t10 with
  | true =>
    try have c_t10 := dt h10
    first
    | (exfalso; omega)
    | (
      refine wc_then rfl ?_
      refine wc_seq ?_
      refine wc_region ?_
      refine wl rfl (oC rfl pf8 rfl (awake_ok _) (by repeat (first | exact Sel.all | exact Sel.none | (apply Sel.one; · repeat (first | exact Pick.h | apply Pick.t | apply Pick.app)) | apply Sel.app | (with_reducible apply Sel.grp; · repeat (first | exact PickF.h | apply PickF.t | apply PickF.a)) | (with_reducible refine Sel.nilF (by with_unfolding_all rfl) ?_) | apply Sel.drop | apply Sel.dropF)) ?_)
      rintro _ _ ⟨rfl, rfl⟩
      refine wl rfl (OP.ev rfl rfl (eAs rfl) ?_)
      refine wl_nil ?_
      refine wc_ret ?_
      apply at_ret rfl
      · exact (.cons (.tmp rfl) .nil)
      · exact ⟨rfl, rfl⟩
      · exact (by repeat (first | exact Sel.all | exact Sel.none | (apply Sel.one; · repeat (first | exact Pick.h | apply Pick.t | apply Pick.app)) | apply Sel.app | (with_reducible apply Sel.grp; · repeat (first | exact PickF.h | apply PickF.t | apply PickF.a)) | (with_reducible refine Sel.nilF (by with_unfolding_all rfl) ?_) | apply Sel.drop | apply Sel.dropF)))
  | false =>
    try have c_t10 := df h10
    first
    | (exfalso; omega)
    | (
      refine wc_else rfl ?_
      refine wc_skip ?_
      refine wc_seq ?_
      refine wc_region ?_
      refine wl rfl (OP.ev rfl rfl (eMv rfl) ?_)
      refine wl rfl (oC rfl pf26 rfl (bclone_ok v0 B _ (hv _) (by omega)) (by repeat (first | exact Sel.all | exact Sel.none | (apply Sel.one; · repeat (first | exact Pick.h | apply Pick.t | apply Pick.app)) | apply Sel.app | (with_reducible apply Sel.grp; · repeat (first | exact PickF.h | apply PickF.t | apply PickF.a)) | (with_reducible refine Sel.nilF (by with_unfolding_all rfl) ?_) | apply Sel.drop | apply Sel.dropF)) ?_)
      rintro v13 _ ⟨cs13, hrow13, rfl⟩
      refine wl rfl (OP.ev rfl rfl (eAs rfl) ?_)
      refine wl_nil ?_
      refine wc_seq ?_
      refine wc_region ?_
      refine wl rfl (OP.ev rfl rfl (eMv rfl) ?_)
      refine wl rfl (oC (L1 := _) rfl pf24 rfl (load_ok v13 B hB _ (hrow13.rs (by repeat (first | exact At.cell | exact At.h | apply At.t | apply At.a))) (by omega)) Sel.all ?_)
      rintro _ _ (⟨t2, r2, m2, clk2, rfl, rfl, hT2, himg⟩ | ⟨rfl, rfl, hno⟩)
      · refine wl rfl (OP.ev rfl rfl (eMv rfl) ?_)
        refine wl rfl (OP.ev rfl rfl (eExt rfl rfl) ?_)
        refine wl rfl (OP.ev rfl rfl (eExt rfl rfl) ?_)
        refine wl rfl (OP.ev rfl rfl (eAs rfl) ?_)
        refine wl rfl (OP.ev rfl rfl (eAs rfl) ?_)
        refine wl_nil ?_
        refine wc_seq ?_
        refine wc_region ?_
        refine wl rfl (OP.ev rfl rfl (eMv rfl) ?_)
        refine wl rfl (oC (L1 := _) rfl pf27 rfl (rload_ok v0 B hB _ hv (by omega)) Sel.all ?_)
        rintro _ _ (⟨b3, w3, cs3, l3, rfl, rfl, hrow3, hV3, himg3⟩ | ⟨rfl, rfl, hno3⟩)
        · first
          | exact absurd himg3 (hno _ hV3)
          | (
            have hll := img_inj (valid_of hT2) hV3 (himg.trans himg3.symm)
            subst hll
            refine wl rfl (OP.ev rfl rfl (eMv rfl) ?_)
            refine wl rfl (OP.ev rfl rfl (eExt rfl rfl) ?_)
            refine wl rfl (OP.ev rfl rfl (eExt rfl rfl) ?_)
            refine wl rfl (OP.ev rfl rfl (eAs rfl) ?_)
            refine wl rfl (OP.ev rfl rfl (eAs rfl) ?_)
            refine wl_nil ?_
            refine wc_seq ?_
            refine wc_region ?_
            refine wl rfl (OP.ev rfl rfl (eMv rfl) ?_)
            refine wl rfl (OP.ev rfl rfl (eMv rfl) ?_)
            refine wl rfl (OP.evb rfl rfl (eEq rfl rfl) fun t26 h26 => ?_)
            refine wl rfl (OP.ev rfl rfl (eMv rfl) ?_)
            cases t26 with
            | true =>
              try have c_t26 := dt h26
              first
              | (exfalso; omega)
              | (
                refine wl_go rfl rfl (OP.ev rfl rfl (eMv rfl) ?_)
                first | refine wl_go rfl rfl (OP.ev rfl rfl (eEqP0 rfl rfl ty24) ?_) | refine wl_go rfl rfl (OP.ev rfl rfl (eEqP1 rfl rfl ty24) ?_)
                refine wl_go rfl rfl (OP.ev rfl rfl (eMv rfl) ?_)
                first | refine wl_go rfl rfl (OP.ev rfl rfl (eEqP0 rfl rfl ty53) ?_) | refine wl_go rfl rfl (OP.ev rfl rfl (eEqP1 rfl rfl ty53) ?_)
                refine wl_go rfl rfl (OP.ev rfl rfl (eEqB_same rfl rfl ty4) ?_)
                refine wl rfl (OP.ev rfl rfl (ePk rfl rfl) ?_)
                refine wl rfl (OP.ev rfl rfl (eMv rfl) ?_)
                refine wl_go rfl rfl (OP.ev rfl rfl (eMv rfl) ?_)
                first | refine wl_go rfl rfl (OP.ev rfl rfl (eEqP0 rfl rfl ty53) ?_) | refine wl_go rfl rfl (OP.ev rfl rfl (eEqP1 rfl rfl ty53) ?_)
                refine wl_go rfl rfl (OP.ev rfl rfl (eMv rfl) ?_)
                refine wl_go rfl rfl (OP.ev rfl rfl (eMv rfl) ?_)
                refine wl_go rfl rfl (OP.ev rfl rfl (eMv rfl) ?_)
                refine wl_go rfl rfl (oC rfl pf23 rfl (tells_ok t2 r2 b3 m2 clk2 hT2 w3 cs3 hrow3 _) (by repeat (first | exact Sel.all | exact Sel.none | (apply Sel.one; · repeat (first | exact Pick.h | apply Pick.t | apply Pick.app)) | apply Sel.app | (with_reducible apply Sel.grp; · repeat (first | exact PickF.h | apply PickF.t | apply PickF.a)) | (with_reducible refine Sel.nilF (by with_unfolding_all rfl) ?_) | apply Sel.drop | apply Sel.dropF)) ?_)
                rintro _ _ ⟨rfl, rfl⟩
                refine wl_go rfl rfl (OP.ev rfl rfl (ePk rfl rfl) ?_)
                refine wl rfl (OP.ev rfl rfl (ePk rfl rfl) ?_)
                refine wl rfl (OP.ev rfl rfl (eMv rfl) ?_)
                refine wl_go rfl rfl (OP.ev rfl rfl (eMv rfl) ?_)
                refine wl_go rfl rfl (OP.ev rfl rfl (eMv rfl) ?_)
                refine wl_go rfl rfl (oC (L1 := _) rfl pf25 rfl (beq_same _ _ B _ (hrow13.rs (by repeat (first | exact At.cell | exact At.h | apply At.t | apply At.a))) (hv _) hB) Sel.all ?_)
                rintro _ _ ⟨rfl, rfl⟩
                refine wl rfl (OP.ev rfl rfl (ePk rfl rfl) ?_)
                refine wl rfl (OP.ev rfl rfl (eMv rfl) ?_)
                refine wl_go rfl rfl (oC rfl pf8 rfl (awake_ok _) (by repeat (first | exact Sel.all | exact Sel.none | (apply Sel.one; · repeat (first | exact Pick.h | apply Pick.t | apply Pick.app)) | apply Sel.app | (with_reducible apply Sel.grp; · repeat (first | exact PickF.h | apply PickF.t | apply PickF.a)) | (with_reducible refine Sel.nilF (by with_unfolding_all rfl) ?_) | apply Sel.drop | apply Sel.dropF)) ?_)
                rintro _ _ ⟨rfl, rfl⟩
                refine wl rfl (OP.ev rfl rfl (ePk rfl rfl) ?_)
                refine wl rfl (OP.ev rfl rfl (eAs rfl) ?_)
                refine wl_nil ?_
                refine wc_ret ?_
                apply at_ret rfl
                · exact (.cons (.tmp rfl) .nil)
                · exact ⟨rfl, rfl⟩
                · exact (by repeat (first | exact Sel.all | exact Sel.none | (apply Sel.one; · repeat (first | exact Pick.h | apply Pick.t | apply Pick.app)) | apply Sel.app | (with_reducible apply Sel.grp; · repeat (first | exact PickF.h | apply PickF.t | apply PickF.a)) | (with_reducible refine Sel.nilF (by with_unfolding_all rfl) ?_) | apply Sel.drop | apply Sel.dropF)))
            | false =>
              try have c_t26 := df h26
              first
              | (exfalso; omega)
              | (
                refine wl_skip rfl rfl rfl rfl rfl ?_
                refine wl_skip rfl rfl rfl rfl rfl ?_
                refine wl_skip rfl rfl rfl rfl rfl ?_
                refine wl_skip rfl rfl rfl rfl rfl ?_
                refine wl_skip rfl rfl rfl rfl rfl ?_
                refine wl rfl (OP.ev rfl rfl (ePk rfl rfl) ?_)
                refine wl rfl (OP.ev rfl rfl (eMv rfl) ?_)
                refine wl_skip rfl rfl rfl rfl rfl ?_
                refine wl_skip rfl rfl rfl rfl rfl ?_
                refine wl_skip rfl rfl rfl rfl rfl ?_
                refine wl_skipU rfl rfl rfl rfl ?_
                refine wl_skipU rfl rfl rfl rfl ?_
                refine wl_skipU rfl rfl rfl rfl ?_
                refine wl_skip rfl rfl rfl rfl rfl ?_
                refine wl rfl (OP.ev rfl rfl (ePk rfl rfl) ?_)
                refine wl rfl (OP.ev rfl rfl (eMv rfl) ?_)
                refine wl_skip rfl rfl rfl rfl rfl ?_
                refine wl_skip rfl rfl rfl rfl rfl ?_
                refine wl_skip rfl rfl rfl rfl rfl ?_
                refine wl rfl (OP.ev rfl rfl (ePk rfl rfl) ?_)
                refine wl rfl (OP.ev rfl rfl (eMv rfl) ?_)
                refine wl_skip rfl rfl rfl rfl rfl ?_
                refine wl rfl (OP.ev rfl rfl (ePk rfl rfl) ?_)
                refine wl rfl (OP.ev rfl rfl (eAs rfl) ?_)
                refine wl_nil ?_
                refine wc_ret ?_
                apply at_ret rfl
                · exact (.cons (.tmp rfl) .nil)
                · exact ⟨rfl, rfl⟩
                · exact (by repeat (first | exact Sel.all | exact Sel.none | (apply Sel.one; · repeat (first | exact Pick.h | apply Pick.t | apply Pick.app)) | apply Sel.app | (with_reducible apply Sel.grp; · repeat (first | exact PickF.h | apply PickF.t | apply PickF.a)) | (with_reducible refine Sel.nilF (by with_unfolding_all rfl) ?_) | apply Sel.drop | apply Sel.dropF)))
            )
        · first
          | exact absurd himg (hno3 _ (valid_of hT2))
          | (
            refine wl rfl (OP.ev rfl rfl (eMv rfl) ?_)
            refine wl rfl (OP.ev rfl rfl (eExt rfl rfl) ?_)
            refine wl rfl (OP.ev rfl rfl (eExt rfl rfl) ?_)
            refine wl rfl (OP.ev rfl rfl (eAs rfl) ?_)
            refine wl rfl (OP.ev rfl rfl (eAs rfl) ?_)
            refine wl_nil ?_
            refine wc_seq ?_
            refine wc_region ?_
            refine wl rfl (OP.ev rfl rfl (eMv rfl) ?_)
            refine wl rfl (OP.ev rfl rfl (eMv rfl) ?_)
            refine wl rfl (OP.evb rfl rfl (eEq rfl rfl) fun t26 h26 => ?_)
            refine wl rfl (OP.ev rfl rfl (eMv rfl) ?_)
            cases t26 with
            | true =>
              try have c_t26 := dt h26
              first
              | (exfalso; omega)
              | (
                refine wl_go rfl rfl (OP.ev rfl rfl (eMv rfl) ?_)
                first | refine wl_go rfl rfl (OP.ev rfl rfl (eEqP0 rfl rfl ty24) ?_) | refine wl_go rfl rfl (OP.ev rfl rfl (eEqP1 rfl rfl ty24) ?_)
                refine wl_go rfl rfl (OP.ev rfl rfl (eMv rfl) ?_)
                first | refine wl_go rfl rfl (OP.ev rfl rfl (eEqP0 rfl rfl ty53) ?_) | refine wl_go rfl rfl (OP.ev rfl rfl (eEqP1 rfl rfl ty53) ?_)
                refine wl_go rfl rfl (OP.ev rfl rfl (eEqB_same rfl rfl ty4) ?_)
                refine wl rfl (OP.ev rfl rfl (ePk rfl rfl) ?_)
                refine wl rfl (OP.ev rfl rfl (eMv rfl) ?_)
                refine wl_go rfl rfl (OP.ev rfl rfl (eMv rfl) ?_)
                first | refine wl_go rfl rfl (OP.ev rfl rfl (eEqP0 rfl rfl ty53) ?_) | refine wl_go rfl rfl (OP.ev rfl rfl (eEqP1 rfl rfl ty53) ?_)
                refine wl_go rfl rfl (OP.ev rfl rfl (eMv rfl) ?_)
                refine wl_go rfl rfl (OP.ev rfl rfl (eMv rfl) ?_)
                refine wl_go rfl rfl (OP.ev rfl rfl (eMv rfl) ?_)
                refine wl_go rfl rfl (oC rfl pf23 rfl (tells_ok t2 r2 b3 m2 clk2 hT2 w3 cs3 hrow3 _) (by repeat (first | exact Sel.all | exact Sel.none | (apply Sel.one; · repeat (first | exact Pick.h | apply Pick.t | apply Pick.app)) | apply Sel.app | (with_reducible apply Sel.grp; · repeat (first | exact PickF.h | apply PickF.t | apply PickF.a)) | (with_reducible refine Sel.nilF (by with_unfolding_all rfl) ?_) | apply Sel.drop | apply Sel.dropF)) ?_)
                rintro _ _ ⟨rfl, rfl⟩
                refine wl_go rfl rfl (OP.ev rfl rfl (ePk rfl rfl) ?_)
                refine wl rfl (OP.ev rfl rfl (ePk rfl rfl) ?_)
                refine wl rfl (OP.ev rfl rfl (eMv rfl) ?_)
                refine wl_go rfl rfl (OP.ev rfl rfl (eMv rfl) ?_)
                refine wl_go rfl rfl (OP.ev rfl rfl (eMv rfl) ?_)
                refine wl_go rfl rfl (oC (L1 := _) rfl pf25 rfl (beq_same _ _ B _ (hrow13.rs (by repeat (first | exact At.cell | exact At.h | apply At.t | apply At.a))) (hv _) hB) Sel.all ?_)
                rintro _ _ ⟨rfl, rfl⟩
                refine wl rfl (OP.ev rfl rfl (ePk rfl rfl) ?_)
                refine wl rfl (OP.ev rfl rfl (eMv rfl) ?_)
                refine wl_go rfl rfl (oC rfl pf8 rfl (awake_ok _) (by repeat (first | exact Sel.all | exact Sel.none | (apply Sel.one; · repeat (first | exact Pick.h | apply Pick.t | apply Pick.app)) | apply Sel.app | (with_reducible apply Sel.grp; · repeat (first | exact PickF.h | apply PickF.t | apply PickF.a)) | (with_reducible refine Sel.nilF (by with_unfolding_all rfl) ?_) | apply Sel.drop | apply Sel.dropF)) ?_)
                rintro _ _ ⟨rfl, rfl⟩
                refine wl rfl (OP.ev rfl rfl (ePk rfl rfl) ?_)
                refine wl rfl (OP.ev rfl rfl (eAs rfl) ?_)
                refine wl_nil ?_
                refine wc_ret ?_
                apply at_ret rfl
                · exact (.cons (.tmp rfl) .nil)
                · exact ⟨rfl, rfl⟩
                · exact (by repeat (first | exact Sel.all | exact Sel.none | (apply Sel.one; · repeat (first | exact Pick.h | apply Pick.t | apply Pick.app)) | apply Sel.app | (with_reducible apply Sel.grp; · repeat (first | exact PickF.h | apply PickF.t | apply PickF.a)) | (with_reducible refine Sel.nilF (by with_unfolding_all rfl) ?_) | apply Sel.drop | apply Sel.dropF)))
            | false =>
              try have c_t26 := df h26
              first
              | (exfalso; omega)
              | (
                refine wl_skip rfl rfl rfl rfl rfl ?_
                refine wl_skip rfl rfl rfl rfl rfl ?_
                refine wl_skip rfl rfl rfl rfl rfl ?_
                refine wl_skip rfl rfl rfl rfl rfl ?_
                refine wl_skip rfl rfl rfl rfl rfl ?_
                refine wl rfl (OP.ev rfl rfl (ePk rfl rfl) ?_)
                refine wl rfl (OP.ev rfl rfl (eMv rfl) ?_)
                refine wl_skip rfl rfl rfl rfl rfl ?_
                refine wl_skip rfl rfl rfl rfl rfl ?_
                refine wl_skip rfl rfl rfl rfl rfl ?_
                refine wl_skipU rfl rfl rfl rfl ?_
                refine wl_skipU rfl rfl rfl rfl ?_
                refine wl_skipU rfl rfl rfl rfl ?_
                refine wl_skip rfl rfl rfl rfl rfl ?_
                refine wl rfl (OP.ev rfl rfl (ePk rfl rfl) ?_)
                refine wl rfl (OP.ev rfl rfl (eMv rfl) ?_)
                refine wl_skip rfl rfl rfl rfl rfl ?_
                refine wl_skip rfl rfl rfl rfl rfl ?_
                refine wl_skip rfl rfl rfl rfl rfl ?_
                refine wl rfl (OP.ev rfl rfl (ePk rfl rfl) ?_)
                refine wl rfl (OP.ev rfl rfl (eMv rfl) ?_)
                refine wl_skip rfl rfl rfl rfl rfl ?_
                refine wl rfl (OP.ev rfl rfl (ePk rfl rfl) ?_)
                refine wl rfl (OP.ev rfl rfl (eAs rfl) ?_)
                refine wl_nil ?_
                refine wc_ret ?_
                apply at_ret rfl
                · exact (.cons (.tmp rfl) .nil)
                · exact ⟨rfl, rfl⟩
                · exact (by repeat (first | exact Sel.all | exact Sel.none | (apply Sel.one; · repeat (first | exact Pick.h | apply Pick.t | apply Pick.app)) | apply Sel.app | (with_reducible apply Sel.grp; · repeat (first | exact PickF.h | apply PickF.t | apply PickF.a)) | (with_reducible refine Sel.nilF (by with_unfolding_all rfl) ?_) | apply Sel.drop | apply Sel.dropF)))
            )
      · refine wl rfl (OP.ev rfl rfl (eMv rfl) ?_)
        refine wl rfl (OP.ev rfl rfl (eExt rfl rfl) ?_)
        refine wl rfl (OP.ev rfl rfl (eExt rfl rfl) ?_)
        refine wl rfl (OP.ev rfl rfl (eAs rfl) ?_)
        refine wl rfl (OP.ev rfl rfl (eAs rfl) ?_)
        refine wl_nil ?_
        refine wc_seq ?_
        refine wc_region ?_
        refine wl rfl (OP.ev rfl rfl (eMv rfl) ?_)
        refine wl rfl (oC (L1 := _) rfl pf27 rfl (rload_ok v0 B hB _ hv (by omega)) Sel.all ?_)
        rintro _ _ (⟨b3, w3, cs3, l3, rfl, rfl, hrow3, hV3, himg3⟩ | ⟨rfl, rfl, hno3⟩)
        · first
          | exact absurd himg3 (hno _ hV3)
          | (
            have hll := img_inj (valid_of hT2) hV3 (himg.trans himg3.symm)
            subst hll
            refine wl rfl (OP.ev rfl rfl (eMv rfl) ?_)
            refine wl rfl (OP.ev rfl rfl (eExt rfl rfl) ?_)
            refine wl rfl (OP.ev rfl rfl (eExt rfl rfl) ?_)
            refine wl rfl (OP.ev rfl rfl (eAs rfl) ?_)
            refine wl rfl (OP.ev rfl rfl (eAs rfl) ?_)
            refine wl_nil ?_
            refine wc_seq ?_
            refine wc_region ?_
            refine wl rfl (OP.ev rfl rfl (eMv rfl) ?_)
            refine wl rfl (OP.ev rfl rfl (eMv rfl) ?_)
            refine wl rfl (OP.evb rfl rfl (eEq rfl rfl) fun t26 h26 => ?_)
            refine wl rfl (OP.ev rfl rfl (eMv rfl) ?_)
            cases t26 with
            | true =>
              try have c_t26 := dt h26
              first
              | (exfalso; omega)
              | (
                refine wl_go rfl rfl (OP.ev rfl rfl (eMv rfl) ?_)
                first | refine wl_go rfl rfl (OP.ev rfl rfl (eEqP0 rfl rfl ty24) ?_) | refine wl_go rfl rfl (OP.ev rfl rfl (eEqP1 rfl rfl ty24) ?_)
                refine wl_go rfl rfl (OP.ev rfl rfl (eMv rfl) ?_)
                first | refine wl_go rfl rfl (OP.ev rfl rfl (eEqP0 rfl rfl ty53) ?_) | refine wl_go rfl rfl (OP.ev rfl rfl (eEqP1 rfl rfl ty53) ?_)
                refine wl_go rfl rfl (OP.ev rfl rfl (eEqB_same rfl rfl ty4) ?_)
                refine wl rfl (OP.ev rfl rfl (ePk rfl rfl) ?_)
                refine wl rfl (OP.ev rfl rfl (eMv rfl) ?_)
                refine wl_go rfl rfl (OP.ev rfl rfl (eMv rfl) ?_)
                first | refine wl_go rfl rfl (OP.ev rfl rfl (eEqP0 rfl rfl ty53) ?_) | refine wl_go rfl rfl (OP.ev rfl rfl (eEqP1 rfl rfl ty53) ?_)
                refine wl_go rfl rfl (OP.ev rfl rfl (eMv rfl) ?_)
                refine wl_skip rfl rfl rfl rfl rfl ?_
                refine wl_skip rfl rfl rfl rfl rfl ?_
                refine wl_skip rfl rfl rfl rfl rfl ?_
                refine wl_go rfl rfl (OP.ev rfl rfl (ePk rfl rfl) ?_)
                refine wl rfl (OP.ev rfl rfl (ePk rfl rfl) ?_)
                refine wl rfl (OP.ev rfl rfl (eMv rfl) ?_)
                refine wl_go rfl rfl (OP.ev rfl rfl (eMv rfl) ?_)
                refine wl_go rfl rfl (OP.ev rfl rfl (eMv rfl) ?_)
                refine wl_go rfl rfl (oC (L1 := _) rfl pf25 rfl (beq_same _ _ B _ (hrow13.rs (by repeat (first | exact At.cell | exact At.h | apply At.t | apply At.a))) (hv _) hB) Sel.all ?_)
                rintro _ _ ⟨rfl, rfl⟩
                refine wl rfl (OP.ev rfl rfl (ePk rfl rfl) ?_)
                refine wl rfl (OP.ev rfl rfl (eMv rfl) ?_)
                refine wl_go rfl rfl (oC rfl pf8 rfl (awake_ok _) (by repeat (first | exact Sel.all | exact Sel.none | (apply Sel.one; · repeat (first | exact Pick.h | apply Pick.t | apply Pick.app)) | apply Sel.app | (with_reducible apply Sel.grp; · repeat (first | exact PickF.h | apply PickF.t | apply PickF.a)) | (with_reducible refine Sel.nilF (by with_unfolding_all rfl) ?_) | apply Sel.drop | apply Sel.dropF)) ?_)
                rintro _ _ ⟨rfl, rfl⟩
                refine wl rfl (OP.ev rfl rfl (ePk rfl rfl) ?_)
                refine wl rfl (OP.ev rfl rfl (eAs rfl) ?_)
                refine wl_nil ?_
                refine wc_ret ?_
                apply at_ret rfl
                · exact (.cons (.tmp rfl) .nil)
                · exact ⟨rfl, rfl⟩
                · exact (by repeat (first | exact Sel.all | exact Sel.none | (apply Sel.one; · repeat (first | exact Pick.h | apply Pick.t | apply Pick.app)) | apply Sel.app | (with_reducible apply Sel.grp; · repeat (first | exact PickF.h | apply PickF.t | apply PickF.a)) | (with_reducible refine Sel.nilF (by with_unfolding_all rfl) ?_) | apply Sel.drop | apply Sel.dropF)))
            | false =>
              try have c_t26 := df h26
              first
              | (exfalso; omega)
              | (
                refine wl_skip rfl rfl rfl rfl rfl ?_
                refine wl_skip rfl rfl rfl rfl rfl ?_
                refine wl_skip rfl rfl rfl rfl rfl ?_
                refine wl_skip rfl rfl rfl rfl rfl ?_
                refine wl_skip rfl rfl rfl rfl rfl ?_
                refine wl rfl (OP.ev rfl rfl (ePk rfl rfl) ?_)
                refine wl rfl (OP.ev rfl rfl (eMv rfl) ?_)
                refine wl_skip rfl rfl rfl rfl rfl ?_
                refine wl_skip rfl rfl rfl rfl rfl ?_
                refine wl_skip rfl rfl rfl rfl rfl ?_
                refine wl_skipU rfl rfl rfl rfl ?_
                refine wl_skipU rfl rfl rfl rfl ?_
                refine wl_skipU rfl rfl rfl rfl ?_
                refine wl_skip rfl rfl rfl rfl rfl ?_
                refine wl rfl (OP.ev rfl rfl (ePk rfl rfl) ?_)
                refine wl rfl (OP.ev rfl rfl (eMv rfl) ?_)
                refine wl_skip rfl rfl rfl rfl rfl ?_
                refine wl_skip rfl rfl rfl rfl rfl ?_
                refine wl_skip rfl rfl rfl rfl rfl ?_
                refine wl rfl (OP.ev rfl rfl (ePk rfl rfl) ?_)
                refine wl rfl (OP.ev rfl rfl (eMv rfl) ?_)
                refine wl_skip rfl rfl rfl rfl rfl ?_
                refine wl rfl (OP.ev rfl rfl (ePk rfl rfl) ?_)
                refine wl rfl (OP.ev rfl rfl (eAs rfl) ?_)
                refine wl_nil ?_
                refine wc_ret ?_
                apply at_ret rfl
                · exact (.cons (.tmp rfl) .nil)
                · exact ⟨rfl, rfl⟩
                · exact (by repeat (first | exact Sel.all | exact Sel.none | (apply Sel.one; · repeat (first | exact Pick.h | apply Pick.t | apply Pick.app)) | apply Sel.app | (with_reducible apply Sel.grp; · repeat (first | exact PickF.h | apply PickF.t | apply PickF.a)) | (with_reducible refine Sel.nilF (by with_unfolding_all rfl) ?_) | apply Sel.drop | apply Sel.dropF)))
            )
        · first
          | exact absurd himg (hno3 _ (valid_of hT2))
          | (
            refine wl rfl (OP.ev rfl rfl (eMv rfl) ?_)
            refine wl rfl (OP.ev rfl rfl (eExt rfl rfl) ?_)
            refine wl rfl (OP.ev rfl rfl (eExt rfl rfl) ?_)
            refine wl rfl (OP.ev rfl rfl (eAs rfl) ?_)
            refine wl rfl (OP.ev rfl rfl (eAs rfl) ?_)
            refine wl_nil ?_
            refine wc_seq ?_
            refine wc_region ?_
            refine wl rfl (OP.ev rfl rfl (eMv rfl) ?_)
            refine wl rfl (OP.ev rfl rfl (eMv rfl) ?_)
            refine wl rfl (OP.evb rfl rfl (eEq rfl rfl) fun t26 h26 => ?_)
            refine wl rfl (OP.ev rfl rfl (eMv rfl) ?_)
            cases t26 with
            | true =>
              try have c_t26 := dt h26
              first
              | (exfalso; omega)
              | (
                refine wl_go rfl rfl (OP.ev rfl rfl (eMv rfl) ?_)
                first | refine wl_go rfl rfl (OP.ev rfl rfl (eEqP0 rfl rfl ty24) ?_) | refine wl_go rfl rfl (OP.ev rfl rfl (eEqP1 rfl rfl ty24) ?_)
                refine wl_go rfl rfl (OP.ev rfl rfl (eMv rfl) ?_)
                first | refine wl_go rfl rfl (OP.ev rfl rfl (eEqP0 rfl rfl ty53) ?_) | refine wl_go rfl rfl (OP.ev rfl rfl (eEqP1 rfl rfl ty53) ?_)
                refine wl_go rfl rfl (OP.ev rfl rfl (eEqB_same rfl rfl ty4) ?_)
                refine wl rfl (OP.ev rfl rfl (ePk rfl rfl) ?_)
                refine wl rfl (OP.ev rfl rfl (eMv rfl) ?_)
                refine wl_go rfl rfl (OP.ev rfl rfl (eMv rfl) ?_)
                first | refine wl_go rfl rfl (OP.ev rfl rfl (eEqP0 rfl rfl ty53) ?_) | refine wl_go rfl rfl (OP.ev rfl rfl (eEqP1 rfl rfl ty53) ?_)
                refine wl_go rfl rfl (OP.ev rfl rfl (eMv rfl) ?_)
                refine wl_skip rfl rfl rfl rfl rfl ?_
                refine wl_skip rfl rfl rfl rfl rfl ?_
                refine wl_skip rfl rfl rfl rfl rfl ?_
                refine wl_go rfl rfl (OP.ev rfl rfl (ePk rfl rfl) ?_)
                refine wl rfl (OP.ev rfl rfl (ePk rfl rfl) ?_)
                refine wl rfl (OP.ev rfl rfl (eMv rfl) ?_)
                refine wl_go rfl rfl (OP.ev rfl rfl (eMv rfl) ?_)
                refine wl_go rfl rfl (OP.ev rfl rfl (eMv rfl) ?_)
                refine wl_go rfl rfl (oC (L1 := _) rfl pf25 rfl (beq_same _ _ B _ (hrow13.rs (by repeat (first | exact At.cell | exact At.h | apply At.t | apply At.a))) (hv _) hB) Sel.all ?_)
                rintro _ _ ⟨rfl, rfl⟩
                refine wl rfl (OP.ev rfl rfl (ePk rfl rfl) ?_)
                refine wl rfl (OP.ev rfl rfl (eMv rfl) ?_)
                refine wl_go rfl rfl (oC rfl pf8 rfl (awake_ok _) (by repeat (first | exact Sel.all | exact Sel.none | (apply Sel.one; · repeat (first | exact Pick.h | apply Pick.t | apply Pick.app)) | apply Sel.app | (with_reducible apply Sel.grp; · repeat (first | exact PickF.h | apply PickF.t | apply PickF.a)) | (with_reducible refine Sel.nilF (by with_unfolding_all rfl) ?_) | apply Sel.drop | apply Sel.dropF)) ?_)
                rintro _ _ ⟨rfl, rfl⟩
                refine wl rfl (OP.ev rfl rfl (ePk rfl rfl) ?_)
                refine wl rfl (OP.ev rfl rfl (eAs rfl) ?_)
                refine wl_nil ?_
                refine wc_ret ?_
                apply at_ret rfl
                · exact (.cons (.tmp rfl) .nil)
                · exact ⟨rfl, rfl⟩
                · exact (by repeat (first | exact Sel.all | exact Sel.none | (apply Sel.one; · repeat (first | exact Pick.h | apply Pick.t | apply Pick.app)) | apply Sel.app | (with_reducible apply Sel.grp; · repeat (first | exact PickF.h | apply PickF.t | apply PickF.a)) | (with_reducible refine Sel.nilF (by with_unfolding_all rfl) ?_) | apply Sel.drop | apply Sel.dropF)))
            | false =>
              try have c_t26 := df h26
              first
              | (exfalso; omega)
              | (
                refine wl_skip rfl rfl rfl rfl rfl ?_
                refine wl_skip rfl rfl rfl rfl rfl ?_
                refine wl_skip rfl rfl rfl rfl rfl ?_
                refine wl_skip rfl rfl rfl rfl rfl ?_
                refine wl_skip rfl rfl rfl rfl rfl ?_
                refine wl rfl (OP.ev rfl rfl (ePk rfl rfl) ?_)
                refine wl rfl (OP.ev rfl rfl (eMv rfl) ?_)
                refine wl_skip rfl rfl rfl rfl rfl ?_
                refine wl_skip rfl rfl rfl rfl rfl ?_
                refine wl_skip rfl rfl rfl rfl rfl ?_
                refine wl_skipU rfl rfl rfl rfl ?_
                refine wl_skipU rfl rfl rfl rfl ?_
                refine wl_skipU rfl rfl rfl rfl ?_
                refine wl_skip rfl rfl rfl rfl rfl ?_
                refine wl rfl (OP.ev rfl rfl (ePk rfl rfl) ?_)
                refine wl rfl (OP.ev rfl rfl (eMv rfl) ?_)
                refine wl_skip rfl rfl rfl rfl rfl ?_
                refine wl_skip rfl rfl rfl rfl rfl ?_
                refine wl_skip rfl rfl rfl rfl rfl ?_
                refine wl rfl (OP.ev rfl rfl (ePk rfl rfl) ?_)
                refine wl rfl (OP.ev rfl rfl (eMv rfl) ?_)
                refine wl_skip rfl rfl rfl rfl rfl ?_
                refine wl rfl (OP.ev rfl rfl (ePk rfl rfl) ?_)
                refine wl rfl (OP.ev rfl rfl (eAs rfl) ?_)
                refine wl_nil ?_
                refine wc_ret ?_
                apply at_ret rfl
                · exact (.cons (.tmp rfl) .nil)
                · exact ⟨rfl, rfl⟩
                · exact (by repeat (first | exact Sel.all | exact Sel.none | (apply Sel.one; · repeat (first | exact Pick.h | apply Pick.t | apply Pick.app)) | apply Sel.app | (with_reducible apply Sel.grp; · repeat (first | exact PickF.h | apply PickF.t | apply PickF.a)) | (with_reducible refine Sel.nilF (by with_unfolding_all rfl) ?_) | apply Sel.drop | apply Sel.dropF)))
            ))
end Go.Proofs.Ytbppeijcfkdhjaa
