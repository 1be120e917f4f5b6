/- The contracts of bytes.Equal, Clone and 'tells', and the walk of SessionPlays. -/
import Derived.Test.YtbppeijcfkdhjaaSim
import Derived.Laws.Externs
namespace Go.Proofs.Ytbppeijcfkdhjaa
open Go Eng
set_option linter.unusedVariables false
set_option linter.unusedSimpArgs false
set_option maxRecDepth 4000
variable {W0 : World}

theorem beq_ok (u v : Value) (a b : List Int) (R : Heap) (hu : Rs W0 R u 1 a.length (byteV a)) (hv : Rs W0 R v 1 b.length (byteV b)) (ha : IsB a) (hb : IsB b) :
    FnC W0 Try.prog 25 #[u, v] R (fun v' L' => v' = .bool (decide (a = b)) ∧ L' = R) := by
  refine fn_of Try.func25 rfl Try.ntmps25 rfl rfl ?_
  refine wc_seq ?_
  refine wc_region ?_
  refine wl rfl (OP.ev rfl rfl (eAs rfl) ?_)
  refine wl_nil ?_
  refine wc_seq ?_
  refine wc_region ?_
  refine wl rfl (OP.ev rfl rfl (eMv rfl) ?_)
  refine wl rfl (OP.ev rfl rfl (eBs ty49 ty5 ty9 rfl hu) ?_)
  refine wl rfl (OP.ev rfl rfl (eMv rfl) ?_)
  refine wl rfl (OP.ev rfl rfl (eBs ty49 ty5 ty9 rfl hv) ?_)
  refine wl rfl (OP.ev rfl rfl (eEqStr rfl rfl ty9) ?_)
  refine wl rfl (OP.ev rfl rfl (eAs rfl) ?_)
  refine wl_nil ?_
  refine wc_ret ?_
  apply at_ret rfl
  · exact (.cons (.tmp rfl) .nil)
  · exact ⟨by rw [← BA_beq ha hb]; rfl, rfl⟩
  · exact (by repeat (first | exact Sel.all | exact Sel.none | (apply Sel.one; · repeat (first | exact Pick.h | apply Pick.t | apply Pick.app)) | apply Sel.app | (with_reducible apply Sel.grp; · repeat (first | exact PickF.h | apply PickF.t | apply PickF.a)) | (with_reducible refine Sel.nilF (by with_unfolding_all rfl) ?_) | apply Sel.drop | apply Sel.dropF))
theorem beq_same (u v : Value) (a : List Int) (R : Heap) (hu : Rs W0 R u 1 a.length (byteV a)) (hv : Rs W0 R v 1 a.length (byteV a)) (ha : IsB a) :
    FnC W0 Try.prog 25 #[u, v] R (fun v' L' => v' = .bool true ∧ L' = R) := by
  have := beq_ok u v a a R hu hv ha ha
  simpa using this

theorem Eng.eMkI {P : Program} {n : Nat} {l : Env} {L : Heap} {ty : TypeId} {pos : String} {af : Array Edge} {gd : Option (Nat × Bool)} {D : Option Nat} {t : TypeId} {k e : TypeId} {a1 a2 : Nat} {z : Option Value} {x : Operand} {v : Value} (ht : tinf P t = some (.map k e, a1, a2, z)) (hx : evo l x = some v) :
    EV P n W0 ⟨D, .makeInterface t x, ty, pos, af, gd⟩ l L (.iface t v) :=
  fun a w ha hs => by simp [execOp, ha.eval hx, Instr.makeInterface, run_und ht]

theorem Eng.eTAm {P : Program} {n : Nat} {l : Env} {L : Heap} {ty : TypeId} {pos : String} {af : Array Edge} {gd : Option (Nat × Bool)} {D : Option Nat} {t xt k e : TypeId} {a1 a2 : Nat} {z : Option Value} {x : Operand} {v : Value} (ht : tinf P t = some (.map k e, a1, a2, z)) (hx : evo l x = some (.iface t v)) :
    EV P n W0 ⟨D, .typeAssert x xt t false, ty, pos, af, gd⟩ l L v :=
  fun a w ha hs => by
    have h : (Instr.typeAssert (.iface t v) xt t false).run P w = .ok v w := by simp [Instr.typeAssert, run_und ht, go_sem, Result.andThen]
    simp [execOp, ha.eval hx, h]

theorem Eng.oMapClone {n : Nat} {l : Env} {L : Heap} {K : Env → Heap → Prop} {d : Nat} {ty : TypeId} {pos : String} {af : Array Edge} {gd : Option (Nat × Bool)} (hdn : Nat.blt d n = true) {x : Operand} {ats : Array TypeId} {t : TypeId} {r : Nat} {es : Array MapEntry} {clk : Nat}
    (hx : evo l x = some (.iface t (.map (some r)))) (hm : Has L r (.map es clk)) (h : ∀ b, K ((d, .iface t (.map (some b))) :: l) ((b, .map es clk) :: L)) :
    OP Try.prog n W0 ⟨some d, .call ⟨.value (.func 49), #[x], ats⟩, ty, pos, af, gd⟩ l L K :=
  .val rfl hdn fun a w ha hs => ⟨_, _, _, by
    have h1 := run_callFunc_extern (P := Try.prog) Try.func49 (by kernel_rfl) (by kernel_rfl) (by kernel_rfl) (e := Extern.MapsClone.clone) (by kernel_rfl) #[.iface t (.map (some r))] w
    have h2 : (getObj r).run Try.prog w = .ok (.map es clk) w := run_getObj (hs.get hm)
    have h3 : (Extern.MapsClone.clone #[.iface t (.map (some r))]).run Try.prog w = .ok (.iface t (.map (some w.heap.size))) (w.alloc (.map es clk)) := by
      have e : Extern.MapsClone.clone #[.iface t (.map (some r))] = (getObj r >>= fun o => match o with
        | .map entries clock => (newObj (.map entries clock) >>= fun n => pure (.iface t (.map (some n))))
        | _ => stuck "maps.clone: a map expected") := rfl
      rw [e]
      simp [h2, Result.andThen]
    rw [h3] at h1
    have hf : a.eval (.func 49) = .func (.func 49) #[] #[] := rfl
    simp only [Result.andThen] at h1
    simp [execOp, resolve, hf, Deferred.ofValue, invoke, ha.eval hx, h1], hs.alloc _, h _⟩

theorem mclone_ok (r : Nat) (m : SMap) (clk : Nat) (R : Heap) : FnC W0 Try.prog 36 #[.map (some r)] (mC r m clk :: R) (fun v L' => ∃ r', v = .map (some r') ∧ L' = mC r' m clk :: mC r m clk :: R) := by
  refine fn_of Try.func36 rfl Try.ntmps36 rfl rfl ?_
  refine wc_seq ?_
  refine wc_region ?_
  refine wl rfl (OP.ev rfl rfl (eAs rfl) ?_)
  refine wl_nil ?_
  refine wc_seq ?_
  refine wc_seq ?_
  refine wc_region ?_
  refine wl rfl (OP.ev rfl rfl (eMv rfl) ?_)
  first | refine wl rfl (OP.ev rfl rfl (eEqM0 rfl rfl ty43) ?_) | refine wl rfl (OP.ev rfl rfl (eEqM1 rfl rfl ty43) ?_)
  refine wl_nil ?_
  refine wc_else rfl ?_
  refine wc_skip ?_
  refine wc_seq ?_
  refine wc_region ?_
  refine wl rfl (OP.ev rfl rfl (eMv rfl) ?_)
  refine wl rfl (OP.ev rfl rfl (eMkI ty43 rfl) ?_)
  refine wl rfl (oMapClone rfl rfl (by repeat (first | exact Has.h | apply Has.t | apply Has.app)) fun b7 => ?_)
  refine wl rfl (OP.ev rfl rfl (eTAm ty43 rfl) ?_)
  refine wl rfl (OP.ev rfl rfl (eAs rfl) ?_)
  refine wl_nil ?_
  refine wc_ret ?_
  apply at_ret rfl
  · exact (.cons (.tmp rfl) .nil)
  · exact ⟨b7, rfl, rfl⟩
  · exact (by repeat (first | exact Sel.all | exact Sel.none | (apply Sel.one; · repeat (first | exact Pick.h | apply Pick.t | apply Pick.app)) | apply Sel.app | (with_reducible apply Sel.grp; · repeat (first | exact PickF.h | apply PickF.t | apply PickF.a)) | (with_reducible refine Sel.nilF (by with_unfolding_all rfl) ?_) | apply Sel.drop | apply Sel.dropF))

theorem clone_ok (t r : Nat) (m : SMap) (clk : Nat) (R : Heap) : FnC W0 Try.prog 17 #[ptr t] (tC t r :: mC r m clk :: R) (fun v L' => ∃ t' r', v = ptr t' ∧ L' = tC t' r' :: mC r' m clk :: tC t r :: mC r m clk :: R) := by
  refine fn_of Try.func17 rfl Try.ntmps17 rfl rfl ?_
  refine wc_seq ?_
  refine wc_region ?_
  refine wl rfl (OP.ev rfl rfl (eAs rfl) ?_)
  refine wl_nil ?_
  refine wc_seq ?_
  refine wc_seq ?_
  refine wc_region ?_
  refine wl rfl (OP.ev rfl rfl (eMv rfl) ?_)
  refine wl rfl (oC rfl pf28 rfl (made_ok t r _) (by repeat (first | exact Sel.all | exact Sel.none | (apply Sel.one; · repeat (first | exact Pick.h | apply Pick.t | apply Pick.app)) | apply Sel.app | (with_reducible apply Sel.grp; · repeat (first | exact PickF.h | apply PickF.t | apply PickF.a)) | (with_reducible refine Sel.nilF (by with_unfolding_all rfl) ?_) | apply Sel.drop | apply Sel.dropF)) ?_)
  rintro _ _ ⟨rfl, rfl⟩
  refine wl rfl (OP.ev rfl rfl (eNot rfl) ?_)
  refine wl_nil ?_
  refine wc_else rfl ?_
  refine wc_skip ?_
  refine wc_seq ?_
  refine wc_region ?_
  refine wl rfl (OP.ev rfl rfl (eMv rfl) ?_)
  refine wl rfl (OP.ev rfl rfl (eNil rfl) ?_)
  refine wl rfl (OP.ev rfl rfl (eFld 0 ty45 rfl rfl ty43 rfl) ?_)
  first | refine wl rfl (OP.ev rfl rfl (eLd ty43 rfl rfl (by repeat (first | exact Has.h | apply Has.t | apply Has.app)) (by rfl)) ?_) | refine wl rfl (OP.ev rfl rfl (eLdO ty43 rfl rfl (by assumption)) ?_)
  refine wl rfl (oC rfl pf36 rfl (mclone_ok r m clk _) (by repeat (first | exact Sel.all | exact Sel.none | (apply Sel.one; · repeat (first | exact Pick.h | apply Pick.t | apply Pick.app)) | apply Sel.app | (with_reducible apply Sel.grp; · repeat (first | exact PickF.h | apply PickF.t | apply PickF.a)) | (with_reducible refine Sel.nilF (by with_unfolding_all rfl) ?_) | apply Sel.drop | apply Sel.dropF)) ?_)
  rintro _ _ ⟨r', rfl, rfl⟩
  refine wl rfl (OP.ev rfl rfl (eBuL (cells := [_]) ty45 pl45 rfl rfl) ?_)
  refine wl rfl (oBox rfl rfl rfl fun b12 => ?_)
  refine wl rfl (OP.ev rfl rfl (eAs rfl) ?_)
  refine wl_nil ?_
  refine wc_ret ?_
  apply at_ret rfl
  · exact (.cons (.tmp rfl) .nil)
  · exact ⟨b12, r', rfl, rfl⟩
  · exact (by repeat (first | exact Sel.all | exact Sel.none | (apply Sel.one; · repeat (first | exact Pick.h | apply Pick.t | apply Pick.app)) | apply Sel.app | (with_reducible apply Sel.grp; · repeat (first | exact PickF.h | apply PickF.t | apply PickF.a)) | (with_reducible refine Sel.nilF (by with_unfolding_all rfl) ?_) | apply Sel.drop | apply Sel.dropF))

theorem tells_ok (t r b : Nat) (m : SMap) (clk : Nat) (hm : TOk m clk) (v : Value) (cs : Array Value) (hrow : Row v cs 11 (seatsOf m).length (flat (seatsOf m))) (R : Heap) :
    FnC W0 Try.prog 23 #[ptr t, ptr b] (tC t r :: mC r m clk :: xC b v :: (ownH v cs 35 ++ R)) (fun v' L' => v' = .bool true ∧ L' = tC t r :: mC r m clk :: xC b v :: (ownH v cs 35 ++ R)) := by
  have hsl := seats_len m
  have h8 := hm.2.1
  refine fn_of Try.func23 rfl Try.ntmps23 rfl rfl ?_
  refine wc_seq ?_
  refine wc_region ?_
  refine wl rfl (OP.ev rfl rfl (eAs rfl) ?_)
  refine wl_nil ?_
  refine wc_seq ?_
  refine wc_region ?_
  refine wl rfl (OP.ev rfl rfl (eMv rfl) ?_)
  refine wl rfl (oC rfl pf10 rfl (seats_ok t r m clk hm.1 _) (by repeat (first | exact Sel.all | exact Sel.none | (apply Sel.one; · repeat (first | exact Pick.h | apply Pick.t | apply Pick.app)) | apply Sel.app | (with_reducible apply Sel.grp; · repeat (first | exact PickF.h | apply PickF.t | apply PickF.a)) | (with_reducible refine Sel.nilF (by with_unfolding_all rfl) ?_) | apply Sel.drop | apply Sel.dropF)) ?_)
  rintro v5 _ ⟨cs5, hrow5, rfl⟩
  refine wl rfl (OP.ev rfl rfl (eAs rfl) ?_)
  refine wl_nil ?_
  refine wc_seq ?_
  refine wc_region ?_
  refine wl rfl (OP.ev rfl rfl (eMv rfl) ?_)
  refine wl rfl (OP.ev rfl rfl (eMv rfl) ?_)
  refine wl rfl (OP.ev rfl rfl (eNil rfl) ?_)
  refine wl rfl (OP.ev rfl rfl (eFld 0 ty55 rfl rfl ty26 rfl) ?_)
  first | refine wl rfl (OP.ev rfl rfl (eLd ty26 rfl rfl (by repeat (first | exact Has.h | apply Has.t | apply Has.app)) (by rfl)) ?_) | refine wl rfl (OP.ev rfl rfl (eLdO ty26 rfl rfl (by assumption)) ?_)
  refine wl rfl (oC (L1 := _) rfl pf13 rfl (equal_same _ _ (seatsOf m) _ (hrow5.rs (by repeat (first | exact At.cell | exact At.h | apply At.t | apply At.a))) (hrow.rs (by repeat (first | exact At.cell | exact At.h | apply At.t | apply At.a))) (by omega)) Sel.all ?_)
  rintro _ _ ⟨rfl, rfl⟩
  refine wl rfl (OP.ev rfl rfl (eMv rfl) ?_)
  refine wl_go rfl rfl (OP.ev rfl rfl (eMv rfl) ?_)
  refine wl_go rfl rfl (oC rfl pf16 rfl (image_ok t r m clk hm _) (by repeat (first | exact Sel.all | exact Sel.none | (apply Sel.one; · repeat (first | exact Pick.h | apply Pick.t | apply Pick.app)) | apply Sel.app | (with_reducible apply Sel.grp; · repeat (first | exact PickF.h | apply PickF.t | apply PickF.a)) | (with_reducible refine Sel.nilF (by with_unfolding_all rfl) ?_) | apply Sel.drop | apply Sel.dropF)) ?_)
  rintro v18 _ ⟨cs18, hrow18, rfl⟩
  refine wl_go rfl rfl (OP.ev rfl rfl (eMv rfl) ?_)
  refine wl_go rfl rfl (oC rfl pf39 rfl (rimage_ok b v cs (seatsOf m) hrow (by omega) (small_seats hm) _) (by repeat (first | exact Sel.all | exact Sel.none | (apply Sel.one; · repeat (first | exact Pick.h | apply Pick.t | apply Pick.app)) | apply Sel.app | (with_reducible apply Sel.grp; · repeat (first | exact PickF.h | apply PickF.t | apply PickF.a)) | (with_reducible refine Sel.nilF (by with_unfolding_all rfl) ?_) | apply Sel.drop | apply Sel.dropF)) ?_)
  rintro v20 _ ⟨cs20, hrow20, rfl⟩
  refine wl_go rfl rfl (oC (L1 := _) rfl pf25 rfl (beq_same _ _ (img (seatsOf m)) _ (hrow18.rs (by repeat (first | exact At.cell | exact At.h | apply At.t | apply At.a))) (hrow20.rs (by repeat (first | exact At.cell | exact At.h | apply At.t | apply At.a))) (img_isB _)) Sel.all ?_)
  rintro _ _ ⟨rfl, rfl⟩
  refine wl rfl (OP.ev rfl rfl (ePk rfl rfl) ?_)
  refine wl rfl (OP.ev rfl rfl (eAs rfl) ?_)
  refine wl_nil ?_
  refine wc_seq ?_
  refine wc_seq ?_
  refine wc_region ?_
  refine wl rfl (OP.ev rfl rfl (eMv rfl) ?_)
  refine wl rfl (OP.ev rfl rfl (eLenRow ty26 rfl hrow5) ?_)
  refine wl rfl (OP.ev rfl rfl (eMv rfl) ?_)
  refine wl_nil ?_
  refine wc_block ?_
  refine wc_loop2 (fun (i : Nat) (cs5 : Array Value) => [(5, v5), (6, .bool true), (23, v5), (24, i64 ((seatsOf m).length : Int)), (25, i64 (i : Int))]) (fun i cs5 => ownH v5 cs5 35 ++ (tC t r :: mC r m clk :: xC b v :: (ownH v cs 35 ++ R))) (fun i cs5 => i ≤ (seatsOf m).length ∧ ∃ xs, Row v5 cs5 11 (seatsOf m).length xs) (fun i cs5 => (seatsOf m).length - i) 0 cs5 ⟨Nat.zero_le _, _, hrow5⟩ ⟨rfl, rfl, rfl, rfl, rfl, trivial⟩ (by repeat (first | exact Sel.all | exact Sel.none | (apply Sel.one; · repeat (first | exact Pick.h | apply Pick.t | apply Pick.app)) | apply Sel.app | (with_reducible apply Sel.grp; · repeat (first | exact PickF.h | apply PickF.t | apply PickF.a)) | (with_reducible refine Sel.nilF (by with_unfolding_all rfl) ?_) | apply Sel.drop | apply Sel.dropF)) ?_
  clear hrow5
  rintro i cs5 ⟨hi, xs, hrow5⟩
  refine wc_seq ?_
  refine wc_region ?_
  refine wl rfl (OP.evb rfl rfl (eLt rfl rfl) fun t26 h26 => ?_)
  refine wl_nil ?_
  refine wc_seq ?_
  cases t26 with
  | true =>
    try have c_t26 := dt h26
    first
    | (exfalso; omega)
    | (
      refine wc_then rfl ?_
      refine wc_skip ?_
      refine wc_seq ?_
      refine wc_block ?_
      refine wc_seq ?_
      rcases hrow5.2 with ⟨_, h0⟩ | ⟨b5, cap5, rfl, h51, h52, h53⟩
      · exfalso; omega
      refine wc_region ?_
      refine wl rfl (OP.ev rfl rfl (eMv rfl) ?_)
      refine wl rfl (OP.ev rfl rfl (eAs rfl) ?_)
      refine wl_nil ?_
      refine wc_region ?_
      refine wl rfl (OP.ev rfl rfl (eMv rfl) ?_)
      refine wl rfl (OP.ev rfl rfl (eMv rfl) ?_)
      refine wl rfl (OP.ev rfl rfl (eIx ty26 ty35 rfl rfl (by omega) (by omega)) ?_)
      refine wl rfl (OP.ev rfl rfl (eFld 1 ty35 rfl rfl ty3 rfl) ?_)
      refine wl rfl (oSt (cs := cs5) (o' := .cells (cs5.setIfInBounds (i * 11 + 1) (.int .i64 (-7))) 35 (0, 0)) ty3 rfl rfl rfl (by congr 2; omega) (by repeat (first | exact Upd.h | apply Upd.t | apply Upd.app)) (by omega) (by simp) ?_)
      refine wl_nil ?_
      refine wc_region ?_
      first | refine wl rfl (OP.ev rfl rfl (eAdd rfl rfl (by omega)) ?_) | refine wl rfl (OP.ev rfl rfl (eAddW rfl rfl) ?_)
      refine wl rfl (OP.ev rfl rfl (eMv rfl) ?_)
      refine wl_nil ?_
      exact ⟨i + 1, cs5.setIfInBounds (i * 11 + 1) (.int .i64 (-7)), ⟨by omega, _, Row.mk (cs := cs5.setIfInBounds (i * 11 + 1) (.int .i64 (-7))) h51 (by rw [Array.size_setIfInBounds]; exact h52) rfl⟩, by omega, ⟨rfl, rfl, rfl, rfl, rfl, trivial⟩, (by repeat (first | exact Sel.all | exact Sel.none | (apply Sel.one; · repeat (first | exact Pick.h | apply Pick.t | apply Pick.app)) | apply Sel.app | (with_reducible apply Sel.grp; · repeat (first | exact PickF.h | apply PickF.t | apply PickF.a)) | (with_reducible refine Sel.nilF (by with_unfolding_all rfl) ?_) | apply Sel.drop | apply Sel.dropF))⟩)
  | false =>
    try have c_t26 := df h26
    first
    | (exfalso; omega)
    | (
      refine wc_else rfl ?_
      refine wc_exit rfl ?_
      refine wc_seq ?_
      refine wc_region ?_
      refine wl rfl (OP.ev rfl rfl (eMv rfl) ?_)
      refine wl rfl (OP.ev rfl rfl (eAs rfl) ?_)
      refine wl_nil ?_
      refine wc_ret ?_
      apply at_ret rfl
      · exact (.cons (.tmp rfl) .nil)
      · exact ⟨rfl, rfl⟩
      · exact (by repeat (first | exact Sel.all | exact Sel.none | (apply Sel.one; · repeat (first | exact Pick.h | apply Pick.t | apply Pick.app)) | apply Sel.app | (with_reducible apply Sel.grp; · repeat (first | exact PickF.h | apply PickF.t | apply PickF.a)) | (with_reducible refine Sel.nilF (by with_unfolding_all rfl) ?_) | apply Sel.drop | apply Sel.dropF)))
end Go.Proofs.Ytbppeijcfkdhjaa
