/- The contracts of the reference's table: its image, Ask, Expire. -/
import Derived.Test.YtbppeijcfkdhjaaRef
namespace Go.Proofs.Ytbppeijcfkdhjaa
open Go Eng
set_option linter.unusedVariables false
set_option maxRecDepth 4000
variable {W0 : World}

theorem numsOf_eq (s : Seat) : numsOf s = [s.session, s.seq, s.at_] ++ replyN s.reply := rfl

theorem rimage_ok (b : Nat) (v : Value) (cs : Array Value) (l : List Seat) (hrow : Row v cs 11 l.length (flat l)) (hl : l.length ≤ 1048576) (hsm : ∀ s ∈ l, Small s) (R : Heap) :
    FnC W0 Try.prog 39 #[ptr b] (xC b v :: (ownH v cs 35 ++ R)) (fun v' L' => ∃ cs', Row v' cs' 1 (img l).length (byteV (img l)) ∧ L' = ownH v' cs' 5 ++ (xC b v :: (ownH v cs 35 ++ R))) := by
  refine fn_of Try.func39 rfl Try.ntmps39 rfl rfl ?_
  refine wc_seq ?_
  refine wc_region ?_
  refine wl rfl (OP.ev rfl rfl (eAs rfl) ?_)
  refine wl_nil ?_
  refine wc_seq ?_
  refine wc_region ?_
  refine wl rfl (OP.ev rfl rfl (eMv rfl) ?_)
  refine wl rfl (OP.ev rfl rfl (eNil rfl) ?_)
  refine wl rfl (OP.ev rfl rfl (eFld 0 ty55 rfl rfl ty26 rfl) ?_)
  first | refine wl rfl (OP.ev rfl rfl (eLd ty26 rfl rfl (by repeat (first | exact Has.h | apply Has.t | apply Has.app)) (by rfl)) ?_) | refine wl rfl (OP.ev rfl rfl (eLdO ty26 rfl rfl (by assumption)) ?_)
  refine wl rfl (OP.ev rfl rfl (eLenRow ty26 rfl hrow) ?_)
  refine wl rfl (oC rfl pf51 rfl (number1_ok _ [] (l.length : Int) (by omega) _ (Rs.nil _) (by simp)) (by repeat (first | exact Sel.all | exact Sel.none | (apply Sel.one; · repeat (first | exact Pick.h | apply Pick.t | apply Pick.app)) | apply Sel.app | (with_reducible apply Sel.grp; · repeat (first | exact PickF.h | apply PickF.t | apply PickF.a)) | (with_reducible refine Sel.nilF (by with_unfolding_all rfl) ?_) | apply Sel.drop | apply Sel.dropF)) ?_)
  rintro v3 _ ⟨cs3, hrow3, rfl⟩
  refine wl rfl (OP.ev rfl rfl (eAs rfl) ?_)
  refine wl_nil ?_
  rw [List.nil_append] at hrow3
  refine wc_seq ?_
  refine wc_seq ?_
  refine wc_region ?_
  refine wl rfl (OP.ev rfl rfl (eMv rfl) ?_)
  refine wl rfl (OP.ev rfl rfl (eNil rfl) ?_)
  refine wl rfl (OP.ev rfl rfl (eFld 0 ty55 rfl rfl ty26 rfl) ?_)
  first | refine wl rfl (OP.ev rfl rfl (eLd ty26 rfl rfl (by repeat (first | exact Has.h | apply Has.t | apply Has.app)) (by rfl)) ?_) | refine wl rfl (OP.ev rfl rfl (eLdO ty26 rfl rfl (by assumption)) ?_)
  refine wl rfl (OP.ev rfl rfl (eLenRow ty26 rfl hrow) ?_)
  refine wl rfl (OP.ev rfl rfl (eMv rfl) ?_)
  refine wl_nil ?_
  refine wc_block ?_
  refine wc_loop3 (fun (i : Nat) v3 (cs3 : Array Value) => [(0, ptr b), (3, v3), (17, v), (18, i64 (l.length : Int)), (19, i64 (i : Int))]) (fun i v3 cs3 => ownH v3 cs3 5 ++ (xC b v :: (ownH v cs 35 ++ R))) (fun i v3 cs3 => i ≤ l.length ∧ Row v3 cs3 1 (dg l.length ++ numB ((l.take i).flatMap numsOf)).length (byteV (dg l.length ++ numB ((l.take i).flatMap numsOf)))) (fun i v3 cs3 => l.length - i) 0 v3 cs3 ⟨Nat.zero_le _, by simpa [numB] using hrow3⟩ ⟨rfl, rfl, rfl, rfl, rfl, trivial⟩ (by repeat (first | exact Sel.all | exact Sel.none | (apply Sel.one; · repeat (first | exact Pick.h | apply Pick.t | apply Pick.app)) | apply Sel.app | (with_reducible apply Sel.grp; · repeat (first | exact PickF.h | apply PickF.t | apply PickF.a)) | (with_reducible refine Sel.nilF (by with_unfolding_all rfl) ?_) | apply Sel.drop | apply Sel.dropF)) ?_
  rintro i v3 cs3 ⟨hi, hrow3⟩
  refine wc_seq ?_
  refine wc_region ?_
  refine wl rfl (OP.evb rfl rfl (eLt rfl rfl) fun t20 h20 => ?_)
  refine wl_nil ?_
  refine wc_seq ?_
  cases t20 with
  | true =>
    try have c_t20 := dt h20
    first
    | (exfalso; omega)
    | (
      refine wc_then rfl ?_
      refine wc_skip ?_
      refine wc_seq ?_
      refine wc_block ?_
      refine wc_seq ?_
      obtain ⟨s, hs⟩ : ∃ c, l[i]? = some c := ⟨_, List.getElem?_eq_getElem (by omega)⟩
      have hss := hsm s (List.mem_of_getElem? hs)
      have hdl := dg_len (show l.length < 9223372036854775808 by omega)
      have hnl : (numB ((l.take i).flatMap numsOf)).length ≤ 9 * ((l.take i).flatMap numsOf).length := numB_len (fun x hx => by
        obtain ⟨s', h1, h2⟩ := List.mem_flatMap.1 hx
        exact hsm s' (List.mem_of_mem_take h1) x h2)
      rw [flatN_len, List.length_take] at hnl
      have hrow' := hrow
      rcases hrow'.2 with ⟨_, h0⟩ | ⟨vb, vcap, rfl, h1, h2, h3⟩
      · exfalso; omega
      refine wc_region ?_
      refine wl rfl (OP.ev rfl rfl (eIx ty26 ty35 rfl rfl (by omega) (by omega)) ?_)
      refine wl rfl (OP.ev rfl rfl (eLdRA (off := 0) (cells := flat l) (vs := (sC s).toList) ty35 rfl rfl (Rc.of_has (by repeat (first | exact Has.h | apply Has.t | apply Has.app)) (by rw [hrow.1]; exact h3)) (i * 11) (by omega) rfl (flatMap_at _ 11 (fun _ => rfl) l i s hs)) ?_)
      refine wl rfl (oAl rfl ty35 rfl fun b5 => ?_)
      refine wl rfl (oStW ty35 rfl rfl rfl rfl (by repeat (first | exact Upd.h | apply Upd.t | apply Upd.app)) (by rfl) ?_)
      refine wl_nil ?_
      refine wc_seq ?_
      refine wc_drawcut (σ := Value × Array Value) (fun q => [(0, ptr b), (3, v3), (17, .slice (some ⟨vb, 0, none⟩) l.length vcap), (18, i64 (l.length : Int)), (19, i64 (i : Int)), (33, q.1), (34, i64 11), (35, i64 0)]) (fun q => ownH q.1 q.2 3 ++ (ownH v3 cs3 5 ++ (xC b (.slice (some ⟨vb, 0, none⟩) l.length vcap) :: (ownH (.slice (some ⟨vb, 0, none⟩) l.length vcap) cs 35 ++ R)))) (fun q => Row q.1 q.2 1 11 (i64V (numsOf s))) (sB b5 s :: (ownH v3 cs3 5 ++ (xC b (.slice (some ⟨vb, 0, none⟩) l.length vcap) :: (ownH (.slice (some ⟨vb, 0, none⟩) l.length vcap) cs 35 ++ R)))) rfl ?_ ?_
      · skip
        refine wa_take 0 (by kernel_rfl) rfl rfl rfl rfl (by repeat (first | exact Sel.all | exact Sel.none | (apply Sel.one; · repeat (first | exact Pick.h | apply Pick.t | apply Pick.app)) | apply Sel.app | (with_reducible apply Sel.grp; · repeat (first | exact PickF.h | apply PickF.t | apply PickF.a)) | (with_reducible refine Sel.nilF (by with_unfolding_all rfl) ?_) | apply Sel.drop | apply Sel.dropF)) (eFld 0 ty35 rfl rfl ty3 rfl) ?_
        first | refine wa_take 1 (by kernel_rfl) rfl rfl rfl rfl (by repeat (first | exact Sel.all | exact Sel.none | (apply Sel.one; · repeat (first | exact Pick.h | apply Pick.t | apply Pick.app)) | apply Sel.app | (with_reducible apply Sel.grp; · repeat (first | exact PickF.h | apply PickF.t | apply PickF.a)) | (with_reducible refine Sel.nilF (by with_unfolding_all rfl) ?_) | apply Sel.drop | apply Sel.dropF)) (eLd ty3 rfl rfl (by repeat (first | exact Has.h | apply Has.t | apply Has.app)) (by rfl)) ?_ | refine wa_take 1 (by kernel_rfl) rfl rfl rfl rfl (by repeat (first | exact Sel.all | exact Sel.none | (apply Sel.one; · repeat (first | exact Pick.h | apply Pick.t | apply Pick.app)) | apply Sel.app | (with_reducible apply Sel.grp; · repeat (first | exact PickF.h | apply PickF.t | apply PickF.a)) | (with_reducible refine Sel.nilF (by with_unfolding_all rfl) ?_) | apply Sel.drop | apply Sel.dropF)) (eLdO ty3 rfl rfl (by assumption)) ?_
        refine wa_take 2 (by kernel_rfl) rfl rfl rfl rfl (by repeat (first | exact Sel.all | exact Sel.none | (apply Sel.one; · repeat (first | exact Pick.h | apply Pick.t | apply Pick.app)) | apply Sel.app | (with_reducible apply Sel.grp; · repeat (first | exact PickF.h | apply PickF.t | apply PickF.a)) | (with_reducible refine Sel.nilF (by with_unfolding_all rfl) ?_) | apply Sel.drop | apply Sel.dropF)) (eFld 1 ty35 rfl rfl ty3 rfl) ?_
        first | refine wa_take 3 (by kernel_rfl) rfl rfl rfl rfl (by repeat (first | exact Sel.all | exact Sel.none | (apply Sel.one; · repeat (first | exact Pick.h | apply Pick.t | apply Pick.app)) | apply Sel.app | (with_reducible apply Sel.grp; · repeat (first | exact PickF.h | apply PickF.t | apply PickF.a)) | (with_reducible refine Sel.nilF (by with_unfolding_all rfl) ?_) | apply Sel.drop | apply Sel.dropF)) (eLd ty3 rfl rfl (by repeat (first | exact Has.h | apply Has.t | apply Has.app)) (by rfl)) ?_ | refine wa_take 3 (by kernel_rfl) rfl rfl rfl rfl (by repeat (first | exact Sel.all | exact Sel.none | (apply Sel.one; · repeat (first | exact Pick.h | apply Pick.t | apply Pick.app)) | apply Sel.app | (with_reducible apply Sel.grp; · repeat (first | exact PickF.h | apply PickF.t | apply PickF.a)) | (with_reducible refine Sel.nilF (by with_unfolding_all rfl) ?_) | apply Sel.drop | apply Sel.dropF)) (eLdO ty3 rfl rfl (by assumption)) ?_
        refine wa_take 4 (by kernel_rfl) rfl rfl rfl rfl (by repeat (first | exact Sel.all | exact Sel.none | (apply Sel.one; · repeat (first | exact Pick.h | apply Pick.t | apply Pick.app)) | apply Sel.app | (with_reducible apply Sel.grp; · repeat (first | exact PickF.h | apply PickF.t | apply PickF.a)) | (with_reducible refine Sel.nilF (by with_unfolding_all rfl) ?_) | apply Sel.drop | apply Sel.dropF)) (eFld 2 ty35 rfl rfl ty3 rfl) ?_
        first | refine wa_take 5 (by kernel_rfl) rfl rfl rfl rfl (by repeat (first | exact Sel.all | exact Sel.none | (apply Sel.one; · repeat (first | exact Pick.h | apply Pick.t | apply Pick.app)) | apply Sel.app | (with_reducible apply Sel.grp; · repeat (first | exact PickF.h | apply PickF.t | apply PickF.a)) | (with_reducible refine Sel.nilF (by with_unfolding_all rfl) ?_) | apply Sel.drop | apply Sel.dropF)) (eLd ty3 rfl rfl (by repeat (first | exact Has.h | apply Has.t | apply Has.app)) (by rfl)) ?_ | refine wa_take 5 (by kernel_rfl) rfl rfl rfl rfl (by repeat (first | exact Sel.all | exact Sel.none | (apply Sel.one; · repeat (first | exact Pick.h | apply Pick.t | apply Pick.app)) | apply Sel.app | (with_reducible apply Sel.grp; · repeat (first | exact PickF.h | apply PickF.t | apply PickF.a)) | (with_reducible refine Sel.nilF (by with_unfolding_all rfl) ?_) | apply Sel.drop | apply Sel.dropF)) (eLdO ty3 rfl rfl (by assumption)) ?_
        refine wa_take 7 (by kernel_rfl) rfl rfl rfl rfl (by repeat (first | exact Sel.all | exact Sel.none | (apply Sel.one; · repeat (first | exact Pick.h | apply Pick.t | apply Pick.app)) | apply Sel.app | (with_reducible apply Sel.grp; · repeat (first | exact PickF.h | apply PickF.t | apply PickF.a)) | (with_reducible refine Sel.nilF (by with_unfolding_all rfl) ?_) | apply Sel.drop | apply Sel.dropF)) (eFld 3 ty35 rfl rfl ty33 rfl) ?_
        first | refine wa_take 8 (by kernel_rfl) rfl rfl rfl rfl (by repeat (first | exact Sel.all | exact Sel.none | (apply Sel.one; · repeat (first | exact Pick.h | apply Pick.t | apply Pick.app)) | apply Sel.app | (with_reducible apply Sel.grp; · repeat (first | exact PickF.h | apply PickF.t | apply PickF.a)) | (with_reducible refine Sel.nilF (by with_unfolding_all rfl) ?_) | apply Sel.drop | apply Sel.dropF)) (eLdW ty33 rfl rfl (by repeat (first | exact Has.h | apply Has.t | apply Has.app)) (by rfl)) ?_ | refine wa_take 8 (by kernel_rfl) rfl rfl rfl rfl (by repeat (first | exact Sel.all | exact Sel.none | (apply Sel.one; · repeat (first | exact Pick.h | apply Pick.t | apply Pick.app)) | apply Sel.app | (with_reducible apply Sel.grp; · repeat (first | exact PickF.h | apply PickF.t | apply PickF.a)) | (with_reducible refine Sel.nilF (by with_unfolding_all rfl) ?_) | apply Sel.drop | apply Sel.dropF)) (eLdA (vs := [_, _, _, _, _, _, _, _]) ty33 rfl rfl (by repeat (first | exact Has.h | apply Has.t | apply Has.app)) (by rfl) (by rfl)) ?_ | refine wa_take 8 (by kernel_rfl) rfl rfl rfl rfl (by repeat (first | exact Sel.all | exact Sel.none | (apply Sel.one; · repeat (first | exact Pick.h | apply Pick.t | apply Pick.app)) | apply Sel.app | (with_reducible apply Sel.grp; · repeat (first | exact PickF.h | apply PickF.t | apply PickF.a)) | (with_reducible refine Sel.nilF (by with_unfolding_all rfl) ?_) | apply Sel.drop | apply Sel.dropF)) (eLdAO ty33 rfl rfl (by assumption) (by assumption)) ?_
        refine wa_take 12 (by kernel_rfl) rfl rfl rfl rfl (by repeat (first | exact Sel.all | exact Sel.none | (apply Sel.one; · repeat (first | exact Pick.h | apply Pick.t | apply Pick.app)) | apply Sel.app | (with_reducible apply Sel.grp; · repeat (first | exact PickF.h | apply PickF.t | apply PickF.a)) | (with_reducible refine Sel.nilF (by with_unfolding_all rfl) ?_) | apply Sel.drop | apply Sel.dropF)) (eMv rfl) ?_
        refine wa_all [6, 9] (by kernel_rfl) rfl ⟨⟨_, rfl, .inl rfl, ?_⟩, ⟨_, rfl, .inl rfl, ?_⟩, trivial⟩
        · skip
          refine oBSw (vs := [_, _, _]) rfl ty67 ty3 rfl rfl rfl rfl rfl rfl fun b29 => ?_
          refine ⟨(by repeat (first | exact Sel.all | exact Sel.none | (apply Sel.one; · repeat (first | exact Pick.h | apply Pick.t | apply Pick.app)) | apply Sel.app | (with_reducible apply Sel.grp; · repeat (first | exact PickF.h | apply PickF.t | apply PickF.a)) | (with_reducible refine Sel.nilF (by with_unfolding_all rfl) ?_) | apply Sel.drop | apply Sel.dropF)), ?_⟩
          refine wa_all [9] (by kernel_rfl) rfl (wall_one 9 rfl rfl ?_ trivial)
          refine oC rfl pf50 rfl (replyN_ok s.reply _) (by repeat (first | exact Sel.all | exact Sel.none | (apply Sel.one; · repeat (first | exact Pick.h | apply Pick.t | apply Pick.app)) | apply Sel.app | (with_reducible apply Sel.grp; · repeat (first | exact PickF.h | apply PickF.t | apply PickF.a)) | (with_reducible refine Sel.nilF (by with_unfolding_all rfl) ?_) | apply Sel.drop | apply Sel.dropF)) ?_
          rintro _ _ ⟨b32, rfl, rfl⟩
          refine ⟨(by repeat (first | exact Sel.all | exact Sel.none | (apply Sel.one; · repeat (first | exact Pick.h | apply Pick.t | apply Pick.app)) | apply Sel.app | (with_reducible apply Sel.grp; · repeat (first | exact PickF.h | apply PickF.t | apply PickF.a)) | (with_reducible refine Sel.nilF (by with_unfolding_all rfl) ?_) | apply Sel.drop | apply Sel.dropF)), ?_⟩
          refine wa_all [10] (by kernel_rfl) rfl (wall_one 10 rfl rfl ?_ trivial)
          refine oApp (m := 8) (news := i64V (replyN s.reply)) rfl ty67 ty3 rfl rfl rfl (Row.mk (b := b29) (k := 3) (cap := 3) (cs := #[.int .i64 s.session, .int .i64 s.seq, .int .i64 s.at_]) (sz := 1) (xs := i64V [s.session, s.seq, s.at_]) (Nat.le_refl _) rfl rfl) (by repeat (first | exact At.cell | exact At.h | apply At.t | apply At.a)) (Rs.mk (Rc.of_has (by repeat (first | exact Has.h | apply Has.t | apply Has.app)) rfl) rfl (Nat.le_refl _)) (i64V_one _) (by omega) (by omega) ?_
          rintro v33 cs33 hrow33 _
          rw [← i64V_app, ← numsOf_eq] at hrow33
          refine ⟨(by repeat (first | exact Sel.all | exact Sel.none | (apply Sel.one; · repeat (first | exact Pick.h | apply Pick.t | apply Pick.app)) | apply Sel.app | (with_reducible apply Sel.grp; · repeat (first | exact PickF.h | apply PickF.t | apply PickF.a)) | (with_reducible refine Sel.nilF (by with_unfolding_all rfl) ?_) | apply Sel.drop | apply Sel.dropF)), ?_⟩
          refine wa_take 11 (by kernel_rfl) rfl rfl rfl rfl (by repeat (first | exact Sel.all | exact Sel.none | (apply Sel.one; · repeat (first | exact Pick.h | apply Pick.t | apply Pick.app)) | apply Sel.app | (with_reducible apply Sel.grp; · repeat (first | exact PickF.h | apply PickF.t | apply PickF.a)) | (with_reducible refine Sel.nilF (by with_unfolding_all rfl) ?_) | apply Sel.drop | apply Sel.dropF)) (eLenRow ty67 rfl hrow33) ?_
          refine wa_nil (by kernel_rfl) ?_
          exact ⟨(v33, cs33), hrow33, ⟨rfl, rfl, rfl, rfl, rfl, rfl, rfl, rfl, trivial⟩, (by repeat (first | exact Sel.all | exact Sel.none | (apply Sel.one; · repeat (first | exact Pick.h | apply Pick.t | apply Pick.app)) | apply Sel.app | (with_reducible apply Sel.grp; · repeat (first | exact PickF.h | apply PickF.t | apply PickF.a)) | (with_reducible refine Sel.nilF (by with_unfolding_all rfl) ?_) | apply Sel.drop | apply Sel.dropF))⟩
        · skip
          refine oC rfl pf50 rfl (replyN_ok s.reply _) (by repeat (first | exact Sel.all | exact Sel.none | (apply Sel.one; · repeat (first | exact Pick.h | apply Pick.t | apply Pick.app)) | apply Sel.app | (with_reducible apply Sel.grp; · repeat (first | exact PickF.h | apply PickF.t | apply PickF.a)) | (with_reducible refine Sel.nilF (by with_unfolding_all rfl) ?_) | apply Sel.drop | apply Sel.dropF)) ?_
          rintro _ _ ⟨b32, rfl, rfl⟩
          refine ⟨(by repeat (first | exact Sel.all | exact Sel.none | (apply Sel.one; · repeat (first | exact Pick.h | apply Pick.t | apply Pick.app)) | apply Sel.app | (with_reducible apply Sel.grp; · repeat (first | exact PickF.h | apply PickF.t | apply PickF.a)) | (with_reducible refine Sel.nilF (by with_unfolding_all rfl) ?_) | apply Sel.drop | apply Sel.dropF)), ?_⟩
          refine wa_all [6] (by kernel_rfl) rfl (wall_one 6 rfl rfl ?_ trivial)
          refine oBSw (vs := [_, _, _]) rfl ty67 ty3 rfl rfl rfl rfl rfl rfl fun b29 => ?_
          refine ⟨(by repeat (first | exact Sel.all | exact Sel.none | (apply Sel.one; · repeat (first | exact Pick.h | apply Pick.t | apply Pick.app)) | apply Sel.app | (with_reducible apply Sel.grp; · repeat (first | exact PickF.h | apply PickF.t | apply PickF.a)) | (with_reducible refine Sel.nilF (by with_unfolding_all rfl) ?_) | apply Sel.drop | apply Sel.dropF)), ?_⟩
          refine wa_all [10] (by kernel_rfl) rfl (wall_one 10 rfl rfl ?_ trivial)
          refine oApp (m := 8) (news := i64V (replyN s.reply)) rfl ty67 ty3 rfl rfl rfl (Row.mk (b := b29) (k := 3) (cap := 3) (cs := #[.int .i64 s.session, .int .i64 s.seq, .int .i64 s.at_]) (sz := 1) (xs := i64V [s.session, s.seq, s.at_]) (Nat.le_refl _) rfl rfl) (by repeat (first | exact At.cell | exact At.h | apply At.t | apply At.a)) (Rs.mk (Rc.of_has (by repeat (first | exact Has.h | apply Has.t | apply Has.app)) rfl) rfl (Nat.le_refl _)) (i64V_one _) (by omega) (by omega) ?_
          rintro v33 cs33 hrow33 _
          rw [← i64V_app, ← numsOf_eq] at hrow33
          refine ⟨(by repeat (first | exact Sel.all | exact Sel.none | (apply Sel.one; · repeat (first | exact Pick.h | apply Pick.t | apply Pick.app)) | apply Sel.app | (with_reducible apply Sel.grp; · repeat (first | exact PickF.h | apply PickF.t | apply PickF.a)) | (with_reducible refine Sel.nilF (by with_unfolding_all rfl) ?_) | apply Sel.drop | apply Sel.dropF)), ?_⟩
          refine wa_take 11 (by kernel_rfl) rfl rfl rfl rfl (by repeat (first | exact Sel.all | exact Sel.none | (apply Sel.one; · repeat (first | exact Pick.h | apply Pick.t | apply Pick.app)) | apply Sel.app | (with_reducible apply Sel.grp; · repeat (first | exact PickF.h | apply PickF.t | apply PickF.a)) | (with_reducible refine Sel.nilF (by with_unfolding_all rfl) ?_) | apply Sel.drop | apply Sel.dropF)) (eLenRow ty67 rfl hrow33) ?_
          refine wa_nil (by kernel_rfl) ?_
          exact ⟨(v33, cs33), hrow33, ⟨rfl, rfl, rfl, rfl, rfl, rfl, rfl, rfl, trivial⟩, (by repeat (first | exact Sel.all | exact Sel.none | (apply Sel.one; · repeat (first | exact Pick.h | apply Pick.t | apply Pick.app)) | apply Sel.app | (with_reducible apply Sel.grp; · repeat (first | exact PickF.h | apply PickF.t | apply PickF.a)) | (with_reducible refine Sel.nilF (by with_unfolding_all rfl) ?_) | apply Sel.drop | apply Sel.dropF))⟩
      · rintro ⟨v33, cs33⟩ hrow33
        dsimp only at hrow33 ⊢
        refine wc_block ?_
        refine wc_loop3 (fun (j : Nat) v3 (cs3 : Array Value) => [(0, ptr b), (3, v3), (17, _), (18, i64 (l.length : Int)), (19, i64 (i : Int)), (33, v33), (34, i64 11), (35, i64 (j : Int))]) (fun j v3 cs3 => ownH v3 cs3 5 ++ (ownH v33 cs33 3 ++ (xC b (.slice (some ⟨vb, 0, none⟩) l.length vcap) :: (ownH (.slice (some ⟨vb, 0, none⟩) l.length vcap) cs 35 ++ R)))) (fun j v3 cs3 => j ≤ 11 ∧ Row v3 cs3 1 (dg l.length ++ numB ((l.take i).flatMap numsOf) ++ numB ((numsOf s).take j)).length (byteV (dg l.length ++ numB ((l.take i).flatMap numsOf) ++ numB ((numsOf s).take j)))) (fun j v3 cs3 => 11 - j) 0 v3 cs3 ⟨Nat.zero_le _, by simpa [numB] using hrow3⟩ ⟨rfl, rfl, rfl, rfl, rfl, rfl, rfl, rfl, trivial⟩ (by repeat (first | exact Sel.all | exact Sel.none | (apply Sel.one; · repeat (first | exact Pick.h | apply Pick.t | apply Pick.app)) | apply Sel.app | (with_reducible apply Sel.grp; · repeat (first | exact PickF.h | apply PickF.t | apply PickF.a)) | (with_reducible refine Sel.nilF (by with_unfolding_all rfl) ?_) | apply Sel.drop | apply Sel.dropF)) ?_
        rintro j v3 cs3 ⟨hj, hrow3⟩
        refine wc_seq ?_
        refine wc_region ?_
        refine wl rfl (OP.evb rfl rfl (eLt rfl rfl) fun t36 h36 => ?_)
        refine wl_nil ?_
        refine wc_seq ?_
        cases t36 with
        | true =>
          try have c_t36 := dt h36
          first
          | (exfalso; omega)
          | (
            refine wc_then rfl ?_
            refine wc_skip ?_
            refine wc_seq ?_
            refine wc_block ?_
            refine wc_seq ?_
            obtain ⟨x, hx2⟩ : ∃ x, (numsOf s)[j]? = some x := ⟨_, List.getElem?_eq_getElem (by show j < 11; omega)⟩
            have hnx := numB_next hx2
            have hxs := hss x (List.mem_of_getElem? hx2)
            have hnl2 : (numB ((numsOf s).take j)).length ≤ 9 * ((numsOf s).take j).length := numB_len (fun y hy => hss y (List.mem_of_mem_take hy))
            rw [List.length_take] at hnl2
            have hrow33' := hrow33
            rcases hrow33'.2 with ⟨_, h0⟩ | ⟨b33, cap33, rfl, h331, h332, h333⟩
            · exfalso; omega
            refine wc_region ?_
            refine wl rfl (OP.ev rfl rfl (eIx ty67 ty3 rfl rfl (by omega) (by omega)) ?_)
            refine wl rfl (OP.ev rfl rfl (eLdR (off := 0) (cells := i64V (numsOf s)) (v := .int .i64 x) ty3 rfl rfl (Rc.of_has (by repeat (first | exact Has.h | apply Has.t | apply Has.app)) (by rw [hrow33.1]; exact h333)) j (by simp) (by unfold i64V; rw [List.getElem?_map, hx2]; rfl)) ?_)
            refine wl rfl (OP.ev rfl rfl (eAs rfl) ?_)
            refine wl_nil ?_
            refine wc_region ?_
            refine wl rfl (OP.ev rfl rfl (eMv rfl) ?_)
            refine wl rfl (OP.ev rfl rfl (eMv rfl) ?_)
            refine wl rfl (oC (L1 := _) rfl pf51 rfl (number1_ok _ _ x (by omega) _ (hrow3.rs (by repeat (first | exact At.cell | exact At.h | apply At.t | apply At.a))) (by rw [List.length_append, List.length_append]; omega)) Sel.all ?_)
            rintro v3' _ ⟨cs3', hrow3', rfl⟩
            rw [List.append_assoc, ← hnx] at hrow3'
            refine wl rfl (OP.ev rfl rfl (eAs rfl) ?_)
            refine wl_nil ?_
            refine wc_region ?_
            first | refine wl rfl (OP.ev rfl rfl (eAdd rfl rfl (by omega)) ?_) | refine wl rfl (OP.ev rfl rfl (eAddW rfl rfl) ?_)
            refine wl rfl (OP.ev rfl rfl (eMv rfl) ?_)
            refine wl_nil ?_
            exact ⟨j + 1, v3', cs3', ⟨by omega, hrow3'⟩, by omega, ⟨rfl, rfl, rfl, rfl, rfl, rfl, rfl, rfl, trivial⟩, (by repeat (first | exact Sel.all | exact Sel.none | (apply Sel.one; · repeat (first | exact Pick.h | apply Pick.t | apply Pick.app)) | apply Sel.app | (with_reducible apply Sel.grp; · repeat (first | exact PickF.h | apply PickF.t | apply PickF.a)) | (with_reducible refine Sel.nilF (by with_unfolding_all rfl) ?_) | apply Sel.drop | apply Sel.dropF))⟩)
        | false =>
          try have c_t36 := df h36
          first
          | (exfalso; omega)
          | (
            refine wc_else rfl ?_
            refine wc_exit rfl ?_
            have hj : j = 11 := by omega
            have hfin : dg l.length ++ numB ((l.take i).flatMap numsOf) ++ numB ((numsOf s).take j) = dg l.length ++ numB ((l.take (i + 1)).flatMap numsOf) := by
              have htk : (numsOf s).take j = numsOf s := List.take_of_length_le (by show 11 ≤ j; omega)
              rw [flatN_next hs, numB_app, htk, List.append_assoc]
            rw [hfin] at hrow3
            refine wc_region ?_
            first | refine wl rfl (OP.ev rfl rfl (eAdd rfl rfl (by omega)) ?_) | refine wl rfl (OP.ev rfl rfl (eAddW rfl rfl) ?_)
            refine wl rfl (OP.ev rfl rfl (eMv rfl) ?_)
            refine wl_nil ?_
            exact ⟨i + 1, v3, cs3, ⟨by omega, hrow3⟩, by omega, ⟨rfl, rfl, rfl, rfl, rfl, trivial⟩, (by repeat (first | exact Sel.all | exact Sel.none | (apply Sel.one; · repeat (first | exact Pick.h | apply Pick.t | apply Pick.app)) | apply Sel.app | (with_reducible apply Sel.grp; · repeat (first | exact PickF.h | apply PickF.t | apply PickF.a)) | (with_reducible refine Sel.nilF (by with_unfolding_all rfl) ?_) | apply Sel.drop | apply Sel.dropF))⟩))
  | false =>
    try have c_t20 := df h20
    first
    | (exfalso; omega)
    | (
      refine wc_else rfl ?_
      refine wc_exit rfl ?_
      refine wc_seq ?_
      refine wc_region ?_
      refine wl rfl (OP.ev rfl rfl (eMv rfl) ?_)
      refine wl rfl (OP.ev rfl rfl (eAs rfl) ?_)
      refine wl_nil ?_
      refine wc_ret ?_
      apply at_ret rfl
      · exact (.cons (.tmp rfl) .nil)
      · have hi : i = l.length := by omega
        rw [hi, List.take_length] at hrow3
        exact ⟨cs3, hrow3, rfl⟩
      · exact (by repeat (first | exact Sel.all | exact Sel.none | (apply Sel.one; · repeat (first | exact Pick.h | apply Pick.t | apply Pick.app)) | apply Sel.app | (with_reducible apply Sel.grp; · repeat (first | exact PickF.h | apply PickF.t | apply PickF.a)) | (with_reducible refine Sel.nilF (by with_unfolding_all rfl) ?_) | apply Sel.drop | apply Sel.dropF)))

def askO (o : Option Seat) (n : Int) : Reply × Bool × Int :=
  match o with
  | none => (r0, false, 80)
  | some s => if n < s.seq ∨ n < 1 then (r0, false, 81) else if n = s.seq then (s.reply, true, 0) else if s.seq < n - 1 then (r0, false, 82) else (r0, false, 0)
theorem ask_eq (m : SMap) (k n : Int) : ask m k n = askO (mget k m) n := rfl

/-- the seat of a session -/
def lg (l : List Seat) (k : Int) : Option Seat := match l.findIdx? (fun s => decide (s.session = k)) with
  | some i => l[i]?
  | none => none
theorem lg_spec (l : List Seat) (k : Int) : (pl l k = -1 ∧ lg l k = none) ∨ ∃ (i : Nat) (s : Seat), pl l k = (i : Int) ∧ l[i]? = some s ∧ s.session = k ∧ lg l k = some s := by
  unfold pl lg
  cases h : l.findIdx? (fun s => decide (s.session = k)) with
  | none => exact .inl ⟨rfl, rfl⟩
  | some i =>
    obtain ⟨h1, h2, h3⟩ := List.findIdx?_eq_some_iff_getElem.1 h
    exact .inr ⟨i, l[i], rfl, List.getElem?_eq_getElem h1, by simpa using h2, List.getElem?_eq_getElem h1⟩

theorem rask_ok (b : Nat) (v : Value) (cs : Array Value) (l : List Seat) (k n : Int) (hrow : Row v cs 11 l.length (flat l)) (hl : l.length ≤ 1048576) (hq : ∀ s ∈ l, 0 ≤ s.seq ∧ s.seq ≤ 1099511627776) (hn : -9223372036854775808 ≤ n ∧ n < 9223372036854775808) (R : Heap) :
    FnC W0 Try.prog 20 #[ptr b, i64 k, i64 n] (xC b v :: (ownH v cs 35 ++ R)) (fun v' L' => v' = askV (askO (lg l k) n) ∧ L' = xC b v :: (ownH v cs 35 ++ R)) := by
  refine fn_of Try.func20 rfl Try.ntmps20 rfl rfl ?_
  refine wc_seq ?_
  refine wc_region ?_
  refine wl rfl (oAl rfl ty33 rfl fun b6 => ?_)
  refine wl rfl (OP.ev rfl rfl (eAs rfl) ?_)
  refine wl rfl (OP.ev rfl rfl (eAs rfl) ?_)
  refine wl_nil ?_
  refine wc_seq ?_
  refine wc_region ?_
  refine wl rfl (OP.ev rfl rfl (eMv rfl) ?_)
  refine wl rfl (OP.ev rfl rfl (eMv rfl) ?_)
  refine wl rfl (oC rfl pf37 rfl (place_ok b v cs l k hrow (by omega) _) (by repeat (first | exact Sel.all | exact Sel.none | (apply Sel.one; · repeat (first | exact Pick.h | apply Pick.t | apply Pick.app)) | apply Sel.app | (with_reducible apply Sel.grp; · repeat (first | exact PickF.h | apply PickF.t | apply PickF.a)) | (with_reducible refine Sel.nilF (by with_unfolding_all rfl) ?_) | apply Sel.drop | apply Sel.dropF)) ?_)
  rintro _ _ ⟨rfl, rfl⟩
  refine wl rfl (OP.ev rfl rfl (eAs rfl) ?_)
  refine wl_nil ?_
  refine wc_seq ?_
  refine wc_seq ?_
  refine wc_region ?_
  refine wl rfl (OP.ev rfl rfl (eMv rfl) ?_)
  refine wl rfl (OP.evb rfl rfl (eLt rfl rfl) fun t15 h15 => ?_)
  refine wl_nil ?_
  cases t15 with
  | true =>
    try have c_t15 := dt h15
    first
    | (exfalso; omega)
    | (
      refine wc_then rfl ?_
      refine wc_seq ?_
      have hlg : lg l k = none := by
        rcases lg_spec l k with h | ⟨i, s, h, _⟩
        · exact h.2
        · omega
      refine wc_region ?_
      refine wl rfl (OP.ev rfl rfl (eBuL (cells := [.int .i64 0, .int .i64 0, .int .i64 0, .int .i64 0, .int .i64 0, .int .i64 0, .int .i64 0, .int .i64 0]) ty33 pl33 rfl rfl) ?_)
      refine wl rfl (oStW ty33 rfl rfl rfl rfl (by repeat (first | exact Upd.h | apply Upd.t | apply Upd.app)) (by rfl) ?_)
      refine wl rfl (OP.ev rfl rfl (eAs rfl) ?_)
      refine wl rfl (OP.ev rfl rfl (eAs rfl) ?_)
      refine wl_nil ?_
      refine wc_ret ?_
      apply at_ret rfl
      · exact (.cons (.cell rfl (by repeat (first | exact Has.h | apply Has.t | apply Has.app)) ty33 rfl) (.cons (.tmp rfl) (.cons (.tmp rfl) .nil)))
      · exact ⟨by rw [hlg]; simp only [askO]; (repeat (first | rw [if_pos (by omega)] | rw [if_neg (by omega)])); rfl, rfl⟩
      · exact (by repeat (first | exact Sel.all | exact Sel.none | (apply Sel.one; · repeat (first | exact Pick.h | apply Pick.t | apply Pick.app)) | apply Sel.app | (with_reducible apply Sel.grp; · repeat (first | exact PickF.h | apply PickF.t | apply PickF.a)) | (with_reducible refine Sel.nilF (by with_unfolding_all rfl) ?_) | apply Sel.drop | apply Sel.dropF)))
  | false =>
    try have c_t15 := df h15
    first
    | (exfalso; omega)
    | (
      refine wc_else rfl ?_
      refine wc_skip ?_
      refine wc_seq ?_
      obtain ⟨i, s, hi, hs, hsk, hlg⟩ : ∃ (i : Nat) (s : Seat), pl l k = (i : Int) ∧ l[i]? = some s ∧ s.session = k ∧ lg l k = some s := by
        rcases lg_spec l k with h | h
        · omega
        · exact h
      have hil := (List.getElem?_eq_some_iff.1 hs).1
      have hsq := hq s (List.mem_of_getElem? hs)
      have hrow' := hrow
      rcases hrow'.2 with ⟨_, h0⟩ | ⟨vb, vcap, rfl, h1, h2, h3⟩
      · exfalso; omega
      refine wc_region ?_
      refine wl rfl (OP.ev rfl rfl (eMv rfl) ?_)
      refine wl rfl (OP.ev rfl rfl (eNil rfl) ?_)
      refine wl rfl (OP.ev rfl rfl (eFld 0 ty55 rfl rfl ty26 rfl) ?_)
      first | refine wl rfl (OP.ev rfl rfl (eLd ty26 rfl rfl (by repeat (first | exact Has.h | apply Has.t | apply Has.app)) (by rfl)) ?_) | refine wl rfl (OP.ev rfl rfl (eLdO ty26 rfl rfl (by assumption)) ?_)
      refine wl rfl (OP.ev rfl rfl (eMv rfl) ?_)
      refine wl rfl (OP.ev rfl rfl (eIx ty26 ty35 rfl rfl (by omega) (by omega)) ?_)
      refine wl rfl (OP.ev rfl rfl (eLdRA (off := 0) (cells := flat l) (vs := (sC s).toList) ty35 rfl rfl (Rc.of_has (by repeat (first | exact Has.h | apply Has.t | apply Has.app)) (by rw [hrow.1]; exact h3)) (i * 11) (by omega) rfl (flatMap_at _ 11 (fun _ => rfl) l i s hs)) ?_)
      refine wl rfl (oAl rfl ty35 rfl fun b10 => ?_)
      refine wl rfl (oStW ty35 rfl rfl rfl rfl (by repeat (first | exact Upd.h | apply Upd.t | apply Upd.app)) (by rfl) ?_)
      refine wl_nil ?_
      refine wc_seq ?_
      refine wc_seq ?_
      refine wc_region ?_
      refine wl rfl (OP.ev rfl rfl (eMv rfl) ?_)
      refine wl rfl (OP.ev rfl rfl (eFld 1 ty35 rfl rfl ty3 rfl) ?_)
      first | refine wl rfl (OP.ev rfl rfl (eLd ty3 rfl rfl (by repeat (first | exact Has.h | apply Has.t | apply Has.app)) (by rfl)) ?_) | refine wl rfl (OP.ev rfl rfl (eLdO ty3 rfl rfl (by assumption)) ?_)
      refine wl rfl (OP.evb rfl rfl (eLt rfl rfl) fun t27 h27 => ?_)
      refine wl rfl (OP.ev rfl rfl (eMv rfl) ?_)
      cases t27 with
      | true =>
        try have c_t27 := dt h27
        first
        | (exfalso; omega)
        | (
          refine wl_skip rfl rfl rfl rfl rfl ?_
          refine wl_skip rfl rfl rfl rfl rfl ?_
          refine wl rfl (OP.ev rfl rfl (ePk rfl rfl) ?_)
          refine wl_nil ?_
          refine wc_then rfl ?_
          refine wc_seq ?_
          refine wc_region ?_
          refine wl rfl (OP.ev rfl rfl (eBuL (cells := [.int .i64 0, .int .i64 0, .int .i64 0, .int .i64 0, .int .i64 0, .int .i64 0, .int .i64 0, .int .i64 0]) ty33 pl33 rfl rfl) ?_)
          refine wl rfl (oStW ty33 rfl rfl rfl rfl (by repeat (first | exact Upd.h | apply Upd.t | apply Upd.app)) (by rfl) ?_)
          refine wl rfl (OP.ev rfl rfl (eAs rfl) ?_)
          refine wl rfl (OP.ev rfl rfl (eAs rfl) ?_)
          refine wl_nil ?_
          refine wc_ret ?_
          apply at_ret rfl
          · exact (.cons (.cell rfl (by repeat (first | exact Has.h | apply Has.t | apply Has.app)) ty33 rfl) (.cons (.tmp rfl) (.cons (.tmp rfl) .nil)))
          · exact ⟨by rw [hlg]; simp only [askO]; (repeat (first | rw [if_pos (by omega)] | rw [if_neg (by omega)])); rfl, rfl⟩
          · exact (by repeat (first | exact Sel.all | exact Sel.none | (apply Sel.one; · repeat (first | exact Pick.h | apply Pick.t | apply Pick.app)) | apply Sel.app | (with_reducible apply Sel.grp; · repeat (first | exact PickF.h | apply PickF.t | apply PickF.a)) | (with_reducible refine Sel.nilF (by with_unfolding_all rfl) ?_) | apply Sel.drop | apply Sel.dropF)))
      | false =>
        try have c_t27 := df h27
        first
        | (exfalso; omega)
        | (
          refine wl_go rfl rfl (OP.ev rfl rfl (eMv rfl) ?_)
          refine wl_go rfl rfl (OP.evb rfl rfl (eLt rfl rfl) fun t30 h30 => ?_)
          refine wl rfl (OP.ev rfl rfl (ePk rfl rfl) ?_)
          refine wl_nil ?_
          cases t30 with
          | true =>
            try have c_t30 := dt h30
            first
            | (exfalso; omega)
            | (
              refine wc_then rfl ?_
              refine wc_seq ?_
              refine wc_region ?_
              refine wl rfl (OP.ev rfl rfl (eBuL (cells := [.int .i64 0, .int .i64 0, .int .i64 0, .int .i64 0, .int .i64 0, .int .i64 0, .int .i64 0, .int .i64 0]) ty33 pl33 rfl rfl) ?_)
              refine wl rfl (oStW ty33 rfl rfl rfl rfl (by repeat (first | exact Upd.h | apply Upd.t | apply Upd.app)) (by rfl) ?_)
              refine wl rfl (OP.ev rfl rfl (eAs rfl) ?_)
              refine wl rfl (OP.ev rfl rfl (eAs rfl) ?_)
              refine wl_nil ?_
              refine wc_ret ?_
              apply at_ret rfl
              · exact (.cons (.cell rfl (by repeat (first | exact Has.h | apply Has.t | apply Has.app)) ty33 rfl) (.cons (.tmp rfl) (.cons (.tmp rfl) .nil)))
              · exact ⟨by rw [hlg]; simp only [askO]; (repeat (first | rw [if_pos (by omega)] | rw [if_neg (by omega)])); rfl, rfl⟩
              · exact (by repeat (first | exact Sel.all | exact Sel.none | (apply Sel.one; · repeat (first | exact Pick.h | apply Pick.t | apply Pick.app)) | apply Sel.app | (with_reducible apply Sel.grp; · repeat (first | exact PickF.h | apply PickF.t | apply PickF.a)) | (with_reducible refine Sel.nilF (by with_unfolding_all rfl) ?_) | apply Sel.drop | apply Sel.dropF)))
          | false =>
            try have c_t30 := df h30
            first
            | (exfalso; omega)
            | (
              refine wc_else rfl ?_
              refine wc_skip ?_
              refine wc_seq ?_
              refine wc_seq ?_
              refine wc_region ?_
              refine wl rfl (OP.ev rfl rfl (eMv rfl) ?_)
              refine wl rfl (OP.ev rfl rfl (eFld 1 ty35 rfl rfl ty3 rfl) ?_)
              first | refine wl rfl (OP.ev rfl rfl (eLd ty3 rfl rfl (by repeat (first | exact Has.h | apply Has.t | apply Has.app)) (by rfl)) ?_) | refine wl rfl (OP.ev rfl rfl (eLdO ty3 rfl rfl (by assumption)) ?_)
              refine wl rfl (OP.evb rfl rfl (eEq rfl rfl) fun t36 h36 => ?_)
              refine wl_nil ?_
              cases t36 with
              | true =>
                try have c_t36 := dt h36
                first
                | (exfalso; omega)
                | (
                  refine wc_then rfl ?_
                  refine wc_seq ?_
                  refine wc_region ?_
                  refine wl rfl (OP.ev rfl rfl (eFld 3 ty35 rfl rfl ty33 rfl) ?_)
                  first | refine wl rfl (OP.ev rfl rfl (eLdW ty33 rfl rfl (by repeat (first | exact Has.h | apply Has.t | apply Has.app)) (by rfl)) ?_) | refine wl rfl (OP.ev rfl rfl (eLdA (vs := [_, _, _, _, _, _, _, _]) ty33 rfl rfl (by repeat (first | exact Has.h | apply Has.t | apply Has.app)) (by rfl) (by rfl)) ?_) | refine wl rfl (OP.ev rfl rfl (eLdAO ty33 rfl rfl (by assumption) (by assumption)) ?_)
                  refine wl rfl (oStW ty33 rfl rfl rfl rfl (by repeat (first | exact Upd.h | apply Upd.t | apply Upd.app)) (by rfl) ?_)
                  refine wl rfl (OP.ev rfl rfl (eAs rfl) ?_)
                  refine wl rfl (OP.ev rfl rfl (eAs rfl) ?_)
                  refine wl_nil ?_
                  refine wc_ret ?_
                  apply at_ret rfl
                  · exact (.cons (.cell rfl (by repeat (first | exact Has.h | apply Has.t | apply Has.app)) ty33 rfl) (.cons (.tmp rfl) (.cons (.tmp rfl) .nil)))
                  · exact ⟨by rw [hlg]; simp only [askO]; (repeat (first | rw [if_pos (by omega)] | rw [if_neg (by omega)])); rfl, rfl⟩
                  · exact (by repeat (first | exact Sel.all | exact Sel.none | (apply Sel.one; · repeat (first | exact Pick.h | apply Pick.t | apply Pick.app)) | apply Sel.app | (with_reducible apply Sel.grp; · repeat (first | exact PickF.h | apply PickF.t | apply PickF.a)) | (with_reducible refine Sel.nilF (by with_unfolding_all rfl) ?_) | apply Sel.drop | apply Sel.dropF)))
              | false =>
                try have c_t36 := df h36
                first
                | (exfalso; omega)
                | (
                  refine wc_else rfl ?_
                  refine wc_skip ?_
                  refine wc_seq ?_
                  refine wc_seq ?_
                  refine wc_region ?_
                  refine wl rfl (OP.ev rfl rfl (eMv rfl) ?_)
                  refine wl rfl (OP.ev rfl rfl (eFld 1 ty35 rfl rfl ty3 rfl) ?_)
                  first | refine wl rfl (OP.ev rfl rfl (eLd ty3 rfl rfl (by repeat (first | exact Has.h | apply Has.t | apply Has.app)) (by rfl)) ?_) | refine wl rfl (OP.ev rfl rfl (eLdO ty3 rfl rfl (by assumption)) ?_)
                  first | refine wl rfl (OP.ev rfl rfl (eAdd rfl rfl (by omega)) ?_) | refine wl rfl (OP.ev rfl rfl (eAddW rfl rfl) ?_)
                  refine wl rfl (OP.evb rfl rfl (eGt rfl rfl) fun t43 h43 => ?_)
                  refine wl_nil ?_
                  cases t43 with
                  | true =>
                    try have c_t43 := dt h43
                    first
                    | (exfalso; omega)
                    | (
                      refine wc_then rfl ?_
                      refine wc_seq ?_
                      refine wc_region ?_
                      refine wl rfl (OP.ev rfl rfl (eBuL (cells := [.int .i64 0, .int .i64 0, .int .i64 0, .int .i64 0, .int .i64 0, .int .i64 0, .int .i64 0, .int .i64 0]) ty33 pl33 rfl rfl) ?_)
                      refine wl rfl (oStW ty33 rfl rfl rfl rfl (by repeat (first | exact Upd.h | apply Upd.t | apply Upd.app)) (by rfl) ?_)
                      refine wl rfl (OP.ev rfl rfl (eAs rfl) ?_)
                      refine wl rfl (OP.ev rfl rfl (eAs rfl) ?_)
                      refine wl_nil ?_
                      refine wc_ret ?_
                      apply at_ret rfl
                      · exact (.cons (.cell rfl (by repeat (first | exact Has.h | apply Has.t | apply Has.app)) ty33 rfl) (.cons (.tmp rfl) (.cons (.tmp rfl) .nil)))
                      · exact ⟨by rw [hlg]; simp only [askO]; (repeat (first | rw [if_pos (by omega)] | rw [if_neg (by omega)])); rfl, rfl⟩
                      · exact (by repeat (first | exact Sel.all | exact Sel.none | (apply Sel.one; · repeat (first | exact Pick.h | apply Pick.t | apply Pick.app)) | apply Sel.app | (with_reducible apply Sel.grp; · repeat (first | exact PickF.h | apply PickF.t | apply PickF.a)) | (with_reducible refine Sel.nilF (by with_unfolding_all rfl) ?_) | apply Sel.drop | apply Sel.dropF)))
                  | false =>
                    try have c_t43 := df h43
                    first
                    | (exfalso; omega)
                    | (
                      refine wc_else rfl ?_
                      refine wc_skip ?_
                      refine wc_seq ?_
                      refine wc_region ?_
                      refine wl rfl (OP.ev rfl rfl (eBuL (cells := [.int .i64 0, .int .i64 0, .int .i64 0, .int .i64 0, .int .i64 0, .int .i64 0, .int .i64 0, .int .i64 0]) ty33 pl33 rfl rfl) ?_)
                      refine wl rfl (oStW ty33 rfl rfl rfl rfl (by repeat (first | exact Upd.h | apply Upd.t | apply Upd.app)) (by rfl) ?_)
                      refine wl rfl (OP.ev rfl rfl (eAs rfl) ?_)
                      refine wl rfl (OP.ev rfl rfl (eAs rfl) ?_)
                      refine wl_nil ?_
                      refine wc_ret ?_
                      apply at_ret rfl
                      · exact (.cons (.cell rfl (by repeat (first | exact Has.h | apply Has.t | apply Has.app)) ty33 rfl) (.cons (.tmp rfl) (.cons (.tmp rfl) .nil)))
                      · exact ⟨by rw [hlg]; simp only [askO]; (repeat (first | rw [if_pos (by omega)] | rw [if_neg (by omega)])); rfl, rfl⟩
                      · exact (by repeat (first | exact Sel.all | exact Sel.none | (apply Sel.one; · repeat (first | exact Pick.h | apply Pick.t | apply Pick.app)) | apply Sel.app | (with_reducible apply Sel.grp; · repeat (first | exact PickF.h | apply PickF.t | apply PickF.a)) | (with_reducible refine Sel.nilF (by with_unfolding_all rfl) ?_) | apply Sel.drop | apply Sel.dropF)))))))

theorem flat_one (l : List Seat) : (flat l).all Value.oneCell' = true := by
  rw [List.all_eq_true]; intro x hx
  obtain ⟨s, _, h⟩ := List.mem_flatMap.1 hx
  simp [sC] at h
  rcases h with rfl | rfl | rfl | rfl | rfl | rfl | rfl | rfl | rfl | rfl | rfl <;> rfl

theorem Eng.Row.one {v : Value} {cs : Array Value} {sz k : Nat} {xs : List Value} (h : Row v cs sz k xs) : v.oneCell' = true := by
  rcases h.2 with ⟨rfl, _⟩ | ⟨b, cap, rfl, _⟩ <;> rfl

theorem rexpire_ok (b : Nat) (v : Value) (cs : Array Value) (l : List Seat) (a : Int) (hrow : Row v cs 11 l.length (flat l)) (hl : l.length ≤ 1048576) (R : Heap) :
    FnC W0 Try.prog 21 #[ptr b, i64 a] (xC b v :: (ownH v cs 35 ++ R)) (fun v' L' => ∃ w cs', v' = i64 ((l.length : Int) - ((l.filter fun s => !decide (s.at_ < a)).length : Int)) ∧ Row w cs' 11 (l.filter fun s => !decide (s.at_ < a)).length (flat (l.filter fun s => !decide (s.at_ < a))) ∧ L' = xC b w :: (ownH w cs' 35 ++ R)) := by
  have hfl := List.length_filter_le (fun s : Seat => !decide (s.at_ < a)) l
  refine fn_of Try.func21 rfl Try.ntmps21 rfl rfl ?_
  refine wc_seq ?_
  refine wc_region ?_
  refine wl rfl (OP.ev rfl rfl (eAs rfl) ?_)
  refine wl_nil ?_
  refine wc_seq ?_
  refine wc_region ?_
  refine wl rfl (OP.ev rfl rfl (eAs rfl) ?_)
  refine wl_nil ?_
  refine wc_seq ?_
  refine wc_seq ?_
  refine wc_region ?_
  refine wl rfl (OP.ev rfl rfl (eMv rfl) ?_)
  refine wl rfl (OP.ev rfl rfl (eNil rfl) ?_)
  refine wl rfl (OP.ev rfl rfl (eFld 0 ty55 rfl rfl ty26 rfl) ?_)
  first | refine wl rfl (OP.ev rfl rfl (eLd ty26 rfl rfl (by repeat (first | exact Has.h | apply Has.t | apply Has.app)) (by rfl)) ?_) | refine wl rfl (OP.ev rfl rfl (eLdO ty26 rfl rfl (by assumption)) ?_)
  refine wl rfl (OP.ev rfl rfl (eLenRow ty26 rfl hrow) ?_)
  refine wl rfl (OP.ev rfl rfl (eMv rfl) ?_)
  refine wl_nil ?_
  refine wc_block ?_
  refine wc_loop3 (fun (i : Nat) v5 (cs5 : Array Value) => [(0, ptr b), (1, i64 a), (5, v5), (12, v), (13, i64 (l.length : Int)), (14, i64 (i : Int))]) (fun i v5 cs5 => ownH v5 cs5 35 ++ (xC b v :: (ownH v cs 35 ++ R))) (fun i v5 cs5 => i ≤ l.length ∧ Row v5 cs5 11 ((l.take i).filter (fun s => !decide (s.at_ < a))).length (flat ((l.take i).filter (fun s => !decide (s.at_ < a))))) (fun i v5 cs5 => l.length - i) 0 (.slice none 0 0) #[] ⟨Nat.zero_le _, Row.nil _ _⟩ ⟨rfl, rfl, rfl, rfl, rfl, rfl, trivial⟩ (by repeat (first | exact Sel.all | exact Sel.none | (apply Sel.one; · repeat (first | exact Pick.h | apply Pick.t | apply Pick.app)) | apply Sel.app | (with_reducible apply Sel.grp; · repeat (first | exact PickF.h | apply PickF.t | apply PickF.a)) | (with_reducible refine Sel.nilF (by with_unfolding_all rfl) ?_) | apply Sel.drop | apply Sel.dropF)) ?_
  rintro i v5 cs5 ⟨hi, hrow5⟩
  refine wc_seq ?_
  refine wc_region ?_
  refine wl rfl (OP.evb rfl rfl (eLt rfl rfl) fun t15 h15 => ?_)
  refine wl_nil ?_
  refine wc_seq ?_
  cases t15 with
  | true =>
    try have c_t15 := dt h15
    first
    | (exfalso; omega)
    | (
      refine wc_then rfl ?_
      refine wc_skip ?_
      refine wc_seq ?_
      refine wc_block ?_
      refine wc_seq ?_
      obtain ⟨s, hs⟩ : ∃ c, l[i]? = some c := ⟨_, List.getElem?_eq_getElem (by omega)⟩
      have hnext : ((l.take (i + 1)).filter (fun s : Seat => !decide (s.at_ < a))) = (l.take i).filter (fun s : Seat => !decide (s.at_ < a)) ++ (if (!decide (s.at_ < a)) = true then [s] else []) := by
        rw [List.take_add_one, hs, List.filter_append]; simp [List.filter_cons]
      have hflen := List.length_filter_le (fun s : Seat => !decide (s.at_ < a)) (l.take i)
      have htlen := List.length_take_le i l
      have hrow' := hrow
      rcases hrow'.2 with ⟨_, h0⟩ | ⟨vb, vcap, rfl, h1, h2, h3⟩
      · exfalso; omega
      refine wc_region ?_
      refine wl rfl (OP.ev rfl rfl (eIx ty26 ty35 rfl rfl (by omega) (by omega)) ?_)
      refine wl rfl (OP.ev rfl rfl (eLdRA (off := 0) (cells := flat l) (vs := (sC s).toList) ty35 rfl rfl (Rc.of_has (by repeat (first | exact Has.h | apply Has.t | apply Has.app)) (by rw [hrow.1]; exact h3)) (i * 11) (by omega) rfl (flatMap_at _ 11 (fun _ => rfl) l i s hs)) ?_)
      refine wl rfl (oAl rfl ty35 rfl fun b7 => ?_)
      refine wl rfl (oStW ty35 rfl rfl rfl rfl (by repeat (first | exact Upd.h | apply Upd.t | apply Upd.app)) (by rfl) ?_)
      refine wl_nil ?_
      refine wc_seq ?_
      refine wc_region ?_
      refine wl rfl (OP.ev rfl rfl (eFld 2 ty35 rfl rfl ty3 rfl) ?_)
      first | refine wl rfl (OP.ev rfl rfl (eLd ty3 rfl rfl (by repeat (first | exact Has.h | apply Has.t | apply Has.app)) (by rfl)) ?_) | refine wl rfl (OP.ev rfl rfl (eLdO ty3 rfl rfl (by assumption)) ?_)
      refine wl rfl (OP.ev rfl rfl (eMv rfl) ?_)
      refine wl rfl (OP.evb rfl rfl (eGe rfl rfl) fun t21 h21 => ?_)
      refine wl_nil ?_
      cases t21 with
      | true =>
        try have c_t21 := dt h21
        first
        | (exfalso; omega)
        | (
          refine wc_then rfl ?_
          refine wc_region ?_
          refine wl rfl (OP.ev rfl rfl (eMv rfl) ?_)
          first | refine wl rfl (OP.ev rfl rfl (eLdW ty35 rfl rfl (by repeat (first | exact Has.h | apply Has.t | apply Has.app)) (by rfl)) ?_) | refine wl rfl (OP.ev rfl rfl (eLdA (vs := [_, _, _, _, _, _, _, _, _, _, _]) ty35 rfl rfl (by repeat (first | exact Has.h | apply Has.t | apply Has.app)) (by rfl) (by rfl)) ?_) | refine wl rfl (OP.ev rfl rfl (eLdAO ty35 rfl rfl (by assumption) (by assumption)) ?_)
          refine wl rfl (oBSw (vs := [_]) rfl ty26 ty35 rfl rfl rfl rfl rfl rfl fun b24 => ?_)
          refine wl rfl (oApp (m := 1) (news := (sC s).toList) rfl ty26 ty35 rfl rfl rfl hrow5 (by repeat (first | exact At.cell | exact At.h | apply At.t | apply At.a)) (Rs.mk (Rc.of_has (by repeat (first | exact Has.h | apply Has.t | apply Has.app)) rfl) rfl (Nat.le_refl _)) rfl (by omega) (by omega) ?_)
          rintro v5' cs5' hrow5' _
          refine wl rfl (OP.ev rfl rfl (eAs rfl) ?_)
          refine wl_nil ?_
          have hb : (!decide (s.at_ < a)) = true := by simp; omega
          have hrowN : Row v5' cs5' 11 ((l.take (i + 1)).filter (fun s => !decide (s.at_ < a))).length (flat ((l.take (i + 1)).filter (fun s => !decide (s.at_ < a)))) := by
            rw [hnext, if_pos hb, List.length_append]; simpa [flat] using hrow5'
          refine wc_region ?_
          first | refine wl rfl (OP.ev rfl rfl (eAdd rfl rfl (by omega)) ?_) | refine wl rfl (OP.ev rfl rfl (eAddW rfl rfl) ?_)
          refine wl rfl (OP.ev rfl rfl (eMv rfl) ?_)
          refine wl_nil ?_
          first | exact ⟨i + 1, v5', cs5', ⟨by omega, hrowN⟩, by omega, ⟨rfl, rfl, rfl, rfl, rfl, rfl, trivial⟩, (by repeat (first | exact Sel.all | exact Sel.none | (apply Sel.one; · repeat (first | exact Pick.h | apply Pick.t | apply Pick.app)) | apply Sel.app | (with_reducible apply Sel.grp; · repeat (first | exact PickF.h | apply PickF.t | apply PickF.a)) | (with_reducible refine Sel.nilF (by with_unfolding_all rfl) ?_) | apply Sel.drop | apply Sel.dropF))⟩ | exact ⟨i + 1, v5, cs5, ⟨by omega, by rw [hnext, if_neg (by simp; omega), List.append_nil]; exact hrow5⟩, by omega, ⟨rfl, rfl, rfl, rfl, rfl, rfl, trivial⟩, (by repeat (first | exact Sel.all | exact Sel.none | (apply Sel.one; · repeat (first | exact Pick.h | apply Pick.t | apply Pick.app)) | apply Sel.app | (with_reducible apply Sel.grp; · repeat (first | exact PickF.h | apply PickF.t | apply PickF.a)) | (with_reducible refine Sel.nilF (by with_unfolding_all rfl) ?_) | apply Sel.drop | apply Sel.dropF))⟩)
      | false =>
        try have c_t21 := df h21
        first
        | (exfalso; omega)
        | (
          refine wc_else rfl ?_
          refine wc_skip ?_
          refine wc_region ?_
          first | refine wl rfl (OP.ev rfl rfl (eAdd rfl rfl (by omega)) ?_) | refine wl rfl (OP.ev rfl rfl (eAddW rfl rfl) ?_)
          refine wl rfl (OP.ev rfl rfl (eMv rfl) ?_)
          refine wl_nil ?_
          first | exact ⟨i + 1, v5', cs5', ⟨by omega, hrowN⟩, by omega, ⟨rfl, rfl, rfl, rfl, rfl, rfl, trivial⟩, (by repeat (first | exact Sel.all | exact Sel.none | (apply Sel.one; · repeat (first | exact Pick.h | apply Pick.t | apply Pick.app)) | apply Sel.app | (with_reducible apply Sel.grp; · repeat (first | exact PickF.h | apply PickF.t | apply PickF.a)) | (with_reducible refine Sel.nilF (by with_unfolding_all rfl) ?_) | apply Sel.drop | apply Sel.dropF))⟩ | exact ⟨i + 1, v5, cs5, ⟨by omega, by rw [hnext, if_neg (by simp; omega), List.append_nil]; exact hrow5⟩, by omega, ⟨rfl, rfl, rfl, rfl, rfl, rfl, trivial⟩, (by repeat (first | exact Sel.all | exact Sel.none | (apply Sel.one; · repeat (first | exact Pick.h | apply Pick.t | apply Pick.app)) | apply Sel.app | (with_reducible apply Sel.grp; · repeat (first | exact PickF.h | apply PickF.t | apply PickF.a)) | (with_reducible refine Sel.nilF (by with_unfolding_all rfl) ?_) | apply Sel.drop | apply Sel.dropF))⟩))
  | false =>
    try have c_t15 := df h15
    first
    | (exfalso; omega)
    | (
      refine wc_else rfl ?_
      refine wc_exit rfl ?_
      refine wc_seq ?_
      have hi : i = l.length := by omega
      rw [hi, List.take_length] at hrow5
      refine wc_region ?_
      refine wl rfl (OP.ev rfl rfl (eMv rfl) ?_)
      refine wl rfl (OP.ev rfl rfl (eNil rfl) ?_)
      refine wl rfl (OP.ev rfl rfl (eFld 0 ty55 rfl rfl ty26 rfl) ?_)
      first | refine wl rfl (OP.ev rfl rfl (eLd ty26 rfl rfl (by repeat (first | exact Has.h | apply Has.t | apply Has.app)) (by rfl)) ?_) | refine wl rfl (OP.ev rfl rfl (eLdO ty26 rfl rfl (by assumption)) ?_)
      refine wl rfl (OP.ev rfl rfl (eLenRow ty26 rfl hrow) ?_)
      refine wl rfl (OP.ev rfl rfl (eMv rfl) ?_)
      refine wl rfl (OP.ev rfl rfl (eLenRow ty26 rfl hrow5) ?_)
      first | refine wl rfl (OP.ev rfl rfl (eSub rfl rfl (by omega)) ?_) | refine wl rfl (OP.ev rfl rfl (eSubW rfl rfl) ?_)
      refine wl rfl (OP.ev rfl rfl (eAs rfl) ?_)
      refine wl_nil ?_
      refine wc_seq ?_
      refine wc_region ?_
      refine wl rfl (OP.ev rfl rfl (eMv rfl) ?_)
      refine wl rfl (OP.ev rfl rfl (eMv rfl) ?_)
      refine wl rfl (OP.ev rfl rfl (eNil rfl) ?_)
      refine wl rfl (OP.ev rfl rfl (eFld 0 ty55 rfl rfl ty26 rfl) ?_)
      refine wl rfl (oSt ty26 rfl rfl hrow5.one rfl (by repeat (first | exact Upd.h | apply Upd.t | apply Upd.app)) (by simp) (by rfl) ?_)
      refine wl_nil ?_
      refine wc_seq ?_
      refine wc_region ?_
      refine wl rfl (OP.ev rfl rfl (eMv rfl) ?_)
      refine wl rfl (OP.ev rfl rfl (eAs rfl) ?_)
      refine wl_nil ?_
      refine wc_ret ?_
      apply at_ret rfl
      · exact (.cons (.tmp rfl) .nil)
      · exact ⟨v5, cs5, rfl, hrow5, rfl⟩
      · exact (by repeat (first | exact Sel.all | exact Sel.none | (apply Sel.one; · repeat (first | exact Pick.h | apply Pick.t | apply Pick.app)) | apply Sel.app | (with_reducible apply Sel.grp; · repeat (first | exact PickF.h | apply PickF.t | apply PickF.a)) | (with_reducible refine Sel.nilF (by with_unfolding_all rfl) ?_) | apply Sel.drop | apply Sel.dropF)))
end Go.Proofs.Ytbppeijcfkdhjaa
