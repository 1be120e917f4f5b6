/- The walk of SessionEnds and the plain facts behind it. -/
import Derived.Test.YtbppeijcfkdhjaaSess5
namespace Go.Proofs.Ytbppeijcfkdhjaa
open Go Eng
set_option linter.unusedVariables false
set_option maxRecDepth 4000
variable {W0 : World}

theorem seats_len (m : SMap) : (seatsOf m).length = m.length := by simp [seatsOf, mkeys]
theorem seat_mem {m : SMap} {clk : Nat} (hm : TOk m clk) {s : Seat} (hs : s ∈ seatsOf m) : mget s.session m = some s ∧ SeatOk s.session s := by
  obtain ⟨k, hk, rfl⟩ := List.mem_map.1 hs
  obtain ⟨e, he, rfl⟩ := mkeys_mem.1 hk
  have hg := mget_of_mem hm.1.2.2.1 he
  have h2 := hm.2.2 e he
  have e1 : seatAt m e.1 = e.2.1 := by unfold seatAt; rw [hg]; rfl
  rw [e1, h2.1]
  exact ⟨hg, h2⟩
theorem seatAt_mem {m : SMap} {clk : Nat} (hm : MOk m clk) {e : Int × Seat × Nat} (he : e ∈ m) : seatAt m e.1 = e.2.1 := by
  unfold seatAt; rw [mget_of_mem hm.2.2.1 he]; rfl
theorem seats_keepers {m : SMap} {clk : Nat} (hm : MOk m clk) (a : Int) : seatsOf (keepers m a) = (seatsOf m).filter (fun s => !decide (s.at_ < a)) := by
  unfold seatsOf keepers
  rw [mkeys_filter _ (fun k => !decide ((seatAt m k).at_ < a)) (fun e he => by rw [seatAt_mem hm he]), List.filter_map]
  refine List.map_congr_left fun k hk => ?_
  obtain ⟨h1, h2⟩ := List.mem_filter.1 hk
  obtain ⟨e, he, rfl⟩ := mkeys_mem.1 h1
  rw [seatAt_mem hm he] at h2 ⊢
  exact seatAt_mem (hm.filter _) (List.mem_filter.2 ⟨he, h2⟩)
theorem gone_get {m : SMap} {clk : Nat} (hm : MOk m clk) {a : Int} {s : Seat} (hg : mget s.session m = some s) (ha : s.at_ < a) : mget s.session (keepers m a) = none := by
  rw [mget_none]
  intro h
  obtain ⟨e, he, h1⟩ := List.mem_map.1 h
  obtain ⟨h2, h3⟩ := List.mem_filter.1 he
  have := mget_of_mem hm.2.2.1 h2
  rw [h1, hg] at this
  cases this
  simp at h3
  omega
theorem ask_none {m : SMap} {k n : Int} (h : mget k m = none) : ask m k n = (r0, false, 80) := by unfold ask; rw [h]
theorem ask_gone (t r : Nat) {m : SMap} {k : Int} (h : mget k m = none) (clk : Nat) (n : Int) (hn : n < 9223372036854775808) (R : Heap) :
    FnC W0 Try.prog 12 #[ptr t, i64 k, i64 n] (tC t r :: mC r m clk :: R) (fun v L' => v = .tuple #[.agg (rC r0), .bool false, i64 80] ∧ L' = tC t r :: mC r m clk :: R) := by
  have := ask_ok (W0 := W0) t r m clk k n hn R
  rw [ask_none h] at this
  exact this
theorem filter_next {α : Type} (p : α → Bool) {l : List α} {i : Nat} {x : α} (hx : l[i]? = some x) : (l.take (i + 1)).filter p = (l.take i).filter p ++ (if p x then [x] else []) := by
  rw [List.take_add_one, hx, List.filter_append]
  simp [List.filter_cons]
theorem flat_app (a b : List Seat) : flat (a ++ b) = flat a ++ flat b := by simp [flat]

theorem ends_ok (v : Value) (l : List Do) (from_ : Int) (hv : ∀ L, Rs W0 L v 12 l.length (dos l)) (hr : ∀ c ∈ l, DoOk c) (hl : l.length ≤ 9223372036854775807) :
    FnC W0 Try.prog 3 #[v, i64 from_] [] (fun v' L' => v' = .bool true ∧ L' = []) := by
  refine fn_of Try.func3 rfl Try.ntmps3 rfl rfl ?_
  refine wc_seq ?_
  refine wc_region ?_
  refine wl rfl (OP.ev rfl rfl (eAs rfl) ?_)
  refine wl_nil ?_
  refine wc_seq ?_
  refine wc_seq ?_
  refine wc_region ?_
  refine wl rfl (OP.ev rfl rfl (eMv rfl) ?_)
  refine wl rfl (OP.ev rfl rfl (eLenR ty22 rfl (hv _)) ?_)
  refine wl rfl (OP.evb rfl rfl (eGt rfl rfl) fun t16 h16 => ?_)
  refine wl_nil ?_
  cases t16 with
  | true =>
    try have c_t16 := dt h16
    first
    | (exfalso; omega)
    | (
      refine wc_then rfl ?_
      refine wc_seq ?_
      refine wc_region ?_
      refine wl rfl (oC rfl pf8 rfl (awake_ok _) (by repeat (first | exact Sel.all | exact Sel.none | (apply Sel.one; · repeat (first | exact Pick.h | apply Pick.t | apply Pick.app)) | apply Sel.app | (with_reducible apply Sel.grp; · repeat (first | exact PickF.h | apply PickF.t | apply PickF.a)) | (with_reducible refine Sel.nilF (by with_unfolding_all rfl) ?_) | apply Sel.drop | apply Sel.dropF)) ?_)
      rintro _ _ ⟨rfl, rfl⟩
      refine wl rfl (OP.ev rfl rfl (eAs rfl) ?_)
      refine wl_nil ?_
      refine wc_ret ?_
      apply at_ret rfl
      · exact (.cons (.tmp rfl) .nil)
      · exact ⟨rfl, rfl⟩
      · exact (by repeat (first | exact Sel.all | exact Sel.none | (apply Sel.one; · repeat (first | exact Pick.h | apply Pick.t | apply Pick.app)) | apply Sel.app | (with_reducible apply Sel.grp; · repeat (first | exact PickF.h | apply PickF.t | apply PickF.a)) | (with_reducible refine Sel.nilF (by with_unfolding_all rfl) ?_) | apply Sel.drop | apply Sel.dropF)))
  | false =>
    try have c_t16 := df h16
    first
    | (exfalso; omega)
    | (
      refine wc_else rfl ?_
      refine wc_skip ?_
      refine wc_seq ?_
      refine wc_region ?_
      refine wl rfl (OP.ev rfl rfl (eMv rfl) ?_)
      refine wl rfl (oC rfl pf9 rfl (play_ok v l hv hr (by omega) _) (by repeat (first | exact Sel.all | exact Sel.none | (apply Sel.one; · repeat (first | exact Pick.h | apply Pick.t | apply Pick.app)) | apply Sel.app | (with_reducible apply Sel.grp; · repeat (first | exact PickF.h | apply PickF.t | apply PickF.a)) | (with_reducible refine Sel.nilF (by with_unfolding_all rfl) ?_) | apply Sel.drop | apply Sel.dropF)) ?_)
      rintro _ _ ⟨t, r, m, clk, hm, rfl, rfl⟩
      refine wl rfl (OP.ev rfl rfl (eAs rfl) ?_)
      refine wl_nil ?_
      have hTo : TOk m clk := by have := TOk.played1 l; rw [← hm] at this; exact this
      have hsl := seats_len m
      have h8 := hTo.2.1
      have hK : TOk (keepers m from_) clk := hTo.filter _
      have hkl : (keepers m from_).length ≤ m.length := List.length_filter_le _ _
      have hsk := seats_keepers hTo.1 from_
      have hlk := seats_len (keepers m from_)
      refine wc_seq ?_
      refine wc_region ?_
      refine wl rfl (OP.ev rfl rfl (eMv rfl) ?_)
      refine wl rfl (oC rfl pf10 rfl (seats_ok t r m clk hTo.1 _) (by repeat (first | exact Sel.all | exact Sel.none | (apply Sel.one; · repeat (first | exact Pick.h | apply Pick.t | apply Pick.app)) | apply Sel.app | (with_reducible apply Sel.grp; · repeat (first | exact PickF.h | apply PickF.t | apply PickF.a)) | (with_reducible refine Sel.nilF (by with_unfolding_all rfl) ?_) | apply Sel.drop | apply Sel.dropF)) ?_)
      rintro v6 _ ⟨cs6, hrow6, rfl⟩
      refine wl rfl (OP.ev rfl rfl (eAs rfl) ?_)
      refine wl_nil ?_
      refine wc_seq ?_
      refine wc_region ?_
      refine wl rfl (OP.ev rfl rfl (eMv rfl) ?_)
      refine wl rfl (OP.ev rfl rfl (eMv rfl) ?_)
      refine wl rfl (oC rfl pf11 rfl (expire_ok t r m clk hTo.1 from_ _) (by repeat (first | exact Sel.all | exact Sel.none | (apply Sel.one; · repeat (first | exact Pick.h | apply Pick.t | apply Pick.app)) | apply Sel.app | (with_reducible apply Sel.grp; · repeat (first | exact PickF.h | apply PickF.t | apply PickF.a)) | (with_reducible refine Sel.nilF (by with_unfolding_all rfl) ?_) | apply Sel.drop | apply Sel.dropF)) ?_)
      rintro _ _ ⟨rfl, rfl⟩
      refine wl rfl (OP.ev rfl rfl (eAs rfl) ?_)
      refine wl_nil ?_
      refine wc_seq ?_
      refine wc_region ?_
      refine wl rfl (OP.ev rfl rfl (eAs rfl) ?_)
      refine wl_nil ?_
      refine wc_seq ?_
      refine wc_seq ?_
      refine wc_region ?_
      refine wl rfl (OP.ev rfl rfl (eMv rfl) ?_)
      refine wl rfl (OP.ev rfl rfl (eLenRow ty26 rfl hrow6) ?_)
      refine wl rfl (OP.ev rfl rfl (eMv rfl) ?_)
      refine wl_nil ?_
      refine wc_block ?_
      refine wc_loop3 (fun (i : Nat) v8 (cs8 : Array Value) => [(1, i64 from_), (5, ptr t), (6, v6), (7, _), (8, v8), (25, v6), (26, .int .i64 ((seatsOf m).length : Int)), (27, .int .i64 (i : Int))]) (fun i v8 cs8 => ownH v8 cs8 35 ++ (ownH v6 cs6 35 ++ (tC t r :: mC r (keepers m from_) clk :: []))) (fun i v8 cs8 => i ≤ (seatsOf m).length ∧ Row v8 cs8 11 (((seatsOf m).take i).filter (fun s => !decide (s.at_ < from_))).length (flat (((seatsOf m).take i).filter (fun s => !decide (s.at_ < from_))))) (fun i v8 cs8 => (seatsOf m).length - i) 0 (.slice none 0 0) #[] ⟨Nat.zero_le _, Row.nil _ _⟩ ⟨rfl, rfl, rfl, rfl, rfl, rfl, rfl, rfl, trivial⟩ (by repeat (first | exact Sel.all | exact Sel.none | (apply Sel.one; · repeat (first | exact Pick.h | apply Pick.t | apply Pick.app)) | apply Sel.app | (with_reducible apply Sel.grp; · repeat (first | exact PickF.h | apply PickF.t | apply PickF.a)) | (with_reducible refine Sel.nilF (by with_unfolding_all rfl) ?_) | apply Sel.drop | apply Sel.dropF)) ?_
      rintro i v8 cs8 ⟨hi, hrow8⟩
      refine wc_seq ?_
      refine wc_region ?_
      refine wl rfl (OP.evb rfl rfl (eLt rfl rfl) fun t28 h28 => ?_)
      refine wl_nil ?_
      refine wc_seq ?_
      cases t28 with
      | true =>
        try have c_t28 := dt h28
        first
        | (exfalso; omega)
        | (
          refine wc_then rfl ?_
          refine wc_skip ?_
          refine wc_seq ?_
          refine wc_block ?_
          refine wc_seq ?_
          obtain ⟨s, hs⟩ : ∃ c, (seatsOf m)[i]? = some c := ⟨_, List.getElem?_eq_getElem (by omega)⟩
          obtain ⟨hsg, hs1, hs2, hs3, hs4, hs5, hs6, hs7, hs8, hs9⟩ := seat_mem hTo (List.mem_of_getElem? hs)
          have hnext := filter_next (fun s : Seat => !decide (s.at_ < from_)) hs
          have hflen := List.length_filter_le (fun s : Seat => !decide (s.at_ < from_)) ((seatsOf m).take i)
          have htlen := List.length_take_le i (seatsOf m)
          have hrow6' := hrow6
          rcases hrow6'.2 with ⟨_, h0⟩ | ⟨b6, cap6, rfl, h61, h62, h63⟩
          · exfalso; omega
          refine wc_region ?_
          refine wl rfl (OP.ev rfl rfl (eIx ty26 ty35 rfl rfl (by omega) (by omega)) ?_)
          refine wl rfl (OP.ev rfl rfl (eLdRA (off := 0) (cells := flat (seatsOf m)) (vs := (sC s).toList) ty35 rfl rfl (Rc.of_has (by repeat (first | exact Has.h | apply Has.t | apply Has.app)) (by rw [hrow6.1]; exact h63)) (i * 11) (by omega) rfl (flatMap_at _ 11 (fun _ => rfl) (seatsOf m) i s hs)) ?_)
          refine wl rfl (oAl rfl ty35 rfl fun b10 => ?_)
          refine wl rfl (oStW ty35 rfl rfl rfl rfl (by repeat (first | exact Upd.h | apply Upd.t | apply Upd.app)) (by rfl) ?_)
          refine wl_nil ?_
          refine wc_seq ?_
          refine wc_seq ?_
          refine wc_region ?_
          refine wl rfl (OP.ev rfl rfl (eFld 2 ty35 rfl rfl ty3 rfl) ?_)
          first | refine wl rfl (OP.ev rfl rfl (eLd ty3 rfl rfl (by repeat (first | exact Has.h | apply Has.t | apply Has.app)) (by rfl)) ?_) | refine wl rfl (OP.ev rfl rfl (eLdO ty3 rfl rfl (by assumption)) ?_)
          refine wl rfl (OP.ev rfl rfl (eMv rfl) ?_)
          refine wl rfl (OP.evb rfl rfl (eGe rfl rfl) fun t34 h34 => ?_)
          refine wl_nil ?_
          cases t34 with
          | true =>
            try have c_t34 := dt h34
            first
            | (exfalso; omega)
            | (
              refine wc_then rfl ?_
              refine wc_seq ?_
              refine wc_region ?_
              refine wl rfl (OP.ev rfl rfl (eMv rfl) ?_)
              first | refine wl rfl (OP.ev rfl rfl (eLdW ty35 rfl rfl (by repeat (first | exact Has.h | apply Has.t | apply Has.app)) (by rfl)) ?_) | refine wl rfl (OP.ev rfl rfl (eLdA (vs := [_, _, _, _, _, _, _, _, _, _, _]) ty35 rfl rfl (by repeat (first | exact Has.h | apply Has.t | apply Has.app)) (by rfl) (by rfl)) ?_) | refine wl rfl (OP.ev rfl rfl (eLdAO ty35 rfl rfl (by assumption) (by assumption)) ?_)
              refine wl rfl (oBSw (vs := [_]) rfl ty26 ty35 rfl rfl rfl rfl rfl rfl fun b37 => ?_)
              refine wl rfl (oApp (m := 1) (news := (sC s).toList) rfl ty26 ty35 rfl rfl rfl hrow8 (by repeat (first | exact At.cell | exact At.h | apply At.t | apply At.a)) (Rs.mk (Rc.of_has (by repeat (first | exact Has.h | apply Has.t | apply Has.app)) rfl) rfl (Nat.le_refl _)) rfl (by omega) (by omega) ?_)
              rintro v8' cs8' hrow8' _
              refine wl rfl (OP.ev rfl rfl (eAs rfl) ?_)
              refine wl_nil ?_
              have hb : (!decide (s.at_ < from_)) = true := by simp; omega
              have hrowN : Row v8' cs8' 11 (((seatsOf m).take (i + 1)).filter (fun s => !decide (s.at_ < from_))).length (flat (((seatsOf m).take (i + 1)).filter (fun s => !decide (s.at_ < from_)))) := by
                rw [hnext, if_pos hb, List.length_append, flat_app]; simpa [flat] using hrow8'
              refine wc_exit rfl ?_
              refine wc_region ?_
              first | refine wl rfl (OP.ev rfl rfl (eAdd rfl rfl (by omega)) ?_) | refine wl rfl (OP.ev rfl rfl (eAddW rfl rfl) ?_)
              refine wl rfl (OP.ev rfl rfl (eMv rfl) ?_)
              refine wl_nil ?_
              first | exact ⟨i + 1, v8', cs8', ⟨by omega, hrowN⟩, by omega, ⟨rfl, rfl, rfl, rfl, rfl, rfl, rfl, rfl, trivial⟩, (by repeat (first | exact Sel.all | exact Sel.none | (apply Sel.one; · repeat (first | exact Pick.h | apply Pick.t | apply Pick.app)) | apply Sel.app | (with_reducible apply Sel.grp; · repeat (first | exact PickF.h | apply PickF.t | apply PickF.a)) | (with_reducible refine Sel.nilF (by with_unfolding_all rfl) ?_) | apply Sel.drop | apply Sel.dropF))⟩ | exact ⟨i + 1, v8, cs8, ⟨by omega, by rw [hnext, if_neg (by simp; omega), List.append_nil]; exact hrow8⟩, by omega, ⟨rfl, rfl, rfl, rfl, rfl, rfl, rfl, rfl, trivial⟩, (by repeat (first | exact Sel.all | exact Sel.none | (apply Sel.one; · repeat (first | exact Pick.h | apply Pick.t | apply Pick.app)) | apply Sel.app | (with_reducible apply Sel.grp; · repeat (first | exact PickF.h | apply PickF.t | apply PickF.a)) | (with_reducible refine Sel.nilF (by with_unfolding_all rfl) ?_) | apply Sel.drop | apply Sel.dropF))⟩)
          | false =>
            try have c_t34 := df h34
            first
            | (exfalso; omega)
            | (
              refine wc_else rfl ?_
              refine wc_skip ?_
              refine wc_seq ?_
              refine wc_region ?_
              refine wl rfl (OP.ev rfl rfl (eMv rfl) ?_)
              refine wl rfl (OP.ev rfl rfl (eFld 0 ty35 rfl rfl ty3 rfl) ?_)
              first | refine wl rfl (OP.ev rfl rfl (eLd ty3 rfl rfl (by repeat (first | exact Has.h | apply Has.t | apply Has.app)) (by rfl)) ?_) | refine wl rfl (OP.ev rfl rfl (eLdO ty3 rfl rfl (by assumption)) ?_)
              refine wl rfl (OP.ev rfl rfl (eFld 1 ty35 rfl rfl ty3 rfl) ?_)
              first | refine wl rfl (OP.ev rfl rfl (eLd ty3 rfl rfl (by repeat (first | exact Has.h | apply Has.t | apply Has.app)) (by rfl)) ?_) | refine wl rfl (OP.ev rfl rfl (eLdO ty3 rfl rfl (by assumption)) ?_)
              first | refine wl rfl (OP.ev rfl rfl (eAdd rfl rfl (by omega)) ?_) | refine wl rfl (OP.ev rfl rfl (eAddW rfl rfl) ?_)
              refine wl rfl (oC rfl pf12 rfl (ask_gone t r (gone_get (a := from_) hTo.1 hsg (by omega)) clk (s.seq + 1) (by omega) _) (by repeat (first | exact Sel.all | exact Sel.none | (apply Sel.one; · repeat (first | exact Pick.h | apply Pick.t | apply Pick.app)) | apply Sel.app | (with_reducible apply Sel.grp; · repeat (first | exact PickF.h | apply PickF.t | apply PickF.a)) | (with_reducible refine Sel.nilF (by with_unfolding_all rfl) ?_) | apply Sel.drop | apply Sel.dropF)) ?_)
              rintro _ _ ⟨rfl, rfl⟩
              refine wl rfl (OP.ev rfl rfl (eMv rfl) ?_)
              refine wl rfl (OP.ev rfl rfl (eExt rfl rfl) ?_)
              refine wl rfl (OP.ev rfl rfl (eExt rfl rfl) ?_)
              refine wl rfl (OP.ev rfl rfl (eExt rfl rfl) ?_)
              refine wl rfl (oAl rfl ty33 rfl fun b11 => ?_)
              refine wl rfl (oStW ty33 rfl rfl rfl rfl (by repeat (first | exact Upd.h | apply Upd.t | apply Upd.app)) (by rfl) ?_)
              refine wl rfl (OP.ev rfl rfl (eAs rfl) ?_)
              refine wl rfl (OP.ev rfl rfl (eAs rfl) ?_)
              refine wl_nil ?_
              refine wc_seq ?_
              refine wc_region ?_
              refine wl rfl (OP.ev rfl rfl (eMv rfl) ?_)
              refine wl rfl (OP.ev rfl rfl (eMv rfl) ?_)
              refine wl_go rfl rfl (OP.ev rfl rfl (eMv rfl) ?_)
              refine wl_go rfl rfl (OP.evb rfl rfl (eNe rfl rfl) fun t53 h53 => ?_)
              refine wl rfl (OP.ev rfl rfl (ePk rfl rfl) ?_)
              refine wl_nil ?_
              cases t53 with
              | true =>
                try have c_t53 := dt h53
                first
                | (exfalso; omega)
                | (
                  refine wc_then rfl ?_
                  refine wc_seq ?_
                  refine wc_region ?_
                  refine wl rfl (OP.ev rfl rfl (eAs rfl) ?_)
                  refine wl_nil ?_
                  refine wc_ret ?_
                  apply at_ret rfl
                  · exact (.cons (.tmp rfl) .nil)
                  · exact ⟨rfl, rfl⟩
                  · exact (by repeat (first | exact Sel.all | exact Sel.none | (apply Sel.one; · repeat (first | exact Pick.h | apply Pick.t | apply Pick.app)) | apply Sel.app | (with_reducible apply Sel.grp; · repeat (first | exact PickF.h | apply PickF.t | apply PickF.a)) | (with_reducible refine Sel.nilF (by with_unfolding_all rfl) ?_) | apply Sel.drop | apply Sel.dropF)))
              | false =>
                try have c_t53 := df h53
                first
                | (exfalso; omega)
                | (
                  refine wc_else rfl ?_
                  refine wc_skip ?_
                  refine wc_region ?_
                  first | refine wl rfl (OP.ev rfl rfl (eAdd rfl rfl (by omega)) ?_) | refine wl rfl (OP.ev rfl rfl (eAddW rfl rfl) ?_)
                  refine wl rfl (OP.ev rfl rfl (eMv rfl) ?_)
                  refine wl_nil ?_
                  first | exact ⟨i + 1, v8', cs8', ⟨by omega, hrowN⟩, by omega, ⟨rfl, rfl, rfl, rfl, rfl, rfl, rfl, rfl, trivial⟩, (by repeat (first | exact Sel.all | exact Sel.none | (apply Sel.one; · repeat (first | exact Pick.h | apply Pick.t | apply Pick.app)) | apply Sel.app | (with_reducible apply Sel.grp; · repeat (first | exact PickF.h | apply PickF.t | apply PickF.a)) | (with_reducible refine Sel.nilF (by with_unfolding_all rfl) ?_) | apply Sel.drop | apply Sel.dropF))⟩ | exact ⟨i + 1, v8, cs8, ⟨by omega, by rw [hnext, if_neg (by simp; omega), List.append_nil]; exact hrow8⟩, by omega, ⟨rfl, rfl, rfl, rfl, rfl, rfl, rfl, rfl, trivial⟩, (by repeat (first | exact Sel.all | exact Sel.none | (apply Sel.one; · repeat (first | exact Pick.h | apply Pick.t | apply Pick.app)) | apply Sel.app | (with_reducible apply Sel.grp; · repeat (first | exact PickF.h | apply PickF.t | apply PickF.a)) | (with_reducible refine Sel.nilF (by with_unfolding_all rfl) ?_) | apply Sel.drop | apply Sel.dropF))⟩)))
      | false =>
        try have c_t28 := df h28
        first
        | (exfalso; omega)
        | (
          refine wc_else rfl ?_
          refine wc_exit rfl ?_
          refine wc_seq ?_
          have hiN : i = (seatsOf m).length := by omega
          rw [hiN, List.take_length, ← hsk] at hrow8
          refine wc_region ?_
          refine wl rfl (OP.ev rfl rfl (eMv rfl) ?_)
          refine wl rfl (oC rfl pf10 rfl (seats_ok t r (keepers m from_) clk hK.1 _) (by repeat (first | exact Sel.all | exact Sel.none | (apply Sel.one; · repeat (first | exact Pick.h | apply Pick.t | apply Pick.app)) | apply Sel.app | (with_reducible apply Sel.grp; · repeat (first | exact PickF.h | apply PickF.t | apply PickF.a)) | (with_reducible refine Sel.nilF (by with_unfolding_all rfl) ?_) | apply Sel.drop | apply Sel.dropF)) ?_)
          rintro v57 _ ⟨cs57, hrow57, rfl⟩
          refine wl rfl (OP.ev rfl rfl (eMv rfl) ?_)
          refine wl rfl (oC (L1 := _) rfl pf13 rfl (equal_same _ _ (seatsOf (keepers m from_)) _ (hrow57.rs (by repeat (first | exact At.cell | exact At.h | apply At.t | apply At.a))) (hrow8.rs (by repeat (first | exact At.cell | exact At.h | apply At.t | apply At.a))) (by omega)) Sel.all ?_)
          rintro _ _ ⟨rfl, rfl⟩
          refine wl rfl (OP.ev rfl rfl (eMv rfl) ?_)
          refine wl_go rfl rfl (OP.ev rfl rfl (eMv rfl) ?_)
          refine wl_go rfl rfl (OP.ev rfl rfl (eMv rfl) ?_)
          refine wl_go rfl rfl (OP.ev rfl rfl (eLenRow ty26 rfl hrow6) ?_)
          refine wl_go rfl rfl (OP.ev rfl rfl (eMv rfl) ?_)
          refine wl_go rfl rfl (OP.ev rfl rfl (eLenRow ty26 rfl hrow8) ?_)
          first | refine wl_go rfl rfl (OP.ev rfl rfl (eSub rfl rfl (by omega)) ?_) | refine wl_go rfl rfl (OP.ev rfl rfl (eSubW rfl rfl) ?_)
          refine wl_go rfl rfl (OP.evb rfl rfl (eEq rfl rfl) fun t67 h67 => ?_)
          refine wl rfl (OP.ev rfl rfl (ePk rfl rfl) ?_)
          refine wl rfl (OP.ev rfl rfl (eMv rfl) ?_)
          cases t67 with
          | true =>
            try have c_t67 := dt h67
            first
            | (exfalso; omega)
            | (
              refine wl_go rfl rfl (oC rfl pf8 rfl (awake_ok _) (by repeat (first | exact Sel.all | exact Sel.none | (apply Sel.one; · repeat (first | exact Pick.h | apply Pick.t | apply Pick.app)) | apply Sel.app | (with_reducible apply Sel.grp; · repeat (first | exact PickF.h | apply PickF.t | apply PickF.a)) | (with_reducible refine Sel.nilF (by with_unfolding_all rfl) ?_) | apply Sel.drop | apply Sel.dropF)) ?_)
              rintro _ _ ⟨rfl, rfl⟩
              refine wl rfl (OP.ev rfl rfl (ePk rfl rfl) ?_)
              refine wl rfl (OP.ev rfl rfl (eAs rfl) ?_)
              refine wl_nil ?_
              refine wc_ret ?_
              apply at_ret rfl
              · exact (.cons (.tmp rfl) .nil)
              · exact ⟨rfl, rfl⟩
              · exact (by repeat (first | exact Sel.all | exact Sel.none | (apply Sel.one; · repeat (first | exact Pick.h | apply Pick.t | apply Pick.app)) | apply Sel.app | (with_reducible apply Sel.grp; · repeat (first | exact PickF.h | apply PickF.t | apply PickF.a)) | (with_reducible refine Sel.nilF (by with_unfolding_all rfl) ?_) | apply Sel.drop | apply Sel.dropF)))
          | false =>
            try have c_t67 := df h67
            first
            | (exfalso; omega)
            | (
              refine wl_skip rfl rfl rfl rfl rfl ?_
              refine wl rfl (OP.ev rfl rfl (ePk rfl rfl) ?_)
              refine wl rfl (OP.ev rfl rfl (eAs rfl) ?_)
              refine wl_nil ?_
              refine wc_ret ?_
              apply at_ret rfl
              · exact (.cons (.tmp rfl) .nil)
              · exact ⟨rfl, rfl⟩
              · exact (by repeat (first | exact Sel.all | exact Sel.none | (apply Sel.one; · repeat (first | exact Pick.h | apply Pick.t | apply Pick.app)) | apply Sel.app | (with_reducible apply Sel.grp; · repeat (first | exact PickF.h | apply PickF.t | apply PickF.a)) | (with_reducible refine Sel.nilF (by with_unfolding_all rfl) ?_) | apply Sel.drop | apply Sel.dropF)))))
end Go.Proofs.Ytbppeijcfkdhjaa
