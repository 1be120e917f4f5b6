/- The contracts of a table's image: by the package session, and by the reference. -/
import Derived.Test.YtbppeijcfkdhjaaWire
namespace Go.Proofs.Ytbppeijcfkdhjaa
open Go Eng
set_option linter.unusedVariables false
set_option maxRecDepth 4000
variable {W0 : World}

def numB (ns : List Int) : List Int := ns.flatMap fun x => dg x.toNat
def img (l : List Seat) : List Int := dg l.length ++ numB (l.flatMap numsOf)

theorem numB_app (a b : List Int) : numB (a ++ b) = numB a ++ numB b := by simp [numB]
theorem numB_one (x : Int) : numB [x] = dg x.toNat := by simp [numB]
theorem numB_next {ns : List Int} {j : Nat} {x : Int} (h : ns[j]? = some x) : numB (ns.take (j + 1)) = numB (ns.take j) ++ dg x.toNat := by
  rw [List.take_add_one, h, numB_app]; simp [numB]
theorem numB_len {ns : List Int} (h : ∀ x ∈ ns, x < 9223372036854775808) : (numB ns).length ≤ 9 * ns.length := by
  induction ns with
  | nil => simp [numB]
  | cons x ns ih =>
    have h1 := ih (fun y hy => h y (List.mem_cons_of_mem _ hy))
    have h2 := dg_len (show x.toNat < 9223372036854775808 by have := h x List.mem_cons_self; omega)
    simp only [numB, List.flatMap_cons, List.length_append, List.length_cons] at h1 ⊢
    omega
theorem flatN_next {l : List Seat} {i : Nat} {s : Seat} (h : l[i]? = some s) : (l.take (i + 1)).flatMap numsOf = (l.take i).flatMap numsOf ++ numsOf s := by
  rw [List.take_add_one, h, List.flatMap_append]; simp
theorem flatN_len (l : List Seat) : (l.flatMap numsOf).length = 11 * l.length := by
  induction l with
  | nil => rfl
  | cons s l ih => rw [List.flatMap_cons, List.length_append, ih]; simp [numsOf]; omega
theorem numB_isB (ns : List Int) : IsB (numB ns) := by
  intro x hx
  obtain ⟨y, _, hy⟩ := List.mem_flatMap.1 hx
  exact dg_isB _ x hy
theorem img_isB (l : List Seat) : IsB (img l) := by
  intro x hx
  rcases List.mem_append.1 hx with hx | hx
  · exact dg_isB _ x hx
  · exact numB_isB _ x hx

/-- every number of a seat is an int -/
def Small (s : Seat) : Prop := ∀ x ∈ numsOf s, x < 9223372036854775808
theorem small_of {k : Int} {s : Seat} (h : SeatOk k s) : Small s := by
  obtain ⟨h1, h2, h3, h4, h5, h6, h7, h8, _⟩ := h
  intro x hx
  unfold checkR at h8
  split at h8
  · rename_i hall
    have h9 := List.all_eq_true.1 hall
    simp only [numsOf, List.mem_cons, List.not_mem_nil, or_false] at hx
    have key : ∀ y ∈ numsOf ⟨0, 0, 0, s.reply⟩, y ≤ 1099511627776 := fun y hy => (of_decide_eq_true (h9 y hy)).2
    have k1 := key s.reply.err (by simp [numsOf])
    have k2 := key s.reply.session (by simp [numsOf])
    have k3 := key s.reply.gone (by simp [numsOf])
    have k4 := key s.reply.added (by simp [numsOf])
    have k5 := key s.reply.same (by simp [numsOf])
    have k6 := key s.reply.other (by simp [numsOf])
    have k7 := key s.reply.cycle (by simp [numsOf])
    have k8 := key s.reply.full (by simp [numsOf])
    rcases hx with rfl | rfl | rfl | rfl | rfl | rfl | rfl | rfl | rfl | rfl | rfl <;> omega
  · cases h8
theorem small_seats {m : SMap} {clk : Nat} (h : TOk m clk) : ∀ s ∈ seatsOf m, Small s := fun s hs => by
  obtain ⟨k, hk, rfl⟩ := List.mem_map.1 hs
  obtain ⟨e, he, rfl⟩ := mkeys_mem.1 hk
  have e1 : seatAt m e.1 = e.2.1 := by unfold seatAt; rw [mget_of_mem h.1.2.2.1 he]; rfl
  rw [e1]
  exact small_of (h.2.2 e he)

theorem image_ok (t r : Nat) (m : SMap) (clk : Nat) (hm : TOk m clk) (R : Heap) :
    FnC W0 Try.prog 16 #[ptr t] (tC t r :: mC r m clk :: R) (fun v L' => ∃ cs, Row v cs 1 (img (seatsOf m)).length (byteV (img (seatsOf m))) ∧ L' = ownH v cs 5 ++ (tC t r :: mC r m clk :: R)) := by
  have hsl : (seatsOf m).length = m.length := by simp [seatsOf, mkeys]
  have h8 := hm.2.1
  have hsm := small_seats hm
  refine fn_of Try.func16 rfl Try.ntmps16 rfl rfl ?_
  refine wc_seq ?_
  refine wc_region ?_
  refine wl rfl (OP.ev rfl rfl (eAs rfl) ?_)
  refine wl_nil ?_
  refine wc_seq ?_
  refine wc_seq ?_
  refine wc_region ?_
  refine wl rfl (OP.ev rfl rfl (eMv rfl) ?_)
  refine wl rfl (oC rfl pf28 rfl (made_ok t r _) (by repeat (first | exact Sel.all | exact Sel.none | (apply Sel.one; · repeat (first | exact Pick.h | apply Pick.t | apply Pick.app)) | apply Sel.app | (with_reducible apply Sel.grp; · repeat (first | exact PickF.h | apply PickF.t | apply PickF.a)) | (with_reducible refine Sel.nilF (by with_unfolding_all rfl) ?_) | apply Sel.drop | apply Sel.dropF)) ?_)
  rintro _ _ ⟨rfl, rfl⟩
  refine wl rfl (OP.ev rfl rfl (eNot rfl) ?_)
  refine wl_nil ?_
  refine wc_else rfl ?_
  refine wc_skip ?_
  refine wc_seq ?_
  refine wc_region ?_
  refine wl rfl (OP.ev rfl rfl (eMv rfl) ?_)
  refine wl rfl (OP.ev rfl rfl (eNil rfl) ?_)
  refine wl rfl (OP.ev rfl rfl (eFld 0 ty45 rfl rfl ty43 rfl) ?_)
  first | refine wl rfl (OP.ev rfl rfl (eLd ty43 rfl rfl (by repeat (first | exact Has.h | apply Has.t | apply Has.app)) (by rfl)) ?_) | refine wl rfl (OP.ev rfl rfl (eLdO ty43 rfl rfl (by assumption)) ?_)
  refine wl rfl (OP.ev rfl rfl (eLenMp ty43 rfl (by repeat (first | exact Has.h | apply Has.t | apply Has.app))) ?_)
  refine wl rfl (oC rfl pf34 rfl (number_ok _ [] (m.length : Int) (by omega) _ (Rs.nil _) (by simp)) (by repeat (first | exact Sel.all | exact Sel.none | (apply Sel.one; · repeat (first | exact Pick.h | apply Pick.t | apply Pick.app)) | apply Sel.app | (with_reducible apply Sel.grp; · repeat (first | exact PickF.h | apply PickF.t | apply PickF.a)) | (with_reducible refine Sel.nilF (by with_unfolding_all rfl) ?_) | apply Sel.drop | apply Sel.dropF)) ?_)
  rintro v3 _ ⟨cs3, hrow3, rfl⟩
  refine wl rfl (OP.ev rfl rfl (eAs rfl) ?_)
  refine wl_nil ?_
  rw [List.nil_append] at hrow3
  refine wc_seq ?_
  refine wc_seq ?_
  refine wc_region ?_
  refine wl rfl (OP.ev rfl rfl (eMv rfl) ?_)
  refine wl rfl (oC rfl pf10 rfl (seats_ok t r m clk hm.1 _) (by repeat (first | exact Sel.all | exact Sel.none | (apply Sel.one; · repeat (first | exact Pick.h | apply Pick.t | apply Pick.app)) | apply Sel.app | (with_reducible apply Sel.grp; · repeat (first | exact PickF.h | apply PickF.t | apply PickF.a)) | (with_reducible refine Sel.nilF (by with_unfolding_all rfl) ?_) | apply Sel.drop | apply Sel.dropF)) ?_)
  rintro v18 _ ⟨cs18, hrow18, rfl⟩
  refine wl rfl (OP.ev rfl rfl (eLenRow ty26 rfl hrow18) ?_)
  refine wl rfl (OP.ev rfl rfl (eMv rfl) ?_)
  refine wl_nil ?_
  refine wc_block ?_
  refine wc_loop3 (fun (i : Nat) v3 (cs3 : Array Value) => [(0, ptr t), (3, v3), (18, v18), (19, i64 ((seatsOf m).length : Int)), (20, i64 (i : Int))]) (fun i v3 cs3 => ownH v3 cs3 5 ++ (ownH v18 cs18 35 ++ (tC t r :: mC r m clk :: R))) (fun i v3 cs3 => i ≤ (seatsOf m).length ∧ Row v3 cs3 1 (dg m.length ++ numB (((seatsOf m).take i).flatMap numsOf)).length (byteV (dg m.length ++ numB (((seatsOf m).take i).flatMap numsOf)))) (fun i v3 cs3 => (seatsOf m).length - i) 0 v3 cs3 ⟨Nat.zero_le _, by simpa [numB] using hrow3⟩ ⟨rfl, rfl, rfl, rfl, rfl, trivial⟩ (by repeat (first | exact Sel.all | exact Sel.none | (apply Sel.one; · repeat (first | exact Pick.h | apply Pick.t | apply Pick.app)) | apply Sel.app | (with_reducible apply Sel.grp; · repeat (first | exact PickF.h | apply PickF.t | apply PickF.a)) | (with_reducible refine Sel.nilF (by with_unfolding_all rfl) ?_) | apply Sel.drop | apply Sel.dropF)) ?_
  rintro i v3 cs3 ⟨hi, hrow3⟩
  refine wc_seq ?_
  refine wc_region ?_
  refine wl rfl (OP.evb rfl rfl (eLt rfl rfl) fun t21 h21 => ?_)
  refine wl_nil ?_
  refine wc_seq ?_
  cases t21 with
  | true =>
    try have c_t21 := dt h21
    first
    | (exfalso; omega)
    | (
      refine wc_then rfl ?_
      refine wc_skip ?_
      refine wc_seq ?_
      refine wc_block ?_
      refine wc_seq ?_
      obtain ⟨s, hs⟩ : ∃ c, (seatsOf m)[i]? = some c := ⟨_, List.getElem?_eq_getElem (by omega)⟩
      have hss := hsm s (List.mem_of_getElem? hs)
      have hdl := dg_len (show m.length < 9223372036854775808 by omega)
      have hnl : (numB (((seatsOf m).take i).flatMap numsOf)).length ≤ 9 * (((seatsOf m).take i).flatMap numsOf).length := numB_len (fun x hx => by
        obtain ⟨s', h1, h2⟩ := List.mem_flatMap.1 hx
        exact hsm s' (List.mem_of_mem_take h1) x h2)
      rw [flatN_len, List.length_take] at hnl
      have hrow18' := hrow18
      rcases hrow18'.2 with ⟨_, h0⟩ | ⟨b18, cap18, rfl, h181, h182, h183⟩
      · exfalso; omega
      refine wc_region ?_
      refine wl rfl (OP.ev rfl rfl (eIx ty26 ty35 rfl rfl (by omega) (by omega)) ?_)
      refine wl rfl (OP.ev rfl rfl (eLdRA (off := 0) (cells := flat (seatsOf m)) (vs := (sC s).toList) ty35 rfl rfl (Rc.of_has (by repeat (first | exact Has.h | apply Has.t | apply Has.app)) (by rw [hrow18.1]; exact h183)) (i * 11) (by omega) rfl (flatMap_at _ 11 (fun _ => rfl) (seatsOf m) i s hs)) ?_)
      refine wl rfl (oAl rfl ty35 rfl fun b5 => ?_)
      refine wl rfl (oStW ty35 rfl rfl rfl rfl (by repeat (first | exact Upd.h | apply Upd.t | apply Upd.app)) (by rfl) ?_)
      refine wl_nil ?_
      refine wc_seq ?_
      refine wc_region ?_
      refine wl rfl (oC rfl pf35 rfl (numbers_ok b5 s _) (by repeat (first | exact Sel.all | exact Sel.none | (apply Sel.one; · repeat (first | exact Pick.h | apply Pick.t | apply Pick.app)) | apply Sel.app | (with_reducible apply Sel.grp; · repeat (first | exact PickF.h | apply PickF.t | apply PickF.a)) | (with_reducible refine Sel.nilF (by with_unfolding_all rfl) ?_) | apply Sel.drop | apply Sel.dropF)) ?_)
      rintro _ _ ⟨b1, b2, rfl, rfl⟩
      refine wl rfl (OP.ev rfl rfl (eLenS ty75 rfl) ?_)
      refine wl rfl (OP.ev rfl rfl (eMv rfl) ?_)
      refine wl_nil ?_
      refine wc_block ?_
      refine wc_loop3 (fun (j : Nat) v3 (cs3 : Array Value) => [(0, ptr t), (3, v3), (18, _), (19, i64 ((seatsOf m).length : Int)), (20, i64 (i : Int)), (24, .slice (some ⟨b2, 0, none⟩) 11 11), (25, i64 11), (26, i64 (j : Int))]) (fun j v3 cs3 => ownH v3 cs3 5 ++ ((b2, .cells (numCells b5 b1).toArray 78 (0, 0)) :: nC b1 s.reply.err :: sB b5 s :: (ownH (.slice (some ⟨b18, 0, none⟩) (seatsOf m).length cap18) cs18 35 ++ (tC t r :: mC r m clk :: R)))) (fun j v3 cs3 => j ≤ 11 ∧ Row v3 cs3 1 (dg m.length ++ numB (((seatsOf m).take i).flatMap numsOf) ++ numB ((numsOf s).take j)).length (byteV (dg m.length ++ numB (((seatsOf m).take i).flatMap numsOf) ++ numB ((numsOf s).take j)))) (fun j v3 cs3 => 11 - j) 0 v3 cs3 ⟨Nat.zero_le _, by simpa [numB] using hrow3⟩ ⟨rfl, rfl, rfl, rfl, rfl, rfl, rfl, rfl, trivial⟩ (by repeat (first | exact Sel.all | exact Sel.none | (apply Sel.one; · repeat (first | exact Pick.h | apply Pick.t | apply Pick.app)) | apply Sel.app | (with_reducible apply Sel.grp; · repeat (first | exact PickF.h | apply PickF.t | apply PickF.a)) | (with_reducible refine Sel.nilF (by with_unfolding_all rfl) ?_) | apply Sel.drop | apply Sel.dropF)) ?_
      rintro j v3 cs3 ⟨hj, hrow3⟩
      refine wc_seq ?_
      refine wc_region ?_
      refine wl rfl (OP.evb rfl rfl (eLt rfl rfl) fun t27 h27 => ?_)
      refine wl_nil ?_
      refine wc_seq ?_
      cases t27 with
      | true =>
        try have c_t27 := dt h27
        first
        | (exfalso; omega)
        | (
          refine wc_then rfl ?_
          refine wc_skip ?_
          refine wc_seq ?_
          refine wc_block ?_
          refine wc_seq ?_
          obtain ⟨ad, x, hx1, hx2, hw⟩ := nums_at (W0 := W0) b5 b1 s j (by omega)
          have hnx := numB_next hx2
          have hxs := hss x (List.mem_of_getElem? hx2)
          have hnl2 : (numB ((numsOf s).take j)).length ≤ 9 * ((numsOf s).take j).length := numB_len (fun y hy => hss y (List.mem_of_mem_take hy))
          rw [List.length_take] at hnl2
          refine wc_region ?_
          refine wl rfl (OP.ev rfl rfl (eIx ty75 ty78 rfl rfl (by omega) (by omega)) ?_)
          refine wl rfl (OP.ev rfl rfl (eLdR (off := 0) (cells := numCells b5 b1) ty78 rfl rfl (Rc.of_has (by repeat (first | exact Has.h | apply Has.t | apply Has.app)) rfl) j (by simp) hx1) ?_)
          refine wl rfl (OP.ev rfl rfl (eAs rfl) ?_)
          refine wl_nil ?_
          refine wc_region ?_
          refine wl rfl (OP.ev rfl rfl (eMv rfl) ?_)
          refine wl rfl (OP.ev rfl rfl (eMv rfl) ?_)
          refine wl rfl (OP.ev rfl rfl (eNil rfl) ?_)
          refine wl rfl (OP.ev rfl rfl (eLdC ty3 rfl rfl (hw _ (by repeat (first | exact Has.h | apply Has.t | apply Has.app)) (by repeat (first | exact Has.h | apply Has.t | apply Has.app)))) ?_)
          refine wl rfl (oC (L1 := _) rfl pf34 rfl (number_ok _ _ x (by omega) _ (hrow3.rs (by repeat (first | exact At.cell | exact At.h | apply At.t | apply At.a))) (by rw [List.length_append, List.length_append]; omega)) Sel.all ?_)
          rintro v3' _ ⟨cs3', hrow3', rfl⟩
          rw [List.append_assoc, ← hnx] at hrow3'
          refine wl rfl (OP.ev rfl rfl (eAs rfl) ?_)
          refine wl_nil ?_
          refine wc_region ?_
          first | refine wl rfl (OP.ev rfl rfl (eAdd rfl rfl (by omega)) ?_) | refine wl rfl (OP.ev rfl rfl (eAddW rfl rfl) ?_)
          refine wl rfl (OP.ev rfl rfl (eMv rfl) ?_)
          refine wl_nil ?_
          exact ⟨j + 1, v3', cs3', ⟨by omega, hrow3'⟩, by omega, ⟨rfl, rfl, rfl, rfl, rfl, rfl, rfl, rfl, trivial⟩, (by repeat (first | exact Sel.all | exact Sel.none | (apply Sel.one; · repeat (first | exact Pick.h | apply Pick.t | apply Pick.app)) | apply Sel.app | (with_reducible apply Sel.grp; · repeat (first | exact PickF.h | apply PickF.t | apply PickF.a)) | (with_reducible refine Sel.nilF (by with_unfolding_all rfl) ?_) | apply Sel.drop | apply Sel.dropF))⟩)
      | false =>
        try have c_t27 := df h27
        first
        | (exfalso; omega)
        | (
          refine wc_else rfl ?_
          refine wc_exit rfl ?_
          have hj : j = 11 := by omega
          have hfin : dg m.length ++ numB (((seatsOf m).take i).flatMap numsOf) ++ numB ((numsOf s).take j) = dg m.length ++ numB (((seatsOf m).take (i + 1)).flatMap numsOf) := by
            have htk : (numsOf s).take j = numsOf s := List.take_of_length_le (by show 11 ≤ j; omega)
            rw [flatN_next hs, numB_app, htk, List.append_assoc]
          rw [hfin] at hrow3
          refine wc_region ?_
          first | refine wl rfl (OP.ev rfl rfl (eAdd rfl rfl (by omega)) ?_) | refine wl rfl (OP.ev rfl rfl (eAddW rfl rfl) ?_)
          refine wl rfl (OP.ev rfl rfl (eMv rfl) ?_)
          refine wl_nil ?_
          exact ⟨i + 1, v3, cs3, ⟨by omega, hrow3⟩, by omega, ⟨rfl, rfl, rfl, rfl, rfl, trivial⟩, (by repeat (first | exact Sel.all | exact Sel.none | (apply Sel.one; · repeat (first | exact Pick.h | apply Pick.t | apply Pick.app)) | apply Sel.app | (with_reducible apply Sel.grp; · repeat (first | exact PickF.h | apply PickF.t | apply PickF.a)) | (with_reducible refine Sel.nilF (by with_unfolding_all rfl) ?_) | apply Sel.drop | apply Sel.dropF))⟩))
  | false =>
    try have c_t21 := df h21
    first
    | (exfalso; omega)
    | (
      refine wc_else rfl ?_
      refine wc_exit rfl ?_
      refine wc_seq ?_
      refine wc_region ?_
      refine wl rfl (OP.ev rfl rfl (eMv rfl) ?_)
      refine wl rfl (OP.ev rfl rfl (eAs rfl) ?_)
      refine wl_nil ?_
      refine wc_ret ?_
      apply at_ret rfl
      · exact (.cons (.tmp rfl) .nil)
      · have hi : i = (seatsOf m).length := by omega
        rw [hi, List.take_length, ← hsl] at hrow3
        exact ⟨cs3, hrow3, rfl⟩
      · exact (by repeat (first | exact Sel.all | exact Sel.none | (apply Sel.one; · repeat (first | exact Pick.h | apply Pick.t | apply Pick.app)) | apply Sel.app | (with_reducible apply Sel.grp; · repeat (first | exact PickF.h | apply PickF.t | apply PickF.a)) | (with_reducible refine Sel.nilF (by with_unfolding_all rfl) ?_) | apply Sel.drop | apply Sel.dropF)))
end Go.Proofs.Ytbppeijcfkdhjaa
