/- The contracts of the reference's table: its numbers, its check, its image, and where a session stands. -/
import Derived.Test.YtbppeijcfkdhjaaImg
namespace Go.Proofs.Ytbppeijcfkdhjaa
open Go Eng
set_option linter.unusedVariables false
set_option maxRecDepth 4000
variable {W0 : World}

def replyN (r : Reply) : List Int := [r.err, r.session, r.gone, r.added, r.same, r.other, r.cycle, r.full]
def i64V (ns : List Int) : List Value := ns.map (Value.int .i64)
theorem i64V_app (a b : List Int) : i64V (a ++ b) = i64V a ++ i64V b := by simp [i64V]
theorem i64V_one (a : List Int) : (i64V a).all Value.oneCell' = true := by
  rw [List.all_eq_true]; intro x hx
  obtain ⟨y, _, rfl⟩ := List.mem_map.1 hx
  rfl

theorem replyN_ok (r : Reply) (R : Heap) : FnC W0 Try.prog 50 #[.agg (rC r)] R (fun v L' => ∃ b, v = .slice (some ⟨b, 0, none⟩) 8 8 ∧ L' = (b, .cells (i64V (replyN r)).toArray 3 (0, 0)) :: R) := by
  refine fn_of Try.func50 rfl Try.ntmps50 rfl rfl ?_
  refine wc_seq ?_
  refine wc_region ?_
  refine wl rfl (oBox rfl rfl rfl fun b1 => ?_)
  refine wl rfl (OP.ev rfl rfl (eAs rfl) ?_)
  refine wl_nil ?_
  refine wc_seq ?_
  refine wc_region ?_
  refine wl rfl (OP.ev rfl rfl (eFld 0 ty33 rfl rfl ty29 rfl) ?_)
  first | refine wl rfl (OP.ev rfl rfl (eLd ty29 rfl rfl (by repeat (first | exact Has.h | apply Has.t | apply Has.app)) (by rfl)) ?_) | refine wl rfl (OP.ev rfl rfl (eLdO ty29 rfl rfl (by assumption)) ?_)
  refine wl rfl (OP.ev rfl rfl (eFld 1 ty33 rfl rfl ty3 rfl) ?_)
  first | refine wl rfl (OP.ev rfl rfl (eLd ty3 rfl rfl (by repeat (first | exact Has.h | apply Has.t | apply Has.app)) (by rfl)) ?_) | refine wl rfl (OP.ev rfl rfl (eLdO ty3 rfl rfl (by assumption)) ?_)
  refine wl rfl (OP.ev rfl rfl (eFld 2 ty33 rfl rfl ty3 rfl) ?_)
  first | refine wl rfl (OP.ev rfl rfl (eLd ty3 rfl rfl (by repeat (first | exact Has.h | apply Has.t | apply Has.app)) (by rfl)) ?_) | refine wl rfl (OP.ev rfl rfl (eLdO ty3 rfl rfl (by assumption)) ?_)
  refine wl rfl (OP.ev rfl rfl (eFld 3 ty33 rfl rfl ty31 rfl) ?_)
  refine wl rfl (OP.ev rfl rfl (eFld 0 ty31 rfl rfl ty3 rfl) ?_)
  first | refine wl rfl (OP.ev rfl rfl (eLd ty3 rfl rfl (by repeat (first | exact Has.h | apply Has.t | apply Has.app)) (by rfl)) ?_) | refine wl rfl (OP.ev rfl rfl (eLdO ty3 rfl rfl (by assumption)) ?_)
  refine wl rfl (OP.ev rfl rfl (eFld 3 ty33 rfl rfl ty31 rfl) ?_)
  refine wl rfl (OP.ev rfl rfl (eFld 1 ty31 rfl rfl ty3 rfl) ?_)
  first | refine wl rfl (OP.ev rfl rfl (eLd ty3 rfl rfl (by repeat (first | exact Has.h | apply Has.t | apply Has.app)) (by rfl)) ?_) | refine wl rfl (OP.ev rfl rfl (eLdO ty3 rfl rfl (by assumption)) ?_)
  refine wl rfl (OP.ev rfl rfl (eFld 3 ty33 rfl rfl ty31 rfl) ?_)
  refine wl rfl (OP.ev rfl rfl (eFld 2 ty31 rfl rfl ty3 rfl) ?_)
  first | refine wl rfl (OP.ev rfl rfl (eLd ty3 rfl rfl (by repeat (first | exact Has.h | apply Has.t | apply Has.app)) (by rfl)) ?_) | refine wl rfl (OP.ev rfl rfl (eLdO ty3 rfl rfl (by assumption)) ?_)
  refine wl rfl (OP.ev rfl rfl (eFld 3 ty33 rfl rfl ty31 rfl) ?_)
  refine wl rfl (OP.ev rfl rfl (eFld 3 ty31 rfl rfl ty3 rfl) ?_)
  first | refine wl rfl (OP.ev rfl rfl (eLd ty3 rfl rfl (by repeat (first | exact Has.h | apply Has.t | apply Has.app)) (by rfl)) ?_) | refine wl rfl (OP.ev rfl rfl (eLdO ty3 rfl rfl (by assumption)) ?_)
  refine wl rfl (OP.ev rfl rfl (eFld 3 ty33 rfl rfl ty31 rfl) ?_)
  refine wl rfl (OP.ev rfl rfl (eFld 4 ty31 rfl rfl ty3 rfl) ?_)
  first | refine wl rfl (OP.ev rfl rfl (eLd ty3 rfl rfl (by repeat (first | exact Has.h | apply Has.t | apply Has.app)) (by rfl)) ?_) | refine wl rfl (OP.ev rfl rfl (eLdO ty3 rfl rfl (by assumption)) ?_)
  refine wl rfl (oBSw (vs := [_, _, _, _, _, _, _, _]) rfl ty67 ty3 rfl rfl rfl rfl rfl rfl fun b24 => ?_)
  refine wl rfl (OP.ev rfl rfl (eAs rfl) ?_)
  refine wl_nil ?_
  refine wc_ret ?_
  apply at_ret rfl
  · exact (.cons (.tmp rfl) .nil)
  · exact ⟨b24, rfl, rfl⟩
  · exact (by repeat (first | exact Sel.all | exact Sel.none | (apply Sel.one; · repeat (first | exact Pick.h | apply Pick.t | apply Pick.app)) | apply Sel.app | (with_reducible apply Sel.grp; · repeat (first | exact PickF.h | apply PickF.t | apply PickF.a)) | (with_reducible refine Sel.nilF (by with_unfolding_all rfl) ?_) | apply Sel.drop | apply Sel.dropF))

theorem checkR_eq (r : Reply) : checkR r = if (replyN r).all inRange then 0 else 1 := by
  have : (numsOf ⟨0, 0, 0, r⟩).all inRange = (replyN r).all inRange := by
    show ([0, 0, 0] ++ replyN r).all inRange = _
    rw [List.all_append]; rfl
  unfold checkR; rw [this]

theorem rcheck_bad {r : Reply} {i : Nat} {x : Int} (hx : (replyN r)[i]? = some x) (hb : ¬ (0 ≤ x ∧ x ≤ 1099511627776)) : checkR r = 1 := by
  rw [checkR_eq, if_neg]
  intro h
  have := List.all_eq_true.1 h x (List.mem_of_getElem? hx)
  exact hb (of_decide_eq_true this)
theorem rcheck_good {r : Reply} {i : Nat} (h : ((replyN r).take i).all inRange = true) (hi : 8 ≤ i) : checkR r = 0 := by
  rw [List.take_of_length_le (by exact hi)] at h
  rw [checkR_eq, if_pos h]
theorem rcheck_next {r : Reply} {i : Nat} {x : Int} (h : ((replyN r).take i).all inRange = true) (hx : (replyN r)[i]? = some x) (h1 : 0 ≤ x) (h2 : x ≤ 1099511627776) : ((replyN r).take (i + 1)).all inRange = true := by
  rw [List.take_add_one, hx, List.all_append, h]
  simp [inRange, h1, h2]

theorem rcheck_ok (r : Reply) (R : Heap) : FnC W0 Try.prog 38 #[.agg (rC r)] R (fun v L' => v = i64 (checkR r) ∧ L' = R) := by
  refine fn_of Try.func38 rfl Try.ntmps38 rfl rfl ?_
  refine wc_seq ?_
  refine wc_region ?_
  refine wl rfl (oBox rfl rfl rfl fun b1 => ?_)
  refine wl rfl (OP.ev rfl rfl (eAs rfl) ?_)
  refine wl_nil ?_
  refine wc_seq ?_
  refine wc_seq ?_
  refine wc_region ?_
  first | refine wl rfl (OP.ev rfl rfl (eLdW ty33 rfl rfl (by repeat (first | exact Has.h | apply Has.t | apply Has.app)) (by rfl)) ?_) | refine wl rfl (OP.ev rfl rfl (eLdA (vs := [_, _, _, _, _, _, _, _]) ty33 rfl rfl (by repeat (first | exact Has.h | apply Has.t | apply Has.app)) (by rfl) (by rfl)) ?_) | refine wl rfl (OP.ev rfl rfl (eLdAO ty33 rfl rfl (by assumption) (by assumption)) ?_)
  refine wl rfl (oC rfl pf50 rfl (replyN_ok r _) (by repeat (first | exact Sel.all | exact Sel.none | (apply Sel.one; · repeat (first | exact Pick.h | apply Pick.t | apply Pick.app)) | apply Sel.app | (with_reducible apply Sel.grp; · repeat (first | exact PickF.h | apply PickF.t | apply PickF.a)) | (with_reducible refine Sel.nilF (by with_unfolding_all rfl) ?_) | apply Sel.drop | apply Sel.dropF)) ?_)
  rintro _ _ ⟨b2, rfl, rfl⟩
  refine wl rfl (OP.ev rfl rfl (eLenS ty67 rfl) ?_)
  refine wl rfl (OP.ev rfl rfl (eMv rfl) ?_)
  refine wl_nil ?_
  refine wc_block ?_
  refine wc_loop (σ := Nat) (fun i => [(6, .slice (some ⟨b2, 0, none⟩) 8 8), (7, i64 8), (8, i64 (i : Int))]) (fun i => (b2, .cells (i64V (replyN r)).toArray 3 (0, 0)) :: R) (fun i => i ≤ 8 ∧ ((replyN r).take i).all inRange = true) (fun i => 8 - i) 0 ⟨by omega, rfl⟩ ⟨rfl, rfl, rfl, trivial⟩ (by repeat (first | exact Sel.all | exact Sel.none | (apply Sel.one; · repeat (first | exact Pick.h | apply Pick.t | apply Pick.app)) | apply Sel.app | (with_reducible apply Sel.grp; · repeat (first | exact PickF.h | apply PickF.t | apply PickF.a)) | (with_reducible refine Sel.nilF (by with_unfolding_all rfl) ?_) | apply Sel.drop | apply Sel.dropF)) ?_
  rintro i ⟨hi, hok⟩
  refine wc_seq ?_
  refine wc_region ?_
  refine wl rfl (OP.evb rfl rfl (eLt rfl rfl) fun t9 h9 => ?_)
  refine wl_nil ?_
  refine wc_seq ?_
  cases t9 with
  | true =>
    try have c_t9 := dt h9
    first
    | (exfalso; omega)
    | (
      refine wc_then rfl ?_
      refine wc_skip ?_
      refine wc_seq ?_
      refine wc_block ?_
      refine wc_seq ?_
      obtain ⟨x, hx⟩ : ∃ x, (replyN r)[i]? = some x := ⟨_, List.getElem?_eq_getElem (by show i < 8; omega)⟩
      refine wc_region ?_
      refine wl rfl (OP.ev rfl rfl (eIx ty67 ty3 rfl rfl (by omega) (by omega)) ?_)
      refine wl rfl (OP.ev rfl rfl (eLdR (off := 0) (cells := i64V (replyN r)) (v := .int .i64 x) ty3 rfl rfl (Rc.of_has (by repeat (first | exact Has.h | apply Has.t | apply Has.app)) rfl) i (by simp) (by unfold i64V; rw [List.getElem?_map, hx]; rfl)) ?_)
      refine wl rfl (OP.ev rfl rfl (eAs rfl) ?_)
      refine wl_nil ?_
      refine wc_seq ?_
      refine wc_region ?_
      refine wl rfl (OP.ev rfl rfl (eMv rfl) ?_)
      refine wl rfl (OP.evb rfl rfl (eLt rfl rfl) fun t13 h13 => ?_)
      refine wl rfl (OP.ev rfl rfl (eMv rfl) ?_)
      cases t13 with
      | true =>
        try have c_t13 := dt h13
        first
        | (exfalso; omega)
        | (
          refine wl_skip rfl rfl rfl rfl rfl ?_
          refine wl_skip rfl rfl rfl rfl rfl ?_
          refine wl rfl (OP.ev rfl rfl (ePk rfl rfl) ?_)
          refine wl_nil ?_
          refine wc_then rfl ?_
          refine wc_seq ?_
          refine wc_region ?_
          refine wl rfl (OP.ev rfl rfl (eAs rfl) ?_)
          refine wl_nil ?_
          refine wc_ret ?_
          apply at_ret rfl
          · exact (.cons (.tmp rfl) .nil)
          · first | exact ⟨by rw [rcheck_bad hx (by omega)]; rfl, rfl⟩ | exact ⟨by rw [rcheck_good hok (by omega)]; rfl, rfl⟩
          · exact (by repeat (first | exact Sel.all | exact Sel.none | (apply Sel.one; · repeat (first | exact Pick.h | apply Pick.t | apply Pick.app)) | apply Sel.app | (with_reducible apply Sel.grp; · repeat (first | exact PickF.h | apply PickF.t | apply PickF.a)) | (with_reducible refine Sel.nilF (by with_unfolding_all rfl) ?_) | apply Sel.drop | apply Sel.dropF)))
      | false =>
        try have c_t13 := df h13
        first
        | (exfalso; omega)
        | (
          refine wl_go rfl rfl (OP.ev rfl rfl (eMv rfl) ?_)
          refine wl_go rfl rfl (OP.evb rfl rfl (eGt rfl rfl) fun t16 h16 => ?_)
          refine wl rfl (OP.ev rfl rfl (ePk rfl rfl) ?_)
          refine wl_nil ?_
          cases t16 with
          | true =>
            try have c_t16 := dt h16
            first
            | (exfalso; omega)
            | (
              refine wc_then rfl ?_
              refine wc_seq ?_
              refine wc_region ?_
              refine wl rfl (OP.ev rfl rfl (eAs rfl) ?_)
              refine wl_nil ?_
              refine wc_ret ?_
              apply at_ret rfl
              · exact (.cons (.tmp rfl) .nil)
              · first | exact ⟨by rw [rcheck_bad hx (by omega)]; rfl, rfl⟩ | exact ⟨by rw [rcheck_good hok (by omega)]; rfl, rfl⟩
              · exact (by repeat (first | exact Sel.all | exact Sel.none | (apply Sel.one; · repeat (first | exact Pick.h | apply Pick.t | apply Pick.app)) | apply Sel.app | (with_reducible apply Sel.grp; · repeat (first | exact PickF.h | apply PickF.t | apply PickF.a)) | (with_reducible refine Sel.nilF (by with_unfolding_all rfl) ?_) | apply Sel.drop | apply Sel.dropF)))
          | false =>
            try have c_t16 := df h16
            first
            | (exfalso; omega)
            | (
              refine wc_else rfl ?_
              refine wc_skip ?_
              refine wc_region ?_
              first | refine wl rfl (OP.ev rfl rfl (eAdd rfl rfl (by omega)) ?_) | refine wl rfl (OP.ev rfl rfl (eAddW rfl rfl) ?_)
              refine wl rfl (OP.ev rfl rfl (eMv rfl) ?_)
              refine wl_nil ?_
              exact ⟨i + 1, ⟨by omega, rcheck_next hok hx (by omega) (by omega)⟩, by omega, ⟨rfl, rfl, rfl, trivial⟩, (by repeat (first | exact Sel.all | exact Sel.none | (apply Sel.one; · repeat (first | exact Pick.h | apply Pick.t | apply Pick.app)) | apply Sel.app | (with_reducible apply Sel.grp; · repeat (first | exact PickF.h | apply PickF.t | apply PickF.a)) | (with_reducible refine Sel.nilF (by with_unfolding_all rfl) ?_) | apply Sel.drop | apply Sel.dropF))⟩)))
  | false =>
    try have c_t9 := df h9
    first
    | (exfalso; omega)
    | (
      refine wc_else rfl ?_
      refine wc_exit rfl ?_
      refine wc_seq ?_
      refine wc_region ?_
      refine wl rfl (OP.ev rfl rfl (eAs rfl) ?_)
      refine wl_nil ?_
      refine wc_ret ?_
      apply at_ret rfl
      · exact (.cons (.tmp rfl) .nil)
      · first | exact ⟨by rw [rcheck_bad hx (by omega)]; rfl, rfl⟩ | exact ⟨by rw [rcheck_good hok (by omega)]; rfl, rfl⟩
      · exact (by repeat (first | exact Sel.all | exact Sel.none | (apply Sel.one; · repeat (first | exact Pick.h | apply Pick.t | apply Pick.app)) | apply Sel.app | (with_reducible apply Sel.grp; · repeat (first | exact PickF.h | apply PickF.t | apply PickF.a)) | (with_reducible refine Sel.nilF (by with_unfolding_all rfl) ?_) | apply Sel.drop | apply Sel.dropF)))

/-- the reference's table -/
abbrev xC (b : Nat) (v : Value) : Nat × Obj := (b, .cells #[v] 55 (0, 0))

/-- where a session stands -/
def pl (l : List Seat) (k : Int) : Int := match l.findIdx? (fun s => decide (s.session = k)) with
  | some i => (i : Int)
  | none => -1
theorem pl_spec (l : List Seat) (k : Int) : (pl l k = -1 ∧ ∀ s ∈ l, s.session ≠ k) ∨ ∃ (i : Nat) (s : Seat), pl l k = (i : Int) ∧ l[i]? = some s ∧ s.session = k := by
  unfold pl
  cases h : l.findIdx? (fun s => decide (s.session = k)) with
  | none => exact .inl ⟨rfl, fun s hs => by have := List.findIdx?_eq_none_iff.1 h s hs; simpa using this⟩
  | some i =>
    obtain ⟨h1, h2, h3⟩ := List.findIdx?_eq_some_iff_getElem.1 h
    exact .inr ⟨i, l[i], rfl, List.getElem?_eq_getElem h1, by simpa using h2⟩
theorem pl_at {l : List Seat} {k : Int} {i : Nat} {s : Seat} (h1 : l[i]? = some s) (h2 : s.session = k) (h3 : ∀ s' ∈ l.take i, s'.session ≠ k) : pl l k = (i : Int) := by
  have hlt := (List.getElem?_eq_some_iff.1 h1).1
  have : l.findIdx? (fun s => decide (s.session = k)) = some i := by
    rw [List.findIdx?_eq_some_iff_getElem]
    refine ⟨hlt, ?_, fun j hj => ?_⟩
    · have := (List.getElem?_eq_some_iff.1 h1).2
      rw [this]; simpa using h2
    · have := h3 (l[j]'(by omega)) (List.mem_iff_getElem.2 ⟨j, by simp; omega, by simp⟩)
      simpa using this
  unfold pl; rw [this]
theorem pl_no {l : List Seat} {k : Int} (h : ∀ s ∈ l, s.session ≠ k) : pl l k = -1 := by
  rcases pl_spec l k with h1 | ⟨i, s, _, h2, h3⟩
  · exact h1.1
  · exact absurd h3 (h s (List.mem_of_getElem? h2))

theorem place_ok (b : Nat) (v : Value) (cs : Array Value) (l : List Seat) (k : Int) (hrow : Row v cs 11 l.length (flat l)) (hl : l.length ≤ 1099511627776) (R : Heap) :
    FnC W0 Try.prog 37 #[ptr b, i64 k] (xC b v :: (ownH v cs 35 ++ R)) (fun v' L' => v' = i64 (pl l k) ∧ L' = xC b v :: (ownH v cs 35 ++ R)) := by
  refine fn_of Try.func37 rfl Try.ntmps37 rfl rfl ?_
  refine wc_seq ?_
  refine wc_region ?_
  refine wl rfl (OP.ev rfl rfl (eAs rfl) ?_)
  refine wl_nil ?_
  refine wc_seq ?_
  refine wc_seq ?_
  refine wc_region ?_
  refine wl rfl (OP.ev rfl rfl (eMv rfl) ?_)
  refine wl rfl (OP.ev rfl rfl (eNil rfl) ?_)
  refine wl rfl (OP.ev rfl rfl (eFld 0 ty55 rfl rfl ty26 rfl) ?_)
  first | refine wl rfl (OP.ev rfl rfl (eLd ty26 rfl rfl (by repeat (first | exact Has.h | apply Has.t | apply Has.app)) (by rfl)) ?_) | refine wl rfl (OP.ev rfl rfl (eLdO ty26 rfl rfl (by assumption)) ?_)
  refine wl rfl (OP.ev rfl rfl (eLenRow ty26 rfl hrow) ?_)
  refine wl rfl (OP.ev rfl rfl (eMv rfl) ?_)
  refine wl_nil ?_
  refine wc_block ?_
  refine wc_loop (σ := Nat) (fun i => [(0, ptr b), (1, i64 k), (10, i64 (l.length : Int)), (11, i64 (i : Int))]) (fun i => xC b v :: (ownH v cs 35 ++ R)) (fun i => i ≤ l.length ∧ ∀ s' ∈ l.take i, s'.session ≠ k) (fun i => l.length - i) 0 ⟨Nat.zero_le _, by simp⟩ ⟨rfl, rfl, rfl, rfl, trivial⟩ (by repeat (first | exact Sel.all | exact Sel.none | (apply Sel.one; · repeat (first | exact Pick.h | apply Pick.t | apply Pick.app)) | apply Sel.app | (with_reducible apply Sel.grp; · repeat (first | exact PickF.h | apply PickF.t | apply PickF.a)) | (with_reducible refine Sel.nilF (by with_unfolding_all rfl) ?_) | apply Sel.drop | apply Sel.dropF)) ?_
  rintro i ⟨hi, hno⟩
  refine wc_seq ?_
  refine wc_region ?_
  refine wl rfl (OP.evb rfl rfl (eLt rfl rfl) fun t12 h12 => ?_)
  refine wl_nil ?_
  refine wc_seq ?_
  cases t12 with
  | true =>
    try have c_t12 := dt h12
    first
    | (exfalso; omega)
    | (
      refine wc_then rfl ?_
      refine wc_skip ?_
      refine wc_seq ?_
      refine wc_block ?_
      refine wc_seq ?_
      obtain ⟨s, hs⟩ : ∃ c, l[i]? = some c := ⟨_, List.getElem?_eq_getElem (by omega)⟩
      have hrow' := hrow
      rcases hrow'.2 with ⟨_, h0⟩ | ⟨vb, vcap, rfl, h1, h2, h3⟩
      · exfalso; omega
      have hcell : (flat l)[i * 11]? = some (.int .i64 s.session) := by
        have := flatMap_at (fun s : Seat => (sC s).toList) 11 (fun _ => rfl) l i s hs
        have h4 := congrArg (fun z : List Value => z[0]?) this
        simp only [List.getElem?_take, List.getElem?_drop] at h4
        simpa [flat, sC] using h4
      refine wc_region ?_
      refine wl rfl (OP.ev rfl rfl (eMv rfl) ?_)
      refine wl rfl (OP.ev rfl rfl (eAs rfl) ?_)
      refine wl_nil ?_
      refine wc_seq ?_
      refine wc_region ?_
      refine wl rfl (OP.ev rfl rfl (eMv rfl) ?_)
      refine wl rfl (OP.ev rfl rfl (eNil rfl) ?_)
      refine wl rfl (OP.ev rfl rfl (eFld 0 ty55 rfl rfl ty26 rfl) ?_)
      first | refine wl rfl (OP.ev rfl rfl (eLd ty26 rfl rfl (by repeat (first | exact Has.h | apply Has.t | apply Has.app)) (by rfl)) ?_) | refine wl rfl (OP.ev rfl rfl (eLdO ty26 rfl rfl (by assumption)) ?_)
      refine wl rfl (OP.ev rfl rfl (eMv rfl) ?_)
      refine wl rfl (OP.ev rfl rfl (eIx ty26 ty35 rfl rfl (by omega) (by omega)) ?_)
      refine wl rfl (OP.ev rfl rfl (eFld 0 ty35 rfl rfl ty3 rfl) ?_)
      refine wl rfl (OP.ev rfl rfl (eLdR (off := 0) (cells := flat l) (v := .int .i64 s.session) ty3 rfl rfl (Rc.of_has (by repeat (first | exact Has.h | apply Has.t | apply Has.app)) (by rw [hrow.1]; exact h3)) (i * 11) (by omega) hcell) ?_)
      refine wl rfl (OP.ev rfl rfl (eMv rfl) ?_)
      refine wl rfl (OP.evb rfl rfl (eEq rfl rfl) fun t23 h23 => ?_)
      refine wl_nil ?_
      cases t23 with
      | true =>
        try have c_t23 := dt h23
        first
        | (exfalso; omega)
        | (
          refine wc_then rfl ?_
          refine wc_seq ?_
          refine wc_region ?_
          refine wl rfl (OP.ev rfl rfl (eMv rfl) ?_)
          refine wl rfl (OP.ev rfl rfl (eAs rfl) ?_)
          refine wl_nil ?_
          refine wc_ret ?_
          apply at_ret rfl
          · exact (.cons (.tmp rfl) .nil)
          · first | exact ⟨by rw [pl_at hs c_t23 hno]; rfl, rfl⟩ | exact ⟨by rw [pl_no (fun s hs => by rw [List.take_of_length_le (by omega)] at hno; exact hno s hs)]; rfl, rfl⟩
          · exact (by repeat (first | exact Sel.all | exact Sel.none | (apply Sel.one; · repeat (first | exact Pick.h | apply Pick.t | apply Pick.app)) | apply Sel.app | (with_reducible apply Sel.grp; · repeat (first | exact PickF.h | apply PickF.t | apply PickF.a)) | (with_reducible refine Sel.nilF (by with_unfolding_all rfl) ?_) | apply Sel.drop | apply Sel.dropF)))
      | false =>
        try have c_t23 := df h23
        first
        | (exfalso; omega)
        | (
          refine wc_else rfl ?_
          refine wc_skip ?_
          refine wc_region ?_
          first | refine wl rfl (OP.ev rfl rfl (eAdd rfl rfl (by omega)) ?_) | refine wl rfl (OP.ev rfl rfl (eAddW rfl rfl) ?_)
          refine wl rfl (OP.ev rfl rfl (eMv rfl) ?_)
          refine wl_nil ?_
          exact ⟨i + 1, ⟨by omega, fun s' hs' => by rw [List.take_add_one, hs, List.mem_append] at hs'; rcases hs' with hs' | hs'; exact hno s' hs'; simp at hs'; rw [hs']; exact c_t23⟩, by omega, ⟨rfl, rfl, rfl, rfl, trivial⟩, (by repeat (first | exact Sel.all | exact Sel.none | (apply Sel.one; · repeat (first | exact Pick.h | apply Pick.t | apply Pick.app)) | apply Sel.app | (with_reducible apply Sel.grp; · repeat (first | exact PickF.h | apply PickF.t | apply PickF.a)) | (with_reducible refine Sel.nilF (by with_unfolding_all rfl) ?_) | apply Sel.drop | apply Sel.dropF))⟩))
  | false =>
    try have c_t12 := df h12
    first
    | (exfalso; omega)
    | (
      refine wc_else rfl ?_
      refine wc_exit rfl ?_
      refine wc_seq ?_
      refine wc_region ?_
      refine wl rfl (OP.ev rfl rfl (eAs rfl) ?_)
      refine wl_nil ?_
      refine wc_ret ?_
      apply at_ret rfl
      · exact (.cons (.tmp rfl) .nil)
      · first | exact ⟨by rw [pl_at hs c_t23 hno]; rfl, rfl⟩ | exact ⟨by rw [pl_no (fun s hs => by rw [List.take_of_length_le (by omega)] at hno; exact hno s hs)]; rfl, rfl⟩
      · exact (by repeat (first | exact Sel.all | exact Sel.none | (apply Sel.one; · repeat (first | exact Pick.h | apply Pick.t | apply Pick.app)) | apply Sel.app | (with_reducible apply Sel.grp; · repeat (first | exact PickF.h | apply PickF.t | apply PickF.a)) | (with_reducible refine Sel.nilF (by with_unfolding_all rfl) ?_) | apply Sel.drop | apply Sel.dropF)))
end Go.Proofs.Ytbppeijcfkdhjaa
