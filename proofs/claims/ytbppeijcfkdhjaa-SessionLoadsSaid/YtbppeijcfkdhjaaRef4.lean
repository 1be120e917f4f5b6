/- The contract of the reference's Open. -/
import Derived.Test.YtbppeijcfkdhjaaRef3
import Derived.Test.YtbppeijcfkdhjaaEnds
namespace Go.Proofs.Ytbppeijcfkdhjaa
open Go Eng
set_option linter.unusedVariables false
set_option maxRecDepth 4000
variable {W0 : World}

def newSeat (a : Int) : Seat := ⟨a, 0, a, r0⟩
/-- a seat put in by its number -/
def insS (a : Int) : List Seat → List Seat
  | [] => [newSeat a]
  | s :: r => if a < s.session then newSeat a :: s :: r else s :: insS a r
theorem insS_mid {a : Int} {s : Seat} {r : List Seat} (h : a < s.session) : ∀ {p : List Seat}, (∀ s' ∈ p, ¬ a < s'.session) → insS a (p ++ s :: r) = p ++ newSeat a :: s :: r := by
  intro p
  induction p with
  | nil => intro _; simp [insS, h]
  | cons x p ih =>
    intro hp
    simp only [List.cons_append, insS]
    rw [if_neg (hp x List.mem_cons_self), ih (fun y hy => hp y (List.mem_cons_of_mem _ hy))]
theorem insS_end {a : Int} : ∀ {p : List Seat}, (∀ s' ∈ p, ¬ a < s'.session) → insS a p = p ++ [newSeat a] := by
  intro p
  induction p with
  | nil => intro _; rfl
  | cons x p ih =>
    intro hp
    simp only [List.cons_append, insS]
    rw [if_neg (hp x List.mem_cons_self), ih (fun y hy => hp y (List.mem_cons_of_mem _ hy))]

def open1 (l : List Seat) (a : Int) : Int × List Seat :=
  if a < 1 ∨ 1099511627776 < a ∨ 0 ≤ pl l a then (1, l)
  else if (l.length : Int) = 8 then (7, l)
  else (0, insS a l)

/-- what has been put down when i seats have been looked at -/
def OpS (a : Int) (l : List Seat) (i : Nat) (dn : Bool) (out : List Seat) : Prop :=
  (dn = false ∧ out = l.take i ∧ ∀ s ∈ l.take i, ¬ a < s.session) ∨ (dn = true ∧ out ++ l.drop i = insS a l)

theorem OpS.late {a : Int} {l : List Seat} {i : Nat} {out : List Seat} {s : Seat} (h : OpS a l i true out) (hs : l[i]? = some s) : OpS a l (i + 1) true (out ++ [s]) := by
  rcases h with ⟨h, _⟩ | ⟨_, h⟩
  · cases h
  · refine .inr ⟨rfl, ?_⟩
    have hlt := (List.getElem?_eq_some_iff.1 hs).1
    rw [List.drop_eq_getElem_cons hlt, (List.getElem?_eq_some_iff.1 hs).2] at h
    rw [List.append_assoc]; exact h
theorem OpS.now {a : Int} {l : List Seat} {i : Nat} {out : List Seat} {s : Seat} (h : OpS a l i false out) (hs : l[i]? = some s) (ha : a < s.session) : OpS a l (i + 1) true (out ++ [newSeat a] ++ [s]) := by
  rcases h with ⟨_, h1, h2⟩ | ⟨h, _⟩
  · refine .inr ⟨rfl, ?_⟩
    have hlt := (List.getElem?_eq_some_iff.1 hs).1
    have e : l = l.take i ++ s :: l.drop (i + 1) := by
      have := List.drop_eq_getElem_cons hlt
      rw [(List.getElem?_eq_some_iff.1 hs).2] at this
      rw [← this, List.take_append_drop]
    have h3 := insS_mid (r := l.drop (i + 1)) ha h2
    rw [← e] at h3
    rw [h3, h1]; simp
  · cases h
theorem OpS.skip {a : Int} {l : List Seat} {i : Nat} {out : List Seat} {s : Seat} (h : OpS a l i false out) (hs : l[i]? = some s) (ha : ¬ a < s.session) : OpS a l (i + 1) false (out ++ [s]) := by
  rcases h with ⟨_, h1, h2⟩ | ⟨h, _⟩
  · refine .inl ⟨rfl, by rw [List.take_add_one, hs, h1]; rfl, fun s' hs' => ?_⟩
    rw [List.take_add_one, hs, List.mem_append] at hs'
    rcases hs' with hs' | hs'
    · exact h2 s' hs'
    · simp at hs'; rw [hs']; exact ha
  · cases h
theorem OpS.len {a : Int} {l : List Seat} {i : Nat} {out : List Seat} {dn : Bool} (h : OpS a l i dn out) (hi : i ≤ l.length) : out.length ≤ l.length + 1 := by
  have hlen : ∀ l : List Seat, (insS a l).length = l.length + 1 := by
    intro l
    induction l with
    | nil => rfl
    | cons s r ih => simp only [insS]; split <;> simp [ih]
  rcases h with ⟨_, h1, _⟩ | ⟨_, h⟩
  · rw [h1, List.length_take]; omega
  · have := congrArg List.length h
    rw [List.length_append, hlen] at this; omega

theorem OpS.finLate {a : Int} {l : List Seat} {i : Nat} {out : List Seat} (h : OpS a l i true out) (hi : i = l.length) {v : Value} {cs : Array Value} (hr : Row v cs 11 out.length (flat out)) : Row v cs 11 (insS a l).length (flat (insS a l)) := by
  subst hi
  rcases h with ⟨h, _⟩ | ⟨_, h⟩
  · cases h
  · rw [List.drop_length, List.append_nil] at h
    rw [← h]; exact hr
theorem OpS.fin {a : Int} {l : List Seat} {i : Nat} {out : List Seat} (h : OpS a l i false out) (hi : i = l.length) {v : Value} {cs : Array Value} (hr : Row v cs 11 (out ++ [newSeat a]).length (flat (out ++ [newSeat a]))) : Row v cs 11 (insS a l).length (flat (insS a l)) := by
  subst hi
  rcases h with ⟨_, h1, h2⟩ | ⟨h, _⟩
  · rw [List.take_length] at h1 h2
    rw [insS_end h2, ← h1]; exact hr
  · cases h

theorem ropen_ok (b : Nat) (v : Value) (cs : Array Value) (l : List Seat) (a : Int) (hrow : Row v cs 11 l.length (flat l)) (hl : l.length ≤ 1048576) (R : Heap) :
    FnC W0 Try.prog 19 #[ptr b, i64 a] (xC b v :: (ownH v cs 35 ++ R)) (fun v' L' => ∃ c l' w cs', open1 l a = (c, l') ∧ v' = i64 c ∧ Row w cs' 11 l'.length (flat l') ∧ L' = xC b w :: (ownH w cs' 35 ++ R)) := by
  have e := Eq.refl (open1 l a)
  conv at e => rhs; unfold open1
  have hfl : ∀ s : Seat, flat [s] = (sC s).toList := fun s => by simp [flat]
  refine fn_of Try.func19 rfl Try.ntmps19 rfl rfl ?_
  refine wc_seq ?_
  refine wc_region ?_
  refine wl rfl (OP.ev rfl rfl (eAs rfl) ?_)
  refine wl_nil ?_
  refine wc_seq ?_
  refine wc_seq ?_
  refine wc_region ?_
  refine wl rfl (OP.ev rfl rfl (eMv rfl) ?_)
  refine wl rfl (OP.evb rfl rfl (eLt rfl rfl) fun t10 h10 => ?_)
  refine wl rfl (OP.ev rfl rfl (eMv rfl) ?_)
  cases t10 with
  | true =>
    try have c_t10 := dt h10
    first
    | (exfalso; omega)
    | (
      refine wl_skip rfl rfl rfl rfl rfl ?_
      refine wl_skip rfl rfl rfl rfl rfl ?_
      refine wl rfl (OP.ev rfl rfl (ePk rfl rfl) ?_)
      refine wl rfl (OP.ev rfl rfl (eMv rfl) ?_)
      refine wl_skip rfl rfl rfl rfl rfl ?_
      refine wl_skip rfl rfl rfl rfl rfl ?_
      refine wl_skip rfl rfl rfl rfl rfl ?_
      refine wl_skip rfl rfl rfl rfl rfl ?_
      refine wl rfl (OP.ev rfl rfl (ePk rfl rfl) ?_)
      refine wl_nil ?_
      refine wc_then rfl ?_
      refine wc_seq ?_
      refine wc_region ?_
      refine wl rfl (OP.ev rfl rfl (eAs rfl) ?_)
      refine wl_nil ?_
      refine wc_ret ?_
      apply at_ret rfl
      · exact (.cons (.tmp rfl) .nil)
      · repeat (first | rw [if_pos (by omega)] at e | rw [if_neg (by omega)] at e)
        first | exact ⟨_, _, v, cs, e, rfl, hrow, rfl⟩ | exact ⟨_, _, v5, cs5, e, rfl, hop.finLate hi hrow5, rfl⟩ | exact ⟨_, _, v5, cs5, e, rfl, hop.fin hi hrow5, rfl⟩
      · exact (by repeat (first | exact Sel.all | exact Sel.none | (apply Sel.one; · repeat (first | exact Pick.h | apply Pick.t | apply Pick.app)) | apply Sel.app | (with_reducible apply Sel.grp; · repeat (first | exact PickF.h | apply PickF.t | apply PickF.a)) | (with_reducible refine Sel.nilF (by with_unfolding_all rfl) ?_) | apply Sel.drop | apply Sel.dropF)))
  | false =>
    try have c_t10 := df h10
    first
    | (exfalso; omega)
    | (
      refine wl_go rfl rfl (OP.ev rfl rfl (eMv rfl) ?_)
      refine wl_go rfl rfl (OP.evb rfl rfl (eGt rfl rfl) fun t13 h13 => ?_)
      refine wl rfl (OP.ev rfl rfl (ePk rfl rfl) ?_)
      refine wl rfl (OP.ev rfl rfl (eMv rfl) ?_)
      cases t13 with
      | true =>
        try have c_t13 := dt h13
        first
        | (exfalso; omega)
        | (
          refine wl_skip rfl rfl rfl rfl rfl ?_
          refine wl_skip rfl rfl rfl rfl rfl ?_
          refine wl_skip rfl rfl rfl rfl rfl ?_
          refine wl_skip rfl rfl rfl rfl rfl ?_
          refine wl rfl (OP.ev rfl rfl (ePk rfl rfl) ?_)
          refine wl_nil ?_
          refine wc_then rfl ?_
          refine wc_seq ?_
          refine wc_region ?_
          refine wl rfl (OP.ev rfl rfl (eAs rfl) ?_)
          refine wl_nil ?_
          refine wc_ret ?_
          apply at_ret rfl
          · exact (.cons (.tmp rfl) .nil)
          · repeat (first | rw [if_pos (by omega)] at e | rw [if_neg (by omega)] at e)
            first | exact ⟨_, _, v, cs, e, rfl, hrow, rfl⟩ | exact ⟨_, _, v5, cs5, e, rfl, hop.finLate hi hrow5, rfl⟩ | exact ⟨_, _, v5, cs5, e, rfl, hop.fin hi hrow5, rfl⟩
          · exact (by repeat (first | exact Sel.all | exact Sel.none | (apply Sel.one; · repeat (first | exact Pick.h | apply Pick.t | apply Pick.app)) | apply Sel.app | (with_reducible apply Sel.grp; · repeat (first | exact PickF.h | apply PickF.t | apply PickF.a)) | (with_reducible refine Sel.nilF (by with_unfolding_all rfl) ?_) | apply Sel.drop | apply Sel.dropF)))
      | false =>
        try have c_t13 := df h13
        first
        | (exfalso; omega)
        | (
          refine wl_go rfl rfl (OP.ev rfl rfl (eMv rfl) ?_)
          refine wl_go rfl rfl (OP.ev rfl rfl (eMv rfl) ?_)
          refine wl_go rfl rfl (oC rfl pf37 rfl (place_ok b v cs l a hrow (by omega) _) (by repeat (first | exact Sel.all | exact Sel.none | (apply Sel.one; · repeat (first | exact Pick.h | apply Pick.t | apply Pick.app)) | apply Sel.app | (with_reducible apply Sel.grp; · repeat (first | exact PickF.h | apply PickF.t | apply PickF.a)) | (with_reducible refine Sel.nilF (by with_unfolding_all rfl) ?_) | apply Sel.drop | apply Sel.dropF)) ?_)
          rintro _ _ ⟨rfl, rfl⟩
          refine wl_go rfl rfl (OP.evb rfl rfl (eGe rfl rfl) fun t19 h19 => ?_)
          refine wl rfl (OP.ev rfl rfl (ePk rfl rfl) ?_)
          refine wl_nil ?_
          cases t19 with
          | true =>
            try have c_t19 := dt h19
            first
            | (exfalso; omega)
            | (
              refine wc_then rfl ?_
              refine wc_seq ?_
              refine wc_region ?_
              refine wl rfl (OP.ev rfl rfl (eAs rfl) ?_)
              refine wl_nil ?_
              refine wc_ret ?_
              apply at_ret rfl
              · exact (.cons (.tmp rfl) .nil)
              · repeat (first | rw [if_pos (by omega)] at e | rw [if_neg (by omega)] at e)
                first | exact ⟨_, _, v, cs, e, rfl, hrow, rfl⟩ | exact ⟨_, _, v5, cs5, e, rfl, hop.finLate hi hrow5, rfl⟩ | exact ⟨_, _, v5, cs5, e, rfl, hop.fin hi hrow5, rfl⟩
              · exact (by repeat (first | exact Sel.all | exact Sel.none | (apply Sel.one; · repeat (first | exact Pick.h | apply Pick.t | apply Pick.app)) | apply Sel.app | (with_reducible apply Sel.grp; · repeat (first | exact PickF.h | apply PickF.t | apply PickF.a)) | (with_reducible refine Sel.nilF (by with_unfolding_all rfl) ?_) | apply Sel.drop | apply Sel.dropF)))
          | false =>
            try have c_t19 := df h19
            first
            | (exfalso; omega)
            | (
              refine wc_else rfl ?_
              refine wc_skip ?_
              refine wc_seq ?_
              refine wc_seq ?_
              refine wc_region ?_
              refine wl rfl (OP.ev rfl rfl (eMv rfl) ?_)
              refine wl rfl (OP.ev rfl rfl (eNil rfl) ?_)
              refine wl rfl (OP.ev rfl rfl (eFld 0 ty55 rfl rfl ty26 rfl) ?_)
              first | refine wl rfl (OP.ev rfl rfl (eLd ty26 rfl rfl (by repeat (first | exact Has.h | apply Has.t | apply Has.app)) (by rfl)) ?_) | refine wl rfl (OP.ev rfl rfl (eLdO ty26 rfl rfl (by assumption)) ?_)
              refine wl rfl (OP.ev rfl rfl (eLenRow ty26 rfl hrow) ?_)
              refine wl rfl (OP.evb rfl rfl (eEq rfl rfl) fun t26 h26 => ?_)
              refine wl_nil ?_
              cases t26 with
              | true =>
                try have c_t26 := dt h26
                first
                | (exfalso; omega)
                | (
                  refine wc_then rfl ?_
                  refine wc_seq ?_
                  refine wc_region ?_
                  refine wl rfl (OP.ev rfl rfl (eAs rfl) ?_)
                  refine wl_nil ?_
                  refine wc_ret ?_
                  apply at_ret rfl
                  · exact (.cons (.tmp rfl) .nil)
                  · repeat (first | rw [if_pos (by omega)] at e | rw [if_neg (by omega)] at e)
                    first | exact ⟨_, _, v, cs, e, rfl, hrow, rfl⟩ | exact ⟨_, _, v5, cs5, e, rfl, hop.finLate hi hrow5, rfl⟩ | exact ⟨_, _, v5, cs5, e, rfl, hop.fin hi hrow5, rfl⟩
                  · exact (by repeat (first | exact Sel.all | exact Sel.none | (apply Sel.one; · repeat (first | exact Pick.h | apply Pick.t | apply Pick.app)) | apply Sel.app | (with_reducible apply Sel.grp; · repeat (first | exact PickF.h | apply PickF.t | apply PickF.a)) | (with_reducible refine Sel.nilF (by with_unfolding_all rfl) ?_) | apply Sel.drop | apply Sel.dropF)))
              | false =>
                try have c_t26 := df h26
                first
                | (exfalso; omega)
                | (
                  refine wc_else rfl ?_
                  refine wc_skip ?_
                  refine wc_seq ?_
                  refine wc_region ?_
                  refine wl rfl (OP.ev rfl rfl (eAs rfl) ?_)
                  refine wl_nil ?_
                  refine wc_seq ?_
                  refine wc_region ?_
                  refine wl rfl (OP.ev rfl rfl (eAs rfl) ?_)
                  refine wl_nil ?_
                  refine wc_seq ?_
                  refine wc_seq ?_
                  refine wc_region ?_
                  refine wl rfl (OP.ev rfl rfl (eMv rfl) ?_)
                  refine wl rfl (OP.ev rfl rfl (eNil rfl) ?_)
                  refine wl rfl (OP.ev rfl rfl (eFld 0 ty55 rfl rfl ty26 rfl) ?_)
                  first | refine wl rfl (OP.ev rfl rfl (eLd ty26 rfl rfl (by repeat (first | exact Has.h | apply Has.t | apply Has.app)) (by rfl)) ?_) | refine wl rfl (OP.ev rfl rfl (eLdO ty26 rfl rfl (by assumption)) ?_)
                  refine wl rfl (OP.ev rfl rfl (eLenRow ty26 rfl hrow) ?_)
                  refine wl rfl (OP.ev rfl rfl (eMv rfl) ?_)
                  refine wl_nil ?_
                  refine wc_block ?_
                  refine wc_loop (σ := Nat × Bool × List Seat × Value × Array Value) (fun q => [(0, ptr b), (1, i64 a), (5, q.2.2.2.1), (6, .bool q.2.1), (30, v), (31, i64 (l.length : Int)), (32, i64 (q.1 : Int))]) (fun q => ownH q.2.2.2.1 q.2.2.2.2 35 ++ (xC b v :: (ownH v cs 35 ++ R))) (fun q => q.1 ≤ l.length ∧ OpS a l q.1 q.2.1 q.2.2.1 ∧ Row q.2.2.2.1 q.2.2.2.2 11 q.2.2.1.length (flat q.2.2.1)) (fun q => l.length - q.1) (0, false, [], .slice none 0 0, #[]) ⟨Nat.zero_le _, .inl ⟨rfl, rfl, by simp⟩, Row.nil _ _⟩ ⟨rfl, rfl, rfl, rfl, rfl, rfl, rfl, trivial⟩ (by repeat (first | exact Sel.all | exact Sel.none | (apply Sel.one; · repeat (first | exact Pick.h | apply Pick.t | apply Pick.app)) | apply Sel.app | (with_reducible apply Sel.grp; · repeat (first | exact PickF.h | apply PickF.t | apply PickF.a)) | (with_reducible refine Sel.nilF (by with_unfolding_all rfl) ?_) | apply Sel.drop | apply Sel.dropF)) ?_
                  rintro ⟨i, dn, out, v5, cs5⟩ ⟨hi, hop, hrow5⟩
                  dsimp only at hi hop hrow5 ⊢
                  refine wc_seq ?_
                  refine wc_region ?_
                  refine wl rfl (OP.evb rfl rfl (eLt rfl rfl) fun t33 h33 => ?_)
                  refine wl_nil ?_
                  refine wc_seq ?_
                  cases t33 with
                  | true =>
                    try have c_t33 := dt h33
                    first
                    | (exfalso; omega)
                    | (
                      refine wc_then rfl ?_
                      refine wc_skip ?_
                      refine wc_seq ?_
                      refine wc_block ?_
                      refine wc_seq ?_
                      obtain ⟨s, hs⟩ : ∃ c, l[i]? = some c := ⟨_, List.getElem?_eq_getElem (by omega)⟩
                      have hol := hop.len hi
                      have hrow' := hrow
                      rcases hrow'.2 with ⟨_, h0⟩ | ⟨vb, vcap, rfl, h1, h2, h3⟩
                      · exfalso; omega
                      refine wc_region ?_
                      refine wl rfl (OP.ev rfl rfl (eIx ty26 ty35 rfl rfl (by omega) (by omega)) ?_)
                      refine wl rfl (OP.ev rfl rfl (eLdRA (off := 0) (cells := flat l) (vs := (sC s).toList) ty35 rfl rfl (Rc.of_has (by repeat (first | exact Has.h | apply Has.t | apply Has.app)) (by rw [hrow.1]; exact h3)) (i * 11) (by omega) rfl (flatMap_at _ 11 (fun _ => rfl) l i s hs)) ?_)
                      refine wl rfl (oAl rfl ty35 rfl fun b8 => ?_)
                      refine wl rfl (oStW ty35 rfl rfl rfl rfl (by repeat (first | exact Upd.h | apply Upd.t | apply Upd.app)) (by rfl) ?_)
                      refine wl_nil ?_
                      refine wc_seq ?_
                      refine wc_seq ?_
                      refine wc_region ?_
                      refine wl rfl (OP.ev rfl rfl (eMv rfl) ?_)
                      refine wl rfl (OP.ev rfl rfl (eNot rfl) ?_)
                      refine wl rfl (OP.ev rfl rfl (eMv rfl) ?_)
                      cases dn with
                      | true =>
                        first
                        | (exfalso; omega)
                        | (
                          refine wl_skip rfl rfl rfl rfl rfl ?_
                          refine wl_skip rfl rfl rfl rfl rfl ?_
                          refine wl_skip rfl rfl rfl rfl rfl ?_
                          refine wl_skip rfl rfl rfl rfl rfl ?_
                          refine wl rfl (OP.ev rfl rfl (ePk rfl rfl) ?_)
                          refine wl_nil ?_
                          refine wc_else rfl ?_
                          refine wc_skip ?_
                          refine wc_region ?_
                          refine wl rfl (OP.ev rfl rfl (eMv rfl) ?_)
                          first | refine wl rfl (OP.ev rfl rfl (eLdW ty35 rfl rfl (by repeat (first | exact Has.h | apply Has.t | apply Has.app)) (by rfl)) ?_) | refine wl rfl (OP.ev rfl rfl (eLdA (vs := [_, _, _, _, _, _, _, _, _, _, _]) ty35 rfl rfl (by repeat (first | exact Has.h | apply Has.t | apply Has.app)) (by rfl) (by rfl)) ?_) | refine wl rfl (OP.ev rfl rfl (eLdAO ty35 rfl rfl (by assumption) (by assumption)) ?_)
                          refine wl rfl (oBSw (vs := [_]) rfl ty26 ty35 rfl rfl rfl rfl rfl rfl fun b52 => ?_)
                          refine wl rfl (oApp (m := 1) (news := (sC s).toList) rfl ty26 ty35 rfl rfl rfl hrow5 (by repeat (first | exact At.cell | exact At.h | apply At.t | apply At.a)) (Rs.mk (Rc.of_has (by repeat (first | exact Has.h | apply Has.t | apply Has.app)) rfl) rfl (Nat.le_refl _)) rfl (by omega) (by omega) ?_)
                          rintro v5' cs5' hrow5' _
                          rw [← hfl, ← flat_app, show out.length + 1 = (out ++ [s]).length by simp] at hrow5'
                          refine wl rfl (OP.ev rfl rfl (eAs rfl) ?_)
                          refine wl_nil ?_
                          refine wc_region ?_
                          first | refine wl rfl (OP.ev rfl rfl (eAdd rfl rfl (by omega)) ?_) | refine wl rfl (OP.ev rfl rfl (eAddW rfl rfl) ?_)
                          refine wl rfl (OP.ev rfl rfl (eMv rfl) ?_)
                          refine wl_nil ?_
                          first | exact ⟨(i + 1, true, out ++ [s], v5', cs5'), ⟨by show i + 1 ≤ _; omega, hop', hrow5'⟩, by show _ - (i + 1) < _; omega, ⟨rfl, rfl, rfl, rfl, rfl, rfl, rfl, trivial⟩, (by repeat (first | exact Sel.all | exact Sel.none | (apply Sel.one; · repeat (first | exact Pick.h | apply Pick.t | apply Pick.app)) | apply Sel.app | (with_reducible apply Sel.grp; · repeat (first | exact PickF.h | apply PickF.t | apply PickF.a)) | (with_reducible refine Sel.nilF (by with_unfolding_all rfl) ?_) | apply Sel.drop | apply Sel.dropF))⟩ | exact ⟨(i + 1, true, out ++ [s], v5', cs5'), ⟨by show i + 1 ≤ _; omega, hop.late hs, hrow5'⟩, by show _ - (i + 1) < _; omega, ⟨rfl, rfl, rfl, rfl, rfl, rfl, rfl, trivial⟩, (by repeat (first | exact Sel.all | exact Sel.none | (apply Sel.one; · repeat (first | exact Pick.h | apply Pick.t | apply Pick.app)) | apply Sel.app | (with_reducible apply Sel.grp; · repeat (first | exact PickF.h | apply PickF.t | apply PickF.a)) | (with_reducible refine Sel.nilF (by with_unfolding_all rfl) ?_) | apply Sel.drop | apply Sel.dropF))⟩ | exact ⟨(i + 1, false, out ++ [s], v5', cs5'), ⟨by show i + 1 ≤ _; omega, hop.skip hs c_t42, hrow5'⟩, by show _ - (i + 1) < _; omega, ⟨rfl, rfl, rfl, rfl, rfl, rfl, rfl, trivial⟩, (by repeat (first | exact Sel.all | exact Sel.none | (apply Sel.one; · repeat (first | exact Pick.h | apply Pick.t | apply Pick.app)) | apply Sel.app | (with_reducible apply Sel.grp; · repeat (first | exact PickF.h | apply PickF.t | apply PickF.a)) | (with_reducible refine Sel.nilF (by with_unfolding_all rfl) ?_) | apply Sel.drop | apply Sel.dropF))⟩)
                      | false =>
                        first
                        | (exfalso; omega)
                        | (
                          refine wl_go rfl rfl (OP.ev rfl rfl (eMv rfl) ?_)
                          refine wl_go rfl rfl (OP.ev rfl rfl (eFld 0 ty35 rfl rfl ty3 rfl) ?_)
                          first | refine wl_go rfl rfl (OP.ev rfl rfl (eLd ty3 rfl rfl (by repeat (first | exact Has.h | apply Has.t | apply Has.app)) (by rfl)) ?_) | refine wl_go rfl rfl (OP.ev rfl rfl (eLdO ty3 rfl rfl (by assumption)) ?_)
                          refine wl_go rfl rfl (OP.evb rfl rfl (eLt rfl rfl) fun t42 h42 => ?_)
                          refine wl rfl (OP.ev rfl rfl (ePk rfl rfl) ?_)
                          refine wl_nil ?_
                          cases t42 with
                          | true =>
                            try have c_t42 := dt h42
                            first
                            | (exfalso; omega)
                            | (
                              refine wc_then rfl ?_
                              refine wc_seq ?_
                              refine wc_region ?_
                              refine wl rfl (OP.ev rfl rfl (eMv rfl) ?_)
                              refine wl rfl (OP.ev rfl rfl (eMv rfl) ?_)
                              refine wl rfl (OP.ev rfl rfl (eMv rfl) ?_)
                              refine wl rfl (OP.ev rfl rfl (eBuL (cells := [_, .int .i64 0, _, .int .i64 0, .int .i64 0, .int .i64 0, .int .i64 0, .int .i64 0, .int .i64 0, .int .i64 0, .int .i64 0]) ty35 pl35 rfl rfl) ?_)
                              refine wl rfl (oBSw (vs := [_]) rfl ty26 ty35 rfl rfl rfl rfl rfl rfl fun b48 => ?_)
                              refine wl rfl (oApp (m := 1) (news := (sC (newSeat a)).toList) rfl ty26 ty35 rfl rfl rfl hrow5 (by repeat (first | exact At.cell | exact At.h | apply At.t | apply At.a)) (Rs.mk (Rc.of_has (by repeat (first | exact Has.h | apply Has.t | apply Has.app)) rfl) rfl (Nat.le_refl _)) rfl (by omega) (by omega) ?_)
                              clear hrow5
                              rintro v5 cs5 hrow5 _
                              rw [← hfl, ← flat_app, show out.length + 1 = (out ++ [newSeat a]).length by simp] at hrow5
                              have hop := hop.now hs c_t42
                              have hol : (out ++ [newSeat a]).length ≤ l.length + 2 := by simp; omega
                              generalize out ++ [newSeat a] = out at *
                              refine wl rfl (OP.ev rfl rfl (eAs rfl) ?_)
                              refine wl_nil ?_
                              refine wc_region ?_
                              refine wl rfl (OP.ev rfl rfl (eAs rfl) ?_)
                              refine wl_nil ?_
                              have hop' := hop
                              refine wc_region ?_
                              refine wl rfl (OP.ev rfl rfl (eMv rfl) ?_)
                              first | refine wl rfl (OP.ev rfl rfl (eLdW ty35 rfl rfl (by repeat (first | exact Has.h | apply Has.t | apply Has.app)) (by rfl)) ?_) | refine wl rfl (OP.ev rfl rfl (eLdA (vs := [_, _, _, _, _, _, _, _, _, _, _]) ty35 rfl rfl (by repeat (first | exact Has.h | apply Has.t | apply Has.app)) (by rfl) (by rfl)) ?_) | refine wl rfl (OP.ev rfl rfl (eLdAO ty35 rfl rfl (by assumption) (by assumption)) ?_)
                              refine wl rfl (oBSw (vs := [_]) rfl ty26 ty35 rfl rfl rfl rfl rfl rfl fun b52 => ?_)
                              refine wl rfl (oApp (m := 1) (news := (sC s).toList) rfl ty26 ty35 rfl rfl rfl hrow5 (by repeat (first | exact At.cell | exact At.h | apply At.t | apply At.a)) (Rs.mk (Rc.of_has (by repeat (first | exact Has.h | apply Has.t | apply Has.app)) rfl) rfl (Nat.le_refl _)) rfl (by omega) (by omega) ?_)
                              rintro v5' cs5' hrow5' _
                              rw [← hfl, ← flat_app, show out.length + 1 = (out ++ [s]).length by simp] at hrow5'
                              refine wl rfl (OP.ev rfl rfl (eAs rfl) ?_)
                              refine wl_nil ?_
                              refine wc_region ?_
                              first | refine wl rfl (OP.ev rfl rfl (eAdd rfl rfl (by omega)) ?_) | refine wl rfl (OP.ev rfl rfl (eAddW rfl rfl) ?_)
                              refine wl rfl (OP.ev rfl rfl (eMv rfl) ?_)
                              refine wl_nil ?_
                              first | exact ⟨(i + 1, true, out ++ [s], v5', cs5'), ⟨by show i + 1 ≤ _; omega, hop', hrow5'⟩, by show _ - (i + 1) < _; omega, ⟨rfl, rfl, rfl, rfl, rfl, rfl, rfl, trivial⟩, (by repeat (first | exact Sel.all | exact Sel.none | (apply Sel.one; · repeat (first | exact Pick.h | apply Pick.t | apply Pick.app)) | apply Sel.app | (with_reducible apply Sel.grp; · repeat (first | exact PickF.h | apply PickF.t | apply PickF.a)) | (with_reducible refine Sel.nilF (by with_unfolding_all rfl) ?_) | apply Sel.drop | apply Sel.dropF))⟩ | exact ⟨(i + 1, true, out ++ [s], v5', cs5'), ⟨by show i + 1 ≤ _; omega, hop.late hs, hrow5'⟩, by show _ - (i + 1) < _; omega, ⟨rfl, rfl, rfl, rfl, rfl, rfl, rfl, trivial⟩, (by repeat (first | exact Sel.all | exact Sel.none | (apply Sel.one; · repeat (first | exact Pick.h | apply Pick.t | apply Pick.app)) | apply Sel.app | (with_reducible apply Sel.grp; · repeat (first | exact PickF.h | apply PickF.t | apply PickF.a)) | (with_reducible refine Sel.nilF (by with_unfolding_all rfl) ?_) | apply Sel.drop | apply Sel.dropF))⟩ | exact ⟨(i + 1, false, out ++ [s], v5', cs5'), ⟨by show i + 1 ≤ _; omega, hop.skip hs c_t42, hrow5'⟩, by show _ - (i + 1) < _; omega, ⟨rfl, rfl, rfl, rfl, rfl, rfl, rfl, trivial⟩, (by repeat (first | exact Sel.all | exact Sel.none | (apply Sel.one; · repeat (first | exact Pick.h | apply Pick.t | apply Pick.app)) | apply Sel.app | (with_reducible apply Sel.grp; · repeat (first | exact PickF.h | apply PickF.t | apply PickF.a)) | (with_reducible refine Sel.nilF (by with_unfolding_all rfl) ?_) | apply Sel.drop | apply Sel.dropF))⟩)
                          | false =>
                            try have c_t42 := df h42
                            first
                            | (exfalso; omega)
                            | (
                              refine wc_else rfl ?_
                              refine wc_skip ?_
                              refine wc_region ?_
                              refine wl rfl (OP.ev rfl rfl (eMv rfl) ?_)
                              first | refine wl rfl (OP.ev rfl rfl (eLdW ty35 rfl rfl (by repeat (first | exact Has.h | apply Has.t | apply Has.app)) (by rfl)) ?_) | refine wl rfl (OP.ev rfl rfl (eLdA (vs := [_, _, _, _, _, _, _, _, _, _, _]) ty35 rfl rfl (by repeat (first | exact Has.h | apply Has.t | apply Has.app)) (by rfl) (by rfl)) ?_) | refine wl rfl (OP.ev rfl rfl (eLdAO ty35 rfl rfl (by assumption) (by assumption)) ?_)
                              refine wl rfl (oBSw (vs := [_]) rfl ty26 ty35 rfl rfl rfl rfl rfl rfl fun b52 => ?_)
                              refine wl rfl (oApp (m := 1) (news := (sC s).toList) rfl ty26 ty35 rfl rfl rfl hrow5 (by repeat (first | exact At.cell | exact At.h | apply At.t | apply At.a)) (Rs.mk (Rc.of_has (by repeat (first | exact Has.h | apply Has.t | apply Has.app)) rfl) rfl (Nat.le_refl _)) rfl (by omega) (by omega) ?_)
                              rintro v5' cs5' hrow5' _
                              rw [← hfl, ← flat_app, show out.length + 1 = (out ++ [s]).length by simp] at hrow5'
                              refine wl rfl (OP.ev rfl rfl (eAs rfl) ?_)
                              refine wl_nil ?_
                              refine wc_region ?_
                              first | refine wl rfl (OP.ev rfl rfl (eAdd rfl rfl (by omega)) ?_) | refine wl rfl (OP.ev rfl rfl (eAddW rfl rfl) ?_)
                              refine wl rfl (OP.ev rfl rfl (eMv rfl) ?_)
                              refine wl_nil ?_
                              first | exact ⟨(i + 1, true, out ++ [s], v5', cs5'), ⟨by show i + 1 ≤ _; omega, hop', hrow5'⟩, by show _ - (i + 1) < _; omega, ⟨rfl, rfl, rfl, rfl, rfl, rfl, rfl, trivial⟩, (by repeat (first | exact Sel.all | exact Sel.none | (apply Sel.one; · repeat (first | exact Pick.h | apply Pick.t | apply Pick.app)) | apply Sel.app | (with_reducible apply Sel.grp; · repeat (first | exact PickF.h | apply PickF.t | apply PickF.a)) | (with_reducible refine Sel.nilF (by with_unfolding_all rfl) ?_) | apply Sel.drop | apply Sel.dropF))⟩ | exact ⟨(i + 1, true, out ++ [s], v5', cs5'), ⟨by show i + 1 ≤ _; omega, hop.late hs, hrow5'⟩, by show _ - (i + 1) < _; omega, ⟨rfl, rfl, rfl, rfl, rfl, rfl, rfl, trivial⟩, (by repeat (first | exact Sel.all | exact Sel.none | (apply Sel.one; · repeat (first | exact Pick.h | apply Pick.t | apply Pick.app)) | apply Sel.app | (with_reducible apply Sel.grp; · repeat (first | exact PickF.h | apply PickF.t | apply PickF.a)) | (with_reducible refine Sel.nilF (by with_unfolding_all rfl) ?_) | apply Sel.drop | apply Sel.dropF))⟩ | exact ⟨(i + 1, false, out ++ [s], v5', cs5'), ⟨by show i + 1 ≤ _; omega, hop.skip hs c_t42, hrow5'⟩, by show _ - (i + 1) < _; omega, ⟨rfl, rfl, rfl, rfl, rfl, rfl, rfl, trivial⟩, (by repeat (first | exact Sel.all | exact Sel.none | (apply Sel.one; · repeat (first | exact Pick.h | apply Pick.t | apply Pick.app)) | apply Sel.app | (with_reducible apply Sel.grp; · repeat (first | exact PickF.h | apply PickF.t | apply PickF.a)) | (with_reducible refine Sel.nilF (by with_unfolding_all rfl) ?_) | apply Sel.drop | apply Sel.dropF))⟩)))
                  | false =>
                    try have c_t33 := df h33
                    first
                    | (exfalso; omega)
                    | (
                      refine wc_else rfl ?_
                      refine wc_exit rfl ?_
                      refine wc_seq ?_
                      refine wc_seq ?_
                      have hi : i = l.length := by omega
                      have hol := hop.len (by omega)
                      refine wc_region ?_
                      refine wl rfl (OP.ev rfl rfl (eMv rfl) ?_)
                      refine wl rfl (OP.ev rfl rfl (eNot rfl) ?_)
                      refine wl_nil ?_
                      cases dn with
                      | true =>
                        first
                        | (exfalso; omega)
                        | (
                          refine wc_else rfl ?_
                          refine wc_skip ?_
                          refine wc_seq ?_
                          refine wc_region ?_
                          refine wl rfl (OP.ev rfl rfl (eMv rfl) ?_)
                          refine wl rfl (OP.ev rfl rfl (eMv rfl) ?_)
                          refine wl rfl (OP.ev rfl rfl (eNil rfl) ?_)
                          refine wl rfl (OP.ev rfl rfl (eFld 0 ty55 rfl rfl ty26 rfl) ?_)
                          refine wl rfl (oSt ty26 rfl rfl hrow5.one rfl (by repeat (first | exact Upd.h | apply Upd.t | apply Upd.app)) (by simp) (by rfl) ?_)
                          refine wl_nil ?_
                          refine wc_seq ?_
                          refine wc_region ?_
                          refine wl rfl (OP.ev rfl rfl (eAs rfl) ?_)
                          refine wl_nil ?_
                          refine wc_ret ?_
                          apply at_ret rfl
                          · exact (.cons (.tmp rfl) .nil)
                          · repeat (first | rw [if_pos (by omega)] at e | rw [if_neg (by omega)] at e)
                            first | exact ⟨_, _, v, cs, e, rfl, hrow, rfl⟩ | exact ⟨_, _, v5, cs5, e, rfl, hop.finLate hi hrow5, rfl⟩ | exact ⟨_, _, v5, cs5, e, rfl, hop.fin hi hrow5, rfl⟩
                          · exact (by repeat (first | exact Sel.all | exact Sel.none | (apply Sel.one; · repeat (first | exact Pick.h | apply Pick.t | apply Pick.app)) | apply Sel.app | (with_reducible apply Sel.grp; · repeat (first | exact PickF.h | apply PickF.t | apply PickF.a)) | (with_reducible refine Sel.nilF (by with_unfolding_all rfl) ?_) | apply Sel.drop | apply Sel.dropF)))
                      | false =>
                        first
                        | (exfalso; omega)
                        | (
                          refine wc_then rfl ?_
                          refine wc_region ?_
                          refine wl rfl (OP.ev rfl rfl (eMv rfl) ?_)
                          refine wl rfl (OP.ev rfl rfl (eMv rfl) ?_)
                          refine wl rfl (OP.ev rfl rfl (eMv rfl) ?_)
                          refine wl rfl (OP.ev rfl rfl (eBuL (cells := [_, .int .i64 0, _, .int .i64 0, .int .i64 0, .int .i64 0, .int .i64 0, .int .i64 0, .int .i64 0, .int .i64 0, .int .i64 0]) ty35 pl35 rfl rfl) ?_)
                          refine wl rfl (oBSw (vs := [_]) rfl ty26 ty35 rfl rfl rfl rfl rfl rfl fun b61 => ?_)
                          refine wl rfl (oApp (m := 1) (news := (sC (newSeat a)).toList) rfl ty26 ty35 rfl rfl rfl hrow5 (by repeat (first | exact At.cell | exact At.h | apply At.t | apply At.a)) (Rs.mk (Rc.of_has (by repeat (first | exact Has.h | apply Has.t | apply Has.app)) rfl) rfl (Nat.le_refl _)) rfl (by omega) (by omega) ?_)
                          clear hrow5
                          rintro v5 cs5 hrow5 _
                          rw [← hfl, ← flat_app, show out.length + 1 = (out ++ [newSeat a]).length by simp] at hrow5
                          refine wl rfl (OP.ev rfl rfl (eAs rfl) ?_)
                          refine wl_nil ?_
                          refine wc_seq ?_
                          refine wc_region ?_
                          refine wl rfl (OP.ev rfl rfl (eMv rfl) ?_)
                          refine wl rfl (OP.ev rfl rfl (eMv rfl) ?_)
                          refine wl rfl (OP.ev rfl rfl (eNil rfl) ?_)
                          refine wl rfl (OP.ev rfl rfl (eFld 0 ty55 rfl rfl ty26 rfl) ?_)
                          refine wl rfl (oSt ty26 rfl rfl hrow5.one rfl (by repeat (first | exact Upd.h | apply Upd.t | apply Upd.app)) (by simp) (by rfl) ?_)
                          refine wl_nil ?_
                          refine wc_seq ?_
                          refine wc_region ?_
                          refine wl rfl (OP.ev rfl rfl (eAs rfl) ?_)
                          refine wl_nil ?_
                          refine wc_ret ?_
                          apply at_ret rfl
                          · exact (.cons (.tmp rfl) .nil)
                          · repeat (first | rw [if_pos (by omega)] at e | rw [if_neg (by omega)] at e)
                            first | exact ⟨_, _, v, cs, e, rfl, hrow, rfl⟩ | exact ⟨_, _, v5, cs5, e, rfl, hop.finLate hi hrow5, rfl⟩ | exact ⟨_, _, v5, cs5, e, rfl, hop.fin hi hrow5, rfl⟩
                          · exact (by repeat (first | exact Sel.all | exact Sel.none | (apply Sel.one; · repeat (first | exact Pick.h | apply Pick.t | apply Pick.app)) | apply Sel.app | (with_reducible apply Sel.grp; · repeat (first | exact PickF.h | apply PickF.t | apply PickF.a)) | (with_reducible refine Sel.nilF (by with_unfolding_all rfl) ?_) | apply Sel.drop | apply Sel.dropF))))))))
end Go.Proofs.Ytbppeijcfkdhjaa
