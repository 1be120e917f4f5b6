/- wire.Over, and what is read off an image. -/
import Derived.Test.YtbppeijcfkdhjaaSeat
import Derived.Test.YtbppeijcfkdhjaaSim
namespace Go.Proofs.Ytbppeijcfkdhjaa
open Go Eng
set_option linter.unusedVariables false
set_option maxRecDepth 4000
variable {W0 : World}

theorem Eng.Row.isSlice {v : Value} {cs : Array Value} {sz k : Nat} {xs : List Value} (h : Row v cs sz k xs) : ∃ ad k' c, v = .slice ad k' c := by
  rcases h.2 with ⟨rfl, _⟩ | ⟨b, cap, rfl, _⟩
  · exact ⟨_, _, _, rfl⟩
  · exact ⟨_, _, _, rfl⟩

theorem over_ok (v : Value) (B : List Int) (R : Heap) (hv : Rs W0 R v 1 B.length (byteV B)) (hl : B.length ≤ 35184372088832) :
    FnC W0 Try.prog 40 #[v] R (fun v' L' => ∃ b8 b7 w cs, v' = ptr b8 ∧ Row w cs 1 B.length (byteV B) ∧ L' = sA b8 b7 0 :: sS b7 w 0 :: (ownH w cs 5 ++ R)) := by
  obtain ⟨ad0, k0, c0, rfl⟩ := hv.isSlice
  refine fn_of Try.func40 rfl Try.ntmps40 rfl rfl ?_
  refine wc_seq ?_
  refine wc_region ?_
  refine wl rfl (OP.ev rfl rfl (eAs rfl) ?_)
  refine wl_nil ?_
  refine wc_seq ?_
  refine wc_region ?_
  refine wl rfl (OP.ev rfl rfl (eMv rfl) ?_)
  refine wl rfl (oBSw (vs := [_]) rfl ty106 ty49 rfl rfl rfl rfl rfl rfl fun b4 => ?_)
  refine wl rfl (oC (L1 := _) rfl pf48 rfl (join_ok _ [(.slice ad0 k0 c0, B)] _ (Rs.mk (Rc.of_has (by repeat (first | exact Has.h | apply Has.t | apply Has.app)) rfl) rfl (Nat.le_refl _)) ?hr (by simp) (by simp [parts]; omega)) Sel.all ?_)
  case hr =>
    intro p hp
    simp at hp
    subst hp
    exact hv.sel (by repeat (first | exact Sel.all | exact Sel.none | (apply Sel.one; · repeat (first | exact Pick.h | apply Pick.t | apply Pick.app)) | apply Sel.app | (with_reducible apply Sel.grp; · repeat (first | exact PickF.h | apply PickF.t | apply PickF.a)) | (with_reducible refine Sel.nilF (by with_unfolding_all rfl) ?_) | apply Sel.drop | apply Sel.dropF))
  rintro v5 _ ⟨cs5, hrow5, rfl⟩
  simp only [parts, List.flatMap_cons, List.flatMap_nil, List.append_nil] at hrow5
  obtain ⟨ad5, k5, c5, rfl⟩ := hrow5.isSlice
  refine wl rfl (OP.ev rfl rfl (eBuL (cells := [_, .int .i64 0]) ty99 pl99 rfl rfl) ?_)
  refine wl rfl (oBox rfl rfl rfl fun b7 => ?_)
  refine wl rfl (OP.ev rfl rfl (eBuL (cells := [_, .int .i64 0]) ty101 pl101 rfl rfl) ?_)
  refine wl rfl (oBox rfl rfl rfl fun b9 => ?_)
  refine wl rfl (OP.ev rfl rfl (eAs rfl) ?_)
  refine wl_nil ?_
  refine wc_ret ?_
  apply at_ret rfl
  · exact (.cons (.tmp rfl) .nil)
  · exact ⟨b9, b7, _, cs5, rfl, hrow5, rfl⟩
  · exact (by repeat (first | exact Sel.all | exact Sel.none | (apply Sel.one; · repeat (first | exact Pick.h | apply Pick.t | apply Pick.app)) | apply Sel.app | (with_reducible apply Sel.grp; · repeat (first | exact PickF.h | apply PickF.t | apply PickF.a)) | (with_reducible refine Sel.nilF (by with_unfolding_all rfl) ?_) | apply Sel.drop | apply Sel.dropF))

/-- a list of seats that an image may be of -/
def Valid (L : List Seat) : Prop := L.length ≤ 8 ∧ (∀ s ∈ L, SeatOk s.session s) ∧ L.Pairwise (fun a b => a.session < b.session)

theorem drop_of {B : List Int} {k : Nat} {a t : List Int} (h : B.drop k = a ++ t) : B.drop (k + a.length) = t := by
  rw [← List.drop_drop, h, List.drop_left]

theorem numK_dg {B : List Int} {k : Nat} {x : Int} {t : List Int} (h : B.drop k = dg x.toNat ++ t) (h0 : 0 ≤ x) (h1 : x < 9223372036854775808) : numK B k 0 = (x, k + (dg x.toNat).length, 0) := by
  have h2 := rd_dg (show x.toNat < 9223372036854775808 by omega) t
  rw [← h] at h2
  rw [numK_good h2]
  congr 1; omega

theorem rdK_img {B : List Int} {k : Nat} {xs t : List Int} (hx : ∀ x ∈ xs, 0 ≤ x ∧ x < 9223372036854775808) (h : B.drop k = numB xs ++ t) : rdK B k 0 xs.length = (xs, k + (numB xs).length, 0) := by
  have key : ∀ j, j ≤ xs.length → rdK B k 0 j = (xs.take j, k + (numB (xs.take j)).length, 0) := by
    intro j
    induction j with
    | zero => intro _; simp [rdK, numB]
    | succ j ih =>
      intro hj
      have hg : xs[j]? = some (xs[j]'(by omega)) := List.getElem?_eq_getElem (by omega)
      have hsplit : xs = xs.take j ++ xs[j]'(by omega) :: xs.drop (j + 1) := by rw [← List.drop_eq_getElem_cons (by omega), List.take_append_drop]
      have hd : B.drop (k + (numB (xs.take j)).length) = dg (xs[j]'(by omega)).toNat ++ (numB (xs.drop (j + 1)) ++ t) := by
        refine drop_of ?_
        rw [h]
        conv => lhs; rw [hsplit]
        rw [numB_app, List.append_assoc]
        congr 1
        show numB ([xs[j]'(by omega)] ++ xs.drop (j + 1)) ++ t = _
        rw [numB_app, numB_one, List.append_assoc]
      obtain ⟨g1, g2⟩ := hx _ (List.getElem_mem (show j < xs.length by omega))
      have h4 := rdK_next (ih (by omega)) (numK_dg hd g1 g2)
      rw [h4, List.take_add_one, hg]
      simp only [Option.toList_some]
      rw [numB_app, numB_one, List.length_append, Nat.add_assoc]
  have := key xs.length (Nat.le_refl _)
  rwa [List.take_length] at this

theorem rdK_err {B : List Int} {k : Nat} {e : Int} (he : e ≠ 0) : ∀ j, (rdK B k e j).2 = (k, e) := by
  intro j
  induction j with
  | zero => rfl
  | succ j ih => simp only [rdK, ih, numK_err he]

theorem numK_zero {B : List Int} (hB : IsB B) {k k' : Nat} {e x : Int} (hk : k ≤ B.length) (h : numK B k e = (x, k', 0)) : e = 0 ∧ B.take k' = B.take k ++ dg x.toNat ∧ k' ≤ B.length ∧ k + 1 ≤ k' ∧ 0 ≤ x ∧ x < 9223372036854775808 := by
  unfold numK at h
  split at h
  · rename_i he
    simp only [Prod.mk.injEq] at h
    exact absurd h.2.2 he
  · rename_i he
    split at h
    · rename_i h2
      simp only [Prod.mk.injEq] at h
      obtain ⟨rfl, rfl, _⟩ := h
      have hd : IsB (B.drop k) := fun y hy => hB y (List.mem_of_mem_drop hy)
      obtain ⟨g1, g2, g3, g4, g5⟩ := rd_ok hd (v := (rd (B.drop k)).1) (k := (rd (B.drop k)).2.1) (by rw [← h2])
      rw [List.length_drop] at g2
      exact ⟨by simpa using he, by rw [List.take_add, g5], by omega, by omega, g3, g4⟩
    · rename_i h2
      simp only [Prod.mk.injEq] at h
      exact absurd h.2.2 h2

theorem rdK_zero {B : List Int} (hB : IsB B) {k : Nat} {e : Int} (hk : k ≤ B.length) : ∀ {j : Nat} {xs : List Int} {k' : Nat}, rdK B k e j = (xs, k', 0) → e = 0 ∧ B.take k' = B.take k ++ numB xs ∧ k' ≤ B.length ∧ k + j ≤ k' ∧ (∀ x ∈ xs, 0 ≤ x ∧ x < 9223372036854775808) := by
  intro j
  induction j with
  | zero => intro xs k' h; simp only [rdK, Prod.mk.injEq] at h; obtain ⟨rfl, rfl, rfl⟩ := h; exact ⟨rfl, by simp [numB], hk, Nat.le_refl _, by simp⟩
  | succ j ih =>
    intro xs k' h
    obtain ⟨ys, k1, e1, h1⟩ : ∃ ys k1 e1, rdK B k e j = (ys, k1, e1) := ⟨_, _, _, rfl⟩
    obtain ⟨x, k2, e2, h2⟩ : ∃ x k2 e2, numK B k1 e1 = (x, k2, e2) := ⟨_, _, _, rfl⟩
    rw [rdK_next h1 h2] at h
    simp only [Prod.mk.injEq] at h
    obtain ⟨rfl, rfl, rfl⟩ := h
    have hk1 : k1 ≤ B.length := by
      have : ∀ j, (rdK B k e j).2.1 ≤ B.length := by
        intro j
        induction j with
        | zero => exact hk
        | succ j ih2 =>
          simp only [rdK]
          exact (numK_le hB ih2 (x := (numK B (rdK B k e j).2.1 (rdK B k e j).2.2).1) (k' := (numK B (rdK B k e j).2.1 (rdK B k e j).2.2).2.1) (e' := (numK B (rdK B k e j).2.1 (rdK B k e j).2.2).2.2) rfl).2.1
      have := this j
      rw [h1] at this; exact this
    obtain ⟨g1, g2, g3, g4, g5, g6⟩ := numK_zero hB hk1 h2
    subst g1
    obtain ⟨f1, f2, f3, f4, f5⟩ := ih h1
    refine ⟨f1, by rw [g2, f2, numB_app, numB_one, List.append_assoc], g3, by omega, fun y hy => ?_⟩
    rcases List.mem_append.1 hy with hy | hy
    · exact f5 y hy
    · simp at hy; subst hy; exact ⟨g5, g6⟩
end Go.Proofs.Ytbppeijcfkdhjaa
