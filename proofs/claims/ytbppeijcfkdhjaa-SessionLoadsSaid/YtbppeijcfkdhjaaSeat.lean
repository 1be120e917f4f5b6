/- The contracts of wire.Over and of the package session's seat. -/
import Derived.Test.YtbppeijcfkdhjaaScan
import Derived.Test.YtbppeijcfkdhjaaRef
namespace Go.Proofs.Ytbppeijcfkdhjaa
open Go Eng
set_option linter.unusedVariables false
set_option maxRecDepth 4000
variable {W0 : World}

theorem numK_le {B : List Int} (hB : IsB B) {k k' : Nat} {e e' x : Int} (hk : k ≤ B.length) (h : numK B k e = (x, k', e')) : k ≤ k' ∧ k' ≤ B.length ∧ 0 ≤ x ∧ x < 9223372036854775808 := by
  unfold numK at h
  split at h
  · simp only [Prod.mk.injEq] at h; obtain ⟨rfl, rfl, _⟩ := h; exact ⟨Nat.le_refl _, hk, Int.le_refl _, by decide⟩
  · split at h
    · rename_i h2
      simp only [Prod.mk.injEq] at h
      obtain ⟨rfl, rfl, _⟩ := h
      have hd : IsB (B.drop k) := fun y hy => hB y (List.mem_of_mem_drop hy)
      have h3 := rd_ok hd (v := (rd (B.drop k)).1) (k := (rd (B.drop k)).2.1) (by rw [← h2])
      rw [List.length_drop] at h3
      omega
    · simp only [Prod.mk.injEq] at h; obtain ⟨rfl, rfl, _⟩ := h; exact ⟨Nat.le_refl _, hk, Int.le_refl _, by decide⟩

/-- some numbers of a scan, one behind the other -/
def rdK (B : List Int) (k : Nat) (e : Int) : Nat → List Int × Nat × Int
  | 0 => ([], k, e)
  | j + 1 => ((rdK B k e j).1 ++ [(numK B (rdK B k e j).2.1 (rdK B k e j).2.2).1], (numK B (rdK B k e j).2.1 (rdK B k e j).2.2).2)
theorem rdK_next {B : List Int} {k : Nat} {e : Int} {j : Nat} {xs : List Int} {k1 k2 : Nat} {e1 e2 x : Int} (h : rdK B k e j = (xs, k1, e1)) (h2 : numK B k1 e1 = (x, k2, e2)) : rdK B k e (j + 1) = (xs ++ [x], k2, e2) := by
  simp only [rdK, h, h2]

def ofN : List Int → Seat
  | [a0, a1, a2, a3, a4, a5, a6, a7, a8, a9, a10] => ⟨a0, a1, a2, ⟨a3, a4, a5, a6, a7, a8, a9, a10⟩⟩
  | _ => s0
theorem ofN_cells {xs : List Int} (h : xs.length = 11) : (i64V xs).toArray = sC (ofN xs) ∧ numsOf (ofN xs) = xs := by
  match xs, h with
  | [a0, a1, a2, a3, a4, a5, a6, a7, a8, a9, a10], _ => exact ⟨rfl, rfl⟩

def pad (xs : List Int) : Array Value := (i64V (xs ++ List.replicate (11 - xs.length) 0)).toArray
theorem pad_size {xs : List Int} (h : xs.length ≤ 11) : (pad xs).size = 11 := by simp [pad, i64V]; omega
theorem pad_set {xs : List Int} (h : xs.length < 11) (x : Int) : (pad xs).setIfInBounds xs.length (.int .i64 x) = pad (xs ++ [x]) := by
  apply Array.ext'
  rw [Array.toList_setIfInBounds]
  unfold pad i64V
  have e1 : List.replicate (11 - xs.length) (0 : Int) = 0 :: List.replicate (11 - (xs ++ [x]).length) 0 := by
    rw [show 11 - xs.length = (11 - (xs ++ [x]).length) + 1 by simp; omega, List.replicate_succ]
  rw [e1]
  simp
theorem pad_nil : pad [] = sC s0 := rfl
theorem pad_full {xs : List Int} (h : xs.length = 11) : pad xs = sC (ofN xs) := by
  unfold pad; rw [h]; simpa using (ofN_cells h).1

theorem seat_ok (b8 b7 : Nat) (e : Int) (v : Value) (cs : Array Value) (B : List Int) (k : Nat) (hB : IsB B) (hrow : Row v cs 1 B.length (byteV B)) (hk : k ≤ B.length) (hl : B.length ≤ 35184372088832) (R : Heap) :
    FnC W0 Try.prog 43 #[ptr b8] (sA b8 b7 e :: sS b7 v k :: (ownH v cs 5 ++ R)) (fun v' L' => ∃ xs k' e', rdK B k e 11 = (xs, k', e') ∧ xs.length = 11 ∧ k ≤ k' ∧ k' ≤ B.length ∧ v' = sV (ofN xs) ∧ L' = sA b8 b7 e' :: sS b7 v k' :: (ownH v cs 5 ++ R)) := by
  refine fn_of Try.func43 rfl Try.ntmps43 rfl rfl ?_
  refine wc_seq ?_
  refine wc_region ?_
  refine wl rfl (oAl rfl ty35 rfl fun b2 => ?_)
  refine wl_nil ?_
  refine wc_seq ?_
  refine wc_region ?_
  refine wl rfl (oAl rfl ty35 rfl fun b3 => ?_)
  refine wl_nil ?_
  refine wc_seq ?_
  refine wc_seq ?_
  refine wc_region ?_
  refine wl rfl (oC rfl pf35 rfl (numbers_ok b3 s0 _) (by repeat (first | exact Sel.all | exact Sel.none | (apply Sel.one; · repeat (first | exact Pick.h | apply Pick.t | apply Pick.app)) | apply Sel.app | (with_reducible apply Sel.grp; · repeat (first | exact PickF.h | apply PickF.t | apply PickF.a)) | (with_reducible refine Sel.nilF (by with_unfolding_all rfl) ?_) | apply Sel.drop | apply Sel.dropF)) ?_)
  rintro _ _ ⟨b1, bs, rfl, rfl⟩
  refine wl rfl (OP.ev rfl rfl (eLenS ty75 rfl) ?_)
  refine wl rfl (OP.ev rfl rfl (eMv rfl) ?_)
  refine wl_nil ?_
  refine wc_block ?_
  refine wc_loop (σ := List Int × Nat × Int × Int) (fun q => [(0, ptr b8), (2, ptr b2), (3, ptr b3), (7, .slice (some ⟨bs, 0, none⟩) 11 11), (8, i64 11), (9, i64 (q.1.length : Int))]) (fun q => (b2, .cells (sC s0) 35 (0, 0)) :: (bs, .cells (numCells b3 b1).toArray 78 (0, 0)) :: nC b1 q.2.2.2 :: (b3, .cells (pad q.1) 35 (0, 0)) :: sA b8 b7 q.2.2.1 :: sS b7 v q.2.1 :: (ownH v cs 5 ++ R)) (fun q => q.1.length ≤ 11 ∧ k ≤ q.2.1 ∧ q.2.1 ≤ B.length ∧ rdK B k e q.1.length = (q.1, q.2.1, q.2.2.1)) (fun q => 11 - q.1.length) ([], k, e, 0) ⟨by simp, Nat.le_refl _, hk, rfl⟩ ⟨rfl, rfl, rfl, rfl, rfl, rfl, trivial⟩ (by repeat (first | exact Sel.all | exact Sel.none | (apply Sel.one; · repeat (first | exact Pick.h | apply Pick.t | apply Pick.app)) | apply Sel.app | (with_reducible apply Sel.grp; · repeat (first | exact PickF.h | apply PickF.t | apply PickF.a)) | (with_reducible refine Sel.nilF (by with_unfolding_all rfl) ?_) | apply Sel.drop | apply Sel.dropF)) ?_
  rintro ⟨xs, k1, e1, y1⟩ ⟨hx11, hk1, hk2, hrd⟩
  dsimp only at hx11 hk1 hk2 hrd ⊢
  refine wc_seq ?_
  refine wc_region ?_
  refine wl rfl (OP.evb rfl rfl (eLt rfl rfl) fun t10 h10 => ?_)
  refine wl_nil ?_
  refine wc_seq ?_
  cases t10 with
  | true =>
    try have c_t10 := dt h10
    first
    | (exfalso; omega)
    | (
      refine wc_then rfl ?_
      refine wc_skip ?_
      refine wc_seq ?_
      refine wc_block ?_
      refine wc_seq ?_
      obtain ⟨p, hp, hcase⟩ : ∃ p, (numCells b3 b1)[xs.length]? = some p ∧ ((xs.length = 3 ∧ p = ptr b1) ∨ (xs.length ≠ 3 ∧ p = .pointer (some ⟨b3, xs.length, none⟩))) := by
        generalize xs.length = i at *
        match i, (show i < 11 by omega) with
        | 0, _ => exact ⟨_, rfl, .inr ⟨by decide, rfl⟩⟩
        | 1, _ => exact ⟨_, rfl, .inr ⟨by decide, rfl⟩⟩
        | 2, _ => exact ⟨_, rfl, .inr ⟨by decide, rfl⟩⟩
        | 3, _ => exact ⟨_, rfl, .inl ⟨by decide, rfl⟩⟩
        | 4, _ => exact ⟨_, rfl, .inr ⟨by decide, rfl⟩⟩
        | 5, _ => exact ⟨_, rfl, .inr ⟨by decide, rfl⟩⟩
        | 6, _ => exact ⟨_, rfl, .inr ⟨by decide, rfl⟩⟩
        | 7, _ => exact ⟨_, rfl, .inr ⟨by decide, rfl⟩⟩
        | 8, _ => exact ⟨_, rfl, .inr ⟨by decide, rfl⟩⟩
        | 9, _ => exact ⟨_, rfl, .inr ⟨by decide, rfl⟩⟩
        | 10, _ => exact ⟨_, rfl, .inr ⟨by decide, rfl⟩⟩
      refine wc_region ?_
      refine wl rfl (OP.ev rfl rfl (eMv rfl) ?_)
      refine wl rfl (OP.ev rfl rfl (eIx ty75 ty78 rfl rfl (by omega) (by omega)) ?_)
      refine wl rfl (OP.ev rfl rfl (eLdR (off := 0) (cells := numCells b3 b1) ty78 rfl rfl (Rc.of_has (by repeat (first | exact Has.h | apply Has.t | apply Has.app)) rfl) xs.length (by simp) hp) ?_)
      refine wl rfl (OP.ev rfl rfl (eAs rfl) ?_)
      refine wl rfl (OP.ev rfl rfl (eAs rfl) ?_)
      refine wl_nil ?_
      refine wc_seq ?_
      refine wc_region ?_
      refine wl rfl (OP.ev rfl rfl (eMv rfl) ?_)
      refine wl rfl (oC rfl pf41 rfl (snumber_ok b8 b7 e1 v cs B k1 hB hrow hk2 hl _) (by repeat (first | exact Sel.all | exact Sel.none | (apply Sel.one; · repeat (first | exact Pick.h | apply Pick.t | apply Pick.app)) | apply Sel.app | (with_reducible apply Sel.grp; · repeat (first | exact PickF.h | apply PickF.t | apply PickF.a)) | (with_reducible refine Sel.nilF (by with_unfolding_all rfl) ?_) | apply Sel.drop | apply Sel.dropF)) ?_)
      rintro _ _ ⟨x, k2, e2, hnum, rfl, rfl⟩
      refine wl rfl (OP.ev rfl rfl (eAs rfl) ?_)
      refine wl_nil ?_
      have hnl := numK_le hB hk2 hnum
      have hrd2 := rdK_next hrd hnum
      have hps := pad_size hx11
      refine wc_seq ?_
      refine wc_region ?_
      rcases hcase with ⟨h3, rfl⟩ | ⟨h3, rfl⟩
      · skip
        refine wl rfl (OP.ev rfl rfl (eMv rfl) ?_)
        refine wl rfl (OP.ev rfl rfl (eMv rfl) ?_)
        refine wl rfl (OP.ev rfl rfl (eNil rfl) ?_)
        first
        | refine wl rfl (oSt (cs := #[.int .i64 y1]) (o' := .cells #[.int .i64 x] 3 (0, 0)) ty3 rfl rfl rfl rfl (by repeat (first | exact Upd.h | apply Upd.t | apply Upd.app)) (by simp) (by rfl) ?_)
        | refine wl rfl (oSt (cs := pad xs) (o' := .cells ((pad xs).setIfInBounds xs.length (.int .i64 x)) 35 (0, 0)) ty3 rfl rfl rfl rfl (by repeat (first | exact Upd.h | apply Upd.t | apply Upd.app)) (by omega) (by simp) ?_)
        refine wl_nil ?_
        refine wc_seq ?_
        refine wc_region ?_
        refine wl rfl (OP.ev rfl rfl (eMv rfl) ?_)
        refine wl rfl (OP.evb rfl rfl (eEq rfl rfl) fun t20 h20 => ?_)
        refine wl_nil ?_
        cases t20 with
        | true =>
          try have c_t20 := dt h20
          first
          | (exfalso; omega)
          | (
            refine wc_then rfl ?_
            refine wc_region ?_
            refine wl rfl (OP.ev rfl rfl (eMv rfl) ?_)
            refine wl rfl (OP.ev rfl rfl (eFld 3 ty35 rfl rfl ty33 rfl) ?_)
            refine wl rfl (OP.ev rfl rfl (eFld 0 ty33 rfl rfl ty29 rfl) ?_)
            refine wl rfl (oSt (cs := pad xs) (o' := .cells ((pad xs).setIfInBounds xs.length (.int .i64 x)) 35 (0, 0)) ty29 rfl rfl rfl (by rw [h3]) (by repeat (first | exact Upd.h | apply Upd.t | apply Upd.app)) (by omega) (by simp) ?_)
            refine wl_nil ?_
            have hpset := pad_set (show xs.length < 11 by omega) x
            try rw [hpset]
            refine wc_region ?_
            first | refine wl rfl (OP.ev rfl rfl (eAdd rfl rfl (by omega)) ?_) | refine wl rfl (OP.ev rfl rfl (eAddW rfl rfl) ?_)
            refine wl rfl (OP.ev rfl rfl (eMv rfl) ?_)
            refine wl_nil ?_
            first | (have h3' : xs.length = 3 := h3; exact ⟨(xs ++ [x], k2, e2, x), ⟨by simp; omega, by show k ≤ k2; omega, by show k2 ≤ _; omega, by simpa using hrd2⟩, by simp; omega, ⟨rfl, rfl, rfl, rfl, rfl, by show some (i64 _) = some (i64 _); congr 2; simp, trivial⟩, (by repeat (first | exact Sel.all | exact Sel.none | (apply Sel.one; · repeat (first | exact Pick.h | apply Pick.t | apply Pick.app)) | apply Sel.app | (with_reducible apply Sel.grp; · repeat (first | exact PickF.h | apply PickF.t | apply PickF.a)) | (with_reducible refine Sel.nilF (by with_unfolding_all rfl) ?_) | apply Sel.drop | apply Sel.dropF))⟩) | exact ⟨(xs ++ [x], k2, e2, y1), ⟨by simp; omega, by show k ≤ k2; omega, by show k2 ≤ _; omega, by simpa using hrd2⟩, by simp; omega, ⟨rfl, rfl, rfl, rfl, rfl, by show some (i64 _) = some (i64 _); congr 2; simp, trivial⟩, (by repeat (first | exact Sel.all | exact Sel.none | (apply Sel.one; · repeat (first | exact Pick.h | apply Pick.t | apply Pick.app)) | apply Sel.app | (with_reducible apply Sel.grp; · repeat (first | exact PickF.h | apply PickF.t | apply PickF.a)) | (with_reducible refine Sel.nilF (by with_unfolding_all rfl) ?_) | apply Sel.drop | apply Sel.dropF))⟩)
        | false =>
          try have c_t20 := df h20
          first
          | (exfalso; omega)
          | (
            refine wc_else rfl ?_
            refine wc_skip ?_
            have hpset := pad_set (show xs.length < 11 by omega) x
            try rw [hpset]
            refine wc_region ?_
            first | refine wl rfl (OP.ev rfl rfl (eAdd rfl rfl (by omega)) ?_) | refine wl rfl (OP.ev rfl rfl (eAddW rfl rfl) ?_)
            refine wl rfl (OP.ev rfl rfl (eMv rfl) ?_)
            refine wl_nil ?_
            first | (have h3' : xs.length = 3 := h3; exact ⟨(xs ++ [x], k2, e2, x), ⟨by simp; omega, by show k ≤ k2; omega, by show k2 ≤ _; omega, by simpa using hrd2⟩, by simp; omega, ⟨rfl, rfl, rfl, rfl, rfl, by show some (i64 _) = some (i64 _); congr 2; simp, trivial⟩, (by repeat (first | exact Sel.all | exact Sel.none | (apply Sel.one; · repeat (first | exact Pick.h | apply Pick.t | apply Pick.app)) | apply Sel.app | (with_reducible apply Sel.grp; · repeat (first | exact PickF.h | apply PickF.t | apply PickF.a)) | (with_reducible refine Sel.nilF (by with_unfolding_all rfl) ?_) | apply Sel.drop | apply Sel.dropF))⟩) | exact ⟨(xs ++ [x], k2, e2, y1), ⟨by simp; omega, by show k ≤ k2; omega, by show k2 ≤ _; omega, by simpa using hrd2⟩, by simp; omega, ⟨rfl, rfl, rfl, rfl, rfl, by show some (i64 _) = some (i64 _); congr 2; simp, trivial⟩, (by repeat (first | exact Sel.all | exact Sel.none | (apply Sel.one; · repeat (first | exact Pick.h | apply Pick.t | apply Pick.app)) | apply Sel.app | (with_reducible apply Sel.grp; · repeat (first | exact PickF.h | apply PickF.t | apply PickF.a)) | (with_reducible refine Sel.nilF (by with_unfolding_all rfl) ?_) | apply Sel.drop | apply Sel.dropF))⟩)
      · skip
        refine wl rfl (OP.ev rfl rfl (eMv rfl) ?_)
        refine wl rfl (OP.ev rfl rfl (eMv rfl) ?_)
        refine wl rfl (OP.ev rfl rfl (eNil rfl) ?_)
        first
        | refine wl rfl (oSt (cs := #[.int .i64 y1]) (o' := .cells #[.int .i64 x] 3 (0, 0)) ty3 rfl rfl rfl rfl (by repeat (first | exact Upd.h | apply Upd.t | apply Upd.app)) (by simp) (by rfl) ?_)
        | refine wl rfl (oSt (cs := pad xs) (o' := .cells ((pad xs).setIfInBounds xs.length (.int .i64 x)) 35 (0, 0)) ty3 rfl rfl rfl rfl (by repeat (first | exact Upd.h | apply Upd.t | apply Upd.app)) (by omega) (by simp) ?_)
        refine wl_nil ?_
        refine wc_seq ?_
        refine wc_region ?_
        refine wl rfl (OP.ev rfl rfl (eMv rfl) ?_)
        refine wl rfl (OP.evb rfl rfl (eEq rfl rfl) fun t20 h20 => ?_)
        refine wl_nil ?_
        cases t20 with
        | true =>
          try have c_t20 := dt h20
          first
          | (exfalso; omega)
          | (
            refine wc_then rfl ?_
            refine wc_region ?_
            refine wl rfl (OP.ev rfl rfl (eMv rfl) ?_)
            refine wl rfl (OP.ev rfl rfl (eFld 3 ty35 rfl rfl ty33 rfl) ?_)
            refine wl rfl (OP.ev rfl rfl (eFld 0 ty33 rfl rfl ty29 rfl) ?_)
            refine wl rfl (oSt (cs := pad xs) (o' := .cells ((pad xs).setIfInBounds xs.length (.int .i64 x)) 35 (0, 0)) ty29 rfl rfl rfl (by rw [h3]) (by repeat (first | exact Upd.h | apply Upd.t | apply Upd.app)) (by omega) (by simp) ?_)
            refine wl_nil ?_
            have hpset := pad_set (show xs.length < 11 by omega) x
            try rw [hpset]
            refine wc_region ?_
            first | refine wl rfl (OP.ev rfl rfl (eAdd rfl rfl (by omega)) ?_) | refine wl rfl (OP.ev rfl rfl (eAddW rfl rfl) ?_)
            refine wl rfl (OP.ev rfl rfl (eMv rfl) ?_)
            refine wl_nil ?_
            first | (have h3' : xs.length = 3 := h3; exact ⟨(xs ++ [x], k2, e2, x), ⟨by simp; omega, by show k ≤ k2; omega, by show k2 ≤ _; omega, by simpa using hrd2⟩, by simp; omega, ⟨rfl, rfl, rfl, rfl, rfl, by show some (i64 _) = some (i64 _); congr 2; simp, trivial⟩, (by repeat (first | exact Sel.all | exact Sel.none | (apply Sel.one; · repeat (first | exact Pick.h | apply Pick.t | apply Pick.app)) | apply Sel.app | (with_reducible apply Sel.grp; · repeat (first | exact PickF.h | apply PickF.t | apply PickF.a)) | (with_reducible refine Sel.nilF (by with_unfolding_all rfl) ?_) | apply Sel.drop | apply Sel.dropF))⟩) | exact ⟨(xs ++ [x], k2, e2, y1), ⟨by simp; omega, by show k ≤ k2; omega, by show k2 ≤ _; omega, by simpa using hrd2⟩, by simp; omega, ⟨rfl, rfl, rfl, rfl, rfl, by show some (i64 _) = some (i64 _); congr 2; simp, trivial⟩, (by repeat (first | exact Sel.all | exact Sel.none | (apply Sel.one; · repeat (first | exact Pick.h | apply Pick.t | apply Pick.app)) | apply Sel.app | (with_reducible apply Sel.grp; · repeat (first | exact PickF.h | apply PickF.t | apply PickF.a)) | (with_reducible refine Sel.nilF (by with_unfolding_all rfl) ?_) | apply Sel.drop | apply Sel.dropF))⟩)
        | false =>
          try have c_t20 := df h20
          first
          | (exfalso; omega)
          | (
            refine wc_else rfl ?_
            refine wc_skip ?_
            have hpset := pad_set (show xs.length < 11 by omega) x
            try rw [hpset]
            refine wc_region ?_
            first | refine wl rfl (OP.ev rfl rfl (eAdd rfl rfl (by omega)) ?_) | refine wl rfl (OP.ev rfl rfl (eAddW rfl rfl) ?_)
            refine wl rfl (OP.ev rfl rfl (eMv rfl) ?_)
            refine wl_nil ?_
            first | (have h3' : xs.length = 3 := h3; exact ⟨(xs ++ [x], k2, e2, x), ⟨by simp; omega, by show k ≤ k2; omega, by show k2 ≤ _; omega, by simpa using hrd2⟩, by simp; omega, ⟨rfl, rfl, rfl, rfl, rfl, by show some (i64 _) = some (i64 _); congr 2; simp, trivial⟩, (by repeat (first | exact Sel.all | exact Sel.none | (apply Sel.one; · repeat (first | exact Pick.h | apply Pick.t | apply Pick.app)) | apply Sel.app | (with_reducible apply Sel.grp; · repeat (first | exact PickF.h | apply PickF.t | apply PickF.a)) | (with_reducible refine Sel.nilF (by with_unfolding_all rfl) ?_) | apply Sel.drop | apply Sel.dropF))⟩) | exact ⟨(xs ++ [x], k2, e2, y1), ⟨by simp; omega, by show k ≤ k2; omega, by show k2 ≤ _; omega, by simpa using hrd2⟩, by simp; omega, ⟨rfl, rfl, rfl, rfl, rfl, by show some (i64 _) = some (i64 _); congr 2; simp, trivial⟩, (by repeat (first | exact Sel.all | exact Sel.none | (apply Sel.one; · repeat (first | exact Pick.h | apply Pick.t | apply Pick.app)) | apply Sel.app | (with_reducible apply Sel.grp; · repeat (first | exact PickF.h | apply PickF.t | apply PickF.a)) | (with_reducible refine Sel.nilF (by with_unfolding_all rfl) ?_) | apply Sel.drop | apply Sel.dropF))⟩))
  | false =>
    try have c_t10 := df h10
    first
    | (exfalso; omega)
    | (
      refine wc_else rfl ?_
      refine wc_exit rfl ?_
      refine wc_seq ?_
      have hx : xs.length = 11 := by omega
      rw [pad_full hx]
      rw [hx] at hrd
      refine wc_region ?_
      first | refine wl rfl (OP.ev rfl rfl (eLdW ty35 rfl rfl (by repeat (first | exact Has.h | apply Has.t | apply Has.app)) (by rfl)) ?_) | refine wl rfl (OP.ev rfl rfl (eLdA (vs := [_, _, _, _, _, _, _, _, _, _, _]) ty35 rfl rfl (by repeat (first | exact Has.h | apply Has.t | apply Has.app)) (by rfl) (by rfl)) ?_) | refine wl rfl (OP.ev rfl rfl (eLdAO ty35 rfl rfl (by assumption) (by assumption)) ?_)
      refine wl rfl (oStW ty35 rfl rfl rfl rfl (by repeat (first | exact Upd.h | apply Upd.t | apply Upd.app)) (by rfl) ?_)
      refine wl_nil ?_
      refine wc_ret ?_
      apply at_ret rfl
      · exact (.cons (.cell rfl (by repeat (first | exact Has.h | apply Has.t | apply Has.app)) ty35 rfl) .nil)
      · exact ⟨xs, k1, e1, hrd, hx, hk1, hk2, rfl, rfl⟩
      · exact (by repeat (first | exact Sel.all | exact Sel.none | (apply Sel.one; · repeat (first | exact Pick.h | apply Pick.t | apply Pick.app)) | apply Sel.app | (with_reducible apply Sel.grp; · repeat (first | exact PickF.h | apply PickF.t | apply PickF.a)) | (with_reducible refine Sel.nilF (by with_unfolding_all rfl) ?_) | apply Sel.drop | apply Sel.dropF)))
end Go.Proofs.Ytbppeijcfkdhjaa
