/- The reference's files: get, less, with. No statement of the seat is proved here. -/
import Derived.Test.YtahjgjmemijofaaLw6
namespace Go.Proofs.Ytahjgjmemijofaa
open Go Eng
set_option linter.unusedVariables false
set_option maxRecDepth 4000
variable {W0 : World} {I I' : Heap}

abbrev FT := Nm × Value × List Int
def fV (xs : List FT) : List Value := xs.flatMap fun t => [strK t.1, t.2.1]
def fL (xs : List FT) : Files := xs.map fun t => (t.1, t.2.2)
def FOk (W0 : World) (I : Heap) (xs : List FT) : Prop := ∀ t ∈ xs, Rs W0 I t.2.1 1 t.2.2.length (byteV t.2.2) ∧ IsB t.2.2
/-- a slice of files -/
def FilesV (W0 : World) (I : Heap) (v : Value) (l : Files) : Prop := ∃ xs : List FT, Rs W0 I v 2 xs.length (fV xs) ∧ fL xs = l ∧ FOk W0 I xs
theorem FOk.sel {xs : List FT} (h : FOk W0 I xs) (hs : Sel I' I) : FOk W0 I' xs := fun t ht => ⟨(h t ht).1.sel hs, (h t ht).2⟩
theorem FilesV.sel {v : Value} {l : Files} (h : FilesV W0 I v l) (hs : Sel I' I) : FilesV W0 I' v l := by
  obtain ⟨xs, h1, h2, h3⟩ := h
  exact ⟨xs, h1.sel hs, h2, h3.sel hs⟩
theorem fV_app (a b : List FT) : fV (a ++ b) = fV a ++ fV b := by simp [fV]
theorem fL_app (a b : List FT) : fL (a ++ b) = fL a ++ fL b := by simp [fL]
theorem fV_at {xs : List FT} {i : Nat} {t : FT} (h : xs[i]? = some t) : ((fV xs).drop (i * 2)).take 2 = [strK t.1, t.2.1] := by
  induction xs generalizing i with
  | nil => simp at h
  | cons x r ih =>
    cases i with
    | zero => simp at h; subst h; rfl
    | succ i =>
      have := ih (by simpa using h)
      rw [← this]
      show (([strK x.1, x.2.1] ++ fV r).drop ((i + 1) * 2)).take 2 = _
      rw [show (i + 1) * 2 = 2 + i * 2 by omega, List.drop_append, List.drop_of_length_le (by simp)]
      simp
theorem fL_at {xs : List FT} {i : Nat} {t : FT} (h : xs[i]? = some t) : (fL xs)[i]? = some (t.1, t.2.2) := by simp [fL, h]
theorem fV_one {xs : List FT} (h : FOk W0 I xs) : (fV xs).all Value.oneCell' = true := by
  induction xs with
  | nil => rfl
  | cons x r ih =>
    obtain ⟨ad, k, c, h4⟩ := (h x List.mem_cons_self).1.isSlice
    show ([strK x.1, x.2.1] ++ fV r).all Value.oneCell' = true
    rw [List.all_append, ih fun t ht => h t (List.mem_cons_of_mem _ ht), h4]; rfl
theorem FOk.app {a b : List FT} (ha : FOk W0 I a) (hb : FOk W0 I b) : FOk W0 I (a ++ b) := fun t ht => (List.mem_append.1 ht).elim (ha t) (hb t)
theorem FOk.one {k : Nm} {v : Value} {b : List Int} (h : Rs W0 I v 1 b.length (byteV b)) (hb : IsB b) : FOk W0 I [(k, v, b)] := fun t ht => by simp at ht; subst ht; exact ⟨h, hb⟩
theorem all2 {x y : Value} (hx : x.oneCell' = true) (hy : y.oneCell' = true) : ([x, y] : List Value).all Value.oneCell' = true := by
  rw [List.all_cons, List.all_cons, hx, hy]; rfl

theorem fget_take {l : Files} {i : Nat} {k : Nm} {e : Nm × List Int} (h0 : fget (l.take i) k = none) (he : l[i]? = some e) : fget (l.take (i + 1)) k = if e.1 = k then some e.2 else none := by
  rw [List.take_add_one, he]
  have gen : ∀ (a : Files), fget a k = none → fget (a ++ [e]) k = if e.1 = k then some e.2 else none := by
    intro a
    induction a with
    | nil => intro _; simp only [List.nil_append]; rw [fget_cons, fget_nil]
    | cons x r ih =>
      intro h
      rw [fget_cons] at h
      rw [List.cons_append, fget_cons]
      split at h
      · cases h
      · rename_i h1; rw [if_neg h1, ih h]
  exact gen _ h0
theorem fget_first {l : Files} {i : Nat} {k : Nm} {e : Nm × List Int} (h0 : fget (l.take i) k = none) (he : l[i]? = some e) (hk : e.1 = k) : fget l k = some e.2 := by
  have gen : ∀ (a b : Files), fget a k = none → fget (a ++ e :: b) k = some e.2 := by
    intro a b
    induction a with
    | nil => intro _; simp only [List.nil_append]; rw [fget_cons, if_pos hk]
    | cons x r ih =>
      intro h
      rw [fget_cons] at h
      rw [List.cons_append, fget_cons]
      split at h
      · cases h
      · rename_i h1; rw [if_neg h1, ih h]
  have hl : l = l.take i ++ e :: l.drop (i + 1) := by
    obtain ⟨h1, h2⟩ := List.getElem?_eq_some_iff.1 he
    rw [← h2, ← List.drop_eq_getElem_cons h1, List.take_append_drop]
  rw [hl]
  exact gen _ _ h0

theorem get_ok (v : Value) (l : Files) (k : Nm) (R : Heap) (hv : FilesV W0 I v l) (hl : l.length ≤ 1048576) :
    FnC W0 Try.prog 56 #[v, strK k] (I ++ R) (fun v' L' => ∃ w, v' = .tuple #[w, .bool (fget l k).isSome] ∧ Rs W0 I w 1 (fgetD l k).length (byteV (fgetD l k)) ∧ IsB (fgetD l k) ∧ L' = I ++ R) := by
  obtain ⟨xs, hr, rfl, hok⟩ := hv
  have hxl : (fL xs).length = xs.length := by simp [fL]
  refine fn_of Try.func56 rfl Try.ntmps56 rfl rfl ?_
  refine wc_seq ?_
  refine wc_region ?_
  refine wl rfl (OP.ev rfl rfl (eAs rfl) ?_)
  refine wl rfl (OP.ev rfl rfl (eAs rfl) ?_)
  refine wl_nil ?_
  refine wc_seq ?_
  refine wc_seq ?_
  refine wc_region ?_
  refine wl rfl (OP.ev rfl rfl (eMv rfl) ?_)
  refine wl rfl (OP.ev rfl rfl (eLenR ty83 rfl (hr.sel (by repeat (first | exact Sel.all | exact Sel.none | exact Sel.hd | (apply Sel.one; · repeat (first | exact Pick.h | apply Pick.t | apply Pick.app)) | apply Sel.app | (with_reducible apply Sel.grp; · repeat (first | exact PickF.h | apply PickF.t | apply PickF.a)) | (with_reducible refine Sel.nilF (by with_unfolding_all rfl) ?_) | apply Sel.drop | apply Sel.dropF)))) ?_)
  refine wl rfl (OP.ev rfl rfl (eMv rfl) ?_)
  refine wl_nil ?_
  refine wc_block ?_
  refine wc_loop (σ := Nat) (fun i => [(1, strK k), (8, v), (9, i64 (xs.length : Int)), (10, i64 (i : Int))]) (fun i => I ++ R) (fun i => i ≤ xs.length ∧ fget ((fL xs).take i) k = none) (fun i => xs.length - i) 0 ⟨Nat.zero_le _, rfl⟩ ⟨rfl, rfl, rfl, rfl, trivial⟩ (by repeat (first | exact Sel.all | exact Sel.none | exact Sel.hd | (apply Sel.one; · repeat (first | exact Pick.h | apply Pick.t | apply Pick.app)) | apply Sel.app | (with_reducible apply Sel.grp; · repeat (first | exact PickF.h | apply PickF.t | apply PickF.a)) | (with_reducible refine Sel.nilF (by with_unfolding_all rfl) ?_) | apply Sel.drop | apply Sel.dropF)) ?_
  rintro i ⟨hi, hno⟩
  refine wc_seq ?_
  refine wc_region ?_
  refine wl rfl (OP.evb rfl rfl (eLt rfl rfl) fun t11 h11 => ?_)
  refine wl_nil ?_
  refine wc_seq ?_
  cases t11 with
  | true =>
    try have c_t11 := dt h11
    first
    | (exfalso; omega)
    | (
      refine wc_then rfl ?_
      refine wc_skip ?_
      refine wc_seq ?_
      refine wc_block ?_
      refine wc_seq ?_
      obtain ⟨t, ht⟩ : ∃ t, xs[i]? = some t := ⟨_, List.getElem?_eq_getElem (by omega)⟩
      have htl := fL_at ht
      obtain ⟨htr, htb⟩ := hok t (List.mem_of_getElem? ht)
      obtain ⟨ad, kk, cc, hts⟩ := htr.isSlice
      have hon : t.2.1.oneCell' = true := by rw [hts]; rfl
      refine wc_region ?_
      refine wl rfl (OP.ev rfl rfl (eIxS ty83 ty97 rfl (hr.sel (by repeat (first | exact Sel.all | exact Sel.none | exact Sel.hd | (apply Sel.one; · repeat (first | exact Pick.h | apply Pick.t | apply Pick.app)) | apply Sel.app | (with_reducible apply Sel.grp; · repeat (first | exact PickF.h | apply PickF.t | apply PickF.a)) | (with_reducible refine Sel.nilF (by with_unfolding_all rfl) ?_) | apply Sel.drop | apply Sel.dropF))) rfl (by omega) (by omega)) ?_)
      refine wl rfl (OP.ev rfl rfl (eLdSA (vs := [strK t.1, t.2.1]) ty97 rfl rfl (hr.sel (by repeat (first | exact Sel.all | exact Sel.none | exact Sel.hd | (apply Sel.one; · repeat (first | exact Pick.h | apply Pick.t | apply Pick.app)) | apply Sel.app | (with_reducible apply Sel.grp; · repeat (first | exact PickF.h | apply PickF.t | apply PickF.a)) | (with_reducible refine Sel.nilF (by with_unfolding_all rfl) ?_) | apply Sel.drop | apply Sel.dropF))) (i * 2) (by omega) rfl (fV_at ht) (by decide)) ?_)
      refine wl rfl (oAl rfl ty97 rfl fun b7 => ?_)
      refine wl rfl (oStW ty97 rfl rfl rfl (all2 rfl hon) (by repeat (first | exact Upd.h | apply Upd.t | apply Upd.app)) (by rfl) ?_)
      refine wl_nil ?_
      refine wc_seq ?_
      refine wc_region ?_
      refine wl rfl (OP.ev rfl rfl (eFld 0 ty97 rfl rfl ty9 rfl) ?_)
      first | refine wl rfl (OP.ev rfl rfl (eLd ty9 rfl rfl (by repeat (first | exact Has.h | apply Has.t | apply Has.app)) (by rfl)) ?_) | refine wl rfl (OP.ev rfl rfl (eLdO ty9 rfl rfl (by assumption)) ?_)
      refine wl rfl (OP.ev rfl rfl (eMv rfl) ?_)
      refine wl rfl (OP.evb rfl rfl (eEqK rfl rfl) fun t17 h17 => ?_)
      refine wl_nil ?_
      cases t17 with
      | true =>
        try have c_t17 := dt h17
        first
        | (exfalso; omega)
        | (
          refine wc_then rfl ?_
          refine wc_seq ?_
          refine wc_region ?_
          refine wl rfl (OP.ev rfl rfl (eFld 1 ty97 rfl rfl ty30 rfl) ?_)
          first | refine wl rfl (OP.ev rfl rfl (eLd ty30 rfl rfl (by repeat (first | exact Has.h | apply Has.t | apply Has.app)) (by rfl)) ?_) | refine wl rfl (OP.ev rfl rfl (eLdO ty30 rfl rfl (by assumption)) ?_)
          refine wl rfl (OP.ev rfl rfl (eAs rfl) ?_)
          refine wl rfl (OP.ev rfl rfl (eAs rfl) ?_)
          refine wl_nil ?_
          refine wc_ret ?_
          apply at_ret rfl
          · exact (.cons (.tmp rfl) (.cons (.tmp rfl) .nil))
          · first
            | exact ⟨_, by rw [fget_first hno htl c_t17]; rfl, by unfold fgetD; rw [fget_first hno htl c_t17]; exact htr, by unfold fgetD; rw [fget_first hno htl c_t17]; exact htb, rfl⟩
            | exact ⟨_, by rw [List.take_of_length_le (by omega)] at hno; rw [hno]; rfl, by rw [List.take_of_length_le (by omega)] at hno; unfold fgetD; rw [hno]; exact Rs.nil 1, by rw [List.take_of_length_le (by omega)] at hno; unfold fgetD; rw [hno]; intro x hx; simp at hx, rfl⟩
          · exact (by repeat (first | exact Sel.all | exact Sel.none | exact Sel.hd | (apply Sel.one; · repeat (first | exact Pick.h | apply Pick.t | apply Pick.app)) | apply Sel.app | (with_reducible apply Sel.grp; · repeat (first | exact PickF.h | apply PickF.t | apply PickF.a)) | (with_reducible refine Sel.nilF (by with_unfolding_all rfl) ?_) | apply Sel.drop | apply Sel.dropF)))
      | false =>
        try have c_t17 := df h17
        first
        | (exfalso; omega)
        | (
          refine wc_else rfl ?_
          refine wc_skip ?_
          refine wc_region ?_
          first | refine wl rfl (OP.ev rfl rfl (eAdd rfl rfl (by omega)) ?_) | refine wl rfl (OP.ev rfl rfl (eAddW rfl rfl) ?_)
          refine wl rfl (OP.ev rfl rfl (eMv rfl) ?_)
          refine wl_nil ?_
          exact ⟨i + 1, ⟨by omega, by rw [fget_take hno htl, if_neg c_t17]⟩, by omega, ⟨rfl, rfl, rfl, rfl, trivial⟩, (by repeat (first | exact Sel.all | exact Sel.none | exact Sel.hd | (apply Sel.one; · repeat (first | exact Pick.h | apply Pick.t | apply Pick.app)) | apply Sel.app | (with_reducible apply Sel.grp; · repeat (first | exact PickF.h | apply PickF.t | apply PickF.a)) | (with_reducible refine Sel.nilF (by with_unfolding_all rfl) ?_) | apply Sel.drop | apply Sel.dropF))⟩))
  | false =>
    try have c_t11 := df h11
    first
    | (exfalso; omega)
    | (
      refine wc_else rfl ?_
      refine wc_exit rfl ?_
      refine wc_seq ?_
      refine wc_region ?_
      refine wl rfl (OP.ev rfl rfl (eAs rfl) ?_)
      refine wl rfl (OP.ev rfl rfl (eAs rfl) ?_)
      refine wl_nil ?_
      refine wc_ret ?_
      apply at_ret rfl
      · exact (.cons (.tmp rfl) (.cons (.tmp rfl) .nil))
      · first
        | exact ⟨_, by rw [fget_first hno htl c_t17]; rfl, by unfold fgetD; rw [fget_first hno htl c_t17]; exact htr, by unfold fgetD; rw [fget_first hno htl c_t17]; exact htb, rfl⟩
        | exact ⟨_, by rw [List.take_of_length_le (by omega)] at hno; rw [hno]; rfl, by rw [List.take_of_length_le (by omega)] at hno; unfold fgetD; rw [hno]; exact Rs.nil 1, by rw [List.take_of_length_le (by omega)] at hno; unfold fgetD; rw [hno]; intro x hx; simp at hx, rfl⟩
      · exact (by repeat (first | exact Sel.all | exact Sel.none | exact Sel.hd | (apply Sel.one; · repeat (first | exact Pick.h | apply Pick.t | apply Pick.app)) | apply Sel.app | (with_reducible apply Sel.grp; · repeat (first | exact PickF.h | apply PickF.t | apply PickF.a)) | (with_reducible refine Sel.nilF (by with_unfolding_all rfl) ?_) | apply Sel.drop | apply Sel.dropF)))

theorem fless_take {l : Files} {i : Nat} {k : Nm} {e : Nm × List Int} (he : l[i]? = some e) : fless (l.take (i + 1)) k = fless (l.take i) k ++ (if e.1 = k then [] else [e]) := by
  rw [List.take_add_one, he]
  unfold fless
  rw [List.filter_append]
  congr 1
  by_cases h : e.1 = k <;> simp [h]

theorem less_ok (v : Value) (l : Files) (k : Nm) (R : Heap) (hv : FilesV W0 I v l) (hl : l.length ≤ 1048576) :
    FnC W0 Try.prog 78 #[v, strK k] (I ++ R) (fun v' L' => ∃ ys cs, Row v' cs 2 ys.length (fV ys) ∧ fL ys = fless l k ∧ FOk W0 I ys ∧ L' = ownH v' cs 97 ++ (I ++ R)) := by
  obtain ⟨xs, hr, rfl, hok⟩ := hv
  have hxl : (fL xs).length = xs.length := by simp [fL]
  refine fn_of Try.func78 rfl Try.ntmps78 rfl rfl ?_
  refine wc_seq ?_
  refine wc_region ?_
  refine wl rfl (OP.ev rfl rfl (eAs rfl) ?_)
  refine wl_nil ?_
  refine wc_seq ?_
  refine wc_region ?_
  refine wl rfl (OP.ev rfl rfl (eAs rfl) ?_)
  refine wl_nil ?_
  refine wc_seq ?_
  refine wc_seq ?_
  refine wc_region ?_
  refine wl rfl (OP.ev rfl rfl (eMv rfl) ?_)
  refine wl rfl (OP.ev rfl rfl (eLenR ty83 rfl (hr.sel (by repeat (first | exact Sel.all | exact Sel.none | exact Sel.hd | (apply Sel.one; · repeat (first | exact Pick.h | apply Pick.t | apply Pick.app)) | apply Sel.app | (with_reducible apply Sel.grp; · repeat (first | exact PickF.h | apply PickF.t | apply PickF.a)) | (with_reducible refine Sel.nilF (by with_unfolding_all rfl) ?_) | apply Sel.drop | apply Sel.dropF)))) ?_)
  refine wl rfl (OP.ev rfl rfl (eMv rfl) ?_)
  refine wl_nil ?_
  refine wc_block ?_
  refine wc_loop (σ := Nat × Value × Array Value × List FT) (fun q => [(1, strK k), (5, q.2.1), (8, v), (9, i64 (xs.length : Int)), (10, i64 (q.1 : Int))]) (fun q => ownH q.2.1 q.2.2.1 97 ++ (I ++ R)) (fun q => q.1 ≤ xs.length ∧ Row q.2.1 q.2.2.1 2 q.2.2.2.length (fV q.2.2.2) ∧ fL q.2.2.2 = fless ((fL xs).take q.1) k ∧ FOk W0 I q.2.2.2 ∧ q.2.2.2.length ≤ q.1) (fun q => xs.length - q.1) (0, .slice none 0 0, #[], []) ⟨Nat.zero_le _, Row.nil _ _, rfl, by intro t ht; simp at ht, Nat.le_refl _⟩ ⟨rfl, rfl, rfl, rfl, rfl, trivial⟩ (by repeat (first | exact Sel.all | exact Sel.none | exact Sel.hd | (apply Sel.one; · repeat (first | exact Pick.h | apply Pick.t | apply Pick.app)) | apply Sel.app | (with_reducible apply Sel.grp; · repeat (first | exact PickF.h | apply PickF.t | apply PickF.a)) | (with_reducible refine Sel.nilF (by with_unfolding_all rfl) ?_) | apply Sel.drop | apply Sel.dropF)) ?_
  rintro ⟨i, w, cs, ys⟩ ⟨hi, hrow, hys, hyo, hyl⟩
  dsimp only at hi hrow hys hyo hyl ⊢
  refine wc_seq ?_
  refine wc_region ?_
  refine wl rfl (OP.evb rfl rfl (eLt rfl rfl) fun t11 h11 => ?_)
  refine wl_nil ?_
  refine wc_seq ?_
  cases t11 with
  | true =>
    try have c_t11 := dt h11
    first
    | (exfalso; omega)
    | (
      refine wc_then rfl ?_
      refine wc_skip ?_
      refine wc_seq ?_
      refine wc_block ?_
      refine wc_seq ?_
      obtain ⟨t, ht⟩ : ∃ t, xs[i]? = some t := ⟨_, List.getElem?_eq_getElem (by omega)⟩
      have htl := fL_at ht
      obtain ⟨htr, htb⟩ := hok t (List.mem_of_getElem? ht)
      obtain ⟨ad, kk, cc, hts⟩ := htr.isSlice
      have hon : t.2.1.oneCell' = true := by rw [hts]; rfl
      have hst := fless_take (k := k) htl
      refine wc_region ?_
      refine wl rfl (OP.ev rfl rfl (eIxS ty83 ty97 rfl (hr.sel (by repeat (first | exact Sel.all | exact Sel.none | exact Sel.hd | (apply Sel.one; · repeat (first | exact Pick.h | apply Pick.t | apply Pick.app)) | apply Sel.app | (with_reducible apply Sel.grp; · repeat (first | exact PickF.h | apply PickF.t | apply PickF.a)) | (with_reducible refine Sel.nilF (by with_unfolding_all rfl) ?_) | apply Sel.drop | apply Sel.dropF))) rfl (by omega) (by omega)) ?_)
      refine wl rfl (OP.ev rfl rfl (eLdSA (vs := [strK t.1, t.2.1]) ty97 rfl rfl (hr.sel (by repeat (first | exact Sel.all | exact Sel.none | exact Sel.hd | (apply Sel.one; · repeat (first | exact Pick.h | apply Pick.t | apply Pick.app)) | apply Sel.app | (with_reducible apply Sel.grp; · repeat (first | exact PickF.h | apply PickF.t | apply PickF.a)) | (with_reducible refine Sel.nilF (by with_unfolding_all rfl) ?_) | apply Sel.drop | apply Sel.dropF))) (i * 2) (by omega) rfl (fV_at ht) (by decide)) ?_)
      refine wl rfl (oAl rfl ty97 rfl fun b7 => ?_)
      refine wl rfl (oStW ty97 rfl rfl rfl (all2 rfl hon) (by repeat (first | exact Upd.h | apply Upd.t | apply Upd.app)) (by rfl) ?_)
      refine wl_nil ?_
      refine wc_seq ?_
      refine wc_region ?_
      refine wl rfl (OP.ev rfl rfl (eFld 0 ty97 rfl rfl ty9 rfl) ?_)
      first | refine wl rfl (OP.ev rfl rfl (eLd ty9 rfl rfl (by repeat (first | exact Has.h | apply Has.t | apply Has.app)) (by rfl)) ?_) | refine wl rfl (OP.ev rfl rfl (eLdO ty9 rfl rfl (by assumption)) ?_)
      refine wl rfl (OP.ev rfl rfl (eMv rfl) ?_)
      refine wl rfl (OP.evb rfl rfl (eNeK rfl rfl) fun t17 h17 => ?_)
      refine wl_nil ?_
      cases t17 with
      | true =>
        try have c_t17 := dt h17
        first
        | (exfalso; omega)
        | (
          refine wc_then rfl ?_
          refine wc_region ?_
          refine wl rfl (OP.ev rfl rfl (eMv rfl) ?_)
          first | refine wl rfl (OP.ev rfl rfl (eLdW ty97 rfl rfl (by repeat (first | exact Has.h | apply Has.t | apply Has.app)) (by rfl)) ?_) | refine wl rfl (OP.ev rfl rfl (eLdA (vs := [_, _]) ty97 rfl rfl (by repeat (first | exact Has.h | apply Has.t | apply Has.app)) (by rfl) (by rfl)) ?_) | refine wl rfl (OP.ev rfl rfl (eLdAO ty97 rfl rfl (by assumption) (by assumption)) ?_)
          refine wl rfl (oBSw (vs := [.agg #[strK t.1, t.2.1]]) rfl ty83 ty97 rfl rfl rfl rfl rfl rfl fun b20 => ?_)
          refine wl rfl (oApp (m := 1) (news := [strK t.1, t.2.1]) rfl ty83 ty97 rfl rfl rfl hrow (by repeat (first | exact At.cell | exact At.h | apply At.t | apply At.a)) (Rs.mk (Rc.of_has (by repeat (first | exact Has.h | apply Has.t | apply Has.app)) rfl) rfl (Nat.le_refl _)) (all2 rfl hon) (by omega) (by omega) ?_)
          rintro v21 cs21 hrow21 _
          have hys2 : fL (ys ++ [t]) = fless ((fL xs).take (i + 1)) k := by rw [fL_app, hys, hst, if_neg c_t17]; rfl
          refine wl rfl (OP.ev rfl rfl (eAs rfl) ?_)
          refine wl_nil ?_
          refine wc_region ?_
          first | refine wl rfl (OP.ev rfl rfl (eAdd rfl rfl (by omega)) ?_) | refine wl rfl (OP.ev rfl rfl (eAddW rfl rfl) ?_)
          refine wl rfl (OP.ev rfl rfl (eMv rfl) ?_)
          refine wl_nil ?_
          first
          | exact ⟨(i + 1, v21, cs21, ys ++ [t]), ⟨by show i + 1 ≤ _; omega, by show Row v21 cs21 2 (ys ++ [t]).length (fV (ys ++ [t])); rw [fV_app, List.length_append]; exact hrow21, hys2, hyo.app (FOk.one htr htb), by show (ys ++ [t]).length ≤ i + 1; rw [List.length_append]; simp; omega⟩, by show _ - (i + 1) < _; omega, ⟨rfl, rfl, rfl, rfl, rfl, trivial⟩, (by repeat (first | exact Sel.all | exact Sel.none | exact Sel.hd | (apply Sel.one; · repeat (first | exact Pick.h | apply Pick.t | apply Pick.app)) | apply Sel.app | (with_reducible apply Sel.grp; · repeat (first | exact PickF.h | apply PickF.t | apply PickF.a)) | (with_reducible refine Sel.nilF (by with_unfolding_all rfl) ?_) | apply Sel.drop | apply Sel.dropF))⟩
          | exact ⟨(i + 1, w, cs, ys), ⟨by show i + 1 ≤ _; omega, hrow, by show fL ys = _; rw [hst, if_pos (Classical.not_not.1 c_t17), List.append_nil]; exact hys, hyo, by show ys.length ≤ i + 1; omega⟩, by show _ - (i + 1) < _; omega, ⟨rfl, rfl, rfl, rfl, rfl, trivial⟩, (by repeat (first | exact Sel.all | exact Sel.none | exact Sel.hd | (apply Sel.one; · repeat (first | exact Pick.h | apply Pick.t | apply Pick.app)) | apply Sel.app | (with_reducible apply Sel.grp; · repeat (first | exact PickF.h | apply PickF.t | apply PickF.a)) | (with_reducible refine Sel.nilF (by with_unfolding_all rfl) ?_) | apply Sel.drop | apply Sel.dropF))⟩)
      | false =>
        try have c_t17 := df h17
        first
        | (exfalso; omega)
        | (
          refine wc_else rfl ?_
          refine wc_skip ?_
          refine wc_region ?_
          first | refine wl rfl (OP.ev rfl rfl (eAdd rfl rfl (by omega)) ?_) | refine wl rfl (OP.ev rfl rfl (eAddW rfl rfl) ?_)
          refine wl rfl (OP.ev rfl rfl (eMv rfl) ?_)
          refine wl_nil ?_
          first
          | exact ⟨(i + 1, v21, cs21, ys ++ [t]), ⟨by show i + 1 ≤ _; omega, by show Row v21 cs21 2 (ys ++ [t]).length (fV (ys ++ [t])); rw [fV_app, List.length_append]; exact hrow21, hys2, hyo.app (FOk.one htr htb), by show (ys ++ [t]).length ≤ i + 1; rw [List.length_append]; simp; omega⟩, by show _ - (i + 1) < _; omega, ⟨rfl, rfl, rfl, rfl, rfl, trivial⟩, (by repeat (first | exact Sel.all | exact Sel.none | exact Sel.hd | (apply Sel.one; · repeat (first | exact Pick.h | apply Pick.t | apply Pick.app)) | apply Sel.app | (with_reducible apply Sel.grp; · repeat (first | exact PickF.h | apply PickF.t | apply PickF.a)) | (with_reducible refine Sel.nilF (by with_unfolding_all rfl) ?_) | apply Sel.drop | apply Sel.dropF))⟩
          | exact ⟨(i + 1, w, cs, ys), ⟨by show i + 1 ≤ _; omega, hrow, by show fL ys = _; rw [hst, if_pos (Classical.not_not.1 c_t17), List.append_nil]; exact hys, hyo, by show ys.length ≤ i + 1; omega⟩, by show _ - (i + 1) < _; omega, ⟨rfl, rfl, rfl, rfl, rfl, trivial⟩, (by repeat (first | exact Sel.all | exact Sel.none | exact Sel.hd | (apply Sel.one; · repeat (first | exact Pick.h | apply Pick.t | apply Pick.app)) | apply Sel.app | (with_reducible apply Sel.grp; · repeat (first | exact PickF.h | apply PickF.t | apply PickF.a)) | (with_reducible refine Sel.nilF (by with_unfolding_all rfl) ?_) | apply Sel.drop | apply Sel.dropF))⟩))
  | false =>
    try have c_t11 := df h11
    first
    | (exfalso; omega)
    | (
      refine wc_else rfl ?_
      refine wc_exit rfl ?_
      refine wc_seq ?_
      refine wc_region ?_
      refine wl rfl (OP.ev rfl rfl (eMv rfl) ?_)
      refine wl rfl (OP.ev rfl rfl (eAs rfl) ?_)
      refine wl_nil ?_
      refine wc_ret ?_
      apply at_ret rfl
      · exact (.cons (.tmp rfl) .nil)
      · exact ⟨ys, cs, hrow, by rw [List.take_of_length_le (by omega)] at hys; exact hys, hyo, rfl⟩
      · exact (by repeat (first | exact Sel.all | exact Sel.none | exact Sel.hd | (apply Sel.one; · repeat (first | exact Pick.h | apply Pick.t | apply Pick.app)) | apply Sel.app | (with_reducible apply Sel.grp; · repeat (first | exact PickF.h | apply PickF.t | apply PickF.a)) | (with_reducible refine Sel.nilF (by with_unfolding_all rfl) ?_) | apply Sel.drop | apply Sel.dropF)))
end Go.Proofs.Ytahjgjmemijofaa
