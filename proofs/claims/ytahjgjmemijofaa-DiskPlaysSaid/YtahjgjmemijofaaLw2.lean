/- Contracts of what the laws of the disk share: short, same, made, awake. No statement of the seat is proved here. -/
import Derived.Test.YtahjgjmemijofaaLw
namespace Go.Proofs.Ytahjgjmemijofaa
open Go Eng
set_option linter.unusedVariables false
set_option linter.unusedSimpArgs false
set_option maxRecDepth 4000
variable {W0 : World} {I I' : Heap}

theorem beq_ok (u v : Value) (a b : List Int) (R : Heap) (hu : Rs W0 R u 1 a.length (byteV a)) (hv : Rs W0 R v 1 b.length (byteV b)) (ha : IsB a) (hb : IsB b) :
    FnC W0 Try.prog 19 #[u, v] R (fun v' L' => v' = .bool (decide (a = b)) ∧ L' = R) := by
  refine fn_of Try.func19 rfl Try.ntmps19 rfl rfl ?_
  refine wc_seq ?_
  refine wc_region ?_
  refine wl rfl (OP.ev rfl rfl (eAs rfl) ?_)
  refine wl_nil ?_
  refine wc_seq ?_
  refine wc_region ?_
  refine wl rfl (OP.ev rfl rfl (eMv rfl) ?_)
  refine wl rfl (OP.ev rfl rfl (eBs ty30 ty5 ty9 rfl hu) ?_)
  refine wl rfl (OP.ev rfl rfl (eMv rfl) ?_)
  refine wl rfl (OP.ev rfl rfl (eBs ty30 ty5 ty9 rfl hv) ?_)
  refine wl rfl (OP.ev rfl rfl (eEqStr rfl rfl ty9) ?_)
  refine wl rfl (OP.ev rfl rfl (eAs rfl) ?_)
  refine wl_nil ?_
  refine wc_ret ?_
  apply at_ret rfl
  · exact (.cons (.tmp rfl) .nil)
  · exact ⟨by rw [← BA_beq ha hb]; rfl, rfl⟩
  · exact (by repeat (first | exact Sel.all | exact Sel.none | exact Sel.hd | (apply Sel.one; · repeat (first | exact Pick.h | apply Pick.t | apply Pick.app)) | apply Sel.app | (with_reducible apply Sel.grp; · repeat (first | exact PickF.h | apply PickF.t | apply PickF.a)) | (with_reducible refine Sel.nilF (by with_unfolding_all rfl) ?_) | apply Sel.drop | apply Sel.dropF))

theorem equalS_ok (u v : Value) (a b : List Nm) (R : Heap) (hu : Rs W0 R u 1 a.length (a.map strK)) (hv : Rs W0 R v 1 b.length (b.map strK)) (ha : a.length ≤ 1099511627776) (hb : b.length ≤ 1099511627776) :
    FnC W0 Try.prog 63 #[u, v] R (fun v' L' => v' = .bool (decide (a = b)) ∧ L' = R) := by
  refine fn_of Try.func63 rfl Try.ntmps63 rfl rfl ?_
  refine wc_seq ?_
  refine wc_region ?_
  refine wl rfl (OP.ev rfl rfl (eAs rfl) ?_)
  refine wl_nil ?_
  refine wc_seq ?_
  refine wc_seq ?_
  refine wc_region ?_
  refine wl rfl (OP.ev rfl rfl (eMv rfl) ?_)
  refine wl rfl (OP.ev rfl rfl (eLenR ty33 rfl hu) ?_)
  refine wl rfl (OP.ev rfl rfl (eMv rfl) ?_)
  refine wl rfl (OP.ev rfl rfl (eLenR ty33 rfl hv) ?_)
  refine wl rfl (OP.evb rfl rfl (eNe rfl rfl) fun t10 h10 => ?_)
  refine wl_nil ?_
  cases t10 with
  | true =>
    try have c_t10 := dt h10
    first
    | (exfalso; omega)
    | (
      refine wc_then rfl ?_
      refine wc_seq ?_
      refine wc_region ?_
      refine wl rfl (OP.ev rfl rfl (eAs rfl) ?_)
      refine wl_nil ?_
      refine wc_ret ?_
      apply at_ret rfl
      · exact (.cons (.tmp rfl) .nil)
      · first
        | exact ⟨by rw [List.take_of_length_le (by omega), List.take_of_length_le (by omega)] at heq; rw [decide_eq_true heq]; rfl, rfl⟩
        | exact ⟨by rw [decide_eq_false (fun h => by rw [h, hy] at hx; cases hx; exact c_t24 rfl)]; rfl, rfl⟩
        | exact ⟨by rw [decide_eq_false (fun h => by rw [h] at c_t10; exact c_t10 rfl)]; rfl, rfl⟩
      · exact (by repeat (first | exact Sel.all | exact Sel.none | exact Sel.hd | (apply Sel.one; · repeat (first | exact Pick.h | apply Pick.t | apply Pick.app)) | apply Sel.app | (with_reducible apply Sel.grp; · repeat (first | exact PickF.h | apply PickF.t | apply PickF.a)) | (with_reducible refine Sel.nilF (by with_unfolding_all rfl) ?_) | apply Sel.drop | apply Sel.dropF)))
  | false =>
    try have c_t10 := df h10
    first
    | (exfalso; omega)
    | (
      refine wc_else rfl ?_
      refine wc_skip ?_
      refine wc_seq ?_
      refine wc_seq ?_
      refine wc_region ?_
      refine wl rfl (OP.ev rfl rfl (eMv rfl) ?_)
      refine wl rfl (OP.ev rfl rfl (eLenR ty33 rfl hu) ?_)
      refine wl rfl (OP.ev rfl rfl (eMv rfl) ?_)
      refine wl_nil ?_
      refine wc_block ?_
      refine wc_loop (σ := Nat) (fun i => [(0, u), (1, v), (12, i64 (a.length : Int)), (13, i64 (i : Int))]) (fun i => R) (fun i => i ≤ a.length ∧ a.take i = b.take i) (fun i => a.length - i) 0 ⟨Nat.zero_le _, rfl⟩ ⟨rfl, rfl, rfl, rfl, trivial⟩ (by repeat (first | exact Sel.all | exact Sel.none | exact Sel.hd | (apply Sel.one; · repeat (first | exact Pick.h | apply Pick.t | apply Pick.app)) | apply Sel.app | (with_reducible apply Sel.grp; · repeat (first | exact PickF.h | apply PickF.t | apply PickF.a)) | (with_reducible refine Sel.nilF (by with_unfolding_all rfl) ?_) | apply Sel.drop | apply Sel.dropF)) ?_
      rintro i ⟨hi, heq⟩
      refine wc_seq ?_
      refine wc_region ?_
      refine wl rfl (OP.evb rfl rfl (eLt rfl rfl) fun t14 h14 => ?_)
      refine wl_nil ?_
      refine wc_seq ?_
      cases t14 with
      | true =>
        try have c_t14 := dt h14
        first
        | (exfalso; omega)
        | (
          refine wc_then rfl ?_
          refine wc_skip ?_
          refine wc_seq ?_
          refine wc_block ?_
          refine wc_seq ?_
          refine wc_region ?_
          refine wl rfl (OP.ev rfl rfl (eMv rfl) ?_)
          refine wl rfl (OP.ev rfl rfl (eAs rfl) ?_)
          refine wl_nil ?_
          refine wc_seq ?_
          obtain ⟨x, hx⟩ : ∃ x, a[i]? = some x := ⟨_, List.getElem?_eq_getElem (by omega)⟩
          obtain ⟨y, hy⟩ : ∃ y, b[i]? = some y := ⟨_, List.getElem?_eq_getElem (by omega)⟩
          refine wc_draw R rfl ?_
          refine wa_take 0 (by kernel_rfl) rfl rfl rfl rfl (by repeat (first | exact Sel.all | exact Sel.none | exact Sel.hd | (apply Sel.one; · repeat (first | exact Pick.h | apply Pick.t | apply Pick.app)) | apply Sel.app | (with_reducible apply Sel.grp; · repeat (first | exact PickF.h | apply PickF.t | apply PickF.a)) | (with_reducible refine Sel.nilF (by with_unfolding_all rfl) ?_) | apply Sel.drop | apply Sel.dropF)) (eMv rfl) ?_
          refine wa_take 1 (by kernel_rfl) rfl rfl rfl rfl (by repeat (first | exact Sel.all | exact Sel.none | exact Sel.hd | (apply Sel.one; · repeat (first | exact Pick.h | apply Pick.t | apply Pick.app)) | apply Sel.app | (with_reducible apply Sel.grp; · repeat (first | exact PickF.h | apply PickF.t | apply PickF.a)) | (with_reducible refine Sel.nilF (by with_unfolding_all rfl) ?_) | apply Sel.drop | apply Sel.dropF)) (eMv rfl) ?_
          refine wa_take 2 (by kernel_rfl) rfl rfl rfl rfl (by repeat (first | exact Sel.all | exact Sel.none | exact Sel.hd | (apply Sel.one; · repeat (first | exact Pick.h | apply Pick.t | apply Pick.app)) | apply Sel.app | (with_reducible apply Sel.grp; · repeat (first | exact PickF.h | apply PickF.t | apply PickF.a)) | (with_reducible refine Sel.nilF (by with_unfolding_all rfl) ?_) | apply Sel.drop | apply Sel.dropF)) (eIxS ty33 ty9 rfl hu rfl (by omega) (by omega)) ?_
          refine wa_take 3 (by kernel_rfl) rfl rfl rfl rfl (by repeat (first | exact Sel.all | exact Sel.none | exact Sel.hd | (apply Sel.one; · repeat (first | exact Pick.h | apply Pick.t | apply Pick.app)) | apply Sel.app | (with_reducible apply Sel.grp; · repeat (first | exact PickF.h | apply PickF.t | apply PickF.a)) | (with_reducible refine Sel.nilF (by with_unfolding_all rfl) ?_) | apply Sel.drop | apply Sel.dropF)) (eLdS (u := strK x) ty9 rfl rfl hu i (by omega) (by simp [hx])) ?_
          refine wa_take 4 (by kernel_rfl) rfl rfl rfl rfl (by repeat (first | exact Sel.all | exact Sel.none | exact Sel.hd | (apply Sel.one; · repeat (first | exact Pick.h | apply Pick.t | apply Pick.app)) | apply Sel.app | (with_reducible apply Sel.grp; · repeat (first | exact PickF.h | apply PickF.t | apply PickF.a)) | (with_reducible refine Sel.nilF (by with_unfolding_all rfl) ?_) | apply Sel.drop | apply Sel.dropF)) (eMv rfl) ?_
          refine wa_take 5 (by kernel_rfl) rfl rfl rfl rfl (by repeat (first | exact Sel.all | exact Sel.none | exact Sel.hd | (apply Sel.one; · repeat (first | exact Pick.h | apply Pick.t | apply Pick.app)) | apply Sel.app | (with_reducible apply Sel.grp; · repeat (first | exact PickF.h | apply PickF.t | apply PickF.a)) | (with_reducible refine Sel.nilF (by with_unfolding_all rfl) ?_) | apply Sel.drop | apply Sel.dropF)) (eMv rfl) ?_
          refine wa_take 6 (by kernel_rfl) rfl rfl rfl rfl (by repeat (first | exact Sel.all | exact Sel.none | exact Sel.hd | (apply Sel.one; · repeat (first | exact Pick.h | apply Pick.t | apply Pick.app)) | apply Sel.app | (with_reducible apply Sel.grp; · repeat (first | exact PickF.h | apply PickF.t | apply PickF.a)) | (with_reducible refine Sel.nilF (by with_unfolding_all rfl) ?_) | apply Sel.drop | apply Sel.dropF)) (eIxS ty33 ty9 rfl hv rfl (by omega) (by omega)) ?_
          refine wa_take 7 (by kernel_rfl) rfl rfl rfl rfl (by repeat (first | exact Sel.all | exact Sel.none | exact Sel.hd | (apply Sel.one; · repeat (first | exact Pick.h | apply Pick.t | apply Pick.app)) | apply Sel.app | (with_reducible apply Sel.grp; · repeat (first | exact PickF.h | apply PickF.t | apply PickF.a)) | (with_reducible refine Sel.nilF (by with_unfolding_all rfl) ?_) | apply Sel.drop | apply Sel.dropF)) (eLdS (u := strK y) ty9 rfl rfl hv i (by omega) (by simp [hy])) ?_
          refine wa_takeb 8 (by kernel_rfl) rfl rfl rfl rfl (by repeat (first | exact Sel.all | exact Sel.none | exact Sel.hd | (apply Sel.one; · repeat (first | exact Pick.h | apply Pick.t | apply Pick.app)) | apply Sel.app | (with_reducible apply Sel.grp; · repeat (first | exact PickF.h | apply PickF.t | apply PickF.a)) | (with_reducible refine Sel.nilF (by with_unfolding_all rfl) ?_) | apply Sel.drop | apply Sel.dropF)) (eNeK rfl rfl) fun t24 h24 => ?_
          refine wa_nil (by kernel_rfl) ?_
          cases t24 with
          | true =>
            try have c_t24 := dt h24
            first
            | (exfalso; omega)
            | (
              refine wc_then rfl ?_
              refine wc_seq ?_
              refine wc_region ?_
              refine wl rfl (OP.ev rfl rfl (eAs rfl) ?_)
              refine wl_nil ?_
              refine wc_ret ?_
              apply at_ret rfl
              · exact (.cons (.tmp rfl) .nil)
              · first
                | exact ⟨by rw [List.take_of_length_le (by omega), List.take_of_length_le (by omega)] at heq; rw [decide_eq_true heq]; rfl, rfl⟩
                | exact ⟨by rw [decide_eq_false (fun h => by rw [h, hy] at hx; cases hx; exact c_t24 rfl)]; rfl, rfl⟩
                | exact ⟨by rw [decide_eq_false (fun h => by rw [h] at c_t10; exact c_t10 rfl)]; rfl, rfl⟩
              · exact (by repeat (first | exact Sel.all | exact Sel.none | exact Sel.hd | (apply Sel.one; · repeat (first | exact Pick.h | apply Pick.t | apply Pick.app)) | apply Sel.app | (with_reducible apply Sel.grp; · repeat (first | exact PickF.h | apply PickF.t | apply PickF.a)) | (with_reducible refine Sel.nilF (by with_unfolding_all rfl) ?_) | apply Sel.drop | apply Sel.dropF)))
          | false =>
            try have c_t24 := df h24
            first
            | (exfalso; omega)
            | (
              refine wc_else rfl ?_
              refine wc_skip ?_
              refine wc_region ?_
              first | refine wl rfl (OP.ev rfl rfl (eAdd rfl rfl (by omega)) ?_) | refine wl rfl (OP.ev rfl rfl (eAddW rfl rfl) ?_)
              refine wl rfl (OP.ev rfl rfl (eMv rfl) ?_)
              refine wl_nil ?_
              exact ⟨i + 1, ⟨by omega, by rw [List.take_add_one, List.take_add_one, hx, hy, heq, Classical.not_not.1 c_t24]⟩, by omega, ⟨rfl, rfl, rfl, rfl, trivial⟩, (by repeat (first | exact Sel.all | exact Sel.none | exact Sel.hd | (apply Sel.one; · repeat (first | exact Pick.h | apply Pick.t | apply Pick.app)) | apply Sel.app | (with_reducible apply Sel.grp; · repeat (first | exact PickF.h | apply PickF.t | apply PickF.a)) | (with_reducible refine Sel.nilF (by with_unfolding_all rfl) ?_) | apply Sel.drop | apply Sel.dropF))⟩))
      | false =>
        try have c_t14 := df h14
        first
        | (exfalso; omega)
        | (
          refine wc_else rfl ?_
          refine wc_exit rfl ?_
          refine wc_seq ?_
          refine wc_region ?_
          refine wl rfl (OP.ev rfl rfl (eAs rfl) ?_)
          refine wl_nil ?_
          refine wc_ret ?_
          apply at_ret rfl
          · exact (.cons (.tmp rfl) .nil)
          · first
            | exact ⟨by rw [List.take_of_length_le (by omega), List.take_of_length_le (by omega)] at heq; rw [decide_eq_true heq]; rfl, rfl⟩
            | exact ⟨by rw [decide_eq_false (fun h => by rw [h, hy] at hx; cases hx; exact c_t24 rfl)]; rfl, rfl⟩
            | exact ⟨by rw [decide_eq_false (fun h => by rw [h] at c_t10; exact c_t10 rfl)]; rfl, rfl⟩
          · exact (by repeat (first | exact Sel.all | exact Sel.none | exact Sel.hd | (apply Sel.one; · repeat (first | exact Pick.h | apply Pick.t | apply Pick.app)) | apply Sel.app | (with_reducible apply Sel.grp; · repeat (first | exact PickF.h | apply PickF.t | apply PickF.a)) | (with_reducible refine Sel.nilF (by with_unfolding_all rfl) ?_) | apply Sel.drop | apply Sel.dropF))))

def sumB (l : List Do) : Nat := (l.map fun c => min c.B.length 32769).sum
def short (l : List Do) : Bool := decide (l.length ≤ 120) && decide (sumB l ≤ 32768)
theorem sumB_step {l : List Do} {i : Nat} {c : Do} (h : l[i]? = some c) : sumB (l.take (i + 1)) = sumB (l.take i) + min c.B.length 32769 := by
  rw [List.take_add_one, h]
  simp [sumB]
theorem sumB_le (l : List Do) (i : Nat) : sumB (l.take i) ≤ 32769 * i := by
  induction i with
  | zero => simp [sumB]
  | succ i ih =>
    cases h : l[i]? with
    | none =>
      rw [List.take_add_one, h]
      simp only [Option.toList_none, List.append_nil]
      omega
    | some c => rw [sumB_step h]; omega

theorem short_ok (v : Value) (l : List Do) (R : Heap) (hv : Rs W0 R v 8 l.length (dos l)) (hr : ∀ c ∈ l, DoR W0 R c) (hl : l.length ≤ 9223372036854775807) :
    FnC W0 Try.prog 20 #[v] R (fun v' L' => v' = .bool (short l) ∧ L' = R) := by
  refine fn_of Try.func20 rfl Try.ntmps20 rfl rfl ?_
  refine wc_seq ?_
  refine wc_region ?_
  refine wl rfl (OP.ev rfl rfl (eAs rfl) ?_)
  refine wl_nil ?_
  refine wc_seq ?_
  refine wc_region ?_
  refine wl rfl (OP.ev rfl rfl (eAs rfl) ?_)
  refine wl_nil ?_
  refine wc_seq ?_
  refine wc_seq ?_
  refine wc_region ?_
  refine wl rfl (OP.ev rfl rfl (eAs rfl) ?_)
  refine wl_nil ?_
  refine wc_block ?_
  refine wc_loop (σ := Nat) (fun i => [(0, v), (3, i64 (sumB (l.take i) : Int)), (4, i64 (i : Int))]) (fun i => R) (fun i => i ≤ l.length ∧ i ≤ 121) (fun i => l.length - i) 0 ⟨Nat.zero_le _, by decide⟩ ⟨rfl, rfl, rfl, trivial⟩ (by repeat (first | exact Sel.all | exact Sel.none | exact Sel.hd | (apply Sel.one; · repeat (first | exact Pick.h | apply Pick.t | apply Pick.app)) | apply Sel.app | (with_reducible apply Sel.grp; · repeat (first | exact PickF.h | apply PickF.t | apply PickF.a)) | (with_reducible refine Sel.nilF (by with_unfolding_all rfl) ?_) | apply Sel.drop | apply Sel.dropF)) ?_
  rintro i ⟨hi, hi2⟩
  have hsl := sumB_le l i
  refine wc_seq ?_
  refine wc_seq ?_
  refine wc_region ?_
  refine wl rfl (OP.ev rfl rfl (eMv rfl) ?_)
  refine wl rfl (OP.ev rfl rfl (eMv rfl) ?_)
  refine wl rfl (OP.ev rfl rfl (eLenR ty22 rfl hv) ?_)
  refine wl rfl (OP.evb rfl rfl (eLt rfl rfl) fun t8 h8 => ?_)
  refine wl rfl (OP.ev rfl rfl (eMv rfl) ?_)
  cases t8 with
  | true =>
    try have c_t8 := dt h8
    first
    | (exfalso; omega)
    | (
      refine wl_go rfl rfl (OP.ev rfl rfl (eMv rfl) ?_)
      refine wl_go rfl rfl (OP.evb rfl rfl (eLe rfl rfl) fun t11 h11 => ?_)
      refine wl rfl (OP.ev rfl rfl (ePk rfl rfl) ?_)
      refine wl_nil ?_
      cases t11 with
      | true =>
        try have c_t11 := dt h11
        first
        | (exfalso; omega)
        | (
          refine wc_then rfl ?_
          refine wc_skip ?_
          refine wc_seq ?_
          refine wc_block ?_
          obtain ⟨c, hc⟩ : ∃ c, l[i]? = some c := ⟨_, List.getElem?_eq_getElem (by omega)⟩
          have hcr := hr c (List.mem_of_getElem? hc)
          have hst := sumB_step hc
          have hcl := hcr.len
          refine wc_region ?_
          refine wl rfl (OP.ev rfl rfl (eMv rfl) ?_)
          refine wl rfl (OP.ev rfl rfl (eMv rfl) ?_)
          refine wl rfl (OP.ev rfl rfl (eMv rfl) ?_)
          refine wl rfl (OP.ev rfl rfl (eIxS ty22 ty39 rfl hv rfl (by omega) (by omega)) ?_)
          refine wl rfl (OP.ev rfl rfl (eFld 4 ty39 rfl rfl ty30 rfl) ?_)
          refine wl rfl (OP.ev rfl rfl (eLdS (u := c.bv) ty30 rfl rfl hv (i * 8 + 4) (by omega) (by have h9 := congrArg (fun z : List Value => z[4]?) (dos_at hc); simpa [List.getElem?_take, List.getElem?_drop, cC] using h9)) ?_)
          refine wl rfl (OP.ev rfl rfl (eLenR ty30 rfl hcr.rs) ?_)
          refine wl rfl (OP.ev rfl rfl (eMin rfl rfl) ?_)
          first | refine wl rfl (OP.ev rfl rfl (eAdd rfl rfl (by omega)) ?_) | refine wl rfl (OP.ev rfl rfl (eAddW rfl rfl) ?_)
          refine wl rfl (OP.ev rfl rfl (eAs rfl) ?_)
          refine wl_nil ?_
          refine wc_region ?_
          refine wl rfl (OP.ev rfl rfl (eMv rfl) ?_)
          first | refine wl rfl (OP.ev rfl rfl (eAdd rfl rfl (by omega)) ?_) | refine wl rfl (OP.ev rfl rfl (eAddW rfl rfl) ?_)
          refine wl rfl (OP.ev rfl rfl (eAs rfl) ?_)
          refine wl_nil ?_
          exact ⟨i + 1, ⟨by omega, by omega⟩, by omega, ⟨rfl, by show some (i64 _) = some (i64 _); congr 2; omega, rfl, trivial⟩, (by repeat (first | exact Sel.all | exact Sel.none | exact Sel.hd | (apply Sel.one; · repeat (first | exact Pick.h | apply Pick.t | apply Pick.app)) | apply Sel.app | (with_reducible apply Sel.grp; · repeat (first | exact PickF.h | apply PickF.t | apply PickF.a)) | (with_reducible refine Sel.nilF (by with_unfolding_all rfl) ?_) | apply Sel.drop | apply Sel.dropF))⟩)
      | false =>
        try have c_t11 := df h11
        first
        | (exfalso; omega)
        | (
          refine wc_else rfl ?_
          refine wc_exit rfl ?_
          refine wc_seq ?_
          refine wc_region ?_
          refine wl rfl (OP.ev rfl rfl (eMv rfl) ?_)
          refine wl rfl (OP.ev rfl rfl (eLenR ty22 rfl hv) ?_)
          refine wl rfl (OP.evb rfl rfl (eLe rfl rfl) fun t26 h26 => ?_)
          refine wl rfl (OP.ev rfl rfl (eMv rfl) ?_)
          cases t26 with
          | true =>
            try have c_t26 := dt h26
            first
            | (exfalso; omega)
            | (
              refine wl_go rfl rfl (OP.ev rfl rfl (eMv rfl) ?_)
              refine wl_go rfl rfl (OP.evb rfl rfl (eLe rfl rfl) fun t29 h29 => ?_)
              refine wl rfl (OP.ev rfl rfl (ePk rfl rfl) ?_)
              refine wl rfl (OP.ev rfl rfl (eAs rfl) ?_)
              refine wl_nil ?_
              refine wc_ret ?_
              apply at_ret rfl
              · exact (.cons (.tmp rfl) .nil)
              · exact ⟨by
                  unfold short
                  first
                  | rw [decide_eq_false (by omega)]; rfl
                  | (rw [List.take_of_length_le (by omega)] at h29; rw [decide_eq_true (by omega), Bool.true_and, h29]; show Value.bool _ = _; congr 1; apply decide_eq_decide.2; omega), rfl⟩
              · exact (by repeat (first | exact Sel.all | exact Sel.none | exact Sel.hd | (apply Sel.one; · repeat (first | exact Pick.h | apply Pick.t | apply Pick.app)) | apply Sel.app | (with_reducible apply Sel.grp; · repeat (first | exact PickF.h | apply PickF.t | apply PickF.a)) | (with_reducible refine Sel.nilF (by with_unfolding_all rfl) ?_) | apply Sel.drop | apply Sel.dropF)))
          | false =>
            try have c_t26 := df h26
            first
            | (exfalso; omega)
            | (
              refine wl_skip rfl rfl rfl rfl rfl ?_
              refine wl_skip rfl rfl rfl rfl rfl ?_
              refine wl rfl (OP.ev rfl rfl (ePk rfl rfl) ?_)
              refine wl rfl (OP.ev rfl rfl (eAs rfl) ?_)
              refine wl_nil ?_
              refine wc_ret ?_
              apply at_ret rfl
              · exact (.cons (.tmp rfl) .nil)
              · exact ⟨by
                  unfold short
                  first
                  | rw [decide_eq_false (by omega)]; rfl
                  | (rw [List.take_of_length_le (by omega)] at h29; rw [decide_eq_true (by omega), Bool.true_and, h29]; show Value.bool _ = _; congr 1; apply decide_eq_decide.2; omega), rfl⟩
              · exact (by repeat (first | exact Sel.all | exact Sel.none | exact Sel.hd | (apply Sel.one; · repeat (first | exact Pick.h | apply Pick.t | apply Pick.app)) | apply Sel.app | (with_reducible apply Sel.grp; · repeat (first | exact PickF.h | apply PickF.t | apply PickF.a)) | (with_reducible refine Sel.nilF (by with_unfolding_all rfl) ?_) | apply Sel.drop | apply Sel.dropF)))))
  | false =>
    try have c_t8 := df h8
    first
    | (exfalso; omega)
    | (
      refine wl_skip rfl rfl rfl rfl rfl ?_
      refine wl_skip rfl rfl rfl rfl rfl ?_
      refine wl rfl (OP.ev rfl rfl (ePk rfl rfl) ?_)
      refine wl_nil ?_
      refine wc_else rfl ?_
      refine wc_exit rfl ?_
      refine wc_seq ?_
      refine wc_region ?_
      refine wl rfl (OP.ev rfl rfl (eMv rfl) ?_)
      refine wl rfl (OP.ev rfl rfl (eLenR ty22 rfl hv) ?_)
      refine wl rfl (OP.evb rfl rfl (eLe rfl rfl) fun t26 h26 => ?_)
      refine wl rfl (OP.ev rfl rfl (eMv rfl) ?_)
      cases t26 with
      | true =>
        try have c_t26 := dt h26
        first
        | (exfalso; omega)
        | (
          refine wl_go rfl rfl (OP.ev rfl rfl (eMv rfl) ?_)
          refine wl_go rfl rfl (OP.evb rfl rfl (eLe rfl rfl) fun t29 h29 => ?_)
          refine wl rfl (OP.ev rfl rfl (ePk rfl rfl) ?_)
          refine wl rfl (OP.ev rfl rfl (eAs rfl) ?_)
          refine wl_nil ?_
          refine wc_ret ?_
          apply at_ret rfl
          · exact (.cons (.tmp rfl) .nil)
          · exact ⟨by
              unfold short
              first
              | rw [decide_eq_false (by omega)]; rfl
              | (rw [List.take_of_length_le (by omega)] at h29; rw [decide_eq_true (by omega), Bool.true_and, h29]; show Value.bool _ = _; congr 1; apply decide_eq_decide.2; omega), rfl⟩
          · exact (by repeat (first | exact Sel.all | exact Sel.none | exact Sel.hd | (apply Sel.one; · repeat (first | exact Pick.h | apply Pick.t | apply Pick.app)) | apply Sel.app | (with_reducible apply Sel.grp; · repeat (first | exact PickF.h | apply PickF.t | apply PickF.a)) | (with_reducible refine Sel.nilF (by with_unfolding_all rfl) ?_) | apply Sel.drop | apply Sel.dropF)))
      | false =>
        try have c_t26 := df h26
        first
        | (exfalso; omega)
        | (
          refine wl_skip rfl rfl rfl rfl rfl ?_
          refine wl_skip rfl rfl rfl rfl rfl ?_
          refine wl rfl (OP.ev rfl rfl (ePk rfl rfl) ?_)
          refine wl rfl (OP.ev rfl rfl (eAs rfl) ?_)
          refine wl_nil ?_
          refine wc_ret ?_
          apply at_ret rfl
          · exact (.cons (.tmp rfl) .nil)
          · exact ⟨by
              unfold short
              first
              | rw [decide_eq_false (by omega)]; rfl
              | (rw [List.take_of_length_le (by omega)] at h29; rw [decide_eq_true (by omega), Bool.true_and, h29]; show Value.bool _ = _; congr 1; apply decide_eq_decide.2; omega), rfl⟩
          · exact (by repeat (first | exact Sel.all | exact Sel.none | exact Sel.hd | (apply Sel.one; · repeat (first | exact Pick.h | apply Pick.t | apply Pick.app)) | apply Sel.app | (with_reducible apply Sel.grp; · repeat (first | exact PickF.h | apply PickF.t | apply PickF.a)) | (with_reducible refine Sel.nilF (by with_unfolding_all rfl) ?_) | apply Sel.drop | apply Sel.dropF))))

theorem acts_ok (c : Do) (R : Heap) : FnC W0 Try.prog 21 #[.agg (cC c)] R (fun v' L' => v' = .bool (decide (k10 c.op < 6)) ∧ L' = R) := by
  refine fn_of Try.func21 rfl Try.ntmps21 rfl rfl ?_
  refine wc_seq ?_
  refine wc_region ?_
  refine wl rfl (oBox rfl rfl rfl fun b1 => ?_)
  refine wl rfl (OP.ev rfl rfl (eAs rfl) ?_)
  refine wl_nil ?_
  refine wc_seq ?_
  refine wc_region ?_
  refine wl rfl (OP.ev rfl rfl (eFld 0 ty39 rfl rfl ty3 rfl) ?_)
  first | refine wl rfl (OP.ev rfl rfl (eLd ty3 rfl rfl (by repeat (first | exact Has.h | apply Has.t | apply Has.app)) (by rfl)) ?_) | refine wl rfl (OP.ev rfl rfl (eLdO ty3 rfl rfl (by assumption)) ?_)
  refine wl rfl (OP.ev rfl rfl (eCv ty3 ty44 rfl) ?_)
  refine wl rfl (OP.ev rfl rfl (eRem rfl rfl rfl) ?_)
  refine wl rfl (OP.ev rfl rfl (eCv ty44 ty3 rfl) ?_)
  refine wl rfl (OP.evb rfl rfl (eLt rfl rfl) fun t8 h8 => ?_)
  refine wl rfl (OP.ev rfl rfl (eAs rfl) ?_)
  refine wl_nil ?_
  refine wc_ret ?_
  apply at_ret rfl
  · exact (.cons (.tmp rfl) .nil)
  · exact ⟨by rw [h8]; rfl, rfl⟩
  · exact (by repeat (first | exact Sel.all | exact Sel.none | exact Sel.hd | (apply Sel.one; · repeat (first | exact Pick.h | apply Pick.t | apply Pick.app)) | apply Sel.app | (with_reducible apply Sel.grp; · repeat (first | exact PickF.h | apply PickF.t | apply PickF.a)) | (with_reducible refine Sel.nilF (by with_unfolding_all rfl) ?_) | apply Sel.drop | apply Sel.dropF))

def sameB (d e : DK) : Bool := decide (d.names = e.names) && d.names.all fun k => decide (d.read k = e.read k)
theorem same_ok (b1 b2 : Nat) (d e : DK) (hd : DOk d) (he : DOk e) (D E R : Heap) (hD : DiskR W0 I d b1 D) (hE : DiskR W0 I e b2 E) :
    FnC W0 Try.prog 40 #[ptr b1, ptr b2] (D ++ (E ++ (I ++ R))) (fun v' L' => v' = .bool (sameB d e) ∧ L' = D ++ (E ++ (I ++ R))) := by
  have hdn : d.names.length ≤ 4096 := by
    have := hd.snum
    unfold DK.names
    split <;> simp; omega
  have hen : e.names.length ≤ 4096 := by
    have := he.snum
    unfold DK.names
    split <;> simp; omega
  refine fn_of Try.func40 rfl Try.ntmps40 rfl rfl ?_
  refine wc_seq ?_
  refine wc_region ?_
  refine wl rfl (OP.ev rfl rfl (eAs rfl) ?_)
  refine wl_nil ?_
  refine wc_seq ?_
  refine wc_region ?_
  refine wl rfl (OP.ev rfl rfl (eMv rfl) ?_)
  refine wl rfl (oC rfl pf17 rfl (list_ok b1 d hd D _ hD) (by repeat (first | exact Sel.all | exact Sel.none | exact Sel.hd | (apply Sel.one; · repeat (first | exact Pick.h | apply Pick.t | apply Pick.app)) | apply Sel.app | (with_reducible apply Sel.grp; · repeat (first | exact PickF.h | apply PickF.t | apply PickF.a)) | (with_reducible refine Sel.nilF (by with_unfolding_all rfl) ?_) | apply Sel.drop | apply Sel.dropF)) ?_)
  rintro v13 _ ⟨cs13, hrow13, rfl⟩
  refine wl rfl (OP.ev rfl rfl (eAs rfl) ?_)
  refine wl_nil ?_
  refine wc_seq ?_
  refine wc_seq ?_
  refine wc_region ?_
  refine wl rfl (OP.ev rfl rfl (eMv rfl) ?_)
  refine wl rfl (OP.ev rfl rfl (eMv rfl) ?_)
  refine wl rfl (oC rfl pf17 rfl (list_ok b2 e he E _ hE) (by repeat (first | exact Sel.all | exact Sel.none | exact Sel.hd | (apply Sel.one; · repeat (first | exact Pick.h | apply Pick.t | apply Pick.app)) | apply Sel.app | (with_reducible apply Sel.grp; · repeat (first | exact PickF.h | apply PickF.t | apply PickF.a)) | (with_reducible refine Sel.nilF (by with_unfolding_all rfl) ?_) | apply Sel.drop | apply Sel.dropF)) ?_)
  rintro v16 _ ⟨cs16, hrow16, rfl⟩
  refine wl rfl (oCA rfl pf63 rfl (equalS_ok v13 v16 d.names e.names _ (hrow13.rs (by repeat (first | exact At.cell | exact At.h | apply At.t | apply At.a))) (hrow16.rs (by repeat (first | exact At.cell | exact At.h | apply At.t | apply At.a))) (by omega) (by omega)) ?_)
  rintro _ _ ⟨rfl, rfl⟩
  refine wl rfl (OP.evb rfl rfl (eNot rfl) fun t18 h18 => ?_)
  refine wl_nil ?_
  cases t18 with
  | true =>
    try have c_t18 := dt h18
    first
    | (exfalso; omega)
    | (
      refine wc_then rfl ?_
      refine wc_seq ?_
      refine wc_region ?_
      refine wl rfl (OP.ev rfl rfl (eAs rfl) ?_)
      refine wl_nil ?_
      refine wc_ret ?_
      apply at_ret rfl
      · exact (.cons (.tmp rfl) .nil)
      · first
        | exact ⟨by unfold sameB; rw [List.take_of_length_le (by omega)] at hall; rw [hall, decide_eq_true (by simpa using h18)]; rfl, rfl⟩
        | exact ⟨by unfold sameB; rw [decide_eq_false (by simpa using h18)]; rfl, rfl⟩
        | exact ⟨by
            have h9 : d.names.all (fun k => decide (d.read k = e.read k)) = false := List.all_eq_false.2 ⟨k, List.mem_of_getElem? hk, by
              rw [decide_eq_true_eq]
              intro h8
              first | (rw [h8] at h44; simp at h44) | exact c_t39 (by rw [h8])⟩
            unfold sameB
            rw [h9, Bool.and_false]; rfl, rfl⟩
      · exact (by repeat (first | exact Sel.all | exact Sel.none | exact Sel.hd | (apply Sel.one; · repeat (first | exact Pick.h | apply Pick.t | apply Pick.app)) | apply Sel.app | (with_reducible apply Sel.grp; · repeat (first | exact PickF.h | apply PickF.t | apply PickF.a)) | (with_reducible refine Sel.nilF (by with_unfolding_all rfl) ?_) | apply Sel.drop | apply Sel.dropF)))
  | false =>
    try have c_t18 := df h18
    first
    | (exfalso; omega)
    | (
      refine wc_else rfl ?_
      refine wc_skip ?_
      refine wc_seq ?_
      refine wc_seq ?_
      refine wc_region ?_
      refine wl rfl (OP.ev rfl rfl (eMv rfl) ?_)
      refine wl rfl (OP.ev rfl rfl (eLenRow ty33 rfl hrow13) ?_)
      refine wl rfl (OP.ev rfl rfl (eMv rfl) ?_)
      refine wl_nil ?_
      refine wc_block ?_
      refine wc_loop (σ := Nat) (fun i => [(0, ptr b1), (1, ptr b2), (19, v13), (20, i64 (d.names.length : Int)), (21, i64 (i : Int))]) (fun i => ownH v13 cs13 9 ++ (D ++ (E ++ (I ++ R)))) (fun i => i ≤ d.names.length ∧ (d.names.take i).all (fun k => decide (d.read k = e.read k)) = true) (fun i => d.names.length - i) 0 ⟨Nat.zero_le _, rfl⟩ ⟨rfl, rfl, rfl, rfl, rfl, trivial⟩ (by repeat (first | exact Sel.all | exact Sel.none | exact Sel.hd | (apply Sel.one; · repeat (first | exact Pick.h | apply Pick.t | apply Pick.app)) | apply Sel.app | (with_reducible apply Sel.grp; · repeat (first | exact PickF.h | apply PickF.t | apply PickF.a)) | (with_reducible refine Sel.nilF (by with_unfolding_all rfl) ?_) | apply Sel.drop | apply Sel.dropF)) ?_
      rintro i ⟨hi, hall⟩
      refine wc_seq ?_
      refine wc_region ?_
      refine wl rfl (OP.evb rfl rfl (eLt rfl rfl) fun t22 h22 => ?_)
      refine wl_nil ?_
      refine wc_seq ?_
      cases t22 with
      | true =>
        try have c_t22 := dt h22
        first
        | (exfalso; omega)
        | (
          refine wc_then rfl ?_
          refine wc_skip ?_
          refine wc_seq ?_
          refine wc_block ?_
          refine wc_seq ?_
          obtain ⟨k, hk⟩ : ∃ k, d.names[i]? = some k := ⟨_, List.getElem?_eq_getElem (by omega)⟩
          refine wc_region ?_
          refine wl rfl (OP.ev rfl rfl (eIxS ty33 ty9 rfl (hrow13.rs (by repeat (first | exact At.cell | exact At.h | apply At.t | apply At.a))) rfl (by omega) (by omega)) ?_)
          refine wl rfl (OP.ev rfl rfl (eLdS (u := strK k) ty9 rfl rfl (hrow13.rs (by repeat (first | exact At.cell | exact At.h | apply At.t | apply At.a))) i (by omega) (by simp [hk])) ?_)
          refine wl rfl (OP.ev rfl rfl (eAs rfl) ?_)
          refine wl_nil ?_
          refine wc_seq ?_
          refine wc_region ?_
          refine wl rfl (OP.ev rfl rfl (eMv rfl) ?_)
          refine wl rfl (OP.ev rfl rfl (eMv rfl) ?_)
          refine wl rfl (oC rfl pf16 rfl (read_ok b1 d hd k D _ hD) (by repeat (first | exact Sel.all | exact Sel.none | exact Sel.hd | (apply Sel.one; · repeat (first | exact Pick.h | apply Pick.t | apply Pick.app)) | apply Sel.app | (with_reducible apply Sel.grp; · repeat (first | exact PickF.h | apply PickF.t | apply PickF.a)) | (with_reducible refine Sel.nilF (by with_unfolding_all rfl) ?_) | apply Sel.drop | apply Sel.dropF)) ?_)
          rintro _ _ ⟨w28, cs28, rfl, hrow28, hB28, rfl⟩
          refine wl rfl (OP.ev rfl rfl (eMv rfl) ?_)
          refine wl rfl (OP.ev rfl rfl (eExt rfl rfl) ?_)
          refine wl rfl (OP.ev rfl rfl (eExt rfl rfl) ?_)
          refine wl rfl (OP.ev rfl rfl (eAs rfl) ?_)
          refine wl rfl (OP.ev rfl rfl (eAs rfl) ?_)
          refine wl_nil ?_
          refine wc_seq ?_
          refine wc_region ?_
          refine wl rfl (OP.ev rfl rfl (eMv rfl) ?_)
          refine wl rfl (OP.ev rfl rfl (eMv rfl) ?_)
          refine wl rfl (oC rfl pf16 rfl (read_ok b2 e he k E _ hE) (by repeat (first | exact Sel.all | exact Sel.none | exact Sel.hd | (apply Sel.one; · repeat (first | exact Pick.h | apply Pick.t | apply Pick.app)) | apply Sel.app | (with_reducible apply Sel.grp; · repeat (first | exact PickF.h | apply PickF.t | apply PickF.a)) | (with_reducible refine Sel.nilF (by with_unfolding_all rfl) ?_) | apply Sel.drop | apply Sel.dropF)) ?_)
          rintro _ _ ⟨w34, cs34, rfl, hrow34, hB34, rfl⟩
          refine wl rfl (OP.ev rfl rfl (eMv rfl) ?_)
          refine wl rfl (OP.ev rfl rfl (eExt rfl rfl) ?_)
          refine wl rfl (OP.ev rfl rfl (eExt rfl rfl) ?_)
          refine wl rfl (OP.ev rfl rfl (eAs rfl) ?_)
          refine wl rfl (OP.ev rfl rfl (eAs rfl) ?_)
          refine wl_nil ?_
          refine wc_seq ?_
          refine wc_region ?_
          refine wl rfl (OP.ev rfl rfl (eMv rfl) ?_)
          refine wl rfl (OP.ev rfl rfl (eMv rfl) ?_)
          refine wl rfl (OP.evb rfl rfl (eNe rfl rfl) fun t39 h39 => ?_)
          refine wl rfl (OP.ev rfl rfl (eMv rfl) ?_)
          cases t39 with
          | true =>
            try have c_t39 := dt h39
            first
            | (exfalso; omega)
            | (
              refine wl_skip rfl rfl rfl rfl rfl ?_
              refine wl_skip rfl rfl rfl rfl rfl ?_
              refine wl_skip rfl rfl rfl rfl rfl ?_
              refine wl_skip rfl rfl rfl rfl rfl ?_
              refine wl rfl (OP.ev rfl rfl (ePk rfl rfl) ?_)
              refine wl_nil ?_
              refine wc_then rfl ?_
              refine wc_seq ?_
              refine wc_region ?_
              refine wl rfl (OP.ev rfl rfl (eAs rfl) ?_)
              refine wl_nil ?_
              refine wc_ret ?_
              apply at_ret rfl
              · exact (.cons (.tmp rfl) .nil)
              · first
                | exact ⟨by unfold sameB; rw [List.take_of_length_le (by omega)] at hall; rw [hall, decide_eq_true (by simpa using h18)]; rfl, rfl⟩
                | exact ⟨by unfold sameB; rw [decide_eq_false (by simpa using h18)]; rfl, rfl⟩
                | exact ⟨by
                    have h9 : d.names.all (fun k => decide (d.read k = e.read k)) = false := List.all_eq_false.2 ⟨k, List.mem_of_getElem? hk, by
                      rw [decide_eq_true_eq]
                      intro h8
                      first | (rw [h8] at h44; simp at h44) | exact c_t39 (by rw [h8])⟩
                    unfold sameB
                    rw [h9, Bool.and_false]; rfl, rfl⟩
              · exact (by repeat (first | exact Sel.all | exact Sel.none | exact Sel.hd | (apply Sel.one; · repeat (first | exact Pick.h | apply Pick.t | apply Pick.app)) | apply Sel.app | (with_reducible apply Sel.grp; · repeat (first | exact PickF.h | apply PickF.t | apply PickF.a)) | (with_reducible refine Sel.nilF (by with_unfolding_all rfl) ?_) | apply Sel.drop | apply Sel.dropF)))
          | false =>
            try have c_t39 := df h39
            first
            | (exfalso; omega)
            | (
              refine wl_go rfl rfl (OP.ev rfl rfl (eMv rfl) ?_)
              refine wl_go rfl rfl (OP.ev rfl rfl (eMv rfl) ?_)
              refine wl_go rfl rfl (oCA rfl pf19 rfl (beq_ok w28 w34 _ _ _ (hrow28.rs (by repeat (first | exact At.cell | exact At.h | apply At.t | apply At.a))) (hrow34.rs (by repeat (first | exact At.cell | exact At.h | apply At.t | apply At.a))) hB28 hB34) ?_)
              rintro _ _ ⟨rfl, rfl⟩
              refine wl_go rfl rfl (OP.evb rfl rfl (eNot rfl) fun t44 h44 => ?_)
              refine wl rfl (OP.ev rfl rfl (ePk rfl rfl) ?_)
              refine wl_nil ?_
              cases t44 with
              | true =>
                try have c_t44 := dt h44
                first
                | (exfalso; omega)
                | (
                  refine wc_then rfl ?_
                  refine wc_seq ?_
                  refine wc_region ?_
                  refine wl rfl (OP.ev rfl rfl (eAs rfl) ?_)
                  refine wl_nil ?_
                  refine wc_ret ?_
                  apply at_ret rfl
                  · exact (.cons (.tmp rfl) .nil)
                  · first
                    | exact ⟨by unfold sameB; rw [List.take_of_length_le (by omega)] at hall; rw [hall, decide_eq_true (by simpa using h18)]; rfl, rfl⟩
                    | exact ⟨by unfold sameB; rw [decide_eq_false (by simpa using h18)]; rfl, rfl⟩
                    | exact ⟨by
                        have h9 : d.names.all (fun k => decide (d.read k = e.read k)) = false := List.all_eq_false.2 ⟨k, List.mem_of_getElem? hk, by
                          rw [decide_eq_true_eq]
                          intro h8
                          first | (rw [h8] at h44; simp at h44) | exact c_t39 (by rw [h8])⟩
                        unfold sameB
                        rw [h9, Bool.and_false]; rfl, rfl⟩
                  · exact (by repeat (first | exact Sel.all | exact Sel.none | exact Sel.hd | (apply Sel.one; · repeat (first | exact Pick.h | apply Pick.t | apply Pick.app)) | apply Sel.app | (with_reducible apply Sel.grp; · repeat (first | exact PickF.h | apply PickF.t | apply PickF.a)) | (with_reducible refine Sel.nilF (by with_unfolding_all rfl) ?_) | apply Sel.drop | apply Sel.dropF)))
              | false =>
                try have c_t44 := df h44
                first
                | (exfalso; omega)
                | (
                  refine wc_else rfl ?_
                  refine wc_skip ?_
                  refine wc_region ?_
                  first | refine wl rfl (OP.ev rfl rfl (eAdd rfl rfl (by omega)) ?_) | refine wl rfl (OP.ev rfl rfl (eAddW rfl rfl) ?_)
                  refine wl rfl (OP.ev rfl rfl (eMv rfl) ?_)
                  refine wl_nil ?_
                  exact ⟨i + 1, ⟨by omega, by
                    rw [List.take_add_one, hk, List.all_append, hall]
                    have h9 : (d.read k).1 = (e.read k).1 := by simpa using h44
                    simp only [Option.toList_some, List.all_cons, List.all_nil, Bool.and_true, Bool.true_and]
                    exact decide_eq_true (Prod.ext h9 (by omega))⟩, by omega, ⟨rfl, rfl, rfl, rfl, rfl, trivial⟩, (by repeat (first | exact Sel.all | exact Sel.none | exact Sel.hd | (apply Sel.one; · repeat (first | exact Pick.h | apply Pick.t | apply Pick.app)) | apply Sel.app | (with_reducible apply Sel.grp; · repeat (first | exact PickF.h | apply PickF.t | apply PickF.a)) | (with_reducible refine Sel.nilF (by with_unfolding_all rfl) ?_) | apply Sel.drop | apply Sel.dropF))⟩)))
      | false =>
        try have c_t22 := df h22
        first
        | (exfalso; omega)
        | (
          refine wc_else rfl ?_
          refine wc_exit rfl ?_
          refine wc_seq ?_
          refine wc_region ?_
          refine wl rfl (OP.ev rfl rfl (eAs rfl) ?_)
          refine wl_nil ?_
          refine wc_ret ?_
          apply at_ret rfl
          · exact (.cons (.tmp rfl) .nil)
          · first
            | exact ⟨by unfold sameB; rw [List.take_of_length_le (by omega)] at hall; rw [hall, decide_eq_true (by simpa using h18)]; rfl, rfl⟩
            | exact ⟨by unfold sameB; rw [decide_eq_false (by simpa using h18)]; rfl, rfl⟩
            | exact ⟨by
                have h9 : d.names.all (fun k => decide (d.read k = e.read k)) = false := List.all_eq_false.2 ⟨k, List.mem_of_getElem? hk, by
                  rw [decide_eq_true_eq]
                  intro h8
                  first | (rw [h8] at h44; simp at h44) | exact c_t39 (by rw [h8])⟩
                unfold sameB
                rw [h9, Bool.and_false]; rfl, rfl⟩
          · exact (by repeat (first | exact Sel.all | exact Sel.none | exact Sel.hd | (apply Sel.one; · repeat (first | exact Pick.h | apply Pick.t | apply Pick.app)) | apply Sel.app | (with_reducible apply Sel.grp; · repeat (first | exact PickF.h | apply PickF.t | apply PickF.a)) | (with_reducible refine Sel.nilF (by with_unfolding_all rfl) ?_) | apply Sel.drop | apply Sel.dropF))))
end Go.Proofs.Ytahjgjmemijofaa
