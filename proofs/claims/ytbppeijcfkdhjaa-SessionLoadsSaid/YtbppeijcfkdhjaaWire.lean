/- The contracts of the package wire's Join and Number, and of the first reference's Digits and Number: a number as its groups of seven bits. -/
import Derived.Test.YtbppeijcfkdhjaaSess5
import Derived.Test.YtbppeijcfkdhjaaOps4
namespace Go.Proofs.Ytbppeijcfkdhjaa
open Go Eng
set_option linter.unusedVariables false
set_option maxRecDepth 4000
variable {W0 : World}

theorem byteV_app (a b : List Int) : byteV (a ++ b) = byteV a ++ byteV b := by simp [byteV]
theorem byteV_len (a : List Int) : (byteV a).length = a.length := by simp [byteV]
theorem byteV_one (a : List Int) : (byteV a).all Value.oneCell' = true := by
  rw [List.all_eq_true]; intro x hx
  obtain ⟨y, _, rfl⟩ := List.mem_map.1 hx
  rfl

def parts (vs : List (Value × List Int)) : List Int := vs.flatMap (·.2)
theorem parts_next {vs : List (Value × List Int)} {i : Nat} {p : Value × List Int} (h : vs[i]? = some p) : parts (vs.take (i + 1)) = parts (vs.take i) ++ p.2 := by
  unfold parts; rw [List.take_add_one, h]; simp
theorem parts_le (vs : List (Value × List Int)) (i : Nat) : (parts (vs.take i)).length ≤ (parts vs).length := by
  conv => rhs; rw [← List.take_append_drop i vs]
  unfold parts
  rw [List.flatMap_append, List.length_append]
  omega

theorem join_ok (u : Value) (vs : List (Value × List Int)) (R : Heap) (hs : Rs W0 R u 1 vs.length (vs.map (·.1))) (hr : ∀ p ∈ vs, Rs W0 R p.1 1 p.2.length (byteV p.2)) (hl : vs.length ≤ 1099511627776) (ht : (parts vs).length ≤ 70368744177664) :
    FnC W0 Try.prog 48 #[u] R (fun v L' => ∃ cs, Row v cs 1 (parts vs).length (byteV (parts vs)) ∧ L' = ownH v cs 5 ++ R) := by
  refine fn_of Try.func48 rfl Try.ntmps48 rfl rfl ?_
  refine wc_seq ?_
  refine wc_region ?_
  refine wl rfl (OP.ev rfl rfl (eAs rfl) ?_)
  refine wl_nil ?_
  refine wc_seq ?_
  refine wc_region ?_
  refine wl rfl (OP.ev rfl rfl (eAs rfl) ?_)
  refine wl_nil ?_
  refine wc_seq ?_
  refine wc_seq ?_
  refine wc_region ?_
  refine wl rfl (OP.ev rfl rfl (eMv rfl) ?_)
  refine wl rfl (OP.ev rfl rfl (eLenR ty106 rfl hs) ?_)
  refine wl rfl (OP.ev rfl rfl (eMv rfl) ?_)
  refine wl_nil ?_
  refine wc_block ?_
  refine wc_loop (σ := Nat) (fun i => [(0, u), (3, i64 ((parts (vs.take i)).length : Int)), (9, u), (10, i64 (vs.length : Int)), (11, i64 (i : Int))]) (fun i => R) (fun i => i ≤ vs.length) (fun i => vs.length - i) 0 (Nat.zero_le _) ⟨rfl, rfl, rfl, rfl, rfl, trivial⟩ (by repeat (first | exact Sel.all | exact Sel.none | (apply Sel.one; · repeat (first | exact Pick.h | apply Pick.t | apply Pick.app)) | apply Sel.app | (with_reducible apply Sel.grp; · repeat (first | exact PickF.h | apply PickF.t | apply PickF.a)) | (with_reducible refine Sel.nilF (by with_unfolding_all rfl) ?_) | apply Sel.drop | apply Sel.dropF)) ?_
  rintro i hi
  refine wc_seq ?_
  refine wc_region ?_
  refine wl rfl (OP.evb rfl rfl (eLt rfl rfl) fun t12 h12 => ?_)
  refine wl_nil ?_
  refine wc_seq ?_
  cases t12 with
  | true =>
    try have c_t12 := dt h12
    first
    | (exfalso; omega)
    | (
      refine wc_then rfl ?_
      refine wc_skip ?_
      refine wc_seq ?_
      refine wc_block ?_
      refine wc_seq ?_
      obtain ⟨p, hp⟩ : ∃ c, vs[i]? = some c := ⟨_, List.getElem?_eq_getElem (by omega)⟩
      have hpr := hr p (List.mem_of_getElem? hp)
      have hnx := parts_next hp
      have hnl := congrArg List.length hnx
      rw [List.length_append] at hnl
      have hle := parts_le vs (i + 1)
      rcases hs.2 with ⟨h0, _⟩ | ⟨ub, uo, uc, rfl, hu1, hu2⟩
      · exfalso; omega
      refine wc_region ?_
      refine wl rfl (OP.ev rfl rfl (eIx ty106 ty49 rfl rfl (by omega) (by omega)) ?_)
      refine wl rfl (OP.ev rfl rfl (eLdR (off := uo) (cells := vs.map (·.1)) (v := p.1) ty49 rfl rfl hu2 i (by omega) (by rw [List.getElem?_map, hp]; rfl)) ?_)
      refine wl rfl (OP.ev rfl rfl (eAs rfl) ?_)
      refine wl_nil ?_
      refine wc_region ?_
      refine wl rfl (OP.ev rfl rfl (eMv rfl) ?_)
      refine wl rfl (OP.ev rfl rfl (eMv rfl) ?_)
      refine wl rfl (OP.ev rfl rfl (eLenR ty49 rfl hpr) ?_)
      first | refine wl rfl (OP.ev rfl rfl (eAdd rfl rfl (by omega)) ?_) | refine wl rfl (OP.ev rfl rfl (eAddW rfl rfl) ?_)
      refine wl rfl (OP.ev rfl rfl (eAs rfl) ?_)
      refine wl_nil ?_
      refine wc_region ?_
      first | refine wl rfl (OP.ev rfl rfl (eAdd rfl rfl (by omega)) ?_) | refine wl rfl (OP.ev rfl rfl (eAddW rfl rfl) ?_)
      refine wl rfl (OP.ev rfl rfl (eMv rfl) ?_)
      refine wl_nil ?_
      exact ⟨i + 1, by omega, by omega, ⟨rfl, by show some (i64 (_ + _)) = some (i64 _); congr 2; omega, rfl, rfl, rfl, trivial⟩, (by repeat (first | exact Sel.all | exact Sel.none | (apply Sel.one; · repeat (first | exact Pick.h | apply Pick.t | apply Pick.app)) | apply Sel.app | (with_reducible apply Sel.grp; · repeat (first | exact PickF.h | apply PickF.t | apply PickF.a)) | (with_reducible refine Sel.nilF (by with_unfolding_all rfl) ?_) | apply Sel.drop | apply Sel.dropF))⟩)
  | false =>
    try have c_t12 := df h12
    first
    | (exfalso; omega)
    | (
      refine wc_else rfl ?_
      refine wc_exit rfl ?_
      refine wc_seq ?_
      have hi : i = vs.length := by omega
      have hparts : parts (vs.take i) = parts vs := by rw [hi, List.take_length]
      refine wc_region ?_
      refine wl rfl (OP.ev rfl rfl (eMv rfl) ?_)
      refine wl rfl (oMkS rfl ty49 ty5 rfl rfl (by omega) (by rw [hparts]; omega) (by rw [hparts]; omega) ?_)
      rintro v6 cs6 hrow6
      refine wl rfl (OP.ev rfl rfl (eAs rfl) ?_)
      refine wl_nil ?_
      refine wc_seq ?_
      refine wc_seq ?_
      refine wc_region ?_
      refine wl rfl (OP.ev rfl rfl (eMv rfl) ?_)
      refine wl rfl (OP.ev rfl rfl (eLenR ty106 rfl (hs.sel (by repeat (first | exact Sel.all | exact Sel.none | (apply Sel.one; · repeat (first | exact Pick.h | apply Pick.t | apply Pick.app)) | apply Sel.app | (with_reducible apply Sel.grp; · repeat (first | exact PickF.h | apply PickF.t | apply PickF.a)) | (with_reducible refine Sel.nilF (by with_unfolding_all rfl) ?_) | apply Sel.drop | apply Sel.dropF)))) ?_)
      refine wl rfl (OP.ev rfl rfl (eMv rfl) ?_)
      refine wl_nil ?_
      refine wc_block ?_
      refine wc_loop3 (fun (i : Nat) v6 (cs6 : Array Value) => [(6, v6), (22, u), (23, i64 (vs.length : Int)), (24, i64 (i : Int))]) (fun i v6 cs6 => ownH v6 cs6 5 ++ R) (fun i v6 cs6 => i ≤ vs.length ∧ Row v6 cs6 1 (parts (vs.take i)).length (byteV (parts (vs.take i)))) (fun i v6 cs6 => vs.length - i) 0 v6 cs6 ⟨Nat.zero_le _, by simpa [parts, byteV] using hrow6⟩ ⟨rfl, rfl, rfl, rfl, trivial⟩ (by repeat (first | exact Sel.all | exact Sel.none | (apply Sel.one; · repeat (first | exact Pick.h | apply Pick.t | apply Pick.app)) | apply Sel.app | (with_reducible apply Sel.grp; · repeat (first | exact PickF.h | apply PickF.t | apply PickF.a)) | (with_reducible refine Sel.nilF (by with_unfolding_all rfl) ?_) | apply Sel.drop | apply Sel.dropF)) ?_
      rintro i v6 cs6 ⟨hi, hrow6⟩
      refine wc_seq ?_
      refine wc_region ?_
      refine wl rfl (OP.evb rfl rfl (eLt rfl rfl) fun t25 h25 => ?_)
      refine wl_nil ?_
      refine wc_seq ?_
      cases t25 with
      | true =>
        try have c_t25 := dt h25
        first
        | (exfalso; omega)
        | (
          refine wc_then rfl ?_
          refine wc_skip ?_
          refine wc_seq ?_
          refine wc_block ?_
          refine wc_seq ?_
          obtain ⟨p, hp⟩ : ∃ c, vs[i]? = some c := ⟨_, List.getElem?_eq_getElem (by omega)⟩
          have hpr := hr p (List.mem_of_getElem? hp)
          have hnx := parts_next hp
          have hnl := congrArg List.length hnx
          rw [List.length_append] at hnl
          have hle := parts_le vs (i + 1)
          rcases hs.2 with ⟨h0, _⟩ | ⟨ub, uo, uc, rfl, hu1, hu2⟩
          · exfalso; omega
          refine wc_region ?_
          refine wl rfl (OP.ev rfl rfl (eIx ty106 ty49 rfl rfl (by omega) (by omega)) ?_)
          refine wl rfl (OP.ev rfl rfl (eLdR (off := uo) (cells := vs.map (·.1)) (v := p.1) ty49 rfl rfl (hu2.sel (by repeat (first | exact Sel.all | exact Sel.none | (apply Sel.one; · repeat (first | exact Pick.h | apply Pick.t | apply Pick.app)) | apply Sel.app | (with_reducible apply Sel.grp; · repeat (first | exact PickF.h | apply PickF.t | apply PickF.a)) | (with_reducible refine Sel.nilF (by with_unfolding_all rfl) ?_) | apply Sel.drop | apply Sel.dropF))) i (by omega) (by rw [List.getElem?_map, hp]; rfl)) ?_)
          refine wl rfl (OP.ev rfl rfl (eAs rfl) ?_)
          refine wl_nil ?_
          refine wc_region ?_
          refine wl rfl (OP.ev rfl rfl (eMv rfl) ?_)
          refine wl rfl (OP.ev rfl rfl (eMv rfl) ?_)
          refine wl rfl (oApp (m := p.2.length) (news := byteV p.2) rfl ty49 ty5 rfl rfl rfl hrow6 (by repeat (first | exact At.cell | exact At.h | apply At.t | apply At.a)) (hpr.sel (by repeat (first | exact Sel.all | exact Sel.none | (apply Sel.one; · repeat (first | exact Pick.h | apply Pick.t | apply Pick.app)) | apply Sel.app | (with_reducible apply Sel.grp; · repeat (first | exact PickF.h | apply PickF.t | apply PickF.a)) | (with_reducible refine Sel.nilF (by with_unfolding_all rfl) ?_) | apply Sel.drop | apply Sel.dropF))) (byteV_one _) (by omega) (by omega) ?_)
          rintro v6' cs6' hrow6' _
          refine wl rfl (OP.ev rfl rfl (eAs rfl) ?_)
          refine wl_nil ?_
          refine wc_region ?_
          first | refine wl rfl (OP.ev rfl rfl (eAdd rfl rfl (by omega)) ?_) | refine wl rfl (OP.ev rfl rfl (eAddW rfl rfl) ?_)
          refine wl rfl (OP.ev rfl rfl (eMv rfl) ?_)
          refine wl_nil ?_
          exact ⟨i + 1, v6', cs6', ⟨by omega, by rw [hnx, List.length_append, byteV_app]; exact hrow6'⟩, by omega, ⟨rfl, rfl, rfl, rfl, trivial⟩, (by repeat (first | exact Sel.all | exact Sel.none | (apply Sel.one; · repeat (first | exact Pick.h | apply Pick.t | apply Pick.app)) | apply Sel.app | (with_reducible apply Sel.grp; · repeat (first | exact PickF.h | apply PickF.t | apply PickF.a)) | (with_reducible refine Sel.nilF (by with_unfolding_all rfl) ?_) | apply Sel.drop | apply Sel.dropF))⟩)
      | false =>
        try have c_t25 := df h25
        first
        | (exfalso; omega)
        | (
          refine wc_else rfl ?_
          refine wc_exit rfl ?_
          refine wc_seq ?_
          refine wc_region ?_
          refine wl rfl (OP.ev rfl rfl (eMv rfl) ?_)
          refine wl rfl (OP.ev rfl rfl (eAs rfl) ?_)
          refine wl_nil ?_
          refine wc_ret ?_
          apply at_ret rfl
          · exact (.cons (.tmp rfl) .nil)
          · have hi : i = vs.length := by omega
            rw [hi, List.take_length] at hrow6
            exact ⟨cs6, hrow6, rfl⟩
          · exact (by repeat (first | exact Sel.all | exact Sel.none | (apply Sel.one; · repeat (first | exact Pick.h | apply Pick.t | apply Pick.app)) | apply Sel.app | (with_reducible apply Sel.grp; · repeat (first | exact PickF.h | apply PickF.t | apply PickF.a)) | (with_reducible refine Sel.nilF (by with_unfolding_all rfl) ?_) | apply Sel.drop | apply Sel.dropF))))

/-- a number's groups of seven bits that others follow, and all of them -/
def hi (m : Nat) : List Int := if h : m = 0 then [] else hi (m / 128) ++ [(m : Int) % 128 + 128]
termination_by m
decreasing_by omega
def dg (m : Nat) : List Int := hi (m / 128) ++ [(m : Int) % 128]
theorem hi_zero : hi 0 = [] := by rw [hi]; simp
theorem hi_pos {m : Nat} (h : 0 < m) : hi m = hi (m / 128) ++ [(m : Int) % 128 + 128] := by rw [hi, dif_neg (by omega)]
theorem hi_isB : ∀ m, IsB (hi m) := by
  intro m
  induction m using Nat.strongRecOn with
  | ind m ih =>
    rcases Nat.eq_zero_or_pos m with rfl | h
    · rw [hi_zero]; intro x hx; simp at hx
    · rw [hi_pos h]
      intro x hx
      rcases List.mem_append.1 hx with hx | hx
      · exact ih _ (by omega) x hx
      · simp at hx; omega
theorem dg_isB (m : Nat) : IsB (dg m) := by
  intro x hx
  rcases List.mem_append.1 hx with hx | hx
  · exact hi_isB _ x hx
  · simp at hx; omega
theorem hi_len : ∀ (k m : Nat), m < 128 ^ k → (hi m).length ≤ k := by
  intro k
  induction k with
  | zero => intro m h; have : m = 0 := by simpa using h
            subst this; rw [hi_zero]; simp
  | succ k ih =>
    intro m h
    rcases Nat.eq_zero_or_pos m with rfl | h0
    · rw [hi_zero]; simp
    · rw [hi_pos h0, List.length_append]
      have := ih (m / 128) (by rw [Nat.div_lt_iff_lt_mul (by decide)]; rwa [Nat.pow_succ] at h)
      simp; omega
theorem dg_len {m : Nat} (h : m < 9223372036854775808) : (dg m).length ≤ 9 := by
  have := hi_len 8 (m / 128) (by have : (128 : Nat) ^ 8 = 72057594037927936 := by decide
                                 rw [this]; omega)
  unfold dg; rw [List.length_append]; simp; omega
theorem dg_pos (m : Nat) : 0 < (dg m).length := by unfold dg; simp

theorem Eng.eMaxN {P : Program} {n : Nat} {l : Env} {L : Heap} {ty : TypeId} {pos : String} {af : Array Edge} {gd : Option (Nat × Bool)} {D : Option Nat} {x y : Operand} {ts : Array TypeId} {k : IntKind} {p : Int} (hx : evo l x = some (.int k p)) (hy : evo l y = some (.int k 0)) :
    EV P n W0 ⟨D, .call ⟨.builtin .max, #[x, y], ts⟩, ty, pos, af, gd⟩ l L (.int k (p.toNat : Int)) := by
  have := eMax (P := P) (n := n) (W0 := W0) (L := L) (D := D) (ty := ty) (pos := pos) (af := af) (gd := gd) (ts := ts) hx hy
  rwa [show max p 0 = (p.toNat : Int) by omega] at this

theorem Eng.eAddB {P : Program} {n : Nat} {l : Env} {L : Heap} {ty : TypeId} {pos : String} {af : Array Edge} {gd : Option (Nat × Bool)} {D : Option Nat} {xt yt : TypeId} {x y : Operand} {p q : Int} (hx : evo l x = some (.int .u8 p)) (hy : evo l y = some (.int .u8 q)) (h0 : 0 ≤ p + q) (h1 : p + q < 256) :
    EV P n W0 ⟨D, .binOp .add xt x y yt, ty, pos, af, gd⟩ l L (.int .u8 (p + q)) := by
  have := eAddW (P := P) (n := n) (W0 := W0) (L := L) (D := D) (xt := xt) (yt := yt) (ty := ty) (pos := pos) (af := af) (gd := gd) hx hy
  rwa [IntKind.wrap_u8, show (p + q) % 256 = p + q by omega] at this

theorem set_drop {G : Array Value} {k : Nat} {v : Value} (h : k < G.size) : (G.setIfInBounds k v).toList.drop k = v :: G.toList.drop (k + 1) := by
  rw [Array.toList_setIfInBounds]
  have hl : k < (G.toList.set k v).length := by simpa using h
  rw [List.drop_eq_getElem_cons hl]
  simp [List.drop_set_of_lt]

theorem num_step {m N : Nat} {suf : List Int} {G : Array Value} (h0 : 0 < m) (hG : G.size = 9) (hs8 : suf.length ≤ 8) (hdrop : G.toList.drop (9 - suf.length) = byteV suf) (hhi : hi m ++ suf = dg N) (hm : m < 128 ^ (9 - suf.length)) :
    (G.setIfInBounds (9 - suf.length - 1) (.int .u8 ((m : Int) % 128 + 128))).size = 9 ∧ 1 ≤ (((m : Int) % 128 + 128) :: suf).length ∧ (((m : Int) % 128 + 128) :: suf).length ≤ 9 ∧
      (G.setIfInBounds (9 - suf.length - 1) (.int .u8 ((m : Int) % 128 + 128))).toList.drop (9 - (((m : Int) % 128 + 128) :: suf).length) = byteV (((m : Int) % 128 + 128) :: suf) ∧
      hi (m / 128) ++ (((m : Int) % 128 + 128) :: suf) = dg N ∧ m / 128 < 128 ^ (9 - (((m : Int) % 128 + 128) :: suf).length) := by
  have hl : (((m : Int) % 128 + 128) :: suf).length = suf.length + 1 := rfl
  refine ⟨by simpa using hG, by omega, by omega, ?_, ?_, ?_⟩
  · rw [hl, show 9 - (suf.length + 1) = 9 - suf.length - 1 by omega, set_drop (by omega), show 9 - suf.length - 1 + 1 = 9 - suf.length by omega, hdrop]; rfl
  · rw [← hhi, hi_pos h0, List.append_assoc]; rfl
  · rw [hl, Nat.div_lt_iff_lt_mul (by decide), ← Nat.pow_succ, show (9 - (suf.length + 1)).succ = 9 - suf.length by omega]; exact hm

theorem Eng.Rs.isSlice {L : Heap} {v : Value} {sz k : Nat} {cells : List Value} (h : Rs W0 L v sz k cells) : ∃ ad k c, v = .slice ad k c := by
  rcases h.2 with ⟨_, ad, cap, rfl⟩ | ⟨b, off, cap, rfl, _, _⟩
  · exact ⟨_, _, _, rfl⟩
  · exact ⟨_, _, _, rfl⟩

theorem number_ok (v : Value) (bs : List Int) (n : Int) (hn : n < 9223372036854775808) (R : Heap) (hv : Rs W0 R v 1 bs.length (byteV bs)) (hl : bs.length ≤ 35184372088832) :
    FnC W0 Try.prog 34 #[v, i64 n] R (fun v' L' => ∃ cs, Row v' cs 1 (bs ++ dg n.toNat).length (byteV (bs ++ dg n.toNat)) ∧ L' = ownH v' cs 5 ++ R) := by
  have hp8 : (128 : Nat) ^ 8 = 72057594037927936 := by decide
  obtain ⟨ad0, k0, c0, rfl⟩ := hv.isSlice
  refine fn_of Try.func34 rfl Try.ntmps34 rfl rfl ?_
  refine wc_seq ?_
  refine wc_region ?_
  refine wl rfl (OP.ev rfl rfl (eAs rfl) ?_)
  refine wl_nil ?_
  refine wc_seq ?_
  refine wc_region ?_
  refine wl rfl (OP.ev rfl rfl (eMv rfl) ?_)
  refine wl rfl (OP.ev rfl rfl (eMaxN rfl rfl) ?_)
  refine wl rfl (OP.ev rfl rfl (eAs rfl) ?_)
  refine wl_nil ?_
  refine wc_seq ?_
  refine wc_region ?_
  refine wl rfl (oAl rfl ty92 rfl fun b5 => ?_)
  refine wl_nil ?_
  refine wc_seq ?_
  refine wc_region ?_
  refine wl rfl (OP.ev rfl rfl (eAs rfl) ?_)
  refine wl_nil ?_
  refine wc_seq ?_
  refine wc_region ?_
  refine wl rfl (OP.ev rfl rfl (eMv rfl) ?_)
  refine wl rfl (OP.ev rfl rfl (eMv rfl) ?_)
  refine wl rfl (OP.ev rfl rfl (eAnd127 rfl rfl (by omega) (by omega)) ?_)
  refine wl rfl (OP.ev rfl rfl (eCvU8 ty3 ty5 rfl (by omega) (by omega)) ?_)
  refine wl rfl (OP.ev rfl rfl (eIxA ty92 ty5 rfl rfl (by omega) (by omega)) ?_)
  refine wl rfl (oSt (cs := #[.int .u8 0, .int .u8 0, .int .u8 0, .int .u8 0, .int .u8 0, .int .u8 0, .int .u8 0, .int .u8 0, .int .u8 0]) (o' := .cells #[.int .u8 0, .int .u8 0, .int .u8 0, .int .u8 0, .int .u8 0, .int .u8 0, .int .u8 0, .int .u8 0, .int .u8 ((n.toNat : Int) % 128)] 92 (0, 0)) ty5 rfl rfl rfl rfl (by repeat (first | exact Upd.h | apply Upd.t | apply Upd.app)) (by decide) (by decide) ?_)
  refine wl_nil ?_
  refine wc_seq ?_
  refine wc_seq ?_
  refine wc_region ?_
  refine wl rfl (OP.ev rfl rfl (eMv rfl) ?_)
  refine wl rfl (OP.ev rfl rfl (eShr7 rfl rfl rfl) ?_)
  refine wl rfl (OP.ev rfl rfl (eAs rfl) ?_)
  refine wl_nil ?_
  refine wc_block ?_
  refine wc_loop3 (fun (m : Nat) (suf : List Int) (G : Array Value) => [(0, .slice ad0 k0 c0), (5, ptr b5), (6, i64 (9 - (suf.length : Int))), (1, i64 (m : Int))]) (fun m suf G => (b5, .cells G 92 (0, 0)) :: R) (fun m suf G => G.size = 9 ∧ 1 ≤ suf.length ∧ suf.length ≤ 9 ∧ G.toList.drop (9 - suf.length) = byteV suf ∧ hi m ++ suf = dg n.toNat ∧ m < 128 ^ (9 - suf.length)) (fun m suf G => m) (n.toNat / 128) [(n.toNat : Int) % 128] _ ⟨rfl, by simp, by simp, rfl, rfl, by show _ < 128 ^ 8; omega⟩ ⟨rfl, rfl, rfl, rfl, trivial⟩ (by repeat (first | exact Sel.all | exact Sel.none | (apply Sel.one; · repeat (first | exact Pick.h | apply Pick.t | apply Pick.app)) | apply Sel.app | (with_reducible apply Sel.grp; · repeat (first | exact PickF.h | apply PickF.t | apply PickF.a)) | (with_reducible refine Sel.nilF (by with_unfolding_all rfl) ?_) | apply Sel.drop | apply Sel.dropF)) ?_
  rintro m suf G ⟨hG, hs1, hs9, hdrop, hhi, hm⟩
  refine wc_seq ?_
  refine wc_seq ?_
  refine wc_region ?_
  refine wl rfl (OP.ev rfl rfl (eMv rfl) ?_)
  refine wl rfl (OP.evb rfl rfl (eGt rfl rfl) fun t17 h17 => ?_)
  refine wl_nil ?_
  cases t17 with
  | true =>
    try have c_t17 := dt h17
    first
    | (exfalso; omega)
    | (
      refine wc_then rfl ?_
      refine wc_skip ?_
      refine wc_seq ?_
      refine wc_block ?_
      refine wc_seq ?_
      have hs8 : suf.length ≤ 8 := by
        rcases Nat.lt_or_ge suf.length 9 with h | h
        · omega
        · rw [show 9 - suf.length = 0 by omega] at hm; simp at hm; omega
      have hm8 : m < 72057594037927936 := by
        have := Nat.pow_le_pow_right (show 0 < 128 by decide) (show 9 - suf.length ≤ 8 by omega)
        omega
      refine wc_region ?_
      refine wl rfl (OP.ev rfl rfl (eMv rfl) ?_)
      first | refine wl rfl (OP.ev rfl rfl (eSub rfl rfl (by omega)) ?_) | refine wl rfl (OP.ev rfl rfl (eSubW rfl rfl) ?_)
      refine wl rfl (OP.ev rfl rfl (eAs rfl) ?_)
      refine wl_nil ?_
      refine wc_region ?_
      refine wl rfl (OP.ev rfl rfl (eMv rfl) ?_)
      refine wl rfl (OP.ev rfl rfl (eMv rfl) ?_)
      refine wl rfl (OP.ev rfl rfl (eAnd127 rfl rfl (by omega) (by omega)) ?_)
      refine wl rfl (OP.ev rfl rfl (eCvU8 ty3 ty5 rfl (by omega) (by omega)) ?_)
      refine wl rfl (OP.ev rfl rfl (eOr128 rfl rfl (by omega) (by omega)) ?_)
      refine wl rfl (OP.ev rfl rfl (eIxA ty92 ty5 rfl rfl (by omega) (by omega)) ?_)
      refine wl rfl (oSt (cs := G) (o' := .cells (G.setIfInBounds (9 - suf.length - 1) (.int .u8 ((m : Int) % 128 + 128))) 92 (0, 0)) ty5 rfl rfl rfl (by congr 2; omega) (by repeat (first | exact Upd.h | apply Upd.t | apply Upd.app)) (by omega) (by simp) ?_)
      refine wl_nil ?_
      refine wc_region ?_
      refine wl rfl (OP.ev rfl rfl (eMv rfl) ?_)
      refine wl rfl (OP.ev rfl rfl (eShr7 rfl rfl rfl) ?_)
      refine wl rfl (OP.ev rfl rfl (eAs rfl) ?_)
      refine wl_nil ?_
      exact ⟨m / 128, ((m : Int) % 128 + 128) :: suf, _, num_step (by omega) hG hs8 hdrop hhi hm, by omega, ⟨rfl, rfl, by show some (i64 _) = some (i64 _); congr 2; simp; omega, rfl, trivial⟩, (by repeat (first | exact Sel.all | exact Sel.none | (apply Sel.one; · repeat (first | exact Pick.h | apply Pick.t | apply Pick.app)) | apply Sel.app | (with_reducible apply Sel.grp; · repeat (first | exact PickF.h | apply PickF.t | apply PickF.a)) | (with_reducible refine Sel.nilF (by with_unfolding_all rfl) ?_) | apply Sel.drop | apply Sel.dropF))⟩)
  | false =>
    try have c_t17 := df h17
    first
    | (exfalso; omega)
    | (
      refine wc_else rfl ?_
      refine wc_exit rfl ?_
      refine wc_seq ?_
      obtain rfl : m = 0 := by omega
      have hsuf : suf = dg n.toNat := by rw [hi_zero] at hhi; exact hhi
      have hsl := dg_len (show n.toNat < 9223372036854775808 by omega)
      refine wc_region ?_
      refine wl rfl (OP.ev rfl rfl (eMv rfl) ?_)
      refine wl rfl (OP.ev rfl rfl (eMv rfl) ?_)
      refine wl rfl (OP.ev rfl rfl (eSlA ty92 ty5 rfl rfl (by omega) (by omega)) ?_)
      refine wl rfl (oBSw (vs := [_, _]) rfl ty106 ty49 rfl rfl rfl rfl rfl rfl fun b31 => ?_)
      refine wl rfl (oC (L1 := _) rfl pf48 rfl (join_ok _ [(.slice ad0 k0 c0, bs), (.slice (some ⟨b5, 0 + (9 - (suf.length : Int)).toNat * 1, none⟩) (9 - (9 - (suf.length : Int)).toNat) (9 - (9 - (suf.length : Int)).toNat), suf)] _ (Rs.mk (Rc.of_has (by repeat (first | exact Has.h | apply Has.t | apply Has.app)) rfl) rfl (Nat.le_refl _)) ?hr (by simp) (by simp [parts]; omega)) Sel.all ?_)
      case hr =>
        intro p hp
        simp at hp
        rcases hp with rfl | rfl
        · exact hv.sel (by repeat (first | exact Sel.all | exact Sel.none | (apply Sel.one; · repeat (first | exact Pick.h | apply Pick.t | apply Pick.app)) | apply Sel.app | (with_reducible apply Sel.grp; · repeat (first | exact PickF.h | apply PickF.t | apply PickF.a)) | (with_reducible refine Sel.nilF (by with_unfolding_all rfl) ?_) | apply Sel.drop | apply Sel.dropF))
        · have e1 : 9 - (9 - (suf.length : Int)).toNat = suf.length := by omega
          have e2 : 0 + (9 - (suf.length : Int)).toNat * 1 = 9 - suf.length := by omega
          have hsc : (G.toList.drop (9 - suf.length)).take (byteV suf).length = byteV suf := by rw [hdrop, List.take_length]
          have e3 : 9 - (9 - suf.length) = suf.length := by omega
          simp only [e1, e2, e3]
          refine Rs.mk (cells := byteV suf) ?_ (by rw [byteV_len, Nat.mul_one]) (Nat.le_refl _)
          exact Rc.of_has (by repeat (first | exact Has.h | apply Has.t | apply Has.app)) hsc
      rintro v' _ ⟨cs', hrow', rfl⟩
      refine wl rfl (OP.ev rfl rfl (eAs rfl) ?_)
      refine wl_nil ?_
      refine wc_ret ?_
      apply at_ret rfl
      · exact (.cons (.tmp rfl) .nil)
      · simp [parts] at hrow'
        rw [hsuf] at hrow'
        exact ⟨cs', by simpa [shutv] using hrow', rfl⟩
      · exact (by repeat (first | exact Sel.all | exact Sel.none | (apply Sel.one; · repeat (first | exact Pick.h | apply Pick.t | apply Pick.app)) | apply Sel.app | (with_reducible apply Sel.grp; · repeat (first | exact PickF.h | apply PickF.t | apply PickF.a)) | (with_reducible refine Sel.nilF (by with_unfolding_all rfl) ?_) | apply Sel.drop | apply Sel.dropF)))

theorem Eng.Row.set1 {b cap k : Nat} {cs : Array Value} {xs : List Value} (h : Row (.slice (some ⟨b, 0, none⟩) k cap) cs 1 k xs) {j : Nat} (hj : j < k) (u : Value) : Row (.slice (some ⟨b, 0, none⟩) k cap) (cs.setIfInBounds j u) 1 k (xs.set j u) := by
  obtain ⟨h1, h2⟩ := h
  rcases h2 with ⟨h3, _⟩ | ⟨b', cap', h3, h4, h5, h6⟩
  · cases h3
  · cases h3
    refine ⟨by simpa using h1, .inr ⟨b, cap, rfl, h4, by simpa using h5, ?_⟩⟩
    rw [Array.toList_setIfInBounds, List.take_set, h6]

theorem row_small {b N : Nat} {n : Int} (hN : n.toNat = N) (h : n < 128) : Row (.slice (some ⟨b, 0, none⟩) 1 1) #[.int .u8 (n.toNat : Int)] 1 (dg N).length (byteV (dg N)) := by
  have e : dg N = [(N : Int)] := by
    unfold dg
    rw [show N / 128 = 0 by omega, hi_zero, show (N : Int) % 128 = N by omega]; rfl
  rw [e, hN]
  exact Row.mk (Nat.le_refl _) rfl rfl
theorem row_big {v : Value} {cs : Array Value} {N : Nat} {n : Int} (hN : n.toNat = N) (h : 128 ≤ n) (hrow : Row v cs 1 ((dg (N / 128)).length + 1) (byteV (hi (N / 128)) ++ [.int .u8 (n % 128)])) : Row v cs 1 (dg N).length (byteV (dg N)) := by
  have e : dg N = hi (N / 128) ++ [n % 128] := by
    unfold dg
    rw [show (N : Int) % 128 = n % 128 by omega]
  have e2 : (dg N).length = (dg (N / 128)).length + 1 := by
    rw [e]; unfold dg; rw [hi_pos (show 0 < N / 128 by omega)]; simp
  rw [e2, e, byteV_app]; exact hrow

theorem digits_ok : ∀ (N : Nat) (n : Int) (hN : n.toNat = N) (hn : n < 9223372036854775808) (R : Heap), FnC W0 Try.prog 60 #[i64 n] R (fun v L' => ∃ cs, Row v cs 1 (dg N).length (byteV (dg N)) ∧ L' = ownH v cs 5 ++ R) := by
  intro N
  induction N using Nat.strongRecOn with
  | ind N ih =>
    intro n hN hn R
    refine fn_of Try.func60 rfl Try.ntmps60 rfl rfl ?_
    refine wc_seq ?_
    refine wc_region ?_
    refine wl rfl (OP.ev rfl rfl (eAs rfl) ?_)
    refine wl_nil ?_
    refine wc_seq ?_
    refine wc_seq ?_
    refine wc_region ?_
    refine wl rfl (OP.ev rfl rfl (eMv rfl) ?_)
    refine wl rfl (OP.evb rfl rfl (eLt rfl rfl) fun t5 h5 => ?_)
    refine wl_nil ?_
    cases t5 with
    | true =>
      try have c_t5 := dt h5
      first
      | (exfalso; omega)
      | (
        refine wc_then rfl ?_
        refine wc_seq ?_
        refine wc_region ?_
        refine wl rfl (OP.ev rfl rfl (eMv rfl) ?_)
        refine wl rfl (OP.ev rfl rfl (eMaxN rfl rfl) ?_)
        refine wl rfl (OP.ev rfl rfl (eCvU8 ty3 ty5 rfl (by omega) (by omega)) ?_)
        refine wl rfl (oBSw (vs := [_]) rfl ty49 ty5 rfl rfl rfl rfl rfl rfl fun b9 => ?_)
        refine wl rfl (OP.ev rfl rfl (eAs rfl) ?_)
        refine wl_nil ?_
        refine wc_ret ?_
        apply at_ret rfl
        · exact (.cons (.tmp rfl) .nil)
        · first | exact ⟨#[.int .u8 (n.toNat : Int)], row_small hN (by omega), rfl⟩ | exact ⟨cs26, row_big hN (by omega) hrow26, rfl⟩
        · exact (by repeat (first | exact Sel.all | exact Sel.none | (apply Sel.one; · repeat (first | exact Pick.h | apply Pick.t | apply Pick.app)) | apply Sel.app | (with_reducible apply Sel.grp; · repeat (first | exact PickF.h | apply PickF.t | apply PickF.a)) | (with_reducible refine Sel.nilF (by with_unfolding_all rfl) ?_) | apply Sel.drop | apply Sel.dropF)))
    | false =>
      try have c_t5 := df h5
      first
      | (exfalso; omega)
      | (
        refine wc_else rfl ?_
        refine wc_skip ?_
        refine wc_seq ?_
        refine wc_region ?_
        refine wl rfl (OP.ev rfl rfl (eMv rfl) ?_)
        refine wl rfl (OP.ev rfl rfl (eQuo rfl rfl (by omega) (by omega) (by omega)) ?_)
        refine wl rfl (oC rfl pf60 rfl (ih (N / 128) (by omega) (n / 128) (by omega) (by omega) _) (by repeat (first | exact Sel.all | exact Sel.none | (apply Sel.one; · repeat (first | exact Pick.h | apply Pick.t | apply Pick.app)) | apply Sel.app | (with_reducible apply Sel.grp; · repeat (first | exact PickF.h | apply PickF.t | apply PickF.a)) | (with_reducible refine Sel.nilF (by with_unfolding_all rfl) ?_) | apply Sel.drop | apply Sel.dropF)) ?_)
        rintro v12 _ ⟨cs12, hrow, rfl⟩
        refine wl rfl (OP.ev rfl rfl (eAs rfl) ?_)
        refine wl_nil ?_
        refine wc_seq ?_
        have hdl := dg_len (show N / 128 < 9223372036854775808 by omega)
        have hdp := dg_pos (N / 128)
        rcases hrow.2 with ⟨_, h0⟩ | ⟨b12, cap12, rfl, h121, h122, h123⟩
        · exfalso; omega
        have hlast : (byteV (dg (N / 128)))[(dg (N / 128)).length - 1]? = some (.int .u8 ((N / 128 : Nat) % 128 : Int)) := by
          unfold dg byteV; simp
        have hset : (byteV (dg (N / 128))).set ((dg (N / 128)).length - 1) (.int .u8 (((N / 128 : Nat) % 128 : Int) + 128)) = byteV (hi (N / 128)) := by
          rw [hi_pos (show 0 < N / 128 by omega)]; unfold dg byteV; simp
        refine wc_region ?_
        refine wl rfl (OP.ev rfl rfl (eMv rfl) ?_)
        refine wl rfl (OP.ev rfl rfl (eMv rfl) ?_)
        refine wl rfl (OP.ev rfl rfl (eLenRow ty49 rfl hrow) ?_)
        first | refine wl rfl (OP.ev rfl rfl (eSub rfl rfl (by omega)) ?_) | refine wl rfl (OP.ev rfl rfl (eSubW rfl rfl) ?_)
        refine wl rfl (OP.ev rfl rfl (eIx ty49 ty5 rfl rfl (by omega) (by omega)) ?_)
        refine wl rfl (OP.ev rfl rfl (eLdR (off := 0) (cells := byteV (dg (N / 128))) ty5 rfl rfl (Rc.of_has (by repeat (first | exact Has.h | apply Has.t | apply Has.app)) (by rw [hrow.1]; exact h123)) ((dg (N / 128)).length - 1) (by omega) hlast) ?_)
        refine wl rfl (OP.ev rfl rfl (eAddB rfl rfl (by omega) (by omega)) ?_)
        refine wl rfl (OP.ev rfl rfl (eIx ty49 ty5 rfl rfl (by omega) (by omega)) ?_)
        refine wl rfl (oSt (cs := cs12) (o' := .cells (cs12.setIfInBounds ((dg (N / 128)).length - 1) (.int .u8 (((N / 128 : Nat) % 128 : Int) + 128))) 5 (0, 0)) ty5 rfl rfl rfl (by congr 2; omega) (by repeat (first | exact Upd.h | apply Upd.t | apply Upd.app)) (by omega) (by simp) ?_)
        have hrow2 := hrow.set1 (j := (dg (N / 128)).length - 1) (by omega) (.int .u8 (((N / 128 : Nat) % 128 : Int) + 128))
        rw [hset] at hrow2
        refine wl_nil ?_
        refine wc_seq ?_
        refine wc_region ?_
        refine wl rfl (OP.ev rfl rfl (eMv rfl) ?_)
        refine wl rfl (OP.ev rfl rfl (eMv rfl) ?_)
        refine wl rfl (OP.ev rfl rfl (eRemP rfl rfl (by omega) rfl) ?_)
        refine wl rfl (OP.ev rfl rfl (eCvU8 ty3 ty5 rfl (by omega) (by omega)) ?_)
        refine wl rfl (oBSw (vs := [_]) rfl ty49 ty5 rfl rfl rfl rfl rfl rfl fun b25 => ?_)
        refine wl rfl (oApp (m := 1) (news := [.int .u8 (n % 128)]) rfl ty49 ty5 rfl rfl rfl hrow2 (by repeat (first | exact At.cell | exact At.h | apply At.t | apply At.a)) (Rs.mk (Rc.of_has (by repeat (first | exact Has.h | apply Has.t | apply Has.app)) rfl) rfl (Nat.le_refl _)) rfl (by omega) (by omega) ?_)
        rintro v26 cs26 hrow26 _
        refine wl rfl (OP.ev rfl rfl (eAs rfl) ?_)
        refine wl_nil ?_
        refine wc_ret ?_
        apply at_ret rfl
        · exact (.cons (.tmp rfl) .nil)
        · first | exact ⟨#[.int .u8 (n.toNat : Int)], row_small hN (by omega), rfl⟩ | exact ⟨cs26, row_big hN (by omega) hrow26, rfl⟩
        · exact (by repeat (first | exact Sel.all | exact Sel.none | (apply Sel.one; · repeat (first | exact Pick.h | apply Pick.t | apply Pick.app)) | apply Sel.app | (with_reducible apply Sel.grp; · repeat (first | exact PickF.h | apply PickF.t | apply PickF.a)) | (with_reducible refine Sel.nilF (by with_unfolding_all rfl) ?_) | apply Sel.drop | apply Sel.dropF)))

theorem number1_ok (v : Value) (bs : List Int) (n : Int) (hn : n < 9223372036854775808) (R : Heap) (hv : Rs W0 R v 1 bs.length (byteV bs)) (hl : bs.length ≤ 35184372088832) :
    FnC W0 Try.prog 51 #[v, i64 n] R (fun v' L' => ∃ cs, Row v' cs 1 (bs ++ dg n.toNat).length (byteV (bs ++ dg n.toNat)) ∧ L' = ownH v' cs 5 ++ R) := by
  have hdl := dg_len (show n.toNat < 9223372036854775808 by omega)
  refine fn_of Try.func51 rfl Try.ntmps51 rfl rfl ?_
  refine wc_seq ?_
  refine wc_region ?_
  refine wl rfl (OP.ev rfl rfl (eAs rfl) ?_)
  refine wl_nil ?_
  refine wc_seq ?_
  refine wc_region ?_
  refine wl rfl (oBS0 rfl ty49 ty5 fun b5 => ?_)
  refine wl rfl (OP.ev rfl rfl (eMv rfl) ?_)
  refine wl rfl (oApp (m := bs.length) (news := byteV bs) rfl ty49 ty5 rfl rfl rfl (Row.mk (b := b5) (k := 0) (cap := 0) (cs := #[]) (sz := 1) (xs := []) (Nat.le_refl _) rfl rfl) (by repeat (first | exact At.cell | exact At.h | apply At.t | apply At.a)) (hv.sel (by repeat (first | exact Sel.all | exact Sel.none | (apply Sel.one; · repeat (first | exact Pick.h | apply Pick.t | apply Pick.app)) | apply Sel.app | (with_reducible apply Sel.grp; · repeat (first | exact PickF.h | apply PickF.t | apply PickF.a)) | (with_reducible refine Sel.nilF (by with_unfolding_all rfl) ?_) | apply Sel.drop | apply Sel.dropF))) (byteV_one _) (by omega) (by omega) ?_)
  rintro v7 cs7 hrow7 _
  rw [Nat.zero_add, List.nil_append] at hrow7
  refine wl rfl (OP.ev rfl rfl (eMv rfl) ?_)
  refine wl rfl (oC rfl pf60 rfl (digits_ok n.toNat n rfl hn _) (by repeat (first | exact Sel.all | exact Sel.none | (apply Sel.one; · repeat (first | exact Pick.h | apply Pick.t | apply Pick.app)) | apply Sel.app | (with_reducible apply Sel.grp; · repeat (first | exact PickF.h | apply PickF.t | apply PickF.a)) | (with_reducible refine Sel.nilF (by with_unfolding_all rfl) ?_) | apply Sel.drop | apply Sel.dropF)) ?_)
  rintro v9 _ ⟨cs9, hrow9, rfl⟩
  refine wl rfl (oApp (m := (dg n.toNat).length) (news := byteV (dg n.toNat)) rfl ty49 ty5 rfl rfl rfl hrow7 (by repeat (first | exact At.cell | exact At.h | apply At.t | apply At.a)) (hrow9.rs (by repeat (first | exact At.cell | exact At.h | apply At.t | apply At.a))) (byteV_one _) (by omega) (by omega) ?_)
  rintro v10 cs10 hrow10 _
  rw [← byteV_app, ← List.length_append] at hrow10
  refine wl rfl (OP.ev rfl rfl (eAs rfl) ?_)
  refine wl_nil ?_
  refine wc_ret ?_
  apply at_ret rfl
  · exact (.cons (.tmp rfl) .nil)
  · exact ⟨cs10, hrow10, rfl⟩
  · exact (by repeat (first | exact Sel.all | exact Sel.none | (apply Sel.one; · repeat (first | exact Pick.h | apply Pick.t | apply Pick.app)) | apply Sel.app | (with_reducible apply Sel.grp; · repeat (first | exact PickF.h | apply PickF.t | apply PickF.a)) | (with_reducible refine Sel.nilF (by with_unfolding_all rfl) ?_) | apply Sel.drop | apply Sel.dropF))
end Go.Proofs.Ytbppeijcfkdhjaa
