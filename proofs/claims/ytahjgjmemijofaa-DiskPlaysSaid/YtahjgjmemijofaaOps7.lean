/- The engine's rules for names (strings told by lists of bytes), beginnings of slices, boxes. No statement of the seat is proved here. -/
import Derived.Test.YtahjgjmemijofaaMapS
import Derived.Test.YtahjgjmemijofaaOps6
import Derived.Laws.IdiomStrings
import Derived.Sort.Walk0
namespace Go.Proofs.Ytahjgjmemijofaa.Eng
open Go
set_option linter.unusedVariables false
set_option linter.unusedSimpArgs false

variable {P : Program} {n : Nat} {W0 : World} {l : Env} {L : Heap} {K : Env → Heap → Prop} {o : Oper}
variable {d : Nat} {ty : TypeId} {pos : String} {af : Array Edge} {gd : Option (Nat × Bool)}

theorem strK_size (k : Nm) : (⟨k.toArray⟩ : ByteArray).size = k.length := by show k.toArray.size = _; simp
theorem strK_list (k : Nm) : (⟨k.toArray⟩ : ByteArray).toList = k := by
  rw [ByteArray.toList_eq]
theorem strKOk' {kt : TypeId} {a1 a2 : Nat} {z : Option Value} (ht : tinf P kt = some (.string, a1, a2, z)) : KOk P kt strK where
  now := by
    obtain ⟨kd, h1, h2⟩ := (strKOk ht).now
    refine ⟨kd, h1, fun a b => ?_⟩
    show Instr.sameNow kd (.string ⟨a.toArray⟩) (.string ⟨b.toArray⟩) = _
    rw [h2]
    congr 1
    rw [Bool.eq_iff_iff]
    simp
  chk := fun e a w => (strKOk ht).chk e _ w
  bits := fun a => (strKOk ht).bits _

theorem eLenK {D : Option Nat} {x : Operand} {t : TypeId} {a1 a2 : Nat} {z1 : Option Value} {k : Nm}
    (ht : tinf P t = some (.string, a1, a2, z1)) (hx : evo l x = some (strK k)) : EV P n W0 ⟨D, .call ⟨.builtin .len, #[x], #[t]⟩, ty, pos, af, gd⟩ l L (.int .i64 (k.length : Int)) := by
  have := eLenStr (P := P) (n := n) (W0 := W0) (L := L) (D := D) (ty := ty) (pos := pos) (af := af) (gd := gd) ht hx
  rwa [strK_size] at this
theorem eEqK {D : Option Nat} {xt yt : TypeId} {x y : Operand} {p q : Nm} (hx : evo l x = some (strK p)) (hy : evo l y = some (strK q)) :
    EV P n W0 ⟨D, .binOp .eql xt x y yt, ty, pos, af, gd⟩ l L (.bool (decide (p = q))) :=
  fun a w ha hs => by
    simp only [execOp, ha.eval hx, ha.eval hy, strK, Go.Proofs.encStr, eqGuard, Sem.run_bind, Sem.run_pure, Result.andThen_ok, binOp_string_eql, strK_list]
    rw [show (p == q) = decide (p = q) by by_cases h : p = q <;> simp [h]]
    simp
theorem eNeK {D : Option Nat} {xt yt : TypeId} {x y : Operand} {p q : Nm} (hx : evo l x = some (strK p)) (hy : evo l y = some (strK q)) :
    EV P n W0 ⟨D, .binOp .neq xt x y yt, ty, pos, af, gd⟩ l L (.bool (decide (p ≠ q))) :=
  fun a w ha hs => by
    simp only [execOp, ha.eval hx, ha.eval hy, strK, Go.Proofs.encStr, eqGuard, Sem.run_bind, Sem.run_pure, Result.andThen_ok, binOp_string_neq, strK_list]
    rw [show (!(p == q)) = decide (p ≠ q) by by_cases h : p = q <;> simp [h]]
    simp
theorem eLtK {D : Option Nat} {xt yt : TypeId} {x y : Operand} {p q : Nm} (hx : evo l x = some (strK p)) (hy : evo l y = some (strK q)) :
    EV P n W0 ⟨D, .binOp .lss xt x y yt, ty, pos, af, gd⟩ l L (.bool (decide (p < q))) :=
  fun a w ha hs => by
    simp only [execOp, ha.eval hx, ha.eval hy, strK, Go.Proofs.encStr, eqGuard, Sem.run_bind, Sem.run_pure, Result.andThen_ok, binOp_string_lss, strK_list, Go.Proofs.bytesLess_eq]
    simp

/-- a name's bytes as numbers -/
def nmB (k : Nm) : List Int := k.map fun c => (c.toNat : Int)
theorem nmB_len (k : Nm) : (nmB k).length = k.length := by simp [nmB]
theorem nmB_isB (k : Nm) : IsB (nmB k) := fun x hx => by
  simp only [nmB, List.mem_map] at hx
  obtain ⟨c, _, rfl⟩ := hx
  have := c.toNat_lt
  omega
/-- a name as bytes -/
theorem oStrB (hdn : Nat.blt d n = true) {s t e : TypeId} {x : Operand} {k : Nm} {a1 a2 b1 b2 c1 c2 : Nat} {z1 z2 z3 : Option Value}
    (hs_ : tinf P s = some (.string, a1, a2, z1)) (ht : tinf P t = some (.slice e, b1, b2, z2)) (he : tinf P e = some (.int .u8, c1, c2, z3)) (hx : evo l x = some (strK k))
    (h : ∀ v b o, Rs W0 ((b, o) :: L) v 1 (nmB k).length (byteV (nmB k)) → (∃ cap, v = .slice (some ⟨b, 0, none⟩) (nmB k).length cap) → K ((d, v) :: l) ((b, o) :: L)) :
    OP P n W0 ⟨some d, .convert s t x, ty, pos, af, gd⟩ l L K :=
  .val rfl hdn fun a w ha hs => by
    have hr := run_bytes_of_string (P := P) w s t e ⟨k.toArray⟩ (tinf_run hs_).1 (tinf_run ht).1 (tinf_run he).1
    have hsz : (⟨k.toArray⟩ : ByteArray).size = (nmB k).length := by rw [strK_size, nmB_len]
    rw [hsz] at hr
    have hcap : (nmB k).length ≤ grownCap w (nmB k).length 0 e := by
      have := grownCap_ge w (nmB k).length 0 e
      omega
    refine ⟨_, _, _, by simp only [execOp, ha.eval hx, strK, Go.Proofs.encStr, Sem.run_bind, hr]; rfl, hs.drew.alloc _, h _ _ _ ?_ ⟨_, rfl⟩⟩
    refine Rs.mk (Rc.of_has Has.h ?_) (by simp [byteV]) hcap
    rw [List.drop_zero]
    have : (bytesRow ⟨k.toArray⟩ (grownCap w (nmB k).length 0 e)).toList = byteV (nmB k) ++ List.replicate (grownCap w (nmB k).length 0 e - (nmB k).length) (.int .u8 0) := by
      simp [bytesRow, byteV, nmB, strK_size]
    rw [this, List.take_left' (by simp [byteV])]

/-- the beginning of a slice -/
def slH : Value → Int → Value
  | .slice ad _ c, j => .slice ad j.toNat c
  | v, _ => v
theorem slH_rs {v : Value} {sz k : Nat} {cells : List Value} (hv : Rs W0 L v sz k cells) {j : Int} (h0 : 0 ≤ j) (h1 : j ≤ k) : Rs W0 L (slH v j) sz j.toNat (cells.take (j.toNat * sz)) := by
  obtain ⟨hc, hv2⟩ := hv
  have hlen : (cells.take (j.toNat * sz)).length = j.toNat * sz := by
    rw [List.length_take, hc]
    have : j.toNat * sz ≤ k * sz := Nat.mul_le_mul_right _ (by omega)
    omega
  rcases hv2 with ⟨rfl, ad, cap, rfl⟩ | ⟨b, off, cap, rfl, hcap, hr⟩
  · obtain rfl : j = 0 := by omega
    refine ⟨hlen, .inl ⟨rfl, ad, cap, rfl⟩⟩
  · exact ⟨hlen, .inr ⟨b, off, cap, rfl, by omega, hr.take _⟩⟩
theorem eSlH {D : Option Nat} {t e : TypeId} {x hi : Operand} {a1 a2 sz by_ : Nat} {z1 z2 : Option Value} {et : TypeDesc} {v : Value} {k : Nat} {cells : List Value} {j : Int} {k2 : IntKind}
    (ht : tinf P t = some (.slice e, a1, a2, z1)) (he : tinf P e = some (et, sz, by_, z2)) (hx : evo l x = some v) (hv : Rs W0 L v sz k cells) (hh : evo l hi = some (.int k2 j)) (h0 : 0 ≤ j) (h1 : j ≤ k) :
    EV P n W0 ⟨D, .slice t x none (some hi) none, ty, pos, af, gd⟩ l L (slH v j) := by
  obtain ⟨hc, hv2⟩ := hv
  intro a w ha hs
  have e3 : ∀ a : Addr, a.add 0 = a := fun a => by simp [Addr.add]
  rcases hv2 with ⟨rfl, ad, cap, rfl⟩ | ⟨b, off, cap, rfl, hcap, hr⟩
  · obtain rfl : j = 0 := by omega
    have e2 := run_bound (P := P) (k := k2) (i := 0) (code := .sliceAcap) (Int.le_refl _) (y := cap) (by omega) w
    cases ad <;> simp [execOp, ha.eval hx, ha.eval hh, Instr.sliceAt, Instr.slice, run_und ht, Instr.sliceBounds, e2, run_size he, e3, slH]
  · have e2 := run_bound (P := P) (k := k2) (code := .sliceAcap) (y := cap) h0 (by omega) w
    simp [execOp, ha.eval hx, ha.eval hh, Instr.sliceAt, Instr.slice, run_und ht, Instr.sliceBounds, e2, run_size he, e3, slH]
theorem oSlH (hdn : Nat.blt d n = true) {t e : TypeId} {x hi : Operand} {a1 a2 sz by_ : Nat} {z1 z2 : Option Value} {et : TypeDesc} {v : Value} {k : Nat} {cells : List Value} {j : Int} {k2 : IntKind}
    (ht : tinf P t = some (.slice e, a1, a2, z1)) (he : tinf P e = some (et, sz, by_, z2)) (hx : evo l x = some v) (hv : Rs W0 L v sz k cells) (hh : evo l hi = some (.int k2 j)) (h0 : 0 ≤ j) (h1 : j ≤ k)
    (h : Rs W0 L (slH v j) sz j.toNat (cells.take (j.toNat * sz)) → K ((d, slH v j) :: l) L) :
    OP P n W0 ⟨some d, .slice t x none (some hi) none, ty, pos, af, gd⟩ l L K :=
  .ev rfl hdn (eSlH ht he hx hv hh h0 h1) (h (slH_rs hv h0 h1))
theorem byteV_take (b : List Int) (j : Nat) : (byteV b).take (j * 1) = byteV (b.take j) := by simp [byteV, List.map_take]
theorem byteV_drop (b : List Int) (j : Nat) : (byteV b).drop (j * 1) = byteV (b.drop j) := by simp [byteV, List.map_drop]
theorem byteV_app (a b : List Int) : byteV (a ++ b) = byteV a ++ byteV b := by simp [byteV]

theorem Sel.rest {L L' : Heap} (h : Sel L L') : ∃ R, L.Perm (L' ++ R) := by
  induction h with
  | all => exact ⟨[], by simp⟩
  | @none L => exact ⟨L, List.Perm.refl _⟩
  | @one L x L1 L2 hp _ ih =>
    obtain ⟨R, hR⟩ := ih
    exact ⟨R, hp.perm.trans (hR.cons x)⟩
  | @drop L x L2 _ ih =>
    obtain ⟨R, hR⟩ := ih
    exact ⟨x :: R, (hR.cons x).trans List.perm_middle.symm⟩
  | perm hp _ ih =>
    obtain ⟨R, hR⟩ := ih
    exact ⟨R, hp.trans hR⟩
theorem Sel.trans {L L1 L2 : Heap} (h1 : Sel L L1) (h2 : Sel L1 L2) : Sel L L2 := by
  obtain ⟨R1, hp1⟩ := h1.rest
  obtain ⟨R2, hp2⟩ := h2.rest
  refine Sel.perm (hp1.trans (hp2.append_right R1)) ?_
  rw [List.append_assoc]
  exact Sel.hd
theorem Rs.isSlice {v : Value} {sz k : Nat} {cells : List Value} (h : Rs W0 L v sz k cells) : ∃ ad k' c, v = .slice ad k' c := by
  rcases h.2 with ⟨_, ad, cap, rfl⟩ | ⟨b, off, cap, rfl, _⟩
  · exact ⟨_, _, _, rfl⟩
  · exact ⟨_, _, _, rfl⟩

/-- a call that is handed all that is known -/
theorem oCA (hdn : Nat.blt d n = true) {f : FuncId} {xs : List Operand} {vs : List Value} {ats : Array TypeId} {post : Value → Heap → Prop}
    (hf : plainFn P f = true) (hxs : evs l xs = some vs) (hc : FnC W0 P f vs.toArray L post) (h : ∀ v L', post v L' → K ((d, v) :: l) L') : OP P n W0 ⟨some d, .call ⟨.value (.func f), xs.toArray, ats⟩, ty, pos, af, gd⟩ l L K :=
  oC hdn hf hxs hc Sel.all h

/-- where a slice's elements lie -/
def slB : Value → Nat
  | .slice (some a) _ _ => a.block
  | _ => 0
def slO : Value → Nat
  | .slice (some a) _ _ => a.off
  | _ => 0
theorem eIxS {D : Option Nat} {t : TypeId} {x i : Operand} {e : TypeId} {a1 a2 sz b2 : Nat} {z1 z2 : Option Value} {et : TypeDesc} {v : Value} {k : Nat} {cells : List Value} {j : Int}
    (ht : tinf P t = some (.slice e, a1, a2, z1)) (he : tinf P e = some (et, sz, b2, z2)) (hx : evo l x = some v) (hr : Rs W0 L v sz k cells) (hi : evo l i = some (.int .i64 j)) (h0 : 0 ≤ j) (h1 : j < k) :
    EV P n W0 ⟨D, .indexAddr t x i, ty, pos, af, gd⟩ l L (.pointer (some ⟨slB v, slO v + j.toNat * sz, none⟩)) := by
  rcases hr.2 with ⟨rfl, h2⟩ | ⟨b, off, cap, rfl, _⟩
  · omega
  · exact eIx ht he hx hi h0 h1
theorem eLdS {D : Option Nat} {t : TypeId} {dd : TypeDesc} {sz by_ s1 : Nat} {z : Option Value} {x : Operand} {o1 k : Nat} {cells : List Value} {v u : Value} (ht : tinf P t = some (dd, s1, by_, z)) (hd : nagg dd = true) (hx : evo l x = some (.pointer (some ⟨slB v, o1, none⟩))) (hr : Rs W0 L v sz k cells) (j : Nat) (ho : o1 = slO v + j) (hv : cells[j]? = some u) :
    EV P n W0 ⟨D, .load t x, ty, pos, af, gd⟩ l L u := by
  rcases hr.2 with ⟨h0, ad, c, rfl⟩ | ⟨b, off, cap, rfl, h3, h4⟩
  · have : cells = [] := List.eq_nil_of_length_eq_zero (by rw [hr.1, h0, Nat.zero_mul])
    rw [this] at hv; cases hv
  · exact eLdR ht hd hx h4 j ho hv
theorem eLdSA {D : Option Nat} {t : TypeId} {dd : TypeDesc} {sz by_ s1 : Nat} {z : Option Value} {x : Operand} {o1 k : Nat} {cells : List Value} {v : Value} {vs : List Value} (ht : tinf P t = some (dd, s1, by_, z)) (hd : nagg dd = false) (hx : evo l x = some (.pointer (some ⟨slB v, o1, none⟩))) (hr : Rs W0 L v sz k cells) (j : Nat) (ho : o1 = slO v + j) (hsz : vs.length = s1) (hv : (cells.drop j).take s1 = vs) (hp : 0 < s1) :
    EV P n W0 ⟨D, .load t x, ty, pos, af, gd⟩ l L (.agg vs.toArray) := by
  rcases hr.2 with ⟨h0, ad, c, rfl⟩ | ⟨b, off, cap, rfl, h3, h4⟩
  · have : cells = [] := List.eq_nil_of_length_eq_zero (by rw [hr.1, h0, Nat.zero_mul])
    rw [this] at hv
    simp at hv
    subst hv
    simp at hsz; omega
  · exact eLdRA ht hd hx h4 j ho hsz hv

theorem Row.one {v : Value} {cs : Array Value} {sz k : Nat} {xs : List Value} (h : Row v cs sz k xs) : v.oneCell' = true := by
  rcases h.2 with ⟨rfl, _⟩ | ⟨b, cap, rfl, _⟩ <;> rfl

/-- a box: a block of one cell -/
theorem eLdB {D : Option Nat} {t : TypeId} {dd : TypeDesc} {by_ sz : Nat} {z : Option Value} {x : Operand} {b : Nat} {v : Value} (ht : tinf P t = some (dd, sz, by_, z)) (hd : nagg dd = true) (hx : evo l x = some (.pointer (some ⟨b, 0, none⟩))) (hr : Rc W0 L b 0 [v]) :
    EV P n W0 ⟨D, .load t x, ty, pos, af, gd⟩ l L v := eLdR ht hd hx hr 0 rfl rfl
theorem eLdRow0 {D : Option Nat} {t : TypeId} {dd : TypeDesc} {by_ s1 : Nat} {z : Option Value} {x : Operand} {b off cap o1 k : Nat} {cells : List Value} {v : Value} (ht : tinf P t = some (dd, s1, by_, z)) (hd : nagg dd = true) (hx : evo l x = some (.pointer (some ⟨b, o1, none⟩))) (hr : Rs W0 L (.slice (some ⟨b, off, none⟩) k cap) 1 k cells) (j : Nat) (ho : o1 = off + j) (hv : cells[j]? = some v) :
    EV P n W0 ⟨D, .load t x, ty, pos, af, gd⟩ l L v := by
  rcases hr.2 with ⟨h0, ad, c, h2⟩ | ⟨b', off', cap', h2, h3, h4⟩
  · have : cells = [] := List.eq_nil_of_length_eq_zero (by rw [hr.1, h0])
    rw [this] at hv; cases hv
  · simp only [Value.slice.injEq, Option.some.injEq, Addr.mk.injEq] at h2
    obtain ⟨⟨rfl, rfl, _⟩, _⟩ := h2
    exact eLdR ht hd hx h4 j ho hv
end Go.Proofs.Ytahjgjmemijofaa.Eng
