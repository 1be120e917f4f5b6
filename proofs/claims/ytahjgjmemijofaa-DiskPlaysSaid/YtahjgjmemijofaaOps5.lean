/- The engine's rules for bits of bytes, left shifts, joined bits and a slice's tail. No statement of the seat is proved here. -/
import Derived.Test.YtahjgjmemijofaaOps4
namespace Go.Proofs.Ytahjgjmemijofaa.Eng
open Go
set_option linter.unusedVariables false
set_option linter.unusedSimpArgs false

variable {P : Program} {n : Nat} {W0 : World} {l : Env} {L : Heap} {K : Env → Heap → Prop} {o : Oper}
variable {d : Nat} {ty : TypeId} {pos : String} {af : Array Edge} {gd : Option (Nat × Bool)}

theorem eAnd127B {D : Option Nat} {xt yt : TypeId} {x y : Operand} {p : Int} (hx : evo l x = some (.int .u8 p)) (hy : evo l y = some (.int .u8 127)) (hp : 0 ≤ p) (hp2 : p < 256) :
    EV P n W0 ⟨D, .binOp .and xt x y yt, ty, pos, af, gd⟩ l L (.int .u8 (p % 128)) :=
  eBin hx hy (fun w => by
    obtain ⟨m, rfl⟩ := Int.eq_ofNat_of_zero_le hp
    have h1 : (BitVec.ofInt 8 (m : Int) &&& BitVec.ofInt 8 127).toNat = m % 128 := by
      rw [BitVec.toNat_and, BitVec.toNat_ofInt, BitVec.toNat_ofInt]
      have e1 : (((m : Int) % ((2 ^ 8 : Nat) : Int)).toNat) = m := by omega
      have e2 : (((127 : Int) % ((2 ^ 8 : Nat) : Int)).toNat) = 2 ^ 7 - 1 := by decide
      rw [e1, e2, Nat.and_two_pow_sub_one_eq_mod]
    have h2 : IntKind.u8.wrap (((m % 128 : Nat)) : Int) = (m : Int) % 128 := by rw [IntKind.wrap_u8]; omega
    have h3 : (BitVec.ofInt IntKind.u8.bits (m : Int) &&& BitVec.ofInt IntKind.u8.bits 127).toNat = m % 128 := h1
    simp only [binOp, Op.intBits, ne_eq, not_true, if_false, h3, h2, Sem.run_pure])

theorem eShl7 {D : Option Nat} {xt yt : TypeId} {x y : Operand} {p : Int} {j : IntKind} (hx : evo l x = some (.int .i64 p)) (hy : evo l y = some (.int j 7)) (hp : 0 ≤ p) (hp2 : p < 72057594037927936) :
    EV P n W0 ⟨D, .binOp .shl xt x y yt, ty, pos, af, gd⟩ l L (.int .i64 (128 * p)) :=
  fun a w ha hs => by
    have h2 : IntKind.i64.wrap (p * 128) = 128 * p := by rw [IntWalk.i64_in _ (by omega)]; omega
    simp [execOp, ha.eval hx, ha.eval hy, eqGuard, binOp, Op.shift, IntKind.bits, h2]

/-- bits put behind others -/
theorem eOrLow {D : Option Nat} {xt yt : TypeId} {x y : Operand} {a q : Int} (hx : evo l x = some (.int .i64 (128 * a))) (hy : evo l y = some (.int .i64 q)) (ha0 : 0 ≤ a) (ha : a < 72057594037927936) (hq : 0 ≤ q) (hq2 : q < 128) :
    EV P n W0 ⟨D, .binOp .or xt x y yt, ty, pos, af, gd⟩ l L (.int .i64 (128 * a + q)) :=
  eBin hx hy (fun w => by
    obtain ⟨m, rfl⟩ := Int.eq_ofNat_of_zero_le ha0
    obtain ⟨r, rfl⟩ := Int.eq_ofNat_of_zero_le hq
    have h1 : (BitVec.ofInt 64 (128 * (m : Int)) ||| BitVec.ofInt 64 (r : Int)).toNat = 128 * m + r := by
      rw [BitVec.toNat_or, BitVec.toNat_ofInt, BitVec.toNat_ofInt]
      have e1 : (((128 * (m : Int)) % ((2 ^ 64 : Nat) : Int)).toNat) = 2 ^ 7 * m := by omega
      have e2 : (((r : Int) % ((2 ^ 64 : Nat) : Int)).toNat) = r := by omega
      rw [e1, e2, ← Nat.two_pow_add_eq_or_of_lt (by omega)]
    have h2 : IntKind.i64.wrap (((128 * m + r : Nat)) : Int) = 128 * (m : Int) + r := by rw [IntWalk.i64_in _ (by omega)]; omega
    have h3 : (BitVec.ofInt IntKind.i64.bits (128 * (m : Int)) ||| BitVec.ofInt IntKind.i64.bits (r : Int)).toNat = 128 * m + r := h1
    simp only [binOp, Op.intBits, ne_eq, not_true, if_false, h3, h2, Sem.run_pure])

theorem eCvI64 {D : Option Nat} {s t : TypeId} {x : Operand} {j : IntKind} {p : Int} {sd : TypeDesc} {a1 a2 b1 b2 : Nat} {z1 z2 : Option Value} (hs_ : tinf P s = some (sd, a1, a2, z1)) (ht : tinf P t = some (.int .i64, b1, b2, z2))
    (hx : evo l x = some (.int j p)) (h0 : -9223372036854775808 ≤ p) (h1 : p < 9223372036854775808) : EV P n W0 ⟨D, .convert s t x, ty, pos, af, gd⟩ l L (.int .i64 p) := by
  have := eCv (P := P) (n := n) (W0 := W0) (L := L) (D := D) (ty := ty) (pos := pos) (af := af) (gd := gd) hs_ ht hx
  rwa [IntWalk.i64_in _ (by omega)] at this

/-- the tail of a slice that can be read -/
theorem oSlL (hdn : Nat.blt d n = true) {t e : TypeId} {x lo : Operand} {a1 a2 sz by_ : Nat} {z1 z2 : Option Value} {et : TypeDesc} {v : Value} {k : Nat} {cells : List Value} {i : Int} {k1 : IntKind}
    (ht : tinf P t = some (.slice e, a1, a2, z1)) (he : tinf P e = some (et, sz, by_, z2)) (hx : evo l x = some v) (hv : Rs W0 L v sz k cells) (hl : evo l lo = some (.int k1 i)) (h0 : 0 ≤ i) (h1 : i ≤ k)
    (h : ∀ v', Rs W0 L v' sz (k - i.toNat) (cells.drop (i.toNat * sz)) → K ((d, v') :: l) L) :
    OP P n W0 ⟨some d, .slice t x (some lo) none none, ty, pos, af, gd⟩ l L K := by
  obtain ⟨hc, hv2⟩ := hv
  have hlen : (cells.drop (i.toNat * sz)).length = (k - i.toNat) * sz := by
    rw [List.length_drop, hc, Nat.sub_mul]
  rcases hv2 with ⟨rfl, ad, cap, rfl⟩ | ⟨b, off, cap, rfl, hcap, hr⟩
  · obtain rfl : i = 0 := by omega
    refine .ev (v := .slice ad 0 cap) rfl hdn (fun a w ha hs => ?_) (h _ ?_)
    · have e1 := run_bound (P := P) (k := k1) (i := 0) (code := .sliceB) (Int.le_refl _) (y := 0) (by omega) w
      have e3 : ∀ a : Addr, a.add 0 = a := fun a => by simp [Addr.add]
      cases ad <;> simp [execOp, ha.eval hx, ha.eval hl, Instr.sliceAt, Instr.slice, run_und ht, Instr.sliceBounds, e1, run_size he, e3]
    · have : cells = [] := List.eq_nil_of_length_eq_zero (by simpa using hc)
      subst this
      simpa using Rs.nil' sz ad cap
  · have hrun : ∀ w, (Instr.sliceAt t (.slice (some ⟨b, off, none⟩) k cap) (some (.int k1 i)) none none).run P w = .ok (.slice (if cap = i.toNat then some ⟨b, off, none⟩ else some ⟨b, off + i.toNat * sz, none⟩) (k - i.toNat) (cap - i.toNat)) w := by
      intro w
      have e1 := run_bound (P := P) (k := k1) (code := .sliceB) (y := k) h0 (by omega) w
      simp [Instr.sliceAt, Instr.slice, run_und ht, Instr.sliceBounds, e1, run_size he, addr_add]
    refine .ev (v := .slice (if cap = i.toNat then some ⟨b, off, none⟩ else some ⟨b, off + i.toNat * sz, none⟩) (k - i.toNat) (cap - i.toNat)) rfl hdn (fun a w ha hs => ?_) (h _ ?_)
    · simp [execOp, ha.eval hx, ha.eval hl, hrun w]
    · by_cases hci : cap = i.toNat
      · have hz : k - i.toNat = 0 := by omega
        have hd0 : cells.drop (i.toNat * sz) = [] := List.eq_nil_of_length_eq_zero (by rw [hlen, hz, Nat.zero_mul])
        rw [hz, hd0]
        exact Rs.nil' _ _ _
      · rw [if_neg hci]
        exact Rs.mk (hr.drop (i.toNat * sz)) hlen (by omega)
end Go.Proofs.Ytahjgjmemijofaa.Eng
