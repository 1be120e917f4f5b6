/- The engine's rules for bits, shifts, quotients, slice expressions, made slices and bytes as text. No statement of the seat is proved here. -/
import Derived.Test.YtahjgjmemijofaaOps3
import Derived.Laws.MakeOwn
import Derived.Laws.BytesString
import Derived.MapKept
import Derived.Laws.StructEq
namespace Go.Proofs.Ytahjgjmemijofaa.Eng
open Go
set_option linter.unusedVariables false
set_option linter.unusedSimpArgs false

variable {P : Program} {n : Nat} {W0 : World} {l : Env} {L : Heap} {K : Env → Heap → Prop} {o : Oper}
variable {d : Nat} {ty : TypeId} {pos : String} {af : Array Edge} {gd : Option (Nat × Bool)}

theorem eQuo {D : Option Nat} {xt yt : TypeId} {x y : Operand} {p q : Int} (hx : evo l x = some (.int .i64 p)) (hy : evo l y = some (.int .i64 q)) (hp : 0 ≤ p) (hp2 : p < 9223372036854775808) (hq : 0 < q) :
    EV P n W0 ⟨D, .binOp .quo xt x y yt, ty, pos, af, gd⟩ l L (.int .i64 (p / q)) :=
  eBin hx hy (fun w => by
    have h1 : q ≠ 0 := by omega
    have h2 : p.tdiv q = p / q := Int.tdiv_eq_ediv_of_nonneg hp
    have h3 : 0 ≤ p / q := Int.ediv_nonneg hp (by omega)
    have h4 : p / q ≤ p := Int.ediv_le_self _ hp
    have h5 : IntKind.i64.wrap (p / q) = p / q := IntWalk.i64_in _ (by omega)
    simp [binOp, Op.intDiv, h1, h2, h5])

theorem eRemP {D : Option Nat} {xt yt : TypeId} {x y : Operand} {k : IntKind} {p q : Int} (hx : evo l x = some (.int k p)) (hy : evo l y = some (.int k q)) (hp : 0 ≤ p) (hq : (q == 0) = false) :
    EV P n W0 ⟨D, .binOp .rem xt x y yt, ty, pos, af, gd⟩ l L (.int k (p % q)) := by
  have := eRem (P := P) (n := n) (W0 := W0) (L := L) (D := D) (xt := xt) (yt := yt) (ty := ty) (pos := pos) (af := af) (gd := gd) hx hy hq
  rwa [Int.tmod_eq_emod_of_nonneg hp] at this

theorem eAnd127 {D : Option Nat} {xt yt : TypeId} {x y : Operand} {p : Int} (hx : evo l x = some (.int .i64 p)) (hy : evo l y = some (.int .i64 127)) (hp : 0 ≤ p) (hp2 : p < 9223372036854775808) :
    EV P n W0 ⟨D, .binOp .and xt x y yt, ty, pos, af, gd⟩ l L (.int .i64 (p % 128)) :=
  eBin hx hy (fun w => by
    obtain ⟨m, rfl⟩ := Int.eq_ofNat_of_zero_le hp
    have h1 : (BitVec.ofInt 64 (m : Int) &&& BitVec.ofInt 64 127).toNat = m % 128 := by
      rw [BitVec.toNat_and, BitVec.toNat_ofInt, BitVec.toNat_ofInt]
      have e1 : (((m : Int) % ((2 ^ 64 : Nat) : Int)).toNat) = m := by omega
      have e2 : (((127 : Int) % ((2 ^ 64 : Nat) : Int)).toNat) = 2 ^ 7 - 1 := by decide
      rw [e1, e2, Nat.and_two_pow_sub_one_eq_mod]
    have h2 : IntKind.i64.wrap (((m % 128 : Nat)) : Int) = (m : Int) % 128 := by rw [IntWalk.i64_in _ (by omega)]; omega
    have h3 : (BitVec.ofInt IntKind.i64.bits (m : Int) &&& BitVec.ofInt IntKind.i64.bits 127).toNat = m % 128 := h1
    simp only [binOp, Op.intBits, ne_eq, not_true, if_false, h3, h2, Sem.run_pure])

theorem eOr128 {D : Option Nat} {xt yt : TypeId} {x y : Operand} {p : Int} (hx : evo l x = some (.int .u8 p)) (hy : evo l y = some (.int .u8 128)) (hp : 0 ≤ p) (hp2 : p < 128) :
    EV P n W0 ⟨D, .binOp .or xt x y yt, ty, pos, af, gd⟩ l L (.int .u8 (p + 128)) :=
  eBin hx hy (fun w => by
    obtain ⟨m, rfl⟩ := Int.eq_ofNat_of_zero_le hp
    have hm : m < 128 := by omega
    have h0 : ∀ m : Fin 128, (m.val ||| 128) = m.val + 128 := by decide
    have h1 : (BitVec.ofInt 8 (m : Int) ||| BitVec.ofInt 8 128).toNat = m + 128 := by
      rw [BitVec.toNat_or, BitVec.toNat_ofInt, BitVec.toNat_ofInt]
      have e1 : (((m : Int) % ((2 ^ 8 : Nat) : Int)).toNat) = m := by omega
      have e2 : (((128 : Int) % ((2 ^ 8 : Nat) : Int)).toNat) = 128 := by decide
      rw [e1, e2]; exact h0 ⟨m, hm⟩
    have h2 : IntKind.u8.wrap (((m + 128 : Nat)) : Int) = (m : Int) + 128 := by rw [IntKind.wrap_u8]; omega
    have h3 : (BitVec.ofInt IntKind.u8.bits (m : Int) ||| BitVec.ofInt IntKind.u8.bits 128).toNat = m + 128 := h1
    simp only [binOp, Op.intBits, ne_eq, not_true, if_false, h3, h2, Sem.run_pure])

theorem eShr7 {D : Option Nat} {xt yt : TypeId} {x y : Operand} {p : Int} {k j : IntKind} (hx : evo l x = some (.int k p)) (hy : evo l y = some (.int j 7)) (hk : Nat.ble 7 k.bits = true) :
    EV P n W0 ⟨D, .binOp .shr xt x y yt, ty, pos, af, gd⟩ l L (.int k (p / 128)) :=
  fun a w ha hs => by
    have h1 : min 7 k.bits = 7 := Nat.min_eq_left (Nat.le_of_ble_eq_true hk)
    have h2 : p.fdiv 128 = p / 128 := by rw [Int.fdiv_eq_ediv_of_nonneg]; decide
    simp [execOp, ha.eval hx, ha.eval hy, eqGuard, binOp, Op.shift, h1, h2]

theorem eCvU8 {D : Option Nat} {s t : TypeId} {x : Operand} {j : IntKind} {p : Int} {sd : TypeDesc} {a1 a2 b1 b2 : Nat} {z1 z2 : Option Value} (hs_ : tinf P s = some (sd, a1, a2, z1)) (ht : tinf P t = some (.int .u8, b1, b2, z2))
    (hx : evo l x = some (.int j p)) (h0 : 0 ≤ p) (h1 : p < 256) : EV P n W0 ⟨D, .convert s t x, ty, pos, af, gd⟩ l L (.int .u8 p) := by
  have := eCv (P := P) (n := n) (W0 := W0) (L := L) (D := D) (ty := ty) (pos := pos) (af := af) (gd := gd) hs_ ht hx
  rwa [IntKind.wrap_u8, show p % 256 = p by omega] at this

theorem eMaxP {D : Option Nat} {x y : Operand} {ts : Array TypeId} {k : IntKind} {p : Int} (hx : evo l x = some (.int k p)) (hy : evo l y = some (.int k 0)) (hp : 0 ≤ p) : EV P n W0 ⟨D, .call ⟨.builtin .max, #[x, y], ts⟩, ty, pos, af, gd⟩ l L (.int k p) := by
  have := eMax (P := P) (n := n) (W0 := W0) (L := L) (D := D) (ty := ty) (pos := pos) (af := af) (gd := gd) (ts := ts) hx hy
  rwa [show max p 0 = p by omega] at this

theorem run_bound {P : Program} {k : IntKind} {i : Int} {y : Nat} {code : BoundsCode} (h0 : 0 ≤ i) (h1 : i ≤ y) (w : World) : (Instr.sliceBound (.int k i) y code).run P w = .ok i.toNat w := by
  simp [Instr.sliceBound, asIntOf, h0, h1]

/-- a slice of an array's end -/
theorem eSlA {D : Option Nat} {t e : TypeId} {x lo : Operand} {len a1 a2 b1 b2 : Nat} {z1 z2 : Option Value} {et : TypeDesc} {b off : Nat} {i : Int} {k : IntKind}
    (ht : tinf P t = some (.array len e, a1, a2, z1)) (he : tinf P e = some (et, b1, b2, z2)) (hx : evo l x = some (.pointer (some ⟨b, off, none⟩))) (hl : evo l lo = some (.int k i)) (h0 : 0 ≤ i) (h1 : i < len) :
    EV P n W0 ⟨D, .slice t x (some lo) none none, ty, pos, af, gd⟩ l L (.slice (some ⟨b, off + i.toNat * b1, none⟩) (len - i.toNat) (len - i.toNat)) :=
  fun a w ha hs => by
    have h2 := run_bound (P := P) (k := k) (code := .sliceB) h0 (y := len) (by omega) w
    have h3 : ¬ len = i.toNat := by omega
    simp [execOp, ha.eval hx, ha.eval hl, Instr.sliceAt, run_und ht, Instr.sureAddr, Instr.sliceBounds, h2, run_size he, h3, addr_add]

/-- a part of a slice that can be read -/
theorem oSlR (hdn : Nat.blt d n = true) {t e : TypeId} {x lo hi : Operand} {a1 a2 sz by_ : Nat} {z1 z2 : Option Value} {et : TypeDesc} {v : Value} {k : Nat} {cells : List Value} {i j : Int} {k1 k2 : IntKind}
    (ht : tinf P t = some (.slice e, a1, a2, z1)) (he : tinf P e = some (et, sz, by_, z2)) (hx : evo l x = some v) (hv : Rs W0 L v sz k cells) (hl : evo l lo = some (.int k1 i)) (hh : evo l hi = some (.int k2 j)) (h0 : 0 ≤ i) (h1 : i ≤ j) (h2 : j ≤ k)
    (h : ∀ v', Rs W0 L v' sz (j.toNat - i.toNat) ((cells.drop (i.toNat * sz)).take ((j.toNat - i.toNat) * sz)) → K ((d, v') :: l) L) :
    OP P n W0 ⟨some d, .slice t x (some lo) (some hi) none, ty, pos, af, gd⟩ l L K := by
  obtain ⟨hc, hv2⟩ := hv
  have hlen : ((cells.drop (i.toNat * sz)).take ((j.toNat - i.toNat) * sz)).length = (j.toNat - i.toNat) * sz := by
    simp only [List.length_take, List.length_drop, hc]
    have : (j.toNat - i.toNat) * sz ≤ k * sz - i.toNat * sz := by rw [← Nat.sub_mul]; exact Nat.mul_le_mul_right _ (by omega)
    omega
  rcases hv2 with ⟨rfl, ad, cap, rfl⟩ | ⟨b, off, cap, rfl, hcap, hr⟩
  · obtain rfl : i = 0 := by omega
    obtain rfl : j = 0 := by omega
    refine .ev (v := .slice ad 0 cap) rfl hdn (fun a w ha hs => ?_) (h _ (by simpa using Rs.nil' sz ad cap))
    have e1 := run_bound (P := P) (k := k1) (i := 0) (code := .sliceB) (Int.le_refl _) (y := 0) (by omega) w
    have e2 := run_bound (P := P) (k := k2) (i := 0) (code := .sliceAcap) (Int.le_refl _) (y := cap) (by omega) w
    have e3 : ∀ a : Addr, a.add 0 = a := fun a => by simp [Addr.add]
    cases ad <;> simp [execOp, ha.eval hx, ha.eval hl, ha.eval hh, Instr.sliceAt, Instr.slice, run_und ht, Instr.sliceBounds, e1, e2, run_size he, e3]
  · have hrun : ∀ a w, RepE n a l → (Instr.sliceAt t (.slice (some ⟨b, off, none⟩) k cap) (some (.int k1 i)) (some (.int k2 j)) none).run P w = .ok (.slice (if cap = i.toNat then some ⟨b, off, none⟩ else some ⟨b, off + i.toNat * sz, none⟩) (j.toNat - i.toNat) (cap - i.toNat)) w := by
      intro a w ha
      have e2 := run_bound (P := P) (k := k2) (code := .sliceAcap) (y := cap) (show 0 ≤ j by omega) (by omega) w
      have e1 := run_bound (P := P) (k := k1) (code := .sliceB) (y := j.toNat) h0 (by omega) w
      simp [Instr.sliceAt, Instr.slice, run_und ht, Instr.sliceBounds, e1, e2, run_size he, addr_add]
    refine .ev (v := .slice (if cap = i.toNat then some ⟨b, off, none⟩ else some ⟨b, off + i.toNat * sz, none⟩) (j.toNat - i.toNat) (cap - i.toNat)) rfl hdn (fun a w ha hs => ?_) (h _ ?_)
    · simp [execOp, ha.eval hx, ha.eval hl, ha.eval hh, hrun a w ha]
    · by_cases hci : cap = i.toNat
      · have hz : j.toNat - i.toNat = 0 := by omega
        rw [hz, Nat.zero_mul, List.take_zero]
        exact Rs.nil' _ _ _
      · rw [if_neg hci]
        exact Rs.mk ((hr.drop (i.toNat * sz)).take _) hlen (by omega)

/-- a slice made with room and no elements -/
theorem oMkS (hdn : Nat.blt d n = true) {t e : TypeId} {x y : Operand} {a1 a2 sz by_ : Nat} {z1 : Option Value} {et : TypeDesc} {z : Value} {k1 k2 : IntKind} {c : Int}
    (ht : tinf P t = some (.slice e, a1, a2, z1)) (he : tinf P e = some (et, sz, by_, some z)) (hx : evo l x = some (.int k1 0)) (hy : evo l y = some (.int k2 c)) (h0 : 0 ≤ c) (hb : c * by_ ≤ 281474976710656) (hc : c ≤ 9223372036854775807)
    (h : ∀ v cs, Row v cs sz 0 [] → K ((d, v) :: l) (ownH v cs e ++ L)) : OP P n W0 ⟨some d, .makeSlice t x y, ty, pos, af, gd⟩ l L K :=
  .val rfl hdn fun a w ha hs => by
    obtain ⟨hut, _⟩ := tinf_run ht
    obtain ⟨_, ie, hie, hsz, hby, hzero⟩ := tinf_run he
    have hr := run_make (P := P) w t e ie z hut hie hzero k1 k2 0 c (Int.le_refl _) h0 (by rw [hby, Int.mul_comm]; exact hb) hc
    simp only [Int.toNat_zero] at hr
    refine ⟨_, _, _, by simp [execOp, ha.eval hx, ha.eval hy, hr], hs.alloc _, h (.slice (some ⟨w.heap.size, 0, none⟩) 0 c.toNat) (madeCells z.cells (c.toNat * ie.size)) (Row.mk (Nat.zero_le _) (by rw [← hsz]; exact size_madeCells _ _) (by simp))⟩

/-- a slice built of nothing -/
theorem oBS0 (hdn : Nat.blt d n = true) {t e : TypeId} {a1 a2 sz by_ : Nat} {z1 z : Option Value} {et : TypeDesc} (ht : tinf P t = some (.slice e, a1, a2, z1)) (he : tinf P e = some (et, sz, by_, z))
    (h : ∀ b, K ((d, .slice (some ⟨b, 0, none⟩) 0 0) :: l) ((b, .cells #[] e (0, 0)) :: L)) : OP P n W0 ⟨some d, .buildSlice t 0 #[], ty, pos, af, gd⟩ l L K :=
  .val rfl hdn fun a w ha hs => ⟨.slice (some ⟨w.heap.size, 0, none⟩) 0 0, w.alloc (.cells #[] e), (w.heap.size, .cells #[] e) :: L, by
    simp [execOp, Instr.buildSlice, run_und ht, run_size he, Instr.fill, newRow, show (Array.map (fun x => (default : Value)) (Array.range 0)) = #[] from Array.eq_empty_of_size_eq_zero (by simp)], hs.alloc _, h _⟩

/-! bytes and text -/
def BA (ns : List Int) : ByteArray := ns.foldl (fun r n => r.push (UInt8.ofNat n.toNat)) ByteArray.empty
def byteV (ns : List Int) : List Value := ns.map (Value.int .u8)
def IsB (ns : List Int) : Prop := ∀ x ∈ ns, 0 ≤ x ∧ x < 256

theorem BA_data (ns : List Int) : (BA ns).data.toList = ns.map fun n => UInt8.ofNat n.toNat := by
  have : ∀ (ns : List Int) (r : ByteArray), (ns.foldl (fun r n => r.push (UInt8.ofNat n.toNat)) r).data.toList = r.data.toList ++ ns.map fun n => UInt8.ofNat n.toNat := by
    intro ns
    induction ns with
    | nil => intro r; simp
    | cons n ns ih => intro r; rw [List.foldl_cons, ih]; simp [ByteArray.push]
  have h := this ns ByteArray.empty
  simpa [BA] using h
theorem BA_inj {a b : List Int} (ha : IsB a) (hb : IsB b) (h : BA a = BA b) : a = b := by
  have h1 : (a.map fun n => UInt8.ofNat n.toNat) = b.map fun n => UInt8.ofNat n.toNat := by rw [← BA_data, ← BA_data, h]
  induction a generalizing b with
  | nil => cases b with
    | nil => rfl
    | cons y b => simp at h1
  | cons x a ih =>
    cases b with
    | nil => simp at h1
    | cons y b =>
      simp only [List.map_cons, List.cons.injEq] at h1
      have hx := ha x List.mem_cons_self
      have hy := hb y List.mem_cons_self
      have e : x = y := by
        have h2 := congrArg UInt8.toNat h1.1
        simp at h2
        omega
      subst e
      congr 1
      refine ih (fun z hz => ha z (List.mem_cons_of_mem _ hz)) (fun z hz => hb z (List.mem_cons_of_mem _ hz)) ?_ h1.2
      have e2 : (BA a).data.toList = (BA b).data.toList := by rw [BA_data, BA_data]; exact h1.2
      have e3 : (BA a).data = (BA b).data := Array.ext' e2
      cases ha' : BA a; cases hb' : BA b
      rw [ha', hb'] at e3
      simp at e3
      rw [e3]
theorem BA_beq {a b : List Int} (ha : IsB a) (hb : IsB b) : (BA a == BA b) = decide (a = b) := by
  rw [Bool.eq_iff_iff, Go.MapKept.bytes_beq]
  constructor
  · intro h; simpa using BA_inj ha hb h
  · intro h; have : a = b := by simpa using h
    rw [this]

/-- bytes as text -/
theorem eBs {D : Option Nat} {s t e : TypeId} {x : Operand} {v : Value} {ns : List Int} {a1 a2 b1 b2 c1 c2 : Nat} {z1 z2 z3 : Option Value}
    (hs_ : tinf P s = some (.slice e, a1, a2, z1)) (he : tinf P e = some (.int .u8, c1, c2, z3)) (ht : tinf P t = some (.string, b1, b2, z2)) (hx : evo l x = some v) (hv : Rs W0 L v 1 ns.length (byteV ns)) :
    EV P n W0 ⟨D, .convert s t x, ty, pos, af, gd⟩ l L (.string (BA ns)) :=
  fun a w ha hs => by
    rcases hv.2 with ⟨h0, ad, cap, rfl⟩ | ⟨b, off, cap, rfl, hcap, hr⟩
    · have : ns = [] := List.eq_nil_of_length_eq_zero h0
      subst this
      cases ad with
      | none => simp [execOp, ha.eval hx, convert, run_und hs_, run_und ht, run_und he, Conv.bytesToString, BA]
      | some ad =>
        have hl : (loadCells ad 0).run P w = .ok (([] : List Int).map (Value.int .u8)).toArray w := by simp [loadCells, loadCellsFrom]
        have := run_bytesToString (P := P) w ad 0 cap [] hl
        simp [execOp, ha.eval hx, convert, run_und hs_, run_und ht, run_und he, this, BA]
    · have hl : (loadCells ⟨b, off, none⟩ ns.length).run P w = .ok (ns.map (Value.int .u8)).toArray w := by
        have := run_loadCells_list (P := P) w ⟨b, off, none⟩ (byteV ns) (fun j u hj => by rw [addr_add]; exact hr w hs j u hj)
        simpa [byteV] using this
      have := run_bytesToString (P := P) w ⟨b, off, none⟩ ns.length cap ns hl
      simp [execOp, ha.eval hx, convert, run_und hs_, run_und ht, run_und he, this, BA]

theorem eEqStr {D : Option Nat} {xt yt : TypeId} {x y : Operand} {p q : ByteArray} {a1 a2 : Nat} {z : Option Value} (hx : evo l x = some (.string p)) (hy : evo l y = some (.string q)) (ht : tinf P xt = some (.string, a1, a2, z)) :
    EV P n W0 ⟨D, .binOp .eql xt x y yt, ty, pos, af, gd⟩ l L (.bool (p == q)) :=
  fun a w ha hs => by simp [execOp, ha.eval hx, ha.eval hy, eqGuard, binOp, Op.stringOp, Op.equal, Op.equalIn, run_und ht, beq_toListBytes]
end Go.Proofs.Ytahjgjmemijofaa.Eng
