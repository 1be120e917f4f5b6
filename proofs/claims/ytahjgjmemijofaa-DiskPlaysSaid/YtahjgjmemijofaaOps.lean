/- One rule for each kind of operation, over the judgements of the engine. No statement of the seat is proved here. -/
import Derived.Test.YtahjgjmemijofaaEng
namespace Go.Proofs.Ytahjgjmemijofaa.Eng
open Go
set_option linter.unusedVariables false
set_option linter.unusedSimpArgs false

variable {P : Program} {n : Nat} {W0 : World} {l : Env} {L : Heap} {K : Env → Heap → Prop} {o : Oper}

/-- an operation that leaves the world alone, and what it yields -/
def EV (P : Program) (n : Nat) (W0 : World) (o : Oper) (l : Env) (L : Heap) (v : Value) : Prop :=
  ∀ a w, RepE n a l → Sep W0 w L → (execOp a.eval o).run P w = .ok (.value v) w

theorem OP.val {d : Nat} (hd : o.dst = some d) (hdn : Nat.blt d n = true)
    (h : ∀ a w, RepE n a l → Sep W0 w L → ∃ v w' L', (execOp a.eval o).run P w = .ok (.value v) w' ∧ Sep W0 w' L' ∧ K ((d, v) :: l) L') : OP P n W0 o l L K := by
  intro a w next Q ha hs hk
  obtain ⟨v, w', L', hr, hs', hK⟩ := h a w ha hs
  simp only [Oper.wp, hr, Oper.upon_value, hd]
  exact hk _ w' _ L' (ha.put hdn v) hs' hK

theorem OP.ev {d : Nat} {v : Value} (hd : o.dst = some d) (hdn : Nat.blt d n = true) (he : EV P n W0 o l L v) (h : K ((d, v) :: l) L) : OP P n W0 o l L K :=
  .val hd hdn fun a w ha hs => ⟨v, w, L, he a w ha hs, hs, h⟩

theorem OP.evb {d : Nat} {r : Bool} (hd : o.dst = some d) (hdn : Nat.blt d n = true) (he : EV P n W0 o l L (.bool r)) (h : ∀ t, t = r → K ((d, .bool t) :: l) L) : OP P n W0 o l L K :=
  .ev hd hdn he (h r rfl)

theorem OP.val0 (hd : o.dst = none)
    (h : ∀ a w, RepE n a l → Sep W0 w L → ∃ v w' L', (execOp a.eval o).run P w = .ok (.value v) w' ∧ Sep W0 w' L' ∧ K l L') : OP P n W0 o l L K := by
  intro a w next Q ha hs hk
  obtain ⟨v, w', L', hr, hs', hK⟩ := h a w ha hs
  simp only [Oper.wp, hr, Oper.upon_value, hd]
  exact hk _ w' _ L' ha hs' hK

theorem OP.skp (hd : o.dst = none)
    (h : ∀ a w, RepE n a l → Sep W0 w L → ∃ w' L', (execOp a.eval o).run P w = .ok .skip w' ∧ Sep W0 w' L' ∧ K l L') : OP P n W0 o l L K := by
  intro a w next Q ha hs hk
  obtain ⟨w', L', hr, hs', hK⟩ := h a w ha hs
  simp only [Oper.wp, hr, Oper.upon_skip, hd]
  exact hk _ w' _ L' ha hs' hK

section
variable {d : Nat} {ty : TypeId} {pos : String} {af : Array Edge} {gd : Option (Nat × Bool)} (hdn : Nat.blt d n = true)
include hdn

omit hdn in
theorem eMv {D : Option Nat} {x : Operand} {v : Value} (hx : evo l x = some v) : EV P n W0 ⟨D, .move x, ty, pos, af, gd⟩ l L (v) :=
  fun a w ha hs => by simp [execOp, ha.eval hx]
theorem oMv {x : Operand} {v : Value} (hx : evo l x = some v) (h : K ((d, v) :: l) L) : OP P n W0 ⟨some d, .move x, ty, pos, af, gd⟩ l L K :=
  .ev rfl hdn (eMv hx) h
omit hdn in
theorem eAs {D : Option Nat} {x : Operand} {v : Value} (hx : evo l x = some v) : EV P n W0 ⟨D, .assign x, ty, pos, af, gd⟩ l L (v) :=
  fun a w ha hs => by simp [execOp, ha.eval hx]
theorem oAs {x : Operand} {v : Value} (hx : evo l x = some v) (h : K ((d, v) :: l) L) : OP P n W0 ⟨some d, .assign x, ty, pos, af, gd⟩ l L K :=
  .ev rfl hdn (eAs hx) h
omit hdn in
theorem ePk {D : Option Nat} {c x y : Operand} {t : Bool} {v : Value} (hc : evo l c = some (.bool t)) (hx : (if t then evo l x else evo l y) = some v) : EV P n W0 ⟨D, .pick c x y, ty, pos, af, gd⟩ l L (v) :=
  fun a w ha hs => by
    cases t
    · simp [execOp, ha.eval hc, asBool]; exact ha.eval (by simpa using hx)
    · simp [execOp, ha.eval hc, asBool]; exact ha.eval (by simpa using hx)
theorem oPk {c x y : Operand} {t : Bool} {v : Value} (hc : evo l c = some (.bool t)) (hx : (if t then evo l x else evo l y) = some v) (h : K ((d, v) :: l) L) : OP P n W0 ⟨some d, .pick c x y, ty, pos, af, gd⟩ l L K :=
  .ev rfl hdn (ePk hc hx) h

/-- an alloc: a new block that holds the type's zero -/
theorem oAl {e : TypeId} {dd : TypeDesc} {sz by_ : Nat} {z : Value} {o' : Obj} (ht : tinf P e = some (dd, sz, by_, some z)) (ho : Obj.cells z.cells e (0, 0) = o')
    (h : ∀ b, K ((d, .pointer (some ⟨b, 0, none⟩)) :: l) ((b, o') :: L)) : OP P n W0 ⟨some d, .alloc e, ty, pos, af, gd⟩ l L K :=
  .val rfl hdn fun a w ha hs => ⟨.pointer (some ⟨w.heap.size, 0, none⟩), w.alloc (.cells z.cells e), (w.heap.size, .cells z.cells e) :: L, by simp [execOp, Instr.alloc, run_zero ht, newVar, newRow], hs.alloc _, by subst ho; exact h _⟩

theorem oBox {e : TypeId} {x : Operand} {v : Value} {o' : Obj} (hx : evo l x = some v) (ho : Obj.cells v.cells e (0, 0) = o')
    (h : ∀ b, K ((d, .pointer (some ⟨b, 0, none⟩)) :: l) ((b, o') :: L)) : OP P n W0 ⟨some d, .box e x, ty, pos, af, gd⟩ l L K :=
  .val rfl hdn fun a w ha hs => ⟨.pointer (some ⟨w.heap.size, 0, none⟩), w.alloc (.cells v.cells e), (w.heap.size, .cells v.cells e) :: L, by simp [execOp, Instr.box, ha.eval hx, newVar, newRow], hs.alloc _, by subst ho; exact h _⟩

def pev (l : Env) : List (Nat × Operand) → Option (List (Nat × Value))
  | [] => some []
  | p :: r => match evo l p.2, pev l r with
    | some v, some vs => some ((p.1, v) :: vs)
    | _, _ => none

omit hdn in
theorem pev_eval {a : Act} (ha : RepE n a l) : ∀ {ps : List (Nat × Operand)} {vs : List (Nat × Value)}, pev l ps = some vs → ps.map (fun p => (p.1, a.eval p.2)) = vs := by
  intro ps
  induction ps with
  | nil => intro vs h; simp [pev] at h; simp [h]
  | cons p r ih =>
    intro vs h
    simp only [pev] at h
    split at h
    · rename_i v us hv hus
      cases h
      simp [ih hus, ha.eval hv]
    · cases h

omit hdn in
theorem eBu {D : Option Nat} {t : TypeId} {ps : List (Nat × Operand)} {vs : List (Nat × Value)} {v : Value} (hp : pev l ps = some vs) (hr : ∀ w, (Instr.build t vs.toArray).run P w = .ok v w) : EV P n W0 ⟨D, .build t ps.toArray, ty, pos, af, gd⟩ l L (v) :=
  fun a w ha hs => by
    have := pev_eval ha hp
    simp only [execOp, List.map_toArray]
    rw [show (ps.map fun x => match x with | (i, x) => (i, a.eval x)) = vs from this]
    simp [hr]
theorem oBu {t : TypeId} {ps : List (Nat × Operand)} {vs : List (Nat × Value)} {v : Value} (hp : pev l ps = some vs) (hr : ∀ w, (Instr.build t vs.toArray).run P w = .ok v w) (h : K ((d, v) :: l) L) : OP P n W0 ⟨some d, .build t ps.toArray, ty, pos, af, gd⟩ l L K :=
  .ev rfl hdn (eBu hp hr) h

/-- where a struct's fields lie, and how many cells each has -/
def plc (P : Program) : List Field → Option (List (Nat × Nat))
  | [] => some []
  | f :: r => match P.info? f.type, plc P r with
    | some i, some ps => some ((f.offset, i.size) :: ps)
    | _, _ => none

omit hdn in
theorem run_plc (w : World) : ∀ {fs : List Field} {pl : List (Nat × Nat)}, plc P fs = some pl → (fs.mapM fun f => do pure (f.offset, ← sizeOf f.type) : Sem (List (Nat × Nat))).run P w = .ok pl w := by
  intro fs
  induction fs with
  | nil => intro pl h; simp [plc] at h; simp [h]
  | cons f r ih =>
    intro pl h
    simp only [plc] at h
    split at h
    · rename_i i ps h1 h2
      cases h
      have h3 : (sizeOf f.type).run P w = .ok i.size w := by simp [sizeOf, typeInfo, h1]
      simp only [List.mapM_cons, Sem.run_bind, h3, Result.andThen_ok, Sem.run_pure, ih h2]
    · cases h

omit hdn in
theorem eBuS {D : Option Nat} {t : TypeId} {ps : List (Nat × Operand)} {vs : List (Nat × Value)} {fs : List Field} {sz by_ : Nat} {z : Value} {pl : List (Nat × Nat)} {cells : Array Value}
    (ht : tinf P t = some (.struct fs.toArray, sz, by_, some z)) (hpl : plc P fs = some pl) (hp : pev l ps = some vs) (hf : Instr.fill (pl.toArray[·]?) z.cells vs = some cells) : EV P n W0 ⟨D, .build t ps.toArray, ty, pos, af, gd⟩ l L (.agg cells) :=
  eBu hp (fun w => by
    have := run_plc w hpl
    simp only [Instr.build, Sem.run_bind, run_zero ht, Result.andThen_ok, run_und ht, List.mapM_toArray, Sem.run_map, this]
    simp only [hf, Sem.run_pure])
theorem oBuS {t : TypeId} {ps : List (Nat × Operand)} {vs : List (Nat × Value)} {fs : List Field} {sz by_ : Nat} {z : Value} {pl : List (Nat × Nat)} {cells : Array Value}
    (ht : tinf P t = some (.struct fs.toArray, sz, by_, some z)) (hpl : plc P fs = some pl) (hp : pev l ps = some vs) (hf : Instr.fill (pl.toArray[·]?) z.cells vs = some cells) (h : K ((d, .agg cells) :: l) L) : OP P n W0 ⟨some d, .build t ps.toArray, ty, pos, af, gd⟩ l L K :=
  .ev rfl hdn (eBuS ht hpl hp hf) h

theorem oBS {t : TypeId} {len : Nat} {ps : List (Nat × Operand)} {vs : List (Nat × Value)} {e : TypeId} {a1 a2 sz by_ : Nat} {z1 : Option Value} {ed : TypeDesc} {z : Value} {cells : Array Value}
    (ht : tinf P t = some (.slice e, a1, a2, z1)) (he : tinf P e = some (ed, sz, by_, some z)) (hsz : Nat.ble (len * sz) 16777216 = true) (hpos : Nat.beq (len * sz) 0 = false)
    (hp : pev l ps = some vs) (hf : Instr.fill (fun i => some (i * sz, sz)) ((Array.range (len * sz)).map (z.cells[· % z.cells.size]!)) vs = some cells)
    (h : ∀ b, K ((d, .slice (some ⟨b, 0, none⟩) len len) :: l) ((b, .cells cells e (0, 0)) :: L)) : OP P n W0 ⟨some d, .buildSlice t len ps.toArray, ty, pos, af, gd⟩ l L K :=
  .val rfl hdn fun a w ha hs => ⟨.slice (some ⟨w.heap.size, 0, none⟩) len len, w.alloc (.cells cells e), (w.heap.size, .cells cells e) :: L, by
    have h1 := pev_eval ha hp
    have h2 : ¬ (2 ^ 24 < len * sz) := by have := Nat.le_of_ble_eq_true hsz; omega
    have h3 : ¬ (len * sz = 0) := by intro e; rw [e] at hpos; simp at hpos
    simp only [execOp, List.map_toArray]
    rw [show (ps.map fun x => match x with | (i, x) => (i, a.eval x)) = vs from h1]
    simp only [Instr.buildSlice, Sem.run_bind, Sem.run_map, run_und ht, Result.andThen_ok, run_size he, gt_iff_lt, h2, if_false, h3, run_zero he, Sem.run_pure]
    simp only [hf, newRow, Sem.run_bind, run_newObj, Result.andThen_ok, Sem.run_pure]
    rfl, hs.alloc _, h _⟩

/-! loads -/
omit hdn in
theorem eLd {D : Option Nat} {t : TypeId} {dd : TypeDesc} {sz by_ : Nat} {z : Option Value} {x : Operand} {b off : Nat} {cs : Array Value} {T : TypeId} {fz : Nat × Nat} {v : Value}
    (ht : tinf P t = some (dd, sz, by_, z)) (hd : nagg dd = true) (hx : evo l x = some (.pointer (some ⟨b, off, none⟩))) (hb : Has L b (.cells cs T fz)) (hv : cg cs off = some v) : EV P n W0 ⟨D, .load t x, ty, pos, af, gd⟩ l L (v) :=
  fun a w ha hs => by
    have := run_loadVar_s ht hd (w := w) (a := ⟨b, off, none⟩) (v := v) (by rw [hs.cell hb, ← cg_eq]; exact hv)
    simp [execOp, ha.eval hx, Instr.loadAt, Instr.sureAddr, this]
theorem oLd {t : TypeId} {dd : TypeDesc} {sz by_ : Nat} {z : Option Value} {x : Operand} {b off : Nat} {cs : Array Value} {T : TypeId} {fz : Nat × Nat} {v : Value}
    (ht : tinf P t = some (dd, sz, by_, z)) (hd : nagg dd = true) (hx : evo l x = some (.pointer (some ⟨b, off, none⟩))) (hb : Has L b (.cells cs T fz)) (hv : cg cs off = some v) (h : K ((d, v) :: l) L) : OP P n W0 ⟨some d, .load t x, ty, pos, af, gd⟩ l L K :=
  .ev rfl hdn (eLd ht hd hx hb hv) h

omit hdn in
theorem eLdO {D : Option Nat} {t : TypeId} {dd : TypeDesc} {sz by_ : Nat} {z : Option Value} {x : Operand} {ad : Addr} {v : Value}
    (ht : tinf P t = some (dd, sz, by_, z)) (hd : nagg dd = true) (hx : evo l x = some (.pointer (some ad))) (hv : W0.cell? ad = some v) : EV P n W0 ⟨D, .load t x, ty, pos, af, gd⟩ l L (v) :=
  fun a w ha hs => by
    have := run_loadVar_s ht hd (w := w) (a := ad) (v := v) (hs.oldCell hv)
    simp [execOp, ha.eval hx, Instr.loadAt, Instr.sureAddr, this]
theorem oLdO {t : TypeId} {dd : TypeDesc} {sz by_ : Nat} {z : Option Value} {x : Operand} {ad : Addr} {v : Value}
    (ht : tinf P t = some (dd, sz, by_, z)) (hd : nagg dd = true) (hx : evo l x = some (.pointer (some ad))) (hv : W0.cell? ad = some v) (h : K ((d, v) :: l) L) : OP P n W0 ⟨some d, .load t x, ty, pos, af, gd⟩ l L K :=
  .ev rfl hdn (eLdO ht hd hx hv) h

omit hdn in
theorem eLdW {D : Option Nat} {t : TypeId} {dd : TypeDesc} {sz by_ : Nat} {z : Option Value} {x : Operand} {b : Nat} {cs : Array Value} {T : TypeId} {fz : Nat × Nat}
    (ht : tinf P t = some (dd, sz, by_, z)) (hd : nagg dd = false) (hx : evo l x = some (.pointer (some ⟨b, 0, none⟩))) (hb : Has L b (.cells cs T fz)) (hsz : cs.size = sz) : EV P n W0 ⟨D, .load t x, ty, pos, af, gd⟩ l L (.agg cs) :=
  fun a w ha hs => by
    have := run_loadVar_a (cs := cs.toList) (by subst hsz; simpa using ht) hd (w := w) (b := b) (off := 0) (fun j v hj => by rw [hs.cell hb]; simpa using hj)
    simp [execOp, ha.eval hx, Instr.loadAt, Instr.sureAddr, this]
theorem oLdW {t : TypeId} {dd : TypeDesc} {sz by_ : Nat} {z : Option Value} {x : Operand} {b : Nat} {cs : Array Value} {T : TypeId} {fz : Nat × Nat}
    (ht : tinf P t = some (dd, sz, by_, z)) (hd : nagg dd = false) (hx : evo l x = some (.pointer (some ⟨b, 0, none⟩))) (hb : Has L b (.cells cs T fz)) (hsz : cs.size = sz) (h : K ((d, .agg cs) :: l) L) : OP P n W0 ⟨some d, .load t x, ty, pos, af, gd⟩ l L K :=
  .ev rfl hdn (eLdW ht hd hx hb hsz) h

omit hdn in
theorem eLdA {D : Option Nat} {t : TypeId} {dd : TypeDesc} {sz by_ : Nat} {z : Option Value} {x : Operand} {b off : Nat} {cs : Array Value} {T : TypeId} {fz : Nat × Nat} {vs : List Value}
    (ht : tinf P t = some (dd, sz, by_, z)) (hd : nagg dd = false) (hx : evo l x = some (.pointer (some ⟨b, off, none⟩))) (hb : Has L b (.cells cs T fz)) (hsz : vs.length = sz)
    (hv : (cs.toList.drop off).take sz = vs) : EV P n W0 ⟨D, .load t x, ty, pos, af, gd⟩ l L (.agg vs.toArray) :=
  fun a w ha hs => by
    have := run_loadVar_a (cs := vs) (by subst hsz; simpa using ht) hd (w := w) (b := b) (off := off) (fun j v hj => by
      rw [hs.cell hb]
      rw [← hv, List.getElem?_take] at hj
      split at hj
      · simpa using hj
      · cases hj)
    simp [execOp, ha.eval hx, Instr.loadAt, Instr.sureAddr, this]
theorem oLdA {t : TypeId} {dd : TypeDesc} {sz by_ : Nat} {z : Option Value} {x : Operand} {b off : Nat} {cs : Array Value} {T : TypeId} {fz : Nat × Nat} {vs : List Value}
    (ht : tinf P t = some (dd, sz, by_, z)) (hd : nagg dd = false) (hx : evo l x = some (.pointer (some ⟨b, off, none⟩))) (hb : Has L b (.cells cs T fz)) (hsz : vs.length = sz)
    (hv : (cs.toList.drop off).take sz = vs) (h : K ((d, .agg vs.toArray) :: l) L) : OP P n W0 ⟨some d, .load t x, ty, pos, af, gd⟩ l L K :=
  .ev rfl hdn (eLdA ht hd hx hb hsz hv) h

omit hdn in
theorem eLdAO {D : Option Nat} {t : TypeId} {dd : TypeDesc} {sz by_ : Nat} {z : Option Value} {x : Operand} {b off : Nat} {vs : List Value}
    (ht : tinf P t = some (dd, sz, by_, z)) (hd : nagg dd = false) (hx : evo l x = some (.pointer (some ⟨b, off, none⟩))) (hsz : vs.length = sz)
    (hv : ∀ j v, vs[j]? = some v → W0.cell? ⟨b, off + j, none⟩ = some v) : EV P n W0 ⟨D, .load t x, ty, pos, af, gd⟩ l L (.agg vs.toArray) :=
  fun a w ha hs => by
    have := run_loadVar_a (cs := vs) (by subst hsz; simpa using ht) hd (w := w) (b := b) (off := off) (fun j v hj => hs.oldCell (hv j v hj))
    simp [execOp, ha.eval hx, Instr.loadAt, Instr.sureAddr, this]
theorem oLdAO {t : TypeId} {dd : TypeDesc} {sz by_ : Nat} {z : Option Value} {x : Operand} {b off : Nat} {vs : List Value}
    (ht : tinf P t = some (dd, sz, by_, z)) (hd : nagg dd = false) (hx : evo l x = some (.pointer (some ⟨b, off, none⟩))) (hsz : vs.length = sz)
    (hv : ∀ j v, vs[j]? = some v → W0.cell? ⟨b, off + j, none⟩ = some v) (h : K ((d, .agg vs.toArray) :: l) L) : OP P n W0 ⟨some d, .load t x, ty, pos, af, gd⟩ l L K :=
  .ev rfl hdn (eLdAO ht hd hx hsz hv) h

/-! arithmetic -/
omit hdn in
theorem eBin {D : Option Nat} {op : BinOp} {xt yt : TypeId} {x y : Operand} {k : IntKind} {p q : Int} {v : Value} (hx : evo l x = some (.int k p)) (hy : evo l y = some (.int k q))
    (hr : ∀ w, (binOp op xt (.int k p) (.int k q)).run P w = .ok v w) : EV P n W0 ⟨D, .binOp op xt x y yt, ty, pos, af, gd⟩ l L (v) :=
  fun a w ha hs => by cases op <;> simp [execOp, ha.eval hx, ha.eval hy, eqGuard, hr]
theorem oBin {op : BinOp} {xt yt : TypeId} {x y : Operand} {k : IntKind} {p q : Int} {v : Value} (hx : evo l x = some (.int k p)) (hy : evo l y = some (.int k q))
    (hr : ∀ w, (binOp op xt (.int k p) (.int k q)).run P w = .ok v w) (h : K ((d, v) :: l) L) : OP P n W0 ⟨some d, .binOp op xt x y yt, ty, pos, af, gd⟩ l L K :=
  .ev rfl hdn (eBin hx hy hr) h

omit hdn in
theorem eAdd {D : Option Nat} {xt yt : TypeId} {x y : Operand} {p q : Int} (hx : evo l x = some (.int .i64 p)) (hy : evo l y = some (.int .i64 q))
    (hb : -9223372036854775808 ≤ p + q ∧ p + q < 9223372036854775808) : EV P n W0 ⟨D, .binOp .add xt x y yt, ty, pos, af, gd⟩ l L (.int .i64 (p + q)) :=
  eBin hx hy (fun w => by
    have : IntKind.i64.wrap (p + q) = p + q := IntWalk.i64_in _ (by omega)
    simp [binOp, Op.intArith, this])
theorem oAdd {xt yt : TypeId} {x y : Operand} {p q : Int} (hx : evo l x = some (.int .i64 p)) (hy : evo l y = some (.int .i64 q))
    (hb : -9223372036854775808 ≤ p + q ∧ p + q < 9223372036854775808) (h : K ((d, .int .i64 (p + q)) :: l) L) : OP P n W0 ⟨some d, .binOp .add xt x y yt, ty, pos, af, gd⟩ l L K :=
  .ev rfl hdn (eAdd hx hy hb) h
omit hdn in
theorem eSub {D : Option Nat} {xt yt : TypeId} {x y : Operand} {p q : Int} (hx : evo l x = some (.int .i64 p)) (hy : evo l y = some (.int .i64 q))
    (hb : -9223372036854775808 ≤ p - q ∧ p - q < 9223372036854775808) : EV P n W0 ⟨D, .binOp .sub xt x y yt, ty, pos, af, gd⟩ l L (.int .i64 (p - q)) :=
  eBin hx hy (fun w => by
    have : IntKind.i64.wrap (p - q) = p - q := IntWalk.i64_in _ (by omega)
    simp [binOp, Op.intArith, this])
theorem oSub {xt yt : TypeId} {x y : Operand} {p q : Int} (hx : evo l x = some (.int .i64 p)) (hy : evo l y = some (.int .i64 q))
    (hb : -9223372036854775808 ≤ p - q ∧ p - q < 9223372036854775808) (h : K ((d, .int .i64 (p - q)) :: l) L) : OP P n W0 ⟨some d, .binOp .sub xt x y yt, ty, pos, af, gd⟩ l L K :=
  .ev rfl hdn (eSub hx hy hb) h
omit hdn in
theorem eMul {D : Option Nat} {xt yt : TypeId} {x y : Operand} {p q : Int} (hx : evo l x = some (.int .i64 p)) (hy : evo l y = some (.int .i64 q))
    (hb : -9223372036854775808 ≤ p * q ∧ p * q < 9223372036854775808) : EV P n W0 ⟨D, .binOp .mul xt x y yt, ty, pos, af, gd⟩ l L (.int .i64 (p * q)) :=
  eBin hx hy (fun w => by
    have : IntKind.i64.wrap (p * q) = p * q := IntWalk.i64_in _ (by omega)
    simp [binOp, Op.intArith, this])
theorem oMul {xt yt : TypeId} {x y : Operand} {p q : Int} (hx : evo l x = some (.int .i64 p)) (hy : evo l y = some (.int .i64 q))
    (hb : -9223372036854775808 ≤ p * q ∧ p * q < 9223372036854775808) (h : K ((d, .int .i64 (p * q)) :: l) L) : OP P n W0 ⟨some d, .binOp .mul xt x y yt, ty, pos, af, gd⟩ l L K :=
  .ev rfl hdn (eMul hx hy hb) h
omit hdn in
theorem eAddW {D : Option Nat} {xt yt : TypeId} {x y : Operand} {k : IntKind} {p q : Int} (hx : evo l x = some (.int k p)) (hy : evo l y = some (.int k q)) : EV P n W0 ⟨D, .binOp .add xt x y yt, ty, pos, af, gd⟩ l L (.int k (k.wrap (p + q))) :=
  eBin hx hy (fun w => by simp [binOp, Op.intArith])
theorem oAddW {xt yt : TypeId} {x y : Operand} {k : IntKind} {p q : Int} (hx : evo l x = some (.int k p)) (hy : evo l y = some (.int k q)) (h : K ((d, .int k (k.wrap (p + q))) :: l) L) : OP P n W0 ⟨some d, .binOp .add xt x y yt, ty, pos, af, gd⟩ l L K :=
  .ev rfl hdn (eAddW hx hy) h
omit hdn in
theorem eSubW {D : Option Nat} {xt yt : TypeId} {x y : Operand} {k : IntKind} {p q : Int} (hx : evo l x = some (.int k p)) (hy : evo l y = some (.int k q)) : EV P n W0 ⟨D, .binOp .sub xt x y yt, ty, pos, af, gd⟩ l L (.int k (k.wrap (p - q))) :=
  eBin hx hy (fun w => by simp [binOp, Op.intArith])
theorem oSubW {xt yt : TypeId} {x y : Operand} {k : IntKind} {p q : Int} (hx : evo l x = some (.int k p)) (hy : evo l y = some (.int k q)) (h : K ((d, .int k (k.wrap (p - q))) :: l) L) : OP P n W0 ⟨some d, .binOp .sub xt x y yt, ty, pos, af, gd⟩ l L K :=
  .ev rfl hdn (eSubW hx hy) h
omit hdn in
theorem eMulW {D : Option Nat} {xt yt : TypeId} {x y : Operand} {k : IntKind} {p q : Int} (hx : evo l x = some (.int k p)) (hy : evo l y = some (.int k q)) : EV P n W0 ⟨D, .binOp .mul xt x y yt, ty, pos, af, gd⟩ l L (.int k (k.wrap (p * q))) :=
  eBin hx hy (fun w => by simp [binOp, Op.intArith])
theorem oMulW {xt yt : TypeId} {x y : Operand} {k : IntKind} {p q : Int} (hx : evo l x = some (.int k p)) (hy : evo l y = some (.int k q)) (h : K ((d, .int k (k.wrap (p * q))) :: l) L) : OP P n W0 ⟨some d, .binOp .mul xt x y yt, ty, pos, af, gd⟩ l L K :=
  .ev rfl hdn (eMulW hx hy) h
omit hdn in
theorem eRem {D : Option Nat} {xt yt : TypeId} {x y : Operand} {k : IntKind} {p q : Int} (hx : evo l x = some (.int k p)) (hy : evo l y = some (.int k q)) (hq : (q == 0) = false) : EV P n W0 ⟨D, .binOp .rem xt x y yt, ty, pos, af, gd⟩ l L (.int k (p.tmod q)) :=
  eBin hx hy (fun w => by
    have : q ≠ 0 := by simpa using hq
    simp [binOp, Op.intDiv, this])
theorem oRem {xt yt : TypeId} {x y : Operand} {k : IntKind} {p q : Int} (hx : evo l x = some (.int k p)) (hy : evo l y = some (.int k q)) (hq : (q == 0) = false) (h : K ((d, .int k (p.tmod q)) :: l) L) : OP P n W0 ⟨some d, .binOp .rem xt x y yt, ty, pos, af, gd⟩ l L K :=
  .ev rfl hdn (eRem hx hy hq) h

/-! tests: the outcome is a new name -/
omit hdn in
theorem eLt {D : Option Nat} {xt yt : TypeId} {x y : Operand} {k : IntKind} {p q : Int} (hx : evo l x = some (.int k p)) (hy : evo l y = some (.int k q)) : EV P n W0 ⟨D, .binOp .lss xt x y yt, ty, pos, af, gd⟩ l L (.bool (decide (p < q))) :=
  eBin hx hy (fun w => by simp [binOp, Op.intCmp])
theorem oLt {xt yt : TypeId} {x y : Operand} {k : IntKind} {p q : Int} (hx : evo l x = some (.int k p)) (hy : evo l y = some (.int k q)) (h : ∀ t, t = decide (p < q) → K ((d, .bool t) :: l) L) : OP P n W0 ⟨some d, .binOp .lss xt x y yt, ty, pos, af, gd⟩ l L K :=
  .ev rfl hdn (eLt hx hy) (h _ rfl)
omit hdn in
theorem eLe {D : Option Nat} {xt yt : TypeId} {x y : Operand} {k : IntKind} {p q : Int} (hx : evo l x = some (.int k p)) (hy : evo l y = some (.int k q)) : EV P n W0 ⟨D, .binOp .leq xt x y yt, ty, pos, af, gd⟩ l L (.bool (decide (p ≤ q))) :=
  eBin hx hy (fun w => by simp [binOp, Op.intCmp])
theorem oLe {xt yt : TypeId} {x y : Operand} {k : IntKind} {p q : Int} (hx : evo l x = some (.int k p)) (hy : evo l y = some (.int k q)) (h : ∀ t, t = decide (p ≤ q) → K ((d, .bool t) :: l) L) : OP P n W0 ⟨some d, .binOp .leq xt x y yt, ty, pos, af, gd⟩ l L K :=
  .ev rfl hdn (eLe hx hy) (h _ rfl)
omit hdn in
theorem eGt {D : Option Nat} {xt yt : TypeId} {x y : Operand} {k : IntKind} {p q : Int} (hx : evo l x = some (.int k p)) (hy : evo l y = some (.int k q)) : EV P n W0 ⟨D, .binOp .gtr xt x y yt, ty, pos, af, gd⟩ l L (.bool (decide (q < p))) :=
  eBin hx hy (fun w => by simp [binOp, Op.intCmp])
theorem oGt {xt yt : TypeId} {x y : Operand} {k : IntKind} {p q : Int} (hx : evo l x = some (.int k p)) (hy : evo l y = some (.int k q)) (h : ∀ t, t = decide (q < p) → K ((d, .bool t) :: l) L) : OP P n W0 ⟨some d, .binOp .gtr xt x y yt, ty, pos, af, gd⟩ l L K :=
  .ev rfl hdn (eGt hx hy) (h _ rfl)
omit hdn in
theorem eGe {D : Option Nat} {xt yt : TypeId} {x y : Operand} {k : IntKind} {p q : Int} (hx : evo l x = some (.int k p)) (hy : evo l y = some (.int k q)) : EV P n W0 ⟨D, .binOp .geq xt x y yt, ty, pos, af, gd⟩ l L (.bool (decide (q ≤ p))) :=
  eBin hx hy (fun w => by simp [binOp, Op.intCmp])
theorem oGe {xt yt : TypeId} {x y : Operand} {k : IntKind} {p q : Int} (hx : evo l x = some (.int k p)) (hy : evo l y = some (.int k q)) (h : ∀ t, t = decide (q ≤ p) → K ((d, .bool t) :: l) L) : OP P n W0 ⟨some d, .binOp .geq xt x y yt, ty, pos, af, gd⟩ l L K :=
  .ev rfl hdn (eGe hx hy) (h _ rfl)
omit hdn in
theorem eEq {D : Option Nat} {xt yt : TypeId} {x y : Operand} {k : IntKind} {p q : Int} (hx : evo l x = some (.int k p)) (hy : evo l y = some (.int k q)) : EV P n W0 ⟨D, .binOp .eql xt x y yt, ty, pos, af, gd⟩ l L (.bool (decide (p = q))) :=
  eBin hx hy (fun w => by simp [binOp, Op.intCmp]; rfl)
theorem oEq {xt yt : TypeId} {x y : Operand} {k : IntKind} {p q : Int} (hx : evo l x = some (.int k p)) (hy : evo l y = some (.int k q)) (h : ∀ t, t = decide (p = q) → K ((d, .bool t) :: l) L) : OP P n W0 ⟨some d, .binOp .eql xt x y yt, ty, pos, af, gd⟩ l L K :=
  .ev rfl hdn (eEq hx hy) (h _ rfl)
omit hdn in
theorem eNe {D : Option Nat} {xt yt : TypeId} {x y : Operand} {k : IntKind} {p q : Int} (hx : evo l x = some (.int k p)) (hy : evo l y = some (.int k q)) : EV P n W0 ⟨D, .binOp .neq xt x y yt, ty, pos, af, gd⟩ l L (.bool (decide (p ≠ q))) :=
  eBin hx hy (fun w => by simp [binOp, Op.intCmp, bne]; rfl)
theorem oNe {xt yt : TypeId} {x y : Operand} {k : IntKind} {p q : Int} (hx : evo l x = some (.int k p)) (hy : evo l y = some (.int k q)) (h : ∀ t, t = decide (p ≠ q) → K ((d, .bool t) :: l) L) : OP P n W0 ⟨some d, .binOp .neq xt x y yt, ty, pos, af, gd⟩ l L K :=
  .ev rfl hdn (eNe hx hy) (h _ rfl)

omit hdn in
theorem eEqR {D : Option Nat} {xt yt : TypeId} {x y : Operand} {u v : Value} {r : Bool} (hx : evo l x = some u) (hy : evo l y = some v)
    (hr : ∀ w, (do eqGuard .eql xt x y u v; binOp .eql xt u v : Sem Value).run P w = .ok (.bool r) w) : EV P n W0 ⟨D, .binOp .eql xt x y yt, ty, pos, af, gd⟩ l L (.bool r) :=
  fun a w ha hs => by
    have := hr w
    simp only [execOp, ha.eval hx, ha.eval hy, Sem.run_bind, Sem.run_pure] at this ⊢
    simp [this]
omit hdn in
theorem eNeR {D : Option Nat} {xt yt : TypeId} {x y : Operand} {u v : Value} {r : Bool} (hx : evo l x = some u) (hy : evo l y = some v)
    (hr : ∀ w, (do eqGuard .neq xt x y u v; binOp .neq xt u v : Sem Value).run P w = .ok (.bool r) w) : EV P n W0 ⟨D, .binOp .neq xt x y yt, ty, pos, af, gd⟩ l L (.bool r) :=
  fun a w ha hs => by
    have := hr w
    simp only [execOp, ha.eval hx, ha.eval hy, Sem.run_bind, Sem.run_pure] at this ⊢
    simp [this]
theorem oEqR {xt yt : TypeId} {x y : Operand} {u v : Value} {r : Bool} (hx : evo l x = some u) (hy : evo l y = some v)
    (hr : ∀ w, (do eqGuard .eql xt x y u v; binOp .eql xt u v : Sem Value).run P w = .ok (.bool r) w)
    (h : ∀ t, t = r → K ((d, .bool t) :: l) L) : OP P n W0 ⟨some d, .binOp .eql xt x y yt, ty, pos, af, gd⟩ l L K :=
  .val rfl hdn fun a w ha hs => ⟨.bool r, w, L, by
    have := hr w
    simp only [execOp, ha.eval hx, ha.eval hy, Sem.run_bind, Sem.run_pure] at this ⊢
    simp [this], hs, h _ rfl⟩
theorem oNeR {xt yt : TypeId} {x y : Operand} {u v : Value} {r : Bool} (hx : evo l x = some u) (hy : evo l y = some v)
    (hr : ∀ w, (do eqGuard .neq xt x y u v; binOp .neq xt u v : Sem Value).run P w = .ok (.bool r) w)
    (h : ∀ t, t = r → K ((d, .bool t) :: l) L) : OP P n W0 ⟨some d, .binOp .neq xt x y yt, ty, pos, af, gd⟩ l L K :=
  .val rfl hdn fun a w ha hs => ⟨.bool r, w, L, by
    have := hr w
    simp only [execOp, ha.eval hx, ha.eval hy, Sem.run_bind, Sem.run_pure] at this ⊢
    simp [this], hs, h _ rfl⟩

omit hdn in
theorem eNot {D : Option Nat} {xt : TypeId} {x : Operand} {t : Bool} (hx : evo l x = some (.bool t)) : EV P n W0 ⟨D, .unOp .not xt x, ty, pos, af, gd⟩ l L (.bool (!t)) :=
  fun a w ha hs => by simp [execOp, ha.eval hx, Op.unary]
theorem oNot {xt : TypeId} {x : Operand} {t : Bool} (hx : evo l x = some (.bool t)) (h : K ((d, .bool (!t)) :: l) L) : OP P n W0 ⟨some d, .unOp .not xt x, ty, pos, af, gd⟩ l L K :=
  .ev rfl hdn (eNot hx) h

omit hdn in
theorem eCv {D : Option Nat} {s t : TypeId} {x : Operand} {k j : IntKind} {p : Int} {sd : TypeDesc} {a1 a2 b1 b2 : Nat} {z1 z2 : Option Value} (hs_ : tinf P s = some (sd, a1, a2, z1)) (ht : tinf P t = some (.int k, b1, b2, z2))
    (hx : evo l x = some (.int j p)) : EV P n W0 ⟨D, .convert s t x, ty, pos, af, gd⟩ l L (.int k (k.wrap p)) :=
  fun a w ha hs => by cases sd <;> simp [execOp, ha.eval hx, convert, run_und hs_, run_und ht, Conv.intToInt]
theorem oCv {s t : TypeId} {x : Operand} {k j : IntKind} {p : Int} {sd : TypeDesc} {a1 a2 b1 b2 : Nat} {z1 z2 : Option Value} (hs_ : tinf P s = some (sd, a1, a2, z1)) (ht : tinf P t = some (.int k, b1, b2, z2))
    (hx : evo l x = some (.int j p)) (h : K ((d, .int k (k.wrap p)) :: l) L) : OP P n W0 ⟨some d, .convert s t x, ty, pos, af, gd⟩ l L K :=
  .ev rfl hdn (eCv hs_ ht hx) h

omit hdn in
theorem eNil {D : Option Nat} {x : Operand} {ad : Addr} (hx : evo l x = some (.pointer (some ad))) : EV P n W0 ⟨D, .nilCheck x, ty, pos, af, gd⟩ l L (.pointer (some ad)) :=
  fun a w ha hs => by simp [execOp, ha.eval hx]
theorem oNil {x : Operand} {ad : Addr} (hx : evo l x = some (.pointer (some ad))) (h : K ((d, .pointer (some ad)) :: l) L) : OP P n W0 ⟨some d, .nilCheck x, ty, pos, af, gd⟩ l L K :=
  .ev rfl hdn (eNil hx) h

omit hdn in
theorem eFld {D : Option Nat} {s : TypeId} {x : Operand} {f : Nat} {fs : Array Field} {fd : Field} {a1 a2 b1 b2 : Nat} {z1 z2 : Option Value} {ft : TypeDesc} {b off : Nat} (fo : Nat)
    (ht : tinf P s = some (.struct fs, a1, a2, z1)) (hf : fs[f]? = some fd) (hfo : fd.offset = fo) (hft : tinf P fd.type = some (ft, b1 + 1, b2, z2))
    (hx : evo l x = some (.pointer (some ⟨b, off, none⟩))) : EV P n W0 ⟨D, .fieldAddr s x f, ty, pos, af, gd⟩ l L (.pointer (some ⟨b, off + fo, none⟩)) :=
  fun a w ha hs => by subst hfo; simp [execOp, ha.eval hx, Instr.fieldAt, run_und ht, hf, Instr.sureAddr, fieldPlace, run_size hft, addr_add]
theorem oFld {s : TypeId} {x : Operand} {f : Nat} {fs : Array Field} {fd : Field} {a1 a2 b1 b2 : Nat} {z1 z2 : Option Value} {ft : TypeDesc} {b off : Nat} (fo : Nat)
    (ht : tinf P s = some (.struct fs, a1, a2, z1)) (hf : fs[f]? = some fd) (hfo : fd.offset = fo) (hft : tinf P fd.type = some (ft, b1 + 1, b2, z2))
    (hx : evo l x = some (.pointer (some ⟨b, off, none⟩))) (h : K ((d, .pointer (some ⟨b, off + fo, none⟩)) :: l) L) : OP P n W0 ⟨some d, .fieldAddr s x f, ty, pos, af, gd⟩ l L K :=
  .ev rfl hdn (eFld fo ht hf hfo hft hx) h

omit hdn in
theorem eExt {D : Option Nat} {x : Operand} {i : Nat} {vs : Array Value} {v : Value} (hx : evo l x = some (.tuple vs)) (hv : cg vs i = some v) : EV P n W0 ⟨D, .extract x i, ty, pos, af, gd⟩ l L (v) :=
  fun a w ha hs => by rw [cg_eq] at hv; simp [execOp, ha.eval hx, Instr.extract, hv]
theorem oExt {x : Operand} {i : Nat} {vs : Array Value} {v : Value} (hx : evo l x = some (.tuple vs)) (hv : cg vs i = some v) (h : K ((d, v) :: l) L) : OP P n W0 ⟨some d, .extract x i, ty, pos, af, gd⟩ l L K :=
  .ev rfl hdn (eExt hx hv) h

omit hdn in
theorem eIx {D : Option Nat} {t : TypeId} {x i : Operand} {e : TypeId} {a1 a2 b1 b2 : Nat} {z1 z2 : Option Value} {et : TypeDesc} {b off len cap : Nat} {j : Int}
    (ht : tinf P t = some (.slice e, a1, a2, z1)) (he : tinf P e = some (et, b1, b2, z2))
    (hx : evo l x = some (.slice (some ⟨b, off, none⟩) len cap)) (hi : evo l i = some (.int .i64 j)) (h0 : 0 ≤ j) (h1 : j < len) : EV P n W0 ⟨D, .indexAddr t x i, ty, pos, af, gd⟩ l L (.pointer (some ⟨b, off + j.toNat * b1, none⟩)) :=
  fun a w ha hs => by
    simp [execOp, ha.eval hx, ha.eval hi, Instr.indexAt, asIntOf, run_und ht, h0, h1, run_size he, addr_add]
theorem oIx {t : TypeId} {x i : Operand} {e : TypeId} {a1 a2 b1 b2 : Nat} {z1 z2 : Option Value} {et : TypeDesc} {b off len cap : Nat} {j : Int}
    (ht : tinf P t = some (.slice e, a1, a2, z1)) (he : tinf P e = some (et, b1, b2, z2))
    (hx : evo l x = some (.slice (some ⟨b, off, none⟩) len cap)) (hi : evo l i = some (.int .i64 j)) (h0 : 0 ≤ j) (h1 : j < len) (h : K ((d, .pointer (some ⟨b, off + j.toNat * b1, none⟩)) :: l) L) : OP P n W0 ⟨some d, .indexAddr t x i, ty, pos, af, gd⟩ l L K :=
  .ev rfl hdn (eIx ht he hx hi h0 h1) h

omit hdn in
theorem eIxA {D : Option Nat} {t : TypeId} {x i : Operand} {e : TypeId} {len a1 a2 b1 b2 : Nat} {z1 z2 : Option Value} {et : TypeDesc} {b off : Nat} {j : Int}
    (ht : tinf P t = some (.array len e, a1, a2, z1)) (he : tinf P e = some (et, b1, b2, z2))
    (hx : evo l x = some (.pointer (some ⟨b, off, none⟩))) (hi : evo l i = some (.int .i64 j)) (h0 : 0 ≤ j) (h1 : j < len) : EV P n W0 ⟨D, .indexAddr t x i, ty, pos, af, gd⟩ l L (.pointer (some ⟨b, off + j.toNat * b1, none⟩)) :=
  fun a w ha hs => by
    simp [execOp, ha.eval hx, ha.eval hi, Instr.indexAt, asIntOf, run_und ht, h0, h1, run_size he, addr_add, Instr.sureAddr]
theorem oIxA {t : TypeId} {x i : Operand} {e : TypeId} {len a1 a2 b1 b2 : Nat} {z1 z2 : Option Value} {et : TypeDesc} {b off : Nat} {j : Int}
    (ht : tinf P t = some (.array len e, a1, a2, z1)) (he : tinf P e = some (et, b1, b2, z2))
    (hx : evo l x = some (.pointer (some ⟨b, off, none⟩))) (hi : evo l i = some (.int .i64 j)) (h0 : 0 ≤ j) (h1 : j < len) (h : K ((d, .pointer (some ⟨b, off + j.toNat * b1, none⟩)) :: l) L) : OP P n W0 ⟨some d, .indexAddr t x i, ty, pos, af, gd⟩ l L K :=
  .ev rfl hdn (eIxA ht he hx hi h0 h1) h

/-! builtins -/
omit hdn in
theorem eLenS {D : Option Nat} {x : Operand} {t : TypeId} {e : TypeId} {a1 a2 : Nat} {z1 : Option Value} {ad : Option Addr} {len cap : Nat}
    (ht : tinf P t = some (.slice e, a1, a2, z1)) (hx : evo l x = some (.slice ad len cap)) : EV P n W0 ⟨D, .call ⟨.builtin .len, #[x], #[t]⟩, ty, pos, af, gd⟩ l L (.int .i64 (len : Int)) :=
  fun a w ha hs => by simp [execOp, resolve, invoke, builtin, ha.eval hx, Builtin.len_, run_und ht, goInt]
theorem oLenS {x : Operand} {t : TypeId} {e : TypeId} {a1 a2 : Nat} {z1 : Option Value} {ad : Option Addr} {len cap : Nat}
    (ht : tinf P t = some (.slice e, a1, a2, z1)) (hx : evo l x = some (.slice ad len cap)) (h : K ((d, .int .i64 (len : Int)) :: l) L) : OP P n W0 ⟨some d, .call ⟨.builtin .len, #[x], #[t]⟩, ty, pos, af, gd⟩ l L K :=
  .ev rfl hdn (eLenS ht hx) h
omit hdn in
theorem eLenStr {D : Option Nat} {x : Operand} {t : TypeId} {a1 a2 : Nat} {z1 : Option Value} {s : ByteArray}
    (ht : tinf P t = some (.string, a1, a2, z1)) (hx : evo l x = some (.string s)) : EV P n W0 ⟨D, .call ⟨.builtin .len, #[x], #[t]⟩, ty, pos, af, gd⟩ l L (.int .i64 (s.size : Int)) :=
  fun a w ha hs => by simp [execOp, resolve, invoke, builtin, ha.eval hx, Builtin.len_, run_und ht, goInt]
theorem oLenStr {x : Operand} {t : TypeId} {a1 a2 : Nat} {z1 : Option Value} {s : ByteArray}
    (ht : tinf P t = some (.string, a1, a2, z1)) (hx : evo l x = some (.string s)) (h : K ((d, .int .i64 (s.size : Int)) :: l) L) : OP P n W0 ⟨some d, .call ⟨.builtin .len, #[x], #[t]⟩, ty, pos, af, gd⟩ l L K :=
  .ev rfl hdn (eLenStr ht hx) h
omit hdn in
theorem eLenA {D : Option Nat} {x : Operand} {t : TypeId} {e : TypeId} {len a1 a2 : Nat} {z1 : Option Value} {v : Value}
    (ht : tinf P t = some (.array len e, a1, a2, z1)) (hx : evo l x = some v) : EV P n W0 ⟨D, .call ⟨.builtin .len, #[x], #[t]⟩, ty, pos, af, gd⟩ l L (.int .i64 (len : Int)) :=
  fun a w ha hs => by simp [execOp, resolve, invoke, builtin, ha.eval hx, Builtin.len_, run_und ht, goInt]
theorem oLenA {x : Operand} {t : TypeId} {e : TypeId} {len a1 a2 : Nat} {z1 : Option Value} {v : Value}
    (ht : tinf P t = some (.array len e, a1, a2, z1)) (hx : evo l x = some v) (h : K ((d, .int .i64 (len : Int)) :: l) L) : OP P n W0 ⟨some d, .call ⟨.builtin .len, #[x], #[t]⟩, ty, pos, af, gd⟩ l L K :=
  .ev rfl hdn (eLenA ht hx) h
omit hdn in
theorem eLenM {D : Option Nat} {x : Operand} {t : TypeId} {kt e : TypeId} {a1 a2 : Nat} {z1 : Option Value} {r : Nat} {es : Array MapEntry} {clk : Nat}
    (ht : tinf P t = some (.map kt e, a1, a2, z1)) (hx : evo l x = some (.map (some r))) (hb : Has L r (.map es clk)) : EV P n W0 ⟨D, .call ⟨.builtin .len, #[x], #[t]⟩, ty, pos, af, gd⟩ l L (.int .i64 (es.size : Int)) :=
  fun a w ha hs => by
    have := hs.get hb
    simp [execOp, resolve, invoke, builtin, ha.eval hx, Builtin.len_, run_und ht, goInt, getObj, Sem.run, this]
theorem oLenM {x : Operand} {t : TypeId} {kt e : TypeId} {a1 a2 : Nat} {z1 : Option Value} {r : Nat} {es : Array MapEntry} {clk : Nat}
    (ht : tinf P t = some (.map kt e, a1, a2, z1)) (hx : evo l x = some (.map (some r))) (hb : Has L r (.map es clk)) (h : K ((d, .int .i64 (es.size : Int)) :: l) L) : OP P n W0 ⟨some d, .call ⟨.builtin .len, #[x], #[t]⟩, ty, pos, af, gd⟩ l L K :=
  .ev rfl hdn (eLenM ht hx hb) h
omit hdn in
theorem eMax {D : Option Nat} {x y : Operand} {ts : Array TypeId} {k : IntKind} {p q : Int} (hx : evo l x = some (.int k p)) (hy : evo l y = some (.int k q)) : EV P n W0 ⟨D, .call ⟨.builtin .max, #[x, y], ts⟩, ty, pos, af, gd⟩ l L (.int k (max p q)) :=
  fun a w ha hs => by
    simp [execOp, resolve, invoke, builtin, ha.eval hx, ha.eval hy, Builtin.max_, Builtin.max2]; split <;> omega
theorem oMax {x y : Operand} {ts : Array TypeId} {k : IntKind} {p q : Int} (hx : evo l x = some (.int k p)) (hy : evo l y = some (.int k q)) (h : K ((d, .int k (max p q)) :: l) L) : OP P n W0 ⟨some d, .call ⟨.builtin .max, #[x, y], ts⟩, ty, pos, af, gd⟩ l L K :=
  .ev rfl hdn (eMax hx hy) h
omit hdn in
theorem eMin {D : Option Nat} {x y : Operand} {ts : Array TypeId} {k : IntKind} {p q : Int} (hx : evo l x = some (.int k p)) (hy : evo l y = some (.int k q)) : EV P n W0 ⟨D, .call ⟨.builtin .min, #[x, y], ts⟩, ty, pos, af, gd⟩ l L (.int k (min p q)) :=
  fun a w ha hs => by
    simp [execOp, resolve, invoke, builtin, ha.eval hx, ha.eval hy, Builtin.min_, Builtin.min2]; split <;> omega
theorem oMin {x y : Operand} {ts : Array TypeId} {k : IntKind} {p q : Int} (hx : evo l x = some (.int k p)) (hy : evo l y = some (.int k q)) (h : K ((d, .int k (min p q)) :: l) L) : OP P n W0 ⟨some d, .call ⟨.builtin .min, #[x, y], ts⟩, ty, pos, af, gd⟩ l L K :=
  .ev rfl hdn (eMin hx hy) h

/-! stores -/
omit hdn in
theorem oneCell_of {v : Value} (h : v.oneCell' = true) : v.cells = #[v] := by cases v <;> simp [Value.oneCell'] at h <;> rfl

omit hdn in
theorem run_storeVar_s {t : TypeId} {dd : TypeDesc} {by_ : Nat} {z : Option Value} (ht : tinf P t = some (dd, 1, by_, z)) {v : Value} (hv : v.oneCell' = true) {w : World} {a : Addr} {u : Value}
    (hc : w.cell? a = some u) (hf : w.frozen? a = false) : (storeVar t a v).run P w = .ok () (w.setCell a v) := by
  have h0 : a.add 0 = a := by simp [Addr.add]
  simp [storeVar, run_size ht, oneCell_of hv, storeCells, run_store _ _ _ _ _ hv, h0, hc, hf]

omit hdn in
/-- a value of one cell into a block -/
theorem oSt {t : TypeId} {dd : TypeDesc} {by_ : Nat} {z : Option Value} {x y : Operand} {b off : Nat} {cs : Array Value} {T : TypeId} {fz : Nat × Nat} {v : Value} {o' : Obj} {L' : Heap}
    (ht : tinf P t = some (dd, 1, by_, z)) (hx : evo l x = some (.pointer (some ⟨b, off, none⟩))) (hy : evo l y = some v) (hv : v.oneCell' = true)
    (ho : Obj.cells (cs.setIfInBounds off v) T fz = o') (hb : Upd L b (.cells cs T fz) o' L')
    (hoff : off < cs.size) (hfz : (decide (fz.1 ≤ off) && decide (off < fz.2)) = false) (h : K l L') : OP P n W0 ⟨none, .store t x y, ty, pos, af, gd⟩ l L K :=
  .skp rfl fun a w ha hs => ⟨w.setCell ⟨b, off, none⟩ v, L', by
    have hc : w.cell? ⟨b, off, none⟩ = some cs[off] := by rw [hs.cell hb.has]; simp [hoff]
    have hf : w.frozen? ⟨b, off, none⟩ = false := by rw [hs.frozen hb.has]; exact hfz
    have := run_storeVar_s ht hv hc hf
    simp [execOp, ha.eval hx, ha.eval hy, Instr.storeAt, Instr.sureAddr, this], by subst ho; exact hs.setCell hb, h⟩

def seg (cs : Array Value) (off : Nat) (vs : List Value) : Array Value := (cs.toList.take off ++ vs ++ cs.toList.drop (off + vs.length)).toArray

omit hdn in
theorem Sep.setRow {w : World} (hs : Sep W0 w L) {b : Nat} {cs cs' : Array Value} {T : TypeId} {L' : Heap} (hb : Upd L b (.cells cs T (0, 0)) (.cells cs' T (0, 0)) L') : Sep W0 (w.setRow b cs') L' := by
  have hg := hs.get hb.has
  refine hs.write hb rfl rfl rfl (by simp [World.setRow]) ?_ ?_
  · simp only [World.setRow, Array.getElem?_modify, ↓reduceIte, hg, Option.map_some]
  · intro k hk
    simp only [World.setRow, Array.getElem?_modify]
    rw [if_neg (by omega)]

omit hdn in
/-- a struct into a block -/
theorem oStA {t : TypeId} {dd : TypeDesc} {sz by_ : Nat} {z : Option Value} {x y : Operand} {b off : Nat} {cs : Array Value} {T : TypeId} {vs : List Value} {o' : Obj} {L' : Heap}
    (ht : tinf P t = some (dd, sz, by_, z)) (hx : evo l x = some (.pointer (some ⟨b, off, none⟩))) (hy : evo l y = some (.agg vs.toArray)) (hsz : vs.length = sz) (hv : vs.all Value.oneCell' = true)
    (ho : Obj.cells (seg cs off vs) T (0, 0) = o') (hb : Upd L b (.cells cs T (0, 0)) o' L')
    (hoff : off + vs.length ≤ cs.size) (h : K l L') : OP P n W0 ⟨none, .store t x y, ty, pos, af, gd⟩ l L K :=
  .skp rfl fun a w ha hs => ⟨w.setRow b (seg cs off vs), L', by
    have hst := run_storeCells_at P b off T vs 0 cs w (hs.get hb.has) (by simpa using hoff) (List.all_eq_true.1 hv)
    simp only [Nat.add_zero] at hst
    simp [execOp, ha.eval hx, ha.eval hy, Instr.storeAt, Instr.sureAddr, storeVar, run_size ht, Value.cells, hsz, hst, seg], by subst ho; exact hs.setRow hb, h⟩

omit hdn in
/-- a struct into the whole of a block -/
theorem oStW {t : TypeId} {dd : TypeDesc} {sz by_ : Nat} {z : Option Value} {x y : Operand} {b : Nat} {cs vs : Array Value} {T : TypeId} {L' : Heap}
    (ht : tinf P t = some (dd, sz, by_, z)) (hx : evo l x = some (.pointer (some ⟨b, 0, none⟩))) (hy : evo l y = some (.agg vs)) (hsz : vs.size = sz) (hv : vs.toList.all Value.oneCell' = true)
    (hb : Upd L b (.cells cs T (0, 0)) (.cells vs T (0, 0)) L')
    (hoff : cs.size = vs.size) (h : K l L') : OP P n W0 ⟨none, .store t x y, ty, pos, af, gd⟩ l L K := by
  have e : seg cs 0 vs.toList = vs := by
    have h0 : cs.toList.drop vs.size = [] := List.drop_of_length_le (by simp [hoff])
    simp [seg, h0]
  exact oStA (vs := vs.toList) (off := 0) ht hx (by simpa using hy) (by simpa using hsz) hv rfl (by rw [e]; exact hb) (by simp [hoff]) h

/-! calls of functions -/
def evs (l : Env) : List Operand → Option (List Value)
  | [] => some []
  | x :: r => match evo l x, evs l r with
    | some v, some vs => some (v :: vs)
    | _, _ => none

omit hdn in
theorem evs_eval {a : Act} (ha : RepE n a l) : ∀ {xs : List Operand} {vs : List Value}, evs l xs = some vs → xs.map a.eval = vs := by
  intro xs
  induction xs with
  | nil => intro vs h; simp [evs] at h; simp [h]
  | cons x r ih =>
    intro vs h
    simp only [evs] at h
    split at h
    · rename_i v us hv hus
      cases h
      simp [ih hus, ha.eval hv]
    · cases h

/-- a Go function with a body, which is no function that the model has by its name -/
def plainFn (P : Program) (f : FuncId) : Bool :=
  match P.funcs[f]? with
  | some fn => fn.name != "runtime.NumGoroutine" && fn.body.isSome
  | none => false

omit hdn in
theorem run_callFunc {f : FuncId} (hf : plainFn P f = true) (args : Array Value) (w : World) : (callFunc f args).run P w = .ok (.enter f args) w := by
  unfold plainFn at hf
  split at hf
  · rename_i fn h
    simp only [Bool.and_eq_true, bne_iff_ne, ne_eq] at hf
    have h1 : ¬ fn.name = "runtime.NumGoroutine" := hf.1
    have h2 : ¬ fn.body = none := by intro e; simp [e] at hf
    simp [callFunc, h, h1, h2]
  · cases hf

/-- any call whose function value is known: what is handed on and what was captured -/
theorem oCall {fx : Operand} {f : FuncId} {first cap : Array Value} {xs : List Operand} {vs : List Value} {ats : Array TypeId} {args : Array Value} {L1 : Heap} {post : Value → Heap → Prop}
    (hf : plainFn P f = true) (hfx : evo l fx = some (.func (.func f) first cap)) (hxs : evs l xs = some vs) (hargs : first ++ vs.toArray ++ cap = args)
    (hc : FnC W0 P f args L1 post) (hsel : Sel L L1) (h : ∀ v L', post v L' → K ((d, v) :: l) L') : OP P n W0 ⟨some d, .call ⟨.value fx, xs.toArray, ats⟩, ty, pos, af, gd⟩ l L K := by
  intro a w next Q ha hs hk
  have hrun : (execOp a.eval ⟨some d, .call ⟨.value fx, xs.toArray, ats⟩, ty, pos, af, gd⟩).run P w = .ok (.enter f args) w := by
    have := evs_eval ha hxs
    simp only [execOp, resolve, ha.eval hfx, Deferred.ofValue, List.map_toArray, this, Sem.run_bind, Sem.run_pure, Result.andThen_ok, invoke]
    rw [hargs]; exact run_callFunc hf _ _
  simp only [Oper.wp, hrun, Oper.upon_enter]
  refine (hc w (hs.sel hsel)).mono ?_
  rintro e w' ⟨v, L', rfl, hp, hs'⟩
  exact hk _ w' _ L' (ha.put hdn v) hs' (h v L' hp)

/-- a call of a function by its name -/
theorem oC {f : FuncId} {xs : List Operand} {vs : List Value} {ats : Array TypeId} {L1 : Heap} {post : Value → Heap → Prop}
    (hf : plainFn P f = true) (hxs : evs l xs = some vs) (hc : FnC W0 P f vs.toArray L1 post) (hsel : Sel L L1) (h : ∀ v L', post v L' → K ((d, v) :: l) L') : OP P n W0 ⟨some d, .call ⟨.value (.func f), xs.toArray, ats⟩, ty, pos, af, gd⟩ l L K :=
  oCall hdn hf rfl hxs (by simp) hc hsel h

omit hdn in
theorem eMkF {D : Option Nat} {fn : Go.Fn} {xs ys : List Operand} {us vs : List Value} (hxs : evs l xs = some us) (hys : evs l ys = some vs) : EV P n W0 ⟨D, .makeFunc fn xs.toArray ys.toArray, ty, pos, af, gd⟩ l L (.func fn us.toArray vs.toArray) :=
  fun a w ha hs => by
    have h1 := evs_eval ha hxs; have h2 := evs_eval ha hys
    simp [execOp, Instr.makeFunc, h1, h2]
theorem oMkF {fn : Go.Fn} {xs ys : List Operand} {us vs : List Value} (hxs : evs l xs = some us) (hys : evs l ys = some vs) (h : K ((d, .func fn us.toArray vs.toArray) :: l) L) : OP P n W0 ⟨some d, .makeFunc fn xs.toArray ys.toArray, ty, pos, af, gd⟩ l L K :=
  .ev rfl hdn (eMkF hxs hys) h

theorem oMkM {t : TypeId} (h : ∀ r, K ((d, .map (some r)) :: l) ((r, .map #[] 0) :: L)) : OP P n W0 ⟨some d, .makeMap t none, ty, pos, af, gd⟩ l L K :=
  .val rfl hdn fun a w ha hs => ⟨.map (some w.heap.size), w.alloc (.map #[] 0), (w.heap.size, .map #[] 0) :: L, by simp [execOp, Instr.makeMap], hs.alloc _, h _⟩

omit hdn in
theorem dt {p : Prop} [Decidable p] (h : true = decide p) : p := of_decide_eq_true h.symm
omit hdn in
theorem df {p : Prop} [Decidable p] (h : false = decide p) : ¬ p := of_decide_eq_false h.symm

theorem oNotV {xt : TypeId} {x : Operand} {t : Bool} (hx : evo l x = some (.bool t)) (h : ∀ u, u = !t → K ((d, .bool u) :: l) L) : OP P n W0 ⟨some d, .unOp .not xt x, ty, pos, af, gd⟩ l L K :=
  oNot hdn hx (h _ rfl)

end
end Go.Proofs.Ytahjgjmemijofaa.Eng
