/- The engine's rules for maps: a map told by a list of keys, values and births. No statement of the seat is proved here. -/
import Derived.Test.YtahjgjmemijofaaOps2
import Derived.MapKept
namespace Go.Proofs.Ytahjgjmemijofaa.Eng
open Go
set_option linter.unusedVariables false
set_option linter.unusedSimpArgs false

variable {P : Program} {n : Nat} {W0 : World} {l : Env} {L : Heap} {K : Env → Heap → Prop} {o : Oper}
variable {κ α : Type} [DecidableEq κ]

def mpL (ke : κ → Value) (ve : α → Value) (m : List (κ × α × Nat)) : List MapEntry := m.map fun e => { key := ke e.1, val := ve e.2.1, born := e.2.2 }
/-- the block of a map -/
def mp (ke : κ → Value) (ve : α → Value) (m : List (κ × α × Nat)) (clk : Nat) : Obj := .map (mpL ke ve m).toArray clk

def mget (k : κ) : List (κ × α × Nat) → Option α
  | [] => none
  | e :: r => if e.1 = k then some e.2.1 else mget k r
def mset (k : κ) (v : α) (clk : Nat) : List (κ × α × Nat) → List (κ × α × Nat)
  | [] => [(k, v, clk)]
  | e :: r => if e.1 = k then (k, v, e.2.2) :: r else e :: mset k v clk r
def mdel (k : κ) : List (κ × α × Nat) → List (κ × α × Nat)
  | [] => []
  | e :: r => if e.1 = k then r else e :: mdel k r
def mclk (k : κ) (clk : Nat) (m : List (κ × α × Nat)) : Nat := if (mget k m).isSome then clk else clk + 1

structure KOk (P : Program) (kt : TypeId) (ke : κ → Value) : Prop where
  now : ∃ kd, P.underlying kt = some kd ∧ ∀ a b, Instr.sameNow kd (ke a) (ke b) = some (decide (a = b))
  chk : ∀ e a w, (Instr.checkKey e 10000 kt (ke a)).run P w = .ok () w
  bits : ∀ a, Instr.sameBits 10000 (ke a) (ke a) = true

def intKey (x : Int) : Value := .int .i64 x
theorem intKOk {kt : TypeId} {a1 a2 : Nat} {z : Option Value} {k : IntKind} (ht : tinf P kt = some (.int k, a1, a2, z)) : KOk P kt intKey where
  now := ⟨_, (tinf_run ht).1, fun a b => by simp [Instr.sameNow, intKey]; rfl⟩
  chk := fun e a w => by
    have : ∀ d, (Instr.checkKey e (d + 1) kt (intKey a)).run P w = .ok () w := fun d => by simp [Instr.checkKey, run_und ht, intKey]
    exact this 9999
  bits := fun a => by simp [Instr.sameBits, intKey]

theorem strKOk {kt : TypeId} {a1 a2 : Nat} {z : Option Value} (ht : tinf P kt = some (.string, a1, a2, z)) : KOk P kt Value.string where
  now := ⟨_, (tinf_run ht).1, fun a b => by
    simp only [Instr.sameNow, Option.some.injEq]
    rw [Bool.eq_iff_iff, Go.MapKept.bytes_beq]; simp⟩
  chk := fun e a w => by
    have : ∀ d, (Instr.checkKey e (d + 1) kt (.string a)).run P w = .ok () w := fun d => by simp [Instr.checkKey, run_und ht]
    exact this 9999
  bits := fun a => by simp only [Instr.sameBits]; exact (Go.MapKept.bytes_beq a a).2 rfl

def midx (k : κ) : List (κ × α × Nat) → Nat
  | [] => 0
  | e :: r => if e.1 = k then 0 else midx k r + 1

theorem findNow_mp {kd : TypeDesc} {ke : κ → Value} {ve : α → Value} (h : ∀ a b, Instr.sameNow kd (ke a) (ke b) = some (decide (a = b))) (k : κ) :
    ∀ (m : List (κ × α × Nat)) (i : Nat), Instr.findNow kd (ke k) (mpL ke ve m) i = some ((mget k m).map fun a => (i + midx k m, ve a)) := by
  intro m
  induction m with
  | nil => intro i; simp [mpL, Instr.findNow, mget]
  | cons e r ih =>
    intro i
    have ih' := ih (i + 1)
    simp only [mpL, List.map_cons, Instr.findNow, h, mget, midx] at ih' ⊢
    by_cases he : e.1 = k
    · have he' : k = e.1 := he.symm
      simp [he]
    · have he' : ¬ k = e.1 := fun x => he x.symm
      simp only [he', decide_false, ih', he, if_false]
      congr 2
      funext a
      simp; omega

theorem run_findKey {kt : TypeId} {ke : κ → Value} {ve : α → Value} (h : KOk P kt ke) (k : κ) (m : List (κ × α × Nat)) (w : World) :
    (Instr.findKey kt (ke k) (mpL ke ve m)).run P w = .ok ((mget k m).map fun a => (midx k m, ve a)) w := by
  obtain ⟨kd, h1, h2⟩ := h.now
  have := findNow_mp (ve := ve) h2 k m 0
  have hu : (underlying kt).run P w = .ok kd w := by simp [underlying, h1]
  simp only [Instr.findKey, Sem.run_bind, hu, Result.andThen_ok, this, Sem.run_pure, Nat.zero_add]

theorem run_getObj {w : World} {r : Nat} {es : Array MapEntry} {clk : Nat} (h : w.heap[r]? = some (.map es clk)) : (getObj r).run P w = .ok (.map es clk) w := by
  simp [getObj, Sem.run, h]

theorem modify_mp {ke : κ → Value} {ve : α → Value} (k : κ) (v : α) (clk : Nat) : ∀ (m : List (κ × α × Nat)), (mget k m).isSome →
    ((mpL ke ve m).modify (midx k m) fun e => { e with key := ke k, val := ve v }) = mpL ke ve (mset k v clk m) := by
  intro m
  induction m with
  | nil => intro h; simp [mget] at h
  | cons e r ih =>
    intro h
    simp only [mget, midx, mset, mpL, List.map_cons] at h ih ⊢
    by_cases he : e.1 = k
    · simp [he]
    · simp only [he, if_false, List.modify_succ_cons, List.map_cons] at h ⊢
      rw [ih h]

theorem push_mp {ke : κ → Value} {ve : α → Value} (k : κ) (v : α) (clk : Nat) : ∀ (m : List (κ × α × Nat)), mget k m = none →
    mpL ke ve m ++ [{ key := ke k, val := ve v, born := clk }] = mpL ke ve (mset k v clk m) := by
  intro m
  induction m with
  | nil => intro h; simp [mpL, mset]
  | cons e r ih =>
    intro h
    simp only [mget, mset, mpL, List.map_cons] at h ih ⊢
    by_cases he : e.1 = k
    · simp [he] at h
    · simp only [he, if_false, List.map_cons, List.cons_append] at h ⊢
      rw [ih h]

theorem key_mp {ke : κ → Value} {ve : α → Value} (k : κ) : ∀ (m : List (κ × α × Nat)), (mget k m).isSome → ((mpL ke ve m)[midx k m]?).map (·.key) = some (ke k) := by
  intro m
  induction m with
  | nil => intro h; simp [mget] at h
  | cons e r ih =>
    intro h
    simp only [mget, midx, mpL, List.map_cons] at h ih ⊢
    by_cases he : e.1 = k
    · simp [he]
    · simp only [he, if_false] at h ⊢
      simpa using ih h

theorem erase_mp {ke : κ → Value} {ve : α → Value} (k : κ) : ∀ (m : List (κ × α × Nat)), (mget k m).isSome → (mpL ke ve m).eraseIdx (midx k m) = mpL ke ve (mdel k m) := by
  intro m
  induction m with
  | nil => intro h; simp [mget] at h
  | cons e r ih =>
    intro h
    simp only [mget, midx, mdel, mpL, List.map_cons] at h ih ⊢
    by_cases he : e.1 = k
    · simp [he]
    · simp only [he, if_false] at h ⊢
      simpa using ih h

theorem mdel_none (k : κ) : ∀ (m : List (κ × α × Nat)), mget k m = none → mdel k m = m := by
  intro m
  induction m with
  | nil => intro _; rfl
  | cons e r ih =>
    intro h
    simp only [mget, mdel] at h ⊢
    by_cases he : e.1 = k
    · simp [he] at h
    · simp only [he, if_false] at h ⊢
      rw [ih h]

section
variable {d : Nat} {ty : TypeId} {pos : String} {af : Array Edge} {gd : Option (Nat × Bool)} (hdn : Nat.blt d n = true)

theorem run_lookup {t kt e : TypeId} {a1 a2 : Nat} {z1 : Option Value} {b1 b2 : Nat} {z : Value} {ed : TypeDesc} {ke : κ → Value} {ve : α → Value} {m : List (κ × α × Nat)} {clk : Nat} {r : Nat} {w : World}
    (ht : tinf P t = some (.map kt e, a1, a2, z1)) (he : tinf P e = some (ed, b1, b2, some z)) (hk : KOk P kt ke) (hb : w.heap[r]? = some (mp ke ve m clk)) (k : κ) (ok : Bool) :
    (Instr.lookup t (.map (some r)) (ke k) ok).run P w = .ok (if ok then .tuple #[(mget k m).elim z ve, .bool (mget k m).isSome] else (mget k m).elim z ve) w := by
  have h1 := hk.chk ((mpL ke ve m).toArray.isEmpty) k w
  have h2 := run_findKey (ve := ve) hk k m w
  have h3 : (getObj r).run P w = .ok (.map (mpL ke ve m).toArray clk) w := run_getObj hb
  simp only [Instr.lookup, Sem.run_bind, run_und ht, Result.andThen_ok, h3, Sem.run_pure, h1, h2]
  cases hg : mget k m with
  | none => cases ok <;> simp [run_zero he]
  | some a => cases ok <;> simp

theorem eLk {D : Option Nat} {t kt e : TypeId} {x y : Operand} {a1 a2 : Nat} {z1 : Option Value} {b1 b2 : Nat} {z : Value} {ed : TypeDesc} {ke : κ → Value} {ve : α → Value} {m : List (κ × α × Nat)} {clk : Nat} {r : Nat} {k : κ} {v : Value} {c : Bool}
    (ht : tinf P t = some (.map kt e, a1, a2, z1)) (he : tinf P e = some (ed, b1, b2, some z)) (hk : KOk P kt ke) (hx : evo l x = some (.map (some r))) (hy : evo l y = some (ke k)) (hb : Has L r (mp ke ve m clk))
    (hv : (mget k m).elim z ve = v) (hc : (mget k m).isSome = c) : EV P n W0 ⟨D, .lookup t x y true, ty, pos, af, gd⟩ l L (.tuple #[v, .bool c]) :=
  fun a w ha hs => by subst hv; subst hc; simp only [execOp, ha.eval hx, ha.eval hy, Sem.run_bind, run_lookup ht he hk (hs.get hb) k true]; rfl
include hdn in
theorem oLk {t kt e : TypeId} {x y : Operand} {a1 a2 : Nat} {z1 : Option Value} {b1 b2 : Nat} {z : Value} {ed : TypeDesc} {ke : κ → Value} {ve : α → Value} {m : List (κ × α × Nat)} {clk : Nat} {r : Nat} {k : κ} {v : Value} {c : Bool}
    (ht : tinf P t = some (.map kt e, a1, a2, z1)) (he : tinf P e = some (ed, b1, b2, some z)) (hk : KOk P kt ke) (hx : evo l x = some (.map (some r))) (hy : evo l y = some (ke k)) (hb : Has L r (mp ke ve m clk))
    (hv : (mget k m).elim z ve = v) (hc : (mget k m).isSome = c) (h : K ((d, .tuple #[v, .bool c]) :: l) L) : OP P n W0 ⟨some d, .lookup t x y true, ty, pos, af, gd⟩ l L K :=
  .ev rfl hdn (eLk ht he hk hx hy hb hv hc) h

theorem eLk1 {D : Option Nat} {t kt e : TypeId} {x y : Operand} {a1 a2 : Nat} {z1 : Option Value} {b1 b2 : Nat} {z : Value} {ed : TypeDesc} {ke : κ → Value} {ve : α → Value} {m : List (κ × α × Nat)} {clk : Nat} {r : Nat} {k : κ} {v : Value}
    (ht : tinf P t = some (.map kt e, a1, a2, z1)) (he : tinf P e = some (ed, b1, b2, some z)) (hk : KOk P kt ke) (hx : evo l x = some (.map (some r))) (hy : evo l y = some (ke k)) (hb : Has L r (mp ke ve m clk))
    (hv : (mget k m).elim z ve = v) : EV P n W0 ⟨D, .lookup t x y false, ty, pos, af, gd⟩ l L (v) :=
  fun a w ha hs => by subst hv; simp only [execOp, ha.eval hx, ha.eval hy, Sem.run_bind, run_lookup ht he hk (hs.get hb) k false]; rfl
include hdn in
theorem oLk1 {t kt e : TypeId} {x y : Operand} {a1 a2 : Nat} {z1 : Option Value} {b1 b2 : Nat} {z : Value} {ed : TypeDesc} {ke : κ → Value} {ve : α → Value} {m : List (κ × α × Nat)} {clk : Nat} {r : Nat} {k : κ} {v : Value}
    (ht : tinf P t = some (.map kt e, a1, a2, z1)) (he : tinf P e = some (ed, b1, b2, some z)) (hk : KOk P kt ke) (hx : evo l x = some (.map (some r))) (hy : evo l y = some (ke k)) (hb : Has L r (mp ke ve m clk))
    (hv : (mget k m).elim z ve = v) (h : K ((d, v) :: l) L) : OP P n W0 ⟨some d, .lookup t x y false, ty, pos, af, gd⟩ l L K :=
  .ev rfl hdn (eLk1 ht he hk hx hy hb hv) h

theorem run_setObj {w : World} {r : Nat} {es : Array MapEntry} {clk : Nat} (h : w.heap[r]? = some (.map es clk)) (o' : Obj) : (setObj r o').run P w = .ok () { w with heap := w.heap.setIfInBounds r o' } := by
  simp [setObj, Sem.run, h]

theorem run_mapUpdate {t kt e : TypeId} {a1 a2 : Nat} {z1 : Option Value} {ke : κ → Value} {ve : α → Value} {m : List (κ × α × Nat)} {clk : Nat} {r : Nat} {w : World}
    (ht : tinf P t = some (.map kt e, a1, a2, z1)) (hk : KOk P kt ke) (hb : w.heap[r]? = some (mp ke ve m clk)) (k : κ) (v : α) :
    (Instr.mapUpdate t (.map (some r)) (ke k) (ve v)).run P w = .ok () { w with heap := w.heap.setIfInBounds r (mp ke ve (mset k v clk m) (mclk k clk m)) } := by
  have h1 := hk.chk false k w
  have h2 := run_findKey (ve := ve) hk k m w
  have h3 : (getObj r).run P w = .ok (.map (mpL ke ve m).toArray clk) w := run_getObj hb
  simp only [Instr.mapUpdate, Sem.run_bind, run_und ht, Result.andThen_ok, h3, Sem.run_pure, h1, h2]
  cases hg : mget k m with
  | none =>
    simp only [Option.map_none, mclk, hg, mp]
    rw [run_setObj hb]
    have := push_mp (ke := ke) (ve := ve) k v clk m hg
    simp [← this]
  | some a =>
    have hs : (mget k m).isSome := by simp [hg]
    have h4 := key_mp (ke := ke) (ve := ve) k m hs
    have h5 := modify_mp (ke := ke) (ve := ve) k v clk m hs
    have h6 : (Instr.keyThatStays (ke k) (ke k)).run P w = .ok (ke k) w := by simp [Instr.keyThatStays, hk.bits k]
    simp only [List.getElem?_toArray] at h4 ⊢
    simp only [Option.map_some, h4, Option.getD_some, Sem.run_bind, h6, Result.andThen_ok]
    rw [run_setObj hb]
    simp only [mclk, hg, mp, List.modify_toArray, h5, Option.isSome_some, if_true]

theorem oMU {t kt e : TypeId} {x y u : Operand} {a1 a2 : Nat} {z1 : Option Value} {ke : κ → Value} {ve : α → Value} {m : List (κ × α × Nat)} {clk : Nat} {r : Nat} {k : κ} {v : α} {L' : Heap}
    (ht : tinf P t = some (.map kt e, a1, a2, z1)) (hk : KOk P kt ke) (hx : evo l x = some (.map (some r))) (hy : evo l y = some (ke k)) (hu : evo l u = some (ve v))
    (hb : Upd L r (mp ke ve m clk) (mp ke ve (mset k v clk m) (mclk k clk m)) L')
    (h : K l L') : OP P n W0 ⟨none, .mapUpdate t x y u, ty, pos, af, gd⟩ l L K :=
  .skp rfl fun a w ha hs => ⟨_, L', by simp [execOp, ha.eval hx, ha.eval hy, ha.eval hu, run_mapUpdate ht hk (hs.get hb.has) k v], hs.setObj hb, h⟩

theorem run_delete {t kt e : TypeId} {ts : Array TypeId} {a1 a2 : Nat} {z1 : Option Value} {ke : κ → Value} {ve : α → Value} {m : List (κ × α × Nat)} {clk : Nat} {r : Nat} {w : World}
    (ht : tinf P t = some (.map kt e, a1, a2, z1)) (hts : ts[0]? = some t) (hk : KOk P kt ke) (hb : w.heap[r]? = some (mp ke ve m clk)) (k : κ) (rt : TypeId) :
    (Builtin.delete_ ts rt #[.map (some r), ke k]).run P w = .ok (.tuple #[]) { w with heap := w.heap.setIfInBounds r (mp ke ve (mdel k m) clk) } := by
  have h1 := hk.chk ((mpL ke ve m).toArray.isEmpty) k w
  have h2 := run_findKey (ve := ve) hk k m w
  have h3 : (getObj r).run P w = .ok (.map (mpL ke ve m).toArray clk) w := run_getObj hb
  simp only [Builtin.delete_, hts, List.getElem?_toArray, List.getElem?_cons_zero, List.getElem?_cons_succ, Sem.run_bind, run_und ht, Result.andThen_ok, h3, Sem.run_pure, h1, h2]
  cases hg : mget k m with
  | none =>
    simp only [Option.map_none, mdel_none k m hg]
    rw [Sem.run_bind, run_setObj hb]; rfl
  | some a =>
    have hs : (mget k m).isSome := by simp [hg]
    simp only [Option.map_some]
    rw [Sem.run_bind, run_setObj hb]
    have h4 := erase_mp (ke := ke) (ve := ve) k m hs
    have h5 : (mpL ke ve m).toArray.eraseIdxIfInBounds (midx k m) = (mpL ke ve (mdel k m)).toArray := by
      rw [← h4]
      apply Array.ext'
      simp
    simp [h5, mp]

include hdn in
theorem oDel {t kt e : TypeId} {x y : Operand} {ts : Array TypeId} {a1 a2 : Nat} {z1 : Option Value} {ke : κ → Value} {ve : α → Value} {m : List (κ × α × Nat)} {clk : Nat} {r : Nat} {k : κ} {L' : Heap}
    (ht : tinf P t = some (.map kt e, a1, a2, z1)) (hts : ts[0]? = some t) (hk : KOk P kt ke) (hx : evo l x = some (.map (some r))) (hy : evo l y = some (ke k))
    (hb : Upd L r (mp ke ve m clk) (mp ke ve (mdel k m) clk) L')
    (h : K ((d, .tuple #[]) :: l) L') : OP P n W0 ⟨some d, .call ⟨.builtin .delete, #[x, y], ts⟩, ty, pos, af, gd⟩ l L K :=
  .val rfl hdn fun a w ha hs => ⟨_, _, L', by
    have := run_delete ht hts hk (hs.get hb.has) k ty
    simp [execOp, resolve, invoke, builtin, ha.eval hx, ha.eval hy, this], hs.setObj hb, h⟩

omit [DecidableEq κ] in
theorem eLenMp {D : Option Nat} {x : Operand} {t : TypeId} {kt e : TypeId} {a1 a2 : Nat} {z1 : Option Value} {r : Nat} {ke : κ → Value} {ve : α → Value} {m : List (κ × α × Nat)} {clk : Nat}
    (ht : tinf P t = some (.map kt e, a1, a2, z1)) (hx : evo l x = some (.map (some r))) (hb : Has L r (mp ke ve m clk)) :
    EV P n W0 ⟨D, .call ⟨.builtin .len, #[x], #[t]⟩, ty, pos, af, gd⟩ l L (.int .i64 (m.length : Int)) := by
  have := eLenM (n := n) (W0 := W0) (ty := ty) (pos := pos) (af := af) (gd := gd) (D := D) ht hx hb
  simpa [mpL] using this

omit [DecidableEq κ] in
include hdn in
theorem oLenMp {x : Operand} {t : TypeId} {kt e : TypeId} {a1 a2 : Nat} {z1 : Option Value} {r : Nat} {ke : κ → Value} {ve : α → Value} {m : List (κ × α × Nat)} {clk : Nat}
    (ht : tinf P t = some (.map kt e, a1, a2, z1)) (hx : evo l x = some (.map (some r))) (hb : Has L r (mp ke ve m clk)) (h : K ((d, .int .i64 (m.length : Int)) :: l) L) : OP P n W0 ⟨some d, .call ⟨.builtin .len, #[x], #[t]⟩, ty, pos, af, gd⟩ l L K :=
  oLenM hdn ht hx hb (by simpa [mpL] using h)
end
end Go.Proofs.Ytahjgjmemijofaa.Eng
