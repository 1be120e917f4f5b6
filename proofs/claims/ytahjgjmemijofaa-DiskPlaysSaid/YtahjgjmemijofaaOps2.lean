/- One rule for each kind of operation, second part: equalities, maps, slices, append. No statement of the seat is proved here. -/
import Derived.Test.YtahjgjmemijofaaOps
namespace Go.Proofs.Ytahjgjmemijofaa.Eng
open Go
set_option linter.unusedVariables false
set_option linter.unusedSimpArgs false

variable {P : Program} {n : Nat} {W0 : World} {l : Env} {L : Heap} {K : Env → Heap → Prop} {o : Oper}

theorem run_equal {t : TypeId} {u v : Value} {w : World} {r : Bool} (h : ∀ d, (Op.equalIn (d + 1) t u v).run P w = .ok r w) : (Op.equal t u v).run P w = .ok r w := h 9999

theorem run_eql {t : TypeId} {x y : Operand} {u v : Value} {w : World} {r : Bool} (hg : (eqGuard .eql t x y u v).run P w = .ok () w)
    (hb : binOp .eql t u v = (do pure (.bool (← Op.equal t u v)))) (h : ∀ d, (Op.equalIn (d + 1) t u v).run P w = .ok r w) :
    (do eqGuard .eql t x y u v; binOp .eql t u v : Sem Value).run P w = .ok (.bool r) w := by
  simp only [Sem.run_bind, hg, Result.andThen_ok, hb, run_equal h, Sem.run_pure]
theorem run_neq {t : TypeId} {x y : Operand} {u v : Value} {w : World} {r : Bool} (hg : (eqGuard .neq t x y u v).run P w = .ok () w)
    (hb : binOp .neq t u v = (do pure (.bool (!(← Op.equal t u v))))) (h : ∀ d, (Op.equalIn (d + 1) t u v).run P w = .ok r w) :
    (do eqGuard .neq t x y u v; binOp .neq t u v : Sem Value).run P w = .ok (.bool (!r)) w := by
  simp only [Sem.run_bind, hg, Result.andThen_ok, hb, run_equal h, Sem.run_pure]

section
variable {d : Nat} {ty : TypeId} {pos : String} {af : Array Edge} {gd : Option (Nat × Bool)} (hdn : Nat.blt d n = true)
include hdn

/-! equalities of other kinds -/
omit hdn in
theorem eEqB {D : Option Nat} {xt yt : TypeId} {x y : Operand} {p q : Bool} {a1 a2 : Nat} {z : Option Value} (hx : evo l x = some (.bool p)) (hy : evo l y = some (.bool q)) (ht : tinf P xt = some (.bool, a1, a2, z)) : EV P n W0 ⟨D, .binOp .eql xt x y yt, ty, pos, af, gd⟩ l L (.bool (p == q)) :=
  eEqR hx hy (fun w => run_eql rfl rfl (fun d => by simp [Op.equalIn, run_und ht]))
theorem oEqB {xt yt : TypeId} {x y : Operand} {p q : Bool} {a1 a2 : Nat} {z : Option Value} (hx : evo l x = some (.bool p)) (hy : evo l y = some (.bool q)) (ht : tinf P xt = some (.bool, a1, a2, z))
    (h : ∀ t, t = (p == q) → K ((d, .bool t) :: l) L) : OP P n W0 ⟨some d, .binOp .eql xt x y yt, ty, pos, af, gd⟩ l L K :=
  oEqR hdn hx hy (fun w => run_eql rfl rfl (fun d => by simp [Op.equalIn, run_und ht])) h
omit hdn in
theorem eNeB {D : Option Nat} {xt yt : TypeId} {x y : Operand} {p q : Bool} {a1 a2 : Nat} {z : Option Value} (hx : evo l x = some (.bool p)) (hy : evo l y = some (.bool q)) (ht : tinf P xt = some (.bool, a1, a2, z)) : EV P n W0 ⟨D, .binOp .neq xt x y yt, ty, pos, af, gd⟩ l L (.bool (p != q)) :=
  eNeR hx hy (fun w => run_neq rfl rfl (fun d => by simp [Op.equalIn, run_und ht]))
theorem oNeB {xt yt : TypeId} {x y : Operand} {p q : Bool} {a1 a2 : Nat} {z : Option Value} (hx : evo l x = some (.bool p)) (hy : evo l y = some (.bool q)) (ht : tinf P xt = some (.bool, a1, a2, z))
    (h : ∀ t, t = (p != q) → K ((d, .bool t) :: l) L) : OP P n W0 ⟨some d, .binOp .neq xt x y yt, ty, pos, af, gd⟩ l L K :=
  oNeR hdn hx hy (fun w => run_neq rfl rfl (fun d => by simp [Op.equalIn, run_und ht])) h

omit hdn in
theorem eEqP0 {D : Option Nat} {xt yt e : TypeId} {x y : Operand} {a1 a2 : Nat} {z : Option Value} (hx : evo l x = some (.pointer none)) (hy : evo l y = some (.pointer none)) (ht : tinf P xt = some (.pointer e, a1, a2, z)) : EV P n W0 ⟨D, .binOp .eql xt x y yt, ty, pos, af, gd⟩ l L (.bool true) :=
  eEqR (r := true) hx hy (fun w => run_eql rfl rfl (fun d => by simp [Op.equalIn, run_und ht]))
theorem oEqP0 {xt yt e : TypeId} {x y : Operand} {a1 a2 : Nat} {z : Option Value} (hx : evo l x = some (.pointer none)) (hy : evo l y = some (.pointer none)) (ht : tinf P xt = some (.pointer e, a1, a2, z))
    (h : K ((d, .bool true) :: l) L) : OP P n W0 ⟨some d, .binOp .eql xt x y yt, ty, pos, af, gd⟩ l L K :=
  oEqR (r := true) hdn hx hy (fun w => run_eql rfl rfl (fun d => by simp [Op.equalIn, run_und ht])) (fun t e => by subst e; exact h)
omit hdn in
theorem eEqP1 {D : Option Nat} {xt yt e : TypeId} {x y : Operand} {ad : Addr} {a1 a2 : Nat} {z : Option Value} (hx : evo l x = some (.pointer (some ad))) (hy : evo l y = some (.pointer none)) (ht : tinf P xt = some (.pointer e, a1, a2, z)) : EV P n W0 ⟨D, .binOp .eql xt x y yt, ty, pos, af, gd⟩ l L (.bool false) :=
  eEqR (r := false) hx hy (fun w => run_eql rfl rfl (fun d => by simp [Op.equalIn, run_und ht]))
theorem oEqP1 {xt yt e : TypeId} {x y : Operand} {ad : Addr} {a1 a2 : Nat} {z : Option Value} (hx : evo l x = some (.pointer (some ad))) (hy : evo l y = some (.pointer none)) (ht : tinf P xt = some (.pointer e, a1, a2, z))
    (h : K ((d, .bool false) :: l) L) : OP P n W0 ⟨some d, .binOp .eql xt x y yt, ty, pos, af, gd⟩ l L K :=
  oEqR (r := false) hdn hx hy (fun w => run_eql rfl rfl (fun d => by simp [Op.equalIn, run_und ht])) (fun t e => by subst e; exact h)
omit hdn in
theorem eNeP0 {D : Option Nat} {xt yt e : TypeId} {x y : Operand} {a1 a2 : Nat} {z : Option Value} (hx : evo l x = some (.pointer none)) (hy : evo l y = some (.pointer none)) (ht : tinf P xt = some (.pointer e, a1, a2, z)) : EV P n W0 ⟨D, .binOp .neq xt x y yt, ty, pos, af, gd⟩ l L (.bool false) :=
  eNeR (r := !true) hx hy (fun w => run_neq rfl rfl (fun d => by simp [Op.equalIn, run_und ht]))
theorem oNeP0 {xt yt e : TypeId} {x y : Operand} {a1 a2 : Nat} {z : Option Value} (hx : evo l x = some (.pointer none)) (hy : evo l y = some (.pointer none)) (ht : tinf P xt = some (.pointer e, a1, a2, z))
    (h : K ((d, .bool false) :: l) L) : OP P n W0 ⟨some d, .binOp .neq xt x y yt, ty, pos, af, gd⟩ l L K :=
  oNeR (r := !true) hdn hx hy (fun w => run_neq rfl rfl (fun d => by simp [Op.equalIn, run_und ht])) (fun t e => by subst e; exact h)
omit hdn in
theorem eNeP1 {D : Option Nat} {xt yt e : TypeId} {x y : Operand} {ad : Addr} {a1 a2 : Nat} {z : Option Value} (hx : evo l x = some (.pointer (some ad))) (hy : evo l y = some (.pointer none)) (ht : tinf P xt = some (.pointer e, a1, a2, z)) : EV P n W0 ⟨D, .binOp .neq xt x y yt, ty, pos, af, gd⟩ l L (.bool true) :=
  eNeR (r := !false) hx hy (fun w => run_neq rfl rfl (fun d => by simp [Op.equalIn, run_und ht]))
theorem oNeP1 {xt yt e : TypeId} {x y : Operand} {ad : Addr} {a1 a2 : Nat} {z : Option Value} (hx : evo l x = some (.pointer (some ad))) (hy : evo l y = some (.pointer none)) (ht : tinf P xt = some (.pointer e, a1, a2, z))
    (h : K ((d, .bool true) :: l) L) : OP P n W0 ⟨some d, .binOp .neq xt x y yt, ty, pos, af, gd⟩ l L K :=
  oNeR (r := !false) hdn hx hy (fun w => run_neq rfl rfl (fun d => by simp [Op.equalIn, run_und ht])) (fun t e => by subst e; exact h)
omit hdn in
theorem eEqM0 {D : Option Nat} {xt yt k e : TypeId} {x y : Operand} {a1 a2 : Nat} {z : Option Value} (hx : evo l x = some (.map none)) (hy : evo l y = some (.map none)) (ht : tinf P xt = some (.map k e, a1, a2, z)) : EV P n W0 ⟨D, .binOp .eql xt x y yt, ty, pos, af, gd⟩ l L (.bool true) :=
  eEqR (r := true) hx hy (fun w => run_eql rfl rfl (fun d => by simp [Op.equalIn, run_und ht]))
theorem oEqM0 {xt yt k e : TypeId} {x y : Operand} {a1 a2 : Nat} {z : Option Value} (hx : evo l x = some (.map none)) (hy : evo l y = some (.map none)) (ht : tinf P xt = some (.map k e, a1, a2, z))
    (h : K ((d, .bool true) :: l) L) : OP P n W0 ⟨some d, .binOp .eql xt x y yt, ty, pos, af, gd⟩ l L K :=
  oEqR (r := true) hdn hx hy (fun w => run_eql rfl rfl (fun d => by simp [Op.equalIn, run_und ht])) (fun t e => by subst e; exact h)
omit hdn in
theorem eEqM1 {D : Option Nat} {xt yt k e : TypeId} {x y : Operand} {r : Nat} {a1 a2 : Nat} {z : Option Value} (hx : evo l x = some (.map (some r))) (hy : evo l y = some (.map none)) (ht : tinf P xt = some (.map k e, a1, a2, z)) : EV P n W0 ⟨D, .binOp .eql xt x y yt, ty, pos, af, gd⟩ l L (.bool false) :=
  eEqR (r := false) hx hy (fun w => run_eql rfl rfl (fun d => by simp [Op.equalIn, run_und ht]))
theorem oEqM1 {xt yt k e : TypeId} {x y : Operand} {r : Nat} {a1 a2 : Nat} {z : Option Value} (hx : evo l x = some (.map (some r))) (hy : evo l y = some (.map none)) (ht : tinf P xt = some (.map k e, a1, a2, z))
    (h : K ((d, .bool false) :: l) L) : OP P n W0 ⟨some d, .binOp .eql xt x y yt, ty, pos, af, gd⟩ l L K :=
  oEqR (r := false) hdn hx hy (fun w => run_eql rfl rfl (fun d => by simp [Op.equalIn, run_und ht])) (fun t e => by subst e; exact h)
omit hdn in
theorem eNeM0 {D : Option Nat} {xt yt k e : TypeId} {x y : Operand} {a1 a2 : Nat} {z : Option Value} (hx : evo l x = some (.map none)) (hy : evo l y = some (.map none)) (ht : tinf P xt = some (.map k e, a1, a2, z)) : EV P n W0 ⟨D, .binOp .neq xt x y yt, ty, pos, af, gd⟩ l L (.bool false) :=
  eNeR (r := !true) hx hy (fun w => run_neq rfl rfl (fun d => by simp [Op.equalIn, run_und ht]))
theorem oNeM0 {xt yt k e : TypeId} {x y : Operand} {a1 a2 : Nat} {z : Option Value} (hx : evo l x = some (.map none)) (hy : evo l y = some (.map none)) (ht : tinf P xt = some (.map k e, a1, a2, z))
    (h : K ((d, .bool false) :: l) L) : OP P n W0 ⟨some d, .binOp .neq xt x y yt, ty, pos, af, gd⟩ l L K :=
  oNeR (r := !true) hdn hx hy (fun w => run_neq rfl rfl (fun d => by simp [Op.equalIn, run_und ht])) (fun t e => by subst e; exact h)
omit hdn in
theorem eNeM1 {D : Option Nat} {xt yt k e : TypeId} {x y : Operand} {r : Nat} {a1 a2 : Nat} {z : Option Value} (hx : evo l x = some (.map (some r))) (hy : evo l y = some (.map none)) (ht : tinf P xt = some (.map k e, a1, a2, z)) : EV P n W0 ⟨D, .binOp .neq xt x y yt, ty, pos, af, gd⟩ l L (.bool true) :=
  eNeR (r := !false) hx hy (fun w => run_neq rfl rfl (fun d => by simp [Op.equalIn, run_und ht]))
theorem oNeM1 {xt yt k e : TypeId} {x y : Operand} {r : Nat} {a1 a2 : Nat} {z : Option Value} (hx : evo l x = some (.map (some r))) (hy : evo l y = some (.map none)) (ht : tinf P xt = some (.map k e, a1, a2, z))
    (h : K ((d, .bool true) :: l) L) : OP P n W0 ⟨some d, .binOp .neq xt x y yt, ty, pos, af, gd⟩ l L K :=
  oNeR (r := !false) hdn hx hy (fun w => run_neq rfl rfl (fun d => by simp [Op.equalIn, run_und ht])) (fun t e => by subst e; exact h)
omit hdn in
theorem eEqS0 {D : Option Nat} {xt yt e : TypeId} {x y : Operand} {n1 n2 m1 m2 a1 a2 : Nat} {z : Option Value} (hx : evo l x = some (.slice none n1 n2)) (hy : evo l y = some (.slice none m1 m2)) (ht : tinf P xt = some (.slice e, a1, a2, z)) : EV P n W0 ⟨D, .binOp .eql xt x y yt, ty, pos, af, gd⟩ l L (.bool true) :=
  eEqR (r := true) hx hy (fun w => run_eql rfl rfl (fun d => by simp [Op.equalIn, run_und ht]))
theorem oEqS0 {xt yt e : TypeId} {x y : Operand} {n1 n2 m1 m2 a1 a2 : Nat} {z : Option Value} (hx : evo l x = some (.slice none n1 n2)) (hy : evo l y = some (.slice none m1 m2)) (ht : tinf P xt = some (.slice e, a1, a2, z))
    (h : K ((d, .bool true) :: l) L) : OP P n W0 ⟨some d, .binOp .eql xt x y yt, ty, pos, af, gd⟩ l L K :=
  oEqR (r := true) hdn hx hy (fun w => run_eql rfl rfl (fun d => by simp [Op.equalIn, run_und ht])) (fun t e => by subst e; exact h)
omit hdn in
theorem eEqS1 {D : Option Nat} {xt yt e : TypeId} {x y : Operand} {ad : Addr} {n1 n2 m1 m2 a1 a2 : Nat} {z : Option Value} (hx : evo l x = some (.slice (some ad) n1 n2)) (hy : evo l y = some (.slice none m1 m2)) (ht : tinf P xt = some (.slice e, a1, a2, z)) : EV P n W0 ⟨D, .binOp .eql xt x y yt, ty, pos, af, gd⟩ l L (.bool false) :=
  eEqR (r := false) hx hy (fun w => run_eql rfl rfl (fun d => by simp [Op.equalIn, run_und ht]))
theorem oEqS1 {xt yt e : TypeId} {x y : Operand} {ad : Addr} {n1 n2 m1 m2 a1 a2 : Nat} {z : Option Value} (hx : evo l x = some (.slice (some ad) n1 n2)) (hy : evo l y = some (.slice none m1 m2)) (ht : tinf P xt = some (.slice e, a1, a2, z))
    (h : K ((d, .bool false) :: l) L) : OP P n W0 ⟨some d, .binOp .eql xt x y yt, ty, pos, af, gd⟩ l L K :=
  oEqR (r := false) hdn hx hy (fun w => run_eql rfl rfl (fun d => by simp [Op.equalIn, run_und ht])) (fun t e => by subst e; exact h)
omit hdn in
theorem eNeS0 {D : Option Nat} {xt yt e : TypeId} {x y : Operand} {n1 n2 m1 m2 a1 a2 : Nat} {z : Option Value} (hx : evo l x = some (.slice none n1 n2)) (hy : evo l y = some (.slice none m1 m2)) (ht : tinf P xt = some (.slice e, a1, a2, z)) : EV P n W0 ⟨D, .binOp .neq xt x y yt, ty, pos, af, gd⟩ l L (.bool false) :=
  eNeR (r := !true) hx hy (fun w => run_neq rfl rfl (fun d => by simp [Op.equalIn, run_und ht]))
theorem oNeS0 {xt yt e : TypeId} {x y : Operand} {n1 n2 m1 m2 a1 a2 : Nat} {z : Option Value} (hx : evo l x = some (.slice none n1 n2)) (hy : evo l y = some (.slice none m1 m2)) (ht : tinf P xt = some (.slice e, a1, a2, z))
    (h : K ((d, .bool false) :: l) L) : OP P n W0 ⟨some d, .binOp .neq xt x y yt, ty, pos, af, gd⟩ l L K :=
  oNeR (r := !true) hdn hx hy (fun w => run_neq rfl rfl (fun d => by simp [Op.equalIn, run_und ht])) (fun t e => by subst e; exact h)
omit hdn in
theorem eNeS1 {D : Option Nat} {xt yt e : TypeId} {x y : Operand} {ad : Addr} {n1 n2 m1 m2 a1 a2 : Nat} {z : Option Value} (hx : evo l x = some (.slice (some ad) n1 n2)) (hy : evo l y = some (.slice none m1 m2)) (ht : tinf P xt = some (.slice e, a1, a2, z)) : EV P n W0 ⟨D, .binOp .neq xt x y yt, ty, pos, af, gd⟩ l L (.bool true) :=
  eNeR (r := !false) hx hy (fun w => run_neq rfl rfl (fun d => by simp [Op.equalIn, run_und ht]))
theorem oNeS1 {xt yt e : TypeId} {x y : Operand} {ad : Addr} {n1 n2 m1 m2 a1 a2 : Nat} {z : Option Value} (hx : evo l x = some (.slice (some ad) n1 n2)) (hy : evo l y = some (.slice none m1 m2)) (ht : tinf P xt = some (.slice e, a1, a2, z))
    (h : K ((d, .bool true) :: l) L) : OP P n W0 ⟨some d, .binOp .neq xt x y yt, ty, pos, af, gd⟩ l L K :=
  oNeR (r := !false) hdn hx hy (fun w => run_neq rfl rfl (fun d => by simp [Op.equalIn, run_und ht])) (fun t e => by subst e; exact h)


/-! a field of a struct's value -/
omit hdn in
theorem eField {D : Option Nat} {t : TypeId} {x : Operand} {f : Nat} {fs : Array Field} {fd : Field} {a1 a2 b1 b2 : Nat} {z1 z2 : Option Value} {ft : TypeDesc} {cs : Array Value} {v : Value} (fo : Nat)
    (ht : tinf P t = some (.struct fs, a1, a2, z1)) (hf : fs[f]? = some fd) (hfo : fd.offset = fo) (hft : tinf P fd.type = some (ft, b1, b2, z2)) (hn : nagg ft = true)
    (hx : evo l x = some (.agg cs)) (hv : cg cs fo = some v) : EV P n W0 ⟨D, .field t x f, ty, pos, af, gd⟩ l L v :=
  fun a w ha hs => by
    subst hfo
    rw [cg_eq] at hv
    simp [execOp, ha.eval hx, Instr.field, run_und ht, hf, asAgg, part, run_isAgg hft, hn, hv]
omit hdn in
theorem eFieldA {D : Option Nat} {t : TypeId} {x : Operand} {f : Nat} {fs : Array Field} {fd : Field} {a1 a2 b1 b2 : Nat} {z1 z2 : Option Value} {ft : TypeDesc} {cs : Array Value} {vs : List Value}
    (ht : tinf P t = some (.struct fs, a1, a2, z1)) (hf : fs[f]? = some fd) (hft : tinf P fd.type = some (ft, b1, b2, z2)) (hn : nagg ft = false)
    (hx : evo l x = some (.agg cs)) (hv : (cs.extract fd.offset (fd.offset + b1)).toList = vs) : EV P n W0 ⟨D, .field t x f, ty, pos, af, gd⟩ l L (.agg vs.toArray) :=
  fun a w ha hs => by
    have hv' : cs.extract fd.offset (fd.offset + b1) = vs.toArray := by rw [← hv]
    simp [execOp, ha.eval hx, Instr.field, run_und ht, hf, asAgg, part, run_isAgg hft, hn, run_size hft, hv']
end
end Go.Proofs.Ytahjgjmemijofaa.Eng
