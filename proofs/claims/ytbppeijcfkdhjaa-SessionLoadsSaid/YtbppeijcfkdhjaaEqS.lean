/- The engine's rules for '==' and '!=' of structs. No statement of the seat is proved here. -/
import Derived.Test.YtbppeijcfkdhjaaOps3
import Derived.Laws.StructEq
namespace Go.Proofs.Ytbppeijcfkdhjaa.Eng
open Go
set_option linter.unusedVariables false
set_option linter.unusedSimpArgs false

variable {P : Program} {n : Nat} {W0 : World} {l : Env} {L : Heap} {K : Env → Heap → Prop} {o : Oper}

/-- '==' at a type answers r, at whatever depth from d0 on -/
def EqV (P : Program) (d0 : Nat) (t : TypeId) (u v : Value) (r : Bool) : Prop := ∀ d w, (Op.equalIn (d + d0) t u v).run P w = .ok r w
def EqFs (P : Program) (d0 : Nat) (xs ys : Array Value) (fs : List Field) (r : Bool) : Prop := ∀ d w, (Op.eqFields (d + d0) xs ys fs).run P w = .ok r w

theorem EqV.up {d0 d1 : Nat} {t : TypeId} {u v : Value} {r : Bool} (h : EqV P d0 t u v r) (hd : Nat.ble d0 d1 = true) : EqV P d1 t u v r := fun d w => by
  have := Nat.le_of_ble_eq_true hd
  have h2 := h (d + (d1 - d0)) w
  rwa [show d + (d1 - d0) + d0 = d + d1 from by omega] at h2

theorem eqv_int {t : TypeId} {k j : IntKind} {a1 a2 : Nat} {z : Option Value} {a b : Int} (ht : tinf P t = some (.int k, a1, a2, z)) : EqV P 1 t (.int j a) (.int j b) (a == b) :=
  fun d w => by simp [Op.equalIn, run_und ht]
theorem eqv_bool {t : TypeId} {a1 a2 : Nat} {z : Option Value} {a b : Bool} (ht : tinf P t = some (.bool, a1, a2, z)) : EqV P 1 t (.bool a) (.bool b) (a == b) :=
  fun d w => by simp [Op.equalIn, run_und ht]
theorem eqv_string {t : TypeId} {a1 a2 : Nat} {z : Option Value} {a b : ByteArray} (ht : tinf P t = some (.string, a1, a2, z)) : EqV P 1 t (.string a) (.string b) (a == b) :=
  fun d w => by simp [Op.equalIn, run_und ht]

theorem eqf_nil {d0 : Nat} {xs ys : Array Value} : EqFs P d0 xs ys [] true := fun d w => by simp [Op.eqFields]

theorem run_part_s {t : TypeId} {dd : TypeDesc} {sz by_ : Nat} {z : Option Value} (ht : tinf P t = some (dd, sz, by_, z)) (hd : nagg dd = true) {xs : Array Value} {off : Nat} {v : Value} (h : cg xs off = some v) (w : World) : (part t xs off).run P w = .ok v w := by
  rw [cg_eq] at h
  simp [part, run_isAgg ht, hd, h]
theorem run_part_a {t : TypeId} {dd : TypeDesc} {by_ : Nat} {z : Option Value} {vs : List Value} {sz : Nat} (ht : tinf P t = some (dd, sz, by_, z)) (hd : nagg dd = false) {xs : Array Value} {off : Nat} (h : (xs.toList.drop off).take sz = vs) (w : World) : (part t xs off).run P w = .ok (.agg vs.toArray) w := by
  have e : xs.extract off (off + sz) = vs.toArray := by
    apply Array.ext'
    simp [Array.toList_extract, List.extract, ← h]
  simp [part, run_isAgg ht, hd, run_size ht, e]

theorem eqf_int {d0 : Nat} {xs ys : Array Value} {f : Field} {fs : List Field} {k j : IntKind} {a1 a2 : Nat} {z : Option Value} {a b : Int} {s : Bool}
    (hn : (f.name == "_") = false) (ht : tinf P f.type = some (.int k, a1, a2, z)) (hx : cg xs f.offset = some (.int j a)) (hy : cg ys f.offset = some (.int j b)) (hr : EqFs P (d0 + 1) xs ys fs s) : EqFs P (d0 + 1) xs ys (f :: fs) ((a == b) && s) :=
  fun d w => by
    have hn' : f.name ≠ "_" := by simpa using hn
    have h1 := (eqv_int (P := P) (j := j) (a := a) (b := b) ht) (d + d0) w
    have h2 := hr d w
    rw [show d + (d0 + 1) = d + d0 + 1 from by omega] at h2 ⊢
    simp only [Op.eqFields, if_pos hn', Sem.run_bind, run_part_s ht rfl hx, run_part_s ht rfl hy, h1, Result.andThen_ok]
    cases hab : (a == b)
    · simp
    · simpa using h2

theorem eqf_of {d0 : Nat} {xs ys : Array Value} {f : Field} {fs : List Field} {u v : Value} {r s : Bool}
    (hn : (f.name == "_") = false) (hx : ∀ w, (part f.type xs f.offset).run P w = .ok u w) (hy : ∀ w, (part f.type ys f.offset).run P w = .ok v w) (he : EqV P d0 f.type u v r) (hr : EqFs P d0 xs ys fs s) : EqFs P d0 xs ys (f :: fs) (r && s) :=
  fun d w => by
    have hn' : f.name ≠ "_" := by simpa using hn
    have h1 := he d w
    have h2 := hr d w
    simp only [Op.eqFields, if_pos hn', Sem.run_bind, hx, hy, h1, Result.andThen_ok]
    cases r
    · simp
    · simpa using h2

theorem eqv_struct {d0 : Nat} {t : TypeId} {fs : Array Field} {a1 a2 : Nat} {z : Option Value} {xs ys : Array Value} {r : Bool} (ht : tinf P t = some (.struct fs, a1, a2, z)) (hp : P.stoodInHeld t = false) (h : EqFs P d0 xs ys fs.toList r) : EqV P (d0 + 1) t (.agg xs) (.agg ys) r :=
  fun d w => by
    have hu := (tinf_run ht).1
    have hf : P.fieldsOf t = fs := by simp [Program.fieldsOf, hu]
    rw [show d + (d0 + 1) = (d + d0) + 1 from by omega, run_equalIn_struct (P := P) w (d + d0) t xs ys (by rw [hf]; exact hu) hp, hf]
    exact h d w

theorem run_guard_agg {op : BinOp} {t : TypeId} {x y : Operand} {xs ys : Array Value} {w : World} (hg : P.eqGuardType P.depth t = false) : (eqGuard op t x y (.agg xs) (.agg ys)).run P w = .ok () w := by
  cases op <;> simp [eqGuard, hg]

theorem run_eqAgg {t : TypeId} {xs ys : Array Value} {r : Bool} {d0 : Nat} (h : EqV P d0 t (.agg xs) (.agg ys) r) (hd : Nat.ble d0 10000 = true) (w : World) : (Op.equal t (.agg xs) (.agg ys)).run P w = .ok r w := by
  have := (h.up (d1 := 10000) hd) 0 w
  rw [Nat.zero_add] at this
  exact this

section
variable {d : Nat} {ty : TypeId} {pos : String} {af : Array Edge} {gd : Option (Nat × Bool)}
theorem eEqA {D : Option Nat} {xt yt : TypeId} {x y : Operand} {xs ys : Array Value} {r : Bool} {d0 : Nat} (hx : evo l x = some (.agg xs)) (hy : evo l y = some (.agg ys)) (h : EqV P d0 xt (.agg xs) (.agg ys) r) (hd : Nat.ble d0 10000 = true) (hg : P.eqGuardType P.depth xt = false) :
    EV P n W0 ⟨D, .binOp .eql xt x y yt, ty, pos, af, gd⟩ l L (.bool r) :=
  eEqR hx hy (fun w => by
    have h1 := run_eqAgg h hd w
    simp only [Sem.run_bind, run_guard_agg hg, Result.andThen_ok]
    simp [binOp, h1])
theorem eNeA {D : Option Nat} {xt yt : TypeId} {x y : Operand} {xs ys : Array Value} {r : Bool} {d0 : Nat} (hx : evo l x = some (.agg xs)) (hy : evo l y = some (.agg ys)) (h : EqV P d0 xt (.agg xs) (.agg ys) r) (hd : Nat.ble d0 10000 = true) (hg : P.eqGuardType P.depth xt = false) :
    EV P n W0 ⟨D, .binOp .neq xt x y yt, ty, pos, af, gd⟩ l L (.bool (!r)) :=
  eNeR hx hy (fun w => by
    have h1 := run_eqAgg h hd w
    simp only [Sem.run_bind, run_guard_agg hg, Result.andThen_ok]
    simp [binOp, h1])
end
end Go.Proofs.Ytbppeijcfkdhjaa.Eng
