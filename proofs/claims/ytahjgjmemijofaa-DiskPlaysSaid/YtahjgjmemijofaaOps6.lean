/- The engine's rules for an operation whose guard was itself passed over. No statement of the seat is proved here. -/
import Derived.Test.YtahjgjmemijofaaOps5
namespace Go.Proofs.Ytahjgjmemijofaa.Eng
open Go
set_option linter.unusedVariables false

variable {P : Program} {n : Nat} {W0 : World} {l : Env} {L : Heap} {N : Env → Heap → Prop} {o : Oper} {ops : Array Oper} {rest : List Oper} {Lr : Heap} {fuel : Nat} {listed : Array Bool}

/-- the operation that a guard names has left nothing -/
def ylN (ops : Array Oper) (l : Env) (j : Nat) : Bool :=
  match (ops[j]?).bind (·.dst) with
  | some d => match lk l d with
    | some (.bool _) => false
    | some _ => true
    | none => false
  | none => false

theorem RepE.yieldedN {a : Act} (h : RepE n a l) {j : Nat} (hy : ylN ops l j = true) : Go.yielded ops a.tmps j = none := by
  unfold ylN at hy
  unfold Go.yielded
  cases hd : (ops[j]?).bind (·.dst) with
  | none => simp [hd] at hy
  | some d =>
    simp only [hd] at hy
    simp only [Option.bind_some]
    cases hl : lk l d with
    | none => simp [hl] at hy
    | some v =>
      rw [h.get d v hl]
      cases v <;> simp [hl] at hy ⊢

theorem wa_skipU (i : Nat) {d j : Nat} {b : Bool} (ht : tk ops listed i = true) (hi : ops[i]? = some o) (hd : o.dst = some d) (hdn : Nat.blt d n = true) (hg : o.guard = some (j, b)) (hy : ylN ops l j = true) (hsel : Sel L Lr)
    (h : WA P n W0 ops N Lr fuel (listed.setIfInBounds i true) ((d, undef) :: l) L) : WA P n W0 ops N Lr (fuel + 1) listed l L := by
  intro a w Q hp ha hs hq
  simp only [tk, Bool.and_eq_true] at ht
  refine wpAnyH_take hi ht.1 ht.2.1 ht.2.2 (fun c a w hc => absurd hc (hp c _ w)) (v := undef) (.inr ⟨by simp [Region.wanted, hg, ha.yieldedN hy], rfl⟩) (hs.sel hsel) ?_
  rw [hd]
  exact h _ w Q hp (ha.put hdn undef) hs hq

theorem wa_takegb (i : Nat) {d j : Nat} {b : Bool} {r : Bool} (ht : tk ops listed i = true) (hi : ops[i]? = some o) (hd : o.dst = some d) (hdn : Nat.blt d n = true) (hg : o.guard = some (j, b)) (hy : yl ops l j = some b) (hsel : Sel L Lr)
    (he : EV P n W0 o l Lr (.bool r)) (h : ∀ t, t = r → WA P n W0 ops N Lr fuel (listed.setIfInBounds i true) ((d, .bool t) :: l) L) : WA P n W0 ops N Lr (fuel + 1) listed l L :=
  wa_takeg i ht hi hd hdn hg hy hsel he (h r rfl)

theorem wl_skipU {j d : Nat} {b : Bool} (hg : o.guard = some (j, b)) (hd : o.dst = some d) (hdn : Nat.blt d n = true) (hy : ylN ops l j = true)
    (h : WL P n W0 ops N rest ((d, undef) :: l) L) : WL P n W0 ops N (o :: rest) l L := by
  intro a w Q ha hs hq
  have : Region.wanted o (Go.yielded ops a.tmps) = false := by simp [Region.wanted, hg, ha.yieldedN hy]
  simp only [wpList, this, Bool.false_eq_true, if_false, hd]
  exact h _ w Q (ha.put hdn undef) hs hq
end Go.Proofs.Ytahjgjmemijofaa.Eng
