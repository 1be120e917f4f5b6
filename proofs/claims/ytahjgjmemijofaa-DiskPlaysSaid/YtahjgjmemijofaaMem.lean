/- The engine's rules for slices: what can be read, rows that grow by append, make, slice expressions. No statement of the seat is proved here. -/
import Derived.Test.YtahjgjmemijofaaDraw
namespace Go.Proofs.Ytahjgjmemijofaa.Eng
open Go
set_option linter.unusedVariables false
set_option linter.unusedSimpArgs false

variable {P : Program} {n : Nat} {W0 : World} {l : Env} {L : Heap} {K : Env → Heap → Prop} {o : Oper}

/-- these cells can be read from here on, in every world that has the blocks of L -/
def Rc (W0 : World) (L : Heap) (b off : Nat) (cells : List Value) : Prop := ∀ w, Sep W0 w L → ∀ (j : Nat) u, cells[j]? = some u → w.cell? ⟨b, off + j, none⟩ = some u

theorem Rc.of_has {b off : Nat} {cs : Array Value} {T : TypeId} {fz : Nat × Nat} {cells : List Value} (hb : Has L b (.cells cs T fz)) (h : (cs.toList.drop off).take cells.length = cells) : Rc W0 L b off cells := by
  intro w hs j u hj
  rw [hs.cell hb]
  rw [← h, List.getElem?_take] at hj
  split at hj
  · simpa using hj
  · cases hj
theorem Rc.of_old {b off : Nat} {cells : List Value} (h : ∀ (j : Nat) u, cells[j]? = some u → W0.cell? ⟨b, off + j, none⟩ = some u) : Rc W0 L b off cells := fun w hs j u hj => hs.oldCell (h j u hj)
theorem Rc.sel {L' : Heap} {b off : Nat} {cells : List Value} (h : Rc W0 L' b off cells) (hs : Sel L L') : Rc W0 L b off cells := fun w hw => h w (hw.sel hs)
theorem Rc.drop {b off : Nat} {cells : List Value} (h : Rc W0 L b off cells) (k : Nat) : Rc W0 L b (off + k) (cells.drop k) := fun w hs j u hj => by
  rw [List.getElem?_drop] at hj
  have := h w hs (k + j) u hj
  rwa [← Nat.add_assoc] at this
theorem Rc.take {b off : Nat} {cells : List Value} (h : Rc W0 L b off cells) (k : Nat) : Rc W0 L b off (cells.take k) := fun w hs j u hj => by
  rw [List.getElem?_take] at hj
  split at hj
  · exact h w hs j u hj
  · cases hj

/-- a slice that can be read: of n elements, each of sz cells -/
def Rs (W0 : World) (L : Heap) (v : Value) (sz n : Nat) (cells : List Value) : Prop :=
  cells.length = n * sz ∧ ((n = 0 ∧ ∃ ad cap, v = .slice ad 0 cap) ∨ ∃ b off cap, v = .slice (some ⟨b, off, none⟩) n cap ∧ n ≤ cap ∧ Rc W0 L b off cells)
theorem Rs.sel {L' : Heap} {v : Value} {sz k : Nat} {cells : List Value} (h : Rs W0 L' v sz k cells) (hs : Sel L L') : Rs W0 L v sz k cells :=
  ⟨h.1, h.2.imp id fun ⟨b, off, cap, h1, h2, h3⟩ => ⟨b, off, cap, h1, h2, h3.sel hs⟩⟩
theorem Rs.nil (sz : Nat) : Rs W0 L (.slice none 0 0) sz 0 [] := ⟨by simp, .inl ⟨rfl, none, 0, rfl⟩⟩
theorem Rs.nil' (sz : Nat) (ad : Option Addr) (cap : Nat) : Rs W0 L (.slice ad 0 cap) sz 0 [] := ⟨by simp, .inl ⟨rfl, ad, cap, rfl⟩⟩
theorem Rs.mk {b off cap k sz : Nat} {cells : List Value} (h : Rc W0 L b off cells) (hc : cells.length = k * sz) (hk : k ≤ cap) : Rs W0 L (.slice (some ⟨b, off, none⟩) k cap) sz k cells :=
  ⟨hc, .inr ⟨b, off, cap, rfl, hk, h⟩⟩

/-- the block, if any, of a slice that starts where its block does -/
def ownH (v : Value) (cs : Array Value) (e : TypeId) : Heap :=
  match v with
  | .slice (some a) _ _ => [(a.block, .cells cs e (0, 0))]
  | _ => []

/-- a slice of the call's own, with what it holds and what room it has -/
def Row (v : Value) (cs : Array Value) (sz k : Nat) (xs : List Value) : Prop :=
  xs.length = k * sz ∧ ((v = .slice none 0 0 ∧ k = 0) ∨ ∃ b cap, v = .slice (some ⟨b, 0, none⟩) k cap ∧ k ≤ cap ∧ cs.size = cap * sz ∧ cs.toList.take (k * sz) = xs)

theorem Row.nil (cs : Array Value) (sz : Nat) : Row (.slice none 0 0) cs sz 0 [] := ⟨by simp, .inl ⟨rfl, rfl⟩⟩
theorem Row.mk {b cap k sz : Nat} {cs : Array Value} {xs : List Value} (h1 : k ≤ cap) (h2 : cs.size = cap * sz) (h3 : cs.toList.take (k * sz) = xs) : Row (.slice (some ⟨b, 0, none⟩) k cap) cs sz k xs :=
  ⟨by rw [← h3, List.length_take, Array.length_toList, h2]; exact Nat.min_eq_left (Nat.mul_le_mul_right _ h1), .inr ⟨b, cap, rfl, h1, h2, h3⟩⟩

/-- a part of the list of blocks, and what stands round it -/
inductive At : Heap → Heap → (Heap → Heap) → Prop
  | h {F R} : At (F ++ R) F (fun F' => F' ++ R)
  | t {p L F C} : At L F C → At (p :: L) F (fun F' => p :: C F')
  | a {G L F C} : At L F C → At (G ++ L) F (fun F' => G ++ C F')

theorem At.perm {F : Heap} {C : Heap → Heap} (h : At L F C) : L = C F ∧ ∃ R, ∀ F', (C F').Perm (F' ++ R) := by
  induction h with
  | h => exact ⟨rfl, _, fun F' => List.Perm.refl _⟩
  | @t p L F C _ ih =>
    obtain ⟨h1, R, h2⟩ := ih
    refine ⟨by show p :: L = p :: C F; rw [← h1], p :: R, fun F' => ?_⟩
    exact ((h2 F').cons p).trans List.perm_middle.symm
  | @a G L F C _ ih =>
    obtain ⟨h1, R, h2⟩ := ih
    refine ⟨by show G ++ L = G ++ C F; rw [← h1], G ++ R, fun F' => ?_⟩
    refine ((h2 F').append_left G).trans ?_
    rw [← List.append_assoc, ← List.append_assoc]
    exact (List.perm_append_comm).append_right R

theorem Sel.app {F L1 L2 : Heap} (h : Sel L1 L2) : Sel (F ++ L1) (F ++ L2) := by
  induction F with
  | nil => exact h
  | cons p F ih => exact Sel.one Pick.h ih
theorem Sel.dropF {F L1 L2 : Heap} (h : Sel L1 L2) : Sel (F ++ L1) L2 := by
  induction F with
  | nil => exact h
  | cons p F ih => exact Sel.drop ih
theorem Pick.app {F L1 L2 : Heap} {x : Nat × Obj} (h : Pick L1 x L2) : Pick (F ++ L1) x (F ++ L2) := by
  induction F with
  | nil => exact h
  | cons p F ih => exact Pick.t ih
theorem Has.app {F L1 : Heap} {b : Nat} {o : Obj} (h : Has L1 b o) : Has (F ++ L1) b o := by
  induction F with
  | nil => exact h
  | cons p F ih => exact Has.t ih
theorem Upd.app {F L1 L2 : Heap} {b : Nat} {o o' : Obj} (h : Upd L1 b o o' L2) : Upd (F ++ L1) b o o' (F ++ L2) := by
  induction F with
  | nil => exact h
  | cons p F ih => exact Upd.t ih
theorem At.has {F : Heap} {C : Heap → Heap} (h : At L F C) {b : Nat} {o : Obj} (hb : Has F b o) : Has L b o := by
  induction h with
  | @h F R =>
    induction hb with
    | h => exact Has.h
    | t _ ih => exact Has.t ih
  | t _ ih => exact Has.t (ih hb)
  | a _ ih => exact Has.app (ih hb)

/-- the row reads -/
theorem Row.rs {v : Value} {cs : Array Value} {e : TypeId} {sz k : Nat} {xs : List Value} {C : Heap → Heap} (h : Row v cs sz k xs) (hat : At L (ownH v cs e) C) : Rs W0 L v sz k xs := by
  refine ⟨h.1, ?_⟩
  rcases h.2 with ⟨rfl, rfl⟩ | ⟨b, cap, rfl, h1, h2, h3⟩
  · exact .inl ⟨rfl, none, 0, rfl⟩
  · refine .inr ⟨b, 0, cap, rfl, h1, Rc.of_has (hat.has Has.h) ?_⟩
    simp only [List.drop_zero]
    rw [h.1]; exact h3

theorem Sep.setRow' {w : World} {b : Nat} {cs cs' : Array Value} {T : TypeId} {R : Heap} (hs : Sep W0 w ((b, .cells cs T (0, 0)) :: R)) : Sep W0 (w.setRow b cs') ((b, .cells cs' T (0, 0)) :: R) := hs.setRow Upd.h

theorem run_app_nilsrc {t e ty : TypeId} {a1 a2 : Nat} {z1 : Option Value} {b1 b2 : Nat} {z2 : Option Value} {ed : TypeDesc} (ht : tinf P t = some (.slice e, a1, a2, z1)) (he : tinf P e = some (ed, b1, b2, z2)) (ad ad2 : Option Addr) (k cap cap2 : Nat) (hk : k ≤ cap) (w : World) :
    (Builtin.append_ #[t, t] ty #[.slice ad k cap, .slice ad2 0 cap2]).run P w = .ok (.slice ad k cap) w := by
  cases ad <;> cases ad2 <;> simp [Builtin.append_, run_und ht, run_size he, Builtin.lenOf, hk, Builtin.firstCells, storeCells, loadCells, loadCellsFrom]

section
variable {d : Nat} {ty : TypeId} {pos : String} {af : Array Edge} {gd : Option (Nat × Bool)} (hdn : Nat.blt d n = true)

/-- append to a slice of the call's own, from a slice that can be read -/
theorem run_app {t e : TypeId} {a1 a2 : Nat} {z1 : Option Value} {sz by_ : Nat} {z : Value} {ed : TypeDesc} {v u : Value} {cs : Array Value} {k m : Nat} {xs news : List Value} {C : Heap → Heap} {w : World}
    (ht : tinf P t = some (.slice e, a1, a2, z1)) (he : tinf P e = some (ed, sz, by_, some z)) (hz : z.cells.size = sz) (hv : Row v cs sz k xs) (hu : Rs W0 L u sz m news)
    (h1 : news.all Value.oneCell' = true) (hroom : (k + m) * by_ ≤ 140737488355328) (hlen : k + m ≤ 140737488355328) (hat : At L (ownH v cs e) C) (hs : Sep W0 w L) :
    ∃ v' cs' w', (Builtin.append_ #[t, t] ty #[v, u]).run P w = .ok v' w' ∧ Row v' cs' sz (k + m) (xs ++ news) ∧ (v' = .slice none 0 0 ↔ v = .slice none 0 0 ∧ m = 0) ∧ Sep W0 w' (C (ownH v' cs' e)) := by
  obtain ⟨hut, _⟩ := tinf_run ht
  obtain ⟨_, ie, hie, hsz, hby, hzero⟩ := tinf_run he
  obtain ⟨hC, R, hperm⟩ := hat.perm
  have h1' := List.all_eq_true.1 h1
  have hs1 : Sep W0 w (ownH v cs e ++ R) := by rw [hC] at hs; exact hs.perm (hperm _)
  obtain ⟨hul, hu2⟩ := hu
  obtain ⟨hvl, hv2⟩ := hv
  rcases hu2 with ⟨rfl, uad, uc, rfl⟩ | ⟨ub, uo, uc, rfl, huc, hur⟩
  · -- nothing comes
    have hnews : news = [] := List.eq_nil_of_length_eq_zero (by simpa using hul)
    subst hnews
    rcases hv2 with ⟨rfl, rfl⟩ | ⟨b, cap, rfl, h2, h3, h4⟩
    · exact ⟨_, cs, w, run_app_nilsrc ht he none uad 0 0 uc (Nat.le_refl _) w, ⟨by simpa using hvl, .inl ⟨rfl, rfl⟩⟩, by simp, by rw [← hC]; exact hs⟩
    · exact ⟨_, cs, w, run_app_nilsrc ht he (some ⟨b, 0, none⟩) uad k cap uc h2 w, ⟨by simpa using hvl, .inr ⟨b, cap, rfl, by simpa using h2, h3, by simpa using h4⟩⟩, by simp, by rw [← hC]; exact hs⟩
  · have hnews : ∀ (j : Nat) x, news[j]? = some x → w.cell? ((⟨ub, uo, none⟩ : Addr).add j) = some x := fun j x hj => by rw [addr_add]; exact hur w hs j x hj
    subst hsz; subst hby
    rcases hv2 with ⟨rfl, rfl⟩ | ⟨b, cap, rfl, h2, h3, h4⟩
    · have hxs : xs = [] := List.eq_nil_of_length_eq_zero (by simpa using hvl)
      subst hxs
      rcases Nat.eq_zero_or_pos m with rfl | hm
      · have hn0 : news = [] := List.eq_nil_of_length_eq_zero (by simpa using hul)
        subst hn0
        refine ⟨.slice none 0 0, cs, w, ?_, ⟨by simp, .inl ⟨rfl, rfl⟩⟩, by simp, by rw [← hC]; exact hs⟩
        simp [Builtin.append_, run_und ht, run_size he, Builtin.lenOf, Builtin.firstCells, loadCells, loadCellsFrom]
      · have hr := run_append_nil (P := P) w t ty e ie z hut hie hzero ⟨ub, uo, none⟩ m uc news hul hnews hm (by omega) (by rw [Nat.zero_add] at hroom; omega)
        have hge := grownCap_ge w m 0 e
        refine ⟨_, news.toArray ++ Builtin.zeroCells z.cells (grownCap w m 0 e - m), _, hr, ⟨by simpa using hul, .inr ⟨w.heap.size, grownCap w m 0 e, by rw [Nat.zero_add], by simpa using hge, ?_, ?_⟩⟩, by simp; omega, ?_⟩
        · simp only [Array.size_append, List.size_toArray, size_zeroCells, hz, hul, ← Nat.add_mul]; congr 1; omega
        · rw [show (0 + m) * ie.size = news.length from by rw [hul]; simp]; simp
        · have hs2 : Sep W0 w R := hs1
          refine (hs2.drew.alloc _).perm ?_
          exact (hperm (ownH (.slice (some ⟨w.heap.size, 0, none⟩) _ _) _ e)).symm
    · have hrc : ∀ (j : Nat) x, xs[j]? = some x → w.cell? ((⟨b, 0, none⟩ : Addr).add j) = some x := fun j x hj => by
        rw [addr_add, hs1.cell Has.h]
        rw [← h4, List.getElem?_take] at hj
        split at hj
        · simpa using hj
        · cases hj
      by_cases hc : k + m ≤ cap
      · have hlen2 : k * ie.size + news.length ≤ cs.size := by rw [hul, h3, ← Nat.add_mul]; exact Nat.mul_le_mul_right _ hc
        have hr := run_append_room (P := P) w t ty e ie hut hie b k cap cs (hs1.get Has.h) ⟨ub, uo, none⟩ m uc news hul hnews h1' hc hlen2
        refine ⟨_, (cs.toList.take (k * ie.size) ++ news ++ cs.toList.drop (k * ie.size + news.length)).toArray, _, hr, ⟨by simp [hvl, hul, Nat.add_mul], .inr ⟨_, _, rfl, hc, ?_, ?_⟩⟩, by simp, ?_⟩
        · simp only [List.size_toArray, List.length_append, List.length_take, List.length_drop, Array.length_toList]; omega
        · show List.take _ (List.take _ _ ++ news ++ _) = _
          rw [h4, List.append_assoc, List.take_append, List.take_of_length_le (by rw [hvl, Nat.add_mul]; omega)]
          congr 1
          rw [show (k + m) * ie.size - xs.length = news.length from by rw [hvl, hul, Nat.add_mul]; omega]
          simp
        · have := Sep.setRow' (cs' := (cs.toList.take (k * ie.size) ++ news ++ cs.toList.drop (k * ie.size + news.length)).toArray) hs1
          refine this.perm ?_
          exact (hperm (ownH (.slice (some ⟨b, 0, none⟩) _ _) _ e)).symm
      · have hfit : Builtin.nextslicecap (k + m) cap * ie.bytes ≤ 281474976710656 := growslice_fits (by omega) hroom
        have hr := run_append_grow (P := P) w t ty e ie z hut hie hzero ⟨b, 0, none⟩ k cap xs hvl hrc ⟨ub, uo, none⟩ m uc news hul hnews (by omega) (by omega) hfit
        have hge := grownCap_ge w (k + m) cap e
        refine ⟨_, xs.toArray ++ news.toArray ++ Builtin.zeroCells z.cells (grownCap w (k + m) cap e - (k + m)), _, hr, ⟨by simp [hvl, hul, Nat.add_mul], .inr ⟨_, _, rfl, hge, ?_, ?_⟩⟩, by simp, ?_⟩
        · simp only [Array.size_append, List.size_toArray, size_zeroCells, hz, hvl, hul, ← Nat.add_mul]; congr 1; omega
        · rw [show (k + m) * ie.size = (xs ++ news).length from by simp [hvl, hul, Nat.add_mul]]
          simp only [List.length_append, Array.toList_append, List.append_assoc]
          rw [← List.append_assoc, ← List.length_append]
          exact List.take_left
        · have hs2 : Sep W0 w R := hs1.tail
          refine (hs2.drew.alloc _).perm ?_
          exact (hperm (ownH (.slice (some ⟨w.heap.size, 0, none⟩) _ _) _ e)).symm

include hdn in
theorem oApp {t e : TypeId} {x y : Operand} {a1 a2 : Nat} {z1 : Option Value} {sz by_ : Nat} {z : Value} {ed : TypeDesc} {v u : Value} {cs : Array Value} {k m : Nat} {xs news : List Value} {C : Heap → Heap}
    (ht : tinf P t = some (.slice e, a1, a2, z1)) (he : tinf P e = some (ed, sz, by_, some z)) (hz : z.cells.size = sz) (hx : evo l x = some v) (hy : evo l y = some u) (hv : Row v cs sz k xs) (hat : At L (ownH v cs e) C) (hu : Rs W0 L u sz m news)
    (h1 : news.all Value.oneCell' = true) (hroom : (k + m) * by_ ≤ 140737488355328) (hlen : k + m ≤ 140737488355328)
    (h : ∀ v' cs', Row v' cs' sz (k + m) (xs ++ news) → (v' = .slice none 0 0 ↔ v = .slice none 0 0 ∧ m = 0) → K ((d, v') :: l) (C (ownH v' cs' e))) :
    OP P n W0 ⟨some d, .call ⟨.builtin .append, #[x, y], #[t, t]⟩, ty, pos, af, gd⟩ l L K :=
  .val rfl hdn fun a w ha hs => by
    obtain ⟨v', cs', w', h2, h3, h4, h5⟩ := run_app (ty := ty) ht he hz hv hu h1 hroom hlen hat hs
    exact ⟨v', w', _, by simp [execOp, resolve, invoke, builtin, ha.eval hx, ha.eval hy, h2], h5, h v' cs' h3 h4⟩

/-! loads from what can be read -/
omit hdn in
theorem eLdR {D : Option Nat} {t : TypeId} {dd : TypeDesc} {sz by_ : Nat} {z : Option Value} {x : Operand} {b off : Nat} {cells : List Value} {o1 : Nat} {v : Value}
    (ht : tinf P t = some (dd, sz, by_, z)) (hd : nagg dd = true) (hx : evo l x = some (.pointer (some ⟨b, o1, none⟩))) (hr : Rc W0 L b off cells) (j : Nat) (ho : o1 = off + j) (hv : cells[j]? = some v) :
    EV P n W0 ⟨D, .load t x, ty, pos, af, gd⟩ l L v :=
  fun a w ha hs => by
    have := run_loadVar_s ht hd (w := w) (a := ⟨b, o1, none⟩) (v := v) (by rw [ho]; exact hr w hs j v hv)
    simp [execOp, ha.eval hx, Instr.loadAt, Instr.sureAddr, this]
omit hdn in
theorem eLdRA {D : Option Nat} {t : TypeId} {dd : TypeDesc} {sz by_ : Nat} {z : Option Value} {x : Operand} {b off : Nat} {cells : List Value} {o1 : Nat} {vs : List Value}
    (ht : tinf P t = some (dd, sz, by_, z)) (hd : nagg dd = false) (hx : evo l x = some (.pointer (some ⟨b, o1, none⟩))) (hr : Rc W0 L b off cells) (j : Nat) (ho : o1 = off + j) (hsz : vs.length = sz) (hv : (cells.drop j).take sz = vs) :
    EV P n W0 ⟨D, .load t x, ty, pos, af, gd⟩ l L (.agg vs.toArray) :=
  fun a w ha hs => by
    have := run_loadVar_a (cs := vs) (by subst hsz; simpa using ht) hd (w := w) (b := b) (off := o1) (fun i v hi => by
      rw [ho, Nat.add_assoc]
      refine hr w hs _ v ?_
      rw [← hv, List.getElem?_take] at hi
      split at hi
      · simpa using hi
      · cases hi)
    simp [execOp, ha.eval hx, Instr.loadAt, Instr.sureAddr, this]

/-! the length of a slice that can be read -/
omit hdn in
theorem eLenR {D : Option Nat} {x : Operand} {t : TypeId} {e : TypeId} {a1 a2 : Nat} {z1 : Option Value} {v : Value} {sz k : Nat} {cells : List Value}
    (ht : tinf P t = some (.slice e, a1, a2, z1)) (hx : evo l x = some v) (hv : Rs W0 L v sz k cells) : EV P n W0 ⟨D, .call ⟨.builtin .len, #[x], #[t]⟩, ty, pos, af, gd⟩ l L (.int .i64 (k : Int)) := by
  rcases hv.2 with ⟨rfl, ad, cap, rfl⟩ | ⟨b, off, cap, rfl, _, _⟩
  · exact eLenS ht hx
  · exact eLenS ht hx
omit hdn in
theorem eLenRow {D : Option Nat} {x : Operand} {t : TypeId} {e : TypeId} {a1 a2 : Nat} {z1 : Option Value} {v : Value} {cs : Array Value} {sz k : Nat} {cells : List Value}
    (ht : tinf P t = some (.slice e, a1, a2, z1)) (hx : evo l x = some v) (hv : Row v cs sz k cells) : EV P n W0 ⟨D, .call ⟨.builtin .len, #[x], #[t]⟩, ty, pos, af, gd⟩ l L (.int .i64 (k : Int)) := by
  rcases hv.2 with ⟨rfl, rfl⟩ | ⟨b, cap, rfl, _, _⟩
  · exact eLenS ht hx
  · exact eLenS ht hx
end
end Go.Proofs.Ytahjgjmemijofaa.Eng
