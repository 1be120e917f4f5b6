/- How calls that are handed in are opened. No statement of the seat is proved here. -/
import Derived.Test.YtahjgjmemijofaaShut
import Derived.Test.YtahjgjmemijofaaOps4
namespace Go.Proofs.Ytahjgjmemijofaa.Eng
open Go
set_option linter.unusedVariables false

/-- a slice of rows, handed in: what it holds, told by a list of what one row is opened to -/
theorem rows_of_trod' {α H : Type} [Inhabited α] {P : Program} {enc : TypeId × Value → H} (cells : α → List Value) (OK : α → Prop) (sz : Nat) (hpos' : 0 < sz) (hlc1 : ∀ c, (cells c).length = sz) {W : World} {held : Bool} {t e : TypeId} {v : Value} {d : DataW H} {p : List MemPlace} {spare : Nat → Bool}
    (ht : P.underlying t = some (.slice e)) (hce : P.cellsOf e = sz) (hel : ∀ fuel cs x, cs.length = sz → DataW.trod enc P W 0 spare held fuel e cs = some x → ∃ c, cells c = cs ∧ OK c)
    (hval : ∃ a len cap, v = .slice a len cap) (h : DataW.Trod enc P W 0 spare held t v d p) :
    ∃ l : List α, l.length ≤ maxLen ∧ (∀ L, Rs W L v sz l.length (l.flatMap cells)) ∧ ∀ c ∈ l, OK c := by
  obtain ⟨a0, len0, cap0, rfl⟩ := hval
  obtain ⟨fuel, hf⟩ := h
  rcases Go.Deep.open_slice ht hf with ⟨hcs, _⟩ | ⟨a, len, cap, m, n', D, Pl, hcs, _, hlc, hmax, hm, _, hall⟩
  · simp [Value.cells] at hcs
    obtain ⟨rfl, rfl, rfl⟩ := hcs
    exact ⟨[], Nat.zero_le _, fun L => Rs.nil _, fun r hr => by simp at hr⟩
  · simp [Value.cells] at hcs
    obtain ⟨rfl, rfl, rfl⟩ := hcs
    have hlm : len0 ≤ m := by rw [hm]; split <;> omega
    obtain ⟨f, hfp⟩ := Go.Deep.choose_lt (α := α) (n := len0) (p := fun i as => OK as ∧ ∀ (j : Nat) u, (cells as)[j]? = some u → W.cell? ((a.add (i * sz)).add j) = some u) (fun i hi => by
      obtain ⟨cs', h1, h2⟩ := hall i (by omega)
      rw [hce] at h1
      obtain ⟨_, hl, hc⟩ := World.cells?_some h1
      obtain ⟨c, g2, g3⟩ := hel _ _ _ (by simpa using hl) h2
      refine ⟨c, g3, fun j u hj => ?_⟩
      have hjl : j < sz := by
        have := (List.getElem?_eq_some_iff.1 hj).1
        rw [hlc1] at this; exact this
      rw [hc j hjl, ← g2]; exact hj)
    have hlenr : ((List.range len0).map f).length = len0 := by simp
    refine ⟨(List.range len0).map f, by rw [hlenr]; omega, fun L => ?_, fun r hr => ?_⟩
    · rw [hlenr]
      have hfl : ∀ r ∈ (List.range len0).map f, (cells r).length = sz := by
        intro r hr
        obtain ⟨i, hi, rfl⟩ := List.mem_map.1 hr
        exact hlc1 _
      have htot : (((List.range len0).map f).flatMap cells).length = len0 * sz := by
        rw [List.length_flatMap]
        have : ∀ l : List α, (∀ r ∈ l, (cells r).length = sz) → (l.map fun a => (cells a).length).sum = l.length * sz := by
          intro l
          induction l with
          | nil => intro _; simp
          | cons x l ih => intro hh; simp only [List.map_cons, List.sum_cons, List.length_cons]; rw [ih (fun r hr => hh r (List.mem_cons_of_mem _ hr)), hh x List.mem_cons_self, Nat.add_mul]; omega
        rw [this _ hfl, hlenr]
      have hcell : ∀ (j : Nat) u, (((List.range len0).map f).flatMap cells)[j]? = some u → W.cell? (a.add j) = some u := by
        intro j u hj
        have hjl : j < len0 * sz := by rw [← htot]; exact (List.getElem?_eq_some_iff.1 hj).1
        have hi : j / sz < len0 := by rw [Nat.div_lt_iff_lt_mul hpos']; exact hjl
        have hget : (((List.range len0).map f).flatMap cells)[j]? = (cells (f (j / sz)))[j % sz]? := by
          have gen : ∀ (l : List α), (∀ r ∈ l, (cells r).length = sz) → ∀ j, (l.flatMap cells)[j]? = (l[j / sz]?).bind fun r => (cells r)[j % sz]? := by
            intro l
            induction l with
            | nil => intro _ j; simp
            | cons x l ih =>
              intro hh j
              rw [List.flatMap_cons]
              have hx := hh x List.mem_cons_self
              rcases Nat.lt_or_ge j sz with h | h
              · rw [List.getElem?_append_left (by omega), Nat.div_eq_of_lt h, Nat.mod_eq_of_lt h]; simp
              · rw [List.getElem?_append_right (by omega), hx, ih (fun r hr => hh r (List.mem_cons_of_mem _ hr))]
                have h1 : j / sz = (j - sz) / sz + 1 := by
                  conv => lhs; rw [← Nat.sub_add_cancel h]
                  rw [Nat.add_div_right _ hpos']
                have h2 : j % sz = (j - sz) % sz := by
                  conv => lhs; rw [← Nat.sub_add_cancel h]
                  rw [Nat.add_mod_right]
                rw [h1, h2]; simp
          rw [gen _ hfl, List.getElem?_map, List.getElem?_range hi]; rfl
        rw [hget] at hj
        have := (hfp _ hi).2 _ _ hj
        rw [Go.Deep.add_add, Nat.mul_comm, Nat.div_add_mod] at this
        exact this
      rcases Nat.eq_zero_or_pos len0 with h0 | h0
      · subst h0
        exact Rs.nil' _ _ _
      · obtain ⟨b, off, sp⟩ := a
        have hsp : sp = none := by
          have h1 : 0 < (((List.range len0).map f).flatMap cells).length := by rw [htot]; exact Nat.mul_pos h0 hpos'
          have h2 := hcell 0 _ (List.getElem?_eq_getElem h1)
          unfold World.cell? Addr.add at h2
          cases sp with
          | none => rfl
          | some s => simp at h2; split at h2 <;> simp at h2
        subst hsp
        exact Rs.mk (Rc.of_old fun j u hj => by have := hcell j u hj; rwa [addr_add] at this) htot hlc
    · obtain ⟨i, hi, rfl⟩ := List.mem_map.1 hr
      exact (hfp i (List.mem_range.1 hi)).1
end Go.Proofs.Ytahjgjmemijofaa.Eng
