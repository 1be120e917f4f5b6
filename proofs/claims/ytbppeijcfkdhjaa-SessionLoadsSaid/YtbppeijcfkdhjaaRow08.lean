/- What the rows of this seat share: how the arguments are opened. No statement of the seat is proved here. -/
import Derived.Test.YtbppeijcfkdhjaaRows
import Derived.Test.YtbppeijcfkdhjaaSess4
import Derived.Test.YtbppeijcfkdhjaaShut
namespace Go.Proofs.Ytbppeijcfkdhjaa
open Go Eng Go.ChangeShapes Go.WideShapes Go.ChangeAt Go.RowKit
set_option linter.unusedVariables false

theorem own08 : ownKnob Try.prog.godebug = none := by kernel_rfl
theorem laid08 : laidOutB Try.prog = true := by kernel_rfl

def toDo : List Int → Do
  | [a0, a1, a2, a3, a4, a5, a6, a7, a8, a9, a10, a11] => ⟨a0, a1, a2, a3, ⟨a4, a5, a6, a7, a8, a9, a10, a11⟩⟩
  | _ => ⟨0, 0, 0, 0, r0⟩
def ks41 : List IntKind := [.i64, .i64, .i64, .i64, .i64, .i64, .i64, .i64, .i64, .i64, .i64, .i64]
theorem leaf41 : ileaf Try.prog 4 41 = some ks41 := by kernel_rfl
theorem cells41 : Program.cellsOf Try.prog 41 = 12 := by kernel_rfl

theorem wf64 {a : Int} (h : (Lit.int .i64 a).wf = true) : -9223372036854775808 ≤ a ∧ a < 9223372036854775808 := by
  simp [Lit.wf, IntKind.min, IntKind.max, IntKind.signed, IntKind.bits] at h; omega
theorem toDo_ok {r : List Int} (hl : r.length = ks41.length) (hw : Wfs ks41 r) : (cC (toDo r)).toList = ints ks41 r ∧ DoOk (toDo r) := by
  match r, hl with
  | [a0, a1, a2, a3, a4, a5, a6, a7, a8, a9, a10, a11], _ =>
    have h1 := wf64 (hw 1 .i64 a1 rfl rfl)
    have h2 := wf64 (hw 2 .i64 a2 rfl rfl)
    have h3 := wf64 (hw 3 .i64 a3 rfl rfl)
    exact ⟨rfl, h1.1, h1.2, h2.1, h2.2, h3.1, h3.2⟩
theorem dos_toDo : ∀ {rows : List (List Int)}, (∀ r ∈ rows, r.length = ks41.length ∧ Wfs ks41 r) → dos (rows.map toDo) = rows.flatMap (ints ks41) := by
  intro rows
  induction rows with
  | nil => intro _; rfl
  | cons r rows ih =>
    intro h
    have hr := h r List.mem_cons_self
    have := ih (fun x hx => h x (List.mem_cons_of_mem _ hx))
    unfold dos at this ⊢
    rw [List.map_cons, List.flatMap_cons, List.flatMap_cons, this, (toDo_ok hr.1 hr.2).1]

set_option maxRecDepth 100000 in
theorem open22 {H : Type} {base : Nat} {W : World} {held : Bool} {v : Value} {d : DataW H} {p : List MemPlace} {enc : TypeId × Value → H} {spare : Nat → Bool} (hval : Value.okWide Try.prog W .any base 22 v) (h : DataW.Trod enc Try.prog W 0 spare held 22 v d p) :
    ∃ l : List Do, (∀ L, Rs W L v 12 l.length (dos l)) ∧ (∀ c ∈ l, DoOk c) ∧ l.length ≤ 9223372036854775807 := by
  obtain ⟨rows, h1, h2, h3⟩ := rows_of_trod 4 Try.underlying22 leaf41 cells41 rfl (okWide_slice Try.underlying22 hval) h
  refine ⟨rows.map toDo, fun L => ?_, fun c hc => ?_, ?_⟩
  · rw [dos_toDo h3, List.length_map]; exact h2 L
  · obtain ⟨r, hr, rfl⟩ := List.mem_map.1 hc
    exact (toDo_ok (h3 r hr).1 (h3 r hr).2).2
  · simp [maxLen] at h1 ⊢; omega

theorem open41 {H : Type} {W : World} {held : Bool} {v : Value} {d : DataW H} {p : List MemPlace} {enc : TypeId × Value → H} {spare : Nat → Bool} (h : DataW.Trod enc Try.prog W 0 spare held 41 v d p) :
    ∃ c : Do, v = .agg (cC c) ∧ DoOk c := by
  obtain ⟨fuel, hf⟩ := h
  obtain ⟨ws, h1, h2, h3⟩ := ints_of_trod 4 leaf41 hf
  obtain ⟨h4, h5⟩ := toDo_ok h1 h3
  refine ⟨toDo ws, ?_, h5⟩
  rw [← h4] at h2
  have h6 : v.cells = cC (toDo ws) := Array.ext' h2
  cases v with
  | agg cs => exact congrArg Value.agg h6
  | _ => have := congrArg Array.size h6; simp [Value.cells, cC] at this
end Go.Proofs.Ytbppeijcfkdhjaa
