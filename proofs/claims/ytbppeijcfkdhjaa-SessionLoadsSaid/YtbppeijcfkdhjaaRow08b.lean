/- How bytes that are handed in are opened. No statement of the seat is proved here. -/
import Derived.Test.YtbppeijcfkdhjaaRow08
import Derived.Test.YtbppeijcfkdhjaaOps4
namespace Go.Proofs.Ytbppeijcfkdhjaa
open Go Eng Go.ChangeShapes Go.WideShapes Go.ChangeAt Go.RowKit
set_option linter.unusedVariables false

theorem leaf5 : ileaf Try.prog 2 5 = some [.u8] := by kernel_rfl
theorem cells5 : Program.cellsOf Try.prog 5 = 1 := by kernel_rfl
theorem wf8 {a : Int} (h : (Lit.int .u8 a).wf = true) : 0 ≤ a ∧ a < 256 := by
  simp [Lit.wf, IntKind.min, IntKind.max, IntKind.signed, IntKind.bits] at h; omega
theorem bytes_rows : ∀ {rows : List (List Int)}, (∀ r ∈ rows, r.length = 1 ∧ Wfs [.u8] r) → ∃ B : List Int, B.length = rows.length ∧ rows.flatMap (ints [.u8]) = byteV B ∧ IsB B := by
  intro rows
  induction rows with
  | nil => intro _; exact ⟨[], rfl, rfl, fun x hx => by simp at hx⟩
  | cons r rows ih =>
    intro h
    obtain ⟨B, h1, h2, h3⟩ := ih (fun x hx => h x (List.mem_cons_of_mem _ hx))
    obtain ⟨g1, g2⟩ := h r List.mem_cons_self
    match r, g1 with
    | [x], _ =>
      have hx := wf8 (g2 0 .u8 x rfl rfl)
      refine ⟨x :: B, by simp [h1], ?_, fun y hy => ?_⟩
      · rw [List.flatMap_cons, h2]; rfl
      · rcases List.mem_cons.1 hy with rfl | hy
        · exact hx
        · exact h3 y hy
set_option maxRecDepth 100000 in
theorem open49 {H : Type} {base : Nat} {W : World} {held : Bool} {v : Value} {d : DataW H} {p : List MemPlace} {enc : TypeId × Value → H} {spare : Nat → Bool} (hval : Value.okWide Try.prog W .any base 49 v) (h : DataW.Trod enc Try.prog W 0 spare held 49 v d p) :
    ∃ B : List Int, (∀ L, Rs W L v 1 B.length (byteV B)) ∧ IsB B ∧ B.length ≤ 9223372036854775807 := by
  obtain ⟨rows, h1, h2, h3⟩ := rows_of_trod 2 Try.underlying49 leaf5 cells5 rfl (okWide_slice Try.underlying49 hval) h
  obtain ⟨B, g1, g2, g3⟩ := bytes_rows h3
  refine ⟨B, fun L => ?_, g3, ?_⟩
  · rw [g1, ← g2]; exact h2 L
  · simp [maxLen] at h1 ⊢; omega
end Go.Proofs.Ytbppeijcfkdhjaa
