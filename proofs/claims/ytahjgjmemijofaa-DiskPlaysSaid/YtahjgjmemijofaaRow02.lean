/- What the rows of this seat share: how the arguments are opened. No statement of the seat is proved here. -/
import Derived.Test.YtahjgjmemijofaaRows
import Derived.Test.YtahjgjmemijofaaLw3
import Derived.Test.YtahjgjmemijofaaOpn
namespace Go.Proofs.Ytahjgjmemijofaa
open Go Eng Go.ChangeShapes Go.WideShapes Go.ChangeAt Go.RowKit
set_option linter.unusedVariables false
set_option linter.unusedSimpArgs false
set_option maxRecDepth 100000

theorem own02 : ownKnob Try.prog.godebug = none := by kernel_rfl
theorem laid02 : laidOutB Try.prog = true := by kernel_rfl
theorem cells3 : Program.cellsOf Try.prog 3 = 1 := by kernel_rfl
theorem cells5 : Program.cellsOf Try.prog 5 = 1 := by kernel_rfl
theorem cells9 : Program.cellsOf Try.prog 9 = 1 := by kernel_rfl
theorem cells30 : Program.cellsOf Try.prog 30 = 1 := by kernel_rfl
theorem cells39 : Program.cellsOf Try.prog 39 = 8 := by kernel_rfl

theorem wf64 {a : Int} (h : (Lit.int .i64 a).wf = true) : I64 a := by
  simp [Lit.wf, IntKind.min, IntKind.max, IntKind.signed, IntKind.bits] at h
  unfold I64; omega
theorem wf8 {a : Int} (h : (Lit.int .u8 a).wf = true) : 0 ≤ a ∧ a < 256 := by
  simp [Lit.wf, IntKind.min, IntKind.max, IntKind.signed, IntKind.bits] at h; omega
theorem flat1 (B : List Int) : B.flatMap (fun x => [Value.int .u8 x]) = byteV B := by
  induction B with
  | nil => rfl
  | cons x r ih => rw [List.flatMap_cons, ih]; rfl

theorem open30 {H : Type} {W : World} {held : Bool} {v : Value} {d : DataW H} {p : List MemPlace} {enc : TypeId × Value → H} {spare : Nat → Bool} (hval : ∃ a len cap, v = .slice a len cap) (h : DataW.Trod enc Try.prog W 0 spare held 30 v d p) :
    ∃ B : List Int, (∀ L, Rs W L v 1 B.length (byteV B)) ∧ IsB B ∧ B.length ≤ 9223372036854775807 := by
  obtain ⟨B, h1, h2, h3⟩ := rows_of_trod' (P := Try.prog) (fun x : Int => [Value.int .u8 x]) (fun x => 0 ≤ x ∧ x < 256) 1 (by decide) (fun _ => rfl) Try.underlying30 cells5 (fun fuel cs x hl hx => by
    obtain ⟨a, rfl, rfl, hw⟩ := DataW.trod_int Try.underlying5 hx
    exact ⟨a, rfl, wf8 hw⟩) hval h
  refine ⟨B, fun L => by rw [← flat1]; exact h2 L, h3, ?_⟩
  simp [maxLen] at h1 ⊢; omega
theorem str_nm (s : ByteArray) : Value.string s = strK s.data.toList := by simp [strK, Go.Proofs.encStr]
theorem open9 {W : World} {base : Nat} {v : Value} (hval : Value.okWide Try.prog W .any base 9 v) : ∃ k : Nm, v = strK k := by
  obtain ⟨s, rfl⟩ := okWide_string Try.underlying9 hval
  exact ⟨_, str_nm s⟩

/-- a call that is handed in -/
def DoW (W : World) (c : Do) : Prop := ∀ X, DoR W X c
instance : Inhabited Do := ⟨⟨0, [], [], 0, .slice none 0 0, [], 0, 0, 0⟩⟩

theorem do_el {H : Type} {W : World} {held : Bool} {enc : TypeId × Value → H} {spare : Nat → Bool} {fuel : Nat} {cs : List Value} {x : DataW H × List MemPlace} (hl : cs.length = 8) (h : DataW.trod enc Try.prog W 0 spare held fuel 39 cs = some x) :
    ∃ c : Do, (cC c).toList = cs ∧ DoW W c := by
  obtain ⟨xs, m, rfl, _, hcl, hxl, hf⟩ := DataW.trod_struct Try.underlying39 h
  match cs, hl with
  | [c0, c1, c2, c3, c4, c5, c6, c7], _ =>
    have hxl : xs.length = 8 := hxl
    have hx : ∀ i, i < 8 → ∃ y, xs[i]? = some y := fun i hi => ⟨_, List.getElem?_eq_getElem (by omega)⟩
    obtain ⟨y0, e0⟩ := hx 0 (by decide)
    obtain ⟨y1, e1⟩ := hx 1 (by decide)
    obtain ⟨y2, e2⟩ := hx 2 (by decide)
    obtain ⟨y3, e3⟩ := hx 3 (by decide)
    obtain ⟨y4, e4⟩ := hx 4 (by decide)
    obtain ⟨y5, e5⟩ := hx 5 (by decide)
    obtain ⟨y6, e6⟩ := hx 6 (by decide)
    obtain ⟨y7, e7⟩ := hx 7 (by decide)
    have f0 : DataW.trod enc Try.prog W 0 spare held m 3 (([c0, c1, c2, c3, c4, c5, c6, c7].drop 0).take (Program.cellsOf Try.prog 3)) = some y0 := (hf 0 _ rfl).trans e0
    rw [cells3] at f0
    have f1 : DataW.trod enc Try.prog W 0 spare held m 9 (([c0, c1, c2, c3, c4, c5, c6, c7].drop 1).take (Program.cellsOf Try.prog 9)) = some y1 := (hf 1 _ rfl).trans e1
    rw [cells9] at f1
    have f2 : DataW.trod enc Try.prog W 0 spare held m 9 (([c0, c1, c2, c3, c4, c5, c6, c7].drop 2).take (Program.cellsOf Try.prog 9)) = some y2 := (hf 2 _ rfl).trans e2
    rw [cells9] at f2
    have f3 : DataW.trod enc Try.prog W 0 spare held m 3 (([c0, c1, c2, c3, c4, c5, c6, c7].drop 3).take (Program.cellsOf Try.prog 3)) = some y3 := (hf 3 _ rfl).trans e3
    rw [cells3] at f3
    have f4 : DataW.trod enc Try.prog W 0 spare held m 30 (([c0, c1, c2, c3, c4, c5, c6, c7].drop 4).take (Program.cellsOf Try.prog 30)) = some y4 := (hf 4 _ rfl).trans e4
    rw [cells30] at f4
    have f5 : DataW.trod enc Try.prog W 0 spare held m 3 (([c0, c1, c2, c3, c4, c5, c6, c7].drop 5).take (Program.cellsOf Try.prog 3)) = some y5 := (hf 5 _ rfl).trans e5
    rw [cells3] at f5
    have f6 : DataW.trod enc Try.prog W 0 spare held m 3 (([c0, c1, c2, c3, c4, c5, c6, c7].drop 6).take (Program.cellsOf Try.prog 3)) = some y6 := (hf 6 _ rfl).trans e6
    rw [cells3] at f6
    have f7 : DataW.trod enc Try.prog W 0 spare held m 3 (([c0, c1, c2, c3, c4, c5, c6, c7].drop 7).take (Program.cellsOf Try.prog 3)) = some y7 := (hf 7 _ rfl).trans e7
    rw [cells3] at f7
    simp only [List.drop_succ_cons, List.drop_zero, List.take_succ_cons, List.take_zero] at f0 f1 f2 f3 f4 f5 f6 f7
    obtain ⟨a0, h0, _, _⟩ := DataW.trod_int Try.underlying3 f0
    obtain ⟨s1, h1, _⟩ := DataW.trod_string Try.underlying9 f1
    obtain ⟨s2, h2, _⟩ := DataW.trod_string Try.underlying9 f2
    obtain ⟨a3, h3, _, w3⟩ := DataW.trod_int Try.underlying3 f3
    obtain ⟨a5, h5, _, w5⟩ := DataW.trod_int Try.underlying3 f5
    obtain ⟨a6, h6, _, w6⟩ := DataW.trod_int Try.underlying3 f6
    obtain ⟨a7, h7, _, w7⟩ := DataW.trod_int Try.underlying3 f7
    have hsl : ∃ a len cap, c4 = .slice a len cap := by
      rcases DataW.trod_slice Try.underlying30 f4 with ⟨h9, _⟩ | ⟨a, len, cap, _, _, _, _, h9, _⟩
      · cases h9; exact ⟨_, _, _, rfl⟩
      · cases h9; exact ⟨_, _, _, rfl⟩
    obtain ⟨a, len, cap, rfl⟩ := hsl
    obtain ⟨B, g1, g2, g3⟩ := open30 ⟨a, len, cap, rfl⟩ (d := y4.1) (p := y4.2) (H := H) ⟨m, f4⟩
    cases h0; cases h1; cases h2; cases h3; cases h5; cases h6; cases h7
    refine ⟨⟨a0, s1.data.toList, s2.data.toList, a3, .slice a len cap, B, a5, a6, a7⟩, ?_, fun X => ⟨wf64 w3, wf64 w6, wf64 w7, wf64 w5, g1 X, g2, g3⟩⟩
    simp only [cC, ← str_nm]

theorem open22 {H : Type} {base : Nat} {W : World} {held : Bool} {v : Value} {d : DataW H} {p : List MemPlace} {enc : TypeId × Value → H} {spare : Nat → Bool} (hval : Value.okWide Try.prog W .any base 22 v) (h : DataW.Trod enc Try.prog W 0 spare held 22 v d p) :
    ∃ l : List Do, (∀ L, Rs W L v 8 l.length (dos l)) ∧ (∀ c ∈ l, DoW W c) ∧ l.length ≤ 9223372036854775807 := by
  obtain ⟨l, h1, h2, h3⟩ := rows_of_trod' (P := Try.prog) (fun c : Do => (cC c).toList) (DoW W) 8 (by decide) (fun _ => rfl) Try.underlying22 cells39 (fun fuel cs x hl hx => do_el hl hx) (okWide_slice Try.underlying22 hval) h
  exact ⟨l, h2, h3, by simp [maxLen] at h1 ⊢; omega⟩

theorem open39 {H : Type} {W : World} {held : Bool} {v : Value} {d : DataW H} {p : List MemPlace} {enc : TypeId × Value → H} {spare : Nat → Bool} (h : DataW.Trod enc Try.prog W 0 spare held 39 v d p) :
    ∃ c : Do, v = .agg (cC c) ∧ DoW W c := by
  obtain ⟨fuel, hf⟩ := h
  have hl : v.cells.toList.length = 8 := by
    obtain ⟨xs, m, rfl, _, hcl, _⟩ := DataW.trod_struct Try.underlying39 hf
    rw [hcl, cells39]
  obtain ⟨c, h1, h2⟩ := do_el hl hf
  refine ⟨c, ?_, h2⟩
  cases v with
  | agg cs => simp [Value.cells] at h1; rw [← h1]
  | _ => simp [Value.cells] at hl

theorem open3 {H : Type} {W : World} {held : Bool} {v : Value} {d : DataW H} {p : List MemPlace} {enc : TypeId × Value → H} {spare : Nat → Bool} {base : Nat} (hval : Value.okWide Try.prog W .any base 3 v) (h : DataW.Trod enc Try.prog W 0 spare held 3 v d p) :
    ∃ x : Int, v = i64 x ∧ I64 x := by
  obtain ⟨fuel, hf⟩ := h
  obtain ⟨a, h1, _, hw⟩ := DataW.trod_int Try.underlying3 hf
  obtain ⟨x, rfl⟩ := okWide_int Try.underlying3 hval
  simp [Value.cells] at h1
  subst h1
  exact ⟨_, rfl, wf64 hw⟩
end Go.Proofs.Ytahjgjmemijofaa
