/- SessionEnds is true for every list of calls and every number, and leaves what it was handed as it was. No conditions. -/
import Derived.Test.YtbppeijcfkdhjaaRows
import Derived.Test.YtbppeijcfkdhjaaEnds
import Derived.Test.YtbppeijcfkdhjaaShut
namespace Go.Proofs.Ytbppeijcfkdhjaa.sessionEnds
open Go Eng Go.ChangeShapes Go.WideShapes Go.ChangeAt Go.RowKit
set_option linter.unusedVariables false

theorem own : ownKnob Try.prog.godebug = none := by kernel_rfl
theorem laidOut : laidOutB Try.prog = true := by kernel_rfl

def toDo : List Int → Do
  | [a0, a1, a2, a3, a4, a5, a6, a7, a8, a9, a10, a11] => ⟨a0, a1, a2, a3, ⟨a4, a5, a6, a7, a8, a9, a10, a11⟩⟩
  | _ => ⟨0, 0, 0, 0, r0⟩
def ks41 : List IntKind := [.i64, .i64, .i64, .i64, .i64, .i64, .i64, .i64, .i64, .i64, .i64, .i64]
theorem leaf41 : ileaf Try.prog 4 41 = some ks41 := by kernel_rfl
theorem cells41 : Program.cellsOf Try.prog 41 = 12 := by kernel_rfl

theorem wf64 {a : Int} (h : (Lit.int .i64 a).wf = true) : -9223372036854775808 ≤ a ∧ a < 9223372036854775808 := by
  simp [Lit.wf, IntKind.min, IntKind.max, IntKind.signed, IntKind.bits] at h; omega
theorem toDo_ok {r : List Int} (hl : r.length = ks41.length) (hw : Wfs ks41 r) : (cC (toDo r)).toList = ints ks41 r ∧ DoOk (toDo r) := by
  match r, hl with
  | [a0, a1, a2, a3, a4, a5, a6, a7, a8, a9, a10, a11], _ =>
    have h1 := wf64 (hw 1 .i64 a1 rfl rfl)
    have h2 := wf64 (hw 2 .i64 a2 rfl rfl)
    have h3 := wf64 (hw 3 .i64 a3 rfl rfl)
    exact ⟨rfl, h1.1, h1.2, h2.1, h2.2, h3.1, h3.2⟩
theorem dos_toDo : ∀ {rows : List (List Int)}, (∀ r ∈ rows, r.length = ks41.length ∧ Wfs ks41 r) → dos (rows.map toDo) = rows.flatMap (ints ks41) := by
  intro rows
  induction rows with
  | nil => intro _; rfl
  | cons r rows ih =>
    intro h
    have hr := h r List.mem_cons_self
    have := ih (fun x hx => h x (List.mem_cons_of_mem _ hx))
    unfold dos at this ⊢
    rw [List.map_cons, List.flatMap_cons, List.flatMap_cons, this, (toDo_ok hr.1 hr.2).1]

set_option maxRecDepth 100000 in
theorem opened {H : Type} {base : Nat} {W : World} {held : Bool} {v : Value} {d : DataW H} {p : List MemPlace} {enc : TypeId × Value → H} {spare : Nat → Bool} (hval : Value.okWide Try.prog W .any base 22 v) (h : DataW.Trod enc Try.prog W 0 spare held 22 v d p) :
    ∃ l : List Do, (∀ L, Rs W L v 12 l.length (dos l)) ∧ (∀ c ∈ l, DoOk c) ∧ l.length ≤ 9223372036854775807 := by
  obtain ⟨rows, h1, h2, h3⟩ := rows_of_trod 4 Try.underlying22 leaf41 cells41 rfl (okWide_slice Try.underlying22 hval) h
  refine ⟨rows.map toDo, fun L => ?_, fun c hc => ?_, ?_⟩
  · rw [dos_toDo h3, List.length_map]; exact h2 L
  · obtain ⟨r, hr, rfl⟩ := List.mem_map.1 hc
    exact (toDo_ok (h3 r hr).1 (h3 r hr).2).2
  · simp [maxLen] at h1 ⊢; omega

set_option maxRecDepth 100000 in
theorem lifted (os : Os) (started : os.Started) (H : Type) (enc : TypeId × Value → H) :
    ReturnsInHanded {} Try.checked os 3 .any (Rows.sessionEndsSpec.pre6 enc Try.prog Try.f3 Rows.sessionEndsRow.domain false) (Rows.sessionEndsSpec.post enc Try.prog Try.f3 false true false false) := by
  refine returnsInHanded_of_change (C := Try.checked) own started (by kernel_rfl) Try.func3
    (ChangeSpec.witness6 (enc := enc) (C := Try.checked) false ⟨#[], #[.slice none 0 0, .int .i64 0], []⟩ 8 (by kernel_rfl) (by kernel_rfl) (by kernel_rfl) (by kernel_rfl)) ?_
  intro W base args ds gs before hval0 hW hcnd _
  have hval : ∀ (j : Nat) t v, Try.f3.params[j]? = some t → args[j]? = some v → Value.okWide Try.prog W .any base t v := hval0
  have hW' := hW
  obtain ⟨p, q, hA0, hV, rfl, hfz, hnd⟩ := hW
  have hA : DataW.TrodAll enc Try.prog W 0 (fun _ => true) true Try.f3.params.toList args.toList ds p := hA0
  rw [Try.params3] at hA hval
  obtain ⟨v0, v1, d0, d1, p0, p1, rfl, rfl, rfl, h0, h1⟩ := trodAll_two hA
  obtain ⟨rfl, rfl⟩ := trodVars_none hV
  obtain ⟨l, hl1, hl2, hl3⟩ := opened (hval 0 22 v0 rfl rfl) h0
  obtain ⟨b, rfl, rfl, rfl, wb⟩ := open_int Try.underlying3 (hval 1 3 v1 rfl rfl) h1
  clear hA0 hval0
  simp only [List.append_nil] at hW'
  refine (ends_ok (W0 := W) v0 l b hl1 hl2 hl3 W (Sep.start W)).mono ?_
  rintro e W' ⟨v, L', rfl, ⟨rfl, rfl⟩, hs⟩
  have hb := hs.toBelow
  have hlt : ∀ x ∈ p0, x.block < W.heap.size := fun x hx => by simpa using hW'.lt x hx
  exact ⟨_, rfl, post_old (pa := p0) (pv := []) hW' hb (fun _ _ _ => trodAll_mk1 (shut_bool Try.underlying4 _))
    (fun sp hsp => by
      have := trodAll_mk2 (enc := enc) (WideElems.Trod_stays laidOut (by kernel_rfl) (of_decide_eq_true (by kernel_rfl)) h0 (fun x hx => hb.same (hlt x hx)) (fun x hx => hsp x hx)) (shut_int (base := 0) (spare := sp) (held := true) Try.underlying3 wb)
      rw [List.append_nil] at this
      exact this) (fun _ _ => rfl) (by simp) (ok_one (by kernel_rfl) rfl (okWide_bool_mk Try.underlying4 _))⟩

theorem proved : Rows.SessionEndsSaid :=
  OpenClaim.holds_of_wide 3 Try.f3 rfl rfl rfl rfl rfl rfl rfl ⟨rfl, rfl, rfl, rfl, rfl⟩ rfl rfl rfl rfl rfl (by kernel_rfl) Try.func3 (by kernel_rfl)
    (of_decide_eq_true (by kernel_rfl)) (by unfold Func.isWrapper; first | (rw [if_pos (by decide +kernel)]; kernel_rfl) | (rw [if_neg (by decide +kernel)]; exact ⟨rfl, rfl⟩))
    (fun os started H enc _ => lifted os started H enc)
end Go.Proofs.Ytbppeijcfkdhjaa.sessionEnds
