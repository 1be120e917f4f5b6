/- DiskNobody is true for every input, and leaves what it was handed as it was. No conditions. -/
import Derived.Test.YtahjgjmemijofaaRow2b
import Derived.Test.YtahjgjmemijofaaNbd
namespace Go.Proofs.Ytahjgjmemijofaa.diskNobody
open Go Eng Go.ChangeShapes Go.WideShapes Go.ChangeAt Go.RowKit
set_option linter.unusedVariables false

set_option maxRecDepth 100000 in
theorem lifted (os : Os) (started : os.Started) (H : Type) (enc : TypeId × Value → H) :
    ReturnsInHanded {} Try.checked os 5 .any (Rows.diskNobodySpec.pre6 enc Try.prog Try.f5 Rows.diskNobodyRow.domain false) (Rows.diskNobodySpec.post enc Try.prog Try.f5 false true false false) := by
  refine returnsInHanded_of_change (C := Try.checked) own02 started (by kernel_rfl) Try.func5
    (ChangeSpec.witness6 (enc := enc) (C := Try.checked) false ⟨#[], #[.agg #[.int .i64 0, .string ⟨#[]⟩, .string ⟨#[]⟩, .int .i64 0, .slice none 0 0, .int .i64 0, .int .i64 0, .int .i64 0]], []⟩ 8 (by kernel_rfl) (by kernel_rfl) (by kernel_rfl) (by kernel_rfl)) ?_
  intro W base args ds gs before hval0 hW hcnd _
  have hval : ∀ (j : Nat) t v, Try.f5.params[j]? = some t → args[j]? = some v → Value.okWide Try.prog W .any base t v := hval0
  have hW' := hW
  obtain ⟨p, q, hA0, hV, rfl, hfz, hnd⟩ := hW
  have hA : DataW.TrodAll enc Try.prog W 0 (fun _ => true) true Try.f5.params.toList args.toList ds p := hA0
  have hA2 := hA
  rw [Try.params5] at hA hA2 hval
  obtain ⟨v0, a0, d0, ds0, p0, q0, ea0, ed0, ep0, h0, t0⟩ := trodAll_cons hA
  obtain ⟨en, em, _⟩ := trodAll_nil t0
  subst em
  subst ed0
  have hargs := toArr ea0
  rw [en] at hargs
  subst hargs
  obtain ⟨rfl, rfl⟩ := trodVars_none hV
  obtain ⟨c0, rfl, c0a⟩ := open39 h0
  clear hA0 hval0
  simp only [List.append_nil] at hW'
  refine (nobody_ok (W0 := W) c0 W (Sep.start W)).mono ?_
  rintro e W' ⟨v, L', rfl, ⟨rfl, rfl⟩, hs⟩
  have hb := hs.toBelow
  have hlt : ∀ x ∈ p, x.block < W.heap.size := fun x hx => by simpa using hW'.lt x hx
  exact ⟨_, rfl, post_old (pa := p) (pv := []) hW' hb (fun _ _ _ => trodAll_mk1 (shut_bool Try.underlying4 _))
    (fun sp hsp => by rw [Try.params5]; rw [List.append_nil]; exact trodAll_stays ⟨rd39, trivial⟩ hA2 (fun x hx => hb.same (hlt x hx)) hsp)
    (fun _ _ => rfl) (by simp) (ok_one (by kernel_rfl) rfl (okWide_bool_mk Try.underlying4 _))⟩

theorem proved : Rows.DiskNobodySaid :=
  OpenClaim.holds_of_wide 5 Try.f5 rfl rfl rfl rfl rfl rfl rfl ⟨rfl, rfl, rfl, rfl, rfl⟩ rfl rfl rfl rfl rfl (by kernel_rfl) Try.func5 (by kernel_rfl)
    (of_decide_eq_true (by kernel_rfl)) (by unfold Func.isWrapper; first | (rw [if_pos (by decide +kernel)]; kernel_rfl) | (rw [if_neg (by decide +kernel)]; exact ⟨rfl, rfl⟩))
    (fun os started H enc _ => lifted os started H enc)
end Go.Proofs.Ytahjgjmemijofaa.diskNobody
