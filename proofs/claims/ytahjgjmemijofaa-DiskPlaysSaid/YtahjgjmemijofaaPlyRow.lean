/- DiskPlays is true for every input, and leaves what it was handed as it was. No conditions. -/
import Derived.Test.YtahjgjmemijofaaRow2b
import Derived.Test.YtahjgjmemijofaaPly
import Derived.Test.YtahjgjmemijofaaRow2n
namespace Go.Proofs.Ytahjgjmemijofaa.diskPlays
open Go Eng Go.ChangeShapes Go.WideShapes Go.ChangeAt Go.RowKit
set_option linter.unusedVariables false

set_option maxRecDepth 100000 in
theorem lifted (os : Os) (started : os.Started) (H : Type) (enc : TypeId × Value → H) :
    ReturnsInHanded {} Try.checked os 6 .any (Rows.diskPlaysSpec.pre6 enc Try.prog Try.f6 Rows.diskPlaysRow.domain false) (Rows.diskPlaysSpec.post enc Try.prog Try.f6 false true false false) := by
  refine returnsInHanded_of_change (C := Try.checked) own02 started (by kernel_rfl) Try.func6
    (ChangeSpec.witness6 (enc := enc) (C := Try.checked) false ⟨#[], #[.int .i64 0, .slice none 0 0], []⟩ 8 (by kernel_rfl) (by kernel_rfl) (by kernel_rfl) (by kernel_rfl)) ?_
  intro W base args ds gs before hval0 hW hcnd _
  have hval : ∀ (j : Nat) t v, Try.f6.params[j]? = some t → args[j]? = some v → Value.okWide Try.prog W .any base t v := hval0
  have hW' := hW
  obtain ⟨p, q, hA0, hV, rfl, hfz, hnd⟩ := hW
  have hA : DataW.TrodAll enc Try.prog W 0 (fun _ => true) true Try.f6.params.toList args.toList ds p := hA0
  have hA2 := hA
  rw [Try.params6] at hA hA2 hval
  obtain ⟨v0, a0, d0, ds0, p0, q0, ea0, ed0, ep0, h0, t0⟩ := trodAll_cons hA
  obtain ⟨v1, a1, d1, ds1, p1, q1, ea1, ed1, ep1, h1, t1⟩ := trodAll_cons t0
  obtain ⟨en, em, _⟩ := trodAll_nil t1
  subst em
  subst ed1
  subst ed0
  have hargs := toArr ea0
  rw [ea1, en] at hargs
  subst hargs
  obtain ⟨rfl, rfl⟩ := trodVars_none hV
  obtain ⟨x0, rfl, x0a⟩ := open3 (hval 0 3 v0 rfl rfl) h0
  obtain ⟨l1, l1a, l1b, l1c⟩ := open22n (hval 1 22 v1 rfl rfl) h1
  clear hA0 hval0
  simp only [List.append_nil] at hW'
  refine (plays_law (W0 := W) x0 x0a v1 l1 (l1a []) (fun c hc => (l1b c hc).1 []) l1c (fun c hc => (l1b c hc).2) W (Sep.start W)).mono ?_
  rintro e W' ⟨v, L', rfl, ⟨rfl, rfl⟩, hs⟩
  have hb := hs.toBelow
  have hlt : ∀ x ∈ p, x.block < W.heap.size := fun x hx => by simpa using hW'.lt x hx
  exact ⟨_, rfl, post_old (pa := p) (pv := []) hW' hb (fun _ _ _ => trodAll_mk1 (shut_bool Try.underlying4 _))
    (fun sp hsp => by rw [Try.params6]; rw [List.append_nil]; exact trodAll_stays ⟨rd3, rd22, trivial⟩ hA2 (fun x hx => hb.same (hlt x hx)) hsp)
    (fun _ _ => rfl) (by simp) (ok_one (by kernel_rfl) rfl (okWide_bool_mk Try.underlying4 _))⟩

theorem proved : Rows.DiskPlaysSaid :=
  OpenClaim.holds_of_wide 6 Try.f6 rfl rfl rfl rfl rfl rfl rfl ⟨rfl, rfl, rfl, rfl, rfl⟩ rfl rfl rfl rfl rfl (by kernel_rfl) Try.func6 (by kernel_rfl)
    (of_decide_eq_true (by kernel_rfl)) (by unfold Func.isWrapper; first | (rw [if_pos (by decide +kernel)]; kernel_rfl) | (rw [if_neg (by decide +kernel)]; exact ⟨rfl, rfl⟩))
    (fun os started H enc _ => lifted os started H enc)
end Go.Proofs.Ytahjgjmemijofaa.diskPlays
