/- DiskStruck is true for every input, and leaves what it was handed as it was. No conditions. -/
import Derived.Test.YtahjgjmemijofaaRow2b
import Derived.Test.YtahjgjmemijofaaStr
namespace Go.Proofs.Ytahjgjmemijofaa.diskStruck
open Go Eng Go.ChangeShapes Go.WideShapes Go.ChangeAt Go.RowKit
set_option linter.unusedVariables false

set_option maxRecDepth 100000 in
theorem lifted (os : Os) (started : os.Started) (H : Type) (enc : TypeId × Value → H) :
    ReturnsInHanded {} Try.checked os 7 .any (Rows.diskStruckSpec.pre6 enc Try.prog Try.f7 Rows.diskStruckRow.domain false) (Rows.diskStruckSpec.post enc Try.prog Try.f7 false true false false) := by
  refine returnsInHanded_of_change (C := Try.checked) own02 started (by kernel_rfl) Try.func7
    (ChangeSpec.witness6 (enc := enc) (C := Try.checked) false ⟨#[], #[.int .i64 0, .slice none 0 0, .slice none 0 0, .int .i64 0, .int .i64 0, .int .i64 0], []⟩ 8 (by kernel_rfl) (by kernel_rfl) (by kernel_rfl) (by kernel_rfl)) ?_
  intro W base args ds gs before hval0 hW hcnd _
  have hval : ∀ (j : Nat) t v, Try.f7.params[j]? = some t → args[j]? = some v → Value.okWide Try.prog W .any base t v := hval0
  have hW' := hW
  obtain ⟨p, q, hA0, hV, rfl, hfz, hnd⟩ := hW
  have hA : DataW.TrodAll enc Try.prog W 0 (fun _ => true) true Try.f7.params.toList args.toList ds p := hA0
  have hA2 := hA
  rw [Try.params7] at hA hA2 hval
  obtain ⟨v0, a0, d0, ds0, p0, q0, ea0, ed0, ep0, h0, t0⟩ := trodAll_cons hA
  obtain ⟨v1, a1, d1, ds1, p1, q1, ea1, ed1, ep1, h1, t1⟩ := trodAll_cons t0
  obtain ⟨v2, a2, d2, ds2, p2, q2, ea2, ed2, ep2, h2, t2⟩ := trodAll_cons t1
  obtain ⟨v3, a3, d3, ds3, p3, q3, ea3, ed3, ep3, h3, t3⟩ := trodAll_cons t2
  obtain ⟨v4, a4, d4, ds4, p4, q4, ea4, ed4, ep4, h4, t4⟩ := trodAll_cons t3
  obtain ⟨v5, a5, d5, ds5, p5, q5, ea5, ed5, ep5, h5, t5⟩ := trodAll_cons t4
  obtain ⟨en, em, _⟩ := trodAll_nil t5
  subst em
  subst ed5
  subst ed4
  subst ed3
  subst ed2
  subst ed1
  subst ed0
  have hargs := toArr ea0
  rw [ea1, ea2, ea3, ea4, ea5, en] at hargs
  subst hargs
  obtain ⟨rfl, rfl⟩ := trodVars_none hV
  obtain ⟨x0, rfl, x0a⟩ := open3 (hval 0 3 v0 rfl rfl) h0
  obtain ⟨l1, l1a, l1b, l1c⟩ := open22 (hval 1 22 v1 rfl rfl) h1
  obtain ⟨l2, l2a, l2b, l2c⟩ := open22 (hval 2 22 v2 rfl rfl) h2
  obtain ⟨x3, rfl, x3a⟩ := open3 (hval 3 3 v3 rfl rfl) h3
  obtain ⟨x4, rfl, x4a⟩ := open3 (hval 4 3 v4 rfl rfl) h4
  obtain ⟨x5, rfl, x5a⟩ := open3 (hval 5 3 v5 rfl rfl) h5
  clear hA0 hval0
  simp only [List.append_nil] at hW'
  refine (struck_law_ok (W0 := W) x0 v1 v2 l1 l2 x3 x4 x5 x4a x5a l1a l1b l1c l2a l2b l2c W (Sep.start W)).mono ?_
  rintro e W' ⟨v, L', rfl, ⟨rfl, rfl⟩, hs⟩
  have hb := hs.toBelow
  have hlt : ∀ x ∈ p, x.block < W.heap.size := fun x hx => by simpa using hW'.lt x hx
  exact ⟨_, rfl, post_old (pa := p) (pv := []) hW' hb (fun _ _ _ => trodAll_mk1 (shut_bool Try.underlying4 _))
    (fun sp hsp => by rw [Try.params7]; rw [List.append_nil]; exact trodAll_stays ⟨rd3, rd22, rd22, rd3, rd3, rd3, trivial⟩ hA2 (fun x hx => hb.same (hlt x hx)) hsp)
    (fun _ _ => rfl) (by simp) (ok_one (by kernel_rfl) rfl (okWide_bool_mk Try.underlying4 _))⟩

theorem proved : Rows.DiskStruckSaid :=
  OpenClaim.holds_of_wide 7 Try.f7 rfl rfl rfl rfl rfl rfl rfl ⟨rfl, rfl, rfl, rfl, rfl⟩ rfl rfl rfl rfl rfl (by kernel_rfl) Try.func7 (by kernel_rfl)
    (of_decide_eq_true (by kernel_rfl)) (by unfold Func.isWrapper; first | (rw [if_pos (by decide +kernel)]; kernel_rfl) | (rw [if_neg (by decide +kernel)]; exact ⟨rfl, rfl⟩))
    (fun os started H enc _ => lifted os started H enc)
end Go.Proofs.Ytahjgjmemijofaa.diskStruck
