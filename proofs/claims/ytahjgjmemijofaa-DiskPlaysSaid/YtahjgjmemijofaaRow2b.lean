/- What the rows of this seat share: the post where nothing handed in has turned, for any number of arguments. No statement of the seat is proved here. -/
import Derived.Test.YtahjgjmemijofaaRow02
namespace Go.Proofs.Ytahjgjmemijofaa
open Go Eng Go.ChangeShapes Go.WideShapes Go.ChangeAt Go.RowKit
set_option linter.unusedVariables false
set_option linter.unusedSimpArgs false
set_option maxRecDepth 100000

def RdB : List TypeId → Prop
  | [] => True
  | t :: ts => (Try.prog.readableRec t = true ∧ decide (t < Try.prog.types.size) = true) ∧ RdB ts
theorem trodAll_stays {H : Type} {enc : TypeId × Value → H} {W W' : World} {sp' : Nat → Bool} : ∀ {ts : List TypeId} {vs : List Value} {ds : List (DataW H)} {ps : List MemPlace}, RdB ts →
    DataW.TrodAll enc Try.prog W 0 (fun _ => true) true ts vs ds ps → (∀ x ∈ ps, W.sameAt W' x) → (∀ x ∈ ps, sp' x.block = true) → DataW.TrodAll enc Try.prog W' 0 sp' true ts vs ds ps := by
  intro ts
  induction ts with
  | nil =>
    intro vs ds ps _ h _ _
    obtain ⟨rfl, rfl, rfl⟩ := trodAll_nil h
    exact trodAll_mk0
  | cons t ts ih =>
    intro vs ds ps hr h hs hp
    obtain ⟨v, vs', d, ds', p, q, rfl, rfl, rfl, hd, hrest⟩ := trodAll_cons h
    exact ⟨p, q, WideElems.Trod_stays laid02 hr.1.1 (of_decide_eq_true hr.1.2) hd (fun x hx => hs x (List.mem_append_left _ hx)) (fun x hx => hp x (List.mem_append_left _ hx)), ih hr.2 hrest (fun x hx => hs x (List.mem_append_right _ hx)) (fun x hx => hp x (List.mem_append_right _ hx)), rfl⟩
theorem toArr {args : Array Value} {l : List Value} (h : args.toList = l) : args = l.toArray := by rw [← h]
theorem rd3 : Try.prog.readableRec 3 = true ∧ decide (3 < Try.prog.types.size) = true := ⟨by kernel_rfl, by kernel_rfl⟩
theorem rd9 : Try.prog.readableRec 9 = true ∧ decide (9 < Try.prog.types.size) = true := ⟨by kernel_rfl, by kernel_rfl⟩
theorem rd22 : Try.prog.readableRec 22 = true ∧ decide (22 < Try.prog.types.size) = true := ⟨by kernel_rfl, by kernel_rfl⟩
theorem rd39 : Try.prog.readableRec 39 = true ∧ decide (39 < Try.prog.types.size) = true := ⟨by kernel_rfl, by kernel_rfl⟩
end Go.Proofs.Ytahjgjmemijofaa
