/- 'slices.Sorted(maps.Keys(m))' at a map whose keys are ints: the keys, sorted, in a slice of the call's own. -/
import Derived.Test.YtbppeijcfkdhjaaMem
import Derived.Test.YtbppeijcfkdhjaaIter
import Derived.WalkKit
import Derived.OwnWalkIn
import Derived.TacticsInMore
import Derived.Shelf.RegionOpen
namespace Go.Proofs.Ytbppeijcfkdhjaa.Eng
open Go Go.RowKit Go.Maps Go.Sort Go.Shelf
set_option linter.unusedVariables false

/-- a map's keys are apart, its births too -/
def MOk {α : Type} (m : List (Int × α × Nat)) (clk : Nat) : Prop :=
  (∀ e ∈ m, e.2.2 < clk) ∧ (m.map (·.2.2)).Nodup ∧ (m.map (·.1)).Nodup ∧ (∀ e ∈ m, -9223372036854775808 ≤ e.1 ∧ e.1 < 9223372036854775808) ∧ m.length ≤ 1099511627776

def mkeys {α : Type} (m : List (Int × α × Nat)) : List Int := (m.map (·.1)).mergeSort (fun x y => decide (x ≤ y))

theorem wf_of_range {x : Int} (h : -9223372036854775808 ≤ x ∧ x < 9223372036854775808) : (Lit.int .i64 x).wf = true := by
  simp [Lit.wf, IntKind.min, IntKind.max, IntKind.signed, IntKind.bits]; omega

def dB : DataW Unit := .lit (.bool true)
def rB : Value → Option (DataW Unit × List MemPlace) := fun _ => some (dB, [])

theorem mp_owns {α : Type} {P : Program} {kt : TypeId} (hk : P.underlying kt = some (.int .i64)) {ve : α → Value} {m : List (Int × α × Nat)} {clk : Nat} (hm : MOk m clk) {w : World} {b : Nat} (hb : w.heap[b]? = some (mp intKey ve m clk)) :
    ∃ D : DataW Unit, w.ownsMap P kt rB b m.length D ∧ (intKeys D).Perm (m.map (·.1)) ∧ Maps.size D = m.length := by
  obtain ⟨h1, h2, h3, h4, h5⟩ := hm
  have hrd : ∀ e ∈ m, Go.WideElems.rd P kt rB { key := intKey e.1, val := ve e.2.1, born := e.2.2 } = some (Lit.int .i64 e.1, dB) := by
    intro e he
    exact Go.WideElems.rd_mk (R := rB) (yv := (dB, [])) (Go.Maps.keyOf_int_mk hk (wf_of_range (h4 e he))) rfl
  have hl : (mpL intKey ve m).map (Go.WideElems.rg P kt rB) = m.map (fun e => (Lit.int .i64 e.1, dB)) := by
    simp only [mpL, List.map_map]
    apply List.map_congr_left
    intro e he
    exact Go.WideElems.rg_of (hrd e he)
  refine ⟨.map (((mpL intKey ve m).map (Go.WideElems.rg P kt rB)).foldr DataW.insert []), ⟨(mpL intKey ve m).toArray, clk, hb, ⟨?_, ⟨?_, ?_, ?_⟩, ?_⟩, ?_, rfl⟩, ?_, ?_⟩
  · simp [mpL, maxLen]; omega
  · intro x hx
    simp only [mpL, List.mem_map] at hx
    obtain ⟨e, he, rfl⟩ := hx
    exact h1 e he
  · simpa [mpL, List.map_map, Function.comp_def] using h2
  · have : ((mpL intKey ve m).map (·.key)) = (m.map (·.1)).map intKey := by simp [mpL, List.map_map, Function.comp_def]
    show ((mpL intKey ve m).map (·.key)).Nodup
    rw [this]
    exact List.Pairwise.map _ (fun a b hab e => hab (by simpa [intKey] using e)) h3
  · intro x hx
    simp only [mpL, List.mem_map] at hx
    obtain ⟨e, he, rfl⟩ := hx
    exact ⟨_, hrd e he⟩
  · simp [mpL]
  · rw [hl]
    have hp := Go.WideShapes.sorted_perm (m.map (fun e => (Lit.int .i64 e.1, dB)))
    show ((List.foldr DataW.insert [] _).map _).Perm _
    refine (hp.map _).trans ?_
    rw [List.map_map]
    exact List.Perm.of_eq (List.map_congr_left fun e he => rfl)
  · rw [hl]
    have hp := Go.WideShapes.sorted_perm (m.map (fun e => (Lit.int .i64 e.1, dB)))
    show (List.foldr DataW.insert [] _).length = _
    rw [hp.length_eq]; simp

theorem sorts_in (m : Nat) : AnyZI.SortsIn Try.prog Try.sortedA_ren Fence.wide m :=
  ⟨fun blk off cap ss W hH hblk hsz => callsIn_wide.2 (Go.Proofs.Try.slices_Sort_int blk off cap ss W hH hblk hsz),
   fun p cap W => callsIn_wide.2 (Go.Proofs.Try.slices_Sort_int_none p cap W)⟩

set_option maxHeartbeats 1000000 in
theorem rising_calls {H : Type} (b nn : Nat) (D0 : DataW H) (R : Value → Option (DataW H × List MemPlace)) (w : World) (hown : w.ownsMap Try.prog 3 R b nn D0) (hmax : Maps.size D0 ≤ maxLen) (hbytes : Maps.size D0 * 8 ≤ 140737488355328) :
    Calls Try.prog 29 #[.map (some b)] w fun e w' => ∃ (v : Value) (ss : List Int), e = .returned v ∧ ss.Perm (intKeys D0) ∧
      w'.ownsRow w.heap.size 3 1 v ss.length ((ss.mergeSort (fun x y => decide (x ≤ y))).map encZ) ∧ (v = .slice none 0 0 ↔ ss = []) ∧ Below w.heap.size w w' := by
  refine (callsIn_wide (n := 6)).1 ?_
  have hbl := hown.lt
  have hseq : SeqGives Fence.wide 2 Try.prog 59 #[.pointer (some ⟨w.heap.size, 0, none⟩)] encZ (fun ss => ss.Perm (intKeys D0)) (Maps.size D0) (w.alloc (.cells #[.map (some b)] 43)) :=
    AnyZI.keys_gives (ρ := Try.keysA_ren) { Try.keysA with } Fence.wide _ trivial rfl (by omega) w.heap.size b nn D0 _ (by simp) (by simp) (by
      obtain ⟨es, clock, hb, Ft, hs, hD⟩ := hown
      exact ⟨es, clock, (Below.heap_alloc _ _ b hbl).trans hb, Ft, hs, hD⟩)
  have cK : ∀ mb W, CallsIn Fence.wide 5 Try.prog 47 #[.map mb] W fun e w' => e = .returned (.func (.func 59) #[] #[.pointer (some ⟨W.heap.size, 0, none⟩)]) ∧ w' = W.alloc (.cells #[.map mb] 43) := fun mb W => AnyZI.keys_in Try.keysA Fence.wide 5 trivial rfl mb W
  have cS := AnyZI.sorted_in Try.sortedA Fence.wide 5 trivial trivial trivial trivial rfl (by omega) (sorts_in _) (enters_of Try.func58 (by kernel_rfl) rfl) 59 #[.pointer (some ⟨w.heap.size, 0, none⟩)] trivial (enters_of Try.func59 (by kernel_rfl) rfl) _ _ hmax hbytes _ hseq
  change CallsIn _ _ Try.prog 46 _ _ _ at cS
  have hfK : Fence.wide.fn 47 := trivial
  have hfS : Fence.wide.fn 46 := trivial
  refine callsIn_of_wp Try.func29 rfl trivial ?_ rfl
  simp only [Try.ntmps29, List.size_toArray, List.length_cons, List.length_nil, Nat.reduceAdd, Nat.reduceSub, Array.replicate_succ, Array.replicate_zero, List.push_toArray, List.append_toArray, List.nil_append, List.cons_append]
  gi_wp2_with (first
    | (gi_at_call 47; refine (cK _ _).mono ?_; rintro e w' ⟨rfl, rfl⟩)
    | (gi_at_call 46; refine cS.mono ?_; rintro e w' ⟨v, ss, rfl, hS, hrow, hnil, hb⟩))
  go_ret
  exact ⟨v, ss, rfl, hS, ownsRow_base_a hrow (by simp), hnil, ((Below.refl _ w).alloc (Nat.le_refl _) _).trans (hb.mono (by simp))⟩

/-- what lies below the new blocks is as it was -/
theorem Sep.below {W0 w w' : World} {L : Heap} (h : Sep W0 w L) (hb : Below w.heap.size w w') : Sep W0 w' L := by
  have hsz := h.size
  refine ⟨hb.os.trans h.os, hb.tape.trans h.tape, hb.output.trans h.output, Nat.le_trans h.size hb.size, fun b hlt => (hb.block b (by omega)).trans (h.old b hlt), ?_, h.nodup⟩
  intro p hp
  have h2 := (h.has p hp).2
  exact ⟨(h.has p hp).1, (hb.block p.1 (Array.getElem?_eq_some_iff.1 h2).1).trans h2⟩
theorem Sep.belowRow {W0 w w' : World} {L : Heap} (h : Sep W0 w L) (hb : Below w.heap.size w w') {v : Value} {e : TypeId} {sz k : Nat} {xs : List Value} (hr : w'.ownsRow w.heap.size e sz v k xs) :
    ∃ cs, Row v cs sz k xs ∧ Sep W0 w' (ownH v cs e ++ L) := by
  have hs := h.below hb
  obtain ⟨hl, hn | ⟨g, cap, cur, rfl, hg, hh, h1, h2, h3, h4⟩⟩ := hr
  · obtain ⟨rfl, rfl⟩ := hn
    exact ⟨#[], ⟨hl, .inl ⟨rfl, rfl⟩⟩, hs⟩
  · refine ⟨cur, ⟨hl, .inr ⟨g, cap, rfl, h1, h3, h4⟩⟩, ⟨hs.os, hs.tape, hs.output, hs.size, hs.old, ?_, ?_⟩⟩
    · intro p hp
      cases List.mem_cons.1 hp with
      | inl e => subst e; exact ⟨Nat.le_trans h.size hg, hh⟩
      | inr e => exact hs.has p e
    · show (g :: L.map Prod.fst).Nodup
      rw [List.nodup_cons]
      refine ⟨fun hm => ?_, hs.nodup⟩
      obtain ⟨p, hp1, hp2⟩ := List.mem_map.1 hm
      have := (Array.getElem?_eq_some_iff.1 (h.has p hp1).2).1
      omega

theorem mkeys_of_perm {α : Type} {m : List (Int × α × Nat)} {ss : List Int} (h : ss.Perm (m.map (·.1))) : ss.mergeSort (fun x y => decide (x ≤ y)) = mkeys m := mergeSort_of_perm_i h

theorem rising_ok {W0 : World} {α : Type} {ve : α → Value} {m : List (Int × α × Nat)} {clk : Nat} (hm : MOk m clk) (b : Nat) (R : Heap) :
    FnC W0 Try.prog 29 #[.map (some b)] ((b, mp intKey ve m clk) :: R) (fun v L' => ∃ cs, Row v cs 1 (mkeys m).length ((mkeys m).map encZ) ∧ L' = ownH v cs 3 ++ ((b, mp intKey ve m clk) :: R)) := by
  intro w hs
  obtain ⟨D, hown, hperm, hsize⟩ := mp_owns (P := Try.prog) (kt := 3) Try.underlying3 hm (hs.get Has.h)
  have hlen := hm.2.2.2.2
  refine (rising_calls b _ D _ w hown (by rw [hsize]; simp [maxLen]; omega) (by rw [hsize]; omega)).mono ?_
  rintro e w' ⟨v, ss, rfl, hS, hrow, hnil, hb⟩
  have hk : ss.mergeSort (fun x y => decide (x ≤ y)) = mkeys m := mkeys_of_perm (hS.trans hperm)
  have hkl : ss.length = (mkeys m).length := by rw [← hk, List.length_mergeSort]
  rw [hk, hkl] at hrow
  obtain ⟨cs, h1, h2⟩ := hs.belowRow hb hrow
  exact ⟨v, _, rfl, ⟨cs, h1, rfl⟩, h2⟩
end Go.Proofs.Ytbppeijcfkdhjaa.Eng
