/- 'slices.Sorted(maps.Keys(m))' at a map whose keys are strings: the keys, sorted, in a slice of the call's own. -/
import Derived.Test.YtahjgjmemijofaaMapS
import Derived.Test.YtahjgjmemijofaaIter
import Derived.WalkKit
import Derived.OwnWalkIn
import Derived.TacticsInMore
import Derived.Shelf.RegionOpen
namespace Go.Proofs.Ytahjgjmemijofaa.Eng
open Go Go.RowKit Go.Maps Go.Sort Go.Shelf
set_option linter.unusedVariables false

def dB : DataW Unit := .lit (.bool true)
def rB : Value → Option (DataW Unit × List MemPlace) := fun _ => some (dB, [])

theorem mp_owns {α : Type} {P : Program} {kt : TypeId} (hk : P.underlying kt = some .string) {ve : α → Value} {m : List (Nm × α × Nat)} {clk : Nat} (hm : MOkS m clk) {w : World} {b : Nat} (hb : w.heap[b]? = some (mp strK ve m clk)) :
    ∃ D : DataW Unit, w.ownsMap P kt rB b m.length D ∧ (strKeys D).Perm (m.map (·.1)) ∧ Maps.size D = m.length := by
  obtain ⟨h1, h2, h3, h4, h5⟩ := hm
  have hrd : ∀ e ∈ m, Go.WideElems.rd P kt rB { key := strK e.1, val := ve e.2.1, born := e.2.2 } = some (Lit.string e.1, dB) := by
    intro e he
    have h6 := h4 e he
    have h7 : (⟨e.1.toArray⟩ : ByteArray).size ≤ maxLen := by
      show e.1.toArray.size ≤ maxLen
      simp [maxLen]; omega
    exact Go.WideElems.rd_mk (R := rB) (yv := (dB, [])) (Go.WideMaps.keyOf_string_mk hk h7) rfl
  have hl : (mpL strK ve m).map (Go.WideElems.rg P kt rB) = m.map (fun e => (Lit.string e.1, dB)) := by
    simp only [mpL, List.map_map]
    apply List.map_congr_left
    intro e he
    exact Go.WideElems.rg_of (hrd e he)
  refine ⟨.map (((mpL strK ve m).map (Go.WideElems.rg P kt rB)).foldr DataW.insert []), ⟨(mpL strK ve m).toArray, clk, hb, ⟨?_, ⟨?_, ?_, ?_⟩, ?_⟩, ?_, rfl⟩, ?_, ?_⟩
  · simp [mpL, maxLen]; omega
  · intro x hx
    simp only [mpL, List.mem_map] at hx
    obtain ⟨e, he, rfl⟩ := hx
    exact h1 e he
  · simpa [mpL, List.map_map, Function.comp_def] using h2
  · have : ((mpL strK ve m).map (·.key)) = (m.map (·.1)).map strK := by simp [mpL, List.map_map, Function.comp_def]
    show ((mpL strK ve m).map (·.key)).Nodup
    rw [this]
    exact List.Pairwise.map _ (fun a b hab e => hab (encStr_inj e)) h3
  · intro x hx
    simp only [mpL, List.mem_map] at hx
    obtain ⟨e, he, rfl⟩ := hx
    exact ⟨_, hrd e he⟩
  · simp [mpL]
  · rw [hl]
    have hp := Go.WideShapes.sorted_perm (m.map (fun e => (Lit.string e.1, dB)))
    show ((List.foldr DataW.insert [] _).map _).Perm _
    refine (hp.map _).trans ?_
    rw [List.map_map]
    exact List.Perm.of_eq (List.map_congr_left fun e he => rfl)
  · rw [hl]
    have hp := Go.WideShapes.sorted_perm (m.map (fun e => (Lit.string e.1, dB)))
    show (List.foldr DataW.insert [] _).length = _
    rw [hp.length_eq]; simp

theorem sorts_in (m : Nat) : AnyZ.SortsIn Try.prog Try.sorted45_ren Fence.wide m :=
  ⟨fun blk off cap ss W hH hblk hsz => callsIn_wide.2 (AnyM.slices_Sort_string Try.sort69 blk off cap ss W hH hblk hsz),
   fun p cap W => callsIn_wide.2 (AnyM.slices_Sort_string_none Try.sort69 p cap W)⟩

set_option maxHeartbeats 1000000 in
theorem sorted_calls {H : Type} (b nn pb : Nat) (D0 : DataW H) (R : Value → Option (DataW H × List MemPlace)) (w : World) (hown : w.ownsMap Try.prog 9 R b nn D0) (hmax : Maps.size D0 ≤ maxLen) (hbytes : Maps.size D0 * 16 ≤ 140737488355328)
    (hpb : w.heap[pb]? = some (.cells #[.map (some b)] 49 (0, 0))) :
    Calls Try.prog 45 #[.func (.func 70) #[] #[.pointer (some ⟨pb, 0, none⟩)]] w fun e w' => ∃ (v : Value) (ss : List (List UInt8)), e = .returned v ∧ ss.Perm (strKeys D0) ∧
      w'.ownsRow w.heap.size 9 1 v ss.length ((ss.mergeSort (fun x y => decide (x ≤ y))).map encStr) ∧ (v = .slice none 0 0 ↔ ss = []) ∧ Below w.heap.size w w' := by
  refine (callsIn_wide (n := 5)).1 ?_
  have hpl : pb < w.heap.size := (Array.getElem?_eq_some_iff.1 hpb).1
  have hseq : SeqGives Fence.wide 2 Try.prog 70 #[.pointer (some ⟨pb, 0, none⟩)] encStr (fun ss => ss.Perm (strKeys D0)) (Maps.size D0) w :=
    AnyZ.keys_gives (ρ := Try.keys46_ren) { Try.keys46 with } Fence.wide _ trivial rfl (by omega) pb b nn D0 _ hpl (by simp [World.cell?, hpb]) hown
  exact AnyZ.sorted_in Try.sorted45 Fence.wide 5 trivial trivial trivial trivial rfl (by omega) (sorts_in _) (enters_of Try.func69 (by kernel_rfl) rfl) 70 #[.pointer (some ⟨pb, 0, none⟩)] trivial (enters_of Try.func70 (by kernel_rfl) rfl) _ _ hmax hbytes _ hseq

/-- what lies below the new blocks is as it was -/
theorem Sep.below {W0 w w' : World} {L : Heap} (h : Sep W0 w L) (hb : Below w.heap.size w w') : Sep W0 w' L := by
  have hsz := h.size
  refine ⟨hb.os.trans h.os, hb.tape.trans h.tape, hb.output.trans h.output, Nat.le_trans h.size hb.size, fun b hlt => (hb.block b (by omega)).trans (h.old b hlt), ?_, h.nodup⟩
  intro p hp
  have h2 := (h.has p hp).2
  exact ⟨(h.has p hp).1, (hb.block p.1 (Array.getElem?_eq_some_iff.1 h2).1).trans h2⟩
theorem Sep.belowRow {W0 w w' : World} {L : Heap} (h : Sep W0 w L) (hb : Below w.heap.size w w') {v : Value} {e : TypeId} {sz k : Nat} {xs : List Value} (hr : w'.ownsRow w.heap.size e sz v k xs) :
    ∃ cs, Row v cs sz k xs ∧ Sep W0 w' (ownH v cs e ++ L) := by
  have hs := h.below hb
  obtain ⟨hl, hn | ⟨g, cap, cur, rfl, hg, hh, h1, h2, h3, h4⟩⟩ := hr
  · obtain ⟨rfl, rfl⟩ := hn
    exact ⟨#[], ⟨hl, .inl ⟨rfl, rfl⟩⟩, hs⟩
  · refine ⟨cur, ⟨hl, .inr ⟨g, cap, rfl, h1, h3, h4⟩⟩, ⟨hs.os, hs.tape, hs.output, hs.size, hs.old, ?_, ?_⟩⟩
    · intro p hp
      cases List.mem_cons.1 hp with
      | inl e => subst e; exact ⟨Nat.le_trans h.size hg, hh⟩
      | inr e => exact hs.has p e
    · show (g :: L.map Prod.fst).Nodup
      rw [List.nodup_cons]
      refine ⟨fun hm => ?_, hs.nodup⟩
      obtain ⟨p, hp1, hp2⟩ := List.mem_map.1 hm
      have := (Array.getElem?_eq_some_iff.1 (h.has p hp1).2).1
      omega
end Go.Proofs.Ytahjgjmemijofaa.Eng
namespace Go.Proofs.Ytahjgjmemijofaa
open Go Eng
variable {W0 : World}

theorem keys_ok (r : Nat) (R : Heap) : FnC W0 Try.prog 46 #[.map (some r)] R (fun v L' => ∃ b, v = .func (.func 70) #[] #[.pointer (some ⟨b, 0, none⟩)] ∧ L' = (b, .cells #[.map (some r)] 49 (0, 0)) :: R) := by
  intro w hs
  refine ((callsIn_wide (n := 5)).1 (AnyZ.keys_in Try.keys46 Fence.wide 5 trivial rfl (some r) w)).mono ?_
  rintro e w' ⟨rfl, rfl⟩
  exact ⟨_, _, rfl, ⟨_, rfl, rfl⟩, hs.alloc _⟩

theorem sorted_ok {I : Heap} {m : TMap} {clk : Nat} {l : Files} (hT : Tab W0 I m clk l) (hl : l.length ≤ 1099511627776) (r b : Nat) (R : Heap) :
    FnC W0 Try.prog 45 #[.func (.func 70) #[] #[.pointer (some ⟨b, 0, none⟩)]] ((b, .cells #[.map (some r)] 49 (0, 0)) :: tC r m clk :: R)
      (fun v L' => ∃ cs, Row v cs 1 l.length (l.map fun e => strK e.1) ∧ L' = ownH v cs 9 ++ ((b, .cells #[.map (some r)] 49 (0, 0)) :: tC r m clk :: R)) := by
  intro w hs
  obtain ⟨D, hown, hperm, hsize⟩ := mp_owns (P := Try.prog) (kt := 9) Try.underlying9 hT.ok (hs.get (Has.t Has.h))
  have hlen := hT.len
  refine (sorted_calls r _ b D _ w hown (by rw [hsize]; simp [maxLen]; omega) (by rw [hsize]; omega) (hs.get Has.h)).mono ?_
  rintro e w' ⟨v, ss, rfl, hS, hrow, hnil, hb⟩
  have hk : ss.mergeSort (fun x y => decide (x ≤ y)) = l.map (·.1) := by
    rw [← hT.names]; exact Go.mergeSort_of_perm (hS.trans hperm)
  have hkl : ss.length = l.length := by
    have := congrArg List.length hk
    rw [List.length_mergeSort] at this
    simpa using this
  rw [hk, hkl, List.map_map] at hrow
  obtain ⟨cs, h1, h2⟩ := hs.belowRow hb hrow
  exact ⟨v, _, rfl, ⟨cs, h1, rfl⟩, h2⟩
end Go.Proofs.Ytahjgjmemijofaa
