/- Rules for tests whose answer is known, and plain facts on what a disk tells. No statement of the seat is proved here. -/
import Derived.Test.YtahjgjmemijofaaLw3
namespace Go.Proofs.Ytahjgjmemijofaa
open Go Eng
set_option linter.unusedVariables false
set_option linter.unusedSimpArgs false
variable {W0 : World} {I I' : Heap}
section
variable {P : Program} {n : Nat} {l : Env} {L : Heap} {ty : TypeId} {pos : String} {af : Array Edge} {gd : Option (Nat × Bool)} {D : Option Nat} {xt yt : TypeId} {x y : Operand}
theorem Eng.eEqB_same {p : Bool} {a1 a2 : Nat} {z : Option Value} (hx : evo l x = some (.bool p)) (hy : evo l y = some (.bool p)) (ht : tinf P xt = some (.bool, a1, a2, z)) :
    EV P n W0 ⟨D, .binOp .eql xt x y yt, ty, pos, af, gd⟩ l L (.bool true) := by
  have := eEqB (P := P) (n := n) (W0 := W0) (L := L) (D := D) (yt := yt) (ty := ty) (pos := pos) (af := af) (gd := gd) hx hy ht
  rwa [show (p == p) = true by simp] at this
theorem Eng.eNeB_same {p : Bool} {a1 a2 : Nat} {z : Option Value} (hx : evo l x = some (.bool p)) (hy : evo l y = some (.bool p)) (ht : tinf P xt = some (.bool, a1, a2, z)) :
    EV P n W0 ⟨D, .binOp .neq xt x y yt, ty, pos, af, gd⟩ l L (.bool false) := by
  have := eNeB (P := P) (n := n) (W0 := W0) (L := L) (D := D) (yt := yt) (ty := ty) (pos := pos) (af := af) (gd := gd) hx hy ht
  rwa [show (p != p) = false by simp] at this
theorem Eng.eEqKb {p q : Nm} {r : Bool} (hx : evo l x = some (strK p)) (hy : evo l y = some (strK q)) (hr : decide (p = q) = r) :
    EV P n W0 ⟨D, .binOp .eql xt x y yt, ty, pos, af, gd⟩ l L (.bool r) := hr ▸ eEqK hx hy
theorem Eng.eNeKb {p q : Nm} {r : Bool} (hx : evo l x = some (strK p)) (hy : evo l y = some (strK q)) (hr : decide (p = q) = r) :
    EV P n W0 ⟨D, .binOp .neq xt x y yt, ty, pos, af, gd⟩ l L (.bool !r) := by
  have h := eNeK (P := P) (n := n) (W0 := W0) (L := L) (D := D) (ty := ty) (pos := pos) (af := af) (gd := gd) (xt := xt) (yt := yt) hx hy
  rwa [show decide (p ≠ q) = !r by rw [← hr]; by_cases h : p = q <;> simp [h]] at h
end
theorem beq_same (u v : Value) (a : List Int) (R : Heap) (hu : Rs W0 R u 1 a.length (byteV a)) (hv : Rs W0 R v 1 a.length (byteV a)) (ha : IsB a) :
    FnC W0 Try.prog 19 #[u, v] R (fun v' L' => v' = .bool true ∧ L' = R) := by
  have := beq_ok u v a a R hu hv ha ha
  simpa using this

theorem read_code (d : DK) (k : Nm) : (d.read k).2 = d.find k := by
  unfold DK.read
  split
  · rename_i h; exact h.symm
  · rfl
theorem find_on {d : DK} (ho : d.off = false) (k : Nm) : d.find k = if may k = false then 20 else if (fget d.seen k).isNone then 21 else 0 := by
  unfold DK.find; rw [ho]; rfl
theorem find_here {d : DK} (ho : d.off = false) {k : Nm} (hm : may k = true) {b : List Int} (hg : fget d.seen k = some b) : d.find k = 0 := by
  rw [find_on ho, hm, hg]; rfl
theorem find_away {d : DK} (ho : d.off = false) {k : Nm} (hm : may k = true) (hg : fget d.seen k = none) : d.find k = 21 := by
  rw [find_on ho, hm, hg]; rfl
theorem find_bad {d : DK} (ho : d.off = false) {k : Nm} (hm : may k = false) : d.find k = 20 := by
  rw [find_on ho, hm]; rfl
theorem names_on {d : DK} (ho : d.off = false) : d.names = d.seen.map (·.1) := by unfold DK.names; rw [ho]; rfl
theorem names_len {d : DK} (ho : d.off = false) : d.names.length = d.seen.length := by rw [names_on ho]; simp
theorem read_here {d : DK} (ho : d.off = false) {k : Nm} (hm : may k = true) {b : List Int} (hg : fget d.seen k = some b) : d.read k = (b, 0) := by
  unfold DK.read
  rw [if_pos (find_here ho hm hg)]
  unfold fgetD
  rw [hg]; rfl
theorem read_away {d : DK} {k : Nm} (hf : d.find k ≠ 0) : d.read k = ([], d.find k) := by
  unfold DK.read; rw [if_neg hf]
theorem find_cases {d : DK} (ho : d.off = false) (k : Nm) : (may k = false ∧ d.find k = 20) ∨ (may k = true ∧ fget d.seen k = none ∧ d.find k = 21) ∨ (may k = true ∧ ∃ b, fget d.seen k = some b ∧ d.find k = 0) := by
  cases hm : may k with
  | false => exact .inl ⟨rfl, find_bad ho hm⟩
  | true =>
    cases hg : fget d.seen k with
    | none => exact .inr (.inl ⟨rfl, rfl, find_away ho hm hg⟩)
    | some b => exact .inr (.inr ⟨rfl, b, rfl, find_here ho hm hg⟩)

/-- a disk that is on and not armed -/
def Calm (d : DK) : Prop := d.off = false ∧ d.left = 0
theorem calm_of (d : DK) : Calm ((d.start.2).arm 0 0 0).2 := by
  unfold DK.arm
  rw [if_neg (by simp [DK.start])]
  exact ⟨rfl, rfl⟩
theorem Calm.act {d : DK} (h : Calm d) (a : Act) : d.act a = (0, (d.add a).less) ∧ Calm (d.add a).less := by
  unfold DK.act
  rw [if_neg (by rw [h.2]; decide)]
  exact ⟨rfl, h.1, by show (if d.left = 0 then 0 else d.left - 1) = 0; rw [h.2]; rfl⟩
theorem less_seen (d : DK) : d.less.seen = d.seen := rfl
theorem add_seen (d : DK) (a : Act) : (d.add a).less.seen = fdo d.seen a := rfl

theorem arm_acts (d : DK) (n k t : Int) : ((d.start.2).arm n k t).2.acts = d.acts := by
  unfold DK.arm
  rw [if_neg (by simp [DK.start])]; rfl
theorem short_len {l : List Do} (h : short l = true) : l.length ≤ 120 := by
  unfold short at h
  simp at h
  exact h.1
theorem names_le {d : DK} (h : DOk d) : d.names.length ≤ 4096 := by
  have := h.snum
  unfold DK.names
  split <;> simp; omega

/-! ### moves -/
theorem move_seen (l : Files) (old name : Nm) : fdo l ⟨2, old, name, 0, []⟩ = fwith (fless l old) name (fgetD l old) := rfl
theorem move_err {d : DK} {k j : Nm} (h : d.find k ≠ 0) : d.move k j = (d.find k, d) := by unfold DK.move; rw [if_pos h]
theorem move_bad {d : DK} {k j : Nm} (h : d.find k = 0) (hj : may j = false) : d.move k j = (20, d) := by unfold DK.move; rw [if_neg (by omega), if_pos hj]
theorem move_go {d : DK} {k j : Nm} (h : d.find k = 0) (hj : may j = true) : d.move k j = d.act ⟨2, k, j, 0, []⟩ := by unfold DK.move; rw [if_neg (by omega), if_neg (by simp [hj])]

theorem moves_law {d : DK} (hd : DOk d) (hc : Calm d) (old name : Nm) :
    (d.find old ≠ 0 → (d.move old name).1 = d.find old ∧ (d.move old name).2 = d) ∧
    (d.find old = 0 → (d.move old name).1 ≠ 0 → (d.move old name).1 = 20 ∧ d.find name = 20 ∧ (d.move old name).2 = d) ∧
    (d.find old = 0 → (d.move old name).1 = 0 → (d.move old name).2.read name = ((d.read old).1, 0) ∧ (old ≠ name → (d.move old name).2.find old = 21) ∧
      (old = name → (d.move old name).2.names.length = d.names.length) ∧ (old ≠ name → d.find name = 0 → (d.move old name).2.names.length + 1 = d.names.length) ∧ (old ≠ name → d.find name ≠ 0 → (d.move old name).2.names.length = d.names.length)) := by
  refine ⟨fun h => by rw [move_err h]; exact ⟨rfl, rfl⟩, fun h h1 => ?_, fun h h1 => ?_⟩
  · cases hm : may name with
    | false => rw [move_bad h hm]; exact ⟨rfl, find_bad hc.1 hm, rfl⟩
    | true => rw [move_go h hm, (hc.act _).1] at h1; exact absurd rfl h1
  · cases hm : may name with
    | false => rw [move_bad h hm] at h1; cases h1
    | true =>
      obtain ⟨_, hmo, b, hb⟩ := find_zero h
      obtain ⟨e1, e2⟩ := hc.act ⟨2, old, name, 0, []⟩
      have hgd : fgetD d.seen old = b := by unfold fgetD; rw [hb]; rfl
      rw [move_go h hm, e1]
      have hseen : (d.add ⟨2, old, name, 0, []⟩).less.seen = fwith (fless d.seen old) name b := by rw [add_seen, move_seen, hgd]
      have hro : (d.read old) = (b, 0) := read_here hc.1 hmo hb
      show ((d.add ⟨2, old, name, 0, []⟩).less).read name = _ ∧ _
      have hlen := len_less hd.rs hb
      refine ⟨?_, fun hne => ?_, fun he => ?_, fun hne h2 => ?_, fun hne h2 => ?_⟩
      · rw [hro]
        exact read_here e2.1 hm (by rw [hseen, fget_with]; simp)
      · refine find_away e2.1 hmo ?_
        rw [hseen, fget_with, if_neg (Ne.symm hne), fget_less]; simp
      · subst he
        show (DK.names _).length = _
        rw [names_len e2.1, names_len hc.1, hseen, len_with, less_none (by rw [fget_less]; simp), hlen]
      · obtain ⟨_, _, c, hcn⟩ := find_zero h2
        have h3 : fget (fless d.seen old) name = some c := by rw [fget_less, if_neg hne, hcn]
        have h4 := len_less (hd.rs.less old) h3
        show (DK.names _).length + 1 = _
        rw [names_len e2.1, names_len hc.1, hseen, len_with, hlen]; omega
      · have h3 : fget (fless d.seen old) name = none := by
          rw [fget_less, if_neg hne]
          rcases find_cases hc.1 name with ⟨h5, _⟩ | ⟨_, h5, _⟩ | ⟨_, _, _, h5⟩
          · rw [hm] at h5; cases h5
          · exact h5
          · exact absurd h5 h2
        show (DK.names _).length = _
        rw [names_len e2.1, names_len hc.1, hseen, len_with, less_none h3, hlen]
end Go.Proofs.Ytahjgjmemijofaa
