/- The contract of the reference's Load, and of slices.Clone over bytes. -/
import Derived.Test.YtbppeijcfkdhjaaRScan
import Derived.Test.YtbppeijcfkdhjaaRef4
import Derived.Test.YtbppeijcfkdhjaaOps6
namespace Go.Proofs.Ytbppeijcfkdhjaa
open Go Eng
set_option linter.unusedVariables false
set_option maxRecDepth 4000
variable {W0 : World}

theorem bclone_ok (v : Value) (B : List Int) (R : Heap) (hv : Rs W0 R v 1 B.length (byteV B)) (hl : B.length ≤ 35184372088832) :
    FnC W0 Try.prog 26 #[v] R (fun v' L' => ∃ cs, Row v' cs 1 B.length (byteV B) ∧ L' = ownH v' cs 5 ++ R) := by
  obtain ⟨ad, k0, c0, rfl⟩ := hv.isSlice
  cases ad with
  | none =>
    have h0 : B = [] := by
      rcases hv.2 with ⟨h, _⟩ | ⟨b, off, cap, h, _⟩
      · exact List.eq_nil_of_length_eq_zero h
      · cases h
    subst h0
    refine fn_of Try.func26 rfl Try.ntmps26 rfl rfl ?_
    refine wc_seq ?_
    refine wc_region ?_
    refine wl rfl (OP.ev rfl rfl (eAs rfl) ?_)
    refine wl_nil ?_
    refine wc_seq ?_
    refine wc_seq ?_
    refine wc_region ?_
    refine wl rfl (OP.ev rfl rfl (eMv rfl) ?_)
    first | refine wl rfl (OP.ev rfl rfl (eEqS0 rfl rfl ty49) ?_) | refine wl rfl (OP.ev rfl rfl (eEqS1 rfl rfl ty49) ?_)
    refine wl_nil ?_
    refine wc_then rfl ?_
    refine wc_seq ?_
    refine wc_region ?_
    refine wl rfl (OP.ev rfl rfl (eAs rfl) ?_)
    refine wl_nil ?_
    refine wc_ret ?_
    apply at_ret rfl
    · exact (.cons (.tmp rfl) .nil)
    · exact ⟨#[], Row.nil _ _, rfl⟩
    · exact (by repeat (first | exact Sel.all | exact Sel.none | (apply Sel.one; · repeat (first | exact Pick.h | apply Pick.t | apply Pick.app)) | apply Sel.app | (with_reducible apply Sel.grp; · repeat (first | exact PickF.h | apply PickF.t | apply PickF.a)) | (with_reducible refine Sel.nilF (by with_unfolding_all rfl) ?_) | apply Sel.drop | apply Sel.dropF))
  | some ad =>
    refine fn_of Try.func26 rfl Try.ntmps26 rfl rfl ?_
    refine wc_seq ?_
    refine wc_region ?_
    refine wl rfl (OP.ev rfl rfl (eAs rfl) ?_)
    refine wl_nil ?_
    refine wc_seq ?_
    refine wc_seq ?_
    refine wc_region ?_
    refine wl rfl (OP.ev rfl rfl (eMv rfl) ?_)
    first | refine wl rfl (OP.ev rfl rfl (eEqS0 rfl rfl ty49) ?_) | refine wl rfl (OP.ev rfl rfl (eEqS1 rfl rfl ty49) ?_)
    refine wl_nil ?_
    refine wc_else rfl ?_
    refine wc_skip ?_
    refine wc_seq ?_
    refine wc_region ?_
    refine wl rfl (oBS0 rfl ty49 ty5 fun b5 => ?_)
    refine wl rfl (OP.ev rfl rfl (eMv rfl) ?_)
    refine wl rfl (oApp (m := B.length) (news := byteV B) rfl ty49 ty5 rfl rfl rfl (Row.mk (b := b5) (k := 0) (cap := 0) (cs := #[]) (sz := 1) (xs := []) (Nat.le_refl _) rfl rfl) (by repeat (first | exact At.cell | exact At.h | apply At.t | apply At.a)) (hv.sel (by repeat (first | exact Sel.all | exact Sel.none | (apply Sel.one; · repeat (first | exact Pick.h | apply Pick.t | apply Pick.app)) | apply Sel.app | (with_reducible apply Sel.grp; · repeat (first | exact PickF.h | apply PickF.t | apply PickF.a)) | (with_reducible refine Sel.nilF (by with_unfolding_all rfl) ?_) | apply Sel.drop | apply Sel.dropF))) (byteV_one _) (by omega) (by omega) ?_)
    rintro v7 cs7 hrow7 _
    rw [Nat.zero_add, List.nil_append] at hrow7
    refine wl rfl (OP.ev rfl rfl (eAs rfl) ?_)
    refine wl_nil ?_
    refine wc_ret ?_
    apply at_ret rfl
    · exact (.cons (.tmp rfl) .nil)
    · exact ⟨cs7, hrow7, rfl⟩
    · exact (by repeat (first | exact Sel.all | exact Sel.none | (apply Sel.one; · repeat (first | exact Pick.h | apply Pick.t | apply Pick.app)) | apply Sel.app | (with_reducible apply Sel.grp; · repeat (first | exact PickF.h | apply PickF.t | apply PickF.a)) | (with_reducible refine Sel.nilF (by with_unfolding_all rfl) ?_) | apply Sel.drop | apply Sel.dropF))

/-- the block of a row -/
def rowB : Value → Nat
  | .slice (some a) _ _ => a.block
  | _ => 0
theorem Eng.Row.cell {P : Program} {L : Heap} {v : Value} {cs : Array Value} {e : TypeId} {sz k : Nat} {xs : List Value} {C : Heap → Heap} (h : Row v cs sz k xs) (hat : At L (ownH v cs e) C) {j : Nat} {u : Value} (hj : xs[j]? = some u) :
    ∀ w, Sep W0 w L → w.cell? ⟨rowB v, j, none⟩ = some u := by
  intro w hs
  rcases h.2 with ⟨rfl, h0⟩ | ⟨b, cap, rfl, h1, h2, h3⟩
  · have : xs = [] := List.eq_nil_of_length_eq_zero (by rw [h.1, h0, Nat.zero_mul])
    rw [this] at hj; cases hj
  · show w.cell? ⟨b, j, none⟩ = some u
    rw [hs.cell (hat.has Has.h)]
    rw [← h3, List.getElem?_take] at hj
    split at hj
    · simpa using hj
    · cases hj
theorem Eng.eIxRow {P : Program} {n : Nat} {l : Env} {L : Heap} {ty : TypeId} {pos : String} {af : Array Edge} {gd : Option (Nat × Bool)} {D : Option Nat} {t : TypeId} {x i : Operand} {e : TypeId} {a1 a2 b1 b2 : Nat} {z1 z2 : Option Value} {et : TypeDesc} {v : Value} {cs : Array Value} {sz k : Nat} {xs : List Value} {j : Int}
    (ht : tinf P t = some (.slice e, a1, a2, z1)) (he : tinf P e = some (et, b1, b2, z2)) (hx : evo l x = some v) (hr : Row v cs sz k xs) (hi : evo l i = some (.int .i64 j)) (h0 : 0 ≤ j) (h1 : j < k) :
    EV P n W0 ⟨D, .indexAddr t x i, ty, pos, af, gd⟩ l L (.pointer (some ⟨rowB v, 0 + j.toNat * b1, none⟩)) := by
  rcases hr.2 with ⟨rfl, h2⟩ | ⟨b, cap, rfl, _⟩
  · omega
  · exact eIx ht he hx hi h0 h1
end Go.Proofs.Ytbppeijcfkdhjaa
