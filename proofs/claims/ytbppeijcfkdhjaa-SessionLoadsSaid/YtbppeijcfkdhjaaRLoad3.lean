/- The walk of the reference's Load. -/
import Derived.Test.YtbppeijcfkdhjaaRLoad2
namespace Go.Proofs.Ytbppeijcfkdhjaa
open Go Eng
set_option linter.unusedVariables false
set_option linter.unusedSimpArgs false
set_option maxRecDepth 4000
variable {W0 : World}

theorem lastS_at {Ls : List Seat} {i : Nat} (hi : i + 1 = Ls.length) : (flat Ls)[i * 11]? = some (.int .i64 (lastS Ls)) := by
  rcases List.eq_nil_or_concat Ls with h8 | ⟨ys, y, h8⟩
  · subst h8; simp at hi
  · have h9 : lastS Ls = y.session := by rw [h8]; simp [lastS]
    have hs : Ls[i]? = some y := by rw [h8] at hi ⊢; simp at hi; simp [hi]
    have := flatMap_at (fun s : Seat => (sC s).toList) 11 (fun _ => rfl) Ls i y hs
    have h4 := congrArg (fun z : List Value => z[0]?) this
    simp only [List.getElem?_take, List.getElem?_drop] at h4
    rw [h9]
    simpa [flat, sC] using h4

theorem Eng.eNeBA {P : Program} {n : Nat} {l : Env} {L : Heap} {ty : TypeId} {pos : String} {af : Array Edge} {gd : Option (Nat × Bool)} {D : Option Nat} {xt yt : TypeId} {x y : Operand} {a b : List Int} {a1 a2 : Nat} {z : Option Value} (hx : evo l x = some (.string (BA a))) (hy : evo l y = some (.string (BA b))) (ht : tinf P xt = some (.string, a1, a2, z)) (ha : IsB a) (hb : IsB b) :
    EV P n W0 ⟨D, .binOp .neq xt x y yt, ty, pos, af, gd⟩ l L (.bool (decide (a ≠ b))) := by
  have h2 : (!(BA a == BA b)) = decide (a ≠ b) := by rw [BA_beq ha hb]; simp
  rw [← h2]
  exact fun a w ha hs => by simp [execOp, ha.eval hx, ha.eval hy, eqGuard, binOp, Op.stringOp, Op.equal, Op.equalIn, run_und ht, beq_toListBytes]

def RLoadP (B : List Int) (R : Heap) (v' : Value) (L' : Heap) : Prop :=
  (∃ b w cs l, v' = .tuple #[ptr b, i64 0] ∧ L' = xC b w :: (ownH w cs 35 ++ R) ∧ Row w cs 11 l.length (flat l) ∧ Valid l ∧ img l = B) ∨ (v' = .tuple #[.pointer none, i64 83] ∧ L' = R ∧ ∀ L, Valid L → img L ≠ B)

theorem rload_ok (v : Value) (B : List Int) (hB : IsB B) (R : Heap) (hv : ∀ L, Rs W0 L v 1 B.length (byteV B)) (hl : B.length ≤ 1048576) :
    FnC W0 Try.prog 27 #[v] R (RLoadP B R) := by
  obtain ⟨ad0, k00, c00, rfl⟩ := (hv []).isSlice
  refine fn_of Try.func27 rfl Try.ntmps27 rfl rfl ?_
  refine wc_seq ?_
  refine wc_region ?_
  refine wl rfl (OP.ev rfl rfl (eAs rfl) ?_)
  refine wl rfl (OP.ev rfl rfl (eAs rfl) ?_)
  refine wl_nil ?_
  refine wc_seq ?_
  refine wc_region ?_
  refine wl rfl (OP.ev rfl rfl (eMv rfl) ?_)
  refine wl rfl (OP.ev rfl rfl (eBuL (cells := [_, .int .i64 0, .int .i64 0]) ty87 pl87 rfl rfl) ?_)
  refine wl rfl (oBox rfl rfl rfl fun b12 => ?_)
  refine wl rfl (OP.ev rfl rfl (eAs rfl) ?_)
  refine wl_nil ?_
  refine wc_seq ?_
  refine wc_region ?_
  refine wl rfl (OP.ev rfl rfl (eMv rfl) ?_)
  refine wl rfl (oC rfl pf45 rfl (rnum_ok b12 _ B 0 0 hB hv (Nat.zero_le _) (by omega) _) (by repeat (first | exact Sel.all | exact Sel.none | (apply Sel.one; · repeat (first | exact Pick.h | apply Pick.t | apply Pick.app)) | apply Sel.app | (with_reducible apply Sel.grp; · repeat (first | exact PickF.h | apply PickF.t | apply PickF.a)) | (with_reducible refine Sel.nilF (by with_unfolding_all rfl) ?_) | apply Sel.drop | apply Sel.dropF)) ?_)
  rintro _ _ ⟨n, k0, e0, hnum0, rfl, rfl⟩
  refine wl rfl (OP.ev rfl rfl (eAs rfl) ?_)
  refine wl_nil ?_
  have hn0 := numK_le hB (Nat.zero_le _) hnum0
  refine wc_seq ?_
  refine wc_region ?_
  refine wl rfl (OP.ev rfl rfl (eBuL (cells := [.slice none 0 0]) ty55 pl55 rfl rfl) ?_)
  refine wl rfl (oBox rfl rfl rfl fun b16 => ?_)
  refine wl rfl (OP.ev rfl rfl (eAs rfl) ?_)
  refine wl_nil ?_
  refine wc_seq ?_
  refine wc_seq ?_
  refine wc_region ?_
  refine wl rfl (OP.ev rfl rfl (eAs rfl) ?_)
  refine wl_nil ?_
  refine wc_block ?_
  refine wc_loop (σ := List Seat × Nat × Int × Value × Array Value) (fun q => [(0, .slice ad0 k00 c00), (4, ptr b12), (5, i64 n), (6, ptr b16), (7, i64 (q.1.length : Int))]) (fun q => rS b12 (.slice ad0 k00 c00) q.2.1 q.2.2.1 :: xC b16 q.2.2.2.1 :: (ownH q.2.2.2.1 q.2.2.2.2 35 ++ R)) (fun q => q.2.1 ≤ B.length ∧ q.1.length ≤ 9 ∧ Row q.2.2.2.1 q.2.2.2.2 11 q.1.length (flat q.1) ∧ RdI B n q.1 q.2.1 q.2.2.1) (fun q => 9 - q.1.length) ([], k0, e0, .slice none 0 0, #[]) ⟨hn0.2.1, by simp, Row.nil _ _, RdI.start hB hnum0⟩ ⟨rfl, rfl, rfl, rfl, rfl, trivial⟩ (by repeat (first | exact Sel.all | exact Sel.none | (apply Sel.one; · repeat (first | exact Pick.h | apply Pick.t | apply Pick.app)) | apply Sel.app | (with_reducible apply Sel.grp; · repeat (first | exact PickF.h | apply PickF.t | apply PickF.a)) | (with_reducible refine Sel.nilF (by with_unfolding_all rfl) ?_) | apply Sel.drop | apply Sel.dropF)) ?_
  rintro ⟨Ls, k, e, w, cs⟩ ⟨hk, hL9, hrow, hI⟩
  dsimp only at hk hL9 hrow hI ⊢
  refine wc_seq ?_
  refine wc_seq ?_
  refine wc_region ?_
  refine wl rfl (OP.ev rfl rfl (eMv rfl) ?_)
  refine wl rfl (OP.ev rfl rfl (eMv rfl) ?_)
  refine wl rfl (OP.evb rfl rfl (eLt rfl rfl) fun t19 h19 => ?_)
  refine wl rfl (OP.ev rfl rfl (eMv rfl) ?_)
  cases t19 with
  | true =>
    try have c_t19 := dt h19
    first
    | (exfalso; omega)
    | (
      refine wl_go rfl rfl (OP.ev rfl rfl (eMv rfl) ?_)
      refine wl_go rfl rfl (OP.evb rfl rfl (eLt rfl rfl) fun t22 h22 => ?_)
      refine wl rfl (OP.ev rfl rfl (ePk rfl rfl) ?_)
      refine wl_nil ?_
      cases t22 with
      | true =>
        try have c_t22 := dt h22
        first
        | (exfalso; omega)
        | (
          refine wc_then rfl ?_
          refine wc_skip ?_
          refine wc_seq ?_
          refine wc_block ?_
          refine wc_seq ?_
          refine wc_region ?_
          refine wl rfl (OP.ev rfl rfl (eBuL (cells := [.int .i64 0, .int .i64 0, .int .i64 0, .int .i64 0, .int .i64 0, .int .i64 0, .int .i64 0, .int .i64 0, .int .i64 0, .int .i64 0, .int .i64 0]) ty35 pl35 rfl rfl) ?_)
          refine wl rfl (oAl rfl ty35 rfl fun b8 => ?_)
          refine wl rfl (oStW ty35 rfl rfl rfl rfl (by repeat (first | exact Upd.h | apply Upd.t | apply Upd.app)) (by rfl) ?_)
          refine wl_nil ?_
          refine wc_seq ?_
          refine wc_region ?_
          refine wl rfl (OP.ev rfl rfl (eMv rfl) ?_)
          refine wl rfl (oC rfl pf45 rfl (rnum_ok b12 _ B k e hB hv hk (by omega) _) (by repeat (first | exact Sel.all | exact Sel.none | (apply Sel.one; · repeat (first | exact Pick.h | apply Pick.t | apply Pick.app)) | apply Sel.app | (with_reducible apply Sel.grp; · repeat (first | exact PickF.h | apply PickF.t | apply PickF.a)) | (with_reducible refine Sel.nilF (by with_unfolding_all rfl) ?_) | apply Sel.drop | apply Sel.dropF)) ?_)
          rintro _ _ ⟨x0, k1, e1, hx0, rfl, rfl⟩
          refine wl rfl (OP.ev rfl rfl (eFld 0 ty35 rfl rfl ty3 rfl) ?_)
          have hle0 := numK_le hB hk hx0
          refine wl rfl (oSt (o' := .cells #[.int .i64 x0, .int .i64 0, .int .i64 0, .int .i64 0, .int .i64 0, .int .i64 0, .int .i64 0, .int .i64 0, .int .i64 0, .int .i64 0, .int .i64 0] 35 (0, 0)) ty3 rfl rfl rfl rfl (by repeat (first | exact Upd.h | apply Upd.t | apply Upd.app)) (by first | decide | simp) (by rfl) ?_)
          refine wl_nil ?_
          refine wc_seq ?_
          refine wc_region ?_
          refine wl rfl (OP.ev rfl rfl (eMv rfl) ?_)
          refine wl rfl (oC rfl pf45 rfl (rnum_ok b12 _ B k1 e1 hB hv hle0.2.1 (by omega) _) (by repeat (first | exact Sel.all | exact Sel.none | (apply Sel.one; · repeat (first | exact Pick.h | apply Pick.t | apply Pick.app)) | apply Sel.app | (with_reducible apply Sel.grp; · repeat (first | exact PickF.h | apply PickF.t | apply PickF.a)) | (with_reducible refine Sel.nilF (by with_unfolding_all rfl) ?_) | apply Sel.drop | apply Sel.dropF)) ?_)
          rintro _ _ ⟨x1, k2, e2, hx1, rfl, rfl⟩
          refine wl rfl (OP.ev rfl rfl (eFld 1 ty35 rfl rfl ty3 rfl) ?_)
          have hle1 := numK_le hB hle0.2.1 hx1
          refine wl rfl (oSt (o' := .cells #[.int .i64 x0, .int .i64 x1, .int .i64 0, .int .i64 0, .int .i64 0, .int .i64 0, .int .i64 0, .int .i64 0, .int .i64 0, .int .i64 0, .int .i64 0] 35 (0, 0)) ty3 rfl rfl rfl rfl (by repeat (first | exact Upd.h | apply Upd.t | apply Upd.app)) (by first | decide | simp) (by rfl) ?_)
          refine wl_nil ?_
          refine wc_seq ?_
          refine wc_region ?_
          refine wl rfl (OP.ev rfl rfl (eMv rfl) ?_)
          refine wl rfl (oC rfl pf45 rfl (rnum_ok b12 _ B k2 e2 hB hv hle1.2.1 (by omega) _) (by repeat (first | exact Sel.all | exact Sel.none | (apply Sel.one; · repeat (first | exact Pick.h | apply Pick.t | apply Pick.app)) | apply Sel.app | (with_reducible apply Sel.grp; · repeat (first | exact PickF.h | apply PickF.t | apply PickF.a)) | (with_reducible refine Sel.nilF (by with_unfolding_all rfl) ?_) | apply Sel.drop | apply Sel.dropF)) ?_)
          rintro _ _ ⟨x2, k3, e3, hx2, rfl, rfl⟩
          refine wl rfl (OP.ev rfl rfl (eFld 2 ty35 rfl rfl ty3 rfl) ?_)
          have hle2 := numK_le hB hle1.2.1 hx2
          refine wl rfl (oSt (o' := .cells #[.int .i64 x0, .int .i64 x1, .int .i64 x2, .int .i64 0, .int .i64 0, .int .i64 0, .int .i64 0, .int .i64 0, .int .i64 0, .int .i64 0, .int .i64 0] 35 (0, 0)) ty3 rfl rfl rfl rfl (by repeat (first | exact Upd.h | apply Upd.t | apply Upd.app)) (by first | decide | simp) (by rfl) ?_)
          refine wl_nil ?_
          refine wc_seq ?_
          refine wc_region ?_
          refine wl rfl (OP.ev rfl rfl (eMv rfl) ?_)
          refine wl rfl (oC rfl pf45 rfl (rnum_ok b12 _ B k3 e3 hB hv hle2.2.1 (by omega) _) (by repeat (first | exact Sel.all | exact Sel.none | (apply Sel.one; · repeat (first | exact Pick.h | apply Pick.t | apply Pick.app)) | apply Sel.app | (with_reducible apply Sel.grp; · repeat (first | exact PickF.h | apply PickF.t | apply PickF.a)) | (with_reducible refine Sel.nilF (by with_unfolding_all rfl) ?_) | apply Sel.drop | apply Sel.dropF)) ?_)
          rintro _ _ ⟨x3, k4, e4, hx3, rfl, rfl⟩
          refine wl rfl (OP.ev rfl rfl (eFld 3 ty35 rfl rfl ty33 rfl) ?_)
          refine wl rfl (OP.ev rfl rfl (eFld 0 ty33 rfl rfl ty29 rfl) ?_)
          have hle3 := numK_le hB hle2.2.1 hx3
          refine wl rfl (oSt (o' := .cells #[.int .i64 x0, .int .i64 x1, .int .i64 x2, .int .i64 x3, .int .i64 0, .int .i64 0, .int .i64 0, .int .i64 0, .int .i64 0, .int .i64 0, .int .i64 0] 35 (0, 0)) ty29 rfl rfl rfl rfl (by repeat (first | exact Upd.h | apply Upd.t | apply Upd.app)) (by first | decide | simp) (by rfl) ?_)
          refine wl_nil ?_
          refine wc_seq ?_
          refine wc_region ?_
          refine wl rfl (OP.ev rfl rfl (eMv rfl) ?_)
          refine wl rfl (oC rfl pf45 rfl (rnum_ok b12 _ B k4 e4 hB hv hle3.2.1 (by omega) _) (by repeat (first | exact Sel.all | exact Sel.none | (apply Sel.one; · repeat (first | exact Pick.h | apply Pick.t | apply Pick.app)) | apply Sel.app | (with_reducible apply Sel.grp; · repeat (first | exact PickF.h | apply PickF.t | apply PickF.a)) | (with_reducible refine Sel.nilF (by with_unfolding_all rfl) ?_) | apply Sel.drop | apply Sel.dropF)) ?_)
          rintro _ _ ⟨x4, k5, e5, hx4, rfl, rfl⟩
          refine wl rfl (OP.ev rfl rfl (eFld 3 ty35 rfl rfl ty33 rfl) ?_)
          refine wl rfl (OP.ev rfl rfl (eFld 1 ty33 rfl rfl ty3 rfl) ?_)
          have hle4 := numK_le hB hle3.2.1 hx4
          refine wl rfl (oSt (o' := .cells #[.int .i64 x0, .int .i64 x1, .int .i64 x2, .int .i64 x3, .int .i64 x4, .int .i64 0, .int .i64 0, .int .i64 0, .int .i64 0, .int .i64 0, .int .i64 0] 35 (0, 0)) ty3 rfl rfl rfl rfl (by repeat (first | exact Upd.h | apply Upd.t | apply Upd.app)) (by first | decide | simp) (by rfl) ?_)
          refine wl_nil ?_
          refine wc_seq ?_
          refine wc_region ?_
          refine wl rfl (OP.ev rfl rfl (eMv rfl) ?_)
          refine wl rfl (oC rfl pf45 rfl (rnum_ok b12 _ B k5 e5 hB hv hle4.2.1 (by omega) _) (by repeat (first | exact Sel.all | exact Sel.none | (apply Sel.one; · repeat (first | exact Pick.h | apply Pick.t | apply Pick.app)) | apply Sel.app | (with_reducible apply Sel.grp; · repeat (first | exact PickF.h | apply PickF.t | apply PickF.a)) | (with_reducible refine Sel.nilF (by with_unfolding_all rfl) ?_) | apply Sel.drop | apply Sel.dropF)) ?_)
          rintro _ _ ⟨x5, k6, e6, hx5, rfl, rfl⟩
          refine wl rfl (OP.ev rfl rfl (eFld 3 ty35 rfl rfl ty33 rfl) ?_)
          refine wl rfl (OP.ev rfl rfl (eFld 2 ty33 rfl rfl ty3 rfl) ?_)
          have hle5 := numK_le hB hle4.2.1 hx5
          refine wl rfl (oSt (o' := .cells #[.int .i64 x0, .int .i64 x1, .int .i64 x2, .int .i64 x3, .int .i64 x4, .int .i64 x5, .int .i64 0, .int .i64 0, .int .i64 0, .int .i64 0, .int .i64 0] 35 (0, 0)) ty3 rfl rfl rfl rfl (by repeat (first | exact Upd.h | apply Upd.t | apply Upd.app)) (by first | decide | simp) (by rfl) ?_)
          refine wl_nil ?_
          refine wc_seq ?_
          refine wc_region ?_
          refine wl rfl (OP.ev rfl rfl (eMv rfl) ?_)
          refine wl rfl (oC rfl pf45 rfl (rnum_ok b12 _ B k6 e6 hB hv hle5.2.1 (by omega) _) (by repeat (first | exact Sel.all | exact Sel.none | (apply Sel.one; · repeat (first | exact Pick.h | apply Pick.t | apply Pick.app)) | apply Sel.app | (with_reducible apply Sel.grp; · repeat (first | exact PickF.h | apply PickF.t | apply PickF.a)) | (with_reducible refine Sel.nilF (by with_unfolding_all rfl) ?_) | apply Sel.drop | apply Sel.dropF)) ?_)
          rintro _ _ ⟨x6, k7, e7, hx6, rfl, rfl⟩
          refine wl rfl (OP.ev rfl rfl (eFld 3 ty35 rfl rfl ty33 rfl) ?_)
          refine wl rfl (OP.ev rfl rfl (eFld 3 ty33 rfl rfl ty31 rfl) ?_)
          refine wl rfl (OP.ev rfl rfl (eFld 0 ty31 rfl rfl ty3 rfl) ?_)
          have hle6 := numK_le hB hle5.2.1 hx6
          refine wl rfl (oSt (o' := .cells #[.int .i64 x0, .int .i64 x1, .int .i64 x2, .int .i64 x3, .int .i64 x4, .int .i64 x5, .int .i64 x6, .int .i64 0, .int .i64 0, .int .i64 0, .int .i64 0] 35 (0, 0)) ty3 rfl rfl rfl rfl (by repeat (first | exact Upd.h | apply Upd.t | apply Upd.app)) (by first | decide | simp) (by rfl) ?_)
          refine wl_nil ?_
          refine wc_seq ?_
          refine wc_region ?_
          refine wl rfl (OP.ev rfl rfl (eMv rfl) ?_)
          refine wl rfl (oC rfl pf45 rfl (rnum_ok b12 _ B k7 e7 hB hv hle6.2.1 (by omega) _) (by repeat (first | exact Sel.all | exact Sel.none | (apply Sel.one; · repeat (first | exact Pick.h | apply Pick.t | apply Pick.app)) | apply Sel.app | (with_reducible apply Sel.grp; · repeat (first | exact PickF.h | apply PickF.t | apply PickF.a)) | (with_reducible refine Sel.nilF (by with_unfolding_all rfl) ?_) | apply Sel.drop | apply Sel.dropF)) ?_)
          rintro _ _ ⟨x7, k8, e8, hx7, rfl, rfl⟩
          refine wl rfl (OP.ev rfl rfl (eFld 3 ty35 rfl rfl ty33 rfl) ?_)
          refine wl rfl (OP.ev rfl rfl (eFld 3 ty33 rfl rfl ty31 rfl) ?_)
          refine wl rfl (OP.ev rfl rfl (eFld 1 ty31 rfl rfl ty3 rfl) ?_)
          have hle7 := numK_le hB hle6.2.1 hx7
          refine wl rfl (oSt (o' := .cells #[.int .i64 x0, .int .i64 x1, .int .i64 x2, .int .i64 x3, .int .i64 x4, .int .i64 x5, .int .i64 x6, .int .i64 x7, .int .i64 0, .int .i64 0, .int .i64 0] 35 (0, 0)) ty3 rfl rfl rfl rfl (by repeat (first | exact Upd.h | apply Upd.t | apply Upd.app)) (by first | decide | simp) (by rfl) ?_)
          refine wl_nil ?_
          refine wc_seq ?_
          refine wc_region ?_
          refine wl rfl (OP.ev rfl rfl (eMv rfl) ?_)
          refine wl rfl (oC rfl pf45 rfl (rnum_ok b12 _ B k8 e8 hB hv hle7.2.1 (by omega) _) (by repeat (first | exact Sel.all | exact Sel.none | (apply Sel.one; · repeat (first | exact Pick.h | apply Pick.t | apply Pick.app)) | apply Sel.app | (with_reducible apply Sel.grp; · repeat (first | exact PickF.h | apply PickF.t | apply PickF.a)) | (with_reducible refine Sel.nilF (by with_unfolding_all rfl) ?_) | apply Sel.drop | apply Sel.dropF)) ?_)
          rintro _ _ ⟨x8, k9, e9, hx8, rfl, rfl⟩
          refine wl rfl (OP.ev rfl rfl (eFld 3 ty35 rfl rfl ty33 rfl) ?_)
          refine wl rfl (OP.ev rfl rfl (eFld 3 ty33 rfl rfl ty31 rfl) ?_)
          refine wl rfl (OP.ev rfl rfl (eFld 2 ty31 rfl rfl ty3 rfl) ?_)
          have hle8 := numK_le hB hle7.2.1 hx8
          refine wl rfl (oSt (o' := .cells #[.int .i64 x0, .int .i64 x1, .int .i64 x2, .int .i64 x3, .int .i64 x4, .int .i64 x5, .int .i64 x6, .int .i64 x7, .int .i64 x8, .int .i64 0, .int .i64 0] 35 (0, 0)) ty3 rfl rfl rfl rfl (by repeat (first | exact Upd.h | apply Upd.t | apply Upd.app)) (by first | decide | simp) (by rfl) ?_)
          refine wl_nil ?_
          refine wc_seq ?_
          refine wc_region ?_
          refine wl rfl (OP.ev rfl rfl (eMv rfl) ?_)
          refine wl rfl (oC rfl pf45 rfl (rnum_ok b12 _ B k9 e9 hB hv hle8.2.1 (by omega) _) (by repeat (first | exact Sel.all | exact Sel.none | (apply Sel.one; · repeat (first | exact Pick.h | apply Pick.t | apply Pick.app)) | apply Sel.app | (with_reducible apply Sel.grp; · repeat (first | exact PickF.h | apply PickF.t | apply PickF.a)) | (with_reducible refine Sel.nilF (by with_unfolding_all rfl) ?_) | apply Sel.drop | apply Sel.dropF)) ?_)
          rintro _ _ ⟨x9, k10, e10, hx9, rfl, rfl⟩
          refine wl rfl (OP.ev rfl rfl (eFld 3 ty35 rfl rfl ty33 rfl) ?_)
          refine wl rfl (OP.ev rfl rfl (eFld 3 ty33 rfl rfl ty31 rfl) ?_)
          refine wl rfl (OP.ev rfl rfl (eFld 3 ty31 rfl rfl ty3 rfl) ?_)
          have hle9 := numK_le hB hle8.2.1 hx9
          refine wl rfl (oSt (o' := .cells #[.int .i64 x0, .int .i64 x1, .int .i64 x2, .int .i64 x3, .int .i64 x4, .int .i64 x5, .int .i64 x6, .int .i64 x7, .int .i64 x8, .int .i64 x9, .int .i64 0] 35 (0, 0)) ty3 rfl rfl rfl rfl (by repeat (first | exact Upd.h | apply Upd.t | apply Upd.app)) (by first | decide | simp) (by rfl) ?_)
          refine wl_nil ?_
          refine wc_seq ?_
          refine wc_region ?_
          refine wl rfl (OP.ev rfl rfl (eMv rfl) ?_)
          refine wl rfl (oC rfl pf45 rfl (rnum_ok b12 _ B k10 e10 hB hv hle9.2.1 (by omega) _) (by repeat (first | exact Sel.all | exact Sel.none | (apply Sel.one; · repeat (first | exact Pick.h | apply Pick.t | apply Pick.app)) | apply Sel.app | (with_reducible apply Sel.grp; · repeat (first | exact PickF.h | apply PickF.t | apply PickF.a)) | (with_reducible refine Sel.nilF (by with_unfolding_all rfl) ?_) | apply Sel.drop | apply Sel.dropF)) ?_)
          rintro _ _ ⟨x10, k11, e11, hx10, rfl, rfl⟩
          refine wl rfl (OP.ev rfl rfl (eFld 3 ty35 rfl rfl ty33 rfl) ?_)
          refine wl rfl (OP.ev rfl rfl (eFld 3 ty33 rfl rfl ty31 rfl) ?_)
          refine wl rfl (OP.ev rfl rfl (eFld 4 ty31 rfl rfl ty3 rfl) ?_)
          have hle10 := numK_le hB hle9.2.1 hx10
          refine wl rfl (oSt (o' := .cells #[.int .i64 x0, .int .i64 x1, .int .i64 x2, .int .i64 x3, .int .i64 x4, .int .i64 x5, .int .i64 x6, .int .i64 x7, .int .i64 x8, .int .i64 x9, .int .i64 x10] 35 (0, 0)) ty3 rfl rfl rfl rfl (by repeat (first | exact Upd.h | apply Upd.t | apply Upd.app)) (by first | decide | simp) (by rfl) ?_)
          refine wl_nil ?_
          have q0 : (ofN [x0, x1, x2, x3, x4, x5, x6, x7, x8, x9, x10]).session = x0 := rfl
          have q1 : (ofN [x0, x1, x2, x3, x4, x5, x6, x7, x8, x9, x10]).seq = x1 := rfl
          have q2 : (ofN [x0, x1, x2, x3, x4, x5, x6, x7, x8, x9, x10]).at_ = x2 := rfl
          have hrd := rdK_next (rdK_next (rdK_next (rdK_next (rdK_next (rdK_next (rdK_next (rdK_next (rdK_next (rdK_next (rdK_next (show rdK B k e 0 = ([], k, e) from rfl) hx0) hx1) hx2) hx3) hx4) hx5) hx6) hx7) hx8) hx9) hx10
          simp only [List.nil_append, List.cons_append] at hrd
          refine wc_seq ?_
          refine wc_draw ((b8, .cells (sC (ofN [x0, x1, x2, x3, x4, x5, x6, x7, x8, x9, x10])) 35 (0, 0)) :: xC b16 w :: (ownH w cs 35 ++ [])) rfl ?_
          refine wa_take 0 (by kernel_rfl) rfl rfl rfl rfl (by repeat (first | exact Sel.all | exact Sel.none | (apply Sel.one; · repeat (first | exact Pick.h | apply Pick.t | apply Pick.app)) | apply Sel.app | (with_reducible apply Sel.grp; · repeat (first | exact PickF.h | apply PickF.t | apply PickF.a)) | (with_reducible refine Sel.nilF (by with_unfolding_all rfl) ?_) | apply Sel.drop | apply Sel.dropF)) (eFld 0 ty35 rfl rfl ty3 rfl) ?_
          first | refine wa_take 1 (by kernel_rfl) rfl rfl rfl rfl (by repeat (first | exact Sel.all | exact Sel.none | (apply Sel.one; · repeat (first | exact Pick.h | apply Pick.t | apply Pick.app)) | apply Sel.app | (with_reducible apply Sel.grp; · repeat (first | exact PickF.h | apply PickF.t | apply PickF.a)) | (with_reducible refine Sel.nilF (by with_unfolding_all rfl) ?_) | apply Sel.drop | apply Sel.dropF)) (eLd ty3 rfl rfl (by repeat (first | exact Has.h | apply Has.t | apply Has.app)) (by rfl)) ?_ | refine wa_take 1 (by kernel_rfl) rfl rfl rfl rfl (by repeat (first | exact Sel.all | exact Sel.none | (apply Sel.one; · repeat (first | exact Pick.h | apply Pick.t | apply Pick.app)) | apply Sel.app | (with_reducible apply Sel.grp; · repeat (first | exact PickF.h | apply PickF.t | apply PickF.a)) | (with_reducible refine Sel.nilF (by with_unfolding_all rfl) ?_) | apply Sel.drop | apply Sel.dropF)) (eLdO ty3 rfl rfl (by assumption)) ?_
          refine wa_takeb 2 (by kernel_rfl) rfl rfl rfl rfl (by repeat (first | exact Sel.all | exact Sel.none | (apply Sel.one; · repeat (first | exact Pick.h | apply Pick.t | apply Pick.app)) | apply Sel.app | (with_reducible apply Sel.grp; · repeat (first | exact PickF.h | apply PickF.t | apply PickF.a)) | (with_reducible refine Sel.nilF (by with_unfolding_all rfl) ?_) | apply Sel.drop | apply Sel.dropF)) (eLt rfl rfl) fun t75 h75 => ?_
          refine wa_take 3 (by kernel_rfl) rfl rfl rfl rfl (by repeat (first | exact Sel.all | exact Sel.none | (apply Sel.one; · repeat (first | exact Pick.h | apply Pick.t | apply Pick.app)) | apply Sel.app | (with_reducible apply Sel.grp; · repeat (first | exact PickF.h | apply PickF.t | apply PickF.a)) | (with_reducible refine Sel.nilF (by with_unfolding_all rfl) ?_) | apply Sel.drop | apply Sel.dropF)) (eMv rfl) ?_
          cases t75 with
          | true =>
            try have c_t75 := dt h75
            first
            | (exfalso; omega)
            | (
              refine wa_skip 4 (by kernel_rfl) rfl rfl rfl rfl rfl rfl (by repeat (first | exact Sel.all | exact Sel.none | (apply Sel.one; · repeat (first | exact Pick.h | apply Pick.t | apply Pick.app)) | apply Sel.app | (with_reducible apply Sel.grp; · repeat (first | exact PickF.h | apply PickF.t | apply PickF.a)) | (with_reducible refine Sel.nilF (by with_unfolding_all rfl) ?_) | apply Sel.drop | apply Sel.dropF)) ?_
              refine wa_skip 5 (by kernel_rfl) rfl rfl rfl rfl rfl rfl (by repeat (first | exact Sel.all | exact Sel.none | (apply Sel.one; · repeat (first | exact Pick.h | apply Pick.t | apply Pick.app)) | apply Sel.app | (with_reducible apply Sel.grp; · repeat (first | exact PickF.h | apply PickF.t | apply PickF.a)) | (with_reducible refine Sel.nilF (by with_unfolding_all rfl) ?_) | apply Sel.drop | apply Sel.dropF)) ?_
              refine wa_skip 6 (by kernel_rfl) rfl rfl rfl rfl rfl rfl (by repeat (first | exact Sel.all | exact Sel.none | (apply Sel.one; · repeat (first | exact Pick.h | apply Pick.t | apply Pick.app)) | apply Sel.app | (with_reducible apply Sel.grp; · repeat (first | exact PickF.h | apply PickF.t | apply PickF.a)) | (with_reducible refine Sel.nilF (by with_unfolding_all rfl) ?_) | apply Sel.drop | apply Sel.dropF)) ?_
              refine wa_take 7 (by kernel_rfl) rfl rfl rfl rfl (by repeat (first | exact Sel.all | exact Sel.none | (apply Sel.one; · repeat (first | exact Pick.h | apply Pick.t | apply Pick.app)) | apply Sel.app | (with_reducible apply Sel.grp; · repeat (first | exact PickF.h | apply PickF.t | apply PickF.a)) | (with_reducible refine Sel.nilF (by with_unfolding_all rfl) ?_) | apply Sel.drop | apply Sel.dropF)) (ePk rfl rfl) ?_
              refine wa_take 8 (by kernel_rfl) rfl rfl rfl rfl (by repeat (first | exact Sel.all | exact Sel.none | (apply Sel.one; · repeat (first | exact Pick.h | apply Pick.t | apply Pick.app)) | apply Sel.app | (with_reducible apply Sel.grp; · repeat (first | exact PickF.h | apply PickF.t | apply PickF.a)) | (with_reducible refine Sel.nilF (by with_unfolding_all rfl) ?_) | apply Sel.drop | apply Sel.dropF)) (eMv rfl) ?_
              refine wa_skip 9 (by kernel_rfl) rfl rfl rfl rfl rfl rfl (by repeat (first | exact Sel.all | exact Sel.none | (apply Sel.one; · repeat (first | exact Pick.h | apply Pick.t | apply Pick.app)) | apply Sel.app | (with_reducible apply Sel.grp; · repeat (first | exact PickF.h | apply PickF.t | apply PickF.a)) | (with_reducible refine Sel.nilF (by with_unfolding_all rfl) ?_) | apply Sel.drop | apply Sel.dropF)) ?_
              refine wa_skip 10 (by kernel_rfl) rfl rfl rfl rfl rfl rfl (by repeat (first | exact Sel.all | exact Sel.none | (apply Sel.one; · repeat (first | exact Pick.h | apply Pick.t | apply Pick.app)) | apply Sel.app | (with_reducible apply Sel.grp; · repeat (first | exact PickF.h | apply PickF.t | apply PickF.a)) | (with_reducible refine Sel.nilF (by with_unfolding_all rfl) ?_) | apply Sel.drop | apply Sel.dropF)) ?_
              refine wa_skip 11 (by kernel_rfl) rfl rfl rfl rfl rfl rfl (by repeat (first | exact Sel.all | exact Sel.none | (apply Sel.one; · repeat (first | exact Pick.h | apply Pick.t | apply Pick.app)) | apply Sel.app | (with_reducible apply Sel.grp; · repeat (first | exact PickF.h | apply PickF.t | apply PickF.a)) | (with_reducible refine Sel.nilF (by with_unfolding_all rfl) ?_) | apply Sel.drop | apply Sel.dropF)) ?_
              refine wa_skipU 12 (by kernel_rfl) rfl rfl rfl rfl rfl (by repeat (first | exact Sel.all | exact Sel.none | (apply Sel.one; · repeat (first | exact Pick.h | apply Pick.t | apply Pick.app)) | apply Sel.app | (with_reducible apply Sel.grp; · repeat (first | exact PickF.h | apply PickF.t | apply PickF.a)) | (with_reducible refine Sel.nilF (by with_unfolding_all rfl) ?_) | apply Sel.drop | apply Sel.dropF)) ?_
              refine wa_skipU 13 (by kernel_rfl) rfl rfl rfl rfl rfl (by repeat (first | exact Sel.all | exact Sel.none | (apply Sel.one; · repeat (first | exact Pick.h | apply Pick.t | apply Pick.app)) | apply Sel.app | (with_reducible apply Sel.grp; · repeat (first | exact PickF.h | apply PickF.t | apply PickF.a)) | (with_reducible refine Sel.nilF (by with_unfolding_all rfl) ?_) | apply Sel.drop | apply Sel.dropF)) ?_
              refine wa_skipU 14 (by kernel_rfl) rfl rfl rfl rfl rfl (by repeat (first | exact Sel.all | exact Sel.none | (apply Sel.one; · repeat (first | exact Pick.h | apply Pick.t | apply Pick.app)) | apply Sel.app | (with_reducible apply Sel.grp; · repeat (first | exact PickF.h | apply PickF.t | apply PickF.a)) | (with_reducible refine Sel.nilF (by with_unfolding_all rfl) ?_) | apply Sel.drop | apply Sel.dropF)) ?_
              refine wa_skipU 15 (by kernel_rfl) rfl rfl rfl rfl rfl (by repeat (first | exact Sel.all | exact Sel.none | (apply Sel.one; · repeat (first | exact Pick.h | apply Pick.t | apply Pick.app)) | apply Sel.app | (with_reducible apply Sel.grp; · repeat (first | exact PickF.h | apply PickF.t | apply PickF.a)) | (with_reducible refine Sel.nilF (by with_unfolding_all rfl) ?_) | apply Sel.drop | apply Sel.dropF)) ?_
              refine wa_skipU 16 (by kernel_rfl) rfl rfl rfl rfl rfl (by repeat (first | exact Sel.all | exact Sel.none | (apply Sel.one; · repeat (first | exact Pick.h | apply Pick.t | apply Pick.app)) | apply Sel.app | (with_reducible apply Sel.grp; · repeat (first | exact PickF.h | apply PickF.t | apply PickF.a)) | (with_reducible refine Sel.nilF (by with_unfolding_all rfl) ?_) | apply Sel.drop | apply Sel.dropF)) ?_
              refine wa_skipU 17 (by kernel_rfl) rfl rfl rfl rfl rfl (by repeat (first | exact Sel.all | exact Sel.none | (apply Sel.one; · repeat (first | exact Pick.h | apply Pick.t | apply Pick.app)) | apply Sel.app | (with_reducible apply Sel.grp; · repeat (first | exact PickF.h | apply PickF.t | apply PickF.a)) | (with_reducible refine Sel.nilF (by with_unfolding_all rfl) ?_) | apply Sel.drop | apply Sel.dropF)) ?_
              refine wa_skipU 18 (by kernel_rfl) rfl rfl rfl rfl rfl (by repeat (first | exact Sel.all | exact Sel.none | (apply Sel.one; · repeat (first | exact Pick.h | apply Pick.t | apply Pick.app)) | apply Sel.app | (with_reducible apply Sel.grp; · repeat (first | exact PickF.h | apply PickF.t | apply PickF.a)) | (with_reducible refine Sel.nilF (by with_unfolding_all rfl) ?_) | apply Sel.drop | apply Sel.dropF)) ?_
              refine wa_skipU 19 (by kernel_rfl) rfl rfl rfl rfl rfl (by repeat (first | exact Sel.all | exact Sel.none | (apply Sel.one; · repeat (first | exact Pick.h | apply Pick.t | apply Pick.app)) | apply Sel.app | (with_reducible apply Sel.grp; · repeat (first | exact PickF.h | apply PickF.t | apply PickF.a)) | (with_reducible refine Sel.nilF (by with_unfolding_all rfl) ?_) | apply Sel.drop | apply Sel.dropF)) ?_
              refine wa_skipU 20 (by kernel_rfl) rfl rfl rfl rfl rfl (by repeat (first | exact Sel.all | exact Sel.none | (apply Sel.one; · repeat (first | exact Pick.h | apply Pick.t | apply Pick.app)) | apply Sel.app | (with_reducible apply Sel.grp; · repeat (first | exact PickF.h | apply PickF.t | apply PickF.a)) | (with_reducible refine Sel.nilF (by with_unfolding_all rfl) ?_) | apply Sel.drop | apply Sel.dropF)) ?_
              refine wa_skipU 21 (by kernel_rfl) rfl rfl rfl rfl rfl (by repeat (first | exact Sel.all | exact Sel.none | (apply Sel.one; · repeat (first | exact Pick.h | apply Pick.t | apply Pick.app)) | apply Sel.app | (with_reducible apply Sel.grp; · repeat (first | exact PickF.h | apply PickF.t | apply PickF.a)) | (with_reducible refine Sel.nilF (by with_unfolding_all rfl) ?_) | apply Sel.drop | apply Sel.dropF)) ?_
              refine wa_skipU 22 (by kernel_rfl) rfl rfl rfl rfl rfl (by repeat (first | exact Sel.all | exact Sel.none | (apply Sel.one; · repeat (first | exact Pick.h | apply Pick.t | apply Pick.app)) | apply Sel.app | (with_reducible apply Sel.grp; · repeat (first | exact PickF.h | apply PickF.t | apply PickF.a)) | (with_reducible refine Sel.nilF (by with_unfolding_all rfl) ?_) | apply Sel.drop | apply Sel.dropF)) ?_
              refine wa_skipU 23 (by kernel_rfl) rfl rfl rfl rfl rfl (by repeat (first | exact Sel.all | exact Sel.none | (apply Sel.one; · repeat (first | exact Pick.h | apply Pick.t | apply Pick.app)) | apply Sel.app | (with_reducible apply Sel.grp; · repeat (first | exact PickF.h | apply PickF.t | apply PickF.a)) | (with_reducible refine Sel.nilF (by with_unfolding_all rfl) ?_) | apply Sel.drop | apply Sel.dropF)) ?_
              refine wa_skip 24 (by kernel_rfl) rfl rfl rfl rfl rfl rfl (by repeat (first | exact Sel.all | exact Sel.none | (apply Sel.one; · repeat (first | exact Pick.h | apply Pick.t | apply Pick.app)) | apply Sel.app | (with_reducible apply Sel.grp; · repeat (first | exact PickF.h | apply PickF.t | apply PickF.a)) | (with_reducible refine Sel.nilF (by with_unfolding_all rfl) ?_) | apply Sel.drop | apply Sel.dropF)) ?_
              refine wa_take 25 (by kernel_rfl) rfl rfl rfl rfl (by repeat (first | exact Sel.all | exact Sel.none | (apply Sel.one; · repeat (first | exact Pick.h | apply Pick.t | apply Pick.app)) | apply Sel.app | (with_reducible apply Sel.grp; · repeat (first | exact PickF.h | apply PickF.t | apply PickF.a)) | (with_reducible refine Sel.nilF (by with_unfolding_all rfl) ?_) | apply Sel.drop | apply Sel.dropF)) (ePk rfl rfl) ?_
              refine wa_take 26 (by kernel_rfl) rfl rfl rfl rfl (by repeat (first | exact Sel.all | exact Sel.none | (apply Sel.one; · repeat (first | exact Pick.h | apply Pick.t | apply Pick.app)) | apply Sel.app | (with_reducible apply Sel.grp; · repeat (first | exact PickF.h | apply PickF.t | apply PickF.a)) | (with_reducible refine Sel.nilF (by with_unfolding_all rfl) ?_) | apply Sel.drop | apply Sel.dropF)) (eAs rfl) ?_
              refine wa_nil (by kernel_rfl) ?_
              refine wc_seq ?_
              refine wc_seq ?_
              refine wc_region ?_
              refine wl rfl (OP.ev rfl rfl (eMv rfl) ?_)
              refine wl rfl (OP.ev rfl rfl (eMv rfl) ?_)
              refine wl_skip rfl rfl rfl rfl rfl ?_
              refine wl_skip rfl rfl rfl rfl rfl ?_
              refine wl_skip rfl rfl rfl rfl rfl ?_
              refine wl rfl (OP.ev rfl rfl (ePk rfl rfl) ?_)
              refine wl rfl (OP.ev rfl rfl (eMv rfl) ?_)
              refine wl_skip rfl rfl rfl rfl rfl ?_
              refine wl_skip rfl rfl rfl rfl rfl ?_
              refine wl_skip rfl rfl rfl rfl rfl ?_
              refine wl rfl (OP.ev rfl rfl (ePk rfl rfl) ?_)
              refine wl rfl (OP.ev rfl rfl (eMv rfl) ?_)
              refine wl_skip rfl rfl rfl rfl rfl ?_
              refine wl_skip rfl rfl rfl rfl rfl ?_
              refine wl_skip rfl rfl rfl rfl rfl ?_
              refine wl rfl (OP.ev rfl rfl (ePk rfl rfl) ?_)
              refine wl rfl (OP.ev rfl rfl (eMv rfl) ?_)
              refine wl_skip rfl rfl rfl rfl rfl ?_
              refine wl_skip rfl rfl rfl rfl rfl ?_
              refine wl_skip rfl rfl rfl rfl rfl ?_
              refine wl_skip rfl rfl rfl rfl rfl ?_
              refine wl rfl (OP.ev rfl rfl (ePk rfl rfl) ?_)
              refine wl_nil ?_
              refine wc_then rfl ?_
              refine wc_seq ?_
              refine wc_region ?_
              refine wl rfl (OP.ev rfl rfl (eAs rfl) ?_)
              refine wl rfl (OP.ev rfl rfl (eAs rfl) ?_)
              refine wl_nil ?_
              refine wc_ret ?_
              apply at_ret rfl
              · exact (.cons (.tmp rfl) (.cons (.tmp rfl) .nil))
              · first
                | exact .inl ⟨b16, w, cs, Ls, rfl, rfl, hrow, ⟨by omega, hI.ok, hI.up⟩, Classical.not_not.1 c_t143⟩
                | exact .inr ⟨rfl, rfl, hI.fin (by omega) (.inl (by omega))⟩
                | exact .inr ⟨rfl, rfl, hI.fin (by omega) (.inr c_t143)⟩
                | exact .inr ⟨rfl, rfl, hI.bad (by omega) hrd (by show x0 < 1 ∨ x2 < 1 ∨ (0 < Ls.length ∧ x0 ≤ lastS Ls) ∨ x0 > 1099511627776 ∨ x1 > 1099511627776 ∨ x2 > 1099511627776 ∨ checkR (ofN [x0, x1, x2, x3, x4, x5, x6, x7, x8, x9, x10]).reply ≠ 0; first | omega | exact .inr (.inr (.inr (.inr (.inr (.inr c_t119))))))⟩
              · exact (by repeat (first | exact Sel.all | exact Sel.none | (apply Sel.one; · repeat (first | exact Pick.h | apply Pick.t | apply Pick.app)) | apply Sel.app | (with_reducible apply Sel.grp; · repeat (first | exact PickF.h | apply PickF.t | apply PickF.a)) | (with_reducible refine Sel.nilF (by with_unfolding_all rfl) ?_) | apply Sel.drop | apply Sel.dropF)))
          | false =>
            try have c_t75 := df h75
            first
            | (exfalso; omega)
            | (
              refine wa_takeg 4 (by kernel_rfl) rfl rfl rfl rfl rfl (by repeat (first | exact Sel.all | exact Sel.none | (apply Sel.one; · repeat (first | exact Pick.h | apply Pick.t | apply Pick.app)) | apply Sel.app | (with_reducible apply Sel.grp; · repeat (first | exact PickF.h | apply PickF.t | apply PickF.a)) | (with_reducible refine Sel.nilF (by with_unfolding_all rfl) ?_) | apply Sel.drop | apply Sel.dropF)) (eFld 2 ty35 rfl rfl ty3 rfl) ?_
              first | refine wa_takeg 5 (by kernel_rfl) rfl rfl rfl rfl rfl (by repeat (first | exact Sel.all | exact Sel.none | (apply Sel.one; · repeat (first | exact Pick.h | apply Pick.t | apply Pick.app)) | apply Sel.app | (with_reducible apply Sel.grp; · repeat (first | exact PickF.h | apply PickF.t | apply PickF.a)) | (with_reducible refine Sel.nilF (by with_unfolding_all rfl) ?_) | apply Sel.drop | apply Sel.dropF)) (eLd ty3 rfl rfl (by repeat (first | exact Has.h | apply Has.t | apply Has.app)) (by rfl)) ?_ | refine wa_takeg 5 (by kernel_rfl) rfl rfl rfl rfl rfl (by repeat (first | exact Sel.all | exact Sel.none | (apply Sel.one; · repeat (first | exact Pick.h | apply Pick.t | apply Pick.app)) | apply Sel.app | (with_reducible apply Sel.grp; · repeat (first | exact PickF.h | apply PickF.t | apply PickF.a)) | (with_reducible refine Sel.nilF (by with_unfolding_all rfl) ?_) | apply Sel.drop | apply Sel.dropF)) (eLdO ty3 rfl rfl (by assumption)) ?_
              refine wa_takegb 6 (by kernel_rfl) rfl rfl rfl rfl rfl (by repeat (first | exact Sel.all | exact Sel.none | (apply Sel.one; · repeat (first | exact Pick.h | apply Pick.t | apply Pick.app)) | apply Sel.app | (with_reducible apply Sel.grp; · repeat (first | exact PickF.h | apply PickF.t | apply PickF.a)) | (with_reducible refine Sel.nilF (by with_unfolding_all rfl) ?_) | apply Sel.drop | apply Sel.dropF)) (eLt rfl rfl) fun t79 h79 => ?_
              refine wa_take 7 (by kernel_rfl) rfl rfl rfl rfl (by repeat (first | exact Sel.all | exact Sel.none | (apply Sel.one; · repeat (first | exact Pick.h | apply Pick.t | apply Pick.app)) | apply Sel.app | (with_reducible apply Sel.grp; · repeat (first | exact PickF.h | apply PickF.t | apply PickF.a)) | (with_reducible refine Sel.nilF (by with_unfolding_all rfl) ?_) | apply Sel.drop | apply Sel.dropF)) (ePk rfl rfl) ?_
              refine wa_take 8 (by kernel_rfl) rfl rfl rfl rfl (by repeat (first | exact Sel.all | exact Sel.none | (apply Sel.one; · repeat (first | exact Pick.h | apply Pick.t | apply Pick.app)) | apply Sel.app | (with_reducible apply Sel.grp; · repeat (first | exact PickF.h | apply PickF.t | apply PickF.a)) | (with_reducible refine Sel.nilF (by with_unfolding_all rfl) ?_) | apply Sel.drop | apply Sel.dropF)) (eMv rfl) ?_
              cases t79 with
              | true =>
                try have c_t79 := dt h79
                first
                | (exfalso; omega)
                | (
                  refine wa_skip 9 (by kernel_rfl) rfl rfl rfl rfl rfl rfl (by repeat (first | exact Sel.all | exact Sel.none | (apply Sel.one; · repeat (first | exact Pick.h | apply Pick.t | apply Pick.app)) | apply Sel.app | (with_reducible apply Sel.grp; · repeat (first | exact PickF.h | apply PickF.t | apply PickF.a)) | (with_reducible refine Sel.nilF (by with_unfolding_all rfl) ?_) | apply Sel.drop | apply Sel.dropF)) ?_
                  refine wa_skip 10 (by kernel_rfl) rfl rfl rfl rfl rfl rfl (by repeat (first | exact Sel.all | exact Sel.none | (apply Sel.one; · repeat (first | exact Pick.h | apply Pick.t | apply Pick.app)) | apply Sel.app | (with_reducible apply Sel.grp; · repeat (first | exact PickF.h | apply PickF.t | apply PickF.a)) | (with_reducible refine Sel.nilF (by with_unfolding_all rfl) ?_) | apply Sel.drop | apply Sel.dropF)) ?_
                  refine wa_skip 11 (by kernel_rfl) rfl rfl rfl rfl rfl rfl (by repeat (first | exact Sel.all | exact Sel.none | (apply Sel.one; · repeat (first | exact Pick.h | apply Pick.t | apply Pick.app)) | apply Sel.app | (with_reducible apply Sel.grp; · repeat (first | exact PickF.h | apply PickF.t | apply PickF.a)) | (with_reducible refine Sel.nilF (by with_unfolding_all rfl) ?_) | apply Sel.drop | apply Sel.dropF)) ?_
                  refine wa_skipU 12 (by kernel_rfl) rfl rfl rfl rfl rfl (by repeat (first | exact Sel.all | exact Sel.none | (apply Sel.one; · repeat (first | exact Pick.h | apply Pick.t | apply Pick.app)) | apply Sel.app | (with_reducible apply Sel.grp; · repeat (first | exact PickF.h | apply PickF.t | apply PickF.a)) | (with_reducible refine Sel.nilF (by with_unfolding_all rfl) ?_) | apply Sel.drop | apply Sel.dropF)) ?_
                  refine wa_skipU 13 (by kernel_rfl) rfl rfl rfl rfl rfl (by repeat (first | exact Sel.all | exact Sel.none | (apply Sel.one; · repeat (first | exact Pick.h | apply Pick.t | apply Pick.app)) | apply Sel.app | (with_reducible apply Sel.grp; · repeat (first | exact PickF.h | apply PickF.t | apply PickF.a)) | (with_reducible refine Sel.nilF (by with_unfolding_all rfl) ?_) | apply Sel.drop | apply Sel.dropF)) ?_
                  refine wa_skipU 14 (by kernel_rfl) rfl rfl rfl rfl rfl (by repeat (first | exact Sel.all | exact Sel.none | (apply Sel.one; · repeat (first | exact Pick.h | apply Pick.t | apply Pick.app)) | apply Sel.app | (with_reducible apply Sel.grp; · repeat (first | exact PickF.h | apply PickF.t | apply PickF.a)) | (with_reducible refine Sel.nilF (by with_unfolding_all rfl) ?_) | apply Sel.drop | apply Sel.dropF)) ?_
                  refine wa_skipU 15 (by kernel_rfl) rfl rfl rfl rfl rfl (by repeat (first | exact Sel.all | exact Sel.none | (apply Sel.one; · repeat (first | exact Pick.h | apply Pick.t | apply Pick.app)) | apply Sel.app | (with_reducible apply Sel.grp; · repeat (first | exact PickF.h | apply PickF.t | apply PickF.a)) | (with_reducible refine Sel.nilF (by with_unfolding_all rfl) ?_) | apply Sel.drop | apply Sel.dropF)) ?_
                  refine wa_skipU 16 (by kernel_rfl) rfl rfl rfl rfl rfl (by repeat (first | exact Sel.all | exact Sel.none | (apply Sel.one; · repeat (first | exact Pick.h | apply Pick.t | apply Pick.app)) | apply Sel.app | (with_reducible apply Sel.grp; · repeat (first | exact PickF.h | apply PickF.t | apply PickF.a)) | (with_reducible refine Sel.nilF (by with_unfolding_all rfl) ?_) | apply Sel.drop | apply Sel.dropF)) ?_
                  refine wa_skipU 17 (by kernel_rfl) rfl rfl rfl rfl rfl (by repeat (first | exact Sel.all | exact Sel.none | (apply Sel.one; · repeat (first | exact Pick.h | apply Pick.t | apply Pick.app)) | apply Sel.app | (with_reducible apply Sel.grp; · repeat (first | exact PickF.h | apply PickF.t | apply PickF.a)) | (with_reducible refine Sel.nilF (by with_unfolding_all rfl) ?_) | apply Sel.drop | apply Sel.dropF)) ?_
                  refine wa_skipU 18 (by kernel_rfl) rfl rfl rfl rfl rfl (by repeat (first | exact Sel.all | exact Sel.none | (apply Sel.one; · repeat (first | exact Pick.h | apply Pick.t | apply Pick.app)) | apply Sel.app | (with_reducible apply Sel.grp; · repeat (first | exact PickF.h | apply PickF.t | apply PickF.a)) | (with_reducible refine Sel.nilF (by with_unfolding_all rfl) ?_) | apply Sel.drop | apply Sel.dropF)) ?_
                  refine wa_skipU 19 (by kernel_rfl) rfl rfl rfl rfl rfl (by repeat (first | exact Sel.all | exact Sel.none | (apply Sel.one; · repeat (first | exact Pick.h | apply Pick.t | apply Pick.app)) | apply Sel.app | (with_reducible apply Sel.grp; · repeat (first | exact PickF.h | apply PickF.t | apply PickF.a)) | (with_reducible refine Sel.nilF (by with_unfolding_all rfl) ?_) | apply Sel.drop | apply Sel.dropF)) ?_
                  refine wa_skipU 20 (by kernel_rfl) rfl rfl rfl rfl rfl (by repeat (first | exact Sel.all | exact Sel.none | (apply Sel.one; · repeat (first | exact Pick.h | apply Pick.t | apply Pick.app)) | apply Sel.app | (with_reducible apply Sel.grp; · repeat (first | exact PickF.h | apply PickF.t | apply PickF.a)) | (with_reducible refine Sel.nilF (by with_unfolding_all rfl) ?_) | apply Sel.drop | apply Sel.dropF)) ?_
                  refine wa_skipU 21 (by kernel_rfl) rfl rfl rfl rfl rfl (by repeat (first | exact Sel.all | exact Sel.none | (apply Sel.one; · repeat (first | exact Pick.h | apply Pick.t | apply Pick.app)) | apply Sel.app | (with_reducible apply Sel.grp; · repeat (first | exact PickF.h | apply PickF.t | apply PickF.a)) | (with_reducible refine Sel.nilF (by with_unfolding_all rfl) ?_) | apply Sel.drop | apply Sel.dropF)) ?_
                  refine wa_skipU 22 (by kernel_rfl) rfl rfl rfl rfl rfl (by repeat (first | exact Sel.all | exact Sel.none | (apply Sel.one; · repeat (first | exact Pick.h | apply Pick.t | apply Pick.app)) | apply Sel.app | (with_reducible apply Sel.grp; · repeat (first | exact PickF.h | apply PickF.t | apply PickF.a)) | (with_reducible refine Sel.nilF (by with_unfolding_all rfl) ?_) | apply Sel.drop | apply Sel.dropF)) ?_
                  refine wa_skipU 23 (by kernel_rfl) rfl rfl rfl rfl rfl (by repeat (first | exact Sel.all | exact Sel.none | (apply Sel.one; · repeat (first | exact Pick.h | apply Pick.t | apply Pick.app)) | apply Sel.app | (with_reducible apply Sel.grp; · repeat (first | exact PickF.h | apply PickF.t | apply PickF.a)) | (with_reducible refine Sel.nilF (by with_unfolding_all rfl) ?_) | apply Sel.drop | apply Sel.dropF)) ?_
                  refine wa_skip 24 (by kernel_rfl) rfl rfl rfl rfl rfl rfl (by repeat (first | exact Sel.all | exact Sel.none | (apply Sel.one; · repeat (first | exact Pick.h | apply Pick.t | apply Pick.app)) | apply Sel.app | (with_reducible apply Sel.grp; · repeat (first | exact PickF.h | apply PickF.t | apply PickF.a)) | (with_reducible refine Sel.nilF (by with_unfolding_all rfl) ?_) | apply Sel.drop | apply Sel.dropF)) ?_
                  refine wa_take 25 (by kernel_rfl) rfl rfl rfl rfl (by repeat (first | exact Sel.all | exact Sel.none | (apply Sel.one; · repeat (first | exact Pick.h | apply Pick.t | apply Pick.app)) | apply Sel.app | (with_reducible apply Sel.grp; · repeat (first | exact PickF.h | apply PickF.t | apply PickF.a)) | (with_reducible refine Sel.nilF (by with_unfolding_all rfl) ?_) | apply Sel.drop | apply Sel.dropF)) (ePk rfl rfl) ?_
                  refine wa_take 26 (by kernel_rfl) rfl rfl rfl rfl (by repeat (first | exact Sel.all | exact Sel.none | (apply Sel.one; · repeat (first | exact Pick.h | apply Pick.t | apply Pick.app)) | apply Sel.app | (with_reducible apply Sel.grp; · repeat (first | exact PickF.h | apply PickF.t | apply PickF.a)) | (with_reducible refine Sel.nilF (by with_unfolding_all rfl) ?_) | apply Sel.drop | apply Sel.dropF)) (eAs rfl) ?_
                  refine wa_nil (by kernel_rfl) ?_
                  refine wc_seq ?_
                  refine wc_seq ?_
                  refine wc_region ?_
                  refine wl rfl (OP.ev rfl rfl (eMv rfl) ?_)
                  refine wl rfl (OP.ev rfl rfl (eMv rfl) ?_)
                  refine wl_skip rfl rfl rfl rfl rfl ?_
                  refine wl_skip rfl rfl rfl rfl rfl ?_
                  refine wl_skip rfl rfl rfl rfl rfl ?_
                  refine wl rfl (OP.ev rfl rfl (ePk rfl rfl) ?_)
                  refine wl rfl (OP.ev rfl rfl (eMv rfl) ?_)
                  refine wl_skip rfl rfl rfl rfl rfl ?_
                  refine wl_skip rfl rfl rfl rfl rfl ?_
                  refine wl_skip rfl rfl rfl rfl rfl ?_
                  refine wl rfl (OP.ev rfl rfl (ePk rfl rfl) ?_)
                  refine wl rfl (OP.ev rfl rfl (eMv rfl) ?_)
                  refine wl_skip rfl rfl rfl rfl rfl ?_
                  refine wl_skip rfl rfl rfl rfl rfl ?_
                  refine wl_skip rfl rfl rfl rfl rfl ?_
                  refine wl rfl (OP.ev rfl rfl (ePk rfl rfl) ?_)
                  refine wl rfl (OP.ev rfl rfl (eMv rfl) ?_)
                  refine wl_skip rfl rfl rfl rfl rfl ?_
                  refine wl_skip rfl rfl rfl rfl rfl ?_
                  refine wl_skip rfl rfl rfl rfl rfl ?_
                  refine wl_skip rfl rfl rfl rfl rfl ?_
                  refine wl rfl (OP.ev rfl rfl (ePk rfl rfl) ?_)
                  refine wl_nil ?_
                  refine wc_then rfl ?_
                  refine wc_seq ?_
                  refine wc_region ?_
                  refine wl rfl (OP.ev rfl rfl (eAs rfl) ?_)
                  refine wl rfl (OP.ev rfl rfl (eAs rfl) ?_)
                  refine wl_nil ?_
                  refine wc_ret ?_
                  apply at_ret rfl
                  · exact (.cons (.tmp rfl) (.cons (.tmp rfl) .nil))
                  · first
                    | exact .inl ⟨b16, w, cs, Ls, rfl, rfl, hrow, ⟨by omega, hI.ok, hI.up⟩, Classical.not_not.1 c_t143⟩
                    | exact .inr ⟨rfl, rfl, hI.fin (by omega) (.inl (by omega))⟩
                    | exact .inr ⟨rfl, rfl, hI.fin (by omega) (.inr c_t143)⟩
                    | exact .inr ⟨rfl, rfl, hI.bad (by omega) hrd (by show x0 < 1 ∨ x2 < 1 ∨ (0 < Ls.length ∧ x0 ≤ lastS Ls) ∨ x0 > 1099511627776 ∨ x1 > 1099511627776 ∨ x2 > 1099511627776 ∨ checkR (ofN [x0, x1, x2, x3, x4, x5, x6, x7, x8, x9, x10]).reply ≠ 0; first | omega | exact .inr (.inr (.inr (.inr (.inr (.inr c_t119))))))⟩
                  · exact (by repeat (first | exact Sel.all | exact Sel.none | (apply Sel.one; · repeat (first | exact Pick.h | apply Pick.t | apply Pick.app)) | apply Sel.app | (with_reducible apply Sel.grp; · repeat (first | exact PickF.h | apply PickF.t | apply PickF.a)) | (with_reducible refine Sel.nilF (by with_unfolding_all rfl) ?_) | apply Sel.drop | apply Sel.dropF)))
              | false =>
                try have c_t79 := df h79
                first
                | (exfalso; omega)
                | (
                  refine wa_takeg 9 (by kernel_rfl) rfl rfl rfl rfl rfl (by repeat (first | exact Sel.all | exact Sel.none | (apply Sel.one; · repeat (first | exact Pick.h | apply Pick.t | apply Pick.app)) | apply Sel.app | (with_reducible apply Sel.grp; · repeat (first | exact PickF.h | apply PickF.t | apply PickF.a)) | (with_reducible refine Sel.nilF (by with_unfolding_all rfl) ?_) | apply Sel.drop | apply Sel.dropF)) (eMv rfl) ?_
                  refine wa_takegb 10 (by kernel_rfl) rfl rfl rfl rfl rfl (by repeat (first | exact Sel.all | exact Sel.none | (apply Sel.one; · repeat (first | exact Pick.h | apply Pick.t | apply Pick.app)) | apply Sel.app | (with_reducible apply Sel.grp; · repeat (first | exact PickF.h | apply PickF.t | apply PickF.a)) | (with_reducible refine Sel.nilF (by with_unfolding_all rfl) ?_) | apply Sel.drop | apply Sel.dropF)) (eGt rfl rfl) fun t83 h83 => ?_
                  refine wa_takeg 11 (by kernel_rfl) rfl rfl rfl rfl rfl (by repeat (first | exact Sel.all | exact Sel.none | (apply Sel.one; · repeat (first | exact Pick.h | apply Pick.t | apply Pick.app)) | apply Sel.app | (with_reducible apply Sel.grp; · repeat (first | exact PickF.h | apply PickF.t | apply PickF.a)) | (with_reducible refine Sel.nilF (by with_unfolding_all rfl) ?_) | apply Sel.drop | apply Sel.dropF)) (eMv rfl) ?_
                  cases t83 with
                  | true =>
                    try have c_t83 := dt h83
                    first
                    | (exfalso; omega)
                    | (
                      refine wa_takeg 12 (by kernel_rfl) rfl rfl rfl rfl rfl (by repeat (first | exact Sel.all | exact Sel.none | (apply Sel.one; · repeat (first | exact Pick.h | apply Pick.t | apply Pick.app)) | apply Sel.app | (with_reducible apply Sel.grp; · repeat (first | exact PickF.h | apply PickF.t | apply PickF.a)) | (with_reducible refine Sel.nilF (by with_unfolding_all rfl) ?_) | apply Sel.drop | apply Sel.dropF)) (eMv rfl) ?_
                      refine wa_takeg 13 (by kernel_rfl) rfl rfl rfl rfl rfl (by repeat (first | exact Sel.all | exact Sel.none | (apply Sel.one; · repeat (first | exact Pick.h | apply Pick.t | apply Pick.app)) | apply Sel.app | (with_reducible apply Sel.grp; · repeat (first | exact PickF.h | apply PickF.t | apply PickF.a)) | (with_reducible refine Sel.nilF (by with_unfolding_all rfl) ?_) | apply Sel.drop | apply Sel.dropF)) (eNil rfl) ?_
                      refine wa_takeg 14 (by kernel_rfl) rfl rfl rfl rfl rfl (by repeat (first | exact Sel.all | exact Sel.none | (apply Sel.one; · repeat (first | exact Pick.h | apply Pick.t | apply Pick.app)) | apply Sel.app | (with_reducible apply Sel.grp; · repeat (first | exact PickF.h | apply PickF.t | apply PickF.a)) | (with_reducible refine Sel.nilF (by with_unfolding_all rfl) ?_) | apply Sel.drop | apply Sel.dropF)) (eFld 0 ty55 rfl rfl ty26 rfl) ?_
                      first | refine wa_takeg 15 (by kernel_rfl) rfl rfl rfl rfl rfl (by repeat (first | exact Sel.all | exact Sel.none | (apply Sel.one; · repeat (first | exact Pick.h | apply Pick.t | apply Pick.app)) | apply Sel.app | (with_reducible apply Sel.grp; · repeat (first | exact PickF.h | apply PickF.t | apply PickF.a)) | (with_reducible refine Sel.nilF (by with_unfolding_all rfl) ?_) | apply Sel.drop | apply Sel.dropF)) (eLd ty26 rfl rfl (by repeat (first | exact Has.h | apply Has.t | apply Has.app)) (by rfl)) ?_ | refine wa_takeg 15 (by kernel_rfl) rfl rfl rfl rfl rfl (by repeat (first | exact Sel.all | exact Sel.none | (apply Sel.one; · repeat (first | exact Pick.h | apply Pick.t | apply Pick.app)) | apply Sel.app | (with_reducible apply Sel.grp; · repeat (first | exact PickF.h | apply PickF.t | apply PickF.a)) | (with_reducible refine Sel.nilF (by with_unfolding_all rfl) ?_) | apply Sel.drop | apply Sel.dropF)) (eLdO ty26 rfl rfl (by assumption)) ?_
                      refine wa_takeg 16 (by kernel_rfl) rfl rfl rfl rfl rfl (by repeat (first | exact Sel.all | exact Sel.none | (apply Sel.one; · repeat (first | exact Pick.h | apply Pick.t | apply Pick.app)) | apply Sel.app | (with_reducible apply Sel.grp; · repeat (first | exact PickF.h | apply PickF.t | apply PickF.a)) | (with_reducible refine Sel.nilF (by with_unfolding_all rfl) ?_) | apply Sel.drop | apply Sel.dropF)) (eMv rfl) ?_
                      first | refine wa_takeg 17 (by kernel_rfl) rfl rfl rfl rfl rfl (by repeat (first | exact Sel.all | exact Sel.none | (apply Sel.one; · repeat (first | exact Pick.h | apply Pick.t | apply Pick.app)) | apply Sel.app | (with_reducible apply Sel.grp; · repeat (first | exact PickF.h | apply PickF.t | apply PickF.a)) | (with_reducible refine Sel.nilF (by with_unfolding_all rfl) ?_) | apply Sel.drop | apply Sel.dropF)) (eSub rfl rfl (by omega)) ?_ | refine wa_takeg 17 (by kernel_rfl) rfl rfl rfl rfl rfl (by repeat (first | exact Sel.all | exact Sel.none | (apply Sel.one; · repeat (first | exact Pick.h | apply Pick.t | apply Pick.app)) | apply Sel.app | (with_reducible apply Sel.grp; · repeat (first | exact PickF.h | apply PickF.t | apply PickF.a)) | (with_reducible refine Sel.nilF (by with_unfolding_all rfl) ?_) | apply Sel.drop | apply Sel.dropF)) (eSubW rfl rfl) ?_
                      refine wa_takeg 18 (by kernel_rfl) rfl rfl rfl rfl rfl (by repeat (first | exact Sel.all | exact Sel.none | (apply Sel.one; · repeat (first | exact Pick.h | apply Pick.t | apply Pick.app)) | apply Sel.app | (with_reducible apply Sel.grp; · repeat (first | exact PickF.h | apply PickF.t | apply PickF.a)) | (with_reducible refine Sel.nilF (by with_unfolding_all rfl) ?_) | apply Sel.drop | apply Sel.dropF)) (eIxRow ty26 ty35 rfl hrow rfl (by omega) (by omega)) ?_
                      refine wa_takeg 19 (by kernel_rfl) rfl rfl rfl rfl rfl (by repeat (first | exact Sel.all | exact Sel.none | (apply Sel.one; · repeat (first | exact Pick.h | apply Pick.t | apply Pick.app)) | apply Sel.app | (with_reducible apply Sel.grp; · repeat (first | exact PickF.h | apply PickF.t | apply PickF.a)) | (with_reducible refine Sel.nilF (by with_unfolding_all rfl) ?_) | apply Sel.drop | apply Sel.dropF)) (eFld 0 ty35 rfl rfl ty3 rfl) ?_
                      refine wa_takeg 20 (by kernel_rfl) rfl rfl rfl rfl rfl (by repeat (first | exact Sel.all | exact Sel.none | (apply Sel.one; · repeat (first | exact Pick.h | apply Pick.t | apply Pick.app)) | apply Sel.app | (with_reducible apply Sel.grp; · repeat (first | exact PickF.h | apply PickF.t | apply PickF.a)) | (with_reducible refine Sel.nilF (by with_unfolding_all rfl) ?_) | apply Sel.drop | apply Sel.dropF)) (eLdC (v := .int .i64 (lastS Ls)) ty3 rfl rfl (fun w1 hs1 => by have h9 := hrow.cell (P := Try.prog) (by repeat (first | exact At.cell | exact At.h | apply At.t | apply At.a)) (lastS_at (i := Ls.length - 1) (by omega)) w1 hs1; simpa using h9)) ?_
                      refine wa_takeg 21 (by kernel_rfl) rfl rfl rfl rfl rfl (by repeat (first | exact Sel.all | exact Sel.none | (apply Sel.one; · repeat (first | exact Pick.h | apply Pick.t | apply Pick.app)) | apply Sel.app | (with_reducible apply Sel.grp; · repeat (first | exact PickF.h | apply PickF.t | apply PickF.a)) | (with_reducible refine Sel.nilF (by with_unfolding_all rfl) ?_) | apply Sel.drop | apply Sel.dropF)) (eFld 0 ty35 rfl rfl ty3 rfl) ?_
                      first | refine wa_takeg 22 (by kernel_rfl) rfl rfl rfl rfl rfl (by repeat (first | exact Sel.all | exact Sel.none | (apply Sel.one; · repeat (first | exact Pick.h | apply Pick.t | apply Pick.app)) | apply Sel.app | (with_reducible apply Sel.grp; · repeat (first | exact PickF.h | apply PickF.t | apply PickF.a)) | (with_reducible refine Sel.nilF (by with_unfolding_all rfl) ?_) | apply Sel.drop | apply Sel.dropF)) (eLd ty3 rfl rfl (by repeat (first | exact Has.h | apply Has.t | apply Has.app)) (by rfl)) ?_ | refine wa_takeg 22 (by kernel_rfl) rfl rfl rfl rfl rfl (by repeat (first | exact Sel.all | exact Sel.none | (apply Sel.one; · repeat (first | exact Pick.h | apply Pick.t | apply Pick.app)) | apply Sel.app | (with_reducible apply Sel.grp; · repeat (first | exact PickF.h | apply PickF.t | apply PickF.a)) | (with_reducible refine Sel.nilF (by with_unfolding_all rfl) ?_) | apply Sel.drop | apply Sel.dropF)) (eLdO ty3 rfl rfl (by assumption)) ?_
                      refine wa_takegb 23 (by kernel_rfl) rfl rfl rfl rfl rfl (by repeat (first | exact Sel.all | exact Sel.none | (apply Sel.one; · repeat (first | exact Pick.h | apply Pick.t | apply Pick.app)) | apply Sel.app | (with_reducible apply Sel.grp; · repeat (first | exact PickF.h | apply PickF.t | apply PickF.a)) | (with_reducible refine Sel.nilF (by with_unfolding_all rfl) ?_) | apply Sel.drop | apply Sel.dropF)) (eGe rfl rfl) fun t96 h96 => ?_
                      refine wa_takeg 24 (by kernel_rfl) rfl rfl rfl rfl rfl (by repeat (first | exact Sel.all | exact Sel.none | (apply Sel.one; · repeat (first | exact Pick.h | apply Pick.t | apply Pick.app)) | apply Sel.app | (with_reducible apply Sel.grp; · repeat (first | exact PickF.h | apply PickF.t | apply PickF.a)) | (with_reducible refine Sel.nilF (by with_unfolding_all rfl) ?_) | apply Sel.drop | apply Sel.dropF)) (ePk rfl rfl) ?_
                      refine wa_take 25 (by kernel_rfl) rfl rfl rfl rfl (by repeat (first | exact Sel.all | exact Sel.none | (apply Sel.one; · repeat (first | exact Pick.h | apply Pick.t | apply Pick.app)) | apply Sel.app | (with_reducible apply Sel.grp; · repeat (first | exact PickF.h | apply PickF.t | apply PickF.a)) | (with_reducible refine Sel.nilF (by with_unfolding_all rfl) ?_) | apply Sel.drop | apply Sel.dropF)) (ePk rfl rfl) ?_
                      refine wa_take 26 (by kernel_rfl) rfl rfl rfl rfl (by repeat (first | exact Sel.all | exact Sel.none | (apply Sel.one; · repeat (first | exact Pick.h | apply Pick.t | apply Pick.app)) | apply Sel.app | (with_reducible apply Sel.grp; · repeat (first | exact PickF.h | apply PickF.t | apply PickF.a)) | (with_reducible refine Sel.nilF (by with_unfolding_all rfl) ?_) | apply Sel.drop | apply Sel.dropF)) (eAs rfl) ?_
                      refine wa_nil (by kernel_rfl) ?_
                      refine wc_seq ?_
                      refine wc_seq ?_
                      refine wc_region ?_
                      refine wl rfl (OP.ev rfl rfl (eMv rfl) ?_)
                      refine wl rfl (OP.ev rfl rfl (eMv rfl) ?_)
                      cases t96 with
                      | true =>
                        try have c_t96 := dt h96
                        first
                        | (exfalso; omega)
                        | (
                          refine wl_skip rfl rfl rfl rfl rfl ?_
                          refine wl_skip rfl rfl rfl rfl rfl ?_
                          refine wl_skip rfl rfl rfl rfl rfl ?_
                          refine wl rfl (OP.ev rfl rfl (ePk rfl rfl) ?_)
                          refine wl rfl (OP.ev rfl rfl (eMv rfl) ?_)
                          refine wl_skip rfl rfl rfl rfl rfl ?_
                          refine wl_skip rfl rfl rfl rfl rfl ?_
                          refine wl_skip rfl rfl rfl rfl rfl ?_
                          refine wl rfl (OP.ev rfl rfl (ePk rfl rfl) ?_)
                          refine wl rfl (OP.ev rfl rfl (eMv rfl) ?_)
                          refine wl_skip rfl rfl rfl rfl rfl ?_
                          refine wl_skip rfl rfl rfl rfl rfl ?_
                          refine wl_skip rfl rfl rfl rfl rfl ?_
                          refine wl rfl (OP.ev rfl rfl (ePk rfl rfl) ?_)
                          refine wl rfl (OP.ev rfl rfl (eMv rfl) ?_)
                          refine wl_skip rfl rfl rfl rfl rfl ?_
                          refine wl_skip rfl rfl rfl rfl rfl ?_
                          refine wl_skip rfl rfl rfl rfl rfl ?_
                          refine wl_skip rfl rfl rfl rfl rfl ?_
                          refine wl rfl (OP.ev rfl rfl (ePk rfl rfl) ?_)
                          refine wl_nil ?_
                          refine wc_then rfl ?_
                          refine wc_seq ?_
                          refine wc_region ?_
                          refine wl rfl (OP.ev rfl rfl (eAs rfl) ?_)
                          refine wl rfl (OP.ev rfl rfl (eAs rfl) ?_)
                          refine wl_nil ?_
                          refine wc_ret ?_
                          apply at_ret rfl
                          · exact (.cons (.tmp rfl) (.cons (.tmp rfl) .nil))
                          · first
                            | exact .inl ⟨b16, w, cs, Ls, rfl, rfl, hrow, ⟨by omega, hI.ok, hI.up⟩, Classical.not_not.1 c_t143⟩
                            | exact .inr ⟨rfl, rfl, hI.fin (by omega) (.inl (by omega))⟩
                            | exact .inr ⟨rfl, rfl, hI.fin (by omega) (.inr c_t143)⟩
                            | exact .inr ⟨rfl, rfl, hI.bad (by omega) hrd (by show x0 < 1 ∨ x2 < 1 ∨ (0 < Ls.length ∧ x0 ≤ lastS Ls) ∨ x0 > 1099511627776 ∨ x1 > 1099511627776 ∨ x2 > 1099511627776 ∨ checkR (ofN [x0, x1, x2, x3, x4, x5, x6, x7, x8, x9, x10]).reply ≠ 0; first | omega | exact .inr (.inr (.inr (.inr (.inr (.inr c_t119))))))⟩
                          · exact (by repeat (first | exact Sel.all | exact Sel.none | (apply Sel.one; · repeat (first | exact Pick.h | apply Pick.t | apply Pick.app)) | apply Sel.app | (with_reducible apply Sel.grp; · repeat (first | exact PickF.h | apply PickF.t | apply PickF.a)) | (with_reducible refine Sel.nilF (by with_unfolding_all rfl) ?_) | apply Sel.drop | apply Sel.dropF)))
                      | false =>
                        try have c_t96 := df h96
                        first
                        | (exfalso; omega)
                        | (
                          refine wl_go rfl rfl (OP.ev rfl rfl (eFld 0 ty35 rfl rfl ty3 rfl) ?_)
                          first | refine wl_go rfl rfl (OP.ev rfl rfl (eLd ty3 rfl rfl (by repeat (first | exact Has.h | apply Has.t | apply Has.app)) (by rfl)) ?_) | refine wl_go rfl rfl (OP.ev rfl rfl (eLdO ty3 rfl rfl (by assumption)) ?_)
                          refine wl_go rfl rfl (OP.evb rfl rfl (eGt rfl rfl) fun t103 h103 => ?_)
                          refine wl rfl (OP.ev rfl rfl (ePk rfl rfl) ?_)
                          refine wl rfl (OP.ev rfl rfl (eMv rfl) ?_)
                          cases t103 with
                          | true =>
                            try have c_t103 := dt h103
                            first
                            | (exfalso; omega)
                            | (
                              refine wl_skip rfl rfl rfl rfl rfl ?_
                              refine wl_skip rfl rfl rfl rfl rfl ?_
                              refine wl_skip rfl rfl rfl rfl rfl ?_
                              refine wl rfl (OP.ev rfl rfl (ePk rfl rfl) ?_)
                              refine wl rfl (OP.ev rfl rfl (eMv rfl) ?_)
                              refine wl_skip rfl rfl rfl rfl rfl ?_
                              refine wl_skip rfl rfl rfl rfl rfl ?_
                              refine wl_skip rfl rfl rfl rfl rfl ?_
                              refine wl rfl (OP.ev rfl rfl (ePk rfl rfl) ?_)
                              refine wl rfl (OP.ev rfl rfl (eMv rfl) ?_)
                              refine wl_skip rfl rfl rfl rfl rfl ?_
                              refine wl_skip rfl rfl rfl rfl rfl ?_
                              refine wl_skip rfl rfl rfl rfl rfl ?_
                              refine wl_skip rfl rfl rfl rfl rfl ?_
                              refine wl rfl (OP.ev rfl rfl (ePk rfl rfl) ?_)
                              refine wl_nil ?_
                              refine wc_then rfl ?_
                              refine wc_seq ?_
                              refine wc_region ?_
                              refine wl rfl (OP.ev rfl rfl (eAs rfl) ?_)
                              refine wl rfl (OP.ev rfl rfl (eAs rfl) ?_)
                              refine wl_nil ?_
                              refine wc_ret ?_
                              apply at_ret rfl
                              · exact (.cons (.tmp rfl) (.cons (.tmp rfl) .nil))
                              · first
                                | exact .inl ⟨b16, w, cs, Ls, rfl, rfl, hrow, ⟨by omega, hI.ok, hI.up⟩, Classical.not_not.1 c_t143⟩
                                | exact .inr ⟨rfl, rfl, hI.fin (by omega) (.inl (by omega))⟩
                                | exact .inr ⟨rfl, rfl, hI.fin (by omega) (.inr c_t143)⟩
                                | exact .inr ⟨rfl, rfl, hI.bad (by omega) hrd (by show x0 < 1 ∨ x2 < 1 ∨ (0 < Ls.length ∧ x0 ≤ lastS Ls) ∨ x0 > 1099511627776 ∨ x1 > 1099511627776 ∨ x2 > 1099511627776 ∨ checkR (ofN [x0, x1, x2, x3, x4, x5, x6, x7, x8, x9, x10]).reply ≠ 0; first | omega | exact .inr (.inr (.inr (.inr (.inr (.inr c_t119))))))⟩
                              · exact (by repeat (first | exact Sel.all | exact Sel.none | (apply Sel.one; · repeat (first | exact Pick.h | apply Pick.t | apply Pick.app)) | apply Sel.app | (with_reducible apply Sel.grp; · repeat (first | exact PickF.h | apply PickF.t | apply PickF.a)) | (with_reducible refine Sel.nilF (by with_unfolding_all rfl) ?_) | apply Sel.drop | apply Sel.dropF)))
                          | false =>
                            try have c_t103 := df h103
                            first
                            | (exfalso; omega)
                            | (
                              refine wl_go rfl rfl (OP.ev rfl rfl (eFld 1 ty35 rfl rfl ty3 rfl) ?_)
                              first | refine wl_go rfl rfl (OP.ev rfl rfl (eLd ty3 rfl rfl (by repeat (first | exact Has.h | apply Has.t | apply Has.app)) (by rfl)) ?_) | refine wl_go rfl rfl (OP.ev rfl rfl (eLdO ty3 rfl rfl (by assumption)) ?_)
                              refine wl_go rfl rfl (OP.evb rfl rfl (eGt rfl rfl) fun t108 h108 => ?_)
                              refine wl rfl (OP.ev rfl rfl (ePk rfl rfl) ?_)
                              refine wl rfl (OP.ev rfl rfl (eMv rfl) ?_)
                              cases t108 with
                              | true =>
                                try have c_t108 := dt h108
                                first
                                | (exfalso; omega)
                                | (
                                  refine wl_skip rfl rfl rfl rfl rfl ?_
                                  refine wl_skip rfl rfl rfl rfl rfl ?_
                                  refine wl_skip rfl rfl rfl rfl rfl ?_
                                  refine wl rfl (OP.ev rfl rfl (ePk rfl rfl) ?_)
                                  refine wl rfl (OP.ev rfl rfl (eMv rfl) ?_)
                                  refine wl_skip rfl rfl rfl rfl rfl ?_
                                  refine wl_skip rfl rfl rfl rfl rfl ?_
                                  refine wl_skip rfl rfl rfl rfl rfl ?_
                                  refine wl_skip rfl rfl rfl rfl rfl ?_
                                  refine wl rfl (OP.ev rfl rfl (ePk rfl rfl) ?_)
                                  refine wl_nil ?_
                                  refine wc_then rfl ?_
                                  refine wc_seq ?_
                                  refine wc_region ?_
                                  refine wl rfl (OP.ev rfl rfl (eAs rfl) ?_)
                                  refine wl rfl (OP.ev rfl rfl (eAs rfl) ?_)
                                  refine wl_nil ?_
                                  refine wc_ret ?_
                                  apply at_ret rfl
                                  · exact (.cons (.tmp rfl) (.cons (.tmp rfl) .nil))
                                  · first
                                    | exact .inl ⟨b16, w, cs, Ls, rfl, rfl, hrow, ⟨by omega, hI.ok, hI.up⟩, Classical.not_not.1 c_t143⟩
                                    | exact .inr ⟨rfl, rfl, hI.fin (by omega) (.inl (by omega))⟩
                                    | exact .inr ⟨rfl, rfl, hI.fin (by omega) (.inr c_t143)⟩
                                    | exact .inr ⟨rfl, rfl, hI.bad (by omega) hrd (by show x0 < 1 ∨ x2 < 1 ∨ (0 < Ls.length ∧ x0 ≤ lastS Ls) ∨ x0 > 1099511627776 ∨ x1 > 1099511627776 ∨ x2 > 1099511627776 ∨ checkR (ofN [x0, x1, x2, x3, x4, x5, x6, x7, x8, x9, x10]).reply ≠ 0; first | omega | exact .inr (.inr (.inr (.inr (.inr (.inr c_t119))))))⟩
                                  · exact (by repeat (first | exact Sel.all | exact Sel.none | (apply Sel.one; · repeat (first | exact Pick.h | apply Pick.t | apply Pick.app)) | apply Sel.app | (with_reducible apply Sel.grp; · repeat (first | exact PickF.h | apply PickF.t | apply PickF.a)) | (with_reducible refine Sel.nilF (by with_unfolding_all rfl) ?_) | apply Sel.drop | apply Sel.dropF)))
                              | false =>
                                try have c_t108 := df h108
                                first
                                | (exfalso; omega)
                                | (
                                  refine wl_go rfl rfl (OP.ev rfl rfl (eFld 2 ty35 rfl rfl ty3 rfl) ?_)
                                  first | refine wl_go rfl rfl (OP.ev rfl rfl (eLd ty3 rfl rfl (by repeat (first | exact Has.h | apply Has.t | apply Has.app)) (by rfl)) ?_) | refine wl_go rfl rfl (OP.ev rfl rfl (eLdO ty3 rfl rfl (by assumption)) ?_)
                                  refine wl_go rfl rfl (OP.evb rfl rfl (eGt rfl rfl) fun t113 h113 => ?_)
                                  refine wl rfl (OP.ev rfl rfl (ePk rfl rfl) ?_)
                                  refine wl rfl (OP.ev rfl rfl (eMv rfl) ?_)
                                  cases t113 with
                                  | true =>
                                    try have c_t113 := dt h113
                                    first
                                    | (exfalso; omega)
                                    | (
                                      refine wl_skip rfl rfl rfl rfl rfl ?_
                                      refine wl_skip rfl rfl rfl rfl rfl ?_
                                      refine wl_skip rfl rfl rfl rfl rfl ?_
                                      refine wl_skip rfl rfl rfl rfl rfl ?_
                                      refine wl rfl (OP.ev rfl rfl (ePk rfl rfl) ?_)
                                      refine wl_nil ?_
                                      refine wc_then rfl ?_
                                      refine wc_seq ?_
                                      refine wc_region ?_
                                      refine wl rfl (OP.ev rfl rfl (eAs rfl) ?_)
                                      refine wl rfl (OP.ev rfl rfl (eAs rfl) ?_)
                                      refine wl_nil ?_
                                      refine wc_ret ?_
                                      apply at_ret rfl
                                      · exact (.cons (.tmp rfl) (.cons (.tmp rfl) .nil))
                                      · first
                                        | exact .inl ⟨b16, w, cs, Ls, rfl, rfl, hrow, ⟨by omega, hI.ok, hI.up⟩, Classical.not_not.1 c_t143⟩
                                        | exact .inr ⟨rfl, rfl, hI.fin (by omega) (.inl (by omega))⟩
                                        | exact .inr ⟨rfl, rfl, hI.fin (by omega) (.inr c_t143)⟩
                                        | exact .inr ⟨rfl, rfl, hI.bad (by omega) hrd (by show x0 < 1 ∨ x2 < 1 ∨ (0 < Ls.length ∧ x0 ≤ lastS Ls) ∨ x0 > 1099511627776 ∨ x1 > 1099511627776 ∨ x2 > 1099511627776 ∨ checkR (ofN [x0, x1, x2, x3, x4, x5, x6, x7, x8, x9, x10]).reply ≠ 0; first | omega | exact .inr (.inr (.inr (.inr (.inr (.inr c_t119))))))⟩
                                      · exact (by repeat (first | exact Sel.all | exact Sel.none | (apply Sel.one; · repeat (first | exact Pick.h | apply Pick.t | apply Pick.app)) | apply Sel.app | (with_reducible apply Sel.grp; · repeat (first | exact PickF.h | apply PickF.t | apply PickF.a)) | (with_reducible refine Sel.nilF (by with_unfolding_all rfl) ?_) | apply Sel.drop | apply Sel.dropF)))
                                  | false =>
                                    try have c_t113 := df h113
                                    first
                                    | (exfalso; omega)
                                    | (
                                      refine wl_go rfl rfl (OP.ev rfl rfl (eFld 3 ty35 rfl rfl ty33 rfl) ?_)
                                      first | refine wl_go rfl rfl (OP.ev rfl rfl (eLdW ty33 rfl rfl (by repeat (first | exact Has.h | apply Has.t | apply Has.app)) (by rfl)) ?_) | refine wl_go rfl rfl (OP.ev rfl rfl (eLdA (vs := [_, _, _, _, _, _, _, _]) ty33 rfl rfl (by repeat (first | exact Has.h | apply Has.t | apply Has.app)) (by rfl) (by rfl)) ?_) | refine wl_go rfl rfl (OP.ev rfl rfl (eLdAO ty33 rfl rfl (by assumption) (by assumption)) ?_)
                                      refine wl_go rfl rfl (oC rfl pf38 rfl (rcheck_ok (ofN [x0, x1, x2, x3, x4, x5, x6, x7, x8, x9, x10]).reply _) (by repeat (first | exact Sel.all | exact Sel.none | (apply Sel.one; · repeat (first | exact Pick.h | apply Pick.t | apply Pick.app)) | apply Sel.app | (with_reducible apply Sel.grp; · repeat (first | exact PickF.h | apply PickF.t | apply PickF.a)) | (with_reducible refine Sel.nilF (by with_unfolding_all rfl) ?_) | apply Sel.drop | apply Sel.dropF)) ?_)
                                      rintro _ _ ⟨rfl, rfl⟩
                                      refine wl_go rfl rfl (OP.evb rfl rfl (eNe rfl rfl) fun t119 h119 => ?_)
                                      refine wl rfl (OP.ev rfl rfl (ePk rfl rfl) ?_)
                                      refine wl_nil ?_
                                      cases t119 with
                                      | true =>
                                        try have c_t119 := dt h119
                                        first
                                        | (exfalso; omega)
                                        | (
                                          refine wc_then rfl ?_
                                          refine wc_seq ?_
                                          refine wc_region ?_
                                          refine wl rfl (OP.ev rfl rfl (eAs rfl) ?_)
                                          refine wl rfl (OP.ev rfl rfl (eAs rfl) ?_)
                                          refine wl_nil ?_
                                          refine wc_ret ?_
                                          apply at_ret rfl
                                          · exact (.cons (.tmp rfl) (.cons (.tmp rfl) .nil))
                                          · first
                                            | exact .inl ⟨b16, w, cs, Ls, rfl, rfl, hrow, ⟨by omega, hI.ok, hI.up⟩, Classical.not_not.1 c_t143⟩
                                            | exact .inr ⟨rfl, rfl, hI.fin (by omega) (.inl (by omega))⟩
                                            | exact .inr ⟨rfl, rfl, hI.fin (by omega) (.inr c_t143)⟩
                                            | exact .inr ⟨rfl, rfl, hI.bad (by omega) hrd (by show x0 < 1 ∨ x2 < 1 ∨ (0 < Ls.length ∧ x0 ≤ lastS Ls) ∨ x0 > 1099511627776 ∨ x1 > 1099511627776 ∨ x2 > 1099511627776 ∨ checkR (ofN [x0, x1, x2, x3, x4, x5, x6, x7, x8, x9, x10]).reply ≠ 0; first | omega | exact .inr (.inr (.inr (.inr (.inr (.inr c_t119))))))⟩
                                          · exact (by repeat (first | exact Sel.all | exact Sel.none | (apply Sel.one; · repeat (first | exact Pick.h | apply Pick.t | apply Pick.app)) | apply Sel.app | (with_reducible apply Sel.grp; · repeat (first | exact PickF.h | apply PickF.t | apply PickF.a)) | (with_reducible refine Sel.nilF (by with_unfolding_all rfl) ?_) | apply Sel.drop | apply Sel.dropF)))
                                      | false =>
                                        try have c_t119 := df h119
                                        first
                                        | (exfalso; omega)
                                        | (
                                          refine wc_else rfl ?_
                                          refine wc_skip ?_
                                          have hok : SeatOk (ofN [x0, x1, x2, x3, x4, x5, x6, x7, x8, x9, x10]).session (ofN [x0, x1, x2, x3, x4, x5, x6, x7, x8, x9, x10]) := ⟨rfl, by show 1 ≤ x0; omega, by show x0 ≤ _; omega, by show 0 ≤ x1; omega, by show x1 ≤ _; omega, by show 1 ≤ x2; omega, by show x2 ≤ _; omega, by omega, trivial⟩
                                          have hlast : lastS Ls < (ofN [x0, x1, x2, x3, x4, x5, x6, x7, x8, x9, x10]).session := by
                                            show lastS Ls < x0
                                            rcases Nat.eq_zero_or_pos Ls.length with h0 | h0
                                            · rw [List.eq_nil_of_length_eq_zero h0]; show (0 : Int) < x0; omega
                                            · omega
                                          have hI2 := hI.step c_t19 hrd hlast hok
                                          refine wc_drawcut (σ := Value × Array Value) (fun q => [(0, .slice ad0 k00 c00), (4, ptr b12), (5, i64 n), (6, ptr b16), (7, i64 (Ls.length : Int))]) (fun q => rS b12 (.slice ad0 k00 c00) k11 e11 :: xC b16 q.1 :: (ownH q.1 q.2 35 ++ R)) (fun q => Row q.1 q.2 11 (Ls ++ [(ofN [x0, x1, x2, x3, x4, x5, x6, x7, x8, x9, x10])]).length (flat (Ls ++ [(ofN [x0, x1, x2, x3, x4, x5, x6, x7, x8, x9, x10])]))) [(b8, .cells (sC (ofN [x0, x1, x2, x3, x4, x5, x6, x7, x8, x9, x10])) 35 (0, 0))] rfl ?_ ?_
                                          · skip
                                            refine wa_take 0 (by kernel_rfl) rfl rfl rfl rfl (by repeat (first | exact Sel.all | exact Sel.none | (apply Sel.one; · repeat (first | exact Pick.h | apply Pick.t | apply Pick.app)) | apply Sel.app | (with_reducible apply Sel.grp; · repeat (first | exact PickF.h | apply PickF.t | apply PickF.a)) | (with_reducible refine Sel.nilF (by with_unfolding_all rfl) ?_) | apply Sel.drop | apply Sel.dropF)) (eMv rfl) ?_
                                            refine wa_take 1 (by kernel_rfl) rfl rfl rfl rfl (by repeat (first | exact Sel.all | exact Sel.none | (apply Sel.one; · repeat (first | exact Pick.h | apply Pick.t | apply Pick.app)) | apply Sel.app | (with_reducible apply Sel.grp; · repeat (first | exact PickF.h | apply PickF.t | apply PickF.a)) | (with_reducible refine Sel.nilF (by with_unfolding_all rfl) ?_) | apply Sel.drop | apply Sel.dropF)) (eMv rfl) ?_
                                            refine wa_take 2 (by kernel_rfl) rfl rfl rfl rfl (by repeat (first | exact Sel.all | exact Sel.none | (apply Sel.one; · repeat (first | exact Pick.h | apply Pick.t | apply Pick.app)) | apply Sel.app | (with_reducible apply Sel.grp; · repeat (first | exact PickF.h | apply PickF.t | apply PickF.a)) | (with_reducible refine Sel.nilF (by with_unfolding_all rfl) ?_) | apply Sel.drop | apply Sel.dropF)) (eNil rfl) ?_
                                            refine wa_take 3 (by kernel_rfl) rfl rfl rfl rfl (by repeat (first | exact Sel.all | exact Sel.none | (apply Sel.one; · repeat (first | exact Pick.h | apply Pick.t | apply Pick.app)) | apply Sel.app | (with_reducible apply Sel.grp; · repeat (first | exact PickF.h | apply PickF.t | apply PickF.a)) | (with_reducible refine Sel.nilF (by with_unfolding_all rfl) ?_) | apply Sel.drop | apply Sel.dropF)) (eFld 0 ty55 rfl rfl ty26 rfl) ?_
                                            first | refine wa_take 5 (by kernel_rfl) rfl rfl rfl rfl (by repeat (first | exact Sel.all | exact Sel.none | (apply Sel.one; · repeat (first | exact Pick.h | apply Pick.t | apply Pick.app)) | apply Sel.app | (with_reducible apply Sel.grp; · repeat (first | exact PickF.h | apply PickF.t | apply PickF.a)) | (with_reducible refine Sel.nilF (by with_unfolding_all rfl) ?_) | apply Sel.drop | apply Sel.dropF)) (eLdW ty35 rfl rfl (by repeat (first | exact Has.h | apply Has.t | apply Has.app)) (by rfl)) ?_ | refine wa_take 5 (by kernel_rfl) rfl rfl rfl rfl (by repeat (first | exact Sel.all | exact Sel.none | (apply Sel.one; · repeat (first | exact Pick.h | apply Pick.t | apply Pick.app)) | apply Sel.app | (with_reducible apply Sel.grp; · repeat (first | exact PickF.h | apply PickF.t | apply PickF.a)) | (with_reducible refine Sel.nilF (by with_unfolding_all rfl) ?_) | apply Sel.drop | apply Sel.dropF)) (eLdA (vs := [_, _, _, _, _, _, _, _, _, _, _]) ty35 rfl rfl (by repeat (first | exact Has.h | apply Has.t | apply Has.app)) (by rfl) (by rfl)) ?_ | refine wa_take 5 (by kernel_rfl) rfl rfl rfl rfl (by repeat (first | exact Sel.all | exact Sel.none | (apply Sel.one; · repeat (first | exact Pick.h | apply Pick.t | apply Pick.app)) | apply Sel.app | (with_reducible apply Sel.grp; · repeat (first | exact PickF.h | apply PickF.t | apply PickF.a)) | (with_reducible refine Sel.nilF (by with_unfolding_all rfl) ?_) | apply Sel.drop | apply Sel.dropF)) (eLdAO ty35 rfl rfl (by assumption) (by assumption)) ?_
                                            refine wa_all [4, 6] (by kernel_rfl) rfl ⟨⟨_, rfl, .inl rfl, ?_⟩, ⟨_, rfl, .inl rfl, ?_⟩, trivial⟩
                                            · skip
                                              refine OP.ev rfl rfl (eLd ty26 rfl rfl (by repeat (first | exact Has.h | apply Has.t | apply Has.app)) (by rfl)) ?_
                                              refine ⟨(by repeat (first | exact Sel.all | exact Sel.none | (apply Sel.one; · repeat (first | exact Pick.h | apply Pick.t | apply Pick.app)) | apply Sel.app | (with_reducible apply Sel.grp; · repeat (first | exact PickF.h | apply PickF.t | apply PickF.a)) | (with_reducible refine Sel.nilF (by with_unfolding_all rfl) ?_) | apply Sel.drop | apply Sel.dropF)), ?_⟩
                                              refine wa_all [6] (by kernel_rfl) rfl (wall_one 6 rfl rfl ?_ trivial)
                                              refine oBSw (vs := [_]) rfl ty26 ty35 rfl rfl rfl rfl rfl rfl fun b127 => ?_
                                              refine ⟨(by repeat (first | exact Sel.all | exact Sel.none | (apply Sel.one; · repeat (first | exact Pick.h | apply Pick.t | apply Pick.app)) | apply Sel.app | (with_reducible apply Sel.grp; · repeat (first | exact PickF.h | apply PickF.t | apply PickF.a)) | (with_reducible refine Sel.nilF (by with_unfolding_all rfl) ?_) | apply Sel.drop | apply Sel.dropF)), ?_⟩
                                              refine wa_all [7] (by kernel_rfl) rfl (wall_one 7 rfl rfl ?_ trivial)
                                              refine oApp (m := 1) (news := (sC (ofN [x0, x1, x2, x3, x4, x5, x6, x7, x8, x9, x10])).toList) rfl ty26 ty35 rfl rfl rfl hrow (by repeat (first | exact At.cell | exact At.h | apply At.t | apply At.a)) (Rs.mk (Rc.of_has (by repeat (first | exact Has.h | apply Has.t | apply Has.app)) rfl) rfl (Nat.le_refl _)) rfl (by omega) (by omega) ?_
                                              rintro v128 cs128 hrow128 _
                                              rw [show (sC (ofN [x0, x1, x2, x3, x4, x5, x6, x7, x8, x9, x10])).toList = flat [(ofN [x0, x1, x2, x3, x4, x5, x6, x7, x8, x9, x10])] by simp [flat], ← flat_app, show Ls.length + 1 = (Ls ++ [(ofN [x0, x1, x2, x3, x4, x5, x6, x7, x8, x9, x10])]).length by simp] at hrow128
                                              refine ⟨(by repeat (first | exact Sel.all | exact Sel.none | (apply Sel.one; · repeat (first | exact Pick.h | apply Pick.t | apply Pick.app)) | apply Sel.app | (with_reducible apply Sel.grp; · repeat (first | exact PickF.h | apply PickF.t | apply PickF.a)) | (with_reducible refine Sel.nilF (by with_unfolding_all rfl) ?_) | apply Sel.drop | apply Sel.dropF)), ?_⟩
                                              refine wa_take 8 (by kernel_rfl) rfl rfl rfl rfl (by repeat (first | exact Sel.all | exact Sel.none | (apply Sel.one; · repeat (first | exact Pick.h | apply Pick.t | apply Pick.app)) | apply Sel.app | (with_reducible apply Sel.grp; · repeat (first | exact PickF.h | apply PickF.t | apply PickF.a)) | (with_reducible refine Sel.nilF (by with_unfolding_all rfl) ?_) | apply Sel.drop | apply Sel.dropF)) (eNil rfl) ?_
                                              refine wa_take 9 (by kernel_rfl) rfl rfl rfl rfl (by repeat (first | exact Sel.all | exact Sel.none | (apply Sel.one; · repeat (first | exact Pick.h | apply Pick.t | apply Pick.app)) | apply Sel.app | (with_reducible apply Sel.grp; · repeat (first | exact PickF.h | apply PickF.t | apply PickF.a)) | (with_reducible refine Sel.nilF (by with_unfolding_all rfl) ?_) | apply Sel.drop | apply Sel.dropF)) (eFld 0 ty55 rfl rfl ty26 rfl) ?_
                                              refine wa_all [10] (by kernel_rfl) rfl (wall_one 10 rfl rfl ?_ trivial)
                                              refine oSt ty26 rfl rfl hrow128.one rfl (by repeat (first | exact Upd.h | apply Upd.t | apply Upd.app)) (by simp) (by rfl) ?_
                                              refine ⟨(by repeat (first | exact Sel.all | exact Sel.none | (apply Sel.one; · repeat (first | exact Pick.h | apply Pick.t | apply Pick.app)) | apply Sel.app | (with_reducible apply Sel.grp; · repeat (first | exact PickF.h | apply PickF.t | apply PickF.a)) | (with_reducible refine Sel.nilF (by with_unfolding_all rfl) ?_) | apply Sel.drop | apply Sel.dropF)), ?_⟩
                                              refine wa_nil (by kernel_rfl) ?_
                                              exact ⟨(v128, cs128), hrow128, ⟨rfl, rfl, rfl, rfl, rfl, trivial⟩, (by repeat (first | exact Sel.all | exact Sel.none | (apply Sel.one; · repeat (first | exact Pick.h | apply Pick.t | apply Pick.app)) | apply Sel.app | (with_reducible apply Sel.grp; · repeat (first | exact PickF.h | apply PickF.t | apply PickF.a)) | (with_reducible refine Sel.nilF (by with_unfolding_all rfl) ?_) | apply Sel.drop | apply Sel.dropF))⟩
                                            · skip
                                              refine oBSw (vs := [_]) rfl ty26 ty35 rfl rfl rfl rfl rfl rfl fun b127 => ?_
                                              refine ⟨(by repeat (first | exact Sel.all | exact Sel.none | (apply Sel.one; · repeat (first | exact Pick.h | apply Pick.t | apply Pick.app)) | apply Sel.app | (with_reducible apply Sel.grp; · repeat (first | exact PickF.h | apply PickF.t | apply PickF.a)) | (with_reducible refine Sel.nilF (by with_unfolding_all rfl) ?_) | apply Sel.drop | apply Sel.dropF)), ?_⟩
                                              refine wa_all [4] (by kernel_rfl) rfl (wall_one 4 rfl rfl ?_ trivial)
                                              refine OP.ev rfl rfl (eLd ty26 rfl rfl (by repeat (first | exact Has.h | apply Has.t | apply Has.app)) (by rfl)) ?_
                                              refine ⟨(by repeat (first | exact Sel.all | exact Sel.none | (apply Sel.one; · repeat (first | exact Pick.h | apply Pick.t | apply Pick.app)) | apply Sel.app | (with_reducible apply Sel.grp; · repeat (first | exact PickF.h | apply PickF.t | apply PickF.a)) | (with_reducible refine Sel.nilF (by with_unfolding_all rfl) ?_) | apply Sel.drop | apply Sel.dropF)), ?_⟩
                                              refine wa_all [7] (by kernel_rfl) rfl (wall_one 7 rfl rfl ?_ trivial)
                                              refine oApp (m := 1) (news := (sC (ofN [x0, x1, x2, x3, x4, x5, x6, x7, x8, x9, x10])).toList) rfl ty26 ty35 rfl rfl rfl hrow (by repeat (first | exact At.cell | exact At.h | apply At.t | apply At.a)) (Rs.mk (Rc.of_has (by repeat (first | exact Has.h | apply Has.t | apply Has.app)) rfl) rfl (Nat.le_refl _)) rfl (by omega) (by omega) ?_
                                              rintro v128 cs128 hrow128 _
                                              rw [show (sC (ofN [x0, x1, x2, x3, x4, x5, x6, x7, x8, x9, x10])).toList = flat [(ofN [x0, x1, x2, x3, x4, x5, x6, x7, x8, x9, x10])] by simp [flat], ← flat_app, show Ls.length + 1 = (Ls ++ [(ofN [x0, x1, x2, x3, x4, x5, x6, x7, x8, x9, x10])]).length by simp] at hrow128
                                              refine ⟨(by repeat (first | exact Sel.all | exact Sel.none | (apply Sel.one; · repeat (first | exact Pick.h | apply Pick.t | apply Pick.app)) | apply Sel.app | (with_reducible apply Sel.grp; · repeat (first | exact PickF.h | apply PickF.t | apply PickF.a)) | (with_reducible refine Sel.nilF (by with_unfolding_all rfl) ?_) | apply Sel.drop | apply Sel.dropF)), ?_⟩
                                              refine wa_take 8 (by kernel_rfl) rfl rfl rfl rfl (by repeat (first | exact Sel.all | exact Sel.none | (apply Sel.one; · repeat (first | exact Pick.h | apply Pick.t | apply Pick.app)) | apply Sel.app | (with_reducible apply Sel.grp; · repeat (first | exact PickF.h | apply PickF.t | apply PickF.a)) | (with_reducible refine Sel.nilF (by with_unfolding_all rfl) ?_) | apply Sel.drop | apply Sel.dropF)) (eNil rfl) ?_
                                              refine wa_take 9 (by kernel_rfl) rfl rfl rfl rfl (by repeat (first | exact Sel.all | exact Sel.none | (apply Sel.one; · repeat (first | exact Pick.h | apply Pick.t | apply Pick.app)) | apply Sel.app | (with_reducible apply Sel.grp; · repeat (first | exact PickF.h | apply PickF.t | apply PickF.a)) | (with_reducible refine Sel.nilF (by with_unfolding_all rfl) ?_) | apply Sel.drop | apply Sel.dropF)) (eFld 0 ty55 rfl rfl ty26 rfl) ?_
                                              refine wa_all [10] (by kernel_rfl) rfl (wall_one 10 rfl rfl ?_ trivial)
                                              refine oSt ty26 rfl rfl hrow128.one rfl (by repeat (first | exact Upd.h | apply Upd.t | apply Upd.app)) (by simp) (by rfl) ?_
                                              refine ⟨(by repeat (first | exact Sel.all | exact Sel.none | (apply Sel.one; · repeat (first | exact Pick.h | apply Pick.t | apply Pick.app)) | apply Sel.app | (with_reducible apply Sel.grp; · repeat (first | exact PickF.h | apply PickF.t | apply PickF.a)) | (with_reducible refine Sel.nilF (by with_unfolding_all rfl) ?_) | apply Sel.drop | apply Sel.dropF)), ?_⟩
                                              refine wa_nil (by kernel_rfl) ?_
                                              exact ⟨(v128, cs128), hrow128, ⟨rfl, rfl, rfl, rfl, rfl, trivial⟩, (by repeat (first | exact Sel.all | exact Sel.none | (apply Sel.one; · repeat (first | exact Pick.h | apply Pick.t | apply Pick.app)) | apply Sel.app | (with_reducible apply Sel.grp; · repeat (first | exact PickF.h | apply PickF.t | apply PickF.a)) | (with_reducible refine Sel.nilF (by with_unfolding_all rfl) ?_) | apply Sel.drop | apply Sel.dropF))⟩
                                          · rintro ⟨w2, cs2⟩ hrow2
                                            dsimp only at hrow2 ⊢
                                            refine wc_region ?_
                                            refine wl rfl (OP.ev rfl rfl (eMv rfl) ?_)
                                            first | refine wl rfl (OP.ev rfl rfl (eAdd rfl rfl (by omega)) ?_) | refine wl rfl (OP.ev rfl rfl (eAddW rfl rfl) ?_)
                                            refine wl rfl (OP.ev rfl rfl (eAs rfl) ?_)
                                            refine wl_nil ?_
                                            exact ⟨(Ls ++ [(ofN [x0, x1, x2, x3, x4, x5, x6, x7, x8, x9, x10])], k11, e11, w2, cs2), ⟨hle10.2.1, by simp; omega, hrow2, hI2⟩, by simp; omega, ⟨rfl, rfl, rfl, rfl, by show some (i64 _) = some (i64 _); congr 2; simp, trivial⟩, (by repeat (first | exact Sel.all | exact Sel.none | (apply Sel.one; · repeat (first | exact Pick.h | apply Pick.t | apply Pick.app)) | apply Sel.app | (with_reducible apply Sel.grp; · repeat (first | exact PickF.h | apply PickF.t | apply PickF.a)) | (with_reducible refine Sel.nilF (by with_unfolding_all rfl) ?_) | apply Sel.drop | apply Sel.dropF))⟩))))))
                  | false =>
                    try have c_t83 := df h83
                    first
                    | (exfalso; omega)
                    | (
                      refine wa_skip 12 (by kernel_rfl) rfl rfl rfl rfl rfl rfl (by repeat (first | exact Sel.all | exact Sel.none | (apply Sel.one; · repeat (first | exact Pick.h | apply Pick.t | apply Pick.app)) | apply Sel.app | (with_reducible apply Sel.grp; · repeat (first | exact PickF.h | apply PickF.t | apply PickF.a)) | (with_reducible refine Sel.nilF (by with_unfolding_all rfl) ?_) | apply Sel.drop | apply Sel.dropF)) ?_
                      refine wa_skip 13 (by kernel_rfl) rfl rfl rfl rfl rfl rfl (by repeat (first | exact Sel.all | exact Sel.none | (apply Sel.one; · repeat (first | exact Pick.h | apply Pick.t | apply Pick.app)) | apply Sel.app | (with_reducible apply Sel.grp; · repeat (first | exact PickF.h | apply PickF.t | apply PickF.a)) | (with_reducible refine Sel.nilF (by with_unfolding_all rfl) ?_) | apply Sel.drop | apply Sel.dropF)) ?_
                      refine wa_skip 14 (by kernel_rfl) rfl rfl rfl rfl rfl rfl (by repeat (first | exact Sel.all | exact Sel.none | (apply Sel.one; · repeat (first | exact Pick.h | apply Pick.t | apply Pick.app)) | apply Sel.app | (with_reducible apply Sel.grp; · repeat (first | exact PickF.h | apply PickF.t | apply PickF.a)) | (with_reducible refine Sel.nilF (by with_unfolding_all rfl) ?_) | apply Sel.drop | apply Sel.dropF)) ?_
                      refine wa_skip 15 (by kernel_rfl) rfl rfl rfl rfl rfl rfl (by repeat (first | exact Sel.all | exact Sel.none | (apply Sel.one; · repeat (first | exact Pick.h | apply Pick.t | apply Pick.app)) | apply Sel.app | (with_reducible apply Sel.grp; · repeat (first | exact PickF.h | apply PickF.t | apply PickF.a)) | (with_reducible refine Sel.nilF (by with_unfolding_all rfl) ?_) | apply Sel.drop | apply Sel.dropF)) ?_
                      refine wa_skip 16 (by kernel_rfl) rfl rfl rfl rfl rfl rfl (by repeat (first | exact Sel.all | exact Sel.none | (apply Sel.one; · repeat (first | exact Pick.h | apply Pick.t | apply Pick.app)) | apply Sel.app | (with_reducible apply Sel.grp; · repeat (first | exact PickF.h | apply PickF.t | apply PickF.a)) | (with_reducible refine Sel.nilF (by with_unfolding_all rfl) ?_) | apply Sel.drop | apply Sel.dropF)) ?_
                      refine wa_skip 17 (by kernel_rfl) rfl rfl rfl rfl rfl rfl (by repeat (first | exact Sel.all | exact Sel.none | (apply Sel.one; · repeat (first | exact Pick.h | apply Pick.t | apply Pick.app)) | apply Sel.app | (with_reducible apply Sel.grp; · repeat (first | exact PickF.h | apply PickF.t | apply PickF.a)) | (with_reducible refine Sel.nilF (by with_unfolding_all rfl) ?_) | apply Sel.drop | apply Sel.dropF)) ?_
                      refine wa_skip 18 (by kernel_rfl) rfl rfl rfl rfl rfl rfl (by repeat (first | exact Sel.all | exact Sel.none | (apply Sel.one; · repeat (first | exact Pick.h | apply Pick.t | apply Pick.app)) | apply Sel.app | (with_reducible apply Sel.grp; · repeat (first | exact PickF.h | apply PickF.t | apply PickF.a)) | (with_reducible refine Sel.nilF (by with_unfolding_all rfl) ?_) | apply Sel.drop | apply Sel.dropF)) ?_
                      refine wa_skip 19 (by kernel_rfl) rfl rfl rfl rfl rfl rfl (by repeat (first | exact Sel.all | exact Sel.none | (apply Sel.one; · repeat (first | exact Pick.h | apply Pick.t | apply Pick.app)) | apply Sel.app | (with_reducible apply Sel.grp; · repeat (first | exact PickF.h | apply PickF.t | apply PickF.a)) | (with_reducible refine Sel.nilF (by with_unfolding_all rfl) ?_) | apply Sel.drop | apply Sel.dropF)) ?_
                      refine wa_skip 20 (by kernel_rfl) rfl rfl rfl rfl rfl rfl (by repeat (first | exact Sel.all | exact Sel.none | (apply Sel.one; · repeat (first | exact Pick.h | apply Pick.t | apply Pick.app)) | apply Sel.app | (with_reducible apply Sel.grp; · repeat (first | exact PickF.h | apply PickF.t | apply PickF.a)) | (with_reducible refine Sel.nilF (by with_unfolding_all rfl) ?_) | apply Sel.drop | apply Sel.dropF)) ?_
                      refine wa_skip 21 (by kernel_rfl) rfl rfl rfl rfl rfl rfl (by repeat (first | exact Sel.all | exact Sel.none | (apply Sel.one; · repeat (first | exact Pick.h | apply Pick.t | apply Pick.app)) | apply Sel.app | (with_reducible apply Sel.grp; · repeat (first | exact PickF.h | apply PickF.t | apply PickF.a)) | (with_reducible refine Sel.nilF (by with_unfolding_all rfl) ?_) | apply Sel.drop | apply Sel.dropF)) ?_
                      refine wa_skip 22 (by kernel_rfl) rfl rfl rfl rfl rfl rfl (by repeat (first | exact Sel.all | exact Sel.none | (apply Sel.one; · repeat (first | exact Pick.h | apply Pick.t | apply Pick.app)) | apply Sel.app | (with_reducible apply Sel.grp; · repeat (first | exact PickF.h | apply PickF.t | apply PickF.a)) | (with_reducible refine Sel.nilF (by with_unfolding_all rfl) ?_) | apply Sel.drop | apply Sel.dropF)) ?_
                      refine wa_skip 23 (by kernel_rfl) rfl rfl rfl rfl rfl rfl (by repeat (first | exact Sel.all | exact Sel.none | (apply Sel.one; · repeat (first | exact Pick.h | apply Pick.t | apply Pick.app)) | apply Sel.app | (with_reducible apply Sel.grp; · repeat (first | exact PickF.h | apply PickF.t | apply PickF.a)) | (with_reducible refine Sel.nilF (by with_unfolding_all rfl) ?_) | apply Sel.drop | apply Sel.dropF)) ?_
                      refine wa_takeg 24 (by kernel_rfl) rfl rfl rfl rfl rfl (by repeat (first | exact Sel.all | exact Sel.none | (apply Sel.one; · repeat (first | exact Pick.h | apply Pick.t | apply Pick.app)) | apply Sel.app | (with_reducible apply Sel.grp; · repeat (first | exact PickF.h | apply PickF.t | apply PickF.a)) | (with_reducible refine Sel.nilF (by with_unfolding_all rfl) ?_) | apply Sel.drop | apply Sel.dropF)) (ePk rfl rfl) ?_
                      refine wa_take 25 (by kernel_rfl) rfl rfl rfl rfl (by repeat (first | exact Sel.all | exact Sel.none | (apply Sel.one; · repeat (first | exact Pick.h | apply Pick.t | apply Pick.app)) | apply Sel.app | (with_reducible apply Sel.grp; · repeat (first | exact PickF.h | apply PickF.t | apply PickF.a)) | (with_reducible refine Sel.nilF (by with_unfolding_all rfl) ?_) | apply Sel.drop | apply Sel.dropF)) (ePk rfl rfl) ?_
                      refine wa_take 26 (by kernel_rfl) rfl rfl rfl rfl (by repeat (first | exact Sel.all | exact Sel.none | (apply Sel.one; · repeat (first | exact Pick.h | apply Pick.t | apply Pick.app)) | apply Sel.app | (with_reducible apply Sel.grp; · repeat (first | exact PickF.h | apply PickF.t | apply PickF.a)) | (with_reducible refine Sel.nilF (by with_unfolding_all rfl) ?_) | apply Sel.drop | apply Sel.dropF)) (eAs rfl) ?_
                      refine wa_nil (by kernel_rfl) ?_
                      refine wc_seq ?_
                      refine wc_seq ?_
                      refine wc_region ?_
                      refine wl rfl (OP.ev rfl rfl (eMv rfl) ?_)
                      refine wl rfl (OP.ev rfl rfl (eMv rfl) ?_)
                      refine wl_go rfl rfl (OP.ev rfl rfl (eFld 0 ty35 rfl rfl ty3 rfl) ?_)
                      first | refine wl_go rfl rfl (OP.ev rfl rfl (eLd ty3 rfl rfl (by repeat (first | exact Has.h | apply Has.t | apply Has.app)) (by rfl)) ?_) | refine wl_go rfl rfl (OP.ev rfl rfl (eLdO ty3 rfl rfl (by assumption)) ?_)
                      refine wl_go rfl rfl (OP.evb rfl rfl (eGt rfl rfl) fun t103 h103 => ?_)
                      refine wl rfl (OP.ev rfl rfl (ePk rfl rfl) ?_)
                      refine wl rfl (OP.ev rfl rfl (eMv rfl) ?_)
                      cases t103 with
                      | true =>
                        try have c_t103 := dt h103
                        first
                        | (exfalso; omega)
                        | (
                          refine wl_skip rfl rfl rfl rfl rfl ?_
                          refine wl_skip rfl rfl rfl rfl rfl ?_
                          refine wl_skip rfl rfl rfl rfl rfl ?_
                          refine wl rfl (OP.ev rfl rfl (ePk rfl rfl) ?_)
                          refine wl rfl (OP.ev rfl rfl (eMv rfl) ?_)
                          refine wl_skip rfl rfl rfl rfl rfl ?_
                          refine wl_skip rfl rfl rfl rfl rfl ?_
                          refine wl_skip rfl rfl rfl rfl rfl ?_
                          refine wl rfl (OP.ev rfl rfl (ePk rfl rfl) ?_)
                          refine wl rfl (OP.ev rfl rfl (eMv rfl) ?_)
                          refine wl_skip rfl rfl rfl rfl rfl ?_
                          refine wl_skip rfl rfl rfl rfl rfl ?_
                          refine wl_skip rfl rfl rfl rfl rfl ?_
                          refine wl_skip rfl rfl rfl rfl rfl ?_
                          refine wl rfl (OP.ev rfl rfl (ePk rfl rfl) ?_)
                          refine wl_nil ?_
                          refine wc_then rfl ?_
                          refine wc_seq ?_
                          refine wc_region ?_
                          refine wl rfl (OP.ev rfl rfl (eAs rfl) ?_)
                          refine wl rfl (OP.ev rfl rfl (eAs rfl) ?_)
                          refine wl_nil ?_
                          refine wc_ret ?_
                          apply at_ret rfl
                          · exact (.cons (.tmp rfl) (.cons (.tmp rfl) .nil))
                          · first
                            | exact .inl ⟨b16, w, cs, Ls, rfl, rfl, hrow, ⟨by omega, hI.ok, hI.up⟩, Classical.not_not.1 c_t143⟩
                            | exact .inr ⟨rfl, rfl, hI.fin (by omega) (.inl (by omega))⟩
                            | exact .inr ⟨rfl, rfl, hI.fin (by omega) (.inr c_t143)⟩
                            | exact .inr ⟨rfl, rfl, hI.bad (by omega) hrd (by show x0 < 1 ∨ x2 < 1 ∨ (0 < Ls.length ∧ x0 ≤ lastS Ls) ∨ x0 > 1099511627776 ∨ x1 > 1099511627776 ∨ x2 > 1099511627776 ∨ checkR (ofN [x0, x1, x2, x3, x4, x5, x6, x7, x8, x9, x10]).reply ≠ 0; first | omega | exact .inr (.inr (.inr (.inr (.inr (.inr c_t119))))))⟩
                          · exact (by repeat (first | exact Sel.all | exact Sel.none | (apply Sel.one; · repeat (first | exact Pick.h | apply Pick.t | apply Pick.app)) | apply Sel.app | (with_reducible apply Sel.grp; · repeat (first | exact PickF.h | apply PickF.t | apply PickF.a)) | (with_reducible refine Sel.nilF (by with_unfolding_all rfl) ?_) | apply Sel.drop | apply Sel.dropF)))
                      | false =>
                        try have c_t103 := df h103
                        first
                        | (exfalso; omega)
                        | (
                          refine wl_go rfl rfl (OP.ev rfl rfl (eFld 1 ty35 rfl rfl ty3 rfl) ?_)
                          first | refine wl_go rfl rfl (OP.ev rfl rfl (eLd ty3 rfl rfl (by repeat (first | exact Has.h | apply Has.t | apply Has.app)) (by rfl)) ?_) | refine wl_go rfl rfl (OP.ev rfl rfl (eLdO ty3 rfl rfl (by assumption)) ?_)
                          refine wl_go rfl rfl (OP.evb rfl rfl (eGt rfl rfl) fun t108 h108 => ?_)
                          refine wl rfl (OP.ev rfl rfl (ePk rfl rfl) ?_)
                          refine wl rfl (OP.ev rfl rfl (eMv rfl) ?_)
                          cases t108 with
                          | true =>
                            try have c_t108 := dt h108
                            first
                            | (exfalso; omega)
                            | (
                              refine wl_skip rfl rfl rfl rfl rfl ?_
                              refine wl_skip rfl rfl rfl rfl rfl ?_
                              refine wl_skip rfl rfl rfl rfl rfl ?_
                              refine wl rfl (OP.ev rfl rfl (ePk rfl rfl) ?_)
                              refine wl rfl (OP.ev rfl rfl (eMv rfl) ?_)
                              refine wl_skip rfl rfl rfl rfl rfl ?_
                              refine wl_skip rfl rfl rfl rfl rfl ?_
                              refine wl_skip rfl rfl rfl rfl rfl ?_
                              refine wl_skip rfl rfl rfl rfl rfl ?_
                              refine wl rfl (OP.ev rfl rfl (ePk rfl rfl) ?_)
                              refine wl_nil ?_
                              refine wc_then rfl ?_
                              refine wc_seq ?_
                              refine wc_region ?_
                              refine wl rfl (OP.ev rfl rfl (eAs rfl) ?_)
                              refine wl rfl (OP.ev rfl rfl (eAs rfl) ?_)
                              refine wl_nil ?_
                              refine wc_ret ?_
                              apply at_ret rfl
                              · exact (.cons (.tmp rfl) (.cons (.tmp rfl) .nil))
                              · first
                                | exact .inl ⟨b16, w, cs, Ls, rfl, rfl, hrow, ⟨by omega, hI.ok, hI.up⟩, Classical.not_not.1 c_t143⟩
                                | exact .inr ⟨rfl, rfl, hI.fin (by omega) (.inl (by omega))⟩
                                | exact .inr ⟨rfl, rfl, hI.fin (by omega) (.inr c_t143)⟩
                                | exact .inr ⟨rfl, rfl, hI.bad (by omega) hrd (by show x0 < 1 ∨ x2 < 1 ∨ (0 < Ls.length ∧ x0 ≤ lastS Ls) ∨ x0 > 1099511627776 ∨ x1 > 1099511627776 ∨ x2 > 1099511627776 ∨ checkR (ofN [x0, x1, x2, x3, x4, x5, x6, x7, x8, x9, x10]).reply ≠ 0; first | omega | exact .inr (.inr (.inr (.inr (.inr (.inr c_t119))))))⟩
                              · exact (by repeat (first | exact Sel.all | exact Sel.none | (apply Sel.one; · repeat (first | exact Pick.h | apply Pick.t | apply Pick.app)) | apply Sel.app | (with_reducible apply Sel.grp; · repeat (first | exact PickF.h | apply PickF.t | apply PickF.a)) | (with_reducible refine Sel.nilF (by with_unfolding_all rfl) ?_) | apply Sel.drop | apply Sel.dropF)))
                          | false =>
                            try have c_t108 := df h108
                            first
                            | (exfalso; omega)
                            | (
                              refine wl_go rfl rfl (OP.ev rfl rfl (eFld 2 ty35 rfl rfl ty3 rfl) ?_)
                              first | refine wl_go rfl rfl (OP.ev rfl rfl (eLd ty3 rfl rfl (by repeat (first | exact Has.h | apply Has.t | apply Has.app)) (by rfl)) ?_) | refine wl_go rfl rfl (OP.ev rfl rfl (eLdO ty3 rfl rfl (by assumption)) ?_)
                              refine wl_go rfl rfl (OP.evb rfl rfl (eGt rfl rfl) fun t113 h113 => ?_)
                              refine wl rfl (OP.ev rfl rfl (ePk rfl rfl) ?_)
                              refine wl rfl (OP.ev rfl rfl (eMv rfl) ?_)
                              cases t113 with
                              | true =>
                                try have c_t113 := dt h113
                                first
                                | (exfalso; omega)
                                | (
                                  refine wl_skip rfl rfl rfl rfl rfl ?_
                                  refine wl_skip rfl rfl rfl rfl rfl ?_
                                  refine wl_skip rfl rfl rfl rfl rfl ?_
                                  refine wl_skip rfl rfl rfl rfl rfl ?_
                                  refine wl rfl (OP.ev rfl rfl (ePk rfl rfl) ?_)
                                  refine wl_nil ?_
                                  refine wc_then rfl ?_
                                  refine wc_seq ?_
                                  refine wc_region ?_
                                  refine wl rfl (OP.ev rfl rfl (eAs rfl) ?_)
                                  refine wl rfl (OP.ev rfl rfl (eAs rfl) ?_)
                                  refine wl_nil ?_
                                  refine wc_ret ?_
                                  apply at_ret rfl
                                  · exact (.cons (.tmp rfl) (.cons (.tmp rfl) .nil))
                                  · first
                                    | exact .inl ⟨b16, w, cs, Ls, rfl, rfl, hrow, ⟨by omega, hI.ok, hI.up⟩, Classical.not_not.1 c_t143⟩
                                    | exact .inr ⟨rfl, rfl, hI.fin (by omega) (.inl (by omega))⟩
                                    | exact .inr ⟨rfl, rfl, hI.fin (by omega) (.inr c_t143)⟩
                                    | exact .inr ⟨rfl, rfl, hI.bad (by omega) hrd (by show x0 < 1 ∨ x2 < 1 ∨ (0 < Ls.length ∧ x0 ≤ lastS Ls) ∨ x0 > 1099511627776 ∨ x1 > 1099511627776 ∨ x2 > 1099511627776 ∨ checkR (ofN [x0, x1, x2, x3, x4, x5, x6, x7, x8, x9, x10]).reply ≠ 0; first | omega | exact .inr (.inr (.inr (.inr (.inr (.inr c_t119))))))⟩
                                  · exact (by repeat (first | exact Sel.all | exact Sel.none | (apply Sel.one; · repeat (first | exact Pick.h | apply Pick.t | apply Pick.app)) | apply Sel.app | (with_reducible apply Sel.grp; · repeat (first | exact PickF.h | apply PickF.t | apply PickF.a)) | (with_reducible refine Sel.nilF (by with_unfolding_all rfl) ?_) | apply Sel.drop | apply Sel.dropF)))
                              | false =>
                                try have c_t113 := df h113
                                first
                                | (exfalso; omega)
                                | (
                                  refine wl_go rfl rfl (OP.ev rfl rfl (eFld 3 ty35 rfl rfl ty33 rfl) ?_)
                                  first | refine wl_go rfl rfl (OP.ev rfl rfl (eLdW ty33 rfl rfl (by repeat (first | exact Has.h | apply Has.t | apply Has.app)) (by rfl)) ?_) | refine wl_go rfl rfl (OP.ev rfl rfl (eLdA (vs := [_, _, _, _, _, _, _, _]) ty33 rfl rfl (by repeat (first | exact Has.h | apply Has.t | apply Has.app)) (by rfl) (by rfl)) ?_) | refine wl_go rfl rfl (OP.ev rfl rfl (eLdAO ty33 rfl rfl (by assumption) (by assumption)) ?_)
                                  refine wl_go rfl rfl (oC rfl pf38 rfl (rcheck_ok (ofN [x0, x1, x2, x3, x4, x5, x6, x7, x8, x9, x10]).reply _) (by repeat (first | exact Sel.all | exact Sel.none | (apply Sel.one; · repeat (first | exact Pick.h | apply Pick.t | apply Pick.app)) | apply Sel.app | (with_reducible apply Sel.grp; · repeat (first | exact PickF.h | apply PickF.t | apply PickF.a)) | (with_reducible refine Sel.nilF (by with_unfolding_all rfl) ?_) | apply Sel.drop | apply Sel.dropF)) ?_)
                                  rintro _ _ ⟨rfl, rfl⟩
                                  refine wl_go rfl rfl (OP.evb rfl rfl (eNe rfl rfl) fun t119 h119 => ?_)
                                  refine wl rfl (OP.ev rfl rfl (ePk rfl rfl) ?_)
                                  refine wl_nil ?_
                                  cases t119 with
                                  | true =>
                                    try have c_t119 := dt h119
                                    first
                                    | (exfalso; omega)
                                    | (
                                      refine wc_then rfl ?_
                                      refine wc_seq ?_
                                      refine wc_region ?_
                                      refine wl rfl (OP.ev rfl rfl (eAs rfl) ?_)
                                      refine wl rfl (OP.ev rfl rfl (eAs rfl) ?_)
                                      refine wl_nil ?_
                                      refine wc_ret ?_
                                      apply at_ret rfl
                                      · exact (.cons (.tmp rfl) (.cons (.tmp rfl) .nil))
                                      · first
                                        | exact .inl ⟨b16, w, cs, Ls, rfl, rfl, hrow, ⟨by omega, hI.ok, hI.up⟩, Classical.not_not.1 c_t143⟩
                                        | exact .inr ⟨rfl, rfl, hI.fin (by omega) (.inl (by omega))⟩
                                        | exact .inr ⟨rfl, rfl, hI.fin (by omega) (.inr c_t143)⟩
                                        | exact .inr ⟨rfl, rfl, hI.bad (by omega) hrd (by show x0 < 1 ∨ x2 < 1 ∨ (0 < Ls.length ∧ x0 ≤ lastS Ls) ∨ x0 > 1099511627776 ∨ x1 > 1099511627776 ∨ x2 > 1099511627776 ∨ checkR (ofN [x0, x1, x2, x3, x4, x5, x6, x7, x8, x9, x10]).reply ≠ 0; first | omega | exact .inr (.inr (.inr (.inr (.inr (.inr c_t119))))))⟩
                                      · exact (by repeat (first | exact Sel.all | exact Sel.none | (apply Sel.one; · repeat (first | exact Pick.h | apply Pick.t | apply Pick.app)) | apply Sel.app | (with_reducible apply Sel.grp; · repeat (first | exact PickF.h | apply PickF.t | apply PickF.a)) | (with_reducible refine Sel.nilF (by with_unfolding_all rfl) ?_) | apply Sel.drop | apply Sel.dropF)))
                                  | false =>
                                    try have c_t119 := df h119
                                    first
                                    | (exfalso; omega)
                                    | (
                                      refine wc_else rfl ?_
                                      refine wc_skip ?_
                                      have hok : SeatOk (ofN [x0, x1, x2, x3, x4, x5, x6, x7, x8, x9, x10]).session (ofN [x0, x1, x2, x3, x4, x5, x6, x7, x8, x9, x10]) := ⟨rfl, by show 1 ≤ x0; omega, by show x0 ≤ _; omega, by show 0 ≤ x1; omega, by show x1 ≤ _; omega, by show 1 ≤ x2; omega, by show x2 ≤ _; omega, by omega, trivial⟩
                                      have hlast : lastS Ls < (ofN [x0, x1, x2, x3, x4, x5, x6, x7, x8, x9, x10]).session := by
                                        show lastS Ls < x0
                                        rcases Nat.eq_zero_or_pos Ls.length with h0 | h0
                                        · rw [List.eq_nil_of_length_eq_zero h0]; show (0 : Int) < x0; omega
                                        · omega
                                      have hI2 := hI.step c_t19 hrd hlast hok
                                      refine wc_drawcut (σ := Value × Array Value) (fun q => [(0, .slice ad0 k00 c00), (4, ptr b12), (5, i64 n), (6, ptr b16), (7, i64 (Ls.length : Int))]) (fun q => rS b12 (.slice ad0 k00 c00) k11 e11 :: xC b16 q.1 :: (ownH q.1 q.2 35 ++ R)) (fun q => Row q.1 q.2 11 (Ls ++ [(ofN [x0, x1, x2, x3, x4, x5, x6, x7, x8, x9, x10])]).length (flat (Ls ++ [(ofN [x0, x1, x2, x3, x4, x5, x6, x7, x8, x9, x10])]))) [(b8, .cells (sC (ofN [x0, x1, x2, x3, x4, x5, x6, x7, x8, x9, x10])) 35 (0, 0))] rfl ?_ ?_
                                      · skip
                                        refine wa_take 0 (by kernel_rfl) rfl rfl rfl rfl (by repeat (first | exact Sel.all | exact Sel.none | (apply Sel.one; · repeat (first | exact Pick.h | apply Pick.t | apply Pick.app)) | apply Sel.app | (with_reducible apply Sel.grp; · repeat (first | exact PickF.h | apply PickF.t | apply PickF.a)) | (with_reducible refine Sel.nilF (by with_unfolding_all rfl) ?_) | apply Sel.drop | apply Sel.dropF)) (eMv rfl) ?_
                                        refine wa_take 1 (by kernel_rfl) rfl rfl rfl rfl (by repeat (first | exact Sel.all | exact Sel.none | (apply Sel.one; · repeat (first | exact Pick.h | apply Pick.t | apply Pick.app)) | apply Sel.app | (with_reducible apply Sel.grp; · repeat (first | exact PickF.h | apply PickF.t | apply PickF.a)) | (with_reducible refine Sel.nilF (by with_unfolding_all rfl) ?_) | apply Sel.drop | apply Sel.dropF)) (eMv rfl) ?_
                                        refine wa_take 2 (by kernel_rfl) rfl rfl rfl rfl (by repeat (first | exact Sel.all | exact Sel.none | (apply Sel.one; · repeat (first | exact Pick.h | apply Pick.t | apply Pick.app)) | apply Sel.app | (with_reducible apply Sel.grp; · repeat (first | exact PickF.h | apply PickF.t | apply PickF.a)) | (with_reducible refine Sel.nilF (by with_unfolding_all rfl) ?_) | apply Sel.drop | apply Sel.dropF)) (eNil rfl) ?_
                                        refine wa_take 3 (by kernel_rfl) rfl rfl rfl rfl (by repeat (first | exact Sel.all | exact Sel.none | (apply Sel.one; · repeat (first | exact Pick.h | apply Pick.t | apply Pick.app)) | apply Sel.app | (with_reducible apply Sel.grp; · repeat (first | exact PickF.h | apply PickF.t | apply PickF.a)) | (with_reducible refine Sel.nilF (by with_unfolding_all rfl) ?_) | apply Sel.drop | apply Sel.dropF)) (eFld 0 ty55 rfl rfl ty26 rfl) ?_
                                        first | refine wa_take 5 (by kernel_rfl) rfl rfl rfl rfl (by repeat (first | exact Sel.all | exact Sel.none | (apply Sel.one; · repeat (first | exact Pick.h | apply Pick.t | apply Pick.app)) | apply Sel.app | (with_reducible apply Sel.grp; · repeat (first | exact PickF.h | apply PickF.t | apply PickF.a)) | (with_reducible refine Sel.nilF (by with_unfolding_all rfl) ?_) | apply Sel.drop | apply Sel.dropF)) (eLdW ty35 rfl rfl (by repeat (first | exact Has.h | apply Has.t | apply Has.app)) (by rfl)) ?_ | refine wa_take 5 (by kernel_rfl) rfl rfl rfl rfl (by repeat (first | exact Sel.all | exact Sel.none | (apply Sel.one; · repeat (first | exact Pick.h | apply Pick.t | apply Pick.app)) | apply Sel.app | (with_reducible apply Sel.grp; · repeat (first | exact PickF.h | apply PickF.t | apply PickF.a)) | (with_reducible refine Sel.nilF (by with_unfolding_all rfl) ?_) | apply Sel.drop | apply Sel.dropF)) (eLdA (vs := [_, _, _, _, _, _, _, _, _, _, _]) ty35 rfl rfl (by repeat (first | exact Has.h | apply Has.t | apply Has.app)) (by rfl) (by rfl)) ?_ | refine wa_take 5 (by kernel_rfl) rfl rfl rfl rfl (by repeat (first | exact Sel.all | exact Sel.none | (apply Sel.one; · repeat (first | exact Pick.h | apply Pick.t | apply Pick.app)) | apply Sel.app | (with_reducible apply Sel.grp; · repeat (first | exact PickF.h | apply PickF.t | apply PickF.a)) | (with_reducible refine Sel.nilF (by with_unfolding_all rfl) ?_) | apply Sel.drop | apply Sel.dropF)) (eLdAO ty35 rfl rfl (by assumption) (by assumption)) ?_
                                        refine wa_all [4, 6] (by kernel_rfl) rfl ⟨⟨_, rfl, .inl rfl, ?_⟩, ⟨_, rfl, .inl rfl, ?_⟩, trivial⟩
                                        · skip
                                          refine OP.ev rfl rfl (eLd ty26 rfl rfl (by repeat (first | exact Has.h | apply Has.t | apply Has.app)) (by rfl)) ?_
                                          refine ⟨(by repeat (first | exact Sel.all | exact Sel.none | (apply Sel.one; · repeat (first | exact Pick.h | apply Pick.t | apply Pick.app)) | apply Sel.app | (with_reducible apply Sel.grp; · repeat (first | exact PickF.h | apply PickF.t | apply PickF.a)) | (with_reducible refine Sel.nilF (by with_unfolding_all rfl) ?_) | apply Sel.drop | apply Sel.dropF)), ?_⟩
                                          refine wa_all [6] (by kernel_rfl) rfl (wall_one 6 rfl rfl ?_ trivial)
                                          refine oBSw (vs := [_]) rfl ty26 ty35 rfl rfl rfl rfl rfl rfl fun b127 => ?_
                                          refine ⟨(by repeat (first | exact Sel.all | exact Sel.none | (apply Sel.one; · repeat (first | exact Pick.h | apply Pick.t | apply Pick.app)) | apply Sel.app | (with_reducible apply Sel.grp; · repeat (first | exact PickF.h | apply PickF.t | apply PickF.a)) | (with_reducible refine Sel.nilF (by with_unfolding_all rfl) ?_) | apply Sel.drop | apply Sel.dropF)), ?_⟩
                                          refine wa_all [7] (by kernel_rfl) rfl (wall_one 7 rfl rfl ?_ trivial)
                                          refine oApp (m := 1) (news := (sC (ofN [x0, x1, x2, x3, x4, x5, x6, x7, x8, x9, x10])).toList) rfl ty26 ty35 rfl rfl rfl hrow (by repeat (first | exact At.cell | exact At.h | apply At.t | apply At.a)) (Rs.mk (Rc.of_has (by repeat (first | exact Has.h | apply Has.t | apply Has.app)) rfl) rfl (Nat.le_refl _)) rfl (by omega) (by omega) ?_
                                          rintro v128 cs128 hrow128 _
                                          rw [show (sC (ofN [x0, x1, x2, x3, x4, x5, x6, x7, x8, x9, x10])).toList = flat [(ofN [x0, x1, x2, x3, x4, x5, x6, x7, x8, x9, x10])] by simp [flat], ← flat_app, show Ls.length + 1 = (Ls ++ [(ofN [x0, x1, x2, x3, x4, x5, x6, x7, x8, x9, x10])]).length by simp] at hrow128
                                          refine ⟨(by repeat (first | exact Sel.all | exact Sel.none | (apply Sel.one; · repeat (first | exact Pick.h | apply Pick.t | apply Pick.app)) | apply Sel.app | (with_reducible apply Sel.grp; · repeat (first | exact PickF.h | apply PickF.t | apply PickF.a)) | (with_reducible refine Sel.nilF (by with_unfolding_all rfl) ?_) | apply Sel.drop | apply Sel.dropF)), ?_⟩
                                          refine wa_take 8 (by kernel_rfl) rfl rfl rfl rfl (by repeat (first | exact Sel.all | exact Sel.none | (apply Sel.one; · repeat (first | exact Pick.h | apply Pick.t | apply Pick.app)) | apply Sel.app | (with_reducible apply Sel.grp; · repeat (first | exact PickF.h | apply PickF.t | apply PickF.a)) | (with_reducible refine Sel.nilF (by with_unfolding_all rfl) ?_) | apply Sel.drop | apply Sel.dropF)) (eNil rfl) ?_
                                          refine wa_take 9 (by kernel_rfl) rfl rfl rfl rfl (by repeat (first | exact Sel.all | exact Sel.none | (apply Sel.one; · repeat (first | exact Pick.h | apply Pick.t | apply Pick.app)) | apply Sel.app | (with_reducible apply Sel.grp; · repeat (first | exact PickF.h | apply PickF.t | apply PickF.a)) | (with_reducible refine Sel.nilF (by with_unfolding_all rfl) ?_) | apply Sel.drop | apply Sel.dropF)) (eFld 0 ty55 rfl rfl ty26 rfl) ?_
                                          refine wa_all [10] (by kernel_rfl) rfl (wall_one 10 rfl rfl ?_ trivial)
                                          refine oSt ty26 rfl rfl hrow128.one rfl (by repeat (first | exact Upd.h | apply Upd.t | apply Upd.app)) (by simp) (by rfl) ?_
                                          refine ⟨(by repeat (first | exact Sel.all | exact Sel.none | (apply Sel.one; · repeat (first | exact Pick.h | apply Pick.t | apply Pick.app)) | apply Sel.app | (with_reducible apply Sel.grp; · repeat (first | exact PickF.h | apply PickF.t | apply PickF.a)) | (with_reducible refine Sel.nilF (by with_unfolding_all rfl) ?_) | apply Sel.drop | apply Sel.dropF)), ?_⟩
                                          refine wa_nil (by kernel_rfl) ?_
                                          exact ⟨(v128, cs128), hrow128, ⟨rfl, rfl, rfl, rfl, rfl, trivial⟩, (by repeat (first | exact Sel.all | exact Sel.none | (apply Sel.one; · repeat (first | exact Pick.h | apply Pick.t | apply Pick.app)) | apply Sel.app | (with_reducible apply Sel.grp; · repeat (first | exact PickF.h | apply PickF.t | apply PickF.a)) | (with_reducible refine Sel.nilF (by with_unfolding_all rfl) ?_) | apply Sel.drop | apply Sel.dropF))⟩
                                        · skip
                                          refine oBSw (vs := [_]) rfl ty26 ty35 rfl rfl rfl rfl rfl rfl fun b127 => ?_
                                          refine ⟨(by repeat (first | exact Sel.all | exact Sel.none | (apply Sel.one; · repeat (first | exact Pick.h | apply Pick.t | apply Pick.app)) | apply Sel.app | (with_reducible apply Sel.grp; · repeat (first | exact PickF.h | apply PickF.t | apply PickF.a)) | (with_reducible refine Sel.nilF (by with_unfolding_all rfl) ?_) | apply Sel.drop | apply Sel.dropF)), ?_⟩
                                          refine wa_all [4] (by kernel_rfl) rfl (wall_one 4 rfl rfl ?_ trivial)
                                          refine OP.ev rfl rfl (eLd ty26 rfl rfl (by repeat (first | exact Has.h | apply Has.t | apply Has.app)) (by rfl)) ?_
                                          refine ⟨(by repeat (first | exact Sel.all | exact Sel.none | (apply Sel.one; · repeat (first | exact Pick.h | apply Pick.t | apply Pick.app)) | apply Sel.app | (with_reducible apply Sel.grp; · repeat (first | exact PickF.h | apply PickF.t | apply PickF.a)) | (with_reducible refine Sel.nilF (by with_unfolding_all rfl) ?_) | apply Sel.drop | apply Sel.dropF)), ?_⟩
                                          refine wa_all [7] (by kernel_rfl) rfl (wall_one 7 rfl rfl ?_ trivial)
                                          refine oApp (m := 1) (news := (sC (ofN [x0, x1, x2, x3, x4, x5, x6, x7, x8, x9, x10])).toList) rfl ty26 ty35 rfl rfl rfl hrow (by repeat (first | exact At.cell | exact At.h | apply At.t | apply At.a)) (Rs.mk (Rc.of_has (by repeat (first | exact Has.h | apply Has.t | apply Has.app)) rfl) rfl (Nat.le_refl _)) rfl (by omega) (by omega) ?_
                                          rintro v128 cs128 hrow128 _
                                          rw [show (sC (ofN [x0, x1, x2, x3, x4, x5, x6, x7, x8, x9, x10])).toList = flat [(ofN [x0, x1, x2, x3, x4, x5, x6, x7, x8, x9, x10])] by simp [flat], ← flat_app, show Ls.length + 1 = (Ls ++ [(ofN [x0, x1, x2, x3, x4, x5, x6, x7, x8, x9, x10])]).length by simp] at hrow128
                                          refine ⟨(by repeat (first | exact Sel.all | exact Sel.none | (apply Sel.one; · repeat (first | exact Pick.h | apply Pick.t | apply Pick.app)) | apply Sel.app | (with_reducible apply Sel.grp; · repeat (first | exact PickF.h | apply PickF.t | apply PickF.a)) | (with_reducible refine Sel.nilF (by with_unfolding_all rfl) ?_) | apply Sel.drop | apply Sel.dropF)), ?_⟩
                                          refine wa_take 8 (by kernel_rfl) rfl rfl rfl rfl (by repeat (first | exact Sel.all | exact Sel.none | (apply Sel.one; · repeat (first | exact Pick.h | apply Pick.t | apply Pick.app)) | apply Sel.app | (with_reducible apply Sel.grp; · repeat (first | exact PickF.h | apply PickF.t | apply PickF.a)) | (with_reducible refine Sel.nilF (by with_unfolding_all rfl) ?_) | apply Sel.drop | apply Sel.dropF)) (eNil rfl) ?_
                                          refine wa_take 9 (by kernel_rfl) rfl rfl rfl rfl (by repeat (first | exact Sel.all | exact Sel.none | (apply Sel.one; · repeat (first | exact Pick.h | apply Pick.t | apply Pick.app)) | apply Sel.app | (with_reducible apply Sel.grp; · repeat (first | exact PickF.h | apply PickF.t | apply PickF.a)) | (with_reducible refine Sel.nilF (by with_unfolding_all rfl) ?_) | apply Sel.drop | apply Sel.dropF)) (eFld 0 ty55 rfl rfl ty26 rfl) ?_
                                          refine wa_all [10] (by kernel_rfl) rfl (wall_one 10 rfl rfl ?_ trivial)
                                          refine oSt ty26 rfl rfl hrow128.one rfl (by repeat (first | exact Upd.h | apply Upd.t | apply Upd.app)) (by simp) (by rfl) ?_
                                          refine ⟨(by repeat (first | exact Sel.all | exact Sel.none | (apply Sel.one; · repeat (first | exact Pick.h | apply Pick.t | apply Pick.app)) | apply Sel.app | (with_reducible apply Sel.grp; · repeat (first | exact PickF.h | apply PickF.t | apply PickF.a)) | (with_reducible refine Sel.nilF (by with_unfolding_all rfl) ?_) | apply Sel.drop | apply Sel.dropF)), ?_⟩
                                          refine wa_nil (by kernel_rfl) ?_
                                          exact ⟨(v128, cs128), hrow128, ⟨rfl, rfl, rfl, rfl, rfl, trivial⟩, (by repeat (first | exact Sel.all | exact Sel.none | (apply Sel.one; · repeat (first | exact Pick.h | apply Pick.t | apply Pick.app)) | apply Sel.app | (with_reducible apply Sel.grp; · repeat (first | exact PickF.h | apply PickF.t | apply PickF.a)) | (with_reducible refine Sel.nilF (by with_unfolding_all rfl) ?_) | apply Sel.drop | apply Sel.dropF))⟩
                                      · rintro ⟨w2, cs2⟩ hrow2
                                        dsimp only at hrow2 ⊢
                                        refine wc_region ?_
                                        refine wl rfl (OP.ev rfl rfl (eMv rfl) ?_)
                                        first | refine wl rfl (OP.ev rfl rfl (eAdd rfl rfl (by omega)) ?_) | refine wl rfl (OP.ev rfl rfl (eAddW rfl rfl) ?_)
                                        refine wl rfl (OP.ev rfl rfl (eAs rfl) ?_)
                                        refine wl_nil ?_
                                        exact ⟨(Ls ++ [(ofN [x0, x1, x2, x3, x4, x5, x6, x7, x8, x9, x10])], k11, e11, w2, cs2), ⟨hle10.2.1, by simp; omega, hrow2, hI2⟩, by simp; omega, ⟨rfl, rfl, rfl, rfl, by show some (i64 _) = some (i64 _); congr 2; simp, trivial⟩, (by repeat (first | exact Sel.all | exact Sel.none | (apply Sel.one; · repeat (first | exact Pick.h | apply Pick.t | apply Pick.app)) | apply Sel.app | (with_reducible apply Sel.grp; · repeat (first | exact PickF.h | apply PickF.t | apply PickF.a)) | (with_reducible refine Sel.nilF (by with_unfolding_all rfl) ?_) | apply Sel.drop | apply Sel.dropF))⟩))))))))
      | false =>
        try have c_t22 := df h22
        first
        | (exfalso; omega)
        | (
          refine wc_else rfl ?_
          refine wc_exit rfl ?_
          refine wc_seq ?_
          refine wc_seq ?_
          have hsm : ∀ s ∈ Ls, Small s := fun s hs => small_of (hI.ok s hs)
          refine wc_draw [xC b16 w] rfl ?_
          refine wa_take 0 (by kernel_rfl) rfl rfl rfl rfl (by repeat (first | exact Sel.all | exact Sel.none | (apply Sel.one; · repeat (first | exact Pick.h | apply Pick.t | apply Pick.app)) | apply Sel.app | (with_reducible apply Sel.grp; · repeat (first | exact PickF.h | apply PickF.t | apply PickF.a)) | (with_reducible refine Sel.nilF (by with_unfolding_all rfl) ?_) | apply Sel.drop | apply Sel.dropF)) (eMv rfl) ?_
          refine wa_take 1 (by kernel_rfl) rfl rfl rfl rfl (by repeat (first | exact Sel.all | exact Sel.none | (apply Sel.one; · repeat (first | exact Pick.h | apply Pick.t | apply Pick.app)) | apply Sel.app | (with_reducible apply Sel.grp; · repeat (first | exact PickF.h | apply PickF.t | apply PickF.a)) | (with_reducible refine Sel.nilF (by with_unfolding_all rfl) ?_) | apply Sel.drop | apply Sel.dropF)) (eNil rfl) ?_
          refine wa_take 2 (by kernel_rfl) rfl rfl rfl rfl (by repeat (first | exact Sel.all | exact Sel.none | (apply Sel.one; · repeat (first | exact Pick.h | apply Pick.t | apply Pick.app)) | apply Sel.app | (with_reducible apply Sel.grp; · repeat (first | exact PickF.h | apply PickF.t | apply PickF.a)) | (with_reducible refine Sel.nilF (by with_unfolding_all rfl) ?_) | apply Sel.drop | apply Sel.dropF)) (eFld 0 ty55 rfl rfl ty26 rfl) ?_
          first | refine wa_take 3 (by kernel_rfl) rfl rfl rfl rfl (by repeat (first | exact Sel.all | exact Sel.none | (apply Sel.one; · repeat (first | exact Pick.h | apply Pick.t | apply Pick.app)) | apply Sel.app | (with_reducible apply Sel.grp; · repeat (first | exact PickF.h | apply PickF.t | apply PickF.a)) | (with_reducible refine Sel.nilF (by with_unfolding_all rfl) ?_) | apply Sel.drop | apply Sel.dropF)) (eLd ty26 rfl rfl (by repeat (first | exact Has.h | apply Has.t | apply Has.app)) (by rfl)) ?_ | refine wa_take 3 (by kernel_rfl) rfl rfl rfl rfl (by repeat (first | exact Sel.all | exact Sel.none | (apply Sel.one; · repeat (first | exact Pick.h | apply Pick.t | apply Pick.app)) | apply Sel.app | (with_reducible apply Sel.grp; · repeat (first | exact PickF.h | apply PickF.t | apply PickF.a)) | (with_reducible refine Sel.nilF (by with_unfolding_all rfl) ?_) | apply Sel.drop | apply Sel.dropF)) (eLdO ty26 rfl rfl (by assumption)) ?_
          refine wa_take 4 (by kernel_rfl) rfl rfl rfl rfl (by repeat (first | exact Sel.all | exact Sel.none | (apply Sel.one; · repeat (first | exact Pick.h | apply Pick.t | apply Pick.app)) | apply Sel.app | (with_reducible apply Sel.grp; · repeat (first | exact PickF.h | apply PickF.t | apply PickF.a)) | (with_reducible refine Sel.nilF (by with_unfolding_all rfl) ?_) | apply Sel.drop | apply Sel.dropF)) (eLenRow ty26 rfl hrow) ?_
          refine wa_takeb 5 (by kernel_rfl) rfl rfl rfl rfl (by repeat (first | exact Sel.all | exact Sel.none | (apply Sel.one; · repeat (first | exact Pick.h | apply Pick.t | apply Pick.app)) | apply Sel.app | (with_reducible apply Sel.grp; · repeat (first | exact PickF.h | apply PickF.t | apply PickF.a)) | (with_reducible refine Sel.nilF (by with_unfolding_all rfl) ?_) | apply Sel.drop | apply Sel.dropF)) (eGt rfl rfl) fun t136 h136 => ?_
          refine wa_take 6 (by kernel_rfl) rfl rfl rfl rfl (by repeat (first | exact Sel.all | exact Sel.none | (apply Sel.one; · repeat (first | exact Pick.h | apply Pick.t | apply Pick.app)) | apply Sel.app | (with_reducible apply Sel.grp; · repeat (first | exact PickF.h | apply PickF.t | apply PickF.a)) | (with_reducible refine Sel.nilF (by with_unfolding_all rfl) ?_) | apply Sel.drop | apply Sel.dropF)) (eMv rfl) ?_
          cases t136 with
          | true =>
            try have c_t136 := dt h136
            first
            | (exfalso; omega)
            | (
              refine wa_skip 7 (by kernel_rfl) rfl rfl rfl rfl rfl rfl (by repeat (first | exact Sel.all | exact Sel.none | (apply Sel.one; · repeat (first | exact Pick.h | apply Pick.t | apply Pick.app)) | apply Sel.app | (with_reducible apply Sel.grp; · repeat (first | exact PickF.h | apply PickF.t | apply PickF.a)) | (with_reducible refine Sel.nilF (by with_unfolding_all rfl) ?_) | apply Sel.drop | apply Sel.dropF)) ?_
              refine wa_skip 8 (by kernel_rfl) rfl rfl rfl rfl rfl rfl (by repeat (first | exact Sel.all | exact Sel.none | (apply Sel.one; · repeat (first | exact Pick.h | apply Pick.t | apply Pick.app)) | apply Sel.app | (with_reducible apply Sel.grp; · repeat (first | exact PickF.h | apply PickF.t | apply PickF.a)) | (with_reducible refine Sel.nilF (by with_unfolding_all rfl) ?_) | apply Sel.drop | apply Sel.dropF)) ?_
              refine wa_skip 9 (by kernel_rfl) rfl rfl rfl rfl rfl rfl (by repeat (first | exact Sel.all | exact Sel.none | (apply Sel.one; · repeat (first | exact Pick.h | apply Pick.t | apply Pick.app)) | apply Sel.app | (with_reducible apply Sel.grp; · repeat (first | exact PickF.h | apply PickF.t | apply PickF.a)) | (with_reducible refine Sel.nilF (by with_unfolding_all rfl) ?_) | apply Sel.drop | apply Sel.dropF)) ?_
              refine wa_skip 10 (by kernel_rfl) rfl rfl rfl rfl rfl rfl (by repeat (first | exact Sel.all | exact Sel.none | (apply Sel.one; · repeat (first | exact Pick.h | apply Pick.t | apply Pick.app)) | apply Sel.app | (with_reducible apply Sel.grp; · repeat (first | exact PickF.h | apply PickF.t | apply PickF.a)) | (with_reducible refine Sel.nilF (by with_unfolding_all rfl) ?_) | apply Sel.drop | apply Sel.dropF)) ?_
              refine wa_skip 11 (by kernel_rfl) rfl rfl rfl rfl rfl rfl (by repeat (first | exact Sel.all | exact Sel.none | (apply Sel.one; · repeat (first | exact Pick.h | apply Pick.t | apply Pick.app)) | apply Sel.app | (with_reducible apply Sel.grp; · repeat (first | exact PickF.h | apply PickF.t | apply PickF.a)) | (with_reducible refine Sel.nilF (by with_unfolding_all rfl) ?_) | apply Sel.drop | apply Sel.dropF)) ?_
              refine wa_skip 12 (by kernel_rfl) rfl rfl rfl rfl rfl rfl (by repeat (first | exact Sel.all | exact Sel.none | (apply Sel.one; · repeat (first | exact Pick.h | apply Pick.t | apply Pick.app)) | apply Sel.app | (with_reducible apply Sel.grp; · repeat (first | exact PickF.h | apply PickF.t | apply PickF.a)) | (with_reducible refine Sel.nilF (by with_unfolding_all rfl) ?_) | apply Sel.drop | apply Sel.dropF)) ?_
              refine wa_take 13 (by kernel_rfl) rfl rfl rfl rfl (by repeat (first | exact Sel.all | exact Sel.none | (apply Sel.one; · repeat (first | exact Pick.h | apply Pick.t | apply Pick.app)) | apply Sel.app | (with_reducible apply Sel.grp; · repeat (first | exact PickF.h | apply PickF.t | apply PickF.a)) | (with_reducible refine Sel.nilF (by with_unfolding_all rfl) ?_) | apply Sel.drop | apply Sel.dropF)) (ePk rfl rfl) ?_
              refine wa_nil (by kernel_rfl) ?_
              refine wc_then rfl ?_
              refine wc_seq ?_
              refine wc_region ?_
              refine wl rfl (OP.ev rfl rfl (eAs rfl) ?_)
              refine wl rfl (OP.ev rfl rfl (eAs rfl) ?_)
              refine wl_nil ?_
              refine wc_ret ?_
              apply at_ret rfl
              · exact (.cons (.tmp rfl) (.cons (.tmp rfl) .nil))
              · first
                | exact .inl ⟨b16, w, cs, Ls, rfl, rfl, hrow, ⟨by omega, hI.ok, hI.up⟩, Classical.not_not.1 c_t143⟩
                | exact .inr ⟨rfl, rfl, hI.fin (by omega) (.inl (by omega))⟩
                | exact .inr ⟨rfl, rfl, hI.fin (by omega) (.inr c_t143)⟩
                | exact .inr ⟨rfl, rfl, hI.bad (by omega) hrd (by show x0 < 1 ∨ x2 < 1 ∨ (0 < Ls.length ∧ x0 ≤ lastS Ls) ∨ x0 > 1099511627776 ∨ x1 > 1099511627776 ∨ x2 > 1099511627776 ∨ checkR (ofN [x0, x1, x2, x3, x4, x5, x6, x7, x8, x9, x10]).reply ≠ 0; first | omega | exact .inr (.inr (.inr (.inr (.inr (.inr c_t119))))))⟩
              · exact (by repeat (first | exact Sel.all | exact Sel.none | (apply Sel.one; · repeat (first | exact Pick.h | apply Pick.t | apply Pick.app)) | apply Sel.app | (with_reducible apply Sel.grp; · repeat (first | exact PickF.h | apply PickF.t | apply PickF.a)) | (with_reducible refine Sel.nilF (by with_unfolding_all rfl) ?_) | apply Sel.drop | apply Sel.dropF)))
          | false =>
            try have c_t136 := df h136
            first
            | (exfalso; omega)
            | (
              refine wa_takeg 7 (by kernel_rfl) rfl rfl rfl rfl rfl (by repeat (first | exact Sel.all | exact Sel.none | (apply Sel.one; · repeat (first | exact Pick.h | apply Pick.t | apply Pick.app)) | apply Sel.app | (with_reducible apply Sel.grp; · repeat (first | exact PickF.h | apply PickF.t | apply PickF.a)) | (with_reducible refine Sel.nilF (by with_unfolding_all rfl) ?_) | apply Sel.drop | apply Sel.dropF)) (eMv rfl) ?_
              refine wa_takeg 10 (by kernel_rfl) rfl rfl rfl rfl rfl (by repeat (first | exact Sel.all | exact Sel.none | (apply Sel.one; · repeat (first | exact Pick.h | apply Pick.t | apply Pick.app)) | apply Sel.app | (with_reducible apply Sel.grp; · repeat (first | exact PickF.h | apply PickF.t | apply PickF.a)) | (with_reducible refine Sel.nilF (by with_unfolding_all rfl) ?_) | apply Sel.drop | apply Sel.dropF)) (eMv rfl) ?_
              refine wa_takeg 11 (by kernel_rfl) rfl rfl rfl rfl rfl (by repeat (first | exact Sel.all | exact Sel.none | (apply Sel.one; · repeat (first | exact Pick.h | apply Pick.t | apply Pick.app)) | apply Sel.app | (with_reducible apply Sel.grp; · repeat (first | exact PickF.h | apply PickF.t | apply PickF.a)) | (with_reducible refine Sel.nilF (by with_unfolding_all rfl) ?_) | apply Sel.drop | apply Sel.dropF)) (eBs ty49 ty5 ty9 rfl (hv _)) ?_
              refine wa_all [8] (by kernel_rfl) rfl ⟨⟨_, rfl, .inr ⟨_, _, rfl, rfl⟩, ?_⟩, trivial⟩
              refine oC rfl pf39 rfl (rimage_ok b16 w cs Ls hrow (by omega) hsm _) (by repeat (first | exact Sel.all | exact Sel.none | (apply Sel.one; · repeat (first | exact Pick.h | apply Pick.t | apply Pick.app)) | apply Sel.app | (with_reducible apply Sel.grp; · repeat (first | exact PickF.h | apply PickF.t | apply PickF.a)) | (with_reducible refine Sel.nilF (by with_unfolding_all rfl) ?_) | apply Sel.drop | apply Sel.dropF)) ?_
              rintro v139 _ ⟨cs139, hrow139, rfl⟩
              refine ⟨(by repeat (first | exact Sel.all | exact Sel.none | (apply Sel.one; · repeat (first | exact Pick.h | apply Pick.t | apply Pick.app)) | apply Sel.app | (with_reducible apply Sel.grp; · repeat (first | exact PickF.h | apply PickF.t | apply PickF.a)) | (with_reducible refine Sel.nilF (by with_unfolding_all rfl) ?_) | apply Sel.drop | apply Sel.dropF)), ?_⟩
              refine wa_all [9] (by kernel_rfl) rfl ⟨⟨_, rfl, .inr ⟨_, _, rfl, rfl⟩, ?_⟩, trivial⟩
              refine OP.ev rfl rfl (eBs ty49 ty5 ty9 rfl (hrow139.rs (by repeat (first | exact At.cell | exact At.h | apply At.t | apply At.a)))) ?_
              refine ⟨(by repeat (first | exact Sel.all | exact Sel.none | (apply Sel.one; · repeat (first | exact Pick.h | apply Pick.t | apply Pick.app)) | apply Sel.app | (with_reducible apply Sel.grp; · repeat (first | exact PickF.h | apply PickF.t | apply PickF.a)) | (with_reducible refine Sel.nilF (by with_unfolding_all rfl) ?_) | apply Sel.drop | apply Sel.dropF)), ?_⟩
              refine wa_takegb 12 (by kernel_rfl) rfl rfl rfl rfl rfl (by repeat (first | exact Sel.all | exact Sel.none | (apply Sel.one; · repeat (first | exact Pick.h | apply Pick.t | apply Pick.app)) | apply Sel.app | (with_reducible apply Sel.grp; · repeat (first | exact PickF.h | apply PickF.t | apply PickF.a)) | (with_reducible refine Sel.nilF (by with_unfolding_all rfl) ?_) | apply Sel.drop | apply Sel.dropF)) (eNeBA rfl rfl ty9 (img_isB _) hB) fun t143 h143 => ?_
              refine wa_take 13 (by kernel_rfl) rfl rfl rfl rfl (by repeat (first | exact Sel.all | exact Sel.none | (apply Sel.one; · repeat (first | exact Pick.h | apply Pick.t | apply Pick.app)) | apply Sel.app | (with_reducible apply Sel.grp; · repeat (first | exact PickF.h | apply PickF.t | apply PickF.a)) | (with_reducible refine Sel.nilF (by with_unfolding_all rfl) ?_) | apply Sel.drop | apply Sel.dropF)) (ePk rfl rfl) ?_
              refine wa_nil (by kernel_rfl) ?_
              cases t143 with
              | true =>
                try have c_t143 := dt h143
                first
                | (exfalso; omega)
                | (
                  refine wc_then rfl ?_
                  refine wc_seq ?_
                  refine wc_region ?_
                  refine wl rfl (OP.ev rfl rfl (eAs rfl) ?_)
                  refine wl rfl (OP.ev rfl rfl (eAs rfl) ?_)
                  refine wl_nil ?_
                  refine wc_ret ?_
                  apply at_ret rfl
                  · exact (.cons (.tmp rfl) (.cons (.tmp rfl) .nil))
                  · first
                    | exact .inl ⟨b16, w, cs, Ls, rfl, rfl, hrow, ⟨by omega, hI.ok, hI.up⟩, Classical.not_not.1 c_t143⟩
                    | exact .inr ⟨rfl, rfl, hI.fin (by omega) (.inl (by omega))⟩
                    | exact .inr ⟨rfl, rfl, hI.fin (by omega) (.inr c_t143)⟩
                    | exact .inr ⟨rfl, rfl, hI.bad (by omega) hrd (by show x0 < 1 ∨ x2 < 1 ∨ (0 < Ls.length ∧ x0 ≤ lastS Ls) ∨ x0 > 1099511627776 ∨ x1 > 1099511627776 ∨ x2 > 1099511627776 ∨ checkR (ofN [x0, x1, x2, x3, x4, x5, x6, x7, x8, x9, x10]).reply ≠ 0; first | omega | exact .inr (.inr (.inr (.inr (.inr (.inr c_t119))))))⟩
                  · exact (by repeat (first | exact Sel.all | exact Sel.none | (apply Sel.one; · repeat (first | exact Pick.h | apply Pick.t | apply Pick.app)) | apply Sel.app | (with_reducible apply Sel.grp; · repeat (first | exact PickF.h | apply PickF.t | apply PickF.a)) | (with_reducible refine Sel.nilF (by with_unfolding_all rfl) ?_) | apply Sel.drop | apply Sel.dropF)))
              | false =>
                try have c_t143 := df h143
                first
                | (exfalso; omega)
                | (
                  refine wc_else rfl ?_
                  refine wc_skip ?_
                  refine wc_seq ?_
                  refine wc_region ?_
                  refine wl rfl (OP.ev rfl rfl (eMv rfl) ?_)
                  refine wl rfl (OP.ev rfl rfl (eAs rfl) ?_)
                  refine wl rfl (OP.ev rfl rfl (eAs rfl) ?_)
                  refine wl_nil ?_
                  refine wc_ret ?_
                  apply at_ret rfl
                  · exact (.cons (.tmp rfl) (.cons (.tmp rfl) .nil))
                  · first
                    | exact .inl ⟨b16, w, cs, Ls, rfl, rfl, hrow, ⟨by omega, hI.ok, hI.up⟩, Classical.not_not.1 c_t143⟩
                    | exact .inr ⟨rfl, rfl, hI.fin (by omega) (.inl (by omega))⟩
                    | exact .inr ⟨rfl, rfl, hI.fin (by omega) (.inr c_t143)⟩
                    | exact .inr ⟨rfl, rfl, hI.bad (by omega) hrd (by show x0 < 1 ∨ x2 < 1 ∨ (0 < Ls.length ∧ x0 ≤ lastS Ls) ∨ x0 > 1099511627776 ∨ x1 > 1099511627776 ∨ x2 > 1099511627776 ∨ checkR (ofN [x0, x1, x2, x3, x4, x5, x6, x7, x8, x9, x10]).reply ≠ 0; first | omega | exact .inr (.inr (.inr (.inr (.inr (.inr c_t119))))))⟩
                  · exact (by repeat (first | exact Sel.all | exact Sel.none | (apply Sel.one; · repeat (first | exact Pick.h | apply Pick.t | apply Pick.app)) | apply Sel.app | (with_reducible apply Sel.grp; · repeat (first | exact PickF.h | apply PickF.t | apply PickF.a)) | (with_reducible refine Sel.nilF (by with_unfolding_all rfl) ?_) | apply Sel.drop | apply Sel.dropF))))))
  | false =>
    try have c_t19 := df h19
    first
    | (exfalso; omega)
    | (
      refine wl_skip rfl rfl rfl rfl rfl ?_
      refine wl_skip rfl rfl rfl rfl rfl ?_
      refine wl rfl (OP.ev rfl rfl (ePk rfl rfl) ?_)
      refine wl_nil ?_
      refine wc_else rfl ?_
      refine wc_exit rfl ?_
      refine wc_seq ?_
      refine wc_seq ?_
      have hsm : ∀ s ∈ Ls, Small s := fun s hs => small_of (hI.ok s hs)
      refine wc_draw [xC b16 w] rfl ?_
      refine wa_take 0 (by kernel_rfl) rfl rfl rfl rfl (by repeat (first | exact Sel.all | exact Sel.none | (apply Sel.one; · repeat (first | exact Pick.h | apply Pick.t | apply Pick.app)) | apply Sel.app | (with_reducible apply Sel.grp; · repeat (first | exact PickF.h | apply PickF.t | apply PickF.a)) | (with_reducible refine Sel.nilF (by with_unfolding_all rfl) ?_) | apply Sel.drop | apply Sel.dropF)) (eMv rfl) ?_
      refine wa_take 1 (by kernel_rfl) rfl rfl rfl rfl (by repeat (first | exact Sel.all | exact Sel.none | (apply Sel.one; · repeat (first | exact Pick.h | apply Pick.t | apply Pick.app)) | apply Sel.app | (with_reducible apply Sel.grp; · repeat (first | exact PickF.h | apply PickF.t | apply PickF.a)) | (with_reducible refine Sel.nilF (by with_unfolding_all rfl) ?_) | apply Sel.drop | apply Sel.dropF)) (eNil rfl) ?_
      refine wa_take 2 (by kernel_rfl) rfl rfl rfl rfl (by repeat (first | exact Sel.all | exact Sel.none | (apply Sel.one; · repeat (first | exact Pick.h | apply Pick.t | apply Pick.app)) | apply Sel.app | (with_reducible apply Sel.grp; · repeat (first | exact PickF.h | apply PickF.t | apply PickF.a)) | (with_reducible refine Sel.nilF (by with_unfolding_all rfl) ?_) | apply Sel.drop | apply Sel.dropF)) (eFld 0 ty55 rfl rfl ty26 rfl) ?_
      first | refine wa_take 3 (by kernel_rfl) rfl rfl rfl rfl (by repeat (first | exact Sel.all | exact Sel.none | (apply Sel.one; · repeat (first | exact Pick.h | apply Pick.t | apply Pick.app)) | apply Sel.app | (with_reducible apply Sel.grp; · repeat (first | exact PickF.h | apply PickF.t | apply PickF.a)) | (with_reducible refine Sel.nilF (by with_unfolding_all rfl) ?_) | apply Sel.drop | apply Sel.dropF)) (eLd ty26 rfl rfl (by repeat (first | exact Has.h | apply Has.t | apply Has.app)) (by rfl)) ?_ | refine wa_take 3 (by kernel_rfl) rfl rfl rfl rfl (by repeat (first | exact Sel.all | exact Sel.none | (apply Sel.one; · repeat (first | exact Pick.h | apply Pick.t | apply Pick.app)) | apply Sel.app | (with_reducible apply Sel.grp; · repeat (first | exact PickF.h | apply PickF.t | apply PickF.a)) | (with_reducible refine Sel.nilF (by with_unfolding_all rfl) ?_) | apply Sel.drop | apply Sel.dropF)) (eLdO ty26 rfl rfl (by assumption)) ?_
      refine wa_take 4 (by kernel_rfl) rfl rfl rfl rfl (by repeat (first | exact Sel.all | exact Sel.none | (apply Sel.one; · repeat (first | exact Pick.h | apply Pick.t | apply Pick.app)) | apply Sel.app | (with_reducible apply Sel.grp; · repeat (first | exact PickF.h | apply PickF.t | apply PickF.a)) | (with_reducible refine Sel.nilF (by with_unfolding_all rfl) ?_) | apply Sel.drop | apply Sel.dropF)) (eLenRow ty26 rfl hrow) ?_
      refine wa_takeb 5 (by kernel_rfl) rfl rfl rfl rfl (by repeat (first | exact Sel.all | exact Sel.none | (apply Sel.one; · repeat (first | exact Pick.h | apply Pick.t | apply Pick.app)) | apply Sel.app | (with_reducible apply Sel.grp; · repeat (first | exact PickF.h | apply PickF.t | apply PickF.a)) | (with_reducible refine Sel.nilF (by with_unfolding_all rfl) ?_) | apply Sel.drop | apply Sel.dropF)) (eGt rfl rfl) fun t136 h136 => ?_
      refine wa_take 6 (by kernel_rfl) rfl rfl rfl rfl (by repeat (first | exact Sel.all | exact Sel.none | (apply Sel.one; · repeat (first | exact Pick.h | apply Pick.t | apply Pick.app)) | apply Sel.app | (with_reducible apply Sel.grp; · repeat (first | exact PickF.h | apply PickF.t | apply PickF.a)) | (with_reducible refine Sel.nilF (by with_unfolding_all rfl) ?_) | apply Sel.drop | apply Sel.dropF)) (eMv rfl) ?_
      cases t136 with
      | true =>
        try have c_t136 := dt h136
        first
        | (exfalso; omega)
        | (
          refine wa_skip 7 (by kernel_rfl) rfl rfl rfl rfl rfl rfl (by repeat (first | exact Sel.all | exact Sel.none | (apply Sel.one; · repeat (first | exact Pick.h | apply Pick.t | apply Pick.app)) | apply Sel.app | (with_reducible apply Sel.grp; · repeat (first | exact PickF.h | apply PickF.t | apply PickF.a)) | (with_reducible refine Sel.nilF (by with_unfolding_all rfl) ?_) | apply Sel.drop | apply Sel.dropF)) ?_
          refine wa_skip 8 (by kernel_rfl) rfl rfl rfl rfl rfl rfl (by repeat (first | exact Sel.all | exact Sel.none | (apply Sel.one; · repeat (first | exact Pick.h | apply Pick.t | apply Pick.app)) | apply Sel.app | (with_reducible apply Sel.grp; · repeat (first | exact PickF.h | apply PickF.t | apply PickF.a)) | (with_reducible refine Sel.nilF (by with_unfolding_all rfl) ?_) | apply Sel.drop | apply Sel.dropF)) ?_
          refine wa_skip 9 (by kernel_rfl) rfl rfl rfl rfl rfl rfl (by repeat (first | exact Sel.all | exact Sel.none | (apply Sel.one; · repeat (first | exact Pick.h | apply Pick.t | apply Pick.app)) | apply Sel.app | (with_reducible apply Sel.grp; · repeat (first | exact PickF.h | apply PickF.t | apply PickF.a)) | (with_reducible refine Sel.nilF (by with_unfolding_all rfl) ?_) | apply Sel.drop | apply Sel.dropF)) ?_
          refine wa_skip 10 (by kernel_rfl) rfl rfl rfl rfl rfl rfl (by repeat (first | exact Sel.all | exact Sel.none | (apply Sel.one; · repeat (first | exact Pick.h | apply Pick.t | apply Pick.app)) | apply Sel.app | (with_reducible apply Sel.grp; · repeat (first | exact PickF.h | apply PickF.t | apply PickF.a)) | (with_reducible refine Sel.nilF (by with_unfolding_all rfl) ?_) | apply Sel.drop | apply Sel.dropF)) ?_
          refine wa_skip 11 (by kernel_rfl) rfl rfl rfl rfl rfl rfl (by repeat (first | exact Sel.all | exact Sel.none | (apply Sel.one; · repeat (first | exact Pick.h | apply Pick.t | apply Pick.app)) | apply Sel.app | (with_reducible apply Sel.grp; · repeat (first | exact PickF.h | apply PickF.t | apply PickF.a)) | (with_reducible refine Sel.nilF (by with_unfolding_all rfl) ?_) | apply Sel.drop | apply Sel.dropF)) ?_
          refine wa_skip 12 (by kernel_rfl) rfl rfl rfl rfl rfl rfl (by repeat (first | exact Sel.all | exact Sel.none | (apply Sel.one; · repeat (first | exact Pick.h | apply Pick.t | apply Pick.app)) | apply Sel.app | (with_reducible apply Sel.grp; · repeat (first | exact PickF.h | apply PickF.t | apply PickF.a)) | (with_reducible refine Sel.nilF (by with_unfolding_all rfl) ?_) | apply Sel.drop | apply Sel.dropF)) ?_
          refine wa_take 13 (by kernel_rfl) rfl rfl rfl rfl (by repeat (first | exact Sel.all | exact Sel.none | (apply Sel.one; · repeat (first | exact Pick.h | apply Pick.t | apply Pick.app)) | apply Sel.app | (with_reducible apply Sel.grp; · repeat (first | exact PickF.h | apply PickF.t | apply PickF.a)) | (with_reducible refine Sel.nilF (by with_unfolding_all rfl) ?_) | apply Sel.drop | apply Sel.dropF)) (ePk rfl rfl) ?_
          refine wa_nil (by kernel_rfl) ?_
          refine wc_then rfl ?_
          refine wc_seq ?_
          refine wc_region ?_
          refine wl rfl (OP.ev rfl rfl (eAs rfl) ?_)
          refine wl rfl (OP.ev rfl rfl (eAs rfl) ?_)
          refine wl_nil ?_
          refine wc_ret ?_
          apply at_ret rfl
          · exact (.cons (.tmp rfl) (.cons (.tmp rfl) .nil))
          · first
            | exact .inl ⟨b16, w, cs, Ls, rfl, rfl, hrow, ⟨by omega, hI.ok, hI.up⟩, Classical.not_not.1 c_t143⟩
            | exact .inr ⟨rfl, rfl, hI.fin (by omega) (.inl (by omega))⟩
            | exact .inr ⟨rfl, rfl, hI.fin (by omega) (.inr c_t143)⟩
            | exact .inr ⟨rfl, rfl, hI.bad (by omega) hrd (by show x0 < 1 ∨ x2 < 1 ∨ (0 < Ls.length ∧ x0 ≤ lastS Ls) ∨ x0 > 1099511627776 ∨ x1 > 1099511627776 ∨ x2 > 1099511627776 ∨ checkR (ofN [x0, x1, x2, x3, x4, x5, x6, x7, x8, x9, x10]).reply ≠ 0; first | omega | exact .inr (.inr (.inr (.inr (.inr (.inr c_t119))))))⟩
          · exact (by repeat (first | exact Sel.all | exact Sel.none | (apply Sel.one; · repeat (first | exact Pick.h | apply Pick.t | apply Pick.app)) | apply Sel.app | (with_reducible apply Sel.grp; · repeat (first | exact PickF.h | apply PickF.t | apply PickF.a)) | (with_reducible refine Sel.nilF (by with_unfolding_all rfl) ?_) | apply Sel.drop | apply Sel.dropF)))
      | false =>
        try have c_t136 := df h136
        first
        | (exfalso; omega)
        | (
          refine wa_takeg 7 (by kernel_rfl) rfl rfl rfl rfl rfl (by repeat (first | exact Sel.all | exact Sel.none | (apply Sel.one; · repeat (first | exact Pick.h | apply Pick.t | apply Pick.app)) | apply Sel.app | (with_reducible apply Sel.grp; · repeat (first | exact PickF.h | apply PickF.t | apply PickF.a)) | (with_reducible refine Sel.nilF (by with_unfolding_all rfl) ?_) | apply Sel.drop | apply Sel.dropF)) (eMv rfl) ?_
          refine wa_takeg 10 (by kernel_rfl) rfl rfl rfl rfl rfl (by repeat (first | exact Sel.all | exact Sel.none | (apply Sel.one; · repeat (first | exact Pick.h | apply Pick.t | apply Pick.app)) | apply Sel.app | (with_reducible apply Sel.grp; · repeat (first | exact PickF.h | apply PickF.t | apply PickF.a)) | (with_reducible refine Sel.nilF (by with_unfolding_all rfl) ?_) | apply Sel.drop | apply Sel.dropF)) (eMv rfl) ?_
          refine wa_takeg 11 (by kernel_rfl) rfl rfl rfl rfl rfl (by repeat (first | exact Sel.all | exact Sel.none | (apply Sel.one; · repeat (first | exact Pick.h | apply Pick.t | apply Pick.app)) | apply Sel.app | (with_reducible apply Sel.grp; · repeat (first | exact PickF.h | apply PickF.t | apply PickF.a)) | (with_reducible refine Sel.nilF (by with_unfolding_all rfl) ?_) | apply Sel.drop | apply Sel.dropF)) (eBs ty49 ty5 ty9 rfl (hv _)) ?_
          refine wa_all [8] (by kernel_rfl) rfl ⟨⟨_, rfl, .inr ⟨_, _, rfl, rfl⟩, ?_⟩, trivial⟩
          refine oC rfl pf39 rfl (rimage_ok b16 w cs Ls hrow (by omega) hsm _) (by repeat (first | exact Sel.all | exact Sel.none | (apply Sel.one; · repeat (first | exact Pick.h | apply Pick.t | apply Pick.app)) | apply Sel.app | (with_reducible apply Sel.grp; · repeat (first | exact PickF.h | apply PickF.t | apply PickF.a)) | (with_reducible refine Sel.nilF (by with_unfolding_all rfl) ?_) | apply Sel.drop | apply Sel.dropF)) ?_
          rintro v139 _ ⟨cs139, hrow139, rfl⟩
          refine ⟨(by repeat (first | exact Sel.all | exact Sel.none | (apply Sel.one; · repeat (first | exact Pick.h | apply Pick.t | apply Pick.app)) | apply Sel.app | (with_reducible apply Sel.grp; · repeat (first | exact PickF.h | apply PickF.t | apply PickF.a)) | (with_reducible refine Sel.nilF (by with_unfolding_all rfl) ?_) | apply Sel.drop | apply Sel.dropF)), ?_⟩
          refine wa_all [9] (by kernel_rfl) rfl ⟨⟨_, rfl, .inr ⟨_, _, rfl, rfl⟩, ?_⟩, trivial⟩
          refine OP.ev rfl rfl (eBs ty49 ty5 ty9 rfl (hrow139.rs (by repeat (first | exact At.cell | exact At.h | apply At.t | apply At.a)))) ?_
          refine ⟨(by repeat (first | exact Sel.all | exact Sel.none | (apply Sel.one; · repeat (first | exact Pick.h | apply Pick.t | apply Pick.app)) | apply Sel.app | (with_reducible apply Sel.grp; · repeat (first | exact PickF.h | apply PickF.t | apply PickF.a)) | (with_reducible refine Sel.nilF (by with_unfolding_all rfl) ?_) | apply Sel.drop | apply Sel.dropF)), ?_⟩
          refine wa_takegb 12 (by kernel_rfl) rfl rfl rfl rfl rfl (by repeat (first | exact Sel.all | exact Sel.none | (apply Sel.one; · repeat (first | exact Pick.h | apply Pick.t | apply Pick.app)) | apply Sel.app | (with_reducible apply Sel.grp; · repeat (first | exact PickF.h | apply PickF.t | apply PickF.a)) | (with_reducible refine Sel.nilF (by with_unfolding_all rfl) ?_) | apply Sel.drop | apply Sel.dropF)) (eNeBA rfl rfl ty9 (img_isB _) hB) fun t143 h143 => ?_
          refine wa_take 13 (by kernel_rfl) rfl rfl rfl rfl (by repeat (first | exact Sel.all | exact Sel.none | (apply Sel.one; · repeat (first | exact Pick.h | apply Pick.t | apply Pick.app)) | apply Sel.app | (with_reducible apply Sel.grp; · repeat (first | exact PickF.h | apply PickF.t | apply PickF.a)) | (with_reducible refine Sel.nilF (by with_unfolding_all rfl) ?_) | apply Sel.drop | apply Sel.dropF)) (ePk rfl rfl) ?_
          refine wa_nil (by kernel_rfl) ?_
          cases t143 with
          | true =>
            try have c_t143 := dt h143
            first
            | (exfalso; omega)
            | (
              refine wc_then rfl ?_
              refine wc_seq ?_
              refine wc_region ?_
              refine wl rfl (OP.ev rfl rfl (eAs rfl) ?_)
              refine wl rfl (OP.ev rfl rfl (eAs rfl) ?_)
              refine wl_nil ?_
              refine wc_ret ?_
              apply at_ret rfl
              · exact (.cons (.tmp rfl) (.cons (.tmp rfl) .nil))
              · first
                | exact .inl ⟨b16, w, cs, Ls, rfl, rfl, hrow, ⟨by omega, hI.ok, hI.up⟩, Classical.not_not.1 c_t143⟩
                | exact .inr ⟨rfl, rfl, hI.fin (by omega) (.inl (by omega))⟩
                | exact .inr ⟨rfl, rfl, hI.fin (by omega) (.inr c_t143)⟩
                | exact .inr ⟨rfl, rfl, hI.bad (by omega) hrd (by show x0 < 1 ∨ x2 < 1 ∨ (0 < Ls.length ∧ x0 ≤ lastS Ls) ∨ x0 > 1099511627776 ∨ x1 > 1099511627776 ∨ x2 > 1099511627776 ∨ checkR (ofN [x0, x1, x2, x3, x4, x5, x6, x7, x8, x9, x10]).reply ≠ 0; first | omega | exact .inr (.inr (.inr (.inr (.inr (.inr c_t119))))))⟩
              · exact (by repeat (first | exact Sel.all | exact Sel.none | (apply Sel.one; · repeat (first | exact Pick.h | apply Pick.t | apply Pick.app)) | apply Sel.app | (with_reducible apply Sel.grp; · repeat (first | exact PickF.h | apply PickF.t | apply PickF.a)) | (with_reducible refine Sel.nilF (by with_unfolding_all rfl) ?_) | apply Sel.drop | apply Sel.dropF)))
          | false =>
            try have c_t143 := df h143
            first
            | (exfalso; omega)
            | (
              refine wc_else rfl ?_
              refine wc_skip ?_
              refine wc_seq ?_
              refine wc_region ?_
              refine wl rfl (OP.ev rfl rfl (eMv rfl) ?_)
              refine wl rfl (OP.ev rfl rfl (eAs rfl) ?_)
              refine wl rfl (OP.ev rfl rfl (eAs rfl) ?_)
              refine wl_nil ?_
              refine wc_ret ?_
              apply at_ret rfl
              · exact (.cons (.tmp rfl) (.cons (.tmp rfl) .nil))
              · first
                | exact .inl ⟨b16, w, cs, Ls, rfl, rfl, hrow, ⟨by omega, hI.ok, hI.up⟩, Classical.not_not.1 c_t143⟩
                | exact .inr ⟨rfl, rfl, hI.fin (by omega) (.inl (by omega))⟩
                | exact .inr ⟨rfl, rfl, hI.fin (by omega) (.inr c_t143)⟩
                | exact .inr ⟨rfl, rfl, hI.bad (by omega) hrd (by show x0 < 1 ∨ x2 < 1 ∨ (0 < Ls.length ∧ x0 ≤ lastS Ls) ∨ x0 > 1099511627776 ∨ x1 > 1099511627776 ∨ x2 > 1099511627776 ∨ checkR (ofN [x0, x1, x2, x3, x4, x5, x6, x7, x8, x9, x10]).reply ≠ 0; first | omega | exact .inr (.inr (.inr (.inr (.inr (.inr c_t119))))))⟩
              · exact (by repeat (first | exact Sel.all | exact Sel.none | (apply Sel.one; · repeat (first | exact Pick.h | apply Pick.t | apply Pick.app)) | apply Sel.app | (with_reducible apply Sel.grp; · repeat (first | exact PickF.h | apply PickF.t | apply PickF.a)) | (with_reducible refine Sel.nilF (by with_unfolding_all rfl) ?_) | apply Sel.drop | apply Sel.dropF)))))
end Go.Proofs.Ytbppeijcfkdhjaa
