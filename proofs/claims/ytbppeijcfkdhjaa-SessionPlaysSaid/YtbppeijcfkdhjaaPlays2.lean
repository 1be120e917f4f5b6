/- The walk of SessionPlays. -/
import Derived.Test.YtbppeijcfkdhjaaPlays
namespace Go.Proofs.Ytbppeijcfkdhjaa
open Go Eng
set_option linter.unusedVariables false
set_option maxRecDepth 4000
variable {W0 : World}

theorem rask_ok' {m : SMap} {clk : Nat} (hT : TOk m clk) (b : Nat) (v : Value) (cs : Array Value) (k n : Int) (hrow : Row v cs 11 (seatsOf m).length (flat (seatsOf m))) (hn : -9223372036854775808 ≤ n ∧ n < 9223372036854775808) (R : Heap) :
    FnC W0 Try.prog 20 #[ptr b, i64 k, i64 n] (xC b v :: (ownH v cs 35 ++ R)) (fun v' L' => v' = askV (ask m k n) ∧ L' = xC b v :: (ownH v cs 35 ++ R)) := by
  have hl := seats_len m
  have h8 := hT.2.1
  have := rask_ok (W0 := W0) b v cs (seatsOf m) k n hrow (by omega) (fun s hs => by
    obtain ⟨_, _, _, _, h4, h5, _⟩ := seat_mem hT hs
    exact ⟨h4, h5⟩) hn R
  rw [sim_lg hT k] at this
  exact this
theorem Eng.eNeB_same {P : Program} {n : Nat} {l : Env} {L : Heap} {ty : TypeId} {pos : String} {af : Array Edge} {gd : Option (Nat × Bool)} {D : Option Nat} {xt yt : TypeId} {x y : Operand} {p : Bool} {a1 a2 : Nat} {z : Option Value} (hx : evo l x = some (.bool p)) (hy : evo l y = some (.bool p)) (ht : tinf P xt = some (.bool, a1, a2, z)) :
    EV P n W0 ⟨D, .binOp .neq xt x y yt, ty, pos, af, gd⟩ l L (.bool false) := by
  have := eNeB (P := P) (n := n) (W0 := W0) (L := L) (D := D) (yt := yt) (ty := ty) (pos := pos) (af := af) (gd := gd) hx hy ht
  rwa [show (p != p) = false by simp] at this

theorem plays_ok (v0 : Value) (l : List Do) (hv : ∀ L, Rs W0 L v0 12 l.length (dos l)) (hr : ∀ c ∈ l, DoOk c) (hl : l.length ≤ 9223372036854775807) :
    FnC W0 Try.prog 5 #[v0] [] (fun v' L' => v' = .bool true ∧ L' = []) := by
  refine fn_of Try.func5 rfl Try.ntmps5 rfl rfl ?_
  refine wc_seq ?_
  refine wc_region ?_
  refine wl rfl (OP.ev rfl rfl (eAs rfl) ?_)
  refine wl_nil ?_
  refine wc_seq ?_
  refine wc_seq ?_
  refine wc_region ?_
  refine wl rfl (OP.ev rfl rfl (eMv rfl) ?_)
  refine wl rfl (OP.ev rfl rfl (eLenR ty22 rfl (hv _)) ?_)
  refine wl rfl (OP.evb rfl rfl (eGt rfl rfl) fun t16 h16 => ?_)
  refine wl_nil ?_
  cases t16 with
  | true =>
    try have c_t16 := dt h16
    first
    | (exfalso; omega)
    | (
      refine wc_then rfl ?_
      refine wc_seq ?_
      refine wc_region ?_
      refine wl rfl (oC rfl pf8 rfl (awake_ok _) (by repeat (first | exact Sel.all | exact Sel.none | (apply Sel.one; · repeat (first | exact Pick.h | apply Pick.t | apply Pick.app)) | apply Sel.app | (with_reducible apply Sel.grp; · repeat (first | exact PickF.h | apply PickF.t | apply PickF.a)) | (with_reducible refine Sel.nilF (by with_unfolding_all rfl) ?_) | apply Sel.drop | apply Sel.dropF)) ?_)
      rintro _ _ ⟨rfl, rfl⟩
      refine wl rfl (OP.ev rfl rfl (eAs rfl) ?_)
      refine wl_nil ?_
      refine wc_ret ?_
      apply at_ret rfl
      · exact (.cons (.tmp rfl) .nil)
      · exact ⟨rfl, rfl⟩
      · exact (by repeat (first | exact Sel.all | exact Sel.none | (apply Sel.one; · repeat (first | exact Pick.h | apply Pick.t | apply Pick.app)) | apply Sel.app | (with_reducible apply Sel.grp; · repeat (first | exact PickF.h | apply PickF.t | apply PickF.a)) | (with_reducible refine Sel.nilF (by with_unfolding_all rfl) ?_) | apply Sel.drop | apply Sel.dropF)))
  | false =>
    try have c_t16 := df h16
    first
    | (exfalso; omega)
    | (
      refine wc_else rfl ?_
      refine wc_skip ?_
      refine wc_seq ?_
      refine wc_region ?_
      refine wl rfl (oC rfl pf18 rfl (new_ok _) (by repeat (first | exact Sel.all | exact Sel.none | (apply Sel.one; · repeat (first | exact Pick.h | apply Pick.t | apply Pick.app)) | apply Sel.app | (with_reducible apply Sel.grp; · repeat (first | exact PickF.h | apply PickF.t | apply PickF.a)) | (with_reducible refine Sel.nilF (by with_unfolding_all rfl) ?_) | apply Sel.drop | apply Sel.dropF)) ?_)
      rintro _ _ ⟨t, r, rfl, rfl⟩
      refine wl rfl (OP.ev rfl rfl (eBuL (cells := [.slice none 0 0]) ty55 pl55 rfl rfl) ?_)
      refine wl rfl (oBox rfl rfl rfl fun b20 => ?_)
      refine wl rfl (OP.ev rfl rfl (eAs rfl) ?_)
      refine wl rfl (OP.ev rfl rfl (eAs rfl) ?_)
      refine wl_nil ?_
      refine wc_seq ?_
      refine wc_seq ?_
      refine wc_region ?_
      refine wl rfl (OP.ev rfl rfl (eMv rfl) ?_)
      refine wl rfl (OP.ev rfl rfl (eLenR ty22 rfl (hv _)) ?_)
      refine wl rfl (OP.ev rfl rfl (eMv rfl) ?_)
      refine wl_nil ?_
      refine wc_block ?_
      refine wc_loop (σ := Nat × Nat × Nat × SMap × Nat × Value × Array Value) (fun q => [(3, ptr q.2.1), (4, ptr b20), (21, v0), (22, i64 (l.length : Int)), (23, i64 (q.1 : Int))]) (fun q => tC q.2.1 q.2.2.1 :: mC q.2.2.1 q.2.2.2.1 q.2.2.2.2.1 :: xC b20 q.2.2.2.2.2.1 :: (ownH q.2.2.2.2.2.1 q.2.2.2.2.2.2 35 ++ [])) (fun q => q.1 ≤ l.length ∧ TOk q.2.2.2.1 q.2.2.2.2.1 ∧ Row q.2.2.2.2.2.1 q.2.2.2.2.2.2 11 (seatsOf q.2.2.2.1).length (flat (seatsOf q.2.2.2.1))) (fun q => l.length - q.1) (0, t, r, [], 0, .slice none 0 0, #[]) ⟨Nat.zero_le _, TOk.nil, by simpa [seatsOf, mkeys, flat] using Row.nil #[] 11⟩ ⟨rfl, rfl, rfl, rfl, rfl, trivial⟩ (by repeat (first | exact Sel.all | exact Sel.none | (apply Sel.one; · repeat (first | exact Pick.h | apply Pick.t | apply Pick.app)) | apply Sel.app | (with_reducible apply Sel.grp; · repeat (first | exact PickF.h | apply PickF.t | apply PickF.a)) | (with_reducible refine Sel.nilF (by with_unfolding_all rfl) ?_) | apply Sel.drop | apply Sel.dropF)) ?_
      rintro ⟨i, t, r, m, clk, v, cs⟩ ⟨hi, hT, hrow⟩
      dsimp only at hi hT hrow ⊢
      refine wc_seq ?_
      refine wc_region ?_
      refine wl rfl (OP.evb rfl rfl (eLt rfl rfl) fun t24 h24 => ?_)
      refine wl_nil ?_
      refine wc_seq ?_
      cases t24 with
      | true =>
        try have c_t24 := dt h24
        first
        | (exfalso; omega)
        | (
          refine wc_then rfl ?_
          refine wc_skip ?_
          refine wc_seq ?_
          refine wc_block ?_
          refine wc_seq ?_
          obtain ⟨c, hc⟩ : ∃ c, l[i]? = some c := ⟨_, List.getElem?_eq_getElem (by omega)⟩
          obtain ⟨hc1, hc2, hc3, hc4, hc5, hc6⟩ := hr c (List.mem_of_getElem? hc)
          have hsl := seats_len m
          have h8 := hT.2.1
          have hq : ∀ s ∈ seatsOf m, 0 ≤ s.seq ∧ s.seq ≤ 1099511627776 := fun s hs => by
            obtain ⟨_, _, _, _, h4, h5, _⟩ := seat_mem hT hs
            exact ⟨h4, h5⟩
          have hrow0 := hv []
          rcases hrow0.2 with ⟨h0, _⟩ | ⟨b, off, cap, rfl, hcap, hcells⟩
          · exfalso; omega
          refine wc_region ?_
          refine wl rfl (OP.ev rfl rfl (eIx ty22 ty41 rfl rfl (by omega) (by omega)) ?_)
          refine wl rfl (OP.ev rfl rfl (eLdRA (off := off) (cells := dos l) (vs := (cC c).toList) ty41 rfl rfl (Rc.sel hcells Sel.none) (i * 12) (by omega) rfl (flatMap_at _ 12 (fun _ => rfl) l i c hc)) ?_)
          refine wl rfl (oAl rfl ty41 rfl fun b6 => ?_)
          refine wl rfl (oStW ty41 rfl rfl rfl rfl (by repeat (first | exact Upd.h | apply Upd.t | apply Upd.app)) (by rfl) ?_)
          refine wl_nil ?_
          refine wc_seq ?_
          refine wc_seq ?_
          refine wc_region ?_
          refine wl rfl (OP.ev rfl rfl (eFld 0 ty41 rfl rfl ty3 rfl) ?_)
          first | refine wl rfl (OP.ev rfl rfl (eLd ty3 rfl rfl (by repeat (first | exact Has.h | apply Has.t | apply Has.app)) (by rfl)) ?_) | refine wl rfl (OP.ev rfl rfl (eLdO ty3 rfl rfl (by assumption)) ?_)
          refine wl rfl (OP.ev rfl rfl (eCv ty3 ty56 rfl) ?_)
          refine wl rfl (OP.ev rfl rfl (eRem rfl rfl rfl) ?_)
          refine wl rfl (OP.ev rfl rfl (eCv ty56 ty3 rfl) ?_)
          refine wl_nil ?_
          refine wc_block ?_
          refine wc_seq ?_
          refine wc_region ?_
          refine wl rfl (OP.evb rfl rfl (eEq rfl rfl) fun t54 h54 => ?_)
          refine wl rfl (OP.ev rfl rfl (eAs rfl) ?_)
          refine wl_nil ?_
          cases t54 with
          | true =>
            try have c_t54 := dt h54
            first
            | (exfalso; omega)
            | (
              refine wc_then rfl ?_
              refine wc_seq ?_
              refine wc_draw [(b6, .cells (cC c) 41 (0, 0))] rfl ?_
              refine wa_take 0 (by kernel_rfl) rfl rfl rfl rfl (by repeat (first | exact Sel.all | exact Sel.none | (apply Sel.one; · repeat (first | exact Pick.h | apply Pick.t | apply Pick.app)) | apply Sel.app | (with_reducible apply Sel.grp; · repeat (first | exact PickF.h | apply PickF.t | apply PickF.a)) | (with_reducible refine Sel.nilF (by with_unfolding_all rfl) ?_) | apply Sel.drop | apply Sel.dropF)) (eMv rfl) ?_
              refine wa_take 1 (by kernel_rfl) rfl rfl rfl rfl (by repeat (first | exact Sel.all | exact Sel.none | (apply Sel.one; · repeat (first | exact Pick.h | apply Pick.t | apply Pick.app)) | apply Sel.app | (with_reducible apply Sel.grp; · repeat (first | exact PickF.h | apply PickF.t | apply PickF.a)) | (with_reducible refine Sel.nilF (by with_unfolding_all rfl) ?_) | apply Sel.drop | apply Sel.dropF)) (eFld 3 ty41 rfl rfl ty3 rfl) ?_
              first | refine wa_take 2 (by kernel_rfl) rfl rfl rfl rfl (by repeat (first | exact Sel.all | exact Sel.none | (apply Sel.one; · repeat (first | exact Pick.h | apply Pick.t | apply Pick.app)) | apply Sel.app | (with_reducible apply Sel.grp; · repeat (first | exact PickF.h | apply PickF.t | apply PickF.a)) | (with_reducible refine Sel.nilF (by with_unfolding_all rfl) ?_) | apply Sel.drop | apply Sel.dropF)) (eLd ty3 rfl rfl (by repeat (first | exact Has.h | apply Has.t | apply Has.app)) (by rfl)) ?_ | refine wa_take 2 (by kernel_rfl) rfl rfl rfl rfl (by repeat (first | exact Sel.all | exact Sel.none | (apply Sel.one; · repeat (first | exact Pick.h | apply Pick.t | apply Pick.app)) | apply Sel.app | (with_reducible apply Sel.grp; · repeat (first | exact PickF.h | apply PickF.t | apply PickF.a)) | (with_reducible refine Sel.nilF (by with_unfolding_all rfl) ?_) | apply Sel.drop | apply Sel.dropF)) (eLdO ty3 rfl rfl (by assumption)) ?_
              refine wa_take 4 (by kernel_rfl) rfl rfl rfl rfl (by repeat (first | exact Sel.all | exact Sel.none | (apply Sel.one; · repeat (first | exact Pick.h | apply Pick.t | apply Pick.app)) | apply Sel.app | (with_reducible apply Sel.grp; · repeat (first | exact PickF.h | apply PickF.t | apply PickF.a)) | (with_reducible refine Sel.nilF (by with_unfolding_all rfl) ?_) | apply Sel.drop | apply Sel.dropF)) (eMv rfl) ?_
              refine wa_take 5 (by kernel_rfl) rfl rfl rfl rfl (by repeat (first | exact Sel.all | exact Sel.none | (apply Sel.one; · repeat (first | exact Pick.h | apply Pick.t | apply Pick.app)) | apply Sel.app | (with_reducible apply Sel.grp; · repeat (first | exact PickF.h | apply PickF.t | apply PickF.a)) | (with_reducible refine Sel.nilF (by with_unfolding_all rfl) ?_) | apply Sel.drop | apply Sel.dropF)) (eFld 3 ty41 rfl rfl ty3 rfl) ?_
              first | refine wa_take 6 (by kernel_rfl) rfl rfl rfl rfl (by repeat (first | exact Sel.all | exact Sel.none | (apply Sel.one; · repeat (first | exact Pick.h | apply Pick.t | apply Pick.app)) | apply Sel.app | (with_reducible apply Sel.grp; · repeat (first | exact PickF.h | apply PickF.t | apply PickF.a)) | (with_reducible refine Sel.nilF (by with_unfolding_all rfl) ?_) | apply Sel.drop | apply Sel.dropF)) (eLd ty3 rfl rfl (by repeat (first | exact Has.h | apply Has.t | apply Has.app)) (by rfl)) ?_ | refine wa_take 6 (by kernel_rfl) rfl rfl rfl rfl (by repeat (first | exact Sel.all | exact Sel.none | (apply Sel.one; · repeat (first | exact Pick.h | apply Pick.t | apply Pick.app)) | apply Sel.app | (with_reducible apply Sel.grp; · repeat (first | exact PickF.h | apply PickF.t | apply PickF.a)) | (with_reducible refine Sel.nilF (by with_unfolding_all rfl) ?_) | apply Sel.drop | apply Sel.dropF)) (eLdO ty3 rfl rfl (by assumption)) ?_
              refine wa_all [3] (by kernel_rfl) rfl (wall_one 3 rfl rfl ?_ trivial)
              refine oC rfl pf14 rfl (open_ok t r m clk c.at_ _) (by repeat (first | exact Sel.all | exact Sel.none | (apply Sel.one; · repeat (first | exact Pick.h | apply Pick.t | apply Pick.app)) | apply Sel.app | (with_reducible apply Sel.grp; · repeat (first | exact PickF.h | apply PickF.t | apply PickF.a)) | (with_reducible refine Sel.nilF (by with_unfolding_all rfl) ?_) | apply Sel.drop | apply Sel.dropF)) ?_
              rintro _ _ ⟨c0, m1, clk1, rfl, rfl, ho⟩
              refine ⟨(by repeat (first | exact Sel.all | exact Sel.none | (apply Sel.one; · repeat (first | exact Pick.h | apply Pick.t | apply Pick.app)) | apply Sel.app | (with_reducible apply Sel.grp; · repeat (first | exact PickF.h | apply PickF.t | apply PickF.a)) | (with_reducible refine Sel.nilF (by with_unfolding_all rfl) ?_) | apply Sel.drop | apply Sel.dropF)), ?_⟩
              refine wa_all [7] (by kernel_rfl) rfl (wall_one 7 rfl rfl ?_ trivial)
              refine oC rfl pf19 rfl (ropen_ok b20 v cs (seatsOf m) c.at_ hrow (by omega) _) (by repeat (first | exact Sel.all | exact Sel.none | (apply Sel.one; · repeat (first | exact Pick.h | apply Pick.t | apply Pick.app)) | apply Sel.app | (with_reducible apply Sel.grp; · repeat (first | exact PickF.h | apply PickF.t | apply PickF.a)) | (with_reducible refine Sel.nilF (by with_unfolding_all rfl) ?_) | apply Sel.drop | apply Sel.dropF)) ?_
              rintro _ _ ⟨c1, l1, v1, cs1, ho1, rfl, hrow1, rfl⟩
              refine ⟨(by repeat (first | exact Sel.all | exact Sel.none | (apply Sel.one; · repeat (first | exact Pick.h | apply Pick.t | apply Pick.app)) | apply Sel.app | (with_reducible apply Sel.grp; · repeat (first | exact PickF.h | apply PickF.t | apply PickF.a)) | (with_reducible refine Sel.nilF (by with_unfolding_all rfl) ?_) | apply Sel.drop | apply Sel.dropF)), ?_⟩
              refine wa_takeb 8 (by kernel_rfl) rfl rfl rfl rfl (by repeat (first | exact Sel.all | exact Sel.none | (apply Sel.one; · repeat (first | exact Pick.h | apply Pick.t | apply Pick.app)) | apply Sel.app | (with_reducible apply Sel.grp; · repeat (first | exact PickF.h | apply PickF.t | apply PickF.a)) | (with_reducible refine Sel.nilF (by with_unfolding_all rfl) ?_) | apply Sel.drop | apply Sel.dropF)) (eNe rfl rfl) fun t63 h63 => ?_
              refine wa_nil (by kernel_rfl) ?_
              have hso := sim_open hT c.at_
              rw [ho, ho1] at hso
              simp only [Prod.mk.injEq] at hso
              have hc01 : c1 = c0 := hso.1
              rw [hso.2] at hrow1
              have hT1 : TOk m1 clk1 := by have := hT.open c.at_; rw [ho] at this; exact this
              cases t63 with
              | true =>
                try have c_t63 := dt h63
                first
                | (exfalso; omega)
                | (
                  refine wc_then rfl ?_
                  refine wc_seq ?_
                  refine wc_region ?_
                  refine wl rfl (OP.ev rfl rfl (eAs rfl) ?_)
                  refine wl_nil ?_
                  refine wc_ret ?_
                  apply at_ret rfl
                  · exact (.cons (.tmp rfl) .nil)
                  · exact ⟨rfl, rfl⟩
                  · exact (by repeat (first | exact Sel.all | exact Sel.none | (apply Sel.one; · repeat (first | exact Pick.h | apply Pick.t | apply Pick.app)) | apply Sel.app | (with_reducible apply Sel.grp; · repeat (first | exact PickF.h | apply PickF.t | apply PickF.a)) | (with_reducible refine Sel.nilF (by with_unfolding_all rfl) ?_) | apply Sel.drop | apply Sel.dropF)))
              | false =>
                try have c_t63 := df h63
                first
                | (exfalso; omega)
                | (
                  refine wc_else rfl ?_
                  refine wc_skip ?_
                  refine wc_seq ?_
                  refine wc_region ?_
                  refine wl rfl (OP.ev rfl rfl (eMv rfl) ?_)
                  refine wl rfl (OP.ev rfl rfl (eMv rfl) ?_)
                  first
                  | (refine wl rfl (oC rfl pf23 rfl (tells_ok t' r' b20 m clk hT v cs hrow _) (by repeat (first | exact Sel.all | exact Sel.none | (apply Sel.one; · repeat (first | exact Pick.h | apply Pick.t | apply Pick.app)) | apply Sel.app | (with_reducible apply Sel.grp; · repeat (first | exact PickF.h | apply PickF.t | apply PickF.a)) | (with_reducible refine Sel.nilF (by with_unfolding_all rfl) ?_) | apply Sel.drop | apply Sel.dropF)) ?_); rintro _ _ ⟨rfl, rfl⟩)
                  | (refine wl rfl (oC rfl pf23 rfl (tells_ok t r b20 m1 clk1 hT1 v1 cs1 hrow1 _) (by repeat (first | exact Sel.all | exact Sel.none | (apply Sel.one; · repeat (first | exact Pick.h | apply Pick.t | apply Pick.app)) | apply Sel.app | (with_reducible apply Sel.grp; · repeat (first | exact PickF.h | apply PickF.t | apply PickF.a)) | (with_reducible refine Sel.nilF (by with_unfolding_all rfl) ?_) | apply Sel.drop | apply Sel.dropF)) ?_); rintro _ _ ⟨rfl, rfl⟩)
                  | (refine wl rfl (oC rfl pf23 rfl (tells_ok t r b20 (keepers m c.at_) clk (hT.filter _) v1 cs1 hrow1 _) (by repeat (first | exact Sel.all | exact Sel.none | (apply Sel.one; · repeat (first | exact Pick.h | apply Pick.t | apply Pick.app)) | apply Sel.app | (with_reducible apply Sel.grp; · repeat (first | exact PickF.h | apply PickF.t | apply PickF.a)) | (with_reducible refine Sel.nilF (by with_unfolding_all rfl) ?_) | apply Sel.drop | apply Sel.dropF)) ?_); rintro _ _ ⟨rfl, rfl⟩)
                  | (refine wl rfl (oC rfl pf23 rfl (tells_ok t r b20 m clk hT v cs hrow _) (by repeat (first | exact Sel.all | exact Sel.none | (apply Sel.one; · repeat (first | exact Pick.h | apply Pick.t | apply Pick.app)) | apply Sel.app | (with_reducible apply Sel.grp; · repeat (first | exact PickF.h | apply PickF.t | apply PickF.a)) | (with_reducible refine Sel.nilF (by with_unfolding_all rfl) ?_) | apply Sel.drop | apply Sel.dropF)) ?_); rintro _ _ ⟨rfl, rfl⟩)
                  refine wl rfl (OP.ev rfl rfl (eNot rfl) ?_)
                  refine wl_nil ?_
                  refine wc_else rfl ?_
                  refine wc_skip ?_
                  refine wc_region ?_
                  first | refine wl rfl (OP.ev rfl rfl (eAdd rfl rfl (by omega)) ?_) | refine wl rfl (OP.ev rfl rfl (eAddW rfl rfl) ?_)
                  refine wl rfl (OP.ev rfl rfl (eMv rfl) ?_)
                  refine wl_nil ?_
                  first | exact ⟨(i + 1, t', r', m, clk, v, cs), ⟨by show i + 1 ≤ _; omega, hT, hrow⟩, by show _ - (i + 1) < _; omega, ⟨rfl, rfl, rfl, rfl, rfl, trivial⟩, (by repeat (first | exact Sel.all | exact Sel.none | (apply Sel.one; · repeat (first | exact Pick.h | apply Pick.t | apply Pick.app)) | apply Sel.app | (with_reducible apply Sel.grp; · repeat (first | exact PickF.h | apply PickF.t | apply PickF.a)) | (with_reducible refine Sel.nilF (by with_unfolding_all rfl) ?_) | apply Sel.drop | apply Sel.dropF))⟩ | exact ⟨(i + 1, t, r, m1, clk1, v1, cs1), ⟨by show i + 1 ≤ _; omega, hT1, hrow1⟩, by show _ - (i + 1) < _; omega, ⟨rfl, rfl, rfl, rfl, rfl, trivial⟩, (by repeat (first | exact Sel.all | exact Sel.none | (apply Sel.one; · repeat (first | exact Pick.h | apply Pick.t | apply Pick.app)) | apply Sel.app | (with_reducible apply Sel.grp; · repeat (first | exact PickF.h | apply PickF.t | apply PickF.a)) | (with_reducible refine Sel.nilF (by with_unfolding_all rfl) ?_) | apply Sel.drop | apply Sel.dropF))⟩ | exact ⟨(i + 1, t, r, keepers m c.at_, clk, v1, cs1), ⟨by show i + 1 ≤ _; omega, hT.filter _, hrow1⟩, by show _ - (i + 1) < _; omega, ⟨rfl, rfl, rfl, rfl, rfl, trivial⟩, (by repeat (first | exact Sel.all | exact Sel.none | (apply Sel.one; · repeat (first | exact Pick.h | apply Pick.t | apply Pick.app)) | apply Sel.app | (with_reducible apply Sel.grp; · repeat (first | exact PickF.h | apply PickF.t | apply PickF.a)) | (with_reducible refine Sel.nilF (by with_unfolding_all rfl) ?_) | apply Sel.drop | apply Sel.dropF))⟩ | exact ⟨(i + 1, t, r, m, clk, v, cs), ⟨by show i + 1 ≤ _; omega, hT, hrow⟩, by show _ - (i + 1) < _; omega, ⟨rfl, rfl, rfl, rfl, rfl, trivial⟩, (by repeat (first | exact Sel.all | exact Sel.none | (apply Sel.one; · repeat (first | exact Pick.h | apply Pick.t | apply Pick.app)) | apply Sel.app | (with_reducible apply Sel.grp; · repeat (first | exact PickF.h | apply PickF.t | apply PickF.a)) | (with_reducible refine Sel.nilF (by with_unfolding_all rfl) ?_) | apply Sel.drop | apply Sel.dropF))⟩))
          | false =>
            try have c_t54 := df h54
            first
            | (exfalso; omega)
            | (
              refine wc_else rfl ?_
              refine wc_seq ?_
              refine wc_region ?_
              refine wl rfl (OP.evb rfl rfl (eEq rfl rfl) fun t65 h65 => ?_)
              refine wl rfl (OP.ev rfl rfl (eAs rfl) ?_)
              refine wl_nil ?_
              cases t65 with
              | true =>
                try have c_t65 := dt h65
                first
                | (exfalso; omega)
                | (
                  refine wc_then rfl ?_
                  refine wc_seq ?_
                  refine wc_region ?_
                  refine wl rfl (OP.ev rfl rfl (eMv rfl) ?_)
                  refine wl rfl (OP.ev rfl rfl (eFld 1 ty41 rfl rfl ty3 rfl) ?_)
                  first | refine wl rfl (OP.ev rfl rfl (eLd ty3 rfl rfl (by repeat (first | exact Has.h | apply Has.t | apply Has.app)) (by rfl)) ?_) | refine wl rfl (OP.ev rfl rfl (eLdO ty3 rfl rfl (by assumption)) ?_)
                  refine wl rfl (OP.ev rfl rfl (eFld 2 ty41 rfl rfl ty3 rfl) ?_)
                  first | refine wl rfl (OP.ev rfl rfl (eLd ty3 rfl rfl (by repeat (first | exact Has.h | apply Has.t | apply Has.app)) (by rfl)) ?_) | refine wl rfl (OP.ev rfl rfl (eLdO ty3 rfl rfl (by assumption)) ?_)
                  refine wl rfl (oC rfl pf12 rfl (ask_ok t r m clk c.session c.seq hc4 _) (by repeat (first | exact Sel.all | exact Sel.none | (apply Sel.one; · repeat (first | exact Pick.h | apply Pick.t | apply Pick.app)) | apply Sel.app | (with_reducible apply Sel.grp; · repeat (first | exact PickF.h | apply PickF.t | apply PickF.a)) | (with_reducible refine Sel.nilF (by with_unfolding_all rfl) ?_) | apply Sel.drop | apply Sel.dropF)) ?_)
                  rintro _ _ ⟨rfl, rfl⟩
                  refine wl rfl (OP.ev rfl rfl (eMv rfl) ?_)
                  refine wl rfl (OP.ev rfl rfl (eExt rfl rfl) ?_)
                  refine wl rfl (OP.ev rfl rfl (eExt rfl rfl) ?_)
                  refine wl rfl (OP.ev rfl rfl (eExt rfl rfl) ?_)
                  refine wl rfl (oAl rfl ty33 rfl fun b7 => ?_)
                  refine wl rfl (oStW ty33 rfl rfl rfl rfl (by repeat (first | exact Upd.h | apply Upd.t | apply Upd.app)) (by rfl) ?_)
                  refine wl rfl (OP.ev rfl rfl (eAs rfl) ?_)
                  refine wl rfl (OP.ev rfl rfl (eAs rfl) ?_)
                  refine wl_nil ?_
                  refine wc_seq ?_
                  refine wc_region ?_
                  refine wl rfl (OP.ev rfl rfl (eMv rfl) ?_)
                  refine wl rfl (OP.ev rfl rfl (eFld 1 ty41 rfl rfl ty3 rfl) ?_)
                  first | refine wl rfl (OP.ev rfl rfl (eLd ty3 rfl rfl (by repeat (first | exact Has.h | apply Has.t | apply Has.app)) (by rfl)) ?_) | refine wl rfl (OP.ev rfl rfl (eLdO ty3 rfl rfl (by assumption)) ?_)
                  refine wl rfl (OP.ev rfl rfl (eFld 2 ty41 rfl rfl ty3 rfl) ?_)
                  first | refine wl rfl (OP.ev rfl rfl (eLd ty3 rfl rfl (by repeat (first | exact Has.h | apply Has.t | apply Has.app)) (by rfl)) ?_) | refine wl rfl (OP.ev rfl rfl (eLdO ty3 rfl rfl (by assumption)) ?_)
                  refine wl rfl (oC rfl pf20 rfl (rask_ok' hT b20 v cs c.session c.seq hrow ⟨hc3, hc4⟩ _) (by repeat (first | exact Sel.all | exact Sel.none | (apply Sel.one; · repeat (first | exact Pick.h | apply Pick.t | apply Pick.app)) | apply Sel.app | (with_reducible apply Sel.grp; · repeat (first | exact PickF.h | apply PickF.t | apply PickF.a)) | (with_reducible refine Sel.nilF (by with_unfolding_all rfl) ?_) | apply Sel.drop | apply Sel.dropF)) ?_)
                  rintro _ _ ⟨rfl, rfl⟩
                  refine wl rfl (OP.ev rfl rfl (eMv rfl) ?_)
                  refine wl rfl (OP.ev rfl rfl (eExt rfl rfl) ?_)
                  refine wl rfl (OP.ev rfl rfl (eExt rfl rfl) ?_)
                  refine wl rfl (OP.ev rfl rfl (eExt rfl rfl) ?_)
                  refine wl rfl (oAl rfl ty33 rfl fun b10 => ?_)
                  refine wl rfl (oStW ty33 rfl rfl rfl rfl (by repeat (first | exact Upd.h | apply Upd.t | apply Upd.app)) (by rfl) ?_)
                  refine wl rfl (OP.ev rfl rfl (eAs rfl) ?_)
                  refine wl rfl (OP.ev rfl rfl (eAs rfl) ?_)
                  refine wl_nil ?_
                  refine wc_seq ?_
                  refine wc_region ?_
                  first | refine wl rfl (OP.ev rfl rfl (eLdW ty33 rfl rfl (by repeat (first | exact Has.h | apply Has.t | apply Has.app)) (by rfl)) ?_) | refine wl rfl (OP.ev rfl rfl (eLdA (vs := [_, _, _, _, _, _, _, _]) ty33 rfl rfl (by repeat (first | exact Has.h | apply Has.t | apply Has.app)) (by rfl) (by rfl)) ?_) | refine wl rfl (OP.ev rfl rfl (eLdAO ty33 rfl rfl (by assumption) (by assumption)) ?_)
                  first | refine wl rfl (OP.ev rfl rfl (eLdW ty33 rfl rfl (by repeat (first | exact Has.h | apply Has.t | apply Has.app)) (by rfl)) ?_) | refine wl rfl (OP.ev rfl rfl (eLdA (vs := [_, _, _, _, _, _, _, _]) ty33 rfl rfl (by repeat (first | exact Has.h | apply Has.t | apply Has.app)) (by rfl) (by rfl)) ?_) | refine wl rfl (OP.ev rfl rfl (eLdAO ty33 rfl rfl (by assumption) (by assumption)) ?_)
                  refine wl rfl (OP.ev rfl rfl (eNeA rfl rfl (eqv_reply_same _) rfl guard33) ?_)
                  refine wl rfl (OP.ev rfl rfl (eMv rfl) ?_)
                  refine wl_go rfl rfl (OP.ev rfl rfl (eMv rfl) ?_)
                  refine wl_go rfl rfl (OP.ev rfl rfl (eMv rfl) ?_)
                  refine wl_go rfl rfl (OP.ev rfl rfl (eNeB_same rfl rfl ty4) ?_)
                  refine wl rfl (OP.ev rfl rfl (ePk rfl rfl) ?_)
                  refine wl rfl (OP.ev rfl rfl (eMv rfl) ?_)
                  refine wl_go rfl rfl (OP.ev rfl rfl (eMv rfl) ?_)
                  refine wl_go rfl rfl (OP.ev rfl rfl (eMv rfl) ?_)
                  refine wl_go rfl rfl (OP.evb rfl rfl (eNe rfl rfl) fun t97 h97 => ?_)
                  refine wl rfl (OP.ev rfl rfl (ePk rfl rfl) ?_)
                  refine wl_nil ?_
                  cases t97 with
                  | true =>
                    try have c_t97 := dt h97
                    first
                    | (exfalso; omega)
                    | (
                      refine wc_then rfl ?_
                      refine wc_seq ?_
                      refine wc_region ?_
                      refine wl rfl (OP.ev rfl rfl (eAs rfl) ?_)
                      refine wl_nil ?_
                      refine wc_ret ?_
                      apply at_ret rfl
                      · exact (.cons (.tmp rfl) .nil)
                      · exact ⟨rfl, rfl⟩
                      · exact (by repeat (first | exact Sel.all | exact Sel.none | (apply Sel.one; · repeat (first | exact Pick.h | apply Pick.t | apply Pick.app)) | apply Sel.app | (with_reducible apply Sel.grp; · repeat (first | exact PickF.h | apply PickF.t | apply PickF.a)) | (with_reducible refine Sel.nilF (by with_unfolding_all rfl) ?_) | apply Sel.drop | apply Sel.dropF)))
                  | false =>
                    try have c_t97 := df h97
                    first
                    | (exfalso; omega)
                    | (
                      refine wc_else rfl ?_
                      refine wc_skip ?_
                      refine wc_seq ?_
                      refine wc_region ?_
                      refine wl rfl (OP.ev rfl rfl (eMv rfl) ?_)
                      refine wl rfl (OP.ev rfl rfl (eMv rfl) ?_)
                      first
                      | (refine wl rfl (oC rfl pf23 rfl (tells_ok t' r' b20 m clk hT v cs hrow _) (by repeat (first | exact Sel.all | exact Sel.none | (apply Sel.one; · repeat (first | exact Pick.h | apply Pick.t | apply Pick.app)) | apply Sel.app | (with_reducible apply Sel.grp; · repeat (first | exact PickF.h | apply PickF.t | apply PickF.a)) | (with_reducible refine Sel.nilF (by with_unfolding_all rfl) ?_) | apply Sel.drop | apply Sel.dropF)) ?_); rintro _ _ ⟨rfl, rfl⟩)
                      | (refine wl rfl (oC rfl pf23 rfl (tells_ok t r b20 m1 clk1 hT1 v1 cs1 hrow1 _) (by repeat (first | exact Sel.all | exact Sel.none | (apply Sel.one; · repeat (first | exact Pick.h | apply Pick.t | apply Pick.app)) | apply Sel.app | (with_reducible apply Sel.grp; · repeat (first | exact PickF.h | apply PickF.t | apply PickF.a)) | (with_reducible refine Sel.nilF (by with_unfolding_all rfl) ?_) | apply Sel.drop | apply Sel.dropF)) ?_); rintro _ _ ⟨rfl, rfl⟩)
                      | (refine wl rfl (oC rfl pf23 rfl (tells_ok t r b20 (keepers m c.at_) clk (hT.filter _) v1 cs1 hrow1 _) (by repeat (first | exact Sel.all | exact Sel.none | (apply Sel.one; · repeat (first | exact Pick.h | apply Pick.t | apply Pick.app)) | apply Sel.app | (with_reducible apply Sel.grp; · repeat (first | exact PickF.h | apply PickF.t | apply PickF.a)) | (with_reducible refine Sel.nilF (by with_unfolding_all rfl) ?_) | apply Sel.drop | apply Sel.dropF)) ?_); rintro _ _ ⟨rfl, rfl⟩)
                      | (refine wl rfl (oC rfl pf23 rfl (tells_ok t r b20 m clk hT v cs hrow _) (by repeat (first | exact Sel.all | exact Sel.none | (apply Sel.one; · repeat (first | exact Pick.h | apply Pick.t | apply Pick.app)) | apply Sel.app | (with_reducible apply Sel.grp; · repeat (first | exact PickF.h | apply PickF.t | apply PickF.a)) | (with_reducible refine Sel.nilF (by with_unfolding_all rfl) ?_) | apply Sel.drop | apply Sel.dropF)) ?_); rintro _ _ ⟨rfl, rfl⟩)
                      refine wl rfl (OP.ev rfl rfl (eNot rfl) ?_)
                      refine wl_nil ?_
                      refine wc_else rfl ?_
                      refine wc_skip ?_
                      refine wc_region ?_
                      first | refine wl rfl (OP.ev rfl rfl (eAdd rfl rfl (by omega)) ?_) | refine wl rfl (OP.ev rfl rfl (eAddW rfl rfl) ?_)
                      refine wl rfl (OP.ev rfl rfl (eMv rfl) ?_)
                      refine wl_nil ?_
                      first | exact ⟨(i + 1, t', r', m, clk, v, cs), ⟨by show i + 1 ≤ _; omega, hT, hrow⟩, by show _ - (i + 1) < _; omega, ⟨rfl, rfl, rfl, rfl, rfl, trivial⟩, (by repeat (first | exact Sel.all | exact Sel.none | (apply Sel.one; · repeat (first | exact Pick.h | apply Pick.t | apply Pick.app)) | apply Sel.app | (with_reducible apply Sel.grp; · repeat (first | exact PickF.h | apply PickF.t | apply PickF.a)) | (with_reducible refine Sel.nilF (by with_unfolding_all rfl) ?_) | apply Sel.drop | apply Sel.dropF))⟩ | exact ⟨(i + 1, t, r, m1, clk1, v1, cs1), ⟨by show i + 1 ≤ _; omega, hT1, hrow1⟩, by show _ - (i + 1) < _; omega, ⟨rfl, rfl, rfl, rfl, rfl, trivial⟩, (by repeat (first | exact Sel.all | exact Sel.none | (apply Sel.one; · repeat (first | exact Pick.h | apply Pick.t | apply Pick.app)) | apply Sel.app | (with_reducible apply Sel.grp; · repeat (first | exact PickF.h | apply PickF.t | apply PickF.a)) | (with_reducible refine Sel.nilF (by with_unfolding_all rfl) ?_) | apply Sel.drop | apply Sel.dropF))⟩ | exact ⟨(i + 1, t, r, keepers m c.at_, clk, v1, cs1), ⟨by show i + 1 ≤ _; omega, hT.filter _, hrow1⟩, by show _ - (i + 1) < _; omega, ⟨rfl, rfl, rfl, rfl, rfl, trivial⟩, (by repeat (first | exact Sel.all | exact Sel.none | (apply Sel.one; · repeat (first | exact Pick.h | apply Pick.t | apply Pick.app)) | apply Sel.app | (with_reducible apply Sel.grp; · repeat (first | exact PickF.h | apply PickF.t | apply PickF.a)) | (with_reducible refine Sel.nilF (by with_unfolding_all rfl) ?_) | apply Sel.drop | apply Sel.dropF))⟩ | exact ⟨(i + 1, t, r, m, clk, v, cs), ⟨by show i + 1 ≤ _; omega, hT, hrow⟩, by show _ - (i + 1) < _; omega, ⟨rfl, rfl, rfl, rfl, rfl, trivial⟩, (by repeat (first | exact Sel.all | exact Sel.none | (apply Sel.one; · repeat (first | exact Pick.h | apply Pick.t | apply Pick.app)) | apply Sel.app | (with_reducible apply Sel.grp; · repeat (first | exact PickF.h | apply PickF.t | apply PickF.a)) | (with_reducible refine Sel.nilF (by with_unfolding_all rfl) ?_) | apply Sel.drop | apply Sel.dropF))⟩))
              | false =>
                try have c_t65 := df h65
                first
                | (exfalso; omega)
                | (
                  refine wc_else rfl ?_
                  refine wc_seq ?_
                  refine wc_region ?_
                  refine wl rfl (OP.evb rfl rfl (eEq rfl rfl) fun t100 h100 => ?_)
                  refine wl rfl (OP.ev rfl rfl (eAs rfl) ?_)
                  refine wl_nil ?_
                  cases t100 with
                  | true =>
                    try have c_t100 := dt h100
                    first
                    | (exfalso; omega)
                    | (
                      refine wc_then rfl ?_
                      refine wc_seq ?_
                      refine wc_draw [(b6, .cells (cC c) 41 (0, 0))] rfl ?_
                      refine wa_take 0 (by kernel_rfl) rfl rfl rfl rfl (by repeat (first | exact Sel.all | exact Sel.none | (apply Sel.one; · repeat (first | exact Pick.h | apply Pick.t | apply Pick.app)) | apply Sel.app | (with_reducible apply Sel.grp; · repeat (first | exact PickF.h | apply PickF.t | apply PickF.a)) | (with_reducible refine Sel.nilF (by with_unfolding_all rfl) ?_) | apply Sel.drop | apply Sel.dropF)) (eMv rfl) ?_
                      refine wa_take 1 (by kernel_rfl) rfl rfl rfl rfl (by repeat (first | exact Sel.all | exact Sel.none | (apply Sel.one; · repeat (first | exact Pick.h | apply Pick.t | apply Pick.app)) | apply Sel.app | (with_reducible apply Sel.grp; · repeat (first | exact PickF.h | apply PickF.t | apply PickF.a)) | (with_reducible refine Sel.nilF (by with_unfolding_all rfl) ?_) | apply Sel.drop | apply Sel.dropF)) (eFld 3 ty41 rfl rfl ty3 rfl) ?_
                      first | refine wa_take 2 (by kernel_rfl) rfl rfl rfl rfl (by repeat (first | exact Sel.all | exact Sel.none | (apply Sel.one; · repeat (first | exact Pick.h | apply Pick.t | apply Pick.app)) | apply Sel.app | (with_reducible apply Sel.grp; · repeat (first | exact PickF.h | apply PickF.t | apply PickF.a)) | (with_reducible refine Sel.nilF (by with_unfolding_all rfl) ?_) | apply Sel.drop | apply Sel.dropF)) (eLd ty3 rfl rfl (by repeat (first | exact Has.h | apply Has.t | apply Has.app)) (by rfl)) ?_ | refine wa_take 2 (by kernel_rfl) rfl rfl rfl rfl (by repeat (first | exact Sel.all | exact Sel.none | (apply Sel.one; · repeat (first | exact Pick.h | apply Pick.t | apply Pick.app)) | apply Sel.app | (with_reducible apply Sel.grp; · repeat (first | exact PickF.h | apply PickF.t | apply PickF.a)) | (with_reducible refine Sel.nilF (by with_unfolding_all rfl) ?_) | apply Sel.drop | apply Sel.dropF)) (eLdO ty3 rfl rfl (by assumption)) ?_
                      refine wa_take 4 (by kernel_rfl) rfl rfl rfl rfl (by repeat (first | exact Sel.all | exact Sel.none | (apply Sel.one; · repeat (first | exact Pick.h | apply Pick.t | apply Pick.app)) | apply Sel.app | (with_reducible apply Sel.grp; · repeat (first | exact PickF.h | apply PickF.t | apply PickF.a)) | (with_reducible refine Sel.nilF (by with_unfolding_all rfl) ?_) | apply Sel.drop | apply Sel.dropF)) (eMv rfl) ?_
                      refine wa_take 5 (by kernel_rfl) rfl rfl rfl rfl (by repeat (first | exact Sel.all | exact Sel.none | (apply Sel.one; · repeat (first | exact Pick.h | apply Pick.t | apply Pick.app)) | apply Sel.app | (with_reducible apply Sel.grp; · repeat (first | exact PickF.h | apply PickF.t | apply PickF.a)) | (with_reducible refine Sel.nilF (by with_unfolding_all rfl) ?_) | apply Sel.drop | apply Sel.dropF)) (eFld 3 ty41 rfl rfl ty3 rfl) ?_
                      first | refine wa_take 6 (by kernel_rfl) rfl rfl rfl rfl (by repeat (first | exact Sel.all | exact Sel.none | (apply Sel.one; · repeat (first | exact Pick.h | apply Pick.t | apply Pick.app)) | apply Sel.app | (with_reducible apply Sel.grp; · repeat (first | exact PickF.h | apply PickF.t | apply PickF.a)) | (with_reducible refine Sel.nilF (by with_unfolding_all rfl) ?_) | apply Sel.drop | apply Sel.dropF)) (eLd ty3 rfl rfl (by repeat (first | exact Has.h | apply Has.t | apply Has.app)) (by rfl)) ?_ | refine wa_take 6 (by kernel_rfl) rfl rfl rfl rfl (by repeat (first | exact Sel.all | exact Sel.none | (apply Sel.one; · repeat (first | exact Pick.h | apply Pick.t | apply Pick.app)) | apply Sel.app | (with_reducible apply Sel.grp; · repeat (first | exact PickF.h | apply PickF.t | apply PickF.a)) | (with_reducible refine Sel.nilF (by with_unfolding_all rfl) ?_) | apply Sel.drop | apply Sel.dropF)) (eLdO ty3 rfl rfl (by assumption)) ?_
                      refine wa_all [3] (by kernel_rfl) rfl (wall_one 3 rfl rfl ?_ trivial)
                      refine oC rfl pf11 rfl (expire_ok t r m clk hT.1 c.at_ _) (by repeat (first | exact Sel.all | exact Sel.none | (apply Sel.one; · repeat (first | exact Pick.h | apply Pick.t | apply Pick.app)) | apply Sel.app | (with_reducible apply Sel.grp; · repeat (first | exact PickF.h | apply PickF.t | apply PickF.a)) | (with_reducible refine Sel.nilF (by with_unfolding_all rfl) ?_) | apply Sel.drop | apply Sel.dropF)) ?_
                      rintro _ _ ⟨rfl, rfl⟩
                      refine ⟨(by repeat (first | exact Sel.all | exact Sel.none | (apply Sel.one; · repeat (first | exact Pick.h | apply Pick.t | apply Pick.app)) | apply Sel.app | (with_reducible apply Sel.grp; · repeat (first | exact PickF.h | apply PickF.t | apply PickF.a)) | (with_reducible refine Sel.nilF (by with_unfolding_all rfl) ?_) | apply Sel.drop | apply Sel.dropF)), ?_⟩
                      refine wa_all [7] (by kernel_rfl) rfl (wall_one 7 rfl rfl ?_ trivial)
                      refine oC rfl pf21 rfl (rexpire_ok b20 v cs (seatsOf m) c.at_ hrow (by omega) _) (by repeat (first | exact Sel.all | exact Sel.none | (apply Sel.one; · repeat (first | exact Pick.h | apply Pick.t | apply Pick.app)) | apply Sel.app | (with_reducible apply Sel.grp; · repeat (first | exact PickF.h | apply PickF.t | apply PickF.a)) | (with_reducible refine Sel.nilF (by with_unfolding_all rfl) ?_) | apply Sel.drop | apply Sel.dropF)) ?_
                      rintro _ _ ⟨v1, cs1, rfl, hrow1, rfl⟩
                      refine ⟨(by repeat (first | exact Sel.all | exact Sel.none | (apply Sel.one; · repeat (first | exact Pick.h | apply Pick.t | apply Pick.app)) | apply Sel.app | (with_reducible apply Sel.grp; · repeat (first | exact PickF.h | apply PickF.t | apply PickF.a)) | (with_reducible refine Sel.nilF (by with_unfolding_all rfl) ?_) | apply Sel.drop | apply Sel.dropF)), ?_⟩
                      refine wa_takeb 8 (by kernel_rfl) rfl rfl rfl rfl (by repeat (first | exact Sel.all | exact Sel.none | (apply Sel.one; · repeat (first | exact Pick.h | apply Pick.t | apply Pick.app)) | apply Sel.app | (with_reducible apply Sel.grp; · repeat (first | exact PickF.h | apply PickF.t | apply PickF.a)) | (with_reducible refine Sel.nilF (by with_unfolding_all rfl) ?_) | apply Sel.drop | apply Sel.dropF)) (eNe rfl rfl) fun t109 h109 => ?_
                      refine wa_nil (by kernel_rfl) ?_
                      have hsk := seats_keepers hT.1 c.at_
                      rw [← hsk] at hrow1
                      have hlk := seats_len (keepers m c.at_)
                      have hlk2 : ((seatsOf m).filter fun s => !decide (s.at_ < c.at_)).length = (keepers m c.at_).length := by rw [← hsk, hlk]
                      cases t109 with
                      | true =>
                        try have c_t109 := dt h109
                        first
                        | (exfalso; omega)
                        | (
                          refine wc_then rfl ?_
                          refine wc_seq ?_
                          refine wc_region ?_
                          refine wl rfl (OP.ev rfl rfl (eAs rfl) ?_)
                          refine wl_nil ?_
                          refine wc_ret ?_
                          apply at_ret rfl
                          · exact (.cons (.tmp rfl) .nil)
                          · exact ⟨rfl, rfl⟩
                          · exact (by repeat (first | exact Sel.all | exact Sel.none | (apply Sel.one; · repeat (first | exact Pick.h | apply Pick.t | apply Pick.app)) | apply Sel.app | (with_reducible apply Sel.grp; · repeat (first | exact PickF.h | apply PickF.t | apply PickF.a)) | (with_reducible refine Sel.nilF (by with_unfolding_all rfl) ?_) | apply Sel.drop | apply Sel.dropF)))
                      | false =>
                        try have c_t109 := df h109
                        first
                        | (exfalso; omega)
                        | (
                          refine wc_else rfl ?_
                          refine wc_skip ?_
                          refine wc_seq ?_
                          refine wc_region ?_
                          refine wl rfl (OP.ev rfl rfl (eMv rfl) ?_)
                          refine wl rfl (OP.ev rfl rfl (eMv rfl) ?_)
                          first
                          | (refine wl rfl (oC rfl pf23 rfl (tells_ok t' r' b20 m clk hT v cs hrow _) (by repeat (first | exact Sel.all | exact Sel.none | (apply Sel.one; · repeat (first | exact Pick.h | apply Pick.t | apply Pick.app)) | apply Sel.app | (with_reducible apply Sel.grp; · repeat (first | exact PickF.h | apply PickF.t | apply PickF.a)) | (with_reducible refine Sel.nilF (by with_unfolding_all rfl) ?_) | apply Sel.drop | apply Sel.dropF)) ?_); rintro _ _ ⟨rfl, rfl⟩)
                          | (refine wl rfl (oC rfl pf23 rfl (tells_ok t r b20 m1 clk1 hT1 v1 cs1 hrow1 _) (by repeat (first | exact Sel.all | exact Sel.none | (apply Sel.one; · repeat (first | exact Pick.h | apply Pick.t | apply Pick.app)) | apply Sel.app | (with_reducible apply Sel.grp; · repeat (first | exact PickF.h | apply PickF.t | apply PickF.a)) | (with_reducible refine Sel.nilF (by with_unfolding_all rfl) ?_) | apply Sel.drop | apply Sel.dropF)) ?_); rintro _ _ ⟨rfl, rfl⟩)
                          | (refine wl rfl (oC rfl pf23 rfl (tells_ok t r b20 (keepers m c.at_) clk (hT.filter _) v1 cs1 hrow1 _) (by repeat (first | exact Sel.all | exact Sel.none | (apply Sel.one; · repeat (first | exact Pick.h | apply Pick.t | apply Pick.app)) | apply Sel.app | (with_reducible apply Sel.grp; · repeat (first | exact PickF.h | apply PickF.t | apply PickF.a)) | (with_reducible refine Sel.nilF (by with_unfolding_all rfl) ?_) | apply Sel.drop | apply Sel.dropF)) ?_); rintro _ _ ⟨rfl, rfl⟩)
                          | (refine wl rfl (oC rfl pf23 rfl (tells_ok t r b20 m clk hT v cs hrow _) (by repeat (first | exact Sel.all | exact Sel.none | (apply Sel.one; · repeat (first | exact Pick.h | apply Pick.t | apply Pick.app)) | apply Sel.app | (with_reducible apply Sel.grp; · repeat (first | exact PickF.h | apply PickF.t | apply PickF.a)) | (with_reducible refine Sel.nilF (by with_unfolding_all rfl) ?_) | apply Sel.drop | apply Sel.dropF)) ?_); rintro _ _ ⟨rfl, rfl⟩)
                          refine wl rfl (OP.ev rfl rfl (eNot rfl) ?_)
                          refine wl_nil ?_
                          refine wc_else rfl ?_
                          refine wc_skip ?_
                          refine wc_region ?_
                          first | refine wl rfl (OP.ev rfl rfl (eAdd rfl rfl (by omega)) ?_) | refine wl rfl (OP.ev rfl rfl (eAddW rfl rfl) ?_)
                          refine wl rfl (OP.ev rfl rfl (eMv rfl) ?_)
                          refine wl_nil ?_
                          first | exact ⟨(i + 1, t', r', m, clk, v, cs), ⟨by show i + 1 ≤ _; omega, hT, hrow⟩, by show _ - (i + 1) < _; omega, ⟨rfl, rfl, rfl, rfl, rfl, trivial⟩, (by repeat (first | exact Sel.all | exact Sel.none | (apply Sel.one; · repeat (first | exact Pick.h | apply Pick.t | apply Pick.app)) | apply Sel.app | (with_reducible apply Sel.grp; · repeat (first | exact PickF.h | apply PickF.t | apply PickF.a)) | (with_reducible refine Sel.nilF (by with_unfolding_all rfl) ?_) | apply Sel.drop | apply Sel.dropF))⟩ | exact ⟨(i + 1, t, r, m1, clk1, v1, cs1), ⟨by show i + 1 ≤ _; omega, hT1, hrow1⟩, by show _ - (i + 1) < _; omega, ⟨rfl, rfl, rfl, rfl, rfl, trivial⟩, (by repeat (first | exact Sel.all | exact Sel.none | (apply Sel.one; · repeat (first | exact Pick.h | apply Pick.t | apply Pick.app)) | apply Sel.app | (with_reducible apply Sel.grp; · repeat (first | exact PickF.h | apply PickF.t | apply PickF.a)) | (with_reducible refine Sel.nilF (by with_unfolding_all rfl) ?_) | apply Sel.drop | apply Sel.dropF))⟩ | exact ⟨(i + 1, t, r, keepers m c.at_, clk, v1, cs1), ⟨by show i + 1 ≤ _; omega, hT.filter _, hrow1⟩, by show _ - (i + 1) < _; omega, ⟨rfl, rfl, rfl, rfl, rfl, trivial⟩, (by repeat (first | exact Sel.all | exact Sel.none | (apply Sel.one; · repeat (first | exact Pick.h | apply Pick.t | apply Pick.app)) | apply Sel.app | (with_reducible apply Sel.grp; · repeat (first | exact PickF.h | apply PickF.t | apply PickF.a)) | (with_reducible refine Sel.nilF (by with_unfolding_all rfl) ?_) | apply Sel.drop | apply Sel.dropF))⟩ | exact ⟨(i + 1, t, r, m, clk, v, cs), ⟨by show i + 1 ≤ _; omega, hT, hrow⟩, by show _ - (i + 1) < _; omega, ⟨rfl, rfl, rfl, rfl, rfl, trivial⟩, (by repeat (first | exact Sel.all | exact Sel.none | (apply Sel.one; · repeat (first | exact Pick.h | apply Pick.t | apply Pick.app)) | apply Sel.app | (with_reducible apply Sel.grp; · repeat (first | exact PickF.h | apply PickF.t | apply PickF.a)) | (with_reducible refine Sel.nilF (by with_unfolding_all rfl) ?_) | apply Sel.drop | apply Sel.dropF))⟩))
                  | false =>
                    try have c_t100 := df h100
                    first
                    | (exfalso; omega)
                    | (
                      refine wc_else rfl ?_
                      refine wc_seq ?_
                      refine wc_region ?_
                      refine wl rfl (OP.evb rfl rfl (eEq rfl rfl) fun t111 h111 => ?_)
                      refine wl rfl (OP.ev rfl rfl (eAs rfl) ?_)
                      refine wl_nil ?_
                      cases t111 with
                      | true =>
                        try have c_t111 := dt h111
                        first
                        | (exfalso; omega)
                        | (
                          refine wc_then rfl ?_
                          refine wc_seq ?_
                          refine wc_region ?_
                          refine wl rfl (OP.ev rfl rfl (eMv rfl) ?_)
                          refine wl rfl (oC rfl pf17 rfl (clone_ok t r m clk _) (by repeat (first | exact Sel.all | exact Sel.none | (apply Sel.one; · repeat (first | exact Pick.h | apply Pick.t | apply Pick.app)) | apply Sel.app | (with_reducible apply Sel.grp; · repeat (first | exact PickF.h | apply PickF.t | apply PickF.a)) | (with_reducible refine Sel.nilF (by with_unfolding_all rfl) ?_) | apply Sel.drop | apply Sel.dropF)) ?_)
                          rintro _ _ ⟨t', r', rfl, rfl⟩
                          refine wl rfl (OP.ev rfl rfl (eAs rfl) ?_)
                          refine wl_nil ?_
                          refine wc_seq ?_
                          refine wc_region ?_
                          refine wl rfl (OP.ev rfl rfl (eMv rfl) ?_)
                          refine wl rfl (oC rfl pf11 rfl (expire_ok t r m clk hT.1 4611686018427387904 _) (by repeat (first | exact Sel.all | exact Sel.none | (apply Sel.one; · repeat (first | exact Pick.h | apply Pick.t | apply Pick.app)) | apply Sel.app | (with_reducible apply Sel.grp; · repeat (first | exact PickF.h | apply PickF.t | apply PickF.a)) | (with_reducible refine Sel.nilF (by with_unfolding_all rfl) ?_) | apply Sel.drop | apply Sel.dropF)) ?_)
                          rintro _ _ ⟨rfl, rfl⟩
                          refine wl_nil ?_
                          refine wc_region ?_
                          refine wl rfl (OP.ev rfl rfl (eMv rfl) ?_)
                          refine wl rfl (OP.ev rfl rfl (eAs rfl) ?_)
                          refine wl_nil ?_
                          refine wc_seq ?_
                          refine wc_region ?_
                          refine wl rfl (OP.ev rfl rfl (eMv rfl) ?_)
                          refine wl rfl (OP.ev rfl rfl (eMv rfl) ?_)
                          first
                          | (refine wl rfl (oC rfl pf23 rfl (tells_ok t' r' b20 m clk hT v cs hrow _) (by repeat (first | exact Sel.all | exact Sel.none | (apply Sel.one; · repeat (first | exact Pick.h | apply Pick.t | apply Pick.app)) | apply Sel.app | (with_reducible apply Sel.grp; · repeat (first | exact PickF.h | apply PickF.t | apply PickF.a)) | (with_reducible refine Sel.nilF (by with_unfolding_all rfl) ?_) | apply Sel.drop | apply Sel.dropF)) ?_); rintro _ _ ⟨rfl, rfl⟩)
                          | (refine wl rfl (oC rfl pf23 rfl (tells_ok t r b20 m1 clk1 hT1 v1 cs1 hrow1 _) (by repeat (first | exact Sel.all | exact Sel.none | (apply Sel.one; · repeat (first | exact Pick.h | apply Pick.t | apply Pick.app)) | apply Sel.app | (with_reducible apply Sel.grp; · repeat (first | exact PickF.h | apply PickF.t | apply PickF.a)) | (with_reducible refine Sel.nilF (by with_unfolding_all rfl) ?_) | apply Sel.drop | apply Sel.dropF)) ?_); rintro _ _ ⟨rfl, rfl⟩)
                          | (refine wl rfl (oC rfl pf23 rfl (tells_ok t r b20 (keepers m c.at_) clk (hT.filter _) v1 cs1 hrow1 _) (by repeat (first | exact Sel.all | exact Sel.none | (apply Sel.one; · repeat (first | exact Pick.h | apply Pick.t | apply Pick.app)) | apply Sel.app | (with_reducible apply Sel.grp; · repeat (first | exact PickF.h | apply PickF.t | apply PickF.a)) | (with_reducible refine Sel.nilF (by with_unfolding_all rfl) ?_) | apply Sel.drop | apply Sel.dropF)) ?_); rintro _ _ ⟨rfl, rfl⟩)
                          | (refine wl rfl (oC rfl pf23 rfl (tells_ok t r b20 m clk hT v cs hrow _) (by repeat (first | exact Sel.all | exact Sel.none | (apply Sel.one; · repeat (first | exact Pick.h | apply Pick.t | apply Pick.app)) | apply Sel.app | (with_reducible apply Sel.grp; · repeat (first | exact PickF.h | apply PickF.t | apply PickF.a)) | (with_reducible refine Sel.nilF (by with_unfolding_all rfl) ?_) | apply Sel.drop | apply Sel.dropF)) ?_); rintro _ _ ⟨rfl, rfl⟩)
                          refine wl rfl (OP.ev rfl rfl (eNot rfl) ?_)
                          refine wl_nil ?_
                          refine wc_else rfl ?_
                          refine wc_skip ?_
                          refine wc_region ?_
                          first | refine wl rfl (OP.ev rfl rfl (eAdd rfl rfl (by omega)) ?_) | refine wl rfl (OP.ev rfl rfl (eAddW rfl rfl) ?_)
                          refine wl rfl (OP.ev rfl rfl (eMv rfl) ?_)
                          refine wl_nil ?_
                          first | exact ⟨(i + 1, t', r', m, clk, v, cs), ⟨by show i + 1 ≤ _; omega, hT, hrow⟩, by show _ - (i + 1) < _; omega, ⟨rfl, rfl, rfl, rfl, rfl, trivial⟩, (by repeat (first | exact Sel.all | exact Sel.none | (apply Sel.one; · repeat (first | exact Pick.h | apply Pick.t | apply Pick.app)) | apply Sel.app | (with_reducible apply Sel.grp; · repeat (first | exact PickF.h | apply PickF.t | apply PickF.a)) | (with_reducible refine Sel.nilF (by with_unfolding_all rfl) ?_) | apply Sel.drop | apply Sel.dropF))⟩ | exact ⟨(i + 1, t, r, m1, clk1, v1, cs1), ⟨by show i + 1 ≤ _; omega, hT1, hrow1⟩, by show _ - (i + 1) < _; omega, ⟨rfl, rfl, rfl, rfl, rfl, trivial⟩, (by repeat (first | exact Sel.all | exact Sel.none | (apply Sel.one; · repeat (first | exact Pick.h | apply Pick.t | apply Pick.app)) | apply Sel.app | (with_reducible apply Sel.grp; · repeat (first | exact PickF.h | apply PickF.t | apply PickF.a)) | (with_reducible refine Sel.nilF (by with_unfolding_all rfl) ?_) | apply Sel.drop | apply Sel.dropF))⟩ | exact ⟨(i + 1, t, r, keepers m c.at_, clk, v1, cs1), ⟨by show i + 1 ≤ _; omega, hT.filter _, hrow1⟩, by show _ - (i + 1) < _; omega, ⟨rfl, rfl, rfl, rfl, rfl, trivial⟩, (by repeat (first | exact Sel.all | exact Sel.none | (apply Sel.one; · repeat (first | exact Pick.h | apply Pick.t | apply Pick.app)) | apply Sel.app | (with_reducible apply Sel.grp; · repeat (first | exact PickF.h | apply PickF.t | apply PickF.a)) | (with_reducible refine Sel.nilF (by with_unfolding_all rfl) ?_) | apply Sel.drop | apply Sel.dropF))⟩ | exact ⟨(i + 1, t, r, m, clk, v, cs), ⟨by show i + 1 ≤ _; omega, hT, hrow⟩, by show _ - (i + 1) < _; omega, ⟨rfl, rfl, rfl, rfl, rfl, trivial⟩, (by repeat (first | exact Sel.all | exact Sel.none | (apply Sel.one; · repeat (first | exact Pick.h | apply Pick.t | apply Pick.app)) | apply Sel.app | (with_reducible apply Sel.grp; · repeat (first | exact PickF.h | apply PickF.t | apply PickF.a)) | (with_reducible refine Sel.nilF (by with_unfolding_all rfl) ?_) | apply Sel.drop | apply Sel.dropF))⟩)
                      | false =>
                        try have c_t111 := df h111
                        first
                        | (exfalso; omega)
                        | (
                          refine wc_else rfl ?_
                          refine wc_seq ?_
                          refine wc_draw [(b6, .cells (cC c) 41 (0, 0))] rfl ?_
                          refine wa_take 0 (by kernel_rfl) rfl rfl rfl rfl (by repeat (first | exact Sel.all | exact Sel.none | (apply Sel.one; · repeat (first | exact Pick.h | apply Pick.t | apply Pick.app)) | apply Sel.app | (with_reducible apply Sel.grp; · repeat (first | exact PickF.h | apply PickF.t | apply PickF.a)) | (with_reducible refine Sel.nilF (by with_unfolding_all rfl) ?_) | apply Sel.drop | apply Sel.dropF)) (eMv rfl) ?_
                          refine wa_take 1 (by kernel_rfl) rfl rfl rfl rfl (by repeat (first | exact Sel.all | exact Sel.none | (apply Sel.one; · repeat (first | exact Pick.h | apply Pick.t | apply Pick.app)) | apply Sel.app | (with_reducible apply Sel.grp; · repeat (first | exact PickF.h | apply PickF.t | apply PickF.a)) | (with_reducible refine Sel.nilF (by with_unfolding_all rfl) ?_) | apply Sel.drop | apply Sel.dropF)) (eFld 1 ty41 rfl rfl ty3 rfl) ?_
                          first | refine wa_take 2 (by kernel_rfl) rfl rfl rfl rfl (by repeat (first | exact Sel.all | exact Sel.none | (apply Sel.one; · repeat (first | exact Pick.h | apply Pick.t | apply Pick.app)) | apply Sel.app | (with_reducible apply Sel.grp; · repeat (first | exact PickF.h | apply PickF.t | apply PickF.a)) | (with_reducible refine Sel.nilF (by with_unfolding_all rfl) ?_) | apply Sel.drop | apply Sel.dropF)) (eLd ty3 rfl rfl (by repeat (first | exact Has.h | apply Has.t | apply Has.app)) (by rfl)) ?_ | refine wa_take 2 (by kernel_rfl) rfl rfl rfl rfl (by repeat (first | exact Sel.all | exact Sel.none | (apply Sel.one; · repeat (first | exact Pick.h | apply Pick.t | apply Pick.app)) | apply Sel.app | (with_reducible apply Sel.grp; · repeat (first | exact PickF.h | apply PickF.t | apply PickF.a)) | (with_reducible refine Sel.nilF (by with_unfolding_all rfl) ?_) | apply Sel.drop | apply Sel.dropF)) (eLdO ty3 rfl rfl (by assumption)) ?_
                          refine wa_take 3 (by kernel_rfl) rfl rfl rfl rfl (by repeat (first | exact Sel.all | exact Sel.none | (apply Sel.one; · repeat (first | exact Pick.h | apply Pick.t | apply Pick.app)) | apply Sel.app | (with_reducible apply Sel.grp; · repeat (first | exact PickF.h | apply PickF.t | apply PickF.a)) | (with_reducible refine Sel.nilF (by with_unfolding_all rfl) ?_) | apply Sel.drop | apply Sel.dropF)) (eFld 2 ty41 rfl rfl ty3 rfl) ?_
                          first | refine wa_take 4 (by kernel_rfl) rfl rfl rfl rfl (by repeat (first | exact Sel.all | exact Sel.none | (apply Sel.one; · repeat (first | exact Pick.h | apply Pick.t | apply Pick.app)) | apply Sel.app | (with_reducible apply Sel.grp; · repeat (first | exact PickF.h | apply PickF.t | apply PickF.a)) | (with_reducible refine Sel.nilF (by with_unfolding_all rfl) ?_) | apply Sel.drop | apply Sel.dropF)) (eLd ty3 rfl rfl (by repeat (first | exact Has.h | apply Has.t | apply Has.app)) (by rfl)) ?_ | refine wa_take 4 (by kernel_rfl) rfl rfl rfl rfl (by repeat (first | exact Sel.all | exact Sel.none | (apply Sel.one; · repeat (first | exact Pick.h | apply Pick.t | apply Pick.app)) | apply Sel.app | (with_reducible apply Sel.grp; · repeat (first | exact PickF.h | apply PickF.t | apply PickF.a)) | (with_reducible refine Sel.nilF (by with_unfolding_all rfl) ?_) | apply Sel.drop | apply Sel.dropF)) (eLdO ty3 rfl rfl (by assumption)) ?_
                          refine wa_take 5 (by kernel_rfl) rfl rfl rfl rfl (by repeat (first | exact Sel.all | exact Sel.none | (apply Sel.one; · repeat (first | exact Pick.h | apply Pick.t | apply Pick.app)) | apply Sel.app | (with_reducible apply Sel.grp; · repeat (first | exact PickF.h | apply PickF.t | apply PickF.a)) | (with_reducible refine Sel.nilF (by with_unfolding_all rfl) ?_) | apply Sel.drop | apply Sel.dropF)) (eFld 3 ty41 rfl rfl ty3 rfl) ?_
                          first | refine wa_take 6 (by kernel_rfl) rfl rfl rfl rfl (by repeat (first | exact Sel.all | exact Sel.none | (apply Sel.one; · repeat (first | exact Pick.h | apply Pick.t | apply Pick.app)) | apply Sel.app | (with_reducible apply Sel.grp; · repeat (first | exact PickF.h | apply PickF.t | apply PickF.a)) | (with_reducible refine Sel.nilF (by with_unfolding_all rfl) ?_) | apply Sel.drop | apply Sel.dropF)) (eLd ty3 rfl rfl (by repeat (first | exact Has.h | apply Has.t | apply Has.app)) (by rfl)) ?_ | refine wa_take 6 (by kernel_rfl) rfl rfl rfl rfl (by repeat (first | exact Sel.all | exact Sel.none | (apply Sel.one; · repeat (first | exact Pick.h | apply Pick.t | apply Pick.app)) | apply Sel.app | (with_reducible apply Sel.grp; · repeat (first | exact PickF.h | apply PickF.t | apply PickF.a)) | (with_reducible refine Sel.nilF (by with_unfolding_all rfl) ?_) | apply Sel.drop | apply Sel.dropF)) (eLdO ty3 rfl rfl (by assumption)) ?_
                          refine wa_take 7 (by kernel_rfl) rfl rfl rfl rfl (by repeat (first | exact Sel.all | exact Sel.none | (apply Sel.one; · repeat (first | exact Pick.h | apply Pick.t | apply Pick.app)) | apply Sel.app | (with_reducible apply Sel.grp; · repeat (first | exact PickF.h | apply PickF.t | apply PickF.a)) | (with_reducible refine Sel.nilF (by with_unfolding_all rfl) ?_) | apply Sel.drop | apply Sel.dropF)) (eFld 4 ty41 rfl rfl ty33 rfl) ?_
                          first | refine wa_take 8 (by kernel_rfl) rfl rfl rfl rfl (by repeat (first | exact Sel.all | exact Sel.none | (apply Sel.one; · repeat (first | exact Pick.h | apply Pick.t | apply Pick.app)) | apply Sel.app | (with_reducible apply Sel.grp; · repeat (first | exact PickF.h | apply PickF.t | apply PickF.a)) | (with_reducible refine Sel.nilF (by with_unfolding_all rfl) ?_) | apply Sel.drop | apply Sel.dropF)) (eLdW ty33 rfl rfl (by repeat (first | exact Has.h | apply Has.t | apply Has.app)) (by rfl)) ?_ | refine wa_take 8 (by kernel_rfl) rfl rfl rfl rfl (by repeat (first | exact Sel.all | exact Sel.none | (apply Sel.one; · repeat (first | exact Pick.h | apply Pick.t | apply Pick.app)) | apply Sel.app | (with_reducible apply Sel.grp; · repeat (first | exact PickF.h | apply PickF.t | apply PickF.a)) | (with_reducible refine Sel.nilF (by with_unfolding_all rfl) ?_) | apply Sel.drop | apply Sel.dropF)) (eLdA (vs := [_, _, _, _, _, _, _, _]) ty33 rfl rfl (by repeat (first | exact Has.h | apply Has.t | apply Has.app)) (by rfl) (by rfl)) ?_ | refine wa_take 8 (by kernel_rfl) rfl rfl rfl rfl (by repeat (first | exact Sel.all | exact Sel.none | (apply Sel.one; · repeat (first | exact Pick.h | apply Pick.t | apply Pick.app)) | apply Sel.app | (with_reducible apply Sel.grp; · repeat (first | exact PickF.h | apply PickF.t | apply PickF.a)) | (with_reducible refine Sel.nilF (by with_unfolding_all rfl) ?_) | apply Sel.drop | apply Sel.dropF)) (eLdAO ty33 rfl rfl (by assumption) (by assumption)) ?_
                          refine wa_take 10 (by kernel_rfl) rfl rfl rfl rfl (by repeat (first | exact Sel.all | exact Sel.none | (apply Sel.one; · repeat (first | exact Pick.h | apply Pick.t | apply Pick.app)) | apply Sel.app | (with_reducible apply Sel.grp; · repeat (first | exact PickF.h | apply PickF.t | apply PickF.a)) | (with_reducible refine Sel.nilF (by with_unfolding_all rfl) ?_) | apply Sel.drop | apply Sel.dropF)) (eMv rfl) ?_
                          refine wa_take 11 (by kernel_rfl) rfl rfl rfl rfl (by repeat (first | exact Sel.all | exact Sel.none | (apply Sel.one; · repeat (first | exact Pick.h | apply Pick.t | apply Pick.app)) | apply Sel.app | (with_reducible apply Sel.grp; · repeat (first | exact PickF.h | apply PickF.t | apply PickF.a)) | (with_reducible refine Sel.nilF (by with_unfolding_all rfl) ?_) | apply Sel.drop | apply Sel.dropF)) (eFld 1 ty41 rfl rfl ty3 rfl) ?_
                          first | refine wa_take 12 (by kernel_rfl) rfl rfl rfl rfl (by repeat (first | exact Sel.all | exact Sel.none | (apply Sel.one; · repeat (first | exact Pick.h | apply Pick.t | apply Pick.app)) | apply Sel.app | (with_reducible apply Sel.grp; · repeat (first | exact PickF.h | apply PickF.t | apply PickF.a)) | (with_reducible refine Sel.nilF (by with_unfolding_all rfl) ?_) | apply Sel.drop | apply Sel.dropF)) (eLd ty3 rfl rfl (by repeat (first | exact Has.h | apply Has.t | apply Has.app)) (by rfl)) ?_ | refine wa_take 12 (by kernel_rfl) rfl rfl rfl rfl (by repeat (first | exact Sel.all | exact Sel.none | (apply Sel.one; · repeat (first | exact Pick.h | apply Pick.t | apply Pick.app)) | apply Sel.app | (with_reducible apply Sel.grp; · repeat (first | exact PickF.h | apply PickF.t | apply PickF.a)) | (with_reducible refine Sel.nilF (by with_unfolding_all rfl) ?_) | apply Sel.drop | apply Sel.dropF)) (eLdO ty3 rfl rfl (by assumption)) ?_
                          refine wa_take 13 (by kernel_rfl) rfl rfl rfl rfl (by repeat (first | exact Sel.all | exact Sel.none | (apply Sel.one; · repeat (first | exact Pick.h | apply Pick.t | apply Pick.app)) | apply Sel.app | (with_reducible apply Sel.grp; · repeat (first | exact PickF.h | apply PickF.t | apply PickF.a)) | (with_reducible refine Sel.nilF (by with_unfolding_all rfl) ?_) | apply Sel.drop | apply Sel.dropF)) (eFld 2 ty41 rfl rfl ty3 rfl) ?_
                          first | refine wa_take 14 (by kernel_rfl) rfl rfl rfl rfl (by repeat (first | exact Sel.all | exact Sel.none | (apply Sel.one; · repeat (first | exact Pick.h | apply Pick.t | apply Pick.app)) | apply Sel.app | (with_reducible apply Sel.grp; · repeat (first | exact PickF.h | apply PickF.t | apply PickF.a)) | (with_reducible refine Sel.nilF (by with_unfolding_all rfl) ?_) | apply Sel.drop | apply Sel.dropF)) (eLd ty3 rfl rfl (by repeat (first | exact Has.h | apply Has.t | apply Has.app)) (by rfl)) ?_ | refine wa_take 14 (by kernel_rfl) rfl rfl rfl rfl (by repeat (first | exact Sel.all | exact Sel.none | (apply Sel.one; · repeat (first | exact Pick.h | apply Pick.t | apply Pick.app)) | apply Sel.app | (with_reducible apply Sel.grp; · repeat (first | exact PickF.h | apply PickF.t | apply PickF.a)) | (with_reducible refine Sel.nilF (by with_unfolding_all rfl) ?_) | apply Sel.drop | apply Sel.dropF)) (eLdO ty3 rfl rfl (by assumption)) ?_
                          refine wa_take 15 (by kernel_rfl) rfl rfl rfl rfl (by repeat (first | exact Sel.all | exact Sel.none | (apply Sel.one; · repeat (first | exact Pick.h | apply Pick.t | apply Pick.app)) | apply Sel.app | (with_reducible apply Sel.grp; · repeat (first | exact PickF.h | apply PickF.t | apply PickF.a)) | (with_reducible refine Sel.nilF (by with_unfolding_all rfl) ?_) | apply Sel.drop | apply Sel.dropF)) (eFld 3 ty41 rfl rfl ty3 rfl) ?_
                          first | refine wa_take 16 (by kernel_rfl) rfl rfl rfl rfl (by repeat (first | exact Sel.all | exact Sel.none | (apply Sel.one; · repeat (first | exact Pick.h | apply Pick.t | apply Pick.app)) | apply Sel.app | (with_reducible apply Sel.grp; · repeat (first | exact PickF.h | apply PickF.t | apply PickF.a)) | (with_reducible refine Sel.nilF (by with_unfolding_all rfl) ?_) | apply Sel.drop | apply Sel.dropF)) (eLd ty3 rfl rfl (by repeat (first | exact Has.h | apply Has.t | apply Has.app)) (by rfl)) ?_ | refine wa_take 16 (by kernel_rfl) rfl rfl rfl rfl (by repeat (first | exact Sel.all | exact Sel.none | (apply Sel.one; · repeat (first | exact Pick.h | apply Pick.t | apply Pick.app)) | apply Sel.app | (with_reducible apply Sel.grp; · repeat (first | exact PickF.h | apply PickF.t | apply PickF.a)) | (with_reducible refine Sel.nilF (by with_unfolding_all rfl) ?_) | apply Sel.drop | apply Sel.dropF)) (eLdO ty3 rfl rfl (by assumption)) ?_
                          refine wa_take 17 (by kernel_rfl) rfl rfl rfl rfl (by repeat (first | exact Sel.all | exact Sel.none | (apply Sel.one; · repeat (first | exact Pick.h | apply Pick.t | apply Pick.app)) | apply Sel.app | (with_reducible apply Sel.grp; · repeat (first | exact PickF.h | apply PickF.t | apply PickF.a)) | (with_reducible refine Sel.nilF (by with_unfolding_all rfl) ?_) | apply Sel.drop | apply Sel.dropF)) (eFld 4 ty41 rfl rfl ty33 rfl) ?_
                          first | refine wa_take 18 (by kernel_rfl) rfl rfl rfl rfl (by repeat (first | exact Sel.all | exact Sel.none | (apply Sel.one; · repeat (first | exact Pick.h | apply Pick.t | apply Pick.app)) | apply Sel.app | (with_reducible apply Sel.grp; · repeat (first | exact PickF.h | apply PickF.t | apply PickF.a)) | (with_reducible refine Sel.nilF (by with_unfolding_all rfl) ?_) | apply Sel.drop | apply Sel.dropF)) (eLdW ty33 rfl rfl (by repeat (first | exact Has.h | apply Has.t | apply Has.app)) (by rfl)) ?_ | refine wa_take 18 (by kernel_rfl) rfl rfl rfl rfl (by repeat (first | exact Sel.all | exact Sel.none | (apply Sel.one; · repeat (first | exact Pick.h | apply Pick.t | apply Pick.app)) | apply Sel.app | (with_reducible apply Sel.grp; · repeat (first | exact PickF.h | apply PickF.t | apply PickF.a)) | (with_reducible refine Sel.nilF (by with_unfolding_all rfl) ?_) | apply Sel.drop | apply Sel.dropF)) (eLdA (vs := [_, _, _, _, _, _, _, _]) ty33 rfl rfl (by repeat (first | exact Has.h | apply Has.t | apply Has.app)) (by rfl) (by rfl)) ?_ | refine wa_take 18 (by kernel_rfl) rfl rfl rfl rfl (by repeat (first | exact Sel.all | exact Sel.none | (apply Sel.one; · repeat (first | exact Pick.h | apply Pick.t | apply Pick.app)) | apply Sel.app | (with_reducible apply Sel.grp; · repeat (first | exact PickF.h | apply PickF.t | apply PickF.a)) | (with_reducible refine Sel.nilF (by with_unfolding_all rfl) ?_) | apply Sel.drop | apply Sel.dropF)) (eLdAO ty33 rfl rfl (by assumption) (by assumption)) ?_
                          refine wa_all [9] (by kernel_rfl) rfl (wall_one 9 rfl rfl ?_ trivial)
                          refine oC rfl pf15 rfl (keep_ok t r m clk c.session c.seq c.at_ c.r hc4 _) (by repeat (first | exact Sel.all | exact Sel.none | (apply Sel.one; · repeat (first | exact Pick.h | apply Pick.t | apply Pick.app)) | apply Sel.app | (with_reducible apply Sel.grp; · repeat (first | exact PickF.h | apply PickF.t | apply PickF.a)) | (with_reducible refine Sel.nilF (by with_unfolding_all rfl) ?_) | apply Sel.drop | apply Sel.dropF)) ?_
                          rintro _ _ ⟨c0, m1, clk1, rfl, rfl, ho⟩
                          refine ⟨(by repeat (first | exact Sel.all | exact Sel.none | (apply Sel.one; · repeat (first | exact Pick.h | apply Pick.t | apply Pick.app)) | apply Sel.app | (with_reducible apply Sel.grp; · repeat (first | exact PickF.h | apply PickF.t | apply PickF.a)) | (with_reducible refine Sel.nilF (by with_unfolding_all rfl) ?_) | apply Sel.drop | apply Sel.dropF)), ?_⟩
                          refine wa_all [19] (by kernel_rfl) rfl (wall_one 19 rfl rfl ?_ trivial)
                          refine oC rfl pf22 rfl (rkeep_ok b20 v cs (seatsOf m) c.session c.seq c.at_ c.r hrow (by omega) hq ⟨hc3, hc4⟩ _) (by repeat (first | exact Sel.all | exact Sel.none | (apply Sel.one; · repeat (first | exact Pick.h | apply Pick.t | apply Pick.app)) | apply Sel.app | (with_reducible apply Sel.grp; · repeat (first | exact PickF.h | apply PickF.t | apply PickF.a)) | (with_reducible refine Sel.nilF (by with_unfolding_all rfl) ?_) | apply Sel.drop | apply Sel.dropF)) ?_
                          rintro _ _ ⟨c1, l1, v1, cs1, ho1, rfl, hrow1, rfl⟩
                          refine ⟨(by repeat (first | exact Sel.all | exact Sel.none | (apply Sel.one; · repeat (first | exact Pick.h | apply Pick.t | apply Pick.app)) | apply Sel.app | (with_reducible apply Sel.grp; · repeat (first | exact PickF.h | apply PickF.t | apply PickF.a)) | (with_reducible refine Sel.nilF (by with_unfolding_all rfl) ?_) | apply Sel.drop | apply Sel.dropF)), ?_⟩
                          refine wa_takeb 20 (by kernel_rfl) rfl rfl rfl rfl (by repeat (first | exact Sel.all | exact Sel.none | (apply Sel.one; · repeat (first | exact Pick.h | apply Pick.t | apply Pick.app)) | apply Sel.app | (with_reducible apply Sel.grp; · repeat (first | exact PickF.h | apply PickF.t | apply PickF.a)) | (with_reducible refine Sel.nilF (by with_unfolding_all rfl) ?_) | apply Sel.drop | apply Sel.dropF)) (eNe rfl rfl) fun t52 h52 => ?_
                          refine wa_nil (by kernel_rfl) ?_
                          have hso := sim_keep hT c.session c.seq c.at_ c.r
                          rw [ho, ho1] at hso
                          simp only [Prod.mk.injEq] at hso
                          have hc01 : c1 = c0 := hso.1
                          rw [hso.2] at hrow1
                          have hT1 : TOk m1 clk1 := by have := hT.keep c.session c.seq c.at_ c.r; rw [ho] at this; exact this
                          cases t52 with
                          | true =>
                            try have c_t52 := dt h52
                            first
                            | (exfalso; omega)
                            | (
                              refine wc_then rfl ?_
                              refine wc_seq ?_
                              refine wc_region ?_
                              refine wl rfl (OP.ev rfl rfl (eAs rfl) ?_)
                              refine wl_nil ?_
                              refine wc_ret ?_
                              apply at_ret rfl
                              · exact (.cons (.tmp rfl) .nil)
                              · exact ⟨rfl, rfl⟩
                              · exact (by repeat (first | exact Sel.all | exact Sel.none | (apply Sel.one; · repeat (first | exact Pick.h | apply Pick.t | apply Pick.app)) | apply Sel.app | (with_reducible apply Sel.grp; · repeat (first | exact PickF.h | apply PickF.t | apply PickF.a)) | (with_reducible refine Sel.nilF (by with_unfolding_all rfl) ?_) | apply Sel.drop | apply Sel.dropF)))
                          | false =>
                            try have c_t52 := df h52
                            first
                            | (exfalso; omega)
                            | (
                              refine wc_else rfl ?_
                              refine wc_skip ?_
                              refine wc_seq ?_
                              refine wc_region ?_
                              refine wl rfl (OP.ev rfl rfl (eMv rfl) ?_)
                              refine wl rfl (OP.ev rfl rfl (eMv rfl) ?_)
                              first
                              | (refine wl rfl (oC rfl pf23 rfl (tells_ok t' r' b20 m clk hT v cs hrow _) (by repeat (first | exact Sel.all | exact Sel.none | (apply Sel.one; · repeat (first | exact Pick.h | apply Pick.t | apply Pick.app)) | apply Sel.app | (with_reducible apply Sel.grp; · repeat (first | exact PickF.h | apply PickF.t | apply PickF.a)) | (with_reducible refine Sel.nilF (by with_unfolding_all rfl) ?_) | apply Sel.drop | apply Sel.dropF)) ?_); rintro _ _ ⟨rfl, rfl⟩)
                              | (refine wl rfl (oC rfl pf23 rfl (tells_ok t r b20 m1 clk1 hT1 v1 cs1 hrow1 _) (by repeat (first | exact Sel.all | exact Sel.none | (apply Sel.one; · repeat (first | exact Pick.h | apply Pick.t | apply Pick.app)) | apply Sel.app | (with_reducible apply Sel.grp; · repeat (first | exact PickF.h | apply PickF.t | apply PickF.a)) | (with_reducible refine Sel.nilF (by with_unfolding_all rfl) ?_) | apply Sel.drop | apply Sel.dropF)) ?_); rintro _ _ ⟨rfl, rfl⟩)
                              | (refine wl rfl (oC rfl pf23 rfl (tells_ok t r b20 (keepers m c.at_) clk (hT.filter _) v1 cs1 hrow1 _) (by repeat (first | exact Sel.all | exact Sel.none | (apply Sel.one; · repeat (first | exact Pick.h | apply Pick.t | apply Pick.app)) | apply Sel.app | (with_reducible apply Sel.grp; · repeat (first | exact PickF.h | apply PickF.t | apply PickF.a)) | (with_reducible refine Sel.nilF (by with_unfolding_all rfl) ?_) | apply Sel.drop | apply Sel.dropF)) ?_); rintro _ _ ⟨rfl, rfl⟩)
                              | (refine wl rfl (oC rfl pf23 rfl (tells_ok t r b20 m clk hT v cs hrow _) (by repeat (first | exact Sel.all | exact Sel.none | (apply Sel.one; · repeat (first | exact Pick.h | apply Pick.t | apply Pick.app)) | apply Sel.app | (with_reducible apply Sel.grp; · repeat (first | exact PickF.h | apply PickF.t | apply PickF.a)) | (with_reducible refine Sel.nilF (by with_unfolding_all rfl) ?_) | apply Sel.drop | apply Sel.dropF)) ?_); rintro _ _ ⟨rfl, rfl⟩)
                              refine wl rfl (OP.ev rfl rfl (eNot rfl) ?_)
                              refine wl_nil ?_
                              refine wc_else rfl ?_
                              refine wc_skip ?_
                              refine wc_region ?_
                              first | refine wl rfl (OP.ev rfl rfl (eAdd rfl rfl (by omega)) ?_) | refine wl rfl (OP.ev rfl rfl (eAddW rfl rfl) ?_)
                              refine wl rfl (OP.ev rfl rfl (eMv rfl) ?_)
                              refine wl_nil ?_
                              first | exact ⟨(i + 1, t', r', m, clk, v, cs), ⟨by show i + 1 ≤ _; omega, hT, hrow⟩, by show _ - (i + 1) < _; omega, ⟨rfl, rfl, rfl, rfl, rfl, trivial⟩, (by repeat (first | exact Sel.all | exact Sel.none | (apply Sel.one; · repeat (first | exact Pick.h | apply Pick.t | apply Pick.app)) | apply Sel.app | (with_reducible apply Sel.grp; · repeat (first | exact PickF.h | apply PickF.t | apply PickF.a)) | (with_reducible refine Sel.nilF (by with_unfolding_all rfl) ?_) | apply Sel.drop | apply Sel.dropF))⟩ | exact ⟨(i + 1, t, r, m1, clk1, v1, cs1), ⟨by show i + 1 ≤ _; omega, hT1, hrow1⟩, by show _ - (i + 1) < _; omega, ⟨rfl, rfl, rfl, rfl, rfl, trivial⟩, (by repeat (first | exact Sel.all | exact Sel.none | (apply Sel.one; · repeat (first | exact Pick.h | apply Pick.t | apply Pick.app)) | apply Sel.app | (with_reducible apply Sel.grp; · repeat (first | exact PickF.h | apply PickF.t | apply PickF.a)) | (with_reducible refine Sel.nilF (by with_unfolding_all rfl) ?_) | apply Sel.drop | apply Sel.dropF))⟩ | exact ⟨(i + 1, t, r, keepers m c.at_, clk, v1, cs1), ⟨by show i + 1 ≤ _; omega, hT.filter _, hrow1⟩, by show _ - (i + 1) < _; omega, ⟨rfl, rfl, rfl, rfl, rfl, trivial⟩, (by repeat (first | exact Sel.all | exact Sel.none | (apply Sel.one; · repeat (first | exact Pick.h | apply Pick.t | apply Pick.app)) | apply Sel.app | (with_reducible apply Sel.grp; · repeat (first | exact PickF.h | apply PickF.t | apply PickF.a)) | (with_reducible refine Sel.nilF (by with_unfolding_all rfl) ?_) | apply Sel.drop | apply Sel.dropF))⟩ | exact ⟨(i + 1, t, r, m, clk, v, cs), ⟨by show i + 1 ≤ _; omega, hT, hrow⟩, by show _ - (i + 1) < _; omega, ⟨rfl, rfl, rfl, rfl, rfl, trivial⟩, (by repeat (first | exact Sel.all | exact Sel.none | (apply Sel.one; · repeat (first | exact Pick.h | apply Pick.t | apply Pick.app)) | apply Sel.app | (with_reducible apply Sel.grp; · repeat (first | exact PickF.h | apply PickF.t | apply PickF.a)) | (with_reducible refine Sel.nilF (by with_unfolding_all rfl) ?_) | apply Sel.drop | apply Sel.dropF))⟩))))))
      | false =>
        try have c_t24 := df h24
        first
        | (exfalso; omega)
        | (
          refine wc_else rfl ?_
          refine wc_exit rfl ?_
          refine wc_seq ?_
          refine wc_region ?_
          refine wl rfl (oC rfl pf8 rfl (awake_ok _) (by repeat (first | exact Sel.all | exact Sel.none | (apply Sel.one; · repeat (first | exact Pick.h | apply Pick.t | apply Pick.app)) | apply Sel.app | (with_reducible apply Sel.grp; · repeat (first | exact PickF.h | apply PickF.t | apply PickF.a)) | (with_reducible refine Sel.nilF (by with_unfolding_all rfl) ?_) | apply Sel.drop | apply Sel.dropF)) ?_)
          rintro _ _ ⟨rfl, rfl⟩
          refine wl rfl (OP.ev rfl rfl (eAs rfl) ?_)
          refine wl_nil ?_
          refine wc_ret ?_
          apply at_ret rfl
          · exact (.cons (.tmp rfl) .nil)
          · exact ⟨rfl, rfl⟩
          · exact (by repeat (first | exact Sel.all | exact Sel.none | (apply Sel.one; · repeat (first | exact Pick.h | apply Pick.t | apply Pick.app)) | apply Sel.app | (with_reducible apply Sel.grp; · repeat (first | exact PickF.h | apply PickF.t | apply PickF.a)) | (with_reducible refine Sel.nilF (by with_unfolding_all rfl) ?_) | apply Sel.drop | apply Sel.dropF))))
end Go.Proofs.Ytbppeijcfkdhjaa
