/- The walk of DiskPlays. -/
import Derived.Test.YtahjgjmemijofaaRf10
namespace Go.Proofs.Ytahjgjmemijofaa
open Go Eng
set_option linter.unusedVariables false
set_option linter.unusedSimpArgs false
set_option maxRecDepth 4000
variable {W0 : World} {I I' : Heap}

theorem byteV_set (ys : List Int) (j : Nat) (z : Int) : byteV (ys.set j z) = (byteV ys).set j (.int .u8 z) := by simp [byteV, List.map_set]

theorem sumB_mem {l : List Do} {c : Do} (h : c ∈ l) : min c.B.length 32769 ≤ sumB l := by
  induction l with
  | nil => simp at h
  | cons x r ih =>
    simp only [sumB, List.map_cons, List.sum_cons] at ih ⊢
    rcases List.mem_cons.1 h with rfl | h
    · omega
    · have := ih h; omega
theorem short_mem {l : List Do} (h : short l = true) {c : Do} (hc : c ∈ l) : c.B.length ≤ 32768 := by
  unfold short at h
  simp at h
  have := sumB_mem hc
  omega
set_option maxHeartbeats 1000000 in
theorem plays_law (x : Int) (hx : I64 x) (v : Value) (l : List Do) (hv : Rs W0 [] v 8 l.length (dos l)) (hr : ∀ c ∈ l, DoR W0 [] c) (hl : l.length ≤ 9223372036854775807) (hnl : ∀ c ∈ l, c.name.length ≤ 9223372036854775807 ∧ c.to_.length ≤ 9223372036854775807) :
    FnC W0 Try.prog 6 #[i64 x, v] [] (fun v' L' => v' = .bool true ∧ L' = []) := by
  have hrs : ∀ L, ∀ c ∈ l, DoR W0 L c := fun L c hc => (hr c hc).sel Sel.none
  by_cases hx9 : x < 0 ∨ x > 16777216
  · skip
    refine fn_of Try.func6 rfl Try.ntmps6 rfl rfl ?_
    refine wc_seq ?_
    refine wc_region ?_
    refine wl rfl (OP.ev rfl rfl (eAs rfl) ?_)
    refine wl_nil ?_
    refine wc_seq ?_
    refine wc_region ?_
    refine wl rfl (OP.ev rfl rfl (eMv rfl) ?_)
    refine wl rfl (oCA rfl pf26 rfl (new_ok x _ hx) ?_)
    rintro v22 _ (⟨h9, rfl, rfl⟩ | ⟨h9, _⟩)
    rotate_left
    · exfalso; omega
    refine wl rfl (OP.ev rfl rfl (eMv rfl) ?_)
    refine wl rfl (OP.ev rfl rfl (eExt rfl rfl) ?_)
    refine wl rfl (OP.ev rfl rfl (eExt rfl rfl) ?_)
    refine wl rfl (OP.ev rfl rfl (eAs rfl) ?_)
    refine wl rfl (OP.ev rfl rfl (eAs rfl) ?_)
    refine wl_nil ?_
    refine wc_seq ?_
    refine wc_region ?_
    refine wl rfl (OP.ev rfl rfl (eMv rfl) ?_)
    refine wl rfl (oCA rfl pf27 rfl (rnew_ok x _ hx) ?_)
    rintro v27 _ (⟨h9, rfl, rfl⟩ | ⟨h9, _⟩)
    rotate_left
    · exfalso; omega
    refine wl rfl (OP.ev rfl rfl (eMv rfl) ?_)
    refine wl rfl (OP.ev rfl rfl (eExt rfl rfl) ?_)
    refine wl rfl (OP.ev rfl rfl (eExt rfl rfl) ?_)
    refine wl rfl (OP.ev rfl rfl (eAs rfl) ?_)
    refine wl rfl (OP.ev rfl rfl (eAs rfl) ?_)
    refine wl_nil ?_
    refine wc_seq ?_
    refine wc_seq ?_
    refine wc_region ?_
    refine wl rfl (OP.ev rfl rfl (eMv rfl) ?_)
    refine wl rfl (OP.ev rfl rfl (eMv rfl) ?_)
    refine wl rfl (OP.evb rfl rfl (eNe rfl rfl) fun t32 h32 => ?_)
    refine wl rfl (OP.ev rfl rfl (eMv rfl) ?_)
    cases t32 with
    | true =>
      try have c_t32 := dt h32
      first
      | (exfalso; omega)
      | (
        refine wl_skip rfl rfl rfl rfl rfl ?_
        refine wl_skip rfl rfl rfl rfl rfl ?_
        refine wl_skip rfl rfl rfl rfl rfl ?_
        refine wl_skip rfl rfl rfl rfl rfl ?_
        refine wl_skip rfl rfl rfl rfl rfl ?_
        refine wl rfl (OP.ev rfl rfl (ePk rfl rfl) ?_)
        refine wl_nil ?_
        refine wc_then rfl ?_
        refine wc_seq ?_
        refine wc_region ?_
        refine wl rfl (OP.ev rfl rfl (eAs rfl) ?_)
        refine wl_nil ?_
        refine wc_ret ?_
        apply at_ret rfl
        · exact (.cons (.tmp rfl) .nil)
        · first
          | exact ⟨rfl, rfl⟩
          | (exfalso; omega)
          | (exfalso; simp at *; done)
        · exact (by repeat (first|exact Sel.all|exact Sel.none|exact Sel.hd|(apply Sel.one; · repeat (first|exact Pick.h|apply Pick.t|apply Pick.app))|apply Sel.app|(with_reducible apply Sel.grp; · repeat (first|exact PickF.h|apply PickF.t|apply PickF.a))|(with_reducible refine Sel.nilF (by with_unfolding_all rfl) ?_)|apply Sel.drop|apply Sel.dropF)))
    | false =>
      try have c_t32 := df h32
      first
      | (exfalso; omega)
      | (
        refine wl_go rfl rfl (OP.ev rfl rfl (eMv rfl) ?_)
        first | refine wl_go rfl rfl (OP.ev rfl rfl (eEqP0 rfl rfl ty23) ?_) | refine wl_go rfl rfl (OP.ev rfl rfl (eEqP1 rfl rfl ty23) ?_)
        refine wl_go rfl rfl (OP.ev rfl rfl (eMv rfl) ?_)
        first | refine wl_go rfl rfl (OP.ev rfl rfl (eEqP0 rfl rfl ty57) ?_) | refine wl_go rfl rfl (OP.ev rfl rfl (eEqP1 rfl rfl ty57) ?_)
        refine wl_go rfl rfl (OP.ev rfl rfl (eNeB rfl rfl ty4) ?_)
        refine wl rfl (OP.ev rfl rfl (ePk rfl rfl) ?_)
        refine wl_nil ?_
        refine wc_else rfl ?_
        refine wc_skip ?_
        refine wc_seq ?_
        refine wc_seq ?_
        refine wc_region ?_
        refine wl rfl (OP.ev rfl rfl (eMv rfl) ?_)
        first | refine wl rfl (OP.ev rfl rfl (eEqP0 rfl rfl ty57) ?_) | refine wl rfl (OP.ev rfl rfl (eEqP1 rfl rfl ty57) ?_)
        refine wl rfl (OP.ev rfl rfl (eMv rfl) ?_)
        refine wl_skip rfl rfl rfl rfl rfl ?_
        refine wl_skip rfl rfl rfl rfl rfl ?_
        refine wl_skip rfl rfl rfl rfl rfl ?_
        refine wl rfl (OP.ev rfl rfl (ePk rfl rfl) ?_)
        refine wl_nil ?_
        refine wc_then rfl ?_
        refine wc_seq ?_
        refine wc_region ?_
        refine wl rfl (oCA rfl pf13 rfl (awake_ok _) ?_)
        rintro _ _ ⟨rfl, rfl⟩
        refine wl rfl (OP.ev rfl rfl (eAs rfl) ?_)
        refine wl_nil ?_
        refine wc_ret ?_
        apply at_ret rfl
        · exact (.cons (.tmp rfl) .nil)
        · first
          | exact ⟨rfl, rfl⟩
          | (exfalso; omega)
          | (exfalso; simp at *; done)
        · exact (by repeat (first|exact Sel.all|exact Sel.none|exact Sel.hd|(apply Sel.one; · repeat (first|exact Pick.h|apply Pick.t|apply Pick.app))|apply Sel.app|(with_reducible apply Sel.grp; · repeat (first|exact PickF.h|apply PickF.t|apply PickF.a))|(with_reducible refine Sel.nilF (by with_unfolding_all rfl) ?_)|apply Sel.drop|apply Sel.dropF)))
  · skip
    refine fn_of Try.func6 rfl Try.ntmps6 rfl rfl ?_
    refine wc_seq ?_
    refine wc_region ?_
    refine wl rfl (OP.ev rfl rfl (eAs rfl) ?_)
    refine wl_nil ?_
    refine wc_seq ?_
    refine wc_region ?_
    refine wl rfl (OP.ev rfl rfl (eMv rfl) ?_)
    refine wl rfl (oCA rfl pf26 rfl (new_ok x _ hx) ?_)
    rintro v22 _ (⟨h9, _⟩ | ⟨h9, b, ms, ml, rfl, rfl⟩)
    · exfalso; omega
    refine wl rfl (OP.ev rfl rfl (eMv rfl) ?_)
    refine wl rfl (OP.ev rfl rfl (eExt rfl rfl) ?_)
    refine wl rfl (OP.ev rfl rfl (eExt rfl rfl) ?_)
    refine wl rfl (OP.ev rfl rfl (eAs rfl) ?_)
    refine wl rfl (OP.ev rfl rfl (eAs rfl) ?_)
    refine wl_nil ?_
    refine wc_seq ?_
    refine wc_region ?_
    refine wl rfl (OP.ev rfl rfl (eMv rfl) ?_)
    refine wl rfl (oCA rfl pf27 rfl (rnew_ok x _ hx) ?_)
    rintro v27 _ (⟨h9, _⟩ | ⟨h9, b2, rfl, rfl⟩)
    · exfalso; omega
    refine wl rfl (OP.ev rfl rfl (eMv rfl) ?_)
    refine wl rfl (OP.ev rfl rfl (eExt rfl rfl) ?_)
    refine wl rfl (OP.ev rfl rfl (eExt rfl rfl) ?_)
    refine wl rfl (OP.ev rfl rfl (eAs rfl) ?_)
    refine wl rfl (OP.ev rfl rfl (eAs rfl) ?_)
    refine wl_nil ?_
    refine wc_seq ?_
    refine wc_seq ?_
    refine wc_region ?_
    refine wl rfl (OP.ev rfl rfl (eMv rfl) ?_)
    refine wl rfl (OP.ev rfl rfl (eMv rfl) ?_)
    refine wl rfl (OP.evb rfl rfl (eNe rfl rfl) fun t32 h32 => ?_)
    refine wl rfl (OP.ev rfl rfl (eMv rfl) ?_)
    cases t32 with
    | true =>
      try have c_t32 := dt h32
      first
      | (exfalso; omega)
      | (
        refine wl_skip rfl rfl rfl rfl rfl ?_
        refine wl_skip rfl rfl rfl rfl rfl ?_
        refine wl_skip rfl rfl rfl rfl rfl ?_
        refine wl_skip rfl rfl rfl rfl rfl ?_
        refine wl_skip rfl rfl rfl rfl rfl ?_
        refine wl rfl (OP.ev rfl rfl (ePk rfl rfl) ?_)
        refine wl_nil ?_
        refine wc_then rfl ?_
        refine wc_seq ?_
        refine wc_region ?_
        refine wl rfl (OP.ev rfl rfl (eAs rfl) ?_)
        refine wl_nil ?_
        refine wc_ret ?_
        apply at_ret rfl
        · exact (.cons (.tmp rfl) .nil)
        · first
          | exact ⟨rfl, rfl⟩
          | (exfalso; omega)
          | (exfalso; simp at *; done)
        · exact (by repeat (first|exact Sel.all|exact Sel.none|exact Sel.hd|(apply Sel.one; · repeat (first|exact Pick.h|apply Pick.t|apply Pick.app))|apply Sel.app|(with_reducible apply Sel.grp; · repeat (first|exact PickF.h|apply PickF.t|apply PickF.a))|(with_reducible refine Sel.nilF (by with_unfolding_all rfl) ?_)|apply Sel.drop|apply Sel.dropF)))
    | false =>
      try have c_t32 := df h32
      first
      | (exfalso; omega)
      | (
        refine wl_go rfl rfl (OP.ev rfl rfl (eMv rfl) ?_)
        first | refine wl_go rfl rfl (OP.ev rfl rfl (eEqP0 rfl rfl ty23) ?_) | refine wl_go rfl rfl (OP.ev rfl rfl (eEqP1 rfl rfl ty23) ?_)
        refine wl_go rfl rfl (OP.ev rfl rfl (eMv rfl) ?_)
        first | refine wl_go rfl rfl (OP.ev rfl rfl (eEqP0 rfl rfl ty57) ?_) | refine wl_go rfl rfl (OP.ev rfl rfl (eEqP1 rfl rfl ty57) ?_)
        refine wl_go rfl rfl (OP.ev rfl rfl (eNeB rfl rfl ty4) ?_)
        refine wl rfl (OP.ev rfl rfl (ePk rfl rfl) ?_)
        refine wl_nil ?_
        refine wc_else rfl ?_
        refine wc_skip ?_
        refine wc_seq ?_
        refine wc_seq ?_
        refine wc_region ?_
        refine wl rfl (OP.ev rfl rfl (eMv rfl) ?_)
        first | refine wl rfl (OP.ev rfl rfl (eEqP0 rfl rfl ty57) ?_) | refine wl rfl (OP.ev rfl rfl (eEqP1 rfl rfl ty57) ?_)
        refine wl rfl (OP.ev rfl rfl (eMv rfl) ?_)
        refine wl_go rfl rfl (OP.ev rfl rfl (eMv rfl) ?_)
        refine wl_go rfl rfl (oCA rfl pf20 rfl (short_ok v l _ (hv.sel Sel.none) (hrs _) hl) ?_)
        rintro _ _ ⟨rfl, rfl⟩
        refine wl_go rfl rfl (OP.evb rfl rfl (eNot rfl) fun t45 h45 => ?_)
        refine wl rfl (OP.ev rfl rfl (ePk rfl rfl) ?_)
        refine wl_nil ?_
        cases t45 with
        | true =>
          try have c_t45 := dt h45
          first
          | (exfalso; omega)
          | (
            refine wc_then rfl ?_
            refine wc_seq ?_
            refine wc_region ?_
            refine wl rfl (oCA rfl pf13 rfl (awake_ok _) ?_)
            rintro _ _ ⟨rfl, rfl⟩
            refine wl rfl (OP.ev rfl rfl (eAs rfl) ?_)
            refine wl_nil ?_
            refine wc_ret ?_
            apply at_ret rfl
            · exact (.cons (.tmp rfl) .nil)
            · first
              | exact ⟨rfl, rfl⟩
              | (exfalso; omega)
              | (exfalso; simp at *; done)
            · exact (by repeat (first|exact Sel.all|exact Sel.none|exact Sel.hd|(apply Sel.one; · repeat (first|exact Pick.h|apply Pick.t|apply Pick.app))|apply Sel.app|(with_reducible apply Sel.grp; · repeat (first|exact PickF.h|apply PickF.t|apply PickF.a))|(with_reducible refine Sel.nilF (by with_unfolding_all rfl) ?_)|apply Sel.drop|apply Sel.dropF)))
        | false =>
          try have c_t45 := df h45
          first
          | (exfalso; omega)
          | (
            refine wc_else rfl ?_
            refine wc_skip ?_
            refine wc_seq ?_
            refine wc_seq ?_
            refine wc_region ?_
            refine wl rfl (OP.ev rfl rfl (eMv rfl) ?_)
            refine wl rfl (OP.ev rfl rfl (eLenR ty22 rfl (hv.sel Sel.none)) ?_)
            refine wl rfl (OP.ev rfl rfl (eMv rfl) ?_)
            refine wl_nil ?_
            refine wc_block ?_
            have hsh : short l = true := by
              cases hq : short l with
              | true => rfl
              | false => exfalso; rw [hq] at h45; simp at h45
            refine wc_loop (σ := Nat × DK × Heap × Heap × Heap) (fun q => [(5, ptr b), (7, ptr b2), (48, v), (49, i64 (l.length : Int)), (50, i64 (q.1 : Int))]) (fun q => q.2.2.1 ++ (q.2.2.2.1 ++ (q.2.2.2.2 ++ []))) (fun q => q.1 ≤ l.length ∧ DOk q.2.1 ∧ MN q.2.1 ∧ q.2.1.acts.length ≤ q.1 ∧ DiskR W0 q.2.2.2.2 q.2.1 b q.2.2.1 ∧ RefR W0 q.2.2.2.2 q.2.1 b2 q.2.2.2.1) (fun q => l.length - q.1) (0, DK.new x, [dkC b (DK.new x) ms ml (.slice none 0 0), tC ms [] 0, tC ml [] 0], [rkC b2 (DK.new x) (.slice none 0 0) (.slice none 0 0) 0 0], ([] : Heap)) ⟨Nat.zero_le _, DOk.new (by omega) (by omega), MN.new x, Nat.le_refl _, ⟨ms, ml, [], 0, [], 0, _, #[], [], rfl, Tab.nil 0, Tab.nil 0, ActsR.nil⟩, rnew_ref x b2⟩ ⟨rfl, rfl, rfl, rfl, rfl, trivial⟩ (by repeat (first|exact Sel.all|exact Sel.none|exact Sel.hd|(apply Sel.one; · repeat (first|exact Pick.h|apply Pick.t|apply Pick.app))|apply Sel.app|(with_reducible apply Sel.grp; · repeat (first|exact PickF.h|apply PickF.t|apply PickF.a))|(with_reducible refine Sel.nilF (by with_unfolding_all rfl) ?_)|apply Sel.drop|apply Sel.dropF)) ?_
            rintro ⟨i, d, D, E, I⟩ ⟨hi, hd, hm, hac, hD, hE⟩
            dsimp only at hi hd hm hac hD hE ⊢
            refine wc_seq ?_
            refine wc_region ?_
            refine wl rfl (OP.evb rfl rfl (eLt rfl rfl) fun t51 h51 => ?_)
            refine wl_nil ?_
            refine wc_seq ?_
            cases t51 with
            | true =>
              try have c_t51 := dt h51
              first
              | (exfalso; omega)
              | (
                refine wc_then rfl ?_
                refine wc_skip ?_
                refine wc_seq ?_
                refine wc_block ?_
                refine wc_seq ?_
                obtain ⟨c, hc⟩ : ∃ c, l[i]? = some c := ⟨_, List.getElem?_eq_getElem (by omega)⟩
                have hcm := List.mem_of_getElem? hc
                have hcr := hr c hcm
                obtain ⟨hn1, hn2⟩ := hnl c hcm
                have hls := short_len hsh
                have hBl := short_mem hsh hcm
                have hd' := hd.does hcr
                have hm' := hm.does c
                obtain ⟨hac', _⟩ := does_acts d c
                refine wc_region ?_
                refine wl rfl (OP.ev rfl rfl (eIxS ty22 ty39 rfl (hv.sel Sel.none) rfl (by omega) (by omega)) ?_)
                refine wl rfl (OP.ev rfl rfl (eLdSA (vs := (cC c).toList) ty39 rfl rfl (hv.sel Sel.none) (i * 8) (by omega) rfl (dos_at hc) (by decide)) ?_)
                refine wl rfl (oAl rfl ty39 rfl fun b10 => ?_)
                refine wl rfl (oStW ty39 rfl rfl rfl (cC_one hcr) (by repeat (first|exact Upd.h|apply Upd.t|apply Upd.app)) (by rfl) ?_)
                refine wl_nil ?_
                refine wc_seq ?_
                refine wc_region ?_
                first | refine wl rfl (OP.ev rfl rfl (eLdW ty39 rfl rfl (by repeat (first|exact Has.h|apply Has.t|apply Has.app)) (by rfl)) ?_) | refine wl rfl (OP.ev rfl rfl (eLdA (vs := [_, _, _, _, _, _, _, _]) ty39 rfl rfl (by repeat (first|exact Has.h|apply Has.t|apply Has.app)) (by rfl) (by rfl)) ?_)
                refine wl rfl (oAl rfl ty39 rfl fun b11 => ?_)
                refine wl rfl (oStW ty39 rfl rfl rfl (cC_one hcr) (by repeat (first|exact Upd.h|apply Upd.t|apply Upd.app)) (by rfl) ?_)
                refine wl_nil ?_
                refine wc_seq ?_
                refine wc_region ?_
                refine wl rfl (OP.ev rfl rfl (eFld 4 ty39 rfl rfl ty30 rfl) ?_)
                refine wl rfl (OP.ev rfl rfl (eLd ty30 rfl rfl (by repeat (first|exact Has.h|apply Has.t|apply Has.app)) (by rfl)) ?_)
                refine wl rfl (oCA rfl pf28 rfl (bclone_ok c.bv c.B _ (hcr.rs.sel Sel.none) (by omega)) ?_)
                rintro v57 _ ⟨cs57, hrow57, _, rfl⟩
                refine wl rfl (OP.ev rfl rfl (eFld 4 ty39 rfl rfl ty30 rfl) ?_)
                refine wl rfl (oSt (cs := cC c) (T := 39) (fz := (0, 0)) (o' := .cells (cC { c with bv := v57 }) 39 (0, 0)) ty30 rfl rfl hrow57.one (by rfl) (by repeat (first|exact Upd.h|apply Upd.t|apply Upd.app)) (by show 4 < 8; decide) (by rfl) ?_)
                refine wl_nil ?_
                refine wc_seq ?_
                have hdo : FnC W0 Try.prog 23 #[ptr b, .agg (cC { c with bv := v57 })] (D ++ (I ++ (E ++ (ownH v57 cs57 5 ++ [(b10, .cells (cC c) 39 (0, 0)), (b11, .cells (cC { c with bv := v57 }) 39 (0, 0))])))) (PutP W0 I (E ++ (ownH v57 cs57 5 ++ [(b10, .cells (cC c) 39 (0, 0)), (b11, .cells (cC { c with bv := v57 }) 39 (0, 0))])) b (d.does c).2 (i64 (d.does c).1)) :=
                  does_ok b d hd { c with bv := v57 } D _ hD ⟨hcr.at_, hcr.keep, hcr.tear, hcr.n, hrow57.rs (by repeat (first|exact At.cell|exact At.h|apply At.t|apply At.a)), hcr.isB, hcr.len⟩ (by omega)
                refine wc_region ?_
                refine wl rfl (OP.ev rfl rfl (eMv rfl) ?_)
                first | refine wl rfl (OP.ev rfl rfl (eLdW ty39 rfl rfl (by repeat (first|exact Has.h|apply Has.t|apply Has.app)) (by rfl)) ?_) | refine wl rfl (OP.ev rfl rfl (eLdA (vs := [_, _, _, _, _, _, _, _]) ty39 rfl rfl (by repeat (first|exact Has.h|apply Has.t|apply Has.app)) (by rfl) (by rfl)) ?_)
                refine wl rfl (oC rfl pf23 rfl hdo (by repeat (first|exact Sel.all|exact Sel.none|exact Sel.hd|(apply Sel.one; · repeat (first|exact Pick.h|apply Pick.t|apply Pick.app))|apply Sel.app|(with_reducible apply Sel.grp; · repeat (first|exact PickF.h|apply PickF.t|apply PickF.a))|(with_reducible refine Sel.nilF (by with_unfolding_all rfl) ?_)|apply Sel.drop|apply Sel.dropF)) ?_)
                rintro _ _ ⟨rfl, D1, I1, hI1, hD1, rfl⟩
                refine wl rfl (OP.ev rfl rfl (eAs rfl) ?_)
                refine wl rfl (OP.ev rfl rfl (eAs rfl) ?_)
                refine wl_nil ?_
                refine wc_cut (σ := Heap × Heap) (fun q => [(5, ptr b), (7, ptr b2), (10, ptr b10), (11, ptr b11), (12, i64 (d.does c).1), (13, i64 (d.does c).1), (48, v), (49, i64 (l.length : Int)), (50, i64 (i : Int))]) (fun q => D1 ++ (q.1 ++ (q.2 ++ (ownH v57 cs57 5 ++ [(b10, .cells (cC c) 39 (0, 0)), (b11, .cells (cC { c with bv := v57 }) 39 (0, 0))])))) (fun q => Sel q.2 I1 ∧ RefR W0 q.2 (d.does c).2 b2 q.1) ?_ ?_
                · skip
                  refine wc_seq ?_
                  refine wc_region ?_
                  refine wl rfl (OP.ev rfl rfl (eFld 0 ty39 rfl rfl ty3 rfl) ?_)
                  refine wl rfl (OP.ev rfl rfl (eLd ty3 rfl rfl (by repeat (first|exact Has.h|apply Has.t|apply Has.app)) (by rfl)) ?_)
                  refine wl rfl (OP.ev rfl rfl (eCv ty3 ty44 rfl) ?_)
                  refine wl rfl (OP.ev rfl rfl (eRem rfl rfl rfl) ?_)
                  refine wl rfl (OP.ev rfl rfl (eCv ty44 ty3 rfl) ?_)
                  refine wl_nil ?_
                  refine wc_block ?_
                  refine wc_seq ?_
                  refine wc_region ?_
                  refine wl rfl (OP.evb rfl rfl (eEq rfl rfl) fun t76 h76 => ?_)
                  refine wl rfl (OP.ev rfl rfl (eAs rfl) ?_)
                  refine wl_nil ?_
                  cases t76 with
                  | true =>
                    try have c_t76 := dt h76
                    first
                    | (exfalso; omega)
                    | (
                      refine wc_then rfl ?_
                      refine wc_region ?_
                      refine wl rfl (OP.ev rfl rfl (eMv rfl) ?_)
                      refine wl rfl (OP.ev rfl rfl (eFld 1 ty39 rfl rfl ty9 rfl) ?_)
                      refine wl rfl (OP.ev rfl rfl (eLd ty9 rfl rfl (by repeat (first|exact Has.h|apply Has.t|apply Has.app)) (by rfl)) ?_)
                      refine wl rfl (OP.ev rfl rfl (eFld 3 ty39 rfl rfl ty3 rfl) ?_)
                      refine wl rfl (OP.ev rfl rfl (eLd ty3 rfl rfl (by repeat (first|exact Has.h|apply Has.t|apply Has.app)) (by rfl)) ?_)
                      refine wl rfl (oC rfl pf29 rfl (rtrim_ok b2 d hd c.name hn1 c.at_ hcr.at_ E _ (hE.sel hI1) (by omega)) (by repeat (first|exact Sel.all|exact Sel.none|exact Sel.hd|(apply Sel.one; · repeat (first|exact Pick.h|apply Pick.t|apply Pick.app))|apply Sel.app|(with_reducible apply Sel.grp; · repeat (first|exact PickF.h|apply PickF.t|apply PickF.a))|(with_reducible refine Sel.nilF (by with_unfolding_all rfl) ?_)|apply Sel.drop|apply Sel.dropF)) ?_)
                      rintro _ _ ⟨rfl, E1, I2, hI2, hE1, rfl⟩
                      refine wl rfl (OP.ev rfl rfl (eAs rfl) ?_)
                      refine wl_nil ?_
                      first
                      | (have hz : d.does c = d.trim c.name c.at_ := by
                           unfold DK.does
                           rw [if_pos (by assumption)]
                         exact ⟨(E1, I2), ⟨hI2, by rw [hz]; exact hE1⟩, ⟨rfl, rfl, rfl, rfl, rfl, (congrArg (fun q : Int × DK => some (i64 q.1)) hz).symm, rfl, rfl, rfl, trivial⟩, (by repeat (first|exact Sel.all|exact Sel.none|exact Sel.hd|(apply Sel.one; · repeat (first|exact Pick.h|apply Pick.t|apply Pick.app))|apply Sel.app|(with_reducible apply Sel.grp; · repeat (first|exact PickF.h|apply PickF.t|apply PickF.a))|(with_reducible refine Sel.nilF (by with_unfolding_all rfl) ?_)|apply Sel.drop|apply Sel.dropF))⟩)
                      | (have hz : d.does c = d.move c.name c.to_ := by
                           unfold DK.does
                           rw [if_neg (by assumption), if_pos (by assumption)]
                         exact ⟨(E1, I2), ⟨hI2, by rw [hz]; exact hE1⟩, ⟨rfl, rfl, rfl, rfl, rfl, (congrArg (fun q : Int × DK => some (i64 q.1)) hz).symm, rfl, rfl, rfl, trivial⟩, (by repeat (first|exact Sel.all|exact Sel.none|exact Sel.hd|(apply Sel.one; · repeat (first|exact Pick.h|apply Pick.t|apply Pick.app))|apply Sel.app|(with_reducible apply Sel.grp; · repeat (first|exact PickF.h|apply PickF.t|apply PickF.a))|(with_reducible refine Sel.nilF (by with_unfolding_all rfl) ?_)|apply Sel.drop|apply Sel.dropF))⟩)
                      | (have hz : d.does c = d.drop c.name := by
                           unfold DK.does
                           rw [if_neg (by assumption), if_neg (by assumption), if_pos (by assumption)]
                         exact ⟨(E1, I2), ⟨hI2, by rw [hz]; exact hE1⟩, ⟨rfl, rfl, rfl, rfl, rfl, (congrArg (fun q : Int × DK => some (i64 q.1)) hz).symm, rfl, rfl, rfl, trivial⟩, (by repeat (first|exact Sel.all|exact Sel.none|exact Sel.hd|(apply Sel.one; · repeat (first|exact Pick.h|apply Pick.t|apply Pick.app))|apply Sel.app|(with_reducible apply Sel.grp; · repeat (first|exact PickF.h|apply PickF.t|apply PickF.a))|(with_reducible refine Sel.nilF (by with_unfolding_all rfl) ?_)|apply Sel.drop|apply Sel.dropF))⟩)
                      | (have hz : d.does c = d.sync := by
                           unfold DK.does
                           rw [if_neg (by assumption), if_neg (by assumption), if_neg (by assumption), if_pos (by assumption)]
                         exact ⟨(E1, I2), ⟨hI2, by rw [hz]; exact hE1⟩, ⟨rfl, rfl, rfl, rfl, rfl, (congrArg (fun q : Int × DK => some (i64 q.1)) hz).symm, rfl, rfl, rfl, trivial⟩, (by repeat (first|exact Sel.all|exact Sel.none|exact Sel.hd|(apply Sel.one; · repeat (first|exact Pick.h|apply Pick.t|apply Pick.app))|apply Sel.app|(with_reducible apply Sel.grp; · repeat (first|exact PickF.h|apply PickF.t|apply PickF.a))|(with_reducible refine Sel.nilF (by with_unfolding_all rfl) ?_)|apply Sel.drop|apply Sel.dropF))⟩)
                      | (have hz : d.does c = d.arm c.n c.keep c.tear := by
                           unfold DK.does
                           rw [if_neg (by assumption), if_neg (by assumption), if_neg (by assumption), if_neg (by assumption), if_pos (by assumption)]
                         exact ⟨(E1, I2), ⟨hI2, by rw [hz]; exact hE1⟩, ⟨rfl, rfl, rfl, rfl, rfl, (congrArg (fun q : Int × DK => some (i64 q.1)) hz).symm, rfl, rfl, rfl, trivial⟩, (by repeat (first|exact Sel.all|exact Sel.none|exact Sel.hd|(apply Sel.one; · repeat (first|exact Pick.h|apply Pick.t|apply Pick.app))|apply Sel.app|(with_reducible apply Sel.grp; · repeat (first|exact PickF.h|apply PickF.t|apply PickF.a))|(with_reducible refine Sel.nilF (by with_unfolding_all rfl) ?_)|apply Sel.drop|apply Sel.dropF))⟩)
                      | (have hz : d.does c = d.crash c.keep c.tear := by
                           unfold DK.does
                           rw [if_neg (by assumption), if_neg (by assumption), if_neg (by assumption), if_neg (by assumption), if_neg (by assumption), if_pos (by assumption)]
                         exact ⟨(E1, I2), ⟨hI2, by rw [hz]; exact hE1⟩, ⟨rfl, rfl, rfl, rfl, rfl, (congrArg (fun q : Int × DK => some (i64 q.1)) hz).symm, rfl, rfl, rfl, trivial⟩, (by repeat (first|exact Sel.all|exact Sel.none|exact Sel.hd|(apply Sel.one; · repeat (first|exact Pick.h|apply Pick.t|apply Pick.app))|apply Sel.app|(with_reducible apply Sel.grp; · repeat (first|exact PickF.h|apply PickF.t|apply PickF.a))|(with_reducible refine Sel.nilF (by with_unfolding_all rfl) ?_)|apply Sel.drop|apply Sel.dropF))⟩)
                      | (have hz : d.does c = d.start := by
                           unfold DK.does
                           rw [if_neg (by assumption), if_neg (by assumption), if_neg (by assumption), if_neg (by assumption), if_neg (by assumption), if_neg (by assumption), if_pos (by assumption)]
                         exact ⟨(E1, I2), ⟨hI2, by rw [hz]; exact hE1⟩, ⟨rfl, rfl, rfl, rfl, rfl, (congrArg (fun q : Int × DK => some (i64 q.1)) hz).symm, rfl, rfl, rfl, trivial⟩, (by repeat (first|exact Sel.all|exact Sel.none|exact Sel.hd|(apply Sel.one; · repeat (first|exact Pick.h|apply Pick.t|apply Pick.app))|apply Sel.app|(with_reducible apply Sel.grp; · repeat (first|exact PickF.h|apply PickF.t|apply PickF.a))|(with_reducible refine Sel.nilF (by with_unfolding_all rfl) ?_)|apply Sel.drop|apply Sel.dropF))⟩)
                      | (have hz : d.does c = d.write c.name c.at_ c.B := by
                           unfold DK.does
                           rw [if_neg (by assumption), if_neg (by assumption), if_neg (by assumption), if_neg (by assumption), if_neg (by assumption), if_neg (by assumption), if_neg (by assumption)]
                         exact ⟨(E1, I2), ⟨hI2, by rw [hz]; exact hE1⟩, ⟨rfl, rfl, rfl, rfl, rfl, (congrArg (fun q : Int × DK => some (i64 q.1)) hz).symm, rfl, rfl, rfl, trivial⟩, (by repeat (first|exact Sel.all|exact Sel.none|exact Sel.hd|(apply Sel.one; · repeat (first|exact Pick.h|apply Pick.t|apply Pick.app))|apply Sel.app|(with_reducible apply Sel.grp; · repeat (first|exact PickF.h|apply PickF.t|apply PickF.a))|(with_reducible refine Sel.nilF (by with_unfolding_all rfl) ?_)|apply Sel.drop|apply Sel.dropF))⟩))
                  | false =>
                    try have c_t76 := df h76
                    first
                    | (exfalso; omega)
                    | (
                      refine wc_else rfl ?_
                      refine wc_seq ?_
                      refine wc_region ?_
                      refine wl rfl (OP.evb rfl rfl (eEq rfl rfl) fun t84 h84 => ?_)
                      refine wl rfl (OP.ev rfl rfl (eAs rfl) ?_)
                      refine wl_nil ?_
                      cases t84 with
                      | true =>
                        try have c_t84 := dt h84
                        first
                        | (exfalso; omega)
                        | (
                          refine wc_then rfl ?_
                          refine wc_region ?_
                          refine wl rfl (OP.ev rfl rfl (eMv rfl) ?_)
                          refine wl rfl (OP.ev rfl rfl (eFld 1 ty39 rfl rfl ty9 rfl) ?_)
                          refine wl rfl (OP.ev rfl rfl (eLd ty9 rfl rfl (by repeat (first|exact Has.h|apply Has.t|apply Has.app)) (by rfl)) ?_)
                          refine wl rfl (OP.ev rfl rfl (eFld 2 ty39 rfl rfl ty9 rfl) ?_)
                          refine wl rfl (OP.ev rfl rfl (eLd ty9 rfl rfl (by repeat (first|exact Has.h|apply Has.t|apply Has.app)) (by rfl)) ?_)
                          refine wl rfl (oC rfl pf30 rfl (rmove_ok b2 d hd c.name c.to_ hn1 hn2 E _ (hE.sel hI1) (by omega)) (by repeat (first|exact Sel.all|exact Sel.none|exact Sel.hd|(apply Sel.one; · repeat (first|exact Pick.h|apply Pick.t|apply Pick.app))|apply Sel.app|(with_reducible apply Sel.grp; · repeat (first|exact PickF.h|apply PickF.t|apply PickF.a))|(with_reducible refine Sel.nilF (by with_unfolding_all rfl) ?_)|apply Sel.drop|apply Sel.dropF)) ?_)
                          rintro _ _ ⟨rfl, E1, I2, hI2, hE1, rfl⟩
                          refine wl rfl (OP.ev rfl rfl (eAs rfl) ?_)
                          refine wl_nil ?_
                          first
                          | (have hz : d.does c = d.trim c.name c.at_ := by
                               unfold DK.does
                               rw [if_pos (by assumption)]
                             exact ⟨(E1, I2), ⟨hI2, by rw [hz]; exact hE1⟩, ⟨rfl, rfl, rfl, rfl, rfl, (congrArg (fun q : Int × DK => some (i64 q.1)) hz).symm, rfl, rfl, rfl, trivial⟩, (by repeat (first|exact Sel.all|exact Sel.none|exact Sel.hd|(apply Sel.one; · repeat (first|exact Pick.h|apply Pick.t|apply Pick.app))|apply Sel.app|(with_reducible apply Sel.grp; · repeat (first|exact PickF.h|apply PickF.t|apply PickF.a))|(with_reducible refine Sel.nilF (by with_unfolding_all rfl) ?_)|apply Sel.drop|apply Sel.dropF))⟩)
                          | (have hz : d.does c = d.move c.name c.to_ := by
                               unfold DK.does
                               rw [if_neg (by assumption), if_pos (by assumption)]
                             exact ⟨(E1, I2), ⟨hI2, by rw [hz]; exact hE1⟩, ⟨rfl, rfl, rfl, rfl, rfl, (congrArg (fun q : Int × DK => some (i64 q.1)) hz).symm, rfl, rfl, rfl, trivial⟩, (by repeat (first|exact Sel.all|exact Sel.none|exact Sel.hd|(apply Sel.one; · repeat (first|exact Pick.h|apply Pick.t|apply Pick.app))|apply Sel.app|(with_reducible apply Sel.grp; · repeat (first|exact PickF.h|apply PickF.t|apply PickF.a))|(with_reducible refine Sel.nilF (by with_unfolding_all rfl) ?_)|apply Sel.drop|apply Sel.dropF))⟩)
                          | (have hz : d.does c = d.drop c.name := by
                               unfold DK.does
                               rw [if_neg (by assumption), if_neg (by assumption), if_pos (by assumption)]
                             exact ⟨(E1, I2), ⟨hI2, by rw [hz]; exact hE1⟩, ⟨rfl, rfl, rfl, rfl, rfl, (congrArg (fun q : Int × DK => some (i64 q.1)) hz).symm, rfl, rfl, rfl, trivial⟩, (by repeat (first|exact Sel.all|exact Sel.none|exact Sel.hd|(apply Sel.one; · repeat (first|exact Pick.h|apply Pick.t|apply Pick.app))|apply Sel.app|(with_reducible apply Sel.grp; · repeat (first|exact PickF.h|apply PickF.t|apply PickF.a))|(with_reducible refine Sel.nilF (by with_unfolding_all rfl) ?_)|apply Sel.drop|apply Sel.dropF))⟩)
                          | (have hz : d.does c = d.sync := by
                               unfold DK.does
                               rw [if_neg (by assumption), if_neg (by assumption), if_neg (by assumption), if_pos (by assumption)]
                             exact ⟨(E1, I2), ⟨hI2, by rw [hz]; exact hE1⟩, ⟨rfl, rfl, rfl, rfl, rfl, (congrArg (fun q : Int × DK => some (i64 q.1)) hz).symm, rfl, rfl, rfl, trivial⟩, (by repeat (first|exact Sel.all|exact Sel.none|exact Sel.hd|(apply Sel.one; · repeat (first|exact Pick.h|apply Pick.t|apply Pick.app))|apply Sel.app|(with_reducible apply Sel.grp; · repeat (first|exact PickF.h|apply PickF.t|apply PickF.a))|(with_reducible refine Sel.nilF (by with_unfolding_all rfl) ?_)|apply Sel.drop|apply Sel.dropF))⟩)
                          | (have hz : d.does c = d.arm c.n c.keep c.tear := by
                               unfold DK.does
                               rw [if_neg (by assumption), if_neg (by assumption), if_neg (by assumption), if_neg (by assumption), if_pos (by assumption)]
                             exact ⟨(E1, I2), ⟨hI2, by rw [hz]; exact hE1⟩, ⟨rfl, rfl, rfl, rfl, rfl, (congrArg (fun q : Int × DK => some (i64 q.1)) hz).symm, rfl, rfl, rfl, trivial⟩, (by repeat (first|exact Sel.all|exact Sel.none|exact Sel.hd|(apply Sel.one; · repeat (first|exact Pick.h|apply Pick.t|apply Pick.app))|apply Sel.app|(with_reducible apply Sel.grp; · repeat (first|exact PickF.h|apply PickF.t|apply PickF.a))|(with_reducible refine Sel.nilF (by with_unfolding_all rfl) ?_)|apply Sel.drop|apply Sel.dropF))⟩)
                          | (have hz : d.does c = d.crash c.keep c.tear := by
                               unfold DK.does
                               rw [if_neg (by assumption), if_neg (by assumption), if_neg (by assumption), if_neg (by assumption), if_neg (by assumption), if_pos (by assumption)]
                             exact ⟨(E1, I2), ⟨hI2, by rw [hz]; exact hE1⟩, ⟨rfl, rfl, rfl, rfl, rfl, (congrArg (fun q : Int × DK => some (i64 q.1)) hz).symm, rfl, rfl, rfl, trivial⟩, (by repeat (first|exact Sel.all|exact Sel.none|exact Sel.hd|(apply Sel.one; · repeat (first|exact Pick.h|apply Pick.t|apply Pick.app))|apply Sel.app|(with_reducible apply Sel.grp; · repeat (first|exact PickF.h|apply PickF.t|apply PickF.a))|(with_reducible refine Sel.nilF (by with_unfolding_all rfl) ?_)|apply Sel.drop|apply Sel.dropF))⟩)
                          | (have hz : d.does c = d.start := by
                               unfold DK.does
                               rw [if_neg (by assumption), if_neg (by assumption), if_neg (by assumption), if_neg (by assumption), if_neg (by assumption), if_neg (by assumption), if_pos (by assumption)]
                             exact ⟨(E1, I2), ⟨hI2, by rw [hz]; exact hE1⟩, ⟨rfl, rfl, rfl, rfl, rfl, (congrArg (fun q : Int × DK => some (i64 q.1)) hz).symm, rfl, rfl, rfl, trivial⟩, (by repeat (first|exact Sel.all|exact Sel.none|exact Sel.hd|(apply Sel.one; · repeat (first|exact Pick.h|apply Pick.t|apply Pick.app))|apply Sel.app|(with_reducible apply Sel.grp; · repeat (first|exact PickF.h|apply PickF.t|apply PickF.a))|(with_reducible refine Sel.nilF (by with_unfolding_all rfl) ?_)|apply Sel.drop|apply Sel.dropF))⟩)
                          | (have hz : d.does c = d.write c.name c.at_ c.B := by
                               unfold DK.does
                               rw [if_neg (by assumption), if_neg (by assumption), if_neg (by assumption), if_neg (by assumption), if_neg (by assumption), if_neg (by assumption), if_neg (by assumption)]
                             exact ⟨(E1, I2), ⟨hI2, by rw [hz]; exact hE1⟩, ⟨rfl, rfl, rfl, rfl, rfl, (congrArg (fun q : Int × DK => some (i64 q.1)) hz).symm, rfl, rfl, rfl, trivial⟩, (by repeat (first|exact Sel.all|exact Sel.none|exact Sel.hd|(apply Sel.one; · repeat (first|exact Pick.h|apply Pick.t|apply Pick.app))|apply Sel.app|(with_reducible apply Sel.grp; · repeat (first|exact PickF.h|apply PickF.t|apply PickF.a))|(with_reducible refine Sel.nilF (by with_unfolding_all rfl) ?_)|apply Sel.drop|apply Sel.dropF))⟩))
                      | false =>
                        try have c_t84 := df h84
                        first
                        | (exfalso; omega)
                        | (
                          refine wc_else rfl ?_
                          refine wc_seq ?_
                          refine wc_region ?_
                          refine wl rfl (OP.evb rfl rfl (eEq rfl rfl) fun t92 h92 => ?_)
                          refine wl rfl (OP.ev rfl rfl (eAs rfl) ?_)
                          refine wl_nil ?_
                          cases t92 with
                          | true =>
                            try have c_t92 := dt h92
                            first
                            | (exfalso; omega)
                            | (
                              refine wc_then rfl ?_
                              refine wc_region ?_
                              refine wl rfl (OP.ev rfl rfl (eMv rfl) ?_)
                              refine wl rfl (OP.ev rfl rfl (eFld 1 ty39 rfl rfl ty9 rfl) ?_)
                              refine wl rfl (OP.ev rfl rfl (eLd ty9 rfl rfl (by repeat (first|exact Has.h|apply Has.t|apply Has.app)) (by rfl)) ?_)
                              refine wl rfl (oC rfl pf31 rfl (rdrop_ok b2 d hd c.name hn1 E _ (hE.sel hI1) (by omega)) (by repeat (first|exact Sel.all|exact Sel.none|exact Sel.hd|(apply Sel.one; · repeat (first|exact Pick.h|apply Pick.t|apply Pick.app))|apply Sel.app|(with_reducible apply Sel.grp; · repeat (first|exact PickF.h|apply PickF.t|apply PickF.a))|(with_reducible refine Sel.nilF (by with_unfolding_all rfl) ?_)|apply Sel.drop|apply Sel.dropF)) ?_)
                              rintro _ _ ⟨rfl, E1, I2, hI2, hE1, rfl⟩
                              refine wl rfl (OP.ev rfl rfl (eAs rfl) ?_)
                              refine wl_nil ?_
                              first
                              | (have hz : d.does c = d.trim c.name c.at_ := by
                                   unfold DK.does
                                   rw [if_pos (by assumption)]
                                 exact ⟨(E1, I2), ⟨hI2, by rw [hz]; exact hE1⟩, ⟨rfl, rfl, rfl, rfl, rfl, (congrArg (fun q : Int × DK => some (i64 q.1)) hz).symm, rfl, rfl, rfl, trivial⟩, (by repeat (first|exact Sel.all|exact Sel.none|exact Sel.hd|(apply Sel.one; · repeat (first|exact Pick.h|apply Pick.t|apply Pick.app))|apply Sel.app|(with_reducible apply Sel.grp; · repeat (first|exact PickF.h|apply PickF.t|apply PickF.a))|(with_reducible refine Sel.nilF (by with_unfolding_all rfl) ?_)|apply Sel.drop|apply Sel.dropF))⟩)
                              | (have hz : d.does c = d.move c.name c.to_ := by
                                   unfold DK.does
                                   rw [if_neg (by assumption), if_pos (by assumption)]
                                 exact ⟨(E1, I2), ⟨hI2, by rw [hz]; exact hE1⟩, ⟨rfl, rfl, rfl, rfl, rfl, (congrArg (fun q : Int × DK => some (i64 q.1)) hz).symm, rfl, rfl, rfl, trivial⟩, (by repeat (first|exact Sel.all|exact Sel.none|exact Sel.hd|(apply Sel.one; · repeat (first|exact Pick.h|apply Pick.t|apply Pick.app))|apply Sel.app|(with_reducible apply Sel.grp; · repeat (first|exact PickF.h|apply PickF.t|apply PickF.a))|(with_reducible refine Sel.nilF (by with_unfolding_all rfl) ?_)|apply Sel.drop|apply Sel.dropF))⟩)
                              | (have hz : d.does c = d.drop c.name := by
                                   unfold DK.does
                                   rw [if_neg (by assumption), if_neg (by assumption), if_pos (by assumption)]
                                 exact ⟨(E1, I2), ⟨hI2, by rw [hz]; exact hE1⟩, ⟨rfl, rfl, rfl, rfl, rfl, (congrArg (fun q : Int × DK => some (i64 q.1)) hz).symm, rfl, rfl, rfl, trivial⟩, (by repeat (first|exact Sel.all|exact Sel.none|exact Sel.hd|(apply Sel.one; · repeat (first|exact Pick.h|apply Pick.t|apply Pick.app))|apply Sel.app|(with_reducible apply Sel.grp; · repeat (first|exact PickF.h|apply PickF.t|apply PickF.a))|(with_reducible refine Sel.nilF (by with_unfolding_all rfl) ?_)|apply Sel.drop|apply Sel.dropF))⟩)
                              | (have hz : d.does c = d.sync := by
                                   unfold DK.does
                                   rw [if_neg (by assumption), if_neg (by assumption), if_neg (by assumption), if_pos (by assumption)]
                                 exact ⟨(E1, I2), ⟨hI2, by rw [hz]; exact hE1⟩, ⟨rfl, rfl, rfl, rfl, rfl, (congrArg (fun q : Int × DK => some (i64 q.1)) hz).symm, rfl, rfl, rfl, trivial⟩, (by repeat (first|exact Sel.all|exact Sel.none|exact Sel.hd|(apply Sel.one; · repeat (first|exact Pick.h|apply Pick.t|apply Pick.app))|apply Sel.app|(with_reducible apply Sel.grp; · repeat (first|exact PickF.h|apply PickF.t|apply PickF.a))|(with_reducible refine Sel.nilF (by with_unfolding_all rfl) ?_)|apply Sel.drop|apply Sel.dropF))⟩)
                              | (have hz : d.does c = d.arm c.n c.keep c.tear := by
                                   unfold DK.does
                                   rw [if_neg (by assumption), if_neg (by assumption), if_neg (by assumption), if_neg (by assumption), if_pos (by assumption)]
                                 exact ⟨(E1, I2), ⟨hI2, by rw [hz]; exact hE1⟩, ⟨rfl, rfl, rfl, rfl, rfl, (congrArg (fun q : Int × DK => some (i64 q.1)) hz).symm, rfl, rfl, rfl, trivial⟩, (by repeat (first|exact Sel.all|exact Sel.none|exact Sel.hd|(apply Sel.one; · repeat (first|exact Pick.h|apply Pick.t|apply Pick.app))|apply Sel.app|(with_reducible apply Sel.grp; · repeat (first|exact PickF.h|apply PickF.t|apply PickF.a))|(with_reducible refine Sel.nilF (by with_unfolding_all rfl) ?_)|apply Sel.drop|apply Sel.dropF))⟩)
                              | (have hz : d.does c = d.crash c.keep c.tear := by
                                   unfold DK.does
                                   rw [if_neg (by assumption), if_neg (by assumption), if_neg (by assumption), if_neg (by assumption), if_neg (by assumption), if_pos (by assumption)]
                                 exact ⟨(E1, I2), ⟨hI2, by rw [hz]; exact hE1⟩, ⟨rfl, rfl, rfl, rfl, rfl, (congrArg (fun q : Int × DK => some (i64 q.1)) hz).symm, rfl, rfl, rfl, trivial⟩, (by repeat (first|exact Sel.all|exact Sel.none|exact Sel.hd|(apply Sel.one; · repeat (first|exact Pick.h|apply Pick.t|apply Pick.app))|apply Sel.app|(with_reducible apply Sel.grp; · repeat (first|exact PickF.h|apply PickF.t|apply PickF.a))|(with_reducible refine Sel.nilF (by with_unfolding_all rfl) ?_)|apply Sel.drop|apply Sel.dropF))⟩)
                              | (have hz : d.does c = d.start := by
                                   unfold DK.does
                                   rw [if_neg (by assumption), if_neg (by assumption), if_neg (by assumption), if_neg (by assumption), if_neg (by assumption), if_neg (by assumption), if_pos (by assumption)]
                                 exact ⟨(E1, I2), ⟨hI2, by rw [hz]; exact hE1⟩, ⟨rfl, rfl, rfl, rfl, rfl, (congrArg (fun q : Int × DK => some (i64 q.1)) hz).symm, rfl, rfl, rfl, trivial⟩, (by repeat (first|exact Sel.all|exact Sel.none|exact Sel.hd|(apply Sel.one; · repeat (first|exact Pick.h|apply Pick.t|apply Pick.app))|apply Sel.app|(with_reducible apply Sel.grp; · repeat (first|exact PickF.h|apply PickF.t|apply PickF.a))|(with_reducible refine Sel.nilF (by with_unfolding_all rfl) ?_)|apply Sel.drop|apply Sel.dropF))⟩)
                              | (have hz : d.does c = d.write c.name c.at_ c.B := by
                                   unfold DK.does
                                   rw [if_neg (by assumption), if_neg (by assumption), if_neg (by assumption), if_neg (by assumption), if_neg (by assumption), if_neg (by assumption), if_neg (by assumption)]
                                 exact ⟨(E1, I2), ⟨hI2, by rw [hz]; exact hE1⟩, ⟨rfl, rfl, rfl, rfl, rfl, (congrArg (fun q : Int × DK => some (i64 q.1)) hz).symm, rfl, rfl, rfl, trivial⟩, (by repeat (first|exact Sel.all|exact Sel.none|exact Sel.hd|(apply Sel.one; · repeat (first|exact Pick.h|apply Pick.t|apply Pick.app))|apply Sel.app|(with_reducible apply Sel.grp; · repeat (first|exact PickF.h|apply PickF.t|apply PickF.a))|(with_reducible refine Sel.nilF (by with_unfolding_all rfl) ?_)|apply Sel.drop|apply Sel.dropF))⟩))
                          | false =>
                            try have c_t92 := df h92
                            first
                            | (exfalso; omega)
                            | (
                              refine wc_else rfl ?_
                              refine wc_seq ?_
                              refine wc_region ?_
                              refine wl rfl (OP.evb rfl rfl (eEq rfl rfl) fun t98 h98 => ?_)
                              refine wl rfl (OP.ev rfl rfl (eAs rfl) ?_)
                              refine wl_nil ?_
                              cases t98 with
                              | true =>
                                try have c_t98 := dt h98
                                first
                                | (exfalso; omega)
                                | (
                                  refine wc_then rfl ?_
                                  refine wc_region ?_
                                  refine wl rfl (OP.ev rfl rfl (eMv rfl) ?_)
                                  refine wl rfl (oC rfl pf32 rfl (rsync_ok b2 d hd E _ (hE.sel hI1) (by omega)) (by repeat (first|exact Sel.all|exact Sel.none|exact Sel.hd|(apply Sel.one; · repeat (first|exact Pick.h|apply Pick.t|apply Pick.app))|apply Sel.app|(with_reducible apply Sel.grp; · repeat (first|exact PickF.h|apply PickF.t|apply PickF.a))|(with_reducible refine Sel.nilF (by with_unfolding_all rfl) ?_)|apply Sel.drop|apply Sel.dropF)) ?_)
                                  rintro _ _ ⟨rfl, E1, I2, hI2, hE1, rfl⟩
                                  refine wl rfl (OP.ev rfl rfl (eAs rfl) ?_)
                                  refine wl_nil ?_
                                  first
                                  | (have hz : d.does c = d.trim c.name c.at_ := by
                                       unfold DK.does
                                       rw [if_pos (by assumption)]
                                     exact ⟨(E1, I2), ⟨hI2, by rw [hz]; exact hE1⟩, ⟨rfl, rfl, rfl, rfl, rfl, (congrArg (fun q : Int × DK => some (i64 q.1)) hz).symm, rfl, rfl, rfl, trivial⟩, (by repeat (first|exact Sel.all|exact Sel.none|exact Sel.hd|(apply Sel.one; · repeat (first|exact Pick.h|apply Pick.t|apply Pick.app))|apply Sel.app|(with_reducible apply Sel.grp; · repeat (first|exact PickF.h|apply PickF.t|apply PickF.a))|(with_reducible refine Sel.nilF (by with_unfolding_all rfl) ?_)|apply Sel.drop|apply Sel.dropF))⟩)
                                  | (have hz : d.does c = d.move c.name c.to_ := by
                                       unfold DK.does
                                       rw [if_neg (by assumption), if_pos (by assumption)]
                                     exact ⟨(E1, I2), ⟨hI2, by rw [hz]; exact hE1⟩, ⟨rfl, rfl, rfl, rfl, rfl, (congrArg (fun q : Int × DK => some (i64 q.1)) hz).symm, rfl, rfl, rfl, trivial⟩, (by repeat (first|exact Sel.all|exact Sel.none|exact Sel.hd|(apply Sel.one; · repeat (first|exact Pick.h|apply Pick.t|apply Pick.app))|apply Sel.app|(with_reducible apply Sel.grp; · repeat (first|exact PickF.h|apply PickF.t|apply PickF.a))|(with_reducible refine Sel.nilF (by with_unfolding_all rfl) ?_)|apply Sel.drop|apply Sel.dropF))⟩)
                                  | (have hz : d.does c = d.drop c.name := by
                                       unfold DK.does
                                       rw [if_neg (by assumption), if_neg (by assumption), if_pos (by assumption)]
                                     exact ⟨(E1, I2), ⟨hI2, by rw [hz]; exact hE1⟩, ⟨rfl, rfl, rfl, rfl, rfl, (congrArg (fun q : Int × DK => some (i64 q.1)) hz).symm, rfl, rfl, rfl, trivial⟩, (by repeat (first|exact Sel.all|exact Sel.none|exact Sel.hd|(apply Sel.one; · repeat (first|exact Pick.h|apply Pick.t|apply Pick.app))|apply Sel.app|(with_reducible apply Sel.grp; · repeat (first|exact PickF.h|apply PickF.t|apply PickF.a))|(with_reducible refine Sel.nilF (by with_unfolding_all rfl) ?_)|apply Sel.drop|apply Sel.dropF))⟩)
                                  | (have hz : d.does c = d.sync := by
                                       unfold DK.does
                                       rw [if_neg (by assumption), if_neg (by assumption), if_neg (by assumption), if_pos (by assumption)]
                                     exact ⟨(E1, I2), ⟨hI2, by rw [hz]; exact hE1⟩, ⟨rfl, rfl, rfl, rfl, rfl, (congrArg (fun q : Int × DK => some (i64 q.1)) hz).symm, rfl, rfl, rfl, trivial⟩, (by repeat (first|exact Sel.all|exact Sel.none|exact Sel.hd|(apply Sel.one; · repeat (first|exact Pick.h|apply Pick.t|apply Pick.app))|apply Sel.app|(with_reducible apply Sel.grp; · repeat (first|exact PickF.h|apply PickF.t|apply PickF.a))|(with_reducible refine Sel.nilF (by with_unfolding_all rfl) ?_)|apply Sel.drop|apply Sel.dropF))⟩)
                                  | (have hz : d.does c = d.arm c.n c.keep c.tear := by
                                       unfold DK.does
                                       rw [if_neg (by assumption), if_neg (by assumption), if_neg (by assumption), if_neg (by assumption), if_pos (by assumption)]
                                     exact ⟨(E1, I2), ⟨hI2, by rw [hz]; exact hE1⟩, ⟨rfl, rfl, rfl, rfl, rfl, (congrArg (fun q : Int × DK => some (i64 q.1)) hz).symm, rfl, rfl, rfl, trivial⟩, (by repeat (first|exact Sel.all|exact Sel.none|exact Sel.hd|(apply Sel.one; · repeat (first|exact Pick.h|apply Pick.t|apply Pick.app))|apply Sel.app|(with_reducible apply Sel.grp; · repeat (first|exact PickF.h|apply PickF.t|apply PickF.a))|(with_reducible refine Sel.nilF (by with_unfolding_all rfl) ?_)|apply Sel.drop|apply Sel.dropF))⟩)
                                  | (have hz : d.does c = d.crash c.keep c.tear := by
                                       unfold DK.does
                                       rw [if_neg (by assumption), if_neg (by assumption), if_neg (by assumption), if_neg (by assumption), if_neg (by assumption), if_pos (by assumption)]
                                     exact ⟨(E1, I2), ⟨hI2, by rw [hz]; exact hE1⟩, ⟨rfl, rfl, rfl, rfl, rfl, (congrArg (fun q : Int × DK => some (i64 q.1)) hz).symm, rfl, rfl, rfl, trivial⟩, (by repeat (first|exact Sel.all|exact Sel.none|exact Sel.hd|(apply Sel.one; · repeat (first|exact Pick.h|apply Pick.t|apply Pick.app))|apply Sel.app|(with_reducible apply Sel.grp; · repeat (first|exact PickF.h|apply PickF.t|apply PickF.a))|(with_reducible refine Sel.nilF (by with_unfolding_all rfl) ?_)|apply Sel.drop|apply Sel.dropF))⟩)
                                  | (have hz : d.does c = d.start := by
                                       unfold DK.does
                                       rw [if_neg (by assumption), if_neg (by assumption), if_neg (by assumption), if_neg (by assumption), if_neg (by assumption), if_neg (by assumption), if_pos (by assumption)]
                                     exact ⟨(E1, I2), ⟨hI2, by rw [hz]; exact hE1⟩, ⟨rfl, rfl, rfl, rfl, rfl, (congrArg (fun q : Int × DK => some (i64 q.1)) hz).symm, rfl, rfl, rfl, trivial⟩, (by repeat (first|exact Sel.all|exact Sel.none|exact Sel.hd|(apply Sel.one; · repeat (first|exact Pick.h|apply Pick.t|apply Pick.app))|apply Sel.app|(with_reducible apply Sel.grp; · repeat (first|exact PickF.h|apply PickF.t|apply PickF.a))|(with_reducible refine Sel.nilF (by with_unfolding_all rfl) ?_)|apply Sel.drop|apply Sel.dropF))⟩)
                                  | (have hz : d.does c = d.write c.name c.at_ c.B := by
                                       unfold DK.does
                                       rw [if_neg (by assumption), if_neg (by assumption), if_neg (by assumption), if_neg (by assumption), if_neg (by assumption), if_neg (by assumption), if_neg (by assumption)]
                                     exact ⟨(E1, I2), ⟨hI2, by rw [hz]; exact hE1⟩, ⟨rfl, rfl, rfl, rfl, rfl, (congrArg (fun q : Int × DK => some (i64 q.1)) hz).symm, rfl, rfl, rfl, trivial⟩, (by repeat (first|exact Sel.all|exact Sel.none|exact Sel.hd|(apply Sel.one; · repeat (first|exact Pick.h|apply Pick.t|apply Pick.app))|apply Sel.app|(with_reducible apply Sel.grp; · repeat (first|exact PickF.h|apply PickF.t|apply PickF.a))|(with_reducible refine Sel.nilF (by with_unfolding_all rfl) ?_)|apply Sel.drop|apply Sel.dropF))⟩))
                              | false =>
                                try have c_t98 := df h98
                                first
                                | (exfalso; omega)
                                | (
                                  refine wc_else rfl ?_
                                  refine wc_seq ?_
                                  refine wc_region ?_
                                  refine wl rfl (OP.evb rfl rfl (eEq rfl rfl) fun t102 h102 => ?_)
                                  refine wl rfl (OP.ev rfl rfl (eAs rfl) ?_)
                                  refine wl_nil ?_
                                  cases t102 with
                                  | true =>
                                    try have c_t102 := dt h102
                                    first
                                    | (exfalso; omega)
                                    | (
                                      refine wc_then rfl ?_
                                      refine wc_region ?_
                                      refine wl rfl (OP.ev rfl rfl (eMv rfl) ?_)
                                      refine wl rfl (OP.ev rfl rfl (eFld 5 ty39 rfl rfl ty3 rfl) ?_)
                                      refine wl rfl (OP.ev rfl rfl (eLd ty3 rfl rfl (by repeat (first|exact Has.h|apply Has.t|apply Has.app)) (by rfl)) ?_)
                                      refine wl rfl (OP.ev rfl rfl (eFld 6 ty39 rfl rfl ty3 rfl) ?_)
                                      refine wl rfl (OP.ev rfl rfl (eLd ty3 rfl rfl (by repeat (first|exact Has.h|apply Has.t|apply Has.app)) (by rfl)) ?_)
                                      refine wl rfl (OP.ev rfl rfl (eFld 7 ty39 rfl rfl ty3 rfl) ?_)
                                      refine wl rfl (OP.ev rfl rfl (eLd ty3 rfl rfl (by repeat (first|exact Has.h|apply Has.t|apply Has.app)) (by rfl)) ?_)
                                      refine wl rfl (oC rfl pf33 rfl (rarm_ok b2 d c.n c.keep c.tear hcr.keep hcr.tear E _ (hE.sel hI1)) (by repeat (first|exact Sel.all|exact Sel.none|exact Sel.hd|(apply Sel.one; · repeat (first|exact Pick.h|apply Pick.t|apply Pick.app))|apply Sel.app|(with_reducible apply Sel.grp; · repeat (first|exact PickF.h|apply PickF.t|apply PickF.a))|(with_reducible refine Sel.nilF (by with_unfolding_all rfl) ?_)|apply Sel.drop|apply Sel.dropF)) ?_)
                                      rintro _ _ ⟨rfl, E1, I2, hI2, hE1, rfl⟩
                                      refine wl rfl (OP.ev rfl rfl (eAs rfl) ?_)
                                      refine wl_nil ?_
                                      first
                                      | (have hz : d.does c = d.trim c.name c.at_ := by
                                           unfold DK.does
                                           rw [if_pos (by assumption)]
                                         exact ⟨(E1, I2), ⟨hI2, by rw [hz]; exact hE1⟩, ⟨rfl, rfl, rfl, rfl, rfl, (congrArg (fun q : Int × DK => some (i64 q.1)) hz).symm, rfl, rfl, rfl, trivial⟩, (by repeat (first|exact Sel.all|exact Sel.none|exact Sel.hd|(apply Sel.one; · repeat (first|exact Pick.h|apply Pick.t|apply Pick.app))|apply Sel.app|(with_reducible apply Sel.grp; · repeat (first|exact PickF.h|apply PickF.t|apply PickF.a))|(with_reducible refine Sel.nilF (by with_unfolding_all rfl) ?_)|apply Sel.drop|apply Sel.dropF))⟩)
                                      | (have hz : d.does c = d.move c.name c.to_ := by
                                           unfold DK.does
                                           rw [if_neg (by assumption), if_pos (by assumption)]
                                         exact ⟨(E1, I2), ⟨hI2, by rw [hz]; exact hE1⟩, ⟨rfl, rfl, rfl, rfl, rfl, (congrArg (fun q : Int × DK => some (i64 q.1)) hz).symm, rfl, rfl, rfl, trivial⟩, (by repeat (first|exact Sel.all|exact Sel.none|exact Sel.hd|(apply Sel.one; · repeat (first|exact Pick.h|apply Pick.t|apply Pick.app))|apply Sel.app|(with_reducible apply Sel.grp; · repeat (first|exact PickF.h|apply PickF.t|apply PickF.a))|(with_reducible refine Sel.nilF (by with_unfolding_all rfl) ?_)|apply Sel.drop|apply Sel.dropF))⟩)
                                      | (have hz : d.does c = d.drop c.name := by
                                           unfold DK.does
                                           rw [if_neg (by assumption), if_neg (by assumption), if_pos (by assumption)]
                                         exact ⟨(E1, I2), ⟨hI2, by rw [hz]; exact hE1⟩, ⟨rfl, rfl, rfl, rfl, rfl, (congrArg (fun q : Int × DK => some (i64 q.1)) hz).symm, rfl, rfl, rfl, trivial⟩, (by repeat (first|exact Sel.all|exact Sel.none|exact Sel.hd|(apply Sel.one; · repeat (first|exact Pick.h|apply Pick.t|apply Pick.app))|apply Sel.app|(with_reducible apply Sel.grp; · repeat (first|exact PickF.h|apply PickF.t|apply PickF.a))|(with_reducible refine Sel.nilF (by with_unfolding_all rfl) ?_)|apply Sel.drop|apply Sel.dropF))⟩)
                                      | (have hz : d.does c = d.sync := by
                                           unfold DK.does
                                           rw [if_neg (by assumption), if_neg (by assumption), if_neg (by assumption), if_pos (by assumption)]
                                         exact ⟨(E1, I2), ⟨hI2, by rw [hz]; exact hE1⟩, ⟨rfl, rfl, rfl, rfl, rfl, (congrArg (fun q : Int × DK => some (i64 q.1)) hz).symm, rfl, rfl, rfl, trivial⟩, (by repeat (first|exact Sel.all|exact Sel.none|exact Sel.hd|(apply Sel.one; · repeat (first|exact Pick.h|apply Pick.t|apply Pick.app))|apply Sel.app|(with_reducible apply Sel.grp; · repeat (first|exact PickF.h|apply PickF.t|apply PickF.a))|(with_reducible refine Sel.nilF (by with_unfolding_all rfl) ?_)|apply Sel.drop|apply Sel.dropF))⟩)
                                      | (have hz : d.does c = d.arm c.n c.keep c.tear := by
                                           unfold DK.does
                                           rw [if_neg (by assumption), if_neg (by assumption), if_neg (by assumption), if_neg (by assumption), if_pos (by assumption)]
                                         exact ⟨(E1, I2), ⟨hI2, by rw [hz]; exact hE1⟩, ⟨rfl, rfl, rfl, rfl, rfl, (congrArg (fun q : Int × DK => some (i64 q.1)) hz).symm, rfl, rfl, rfl, trivial⟩, (by repeat (first|exact Sel.all|exact Sel.none|exact Sel.hd|(apply Sel.one; · repeat (first|exact Pick.h|apply Pick.t|apply Pick.app))|apply Sel.app|(with_reducible apply Sel.grp; · repeat (first|exact PickF.h|apply PickF.t|apply PickF.a))|(with_reducible refine Sel.nilF (by with_unfolding_all rfl) ?_)|apply Sel.drop|apply Sel.dropF))⟩)
                                      | (have hz : d.does c = d.crash c.keep c.tear := by
                                           unfold DK.does
                                           rw [if_neg (by assumption), if_neg (by assumption), if_neg (by assumption), if_neg (by assumption), if_neg (by assumption), if_pos (by assumption)]
                                         exact ⟨(E1, I2), ⟨hI2, by rw [hz]; exact hE1⟩, ⟨rfl, rfl, rfl, rfl, rfl, (congrArg (fun q : Int × DK => some (i64 q.1)) hz).symm, rfl, rfl, rfl, trivial⟩, (by repeat (first|exact Sel.all|exact Sel.none|exact Sel.hd|(apply Sel.one; · repeat (first|exact Pick.h|apply Pick.t|apply Pick.app))|apply Sel.app|(with_reducible apply Sel.grp; · repeat (first|exact PickF.h|apply PickF.t|apply PickF.a))|(with_reducible refine Sel.nilF (by with_unfolding_all rfl) ?_)|apply Sel.drop|apply Sel.dropF))⟩)
                                      | (have hz : d.does c = d.start := by
                                           unfold DK.does
                                           rw [if_neg (by assumption), if_neg (by assumption), if_neg (by assumption), if_neg (by assumption), if_neg (by assumption), if_neg (by assumption), if_pos (by assumption)]
                                         exact ⟨(E1, I2), ⟨hI2, by rw [hz]; exact hE1⟩, ⟨rfl, rfl, rfl, rfl, rfl, (congrArg (fun q : Int × DK => some (i64 q.1)) hz).symm, rfl, rfl, rfl, trivial⟩, (by repeat (first|exact Sel.all|exact Sel.none|exact Sel.hd|(apply Sel.one; · repeat (first|exact Pick.h|apply Pick.t|apply Pick.app))|apply Sel.app|(with_reducible apply Sel.grp; · repeat (first|exact PickF.h|apply PickF.t|apply PickF.a))|(with_reducible refine Sel.nilF (by with_unfolding_all rfl) ?_)|apply Sel.drop|apply Sel.dropF))⟩)
                                      | (have hz : d.does c = d.write c.name c.at_ c.B := by
                                           unfold DK.does
                                           rw [if_neg (by assumption), if_neg (by assumption), if_neg (by assumption), if_neg (by assumption), if_neg (by assumption), if_neg (by assumption), if_neg (by assumption)]
                                         exact ⟨(E1, I2), ⟨hI2, by rw [hz]; exact hE1⟩, ⟨rfl, rfl, rfl, rfl, rfl, (congrArg (fun q : Int × DK => some (i64 q.1)) hz).symm, rfl, rfl, rfl, trivial⟩, (by repeat (first|exact Sel.all|exact Sel.none|exact Sel.hd|(apply Sel.one; · repeat (first|exact Pick.h|apply Pick.t|apply Pick.app))|apply Sel.app|(with_reducible apply Sel.grp; · repeat (first|exact PickF.h|apply PickF.t|apply PickF.a))|(with_reducible refine Sel.nilF (by with_unfolding_all rfl) ?_)|apply Sel.drop|apply Sel.dropF))⟩))
                                  | false =>
                                    try have c_t102 := df h102
                                    first
                                    | (exfalso; omega)
                                    | (
                                      refine wc_else rfl ?_
                                      refine wc_seq ?_
                                      refine wc_region ?_
                                      refine wl rfl (OP.evb rfl rfl (eEq rfl rfl) fun t112 h112 => ?_)
                                      refine wl rfl (OP.ev rfl rfl (eAs rfl) ?_)
                                      refine wl_nil ?_
                                      cases t112 with
                                      | true =>
                                        try have c_t112 := dt h112
                                        first
                                        | (exfalso; omega)
                                        | (
                                          refine wc_then rfl ?_
                                          refine wc_region ?_
                                          refine wl rfl (OP.ev rfl rfl (eMv rfl) ?_)
                                          refine wl rfl (OP.ev rfl rfl (eFld 6 ty39 rfl rfl ty3 rfl) ?_)
                                          refine wl rfl (OP.ev rfl rfl (eLd ty3 rfl rfl (by repeat (first|exact Has.h|apply Has.t|apply Has.app)) (by rfl)) ?_)
                                          refine wl rfl (OP.ev rfl rfl (eFld 7 ty39 rfl rfl ty3 rfl) ?_)
                                          refine wl rfl (OP.ev rfl rfl (eLd ty3 rfl rfl (by repeat (first|exact Has.h|apply Has.t|apply Has.app)) (by rfl)) ?_)
                                          refine wl rfl (oC rfl pf34 rfl (rcrash_ok b2 d hd c.keep c.tear hcr.keep hcr.tear E _ (hE.sel hI1) (by omega)) (by repeat (first|exact Sel.all|exact Sel.none|exact Sel.hd|(apply Sel.one; · repeat (first|exact Pick.h|apply Pick.t|apply Pick.app))|apply Sel.app|(with_reducible apply Sel.grp; · repeat (first|exact PickF.h|apply PickF.t|apply PickF.a))|(with_reducible refine Sel.nilF (by with_unfolding_all rfl) ?_)|apply Sel.drop|apply Sel.dropF)) ?_)
                                          rintro _ _ ⟨rfl, E1, I2, hI2, hE1, rfl⟩
                                          refine wl rfl (OP.ev rfl rfl (eAs rfl) ?_)
                                          refine wl_nil ?_
                                          first
                                          | (have hz : d.does c = d.trim c.name c.at_ := by
                                               unfold DK.does
                                               rw [if_pos (by assumption)]
                                             exact ⟨(E1, I2), ⟨hI2, by rw [hz]; exact hE1⟩, ⟨rfl, rfl, rfl, rfl, rfl, (congrArg (fun q : Int × DK => some (i64 q.1)) hz).symm, rfl, rfl, rfl, trivial⟩, (by repeat (first|exact Sel.all|exact Sel.none|exact Sel.hd|(apply Sel.one; · repeat (first|exact Pick.h|apply Pick.t|apply Pick.app))|apply Sel.app|(with_reducible apply Sel.grp; · repeat (first|exact PickF.h|apply PickF.t|apply PickF.a))|(with_reducible refine Sel.nilF (by with_unfolding_all rfl) ?_)|apply Sel.drop|apply Sel.dropF))⟩)
                                          | (have hz : d.does c = d.move c.name c.to_ := by
                                               unfold DK.does
                                               rw [if_neg (by assumption), if_pos (by assumption)]
                                             exact ⟨(E1, I2), ⟨hI2, by rw [hz]; exact hE1⟩, ⟨rfl, rfl, rfl, rfl, rfl, (congrArg (fun q : Int × DK => some (i64 q.1)) hz).symm, rfl, rfl, rfl, trivial⟩, (by repeat (first|exact Sel.all|exact Sel.none|exact Sel.hd|(apply Sel.one; · repeat (first|exact Pick.h|apply Pick.t|apply Pick.app))|apply Sel.app|(with_reducible apply Sel.grp; · repeat (first|exact PickF.h|apply PickF.t|apply PickF.a))|(with_reducible refine Sel.nilF (by with_unfolding_all rfl) ?_)|apply Sel.drop|apply Sel.dropF))⟩)
                                          | (have hz : d.does c = d.drop c.name := by
                                               unfold DK.does
                                               rw [if_neg (by assumption), if_neg (by assumption), if_pos (by assumption)]
                                             exact ⟨(E1, I2), ⟨hI2, by rw [hz]; exact hE1⟩, ⟨rfl, rfl, rfl, rfl, rfl, (congrArg (fun q : Int × DK => some (i64 q.1)) hz).symm, rfl, rfl, rfl, trivial⟩, (by repeat (first|exact Sel.all|exact Sel.none|exact Sel.hd|(apply Sel.one; · repeat (first|exact Pick.h|apply Pick.t|apply Pick.app))|apply Sel.app|(with_reducible apply Sel.grp; · repeat (first|exact PickF.h|apply PickF.t|apply PickF.a))|(with_reducible refine Sel.nilF (by with_unfolding_all rfl) ?_)|apply Sel.drop|apply Sel.dropF))⟩)
                                          | (have hz : d.does c = d.sync := by
                                               unfold DK.does
                                               rw [if_neg (by assumption), if_neg (by assumption), if_neg (by assumption), if_pos (by assumption)]
                                             exact ⟨(E1, I2), ⟨hI2, by rw [hz]; exact hE1⟩, ⟨rfl, rfl, rfl, rfl, rfl, (congrArg (fun q : Int × DK => some (i64 q.1)) hz).symm, rfl, rfl, rfl, trivial⟩, (by repeat (first|exact Sel.all|exact Sel.none|exact Sel.hd|(apply Sel.one; · repeat (first|exact Pick.h|apply Pick.t|apply Pick.app))|apply Sel.app|(with_reducible apply Sel.grp; · repeat (first|exact PickF.h|apply PickF.t|apply PickF.a))|(with_reducible refine Sel.nilF (by with_unfolding_all rfl) ?_)|apply Sel.drop|apply Sel.dropF))⟩)
                                          | (have hz : d.does c = d.arm c.n c.keep c.tear := by
                                               unfold DK.does
                                               rw [if_neg (by assumption), if_neg (by assumption), if_neg (by assumption), if_neg (by assumption), if_pos (by assumption)]
                                             exact ⟨(E1, I2), ⟨hI2, by rw [hz]; exact hE1⟩, ⟨rfl, rfl, rfl, rfl, rfl, (congrArg (fun q : Int × DK => some (i64 q.1)) hz).symm, rfl, rfl, rfl, trivial⟩, (by repeat (first|exact Sel.all|exact Sel.none|exact Sel.hd|(apply Sel.one; · repeat (first|exact Pick.h|apply Pick.t|apply Pick.app))|apply Sel.app|(with_reducible apply Sel.grp; · repeat (first|exact PickF.h|apply PickF.t|apply PickF.a))|(with_reducible refine Sel.nilF (by with_unfolding_all rfl) ?_)|apply Sel.drop|apply Sel.dropF))⟩)
                                          | (have hz : d.does c = d.crash c.keep c.tear := by
                                               unfold DK.does
                                               rw [if_neg (by assumption), if_neg (by assumption), if_neg (by assumption), if_neg (by assumption), if_neg (by assumption), if_pos (by assumption)]
                                             exact ⟨(E1, I2), ⟨hI2, by rw [hz]; exact hE1⟩, ⟨rfl, rfl, rfl, rfl, rfl, (congrArg (fun q : Int × DK => some (i64 q.1)) hz).symm, rfl, rfl, rfl, trivial⟩, (by repeat (first|exact Sel.all|exact Sel.none|exact Sel.hd|(apply Sel.one; · repeat (first|exact Pick.h|apply Pick.t|apply Pick.app))|apply Sel.app|(with_reducible apply Sel.grp; · repeat (first|exact PickF.h|apply PickF.t|apply PickF.a))|(with_reducible refine Sel.nilF (by with_unfolding_all rfl) ?_)|apply Sel.drop|apply Sel.dropF))⟩)
                                          | (have hz : d.does c = d.start := by
                                               unfold DK.does
                                               rw [if_neg (by assumption), if_neg (by assumption), if_neg (by assumption), if_neg (by assumption), if_neg (by assumption), if_neg (by assumption), if_pos (by assumption)]
                                             exact ⟨(E1, I2), ⟨hI2, by rw [hz]; exact hE1⟩, ⟨rfl, rfl, rfl, rfl, rfl, (congrArg (fun q : Int × DK => some (i64 q.1)) hz).symm, rfl, rfl, rfl, trivial⟩, (by repeat (first|exact Sel.all|exact Sel.none|exact Sel.hd|(apply Sel.one; · repeat (first|exact Pick.h|apply Pick.t|apply Pick.app))|apply Sel.app|(with_reducible apply Sel.grp; · repeat (first|exact PickF.h|apply PickF.t|apply PickF.a))|(with_reducible refine Sel.nilF (by with_unfolding_all rfl) ?_)|apply Sel.drop|apply Sel.dropF))⟩)
                                          | (have hz : d.does c = d.write c.name c.at_ c.B := by
                                               unfold DK.does
                                               rw [if_neg (by assumption), if_neg (by assumption), if_neg (by assumption), if_neg (by assumption), if_neg (by assumption), if_neg (by assumption), if_neg (by assumption)]
                                             exact ⟨(E1, I2), ⟨hI2, by rw [hz]; exact hE1⟩, ⟨rfl, rfl, rfl, rfl, rfl, (congrArg (fun q : Int × DK => some (i64 q.1)) hz).symm, rfl, rfl, rfl, trivial⟩, (by repeat (first|exact Sel.all|exact Sel.none|exact Sel.hd|(apply Sel.one; · repeat (first|exact Pick.h|apply Pick.t|apply Pick.app))|apply Sel.app|(with_reducible apply Sel.grp; · repeat (first|exact PickF.h|apply PickF.t|apply PickF.a))|(with_reducible refine Sel.nilF (by with_unfolding_all rfl) ?_)|apply Sel.drop|apply Sel.dropF))⟩))
                                      | false =>
                                        try have c_t112 := df h112
                                        first
                                        | (exfalso; omega)
                                        | (
                                          refine wc_else rfl ?_
                                          refine wc_seq ?_
                                          refine wc_region ?_
                                          refine wl rfl (OP.evb rfl rfl (eEq rfl rfl) fun t120 h120 => ?_)
                                          refine wl rfl (OP.ev rfl rfl (eAs rfl) ?_)
                                          refine wl_nil ?_
                                          cases t120 with
                                          | true =>
                                            try have c_t120 := dt h120
                                            first
                                            | (exfalso; omega)
                                            | (
                                              refine wc_then rfl ?_
                                              refine wc_region ?_
                                              refine wl rfl (OP.ev rfl rfl (eMv rfl) ?_)
                                              refine wl rfl (oC rfl pf35 rfl (rstart_ok b2 d E _ (hE.sel hI1)) (by repeat (first|exact Sel.all|exact Sel.none|exact Sel.hd|(apply Sel.one; · repeat (first|exact Pick.h|apply Pick.t|apply Pick.app))|apply Sel.app|(with_reducible apply Sel.grp; · repeat (first|exact PickF.h|apply PickF.t|apply PickF.a))|(with_reducible refine Sel.nilF (by with_unfolding_all rfl) ?_)|apply Sel.drop|apply Sel.dropF)) ?_)
                                              rintro _ _ ⟨rfl, E1, I2, hI2, hE1, rfl⟩
                                              refine wl rfl (OP.ev rfl rfl (eAs rfl) ?_)
                                              refine wl_nil ?_
                                              first
                                              | (have hz : d.does c = d.trim c.name c.at_ := by
                                                   unfold DK.does
                                                   rw [if_pos (by assumption)]
                                                 exact ⟨(E1, I2), ⟨hI2, by rw [hz]; exact hE1⟩, ⟨rfl, rfl, rfl, rfl, rfl, (congrArg (fun q : Int × DK => some (i64 q.1)) hz).symm, rfl, rfl, rfl, trivial⟩, (by repeat (first|exact Sel.all|exact Sel.none|exact Sel.hd|(apply Sel.one; · repeat (first|exact Pick.h|apply Pick.t|apply Pick.app))|apply Sel.app|(with_reducible apply Sel.grp; · repeat (first|exact PickF.h|apply PickF.t|apply PickF.a))|(with_reducible refine Sel.nilF (by with_unfolding_all rfl) ?_)|apply Sel.drop|apply Sel.dropF))⟩)
                                              | (have hz : d.does c = d.move c.name c.to_ := by
                                                   unfold DK.does
                                                   rw [if_neg (by assumption), if_pos (by assumption)]
                                                 exact ⟨(E1, I2), ⟨hI2, by rw [hz]; exact hE1⟩, ⟨rfl, rfl, rfl, rfl, rfl, (congrArg (fun q : Int × DK => some (i64 q.1)) hz).symm, rfl, rfl, rfl, trivial⟩, (by repeat (first|exact Sel.all|exact Sel.none|exact Sel.hd|(apply Sel.one; · repeat (first|exact Pick.h|apply Pick.t|apply Pick.app))|apply Sel.app|(with_reducible apply Sel.grp; · repeat (first|exact PickF.h|apply PickF.t|apply PickF.a))|(with_reducible refine Sel.nilF (by with_unfolding_all rfl) ?_)|apply Sel.drop|apply Sel.dropF))⟩)
                                              | (have hz : d.does c = d.drop c.name := by
                                                   unfold DK.does
                                                   rw [if_neg (by assumption), if_neg (by assumption), if_pos (by assumption)]
                                                 exact ⟨(E1, I2), ⟨hI2, by rw [hz]; exact hE1⟩, ⟨rfl, rfl, rfl, rfl, rfl, (congrArg (fun q : Int × DK => some (i64 q.1)) hz).symm, rfl, rfl, rfl, trivial⟩, (by repeat (first|exact Sel.all|exact Sel.none|exact Sel.hd|(apply Sel.one; · repeat (first|exact Pick.h|apply Pick.t|apply Pick.app))|apply Sel.app|(with_reducible apply Sel.grp; · repeat (first|exact PickF.h|apply PickF.t|apply PickF.a))|(with_reducible refine Sel.nilF (by with_unfolding_all rfl) ?_)|apply Sel.drop|apply Sel.dropF))⟩)
                                              | (have hz : d.does c = d.sync := by
                                                   unfold DK.does
                                                   rw [if_neg (by assumption), if_neg (by assumption), if_neg (by assumption), if_pos (by assumption)]
                                                 exact ⟨(E1, I2), ⟨hI2, by rw [hz]; exact hE1⟩, ⟨rfl, rfl, rfl, rfl, rfl, (congrArg (fun q : Int × DK => some (i64 q.1)) hz).symm, rfl, rfl, rfl, trivial⟩, (by repeat (first|exact Sel.all|exact Sel.none|exact Sel.hd|(apply Sel.one; · repeat (first|exact Pick.h|apply Pick.t|apply Pick.app))|apply Sel.app|(with_reducible apply Sel.grp; · repeat (first|exact PickF.h|apply PickF.t|apply PickF.a))|(with_reducible refine Sel.nilF (by with_unfolding_all rfl) ?_)|apply Sel.drop|apply Sel.dropF))⟩)
                                              | (have hz : d.does c = d.arm c.n c.keep c.tear := by
                                                   unfold DK.does
                                                   rw [if_neg (by assumption), if_neg (by assumption), if_neg (by assumption), if_neg (by assumption), if_pos (by assumption)]
                                                 exact ⟨(E1, I2), ⟨hI2, by rw [hz]; exact hE1⟩, ⟨rfl, rfl, rfl, rfl, rfl, (congrArg (fun q : Int × DK => some (i64 q.1)) hz).symm, rfl, rfl, rfl, trivial⟩, (by repeat (first|exact Sel.all|exact Sel.none|exact Sel.hd|(apply Sel.one; · repeat (first|exact Pick.h|apply Pick.t|apply Pick.app))|apply Sel.app|(with_reducible apply Sel.grp; · repeat (first|exact PickF.h|apply PickF.t|apply PickF.a))|(with_reducible refine Sel.nilF (by with_unfolding_all rfl) ?_)|apply Sel.drop|apply Sel.dropF))⟩)
                                              | (have hz : d.does c = d.crash c.keep c.tear := by
                                                   unfold DK.does
                                                   rw [if_neg (by assumption), if_neg (by assumption), if_neg (by assumption), if_neg (by assumption), if_neg (by assumption), if_pos (by assumption)]
                                                 exact ⟨(E1, I2), ⟨hI2, by rw [hz]; exact hE1⟩, ⟨rfl, rfl, rfl, rfl, rfl, (congrArg (fun q : Int × DK => some (i64 q.1)) hz).symm, rfl, rfl, rfl, trivial⟩, (by repeat (first|exact Sel.all|exact Sel.none|exact Sel.hd|(apply Sel.one; · repeat (first|exact Pick.h|apply Pick.t|apply Pick.app))|apply Sel.app|(with_reducible apply Sel.grp; · repeat (first|exact PickF.h|apply PickF.t|apply PickF.a))|(with_reducible refine Sel.nilF (by with_unfolding_all rfl) ?_)|apply Sel.drop|apply Sel.dropF))⟩)
                                              | (have hz : d.does c = d.start := by
                                                   unfold DK.does
                                                   rw [if_neg (by assumption), if_neg (by assumption), if_neg (by assumption), if_neg (by assumption), if_neg (by assumption), if_neg (by assumption), if_pos (by assumption)]
                                                 exact ⟨(E1, I2), ⟨hI2, by rw [hz]; exact hE1⟩, ⟨rfl, rfl, rfl, rfl, rfl, (congrArg (fun q : Int × DK => some (i64 q.1)) hz).symm, rfl, rfl, rfl, trivial⟩, (by repeat (first|exact Sel.all|exact Sel.none|exact Sel.hd|(apply Sel.one; · repeat (first|exact Pick.h|apply Pick.t|apply Pick.app))|apply Sel.app|(with_reducible apply Sel.grp; · repeat (first|exact PickF.h|apply PickF.t|apply PickF.a))|(with_reducible refine Sel.nilF (by with_unfolding_all rfl) ?_)|apply Sel.drop|apply Sel.dropF))⟩)
                                              | (have hz : d.does c = d.write c.name c.at_ c.B := by
                                                   unfold DK.does
                                                   rw [if_neg (by assumption), if_neg (by assumption), if_neg (by assumption), if_neg (by assumption), if_neg (by assumption), if_neg (by assumption), if_neg (by assumption)]
                                                 exact ⟨(E1, I2), ⟨hI2, by rw [hz]; exact hE1⟩, ⟨rfl, rfl, rfl, rfl, rfl, (congrArg (fun q : Int × DK => some (i64 q.1)) hz).symm, rfl, rfl, rfl, trivial⟩, (by repeat (first|exact Sel.all|exact Sel.none|exact Sel.hd|(apply Sel.one; · repeat (first|exact Pick.h|apply Pick.t|apply Pick.app))|apply Sel.app|(with_reducible apply Sel.grp; · repeat (first|exact PickF.h|apply PickF.t|apply PickF.a))|(with_reducible refine Sel.nilF (by with_unfolding_all rfl) ?_)|apply Sel.drop|apply Sel.dropF))⟩))
                                          | false =>
                                            try have c_t120 := df h120
                                            first
                                            | (exfalso; omega)
                                            | (
                                              refine wc_else rfl ?_
                                              refine wc_region ?_
                                              refine wl rfl (OP.ev rfl rfl (eMv rfl) ?_)
                                              refine wl rfl (OP.ev rfl rfl (eFld 1 ty39 rfl rfl ty9 rfl) ?_)
                                              refine wl rfl (OP.ev rfl rfl (eLd ty9 rfl rfl (by repeat (first|exact Has.h|apply Has.t|apply Has.app)) (by rfl)) ?_)
                                              refine wl rfl (OP.ev rfl rfl (eFld 3 ty39 rfl rfl ty3 rfl) ?_)
                                              refine wl rfl (OP.ev rfl rfl (eLd ty3 rfl rfl (by repeat (first|exact Has.h|apply Has.t|apply Has.app)) (by rfl)) ?_)
                                              refine wl rfl (OP.ev rfl rfl (eFld 4 ty39 rfl rfl ty30 rfl) ?_)
                                              refine wl rfl (OP.ev rfl rfl (eLd ty30 rfl rfl (by repeat (first|exact Has.h|apply Has.t|apply Has.app)) (by rfl)) ?_)
                                              refine wl rfl (oC rfl pf36 rfl (rwrite_ok b2 d hd c.name hn1 c.at_ hcr.at_ c.bv c.B E _ (hE.sel hI1) (hcr.rs.sel Sel.none) hcr.isB hcr.len (by omega)) (by repeat (first|exact Sel.all|exact Sel.none|exact Sel.hd|(apply Sel.one; · repeat (first|exact Pick.h|apply Pick.t|apply Pick.app))|apply Sel.app|(with_reducible apply Sel.grp; · repeat (first|exact PickF.h|apply PickF.t|apply PickF.a))|(with_reducible refine Sel.nilF (by with_unfolding_all rfl) ?_)|apply Sel.drop|apply Sel.dropF)) ?_)
                                              rintro _ _ ⟨rfl, E1, I2, hI2, hE1, rfl⟩
                                              refine wl rfl (OP.ev rfl rfl (eAs rfl) ?_)
                                              refine wl_nil ?_
                                              first
                                              | (have hz : d.does c = d.trim c.name c.at_ := by
                                                   unfold DK.does
                                                   rw [if_pos (by assumption)]
                                                 exact ⟨(E1, I2), ⟨hI2, by rw [hz]; exact hE1⟩, ⟨rfl, rfl, rfl, rfl, rfl, (congrArg (fun q : Int × DK => some (i64 q.1)) hz).symm, rfl, rfl, rfl, trivial⟩, (by repeat (first|exact Sel.all|exact Sel.none|exact Sel.hd|(apply Sel.one; · repeat (first|exact Pick.h|apply Pick.t|apply Pick.app))|apply Sel.app|(with_reducible apply Sel.grp; · repeat (first|exact PickF.h|apply PickF.t|apply PickF.a))|(with_reducible refine Sel.nilF (by with_unfolding_all rfl) ?_)|apply Sel.drop|apply Sel.dropF))⟩)
                                              | (have hz : d.does c = d.move c.name c.to_ := by
                                                   unfold DK.does
                                                   rw [if_neg (by assumption), if_pos (by assumption)]
                                                 exact ⟨(E1, I2), ⟨hI2, by rw [hz]; exact hE1⟩, ⟨rfl, rfl, rfl, rfl, rfl, (congrArg (fun q : Int × DK => some (i64 q.1)) hz).symm, rfl, rfl, rfl, trivial⟩, (by repeat (first|exact Sel.all|exact Sel.none|exact Sel.hd|(apply Sel.one; · repeat (first|exact Pick.h|apply Pick.t|apply Pick.app))|apply Sel.app|(with_reducible apply Sel.grp; · repeat (first|exact PickF.h|apply PickF.t|apply PickF.a))|(with_reducible refine Sel.nilF (by with_unfolding_all rfl) ?_)|apply Sel.drop|apply Sel.dropF))⟩)
                                              | (have hz : d.does c = d.drop c.name := by
                                                   unfold DK.does
                                                   rw [if_neg (by assumption), if_neg (by assumption), if_pos (by assumption)]
                                                 exact ⟨(E1, I2), ⟨hI2, by rw [hz]; exact hE1⟩, ⟨rfl, rfl, rfl, rfl, rfl, (congrArg (fun q : Int × DK => some (i64 q.1)) hz).symm, rfl, rfl, rfl, trivial⟩, (by repeat (first|exact Sel.all|exact Sel.none|exact Sel.hd|(apply Sel.one; · repeat (first|exact Pick.h|apply Pick.t|apply Pick.app))|apply Sel.app|(with_reducible apply Sel.grp; · repeat (first|exact PickF.h|apply PickF.t|apply PickF.a))|(with_reducible refine Sel.nilF (by with_unfolding_all rfl) ?_)|apply Sel.drop|apply Sel.dropF))⟩)
                                              | (have hz : d.does c = d.sync := by
                                                   unfold DK.does
                                                   rw [if_neg (by assumption), if_neg (by assumption), if_neg (by assumption), if_pos (by assumption)]
                                                 exact ⟨(E1, I2), ⟨hI2, by rw [hz]; exact hE1⟩, ⟨rfl, rfl, rfl, rfl, rfl, (congrArg (fun q : Int × DK => some (i64 q.1)) hz).symm, rfl, rfl, rfl, trivial⟩, (by repeat (first|exact Sel.all|exact Sel.none|exact Sel.hd|(apply Sel.one; · repeat (first|exact Pick.h|apply Pick.t|apply Pick.app))|apply Sel.app|(with_reducible apply Sel.grp; · repeat (first|exact PickF.h|apply PickF.t|apply PickF.a))|(with_reducible refine Sel.nilF (by with_unfolding_all rfl) ?_)|apply Sel.drop|apply Sel.dropF))⟩)
                                              | (have hz : d.does c = d.arm c.n c.keep c.tear := by
                                                   unfold DK.does
                                                   rw [if_neg (by assumption), if_neg (by assumption), if_neg (by assumption), if_neg (by assumption), if_pos (by assumption)]
                                                 exact ⟨(E1, I2), ⟨hI2, by rw [hz]; exact hE1⟩, ⟨rfl, rfl, rfl, rfl, rfl, (congrArg (fun q : Int × DK => some (i64 q.1)) hz).symm, rfl, rfl, rfl, trivial⟩, (by repeat (first|exact Sel.all|exact Sel.none|exact Sel.hd|(apply Sel.one; · repeat (first|exact Pick.h|apply Pick.t|apply Pick.app))|apply Sel.app|(with_reducible apply Sel.grp; · repeat (first|exact PickF.h|apply PickF.t|apply PickF.a))|(with_reducible refine Sel.nilF (by with_unfolding_all rfl) ?_)|apply Sel.drop|apply Sel.dropF))⟩)
                                              | (have hz : d.does c = d.crash c.keep c.tear := by
                                                   unfold DK.does
                                                   rw [if_neg (by assumption), if_neg (by assumption), if_neg (by assumption), if_neg (by assumption), if_neg (by assumption), if_pos (by assumption)]
                                                 exact ⟨(E1, I2), ⟨hI2, by rw [hz]; exact hE1⟩, ⟨rfl, rfl, rfl, rfl, rfl, (congrArg (fun q : Int × DK => some (i64 q.1)) hz).symm, rfl, rfl, rfl, trivial⟩, (by repeat (first|exact Sel.all|exact Sel.none|exact Sel.hd|(apply Sel.one; · repeat (first|exact Pick.h|apply Pick.t|apply Pick.app))|apply Sel.app|(with_reducible apply Sel.grp; · repeat (first|exact PickF.h|apply PickF.t|apply PickF.a))|(with_reducible refine Sel.nilF (by with_unfolding_all rfl) ?_)|apply Sel.drop|apply Sel.dropF))⟩)
                                              | (have hz : d.does c = d.start := by
                                                   unfold DK.does
                                                   rw [if_neg (by assumption), if_neg (by assumption), if_neg (by assumption), if_neg (by assumption), if_neg (by assumption), if_neg (by assumption), if_pos (by assumption)]
                                                 exact ⟨(E1, I2), ⟨hI2, by rw [hz]; exact hE1⟩, ⟨rfl, rfl, rfl, rfl, rfl, (congrArg (fun q : Int × DK => some (i64 q.1)) hz).symm, rfl, rfl, rfl, trivial⟩, (by repeat (first|exact Sel.all|exact Sel.none|exact Sel.hd|(apply Sel.one; · repeat (first|exact Pick.h|apply Pick.t|apply Pick.app))|apply Sel.app|(with_reducible apply Sel.grp; · repeat (first|exact PickF.h|apply PickF.t|apply PickF.a))|(with_reducible refine Sel.nilF (by with_unfolding_all rfl) ?_)|apply Sel.drop|apply Sel.dropF))⟩)
                                              | (have hz : d.does c = d.write c.name c.at_ c.B := by
                                                   unfold DK.does
                                                   rw [if_neg (by assumption), if_neg (by assumption), if_neg (by assumption), if_neg (by assumption), if_neg (by assumption), if_neg (by assumption), if_neg (by assumption)]
                                                 exact ⟨(E1, I2), ⟨hI2, by rw [hz]; exact hE1⟩, ⟨rfl, rfl, rfl, rfl, rfl, (congrArg (fun q : Int × DK => some (i64 q.1)) hz).symm, rfl, rfl, rfl, trivial⟩, (by repeat (first|exact Sel.all|exact Sel.none|exact Sel.hd|(apply Sel.one; · repeat (first|exact Pick.h|apply Pick.t|apply Pick.app))|apply Sel.app|(with_reducible apply Sel.grp; · repeat (first|exact PickF.h|apply PickF.t|apply PickF.a))|(with_reducible refine Sel.nilF (by with_unfolding_all rfl) ?_)|apply Sel.drop|apply Sel.dropF))⟩))))))))
                · skip
                  rintro ⟨E1, I2⟩ ⟨hI2, hE1⟩
                  dsimp only at hI2 hE1 ⊢
                  refine wc_seq ?_
                  refine wc_region ?_
                  refine wl rfl (OP.ev rfl rfl (eFld 4 ty39 rfl rfl ty30 rfl) ?_)
                  refine wl rfl (OP.ev rfl rfl (eLd ty30 rfl rfl (by repeat (first|exact Has.h|apply Has.t|apply Has.app)) (by rfl)) ?_)
                  refine wl rfl (OP.ev rfl rfl (eFld 4 ty39 rfl rfl ty30 rfl) ?_)
                  refine wl rfl (OP.ev rfl rfl (eLd ty30 rfl rfl (by repeat (first|exact Has.h|apply Has.t|apply Has.app)) (by rfl)) ?_)
                  refine wl rfl (oCA rfl pf19 rfl (beq_same v57 c.bv c.B _ (hrow57.rs (by repeat (first|exact At.cell|exact At.h|apply At.t|apply At.a))) (hcr.rs.sel Sel.none) hcr.isB) ?_)
                  rintro _ _ ⟨rfl, rfl⟩
                  refine wl rfl (OP.ev rfl rfl (eAs rfl) ?_)
                  refine wl_nil ?_
                  refine wc_seq ?_
                  refine wc_seq ?_
                  refine wc_region ?_
                  refine wl rfl (OP.ev rfl rfl (eFld 4 ty39 rfl rfl ty30 rfl) ?_)
                  refine wl rfl (OP.ev rfl rfl (eLd ty30 rfl rfl (by repeat (first|exact Has.h|apply Has.t|apply Has.app)) (by rfl)) ?_)
                  refine wl rfl (OP.ev rfl rfl (eLenRow ty30 rfl hrow57) ?_)
                  refine wl rfl (OP.ev rfl rfl (eMv rfl) ?_)
                  refine wl_nil ?_
                  refine wc_block ?_
                  refine wc_loop (σ := Nat × Array Value × List Int) (fun q => [(5, ptr b), (7, ptr b2), (10, ptr b10), (11, ptr b11), (12, i64 (d.does c).1), (13, i64 (d.does c).1), (14, .bool true), (48, v), (49, i64 (l.length : Int)), (50, i64 (i : Int)), (130, i64 (c.B.length : Int)), (131, i64 (q.1 : Int))]) (fun q => D1 ++ (E1 ++ (I2 ++ (ownH v57 q.2.1 5 ++ [(b10, .cells (cC c) 39 (0, 0)), (b11, .cells (cC { c with bv := v57 }) 39 (0, 0))])))) (fun q => q.1 ≤ c.B.length ∧ q.2.2.length = c.B.length ∧ Row v57 q.2.1 1 c.B.length (byteV q.2.2)) (fun q => c.B.length - q.1) (0, cs57, c.B) ⟨Nat.zero_le _, rfl, hrow57⟩ ⟨rfl, rfl, rfl, rfl, rfl, rfl, rfl, rfl, rfl, rfl, rfl, rfl, trivial⟩ (by repeat (first|exact Sel.all|exact Sel.none|exact Sel.hd|(apply Sel.one; · repeat (first|exact Pick.h|apply Pick.t|apply Pick.app))|apply Sel.app|(with_reducible apply Sel.grp; · repeat (first|exact PickF.h|apply PickF.t|apply PickF.a))|(with_reducible refine Sel.nilF (by with_unfolding_all rfl) ?_)|apply Sel.drop|apply Sel.dropF)) ?_
                  rintro ⟨j, cs, ys⟩ ⟨hj, hyl, hrow⟩
                  dsimp only at hj hyl hrow ⊢
                  refine wc_seq ?_
                  refine wc_region ?_
                  refine wl rfl (OP.evb rfl rfl (eLt rfl rfl) fun t132 h132 => ?_)
                  refine wl_nil ?_
                  refine wc_seq ?_
                  cases t132 with
                  | true =>
                    try have c_t132 := dt h132
                    first
                    | (exfalso; omega)
                    | (
                      refine wc_then rfl ?_
                      refine wc_skip ?_
                      refine wc_seq ?_
                      refine wc_block ?_
                      refine wc_seq ?_
                      refine wc_region ?_
                      refine wl rfl (OP.ev rfl rfl (eMv rfl) ?_)
                      refine wl rfl (OP.ev rfl rfl (eAs rfl) ?_)
                      refine wl_nil ?_
                      obtain ⟨y, hy⟩ : ∃ y, ys[j]? = some y := ⟨_, List.getElem?_eq_getElem (by omega)⟩
                      refine wc_region ?_
                      refine wl rfl (OP.ev rfl rfl (eFld 4 ty39 rfl rfl ty30 rfl) ?_)
                      refine wl rfl (OP.ev rfl rfl (eLd ty30 rfl rfl (by repeat (first|exact Has.h|apply Has.t|apply Has.app)) (by rfl)) ?_)
                      refine wl rfl (OP.ev rfl rfl (eMv rfl) ?_)
                      refine wl rfl (OP.ev rfl rfl (eIxS ty30 ty5 rfl (hrow.rs (by repeat (first|exact At.cell|exact At.h|apply At.t|apply At.a))) rfl (by omega) (by omega)) ?_)
                      refine wl rfl (OP.ev rfl rfl (eLdS (u := .int .u8 y) ty5 rfl rfl (hrow.rs (by repeat (first|exact At.cell|exact At.h|apply At.t|apply At.a))) j (by omega) (by simp [byteV, hy])) ?_)
                      refine wl rfl (OP.ev rfl rfl (eXor8 rfl rfl) ?_)
                      refine wl rfl (OP.ev rfl rfl (eIxS ty30 ty5 rfl (hrow.rs (by repeat (first|exact At.cell|exact At.h|apply At.t|apply At.a))) rfl (by omega) (by omega)) ?_)
                      refine wl rfl (oStRow ty5 rfl rfl rfl hrow j (by omega) (by omega) (by repeat (first|exact At.cell|exact At.h|apply At.t|apply At.a)) ?_)
                      intro hrow2
                      rw [← byteV_set] at hrow2
                      refine wl_nil ?_
                      refine wc_region ?_
                      first | refine wl rfl (OP.ev rfl rfl (eAdd rfl rfl (by omega)) ?_) | refine wl rfl (OP.ev rfl rfl (eAddW rfl rfl) ?_)
                      refine wl rfl (OP.ev rfl rfl (eMv rfl) ?_)
                      refine wl_nil ?_
                      exact ⟨(j + 1, _, ys.set j (bits .xor .u8 y 255)), ⟨by show j + 1 ≤ _; omega, by rw [List.length_set]; exact hyl, hrow2⟩, by show _ - (j + 1) < _; omega, ⟨rfl, rfl, rfl, rfl, rfl, rfl, rfl, rfl, rfl, rfl, rfl, rfl, trivial⟩, (by repeat (first|exact Sel.all|exact Sel.none|exact Sel.hd|(apply Sel.one; · repeat (first|exact Pick.h|apply Pick.t|apply Pick.app))|apply Sel.app|(with_reducible apply Sel.grp; · repeat (first|exact PickF.h|apply PickF.t|apply PickF.a))|(with_reducible refine Sel.nilF (by with_unfolding_all rfl) ?_)|apply Sel.drop|apply Sel.dropF))⟩)
                  | false =>
                    try have c_t132 := df h132
                    first
                    | (exfalso; omega)
                    | (
                      refine wc_else rfl ?_
                      refine wc_exit rfl ?_
                      refine wc_seq ?_
                      refine wc_region ?_
                      refine wl rfl (OP.ev rfl rfl (eMv rfl) ?_)
                      refine wl rfl (OP.ev rfl rfl (eFld 1 ty39 rfl rfl ty9 rfl) ?_)
                      refine wl rfl (OP.ev rfl rfl (eLd ty9 rfl rfl (by repeat (first|exact Has.h|apply Has.t|apply Has.app)) (by rfl)) ?_)
                      refine wl rfl (oC rfl pf16 rfl (read_ok b _ hd' c.name D1 _ (hD1.sel hI2)) (by repeat (first|exact Sel.all|exact Sel.none|exact Sel.hd|(apply Sel.one; · repeat (first|exact Pick.h|apply Pick.t|apply Pick.app))|apply Sel.app|(with_reducible apply Sel.grp; · repeat (first|exact PickF.h|apply PickF.t|apply PickF.a))|(with_reducible refine Sel.nilF (by with_unfolding_all rfl) ?_)|apply Sel.drop|apply Sel.dropF)) ?_)
                      rintro _ _ ⟨w146, cs146, rfl, hrow146, hB146, rfl⟩
                      refine wl rfl (OP.ev rfl rfl (eMv rfl) ?_)
                      refine wl rfl (OP.ev rfl rfl (eExt rfl rfl) ?_)
                      refine wl rfl (OP.ev rfl rfl (eExt rfl rfl) ?_)
                      refine wl rfl (OP.ev rfl rfl (eAs rfl) ?_)
                      refine wl rfl (OP.ev rfl rfl (eAs rfl) ?_)
                      refine wl_nil ?_
                      refine wc_seq ?_
                      refine wc_region ?_
                      refine wl rfl (OP.ev rfl rfl (eMv rfl) ?_)
                      refine wl rfl (OP.ev rfl rfl (eFld 1 ty39 rfl rfl ty9 rfl) ?_)
                      refine wl rfl (OP.ev rfl rfl (eLd ty9 rfl rfl (by repeat (first|exact Has.h|apply Has.t|apply Has.app)) (by rfl)) ?_)
                      refine wl rfl (oC rfl pf37 rfl (rread_ok b2 _ hd' c.name hn1 E1 _ hE1 (by omega)) (by repeat (first|exact Sel.all|exact Sel.none|exact Sel.hd|(apply Sel.one; · repeat (first|exact Pick.h|apply Pick.t|apply Pick.app))|apply Sel.app|(with_reducible apply Sel.grp; · repeat (first|exact PickF.h|apply PickF.t|apply PickF.a))|(with_reducible refine Sel.nilF (by with_unfolding_all rfl) ?_)|apply Sel.drop|apply Sel.dropF)) ?_)
                      rintro _ _ ⟨w153, I3, rfl, hI3, hrs153, hB153, rfl⟩
                      refine wl rfl (OP.ev rfl rfl (eMv rfl) ?_)
                      refine wl rfl (OP.ev rfl rfl (eExt rfl rfl) ?_)
                      refine wl rfl (OP.ev rfl rfl (eExt rfl rfl) ?_)
                      refine wl rfl (OP.ev rfl rfl (eAs rfl) ?_)
                      refine wl rfl (OP.ev rfl rfl (eAs rfl) ?_)
                      refine wl_nil ?_
                      refine wc_seq ?_
                      refine wc_region ?_
                      refine wl rfl (OP.ev rfl rfl (eMv rfl) ?_)
                      refine wl rfl (OP.ev rfl rfl (eMv rfl) ?_)
                      refine wl rfl (OP.evb rfl rfl (eNe rfl rfl) fun t158 h158 => ?_)
                      refine wl rfl (OP.ev rfl rfl (eMv rfl) ?_)
                      cases t158 with
                      | true =>
                        try have c_t158 := dt h158
                        first
                        | (exfalso; omega)
                        | (
                          refine wl_skip rfl rfl rfl rfl rfl ?_
                          refine wl_skip rfl rfl rfl rfl rfl ?_
                          refine wl_skip rfl rfl rfl rfl rfl ?_
                          refine wl rfl (OP.ev rfl rfl (ePk rfl rfl) ?_)
                          refine wl rfl (OP.ev rfl rfl (eMv rfl) ?_)
                          refine wl_skip rfl rfl rfl rfl rfl ?_
                          refine wl_skip rfl rfl rfl rfl rfl ?_
                          refine wl_skip rfl rfl rfl rfl rfl ?_
                          refine wl_skip rfl rfl rfl rfl rfl ?_
                          refine wl rfl (OP.ev rfl rfl (ePk rfl rfl) ?_)
                          refine wl rfl (OP.ev rfl rfl (eMv rfl) ?_)
                          refine wl_skip rfl rfl rfl rfl rfl ?_
                          refine wl_skip rfl rfl rfl rfl rfl ?_
                          refine wl rfl (OP.ev rfl rfl (ePk rfl rfl) ?_)
                          refine wl rfl (OP.ev rfl rfl (eMv rfl) ?_)
                          refine wl_skip rfl rfl rfl rfl rfl ?_
                          refine wl_skip rfl rfl rfl rfl rfl ?_
                          refine wl_skip rfl rfl rfl rfl rfl ?_
                          refine wl_skip rfl rfl rfl rfl rfl ?_
                          refine wl rfl (OP.ev rfl rfl (ePk rfl rfl) ?_)
                          refine wl_nil ?_
                          refine wc_then rfl ?_
                          refine wc_seq ?_
                          refine wc_region ?_
                          refine wl rfl (OP.ev rfl rfl (eAs rfl) ?_)
                          refine wl_nil ?_
                          refine wc_ret ?_
                          apply at_ret rfl
                          · exact (.cons (.tmp rfl) .nil)
                          · first
                            | exact ⟨rfl, rfl⟩
                            | (exfalso; omega)
                            | (exfalso; simp at *; done)
                          · exact (by repeat (first|exact Sel.all|exact Sel.none|exact Sel.hd|(apply Sel.one; · repeat (first|exact Pick.h|apply Pick.t|apply Pick.app))|apply Sel.app|(with_reducible apply Sel.grp; · repeat (first|exact PickF.h|apply PickF.t|apply PickF.a))|(with_reducible refine Sel.nilF (by with_unfolding_all rfl) ?_)|apply Sel.drop|apply Sel.dropF)))
                      | false =>
                        try have c_t158 := df h158
                        first
                        | (exfalso; omega)
                        | (
                          refine wl_go rfl rfl (OP.ev rfl rfl (eMv rfl) ?_)
                          refine wl_go rfl rfl (OP.ev rfl rfl (eMv rfl) ?_)
                          refine wl_go rfl rfl (OP.evb rfl rfl (eNe rfl rfl) fun t162 h162 => ?_)
                          refine wl rfl (OP.ev rfl rfl (ePk rfl rfl) ?_)
                          refine wl rfl (OP.ev rfl rfl (eMv rfl) ?_)
                          cases t162 with
                          | true =>
                            try have c_t162 := dt h162
                            first
                            | (exfalso; omega)
                            | (
                              refine wl_skip rfl rfl rfl rfl rfl ?_
                              refine wl_skip rfl rfl rfl rfl rfl ?_
                              refine wl_skip rfl rfl rfl rfl rfl ?_
                              refine wl_skip rfl rfl rfl rfl rfl ?_
                              refine wl rfl (OP.ev rfl rfl (ePk rfl rfl) ?_)
                              refine wl rfl (OP.ev rfl rfl (eMv rfl) ?_)
                              refine wl_skip rfl rfl rfl rfl rfl ?_
                              refine wl_skip rfl rfl rfl rfl rfl ?_
                              refine wl rfl (OP.ev rfl rfl (ePk rfl rfl) ?_)
                              refine wl rfl (OP.ev rfl rfl (eMv rfl) ?_)
                              refine wl_skip rfl rfl rfl rfl rfl ?_
                              refine wl_skip rfl rfl rfl rfl rfl ?_
                              refine wl_skip rfl rfl rfl rfl rfl ?_
                              refine wl_skip rfl rfl rfl rfl rfl ?_
                              refine wl rfl (OP.ev rfl rfl (ePk rfl rfl) ?_)
                              refine wl_nil ?_
                              refine wc_then rfl ?_
                              refine wc_seq ?_
                              refine wc_region ?_
                              refine wl rfl (OP.ev rfl rfl (eAs rfl) ?_)
                              refine wl_nil ?_
                              refine wc_ret ?_
                              apply at_ret rfl
                              · exact (.cons (.tmp rfl) .nil)
                              · first
                                | exact ⟨rfl, rfl⟩
                                | (exfalso; omega)
                                | (exfalso; simp at *; done)
                              · exact (by repeat (first|exact Sel.all|exact Sel.none|exact Sel.hd|(apply Sel.one; · repeat (first|exact Pick.h|apply Pick.t|apply Pick.app))|apply Sel.app|(with_reducible apply Sel.grp; · repeat (first|exact PickF.h|apply PickF.t|apply PickF.a))|(with_reducible refine Sel.nilF (by with_unfolding_all rfl) ?_)|apply Sel.drop|apply Sel.dropF)))
                          | false =>
                            try have c_t162 := df h162
                            first
                            | (exfalso; omega)
                            | (
                              refine wl_go rfl rfl (OP.ev rfl rfl (eMv rfl) ?_)
                              refine wl_go rfl rfl (OP.ev rfl rfl (eMv rfl) ?_)
                              refine wl_go rfl rfl (oCA rfl pf19 rfl (beq_same w146 w153 ((d.does c).2.read c.name).1 _ (hrow146.rs (by repeat (first|exact At.cell|exact At.h|apply At.t|apply At.a))) (hrs153.sel (by repeat (first|exact Sel.all|exact Sel.none|exact Sel.hd|(apply Sel.one; · repeat (first|exact Pick.h|apply Pick.t|apply Pick.app))|apply Sel.app|(with_reducible apply Sel.grp; · repeat (first|exact PickF.h|apply PickF.t|apply PickF.a))|(with_reducible refine Sel.nilF (by with_unfolding_all rfl) ?_)|apply Sel.drop|apply Sel.dropF))) hB146) ?_)
                              rintro _ _ ⟨rfl, rfl⟩
                              refine wl_go rfl rfl (OP.evb rfl rfl (eNot rfl) fun t168 h168 => ?_)
                              refine wl rfl (OP.ev rfl rfl (ePk rfl rfl) ?_)
                              refine wl rfl (OP.ev rfl rfl (eMv rfl) ?_)
                              cases t168 with
                              | true =>
                                try have c_t168 := dt h168
                                first
                                | (exfalso; omega)
                                | (
                                  refine wl_skip rfl rfl rfl rfl rfl ?_
                                  refine wl_skip rfl rfl rfl rfl rfl ?_
                                  refine wl rfl (OP.ev rfl rfl (ePk rfl rfl) ?_)
                                  refine wl rfl (OP.ev rfl rfl (eMv rfl) ?_)
                                  refine wl_skip rfl rfl rfl rfl rfl ?_
                                  refine wl_skip rfl rfl rfl rfl rfl ?_
                                  refine wl_skip rfl rfl rfl rfl rfl ?_
                                  refine wl_skip rfl rfl rfl rfl rfl ?_
                                  refine wl rfl (OP.ev rfl rfl (ePk rfl rfl) ?_)
                                  refine wl_nil ?_
                                  refine wc_then rfl ?_
                                  refine wc_seq ?_
                                  refine wc_region ?_
                                  refine wl rfl (OP.ev rfl rfl (eAs rfl) ?_)
                                  refine wl_nil ?_
                                  refine wc_ret ?_
                                  apply at_ret rfl
                                  · exact (.cons (.tmp rfl) .nil)
                                  · first
                                    | exact ⟨rfl, rfl⟩
                                    | (exfalso; omega)
                                    | (exfalso; simp at *; done)
                                  · exact (by repeat (first|exact Sel.all|exact Sel.none|exact Sel.hd|(apply Sel.one; · repeat (first|exact Pick.h|apply Pick.t|apply Pick.app))|apply Sel.app|(with_reducible apply Sel.grp; · repeat (first|exact PickF.h|apply PickF.t|apply PickF.a))|(with_reducible refine Sel.nilF (by with_unfolding_all rfl) ?_)|apply Sel.drop|apply Sel.dropF)))
                              | false =>
                                try have c_t168 := df h168
                                first
                                | (exfalso; omega)
                                | (
                                  refine wl_go rfl rfl (OP.ev rfl rfl (eMv rfl) ?_)
                                  refine wl_go rfl rfl (OP.evb rfl rfl (eNot rfl) fun t172 h172 => ?_)
                                  refine wl rfl (OP.ev rfl rfl (ePk rfl rfl) ?_)
                                  refine wl rfl (OP.ev rfl rfl (eMv rfl) ?_)
                                  cases t172 with
                                  | true =>
                                    try have c_t172 := dt h172
                                    first
                                    | (exfalso; omega)
                                    | (
                                      refine wl_skip rfl rfl rfl rfl rfl ?_
                                      refine wl_skip rfl rfl rfl rfl rfl ?_
                                      refine wl_skip rfl rfl rfl rfl rfl ?_
                                      refine wl_skip rfl rfl rfl rfl rfl ?_
                                      refine wl rfl (OP.ev rfl rfl (ePk rfl rfl) ?_)
                                      refine wl_nil ?_
                                      refine wc_then rfl ?_
                                      refine wc_seq ?_
                                      refine wc_region ?_
                                      refine wl rfl (OP.ev rfl rfl (eAs rfl) ?_)
                                      refine wl_nil ?_
                                      refine wc_ret ?_
                                      apply at_ret rfl
                                      · exact (.cons (.tmp rfl) .nil)
                                      · first
                                        | exact ⟨rfl, rfl⟩
                                        | (exfalso; omega)
                                        | (exfalso; simp at *; done)
                                      · exact (by repeat (first|exact Sel.all|exact Sel.none|exact Sel.hd|(apply Sel.one; · repeat (first|exact Pick.h|apply Pick.t|apply Pick.app))|apply Sel.app|(with_reducible apply Sel.grp; · repeat (first|exact PickF.h|apply PickF.t|apply PickF.a))|(with_reducible refine Sel.nilF (by with_unfolding_all rfl) ?_)|apply Sel.drop|apply Sel.dropF)))
                                  | false =>
                                    try have c_t172 := df h172
                                    first
                                    | (exfalso; omega)
                                    | (
                                      refine wl_go rfl rfl (OP.ev rfl rfl (eMv rfl) ?_)
                                      refine wl_go rfl rfl (OP.ev rfl rfl (eMv rfl) ?_)
                                      refine wl_go rfl rfl (oC rfl pf38 rfl (alike_ok b b2 _ hd' hm' (by omega) D1 E1 _ ((hD1.sel hI2).sel hI3) (hE1.sel hI3)) (by repeat (first|exact Sel.all|exact Sel.none|exact Sel.hd|(apply Sel.one; · repeat (first|exact Pick.h|apply Pick.t|apply Pick.app))|apply Sel.app|(with_reducible apply Sel.grp; · repeat (first|exact PickF.h|apply PickF.t|apply PickF.a))|(with_reducible refine Sel.nilF (by with_unfolding_all rfl) ?_)|apply Sel.drop|apply Sel.dropF)) ?_)
                                      rintro _ _ ⟨rfl, I4, hI4, rfl⟩
                                      refine wl_go rfl rfl (OP.evb rfl rfl (eNot rfl) fun t178 h178 => ?_)
                                      refine wl rfl (OP.ev rfl rfl (ePk rfl rfl) ?_)
                                      refine wl_nil ?_
                                      cases t178 with
                                      | true =>
                                        try have c_t178 := dt h178
                                        first
                                        | (exfalso; omega)
                                        | (
                                          refine wc_then rfl ?_
                                          refine wc_seq ?_
                                          refine wc_region ?_
                                          refine wl rfl (OP.ev rfl rfl (eAs rfl) ?_)
                                          refine wl_nil ?_
                                          refine wc_ret ?_
                                          apply at_ret rfl
                                          · exact (.cons (.tmp rfl) .nil)
                                          · first
                                            | exact ⟨rfl, rfl⟩
                                            | (exfalso; omega)
                                            | (exfalso; simp at *; done)
                                          · exact (by repeat (first|exact Sel.all|exact Sel.none|exact Sel.hd|(apply Sel.one; · repeat (first|exact Pick.h|apply Pick.t|apply Pick.app))|apply Sel.app|(with_reducible apply Sel.grp; · repeat (first|exact PickF.h|apply PickF.t|apply PickF.a))|(with_reducible refine Sel.nilF (by with_unfolding_all rfl) ?_)|apply Sel.drop|apply Sel.dropF)))
                                      | false =>
                                        try have c_t178 := df h178
                                        first
                                        | (exfalso; omega)
                                        | (
                                          refine wc_else rfl ?_
                                          refine wc_skip ?_
                                          refine wc_region ?_
                                          first | refine wl rfl (OP.ev rfl rfl (eAdd rfl rfl (by omega)) ?_) | refine wl rfl (OP.ev rfl rfl (eAddW rfl rfl) ?_)
                                          refine wl rfl (OP.ev rfl rfl (eMv rfl) ?_)
                                          refine wl_nil ?_
                                          exact ⟨(i + 1, (d.does c).2, D1, E1, I4), ⟨by show i + 1 ≤ _; omega, hd', hm', Nat.le_trans hac' (Nat.succ_le_succ hac), ((hD1.sel hI2).sel hI3).sel hI4, (hE1.sel hI3).sel hI4⟩, by show _ - (i + 1) < _; omega, ⟨rfl, rfl, rfl, rfl, rfl, trivial⟩, (by repeat (first|exact Sel.all|exact Sel.none|exact Sel.hd|(apply Sel.one; · repeat (first|exact Pick.h|apply Pick.t|apply Pick.app))|apply Sel.app|(with_reducible apply Sel.grp; · repeat (first|exact PickF.h|apply PickF.t|apply PickF.a))|(with_reducible refine Sel.nilF (by with_unfolding_all rfl) ?_)|apply Sel.drop|apply Sel.dropF))⟩)))))))
            | false =>
              try have c_t51 := df h51
              first
              | (exfalso; omega)
              | (
                refine wc_else rfl ?_
                refine wc_exit rfl ?_
                refine wc_seq ?_
                refine wc_region ?_
                refine wl rfl (oCA rfl pf13 rfl (awake_ok _) ?_)
                rintro _ _ ⟨rfl, rfl⟩
                refine wl rfl (OP.ev rfl rfl (eAs rfl) ?_)
                refine wl_nil ?_
                refine wc_ret ?_
                apply at_ret rfl
                · exact (.cons (.tmp rfl) .nil)
                · first
                  | exact ⟨rfl, rfl⟩
                  | (exfalso; omega)
                  | (exfalso; simp at *; done)
                · exact (by repeat (first|exact Sel.all|exact Sel.none|exact Sel.hd|(apply Sel.one; · repeat (first|exact Pick.h|apply Pick.t|apply Pick.app))|apply Sel.app|(with_reducible apply Sel.grp; · repeat (first|exact PickF.h|apply PickF.t|apply PickF.a))|(with_reducible refine Sel.nilF (by with_unfolding_all rfl) ?_)|apply Sel.drop|apply Sel.dropF)))))
end Go.Proofs.Ytahjgjmemijofaa
