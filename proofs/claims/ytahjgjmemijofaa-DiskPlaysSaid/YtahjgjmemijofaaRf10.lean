/- A byte of a row turned; both disks alike. No statement of the seat is proved here. -/
import Derived.Test.YtahjgjmemijofaaRf9
import Derived.Test.YtahjgjmemijofaaLw6
import Derived.Laws.Entries
namespace Go.Proofs.Ytahjgjmemijofaa
open Go Eng
set_option linter.unusedVariables false
set_option linter.unusedSimpArgs false
set_option maxRecDepth 4000
variable {W0 : World} {I I' : Heap}

section
variable {P : Program} {n : Nat} {l : Env} {L : Heap} {ty : TypeId} {pos : String} {af : Array Edge} {gd : Option (Nat × Bool)} {K : Env → Heap → Prop}
theorem Eng.eXor8 {D : Option Nat} {xt yt : TypeId} {x y : Operand} {p q : Int} (hx : evo l x = some (.int .u8 p)) (hy : evo l y = some (.int .u8 q)) : EV P n W0 ⟨D, .binOp .xor xt x y yt, ty, pos, af, gd⟩ l L (.int .u8 (bits .xor .u8 p q)) :=
  eBin hx hy (fun w => by rw [binOp_xor, intBits_xor]; rfl)
theorem Eng.At.upd {F : Heap} {C : Heap → Heap} (h : At L F C) {b : Nat} {o o' : Obj} (hF : F = [(b, o)]) : Upd L b o o' (C [(b, o')]) := by
  induction h with
  | h => subst hF; exact Upd.h
  | t _ ih => exact Upd.t (ih hF)
  | @a G L F C _ ih =>
    induction G with
    | nil => exact ih hF
    | cons p G ihG => exact Upd.t ihG
theorem Eng.Row.set {v : Value} {cs : Array Value} {k : Nat} {xs : List Value} {u : Value} (h : Row v cs 1 k xs) (j : Nat) : Row v (cs.setIfInBounds j u) 1 k (xs.set j u) := by
  obtain ⟨h0, h1⟩ := h
  refine ⟨by rw [List.length_set]; exact h0, ?_⟩
  rcases h1 with h1 | ⟨b, cap, h1, h2, h3, h4⟩
  · exact .inl h1
  · exact .inr ⟨b, cap, h1, h2, by rw [Array.size_setIfInBounds]; exact h3, by rw [Array.toList_setIfInBounds, List.take_set, h4]⟩
theorem Eng.oStRow {t : TypeId} {dd : TypeDesc} {by_ : Nat} {z : Option Value} {x y : Operand} {v u : Value} {cs : Array Value} {k o1 : Nat} {xs : List Value} {e : TypeId} {C : Heap → Heap}
    (ht : tinf P t = some (dd, 1, by_, z)) (hx : evo l x = some (.pointer (some ⟨slB v, o1, none⟩))) (hy : evo l y = some u) (hu : u.oneCell' = true) (hr : Row v cs 1 k xs) (j : Nat) (ho : o1 = slO v + j) (hj : j < k) (hat : At L (ownH v cs e) C)
    (h : Row v (cs.setIfInBounds j u) 1 k (xs.set j u) → K l (C (ownH v (cs.setIfInBounds j u) e))) : OP P n W0 ⟨none, .store t x y, ty, pos, af, gd⟩ l L K := by
  have h9 := h (hr.set j)
  obtain ⟨h0, h1⟩ := hr
  rcases h1 with ⟨_, h1⟩ | ⟨b, cap, rfl, h2, h3, h4⟩
  · omega
  · have hz : slO (.slice (some ⟨b, 0, none⟩) k cap) = 0 := rfl
    have ho2 : o1 = j := by omega
    subst ho2
    exact oSt (b := b) (off := o1) (o' := .cells (cs.setIfInBounds o1 u) e (0, 0)) ht hx hy hu rfl (hat.upd rfl) (by omega) (by simp) h9
end

theorem equalS_same (u v : Value) (a : List Nm) (R : Heap) (hu : Rs W0 R u 1 a.length (a.map strK)) (hv : Rs W0 R v 1 a.length (a.map strK)) (ha : a.length ≤ 1099511627776) :
    FnC W0 Try.prog 63 #[u, v] R (fun v' L' => v' = .bool true ∧ L' = R) := by
  have := equalS_ok u v a a R hu hv ha ha
  simpa using this

theorem alike_ok (b1 b2 : Nat) (d : DK) (hd : DOk d) (hm : MN d) (hn : d.acts.length ≤ 1000000) (D E R : Heap) (hD : DiskR W0 I d b1 D) (hE : RefR W0 I d b2 E) :
    FnC W0 Try.prog 38 #[ptr b1, ptr b2] (D ++ (E ++ (I ++ R))) (fun v' L' => v' = .bool true ∧ ∃ I', Sel I' I ∧ L' = D ++ (E ++ (I' ++ R))) := by
  have hE0 := hE
  obtain ⟨Lv, av, acs, ax, kp, tr, rfl, hF, hA, hkt, hk64, ht64⟩ := hE
  have hal := hA.len
  have hsn := hd.snum
  have hdn : d.names.length ≤ 4096 := by
    unfold DK.names
    split <;> simp; omega
  have huse := hd.use
  have hroom := hd.room
  rcases ho : d.off with _ | _
  · have hpe : d.pend = (ax.length : Int) := by unfold DK.pend; rw [ho, hal]; rfl
    simp only [List.cons_append]
    refine fn_of Try.func38 rfl Try.ntmps38 rfl rfl ?_
    refine wc_seq ?_
    refine wc_region ?_
    refine wl rfl (OP.ev rfl rfl (eAs rfl) ?_)
    refine wl_nil ?_
    refine wc_seq ?_
    refine wc_region ?_
    refine wl rfl (OP.ev rfl rfl (eMv rfl) ?_)
    refine wl rfl (OP.ev rfl rfl (eNil rfl) ?_)
    refine wl rfl (OP.ev rfl rfl (eFld 2 ty86 rfl rfl ty84 rfl) ?_)
    refine wl rfl (OP.ev rfl rfl (eLd ty84 rfl rfl (by repeat (first|exact Has.h|apply Has.t|apply Has.app)) (by rfl)) ?_)
    refine wl rfl (OP.ev rfl rfl (eLenRow ty84 rfl hA.row) ?_)
    refine wl rfl (OP.ev rfl rfl (eAs rfl) ?_)
    refine wl_nil ?_
    refine wc_seq ?_
    refine wc_seq ?_
    refine wc_region ?_
    refine wl rfl (OP.ev rfl rfl (eMv rfl) ?_)
    refine wl rfl (OP.ev rfl rfl (eNil rfl) ?_)
    refine wl rfl (OP.ev rfl rfl (eFld 3 ty86 rfl rfl ty4 rfl) ?_)
    refine wl rfl (OP.ev rfl rfl (eLd (v := .bool false) ty4 rfl rfl (by repeat (first|exact Has.h|apply Has.t|apply Has.app)) (by show some (Value.bool d.off) = _; rw [ho])) ?_)
    refine wl_nil ?_
    refine wc_else rfl ?_
    refine wc_skip ?_
    refine wc_seq ?_
    refine wc_seq ?_
    refine wc_region ?_
    refine wl rfl (OP.ev rfl rfl (eMv rfl) ?_)
    refine wl rfl (oC rfl pf17 rfl (list_ok b1 d hd D _ hD) (by repeat (first|exact Sel.all|exact Sel.none|exact Sel.hd|(apply Sel.one; · repeat (first|exact Pick.h|apply Pick.t|apply Pick.app))|apply Sel.app|(with_reducible apply Sel.grp; · repeat (first|exact PickF.h|apply PickF.t|apply PickF.a))|(with_reducible refine Sel.nilF (by with_unfolding_all rfl) ?_)|apply Sel.drop|apply Sel.dropF)) ?_)
    rintro v20 _ ⟨cs20, hrow20, rfl⟩
    refine wl rfl (OP.ev rfl rfl (eMv rfl) ?_)
    refine wl rfl (oC rfl pf64 rfl (rlist_ok b2 d hd Lv av acs ax kp tr hF hA hn _) (by repeat (first|exact Sel.all|exact Sel.none|exact Sel.hd|(apply Sel.one; · repeat (first|exact Pick.h|apply Pick.t|apply Pick.app))|apply Sel.app|(with_reducible apply Sel.grp; · repeat (first|exact PickF.h|apply PickF.t|apply PickF.a))|(with_reducible refine Sel.nilF (by with_unfolding_all rfl) ?_)|apply Sel.drop|apply Sel.dropF)) ?_)
    rintro v22 _ ⟨cs22, I2, hI2, hrow22, rfl⟩
    refine wl rfl (oCA rfl pf63 rfl (equalS_same v20 v22 d.names _ (hrow20.rs (by repeat (first|exact At.cell|exact At.h|apply At.t|apply At.a))) (hrow22.rs (by repeat (first|exact At.cell|exact At.h|apply At.t|apply At.a))) (by omega)) ?_)
    rintro _ _ ⟨rfl, rfl⟩
    refine wl rfl (OP.evb rfl rfl (eNot rfl) fun t24 h24 => ?_)
    refine wl rfl (OP.ev rfl rfl (eMv rfl) ?_)
    cases t24 with
    | true =>
      try have c_t24 := dt h24
      first
      | (exfalso; omega)
      | (
        refine wl_skip rfl rfl rfl rfl rfl ?_
        refine wl_skip rfl rfl rfl rfl rfl ?_
        refine wl_skip rfl rfl rfl rfl rfl ?_
        refine wl_skip rfl rfl rfl rfl rfl ?_
        refine wl rfl (OP.ev rfl rfl (ePk rfl rfl) ?_)
        refine wl rfl (OP.ev rfl rfl (eMv rfl) ?_)
        refine wl_skip rfl rfl rfl rfl rfl ?_
        refine wl_skip rfl rfl rfl rfl rfl ?_
        refine wl_skip rfl rfl rfl rfl rfl ?_
        refine wl_skip rfl rfl rfl rfl rfl ?_
        refine wl_skip rfl rfl rfl rfl rfl ?_
        refine wl rfl (OP.ev rfl rfl (ePk rfl rfl) ?_)
        refine wl_nil ?_
        refine wc_then rfl ?_
        refine wc_seq ?_
        refine wc_region ?_
        refine wl rfl (OP.ev rfl rfl (eAs rfl) ?_)
        refine wl_nil ?_
        refine wc_ret ?_
        apply at_ret rfl
        · exact (.cons (.tmp rfl) .nil)
        · first
          | exact ⟨rfl, I3, hS, rfl⟩
          | (exfalso; omega)
          | (exfalso; simp at *; done)
        · exact (by repeat (first|exact Sel.all|exact Sel.none|exact Sel.hd|(apply Sel.one; · repeat (first|exact Pick.h|apply Pick.t|apply Pick.app))|apply Sel.app|(with_reducible apply Sel.grp; · repeat (first|exact PickF.h|apply PickF.t|apply PickF.a))|(with_reducible refine Sel.nilF (by with_unfolding_all rfl) ?_)|apply Sel.drop|apply Sel.dropF)))
    | false =>
      try have c_t24 := df h24
      first
      | (exfalso; omega)
      | (
        refine wl_go rfl rfl (OP.ev rfl rfl (eMv rfl) ?_)
        refine wl_go rfl rfl (oC rfl pf24 rfl (pend_ok b1 d D _ (hD.sel hI2)) (by repeat (first|exact Sel.all|exact Sel.none|exact Sel.hd|(apply Sel.one; · repeat (first|exact Pick.h|apply Pick.t|apply Pick.app))|apply Sel.app|(with_reducible apply Sel.grp; · repeat (first|exact PickF.h|apply PickF.t|apply PickF.a))|(with_reducible refine Sel.nilF (by with_unfolding_all rfl) ?_)|apply Sel.drop|apply Sel.dropF)) ?_)
        rintro _ _ ⟨rfl, rfl⟩
        refine wl_go rfl rfl (OP.ev rfl rfl (eMv rfl) ?_)
        refine wl_go rfl rfl (OP.evb rfl rfl (eNe rfl rfl) fun t29 h29 => ?_)
        refine wl rfl (OP.ev rfl rfl (ePk rfl rfl) ?_)
        refine wl rfl (OP.ev rfl rfl (eMv rfl) ?_)
        cases t29 with
        | true =>
          try have c_t29 := dt h29
          first
          | (exfalso; omega)
          | (
            refine wl_skip rfl rfl rfl rfl rfl ?_
            refine wl_skip rfl rfl rfl rfl rfl ?_
            refine wl_skip rfl rfl rfl rfl rfl ?_
            refine wl_skip rfl rfl rfl rfl rfl ?_
            refine wl_skip rfl rfl rfl rfl rfl ?_
            refine wl rfl (OP.ev rfl rfl (ePk rfl rfl) ?_)
            refine wl_nil ?_
            refine wc_then rfl ?_
            refine wc_seq ?_
            refine wc_region ?_
            refine wl rfl (OP.ev rfl rfl (eAs rfl) ?_)
            refine wl_nil ?_
            refine wc_ret ?_
            apply at_ret rfl
            · exact (.cons (.tmp rfl) .nil)
            · first
              | exact ⟨rfl, I3, hS, rfl⟩
              | (exfalso; omega)
              | (exfalso; simp at *; done)
            · exact (by repeat (first|exact Sel.all|exact Sel.none|exact Sel.hd|(apply Sel.one; · repeat (first|exact Pick.h|apply Pick.t|apply Pick.app))|apply Sel.app|(with_reducible apply Sel.grp; · repeat (first|exact PickF.h|apply PickF.t|apply PickF.a))|(with_reducible refine Sel.nilF (by with_unfolding_all rfl) ?_)|apply Sel.drop|apply Sel.dropF)))
        | false =>
          try have c_t29 := df h29
          first
          | (exfalso; omega)
          | (
            refine wl_go rfl rfl (OP.ev rfl rfl (eMv rfl) ?_)
            refine wl_go rfl rfl (oC rfl pf25 rfl (used_ok b1 d hd D _ (hD.sel hI2) hn) (by repeat (first|exact Sel.all|exact Sel.none|exact Sel.hd|(apply Sel.one; · repeat (first|exact Pick.h|apply Pick.t|apply Pick.app))|apply Sel.app|(with_reducible apply Sel.grp; · repeat (first|exact PickF.h|apply PickF.t|apply PickF.a))|(with_reducible refine Sel.nilF (by with_unfolding_all rfl) ?_)|apply Sel.drop|apply Sel.dropF)) ?_)
            rintro _ _ ⟨rfl, rfl⟩
            refine wl_go rfl rfl (OP.ev rfl rfl (eMv rfl) ?_)
            refine wl_go rfl rfl (oC rfl pf62 rfl (rused_ok b2 d hd Lv av acs ax kp tr (hF.sel hI2) (hA.sel hI2) hn _) (by repeat (first|exact Sel.all|exact Sel.none|exact Sel.hd|(apply Sel.one; · repeat (first|exact Pick.h|apply Pick.t|apply Pick.app))|apply Sel.app|(with_reducible apply Sel.grp; · repeat (first|exact PickF.h|apply PickF.t|apply PickF.a))|(with_reducible refine Sel.nilF (by with_unfolding_all rfl) ?_)|apply Sel.drop|apply Sel.dropF)) ?_)
            rintro _ _ ⟨rfl, rfl⟩
            refine wl_go rfl rfl (OP.evb rfl rfl (eNe rfl rfl) fun t36 h36 => ?_)
            refine wl rfl (OP.ev rfl rfl (ePk rfl rfl) ?_)
            refine wl_nil ?_
            cases t36 with
            | true =>
              try have c_t36 := dt h36
              first
              | (exfalso; omega)
              | (
                refine wc_then rfl ?_
                refine wc_seq ?_
                refine wc_region ?_
                refine wl rfl (OP.ev rfl rfl (eAs rfl) ?_)
                refine wl_nil ?_
                refine wc_ret ?_
                apply at_ret rfl
                · exact (.cons (.tmp rfl) .nil)
                · first
                  | exact ⟨rfl, I3, hS, rfl⟩
                  | (exfalso; omega)
                  | (exfalso; simp at *; done)
                · exact (by repeat (first|exact Sel.all|exact Sel.none|exact Sel.hd|(apply Sel.one; · repeat (first|exact Pick.h|apply Pick.t|apply Pick.app))|apply Sel.app|(with_reducible apply Sel.grp; · repeat (first|exact PickF.h|apply PickF.t|apply PickF.a))|(with_reducible refine Sel.nilF (by with_unfolding_all rfl) ?_)|apply Sel.drop|apply Sel.dropF)))
            | false =>
              try have c_t36 := df h36
              first
              | (exfalso; omega)
              | (
                refine wc_else rfl ?_
                refine wc_skip ?_
                refine wc_seq ?_
                refine wc_seq ?_
                refine wc_region ?_
                refine wl rfl (OP.ev rfl rfl (eMv rfl) ?_)
                refine wl rfl (OP.ev rfl rfl (eNil rfl) ?_)
                refine wl rfl (OP.ev rfl rfl (eFld 3 ty86 rfl rfl ty4 rfl) ?_)
                refine wl rfl (OP.ev rfl rfl (eLd (v := .bool false) ty4 rfl rfl (by repeat (first|exact Has.h|apply Has.t|apply Has.app)) (by show some (Value.bool d.off) = _; rw [ho])) ?_)
                refine wl_nil ?_
                refine wc_else rfl ?_
                refine wc_skip ?_
                refine wc_seq ?_
                refine wc_seq ?_
                refine wc_region ?_
                refine wl rfl (OP.ev rfl rfl (eMv rfl) ?_)
                refine wl rfl (oC rfl pf57 rfl (files_ok b2 d hd Lv av acs ax kp tr (hF.sel hI2) (hA.sel hI2) hn _) (by repeat (first|exact Sel.all|exact Sel.none|exact Sel.hd|(apply Sel.one; · repeat (first|exact Pick.h|apply Pick.t|apply Pick.app))|apply Sel.app|(with_reducible apply Sel.grp; · repeat (first|exact PickF.h|apply PickF.t|apply PickF.a))|(with_reducible refine Sel.nilF (by with_unfolding_all rfl) ?_)|apply Sel.drop|apply Sel.dropF)) ?_)
                rintro v43 _ ⟨I3, hI3, ⟨xs, hr, hxl, hxo⟩, rfl⟩
                refine wl rfl (OP.ev rfl rfl (eLenR ty83 rfl (hr.sel (by repeat (first|exact Sel.all|exact Sel.none|exact Sel.hd|(apply Sel.one; · repeat (first|exact Pick.h|apply Pick.t|apply Pick.app))|apply Sel.app|(with_reducible apply Sel.grp; · repeat (first|exact PickF.h|apply PickF.t|apply PickF.a))|(with_reducible refine Sel.nilF (by with_unfolding_all rfl) ?_)|apply Sel.drop|apply Sel.dropF)))) ?_)
                refine wl rfl (OP.ev rfl rfl (eMv rfl) ?_)
                refine wl_nil ?_
                refine wc_block ?_
                have hxn : xs.length = d.seen.length := by rw [← hxl]; simp [fL]
                have hS : Sel I3 I := hI3.trans hI2
                refine wc_loop (σ := Nat) (fun i => [(0, ptr b1), (1, ptr b2), (43, v43), (44, i64 (xs.length : Int)), (45, i64 (i : Int))]) (fun i => D ++ (rkC b2 d Lv av kp tr :: (ownH av acs 92 ++ (I3 ++ R)))) (fun i => i ≤ xs.length) (fun i => xs.length - i) 0 (Nat.zero_le _) ⟨rfl, rfl, rfl, rfl, rfl, trivial⟩ (by repeat (first|exact Sel.all|exact Sel.none|exact Sel.hd|(apply Sel.one; · repeat (first|exact Pick.h|apply Pick.t|apply Pick.app))|apply Sel.app|(with_reducible apply Sel.grp; · repeat (first|exact PickF.h|apply PickF.t|apply PickF.a))|(with_reducible refine Sel.nilF (by with_unfolding_all rfl) ?_)|apply Sel.drop|apply Sel.dropF)) ?_
                rintro i hi
                refine wc_seq ?_
                refine wc_region ?_
                refine wl rfl (OP.evb rfl rfl (eLt rfl rfl) fun t46 h46 => ?_)
                refine wl_nil ?_
                refine wc_seq ?_
                cases t46 with
                | true =>
                  try have c_t46 := dt h46
                  first
                  | (exfalso; omega)
                  | (
                    refine wc_then rfl ?_
                    refine wc_skip ?_
                    refine wc_seq ?_
                    refine wc_block ?_
                    refine wc_seq ?_
                    obtain ⟨t, ht⟩ : ∃ t, xs[i]? = some t := ⟨_, List.getElem?_eq_getElem (by omega)⟩
                    have htl := fL_at ht
                    rw [hxl] at htl
                    have hmem := List.mem_of_getElem? htl
                    have hg : fget d.seen t.1 = some t.2.2 := (fget_mem hd.rs.keys).2 hmem
                    have hmy : may t.1 = true := hm.seen _ hmem
                    have hrd : d.read t.1 = (t.2.2, 0) := read_here ho hmy hg
                    have hlen : t.2.2.length ≤ 16777216 := by
                      have h1 := hd.get_len t.1
                      have h2 : fgetD d.seen t.1 = t.2.2 := by unfold fgetD; rw [hg]; rfl
                      rwa [h2] at h1
                    obtain ⟨htr, htb⟩ := hxo t (List.mem_of_getElem? ht)
                    obtain ⟨ad, kk, cc, hts⟩ := htr.isSlice
                    have hon : t.2.1.oneCell' = true := by rw [hts]; rfl
                    refine wc_region ?_
                    refine wl rfl (OP.ev rfl rfl (eIxS ty83 ty97 rfl (hr.sel (by repeat (first|exact Sel.all|exact Sel.none|exact Sel.hd|(apply Sel.one; · repeat (first|exact Pick.h|apply Pick.t|apply Pick.app))|apply Sel.app|(with_reducible apply Sel.grp; · repeat (first|exact PickF.h|apply PickF.t|apply PickF.a))|(with_reducible refine Sel.nilF (by with_unfolding_all rfl) ?_)|apply Sel.drop|apply Sel.dropF))) rfl (by omega) (by omega)) ?_)
                    refine wl rfl (OP.ev rfl rfl (eLdSA (vs := [strK t.1, t.2.1]) ty97 rfl rfl (hr.sel (by repeat (first|exact Sel.all|exact Sel.none|exact Sel.hd|(apply Sel.one; · repeat (first|exact Pick.h|apply Pick.t|apply Pick.app))|apply Sel.app|(with_reducible apply Sel.grp; · repeat (first|exact PickF.h|apply PickF.t|apply PickF.a))|(with_reducible refine Sel.nilF (by with_unfolding_all rfl) ?_)|apply Sel.drop|apply Sel.dropF))) (i * 2) (by omega) rfl (fV_at ht) (by decide)) ?_)
                    refine wl rfl (oAl rfl ty97 rfl fun b7 => ?_)
                    refine wl rfl (oStW ty97 rfl rfl rfl (all2 rfl hon) (by repeat (first|exact Upd.h|apply Upd.t|apply Upd.app)) (by rfl) ?_)
                    refine wl_nil ?_
                    refine wc_seq ?_
                    have hread := read_ok b1 d hd t.1 D ((b7, .cells #[strK t.1, t.2.1] 97 (0, 0)) :: rkC b2 d Lv av kp tr :: (ownH av acs 92 ++ R)) (hD.sel hS)
                    rw [hrd] at hread
                    dsimp only at hread
                    refine wc_region ?_
                    refine wl rfl (OP.ev rfl rfl (eMv rfl) ?_)
                    refine wl rfl (OP.ev rfl rfl (eFld 0 ty97 rfl rfl ty9 rfl) ?_)
                    refine wl rfl (OP.ev rfl rfl (eLd ty9 rfl rfl (by repeat (first|exact Has.h|apply Has.t|apply Has.app)) (by rfl)) ?_)
                    refine wl rfl (oC rfl pf16 rfl hread (by repeat (first|exact Sel.all|exact Sel.none|exact Sel.hd|(apply Sel.one; · repeat (first|exact Pick.h|apply Pick.t|apply Pick.app))|apply Sel.app|(with_reducible apply Sel.grp; · repeat (first|exact PickF.h|apply PickF.t|apply PickF.a))|(with_reducible refine Sel.nilF (by with_unfolding_all rfl) ?_)|apply Sel.drop|apply Sel.dropF)) ?_)
                    rintro _ _ ⟨w53, cs53, rfl, hrow53, hB53, rfl⟩
                    refine wl rfl (OP.ev rfl rfl (eMv rfl) ?_)
                    refine wl rfl (OP.ev rfl rfl (eExt rfl rfl) ?_)
                    refine wl rfl (OP.ev rfl rfl (eExt rfl rfl) ?_)
                    refine wl rfl (OP.ev rfl rfl (eAs rfl) ?_)
                    refine wl rfl (OP.ev rfl rfl (eAs rfl) ?_)
                    refine wl_nil ?_
                    refine wc_seq ?_
                    refine wc_seq ?_
                    refine wc_region ?_
                    refine wl rfl (OP.ev rfl rfl (eMv rfl) ?_)
                    refine wl rfl (OP.evb rfl rfl (eNe rfl rfl) fun t57 h57 => ?_)
                    refine wl rfl (OP.ev rfl rfl (eMv rfl) ?_)
                    cases t57 with
                    | true =>
                      try have c_t57 := dt h57
                      first
                      | (exfalso; omega)
                      | (
                        refine wl_skip rfl rfl rfl rfl rfl ?_
                        refine wl_skip rfl rfl rfl rfl rfl ?_
                        refine wl_skip rfl rfl rfl rfl rfl ?_
                        refine wl_skip rfl rfl rfl rfl rfl ?_
                        refine wl_skip rfl rfl rfl rfl rfl ?_
                        refine wl rfl (OP.ev rfl rfl (ePk rfl rfl) ?_)
                        refine wl_nil ?_
                        refine wc_then rfl ?_
                        refine wc_seq ?_
                        refine wc_region ?_
                        refine wl rfl (OP.ev rfl rfl (eAs rfl) ?_)
                        refine wl_nil ?_
                        refine wc_ret ?_
                        apply at_ret rfl
                        · exact (.cons (.tmp rfl) .nil)
                        · first
                          | exact ⟨rfl, I3, hS, rfl⟩
                          | (exfalso; omega)
                          | (exfalso; simp at *; done)
                        · exact (by repeat (first|exact Sel.all|exact Sel.none|exact Sel.hd|(apply Sel.one; · repeat (first|exact Pick.h|apply Pick.t|apply Pick.app))|apply Sel.app|(with_reducible apply Sel.grp; · repeat (first|exact PickF.h|apply PickF.t|apply PickF.a))|(with_reducible refine Sel.nilF (by with_unfolding_all rfl) ?_)|apply Sel.drop|apply Sel.dropF)))
                    | false =>
                      try have c_t57 := df h57
                      first
                      | (exfalso; omega)
                      | (
                        refine wl_go rfl rfl (OP.ev rfl rfl (eMv rfl) ?_)
                        refine wl_go rfl rfl (OP.ev rfl rfl (eFld 1 ty97 rfl rfl ty30 rfl) ?_)
                        refine wl_go rfl rfl (OP.ev rfl rfl (eLd ty30 rfl rfl (by repeat (first|exact Has.h|apply Has.t|apply Has.app)) (by rfl)) ?_)
                        refine wl_go rfl rfl (oCA rfl pf19 rfl (beq_same w53 t.2.1 t.2.2 _ (hrow53.rs (by repeat (first|exact At.cell|exact At.h|apply At.t|apply At.a))) (htr.sel (by repeat (first|exact Sel.all|exact Sel.none|exact Sel.hd|(apply Sel.one; · repeat (first|exact Pick.h|apply Pick.t|apply Pick.app))|apply Sel.app|(with_reducible apply Sel.grp; · repeat (first|exact PickF.h|apply PickF.t|apply PickF.a))|(with_reducible refine Sel.nilF (by with_unfolding_all rfl) ?_)|apply Sel.drop|apply Sel.dropF))) htb) ?_)
                        rintro _ _ ⟨rfl, rfl⟩
                        refine wl_go rfl rfl (OP.evb rfl rfl (eNot rfl) fun t63 h63 => ?_)
                        refine wl rfl (OP.ev rfl rfl (ePk rfl rfl) ?_)
                        refine wl_nil ?_
                        cases t63 with
                        | true =>
                          try have c_t63 := dt h63
                          first
                          | (exfalso; omega)
                          | (
                            refine wc_then rfl ?_
                            refine wc_seq ?_
                            refine wc_region ?_
                            refine wl rfl (OP.ev rfl rfl (eAs rfl) ?_)
                            refine wl_nil ?_
                            refine wc_ret ?_
                            apply at_ret rfl
                            · exact (.cons (.tmp rfl) .nil)
                            · first
                              | exact ⟨rfl, I3, hS, rfl⟩
                              | (exfalso; omega)
                              | (exfalso; simp at *; done)
                            · exact (by repeat (first|exact Sel.all|exact Sel.none|exact Sel.hd|(apply Sel.one; · repeat (first|exact Pick.h|apply Pick.t|apply Pick.app))|apply Sel.app|(with_reducible apply Sel.grp; · repeat (first|exact PickF.h|apply PickF.t|apply PickF.a))|(with_reducible refine Sel.nilF (by with_unfolding_all rfl) ?_)|apply Sel.drop|apply Sel.dropF)))
                        | false =>
                          try have c_t63 := df h63
                          first
                          | (exfalso; omega)
                          | (
                            refine wc_else rfl ?_
                            refine wc_skip ?_
                            refine wc_seq ?_
                            refine wc_region ?_
                            refine wl rfl (OP.ev rfl rfl (eMv rfl) ?_)
                            refine wl rfl (oBSw (vs := [_]) rfl ty30 ty5 rfl rfl rfl rfl rfl rfl fun b66 => ?_)
                            refine wl rfl (oApp (m := 1) (news := [.int .u8 1]) rfl ty30 ty5 rfl rfl rfl hrow53 (by repeat (first|exact At.cell|exact At.h|apply At.t|apply At.a)) (Rs.mk (Rc.of_has (by repeat (first|exact Has.h|apply Has.t|apply Has.app)) rfl) rfl (Nat.le_refl _)) rfl (by omega) (by omega) ?_)
                            rintro v67 cs67 hrow67 _
                            obtain ⟨x67, hx67⟩ : ∃ x : Int, (byteV t.2.2 ++ [Value.int .u8 1])[0]? = some (.int .u8 x) := by
                              cases t.2.2 with
                              | nil => exact ⟨1, rfl⟩
                              | cons y r => exact ⟨y, rfl⟩
                            refine wl rfl (OP.ev rfl rfl (eAs rfl) ?_)
                            refine wl_nil ?_
                            refine wc_region ?_
                            refine wl rfl (OP.ev rfl rfl (eMv rfl) ?_)
                            refine wl rfl (OP.ev rfl rfl (eIxS ty30 ty5 rfl (hrow67.rs (by repeat (first|exact At.cell|exact At.h|apply At.t|apply At.a))) rfl (by omega) (by omega)) ?_)
                            refine wl rfl (OP.ev rfl rfl (eLdS (u := .int .u8 x67) ty5 rfl rfl (hrow67.rs (by repeat (first|exact At.cell|exact At.h|apply At.t|apply At.a))) 0 (by omega) hx67) ?_)
                            refine wl rfl (OP.ev rfl rfl (eXor8 rfl rfl) ?_)
                            refine wl rfl (OP.ev rfl rfl (eIxS ty30 ty5 rfl (hrow67.rs (by repeat (first|exact At.cell|exact At.h|apply At.t|apply At.a))) rfl (by omega) (by omega)) ?_)
                            refine wl rfl (oStRow ty5 rfl rfl rfl hrow67 0 (by omega) (by omega) (by repeat (first|exact At.cell|exact At.h|apply At.t|apply At.a)) ?_)
                            intro hrow72
                            refine wl_nil ?_
                            refine wc_region ?_
                            first | refine wl rfl (OP.ev rfl rfl (eAdd rfl rfl (by omega)) ?_) | refine wl rfl (OP.ev rfl rfl (eAddW rfl rfl) ?_)
                            refine wl rfl (OP.ev rfl rfl (eMv rfl) ?_)
                            refine wl_nil ?_
                            exact ⟨i + 1, by omega, by omega, ⟨rfl, rfl, rfl, rfl, rfl, trivial⟩, (by repeat (first|exact Sel.all|exact Sel.none|exact Sel.hd|(apply Sel.one; · repeat (first|exact Pick.h|apply Pick.t|apply Pick.app))|apply Sel.app|(with_reducible apply Sel.grp; · repeat (first|exact PickF.h|apply PickF.t|apply PickF.a))|(with_reducible refine Sel.nilF (by with_unfolding_all rfl) ?_)|apply Sel.drop|apply Sel.dropF))⟩)))
                | false =>
                  try have c_t46 := df h46
                  first
                  | (exfalso; omega)
                  | (
                    refine wc_else rfl ?_
                    refine wc_exit rfl ?_
                    refine wc_seq ?_
                    refine wc_region ?_
                    refine wl rfl (OP.ev rfl rfl (eAs rfl) ?_)
                    refine wl_nil ?_
                    refine wc_ret ?_
                    apply at_ret rfl
                    · exact (.cons (.tmp rfl) .nil)
                    · first
                      | exact ⟨rfl, I3, hS, rfl⟩
                      | (exfalso; omega)
                      | (exfalso; simp at *; done)
                    · exact (by repeat (first|exact Sel.all|exact Sel.none|exact Sel.hd|(apply Sel.one; · repeat (first|exact Pick.h|apply Pick.t|apply Pick.app))|apply Sel.app|(with_reducible apply Sel.grp; · repeat (first|exact PickF.h|apply PickF.t|apply PickF.a))|(with_reducible refine Sel.nilF (by with_unfolding_all rfl) ?_)|apply Sel.drop|apply Sel.dropF))))))
  · have hpe : d.pend = 0 := by unfold DK.pend; rw [ho]; rfl
    simp only [List.cons_append]
    refine fn_of Try.func38 rfl Try.ntmps38 rfl rfl ?_
    refine wc_seq ?_
    refine wc_region ?_
    refine wl rfl (OP.ev rfl rfl (eAs rfl) ?_)
    refine wl_nil ?_
    refine wc_seq ?_
    refine wc_region ?_
    refine wl rfl (OP.ev rfl rfl (eMv rfl) ?_)
    refine wl rfl (OP.ev rfl rfl (eNil rfl) ?_)
    refine wl rfl (OP.ev rfl rfl (eFld 2 ty86 rfl rfl ty84 rfl) ?_)
    refine wl rfl (OP.ev rfl rfl (eLd ty84 rfl rfl (by repeat (first|exact Has.h|apply Has.t|apply Has.app)) (by rfl)) ?_)
    refine wl rfl (OP.ev rfl rfl (eLenRow ty84 rfl hA.row) ?_)
    refine wl rfl (OP.ev rfl rfl (eAs rfl) ?_)
    refine wl_nil ?_
    refine wc_seq ?_
    refine wc_seq ?_
    refine wc_region ?_
    refine wl rfl (OP.ev rfl rfl (eMv rfl) ?_)
    refine wl rfl (OP.ev rfl rfl (eNil rfl) ?_)
    refine wl rfl (OP.ev rfl rfl (eFld 3 ty86 rfl rfl ty4 rfl) ?_)
    refine wl rfl (OP.ev rfl rfl (eLd (v := .bool true) ty4 rfl rfl (by repeat (first|exact Has.h|apply Has.t|apply Has.app)) (by show some (Value.bool d.off) = _; rw [ho])) ?_)
    refine wl_nil ?_
    refine wc_then rfl ?_
    refine wc_region ?_
    refine wl rfl (OP.ev rfl rfl (eAs rfl) ?_)
    refine wl_nil ?_
    refine wc_seq ?_
    refine wc_seq ?_
    refine wc_region ?_
    refine wl rfl (OP.ev rfl rfl (eMv rfl) ?_)
    refine wl rfl (oC rfl pf17 rfl (list_ok b1 d hd D _ hD) (by repeat (first|exact Sel.all|exact Sel.none|exact Sel.hd|(apply Sel.one; · repeat (first|exact Pick.h|apply Pick.t|apply Pick.app))|apply Sel.app|(with_reducible apply Sel.grp; · repeat (first|exact PickF.h|apply PickF.t|apply PickF.a))|(with_reducible refine Sel.nilF (by with_unfolding_all rfl) ?_)|apply Sel.drop|apply Sel.dropF)) ?_)
    rintro v20 _ ⟨cs20, hrow20, rfl⟩
    refine wl rfl (OP.ev rfl rfl (eMv rfl) ?_)
    refine wl rfl (oC rfl pf64 rfl (rlist_ok b2 d hd Lv av acs ax kp tr hF hA hn _) (by repeat (first|exact Sel.all|exact Sel.none|exact Sel.hd|(apply Sel.one; · repeat (first|exact Pick.h|apply Pick.t|apply Pick.app))|apply Sel.app|(with_reducible apply Sel.grp; · repeat (first|exact PickF.h|apply PickF.t|apply PickF.a))|(with_reducible refine Sel.nilF (by with_unfolding_all rfl) ?_)|apply Sel.drop|apply Sel.dropF)) ?_)
    rintro v22 _ ⟨cs22, I2, hI2, hrow22, rfl⟩
    refine wl rfl (oCA rfl pf63 rfl (equalS_same v20 v22 d.names _ (hrow20.rs (by repeat (first|exact At.cell|exact At.h|apply At.t|apply At.a))) (hrow22.rs (by repeat (first|exact At.cell|exact At.h|apply At.t|apply At.a))) (by omega)) ?_)
    rintro _ _ ⟨rfl, rfl⟩
    refine wl rfl (OP.evb rfl rfl (eNot rfl) fun t24 h24 => ?_)
    refine wl rfl (OP.ev rfl rfl (eMv rfl) ?_)
    cases t24 with
    | true =>
      try have c_t24 := dt h24
      first
      | (exfalso; omega)
      | (
        refine wl_skip rfl rfl rfl rfl rfl ?_
        refine wl_skip rfl rfl rfl rfl rfl ?_
        refine wl_skip rfl rfl rfl rfl rfl ?_
        refine wl_skip rfl rfl rfl rfl rfl ?_
        refine wl rfl (OP.ev rfl rfl (ePk rfl rfl) ?_)
        refine wl rfl (OP.ev rfl rfl (eMv rfl) ?_)
        refine wl_skip rfl rfl rfl rfl rfl ?_
        refine wl_skip rfl rfl rfl rfl rfl ?_
        refine wl_skip rfl rfl rfl rfl rfl ?_
        refine wl_skip rfl rfl rfl rfl rfl ?_
        refine wl_skip rfl rfl rfl rfl rfl ?_
        refine wl rfl (OP.ev rfl rfl (ePk rfl rfl) ?_)
        refine wl_nil ?_
        refine wc_then rfl ?_
        refine wc_seq ?_
        refine wc_region ?_
        refine wl rfl (OP.ev rfl rfl (eAs rfl) ?_)
        refine wl_nil ?_
        refine wc_ret ?_
        apply at_ret rfl
        · exact (.cons (.tmp rfl) .nil)
        · first
          | exact ⟨rfl, I2, hI2, rfl⟩
          | (exfalso; omega)
          | (exfalso; simp at *; done)
        · exact (by repeat (first|exact Sel.all|exact Sel.none|exact Sel.hd|(apply Sel.one; · repeat (first|exact Pick.h|apply Pick.t|apply Pick.app))|apply Sel.app|(with_reducible apply Sel.grp; · repeat (first|exact PickF.h|apply PickF.t|apply PickF.a))|(with_reducible refine Sel.nilF (by with_unfolding_all rfl) ?_)|apply Sel.drop|apply Sel.dropF)))
    | false =>
      try have c_t24 := df h24
      first
      | (exfalso; omega)
      | (
        refine wl_go rfl rfl (OP.ev rfl rfl (eMv rfl) ?_)
        refine wl_go rfl rfl (oC rfl pf24 rfl (pend_ok b1 d D _ (hD.sel hI2)) (by repeat (first|exact Sel.all|exact Sel.none|exact Sel.hd|(apply Sel.one; · repeat (first|exact Pick.h|apply Pick.t|apply Pick.app))|apply Sel.app|(with_reducible apply Sel.grp; · repeat (first|exact PickF.h|apply PickF.t|apply PickF.a))|(with_reducible refine Sel.nilF (by with_unfolding_all rfl) ?_)|apply Sel.drop|apply Sel.dropF)) ?_)
        rintro _ _ ⟨rfl, rfl⟩
        refine wl_go rfl rfl (OP.ev rfl rfl (eMv rfl) ?_)
        refine wl_go rfl rfl (OP.evb rfl rfl (eNe rfl rfl) fun t29 h29 => ?_)
        refine wl rfl (OP.ev rfl rfl (ePk rfl rfl) ?_)
        refine wl rfl (OP.ev rfl rfl (eMv rfl) ?_)
        cases t29 with
        | true =>
          try have c_t29 := dt h29
          first
          | (exfalso; omega)
          | (
            refine wl_skip rfl rfl rfl rfl rfl ?_
            refine wl_skip rfl rfl rfl rfl rfl ?_
            refine wl_skip rfl rfl rfl rfl rfl ?_
            refine wl_skip rfl rfl rfl rfl rfl ?_
            refine wl_skip rfl rfl rfl rfl rfl ?_
            refine wl rfl (OP.ev rfl rfl (ePk rfl rfl) ?_)
            refine wl_nil ?_
            refine wc_then rfl ?_
            refine wc_seq ?_
            refine wc_region ?_
            refine wl rfl (OP.ev rfl rfl (eAs rfl) ?_)
            refine wl_nil ?_
            refine wc_ret ?_
            apply at_ret rfl
            · exact (.cons (.tmp rfl) .nil)
            · first
              | exact ⟨rfl, I2, hI2, rfl⟩
              | (exfalso; omega)
              | (exfalso; simp at *; done)
            · exact (by repeat (first|exact Sel.all|exact Sel.none|exact Sel.hd|(apply Sel.one; · repeat (first|exact Pick.h|apply Pick.t|apply Pick.app))|apply Sel.app|(with_reducible apply Sel.grp; · repeat (first|exact PickF.h|apply PickF.t|apply PickF.a))|(with_reducible refine Sel.nilF (by with_unfolding_all rfl) ?_)|apply Sel.drop|apply Sel.dropF)))
        | false =>
          try have c_t29 := df h29
          first
          | (exfalso; omega)
          | (
            refine wl_go rfl rfl (OP.ev rfl rfl (eMv rfl) ?_)
            refine wl_go rfl rfl (oC rfl pf25 rfl (used_ok b1 d hd D _ (hD.sel hI2) hn) (by repeat (first|exact Sel.all|exact Sel.none|exact Sel.hd|(apply Sel.one; · repeat (first|exact Pick.h|apply Pick.t|apply Pick.app))|apply Sel.app|(with_reducible apply Sel.grp; · repeat (first|exact PickF.h|apply PickF.t|apply PickF.a))|(with_reducible refine Sel.nilF (by with_unfolding_all rfl) ?_)|apply Sel.drop|apply Sel.dropF)) ?_)
            rintro _ _ ⟨rfl, rfl⟩
            refine wl_go rfl rfl (OP.ev rfl rfl (eMv rfl) ?_)
            refine wl_go rfl rfl (oC rfl pf62 rfl (rused_ok b2 d hd Lv av acs ax kp tr (hF.sel hI2) (hA.sel hI2) hn _) (by repeat (first|exact Sel.all|exact Sel.none|exact Sel.hd|(apply Sel.one; · repeat (first|exact Pick.h|apply Pick.t|apply Pick.app))|apply Sel.app|(with_reducible apply Sel.grp; · repeat (first|exact PickF.h|apply PickF.t|apply PickF.a))|(with_reducible refine Sel.nilF (by with_unfolding_all rfl) ?_)|apply Sel.drop|apply Sel.dropF)) ?_)
            rintro _ _ ⟨rfl, rfl⟩
            refine wl_go rfl rfl (OP.evb rfl rfl (eNe rfl rfl) fun t36 h36 => ?_)
            refine wl rfl (OP.ev rfl rfl (ePk rfl rfl) ?_)
            refine wl_nil ?_
            cases t36 with
            | true =>
              try have c_t36 := dt h36
              first
              | (exfalso; omega)
              | (
                refine wc_then rfl ?_
                refine wc_seq ?_
                refine wc_region ?_
                refine wl rfl (OP.ev rfl rfl (eAs rfl) ?_)
                refine wl_nil ?_
                refine wc_ret ?_
                apply at_ret rfl
                · exact (.cons (.tmp rfl) .nil)
                · first
                  | exact ⟨rfl, I2, hI2, rfl⟩
                  | (exfalso; omega)
                  | (exfalso; simp at *; done)
                · exact (by repeat (first|exact Sel.all|exact Sel.none|exact Sel.hd|(apply Sel.one; · repeat (first|exact Pick.h|apply Pick.t|apply Pick.app))|apply Sel.app|(with_reducible apply Sel.grp; · repeat (first|exact PickF.h|apply PickF.t|apply PickF.a))|(with_reducible refine Sel.nilF (by with_unfolding_all rfl) ?_)|apply Sel.drop|apply Sel.dropF)))
            | false =>
              try have c_t36 := df h36
              first
              | (exfalso; omega)
              | (
                refine wc_else rfl ?_
                refine wc_skip ?_
                refine wc_seq ?_
                refine wc_seq ?_
                refine wc_region ?_
                refine wl rfl (OP.ev rfl rfl (eMv rfl) ?_)
                refine wl rfl (OP.ev rfl rfl (eNil rfl) ?_)
                refine wl rfl (OP.ev rfl rfl (eFld 3 ty86 rfl rfl ty4 rfl) ?_)
                refine wl rfl (OP.ev rfl rfl (eLd (v := .bool true) ty4 rfl rfl (by repeat (first|exact Has.h|apply Has.t|apply Has.app)) (by show some (Value.bool d.off) = _; rw [ho])) ?_)
                refine wl_nil ?_
                refine wc_then rfl ?_
                refine wc_seq ?_
                refine wc_region ?_
                refine wl rfl (OP.ev rfl rfl (eAs rfl) ?_)
                refine wl_nil ?_
                refine wc_ret ?_
                apply at_ret rfl
                · exact (.cons (.tmp rfl) .nil)
                · first
                  | exact ⟨rfl, I2, hI2, rfl⟩
                  | (exfalso; omega)
                  | (exfalso; simp at *; done)
                · exact (by repeat (first|exact Sel.all|exact Sel.none|exact Sel.hd|(apply Sel.one; · repeat (first|exact Pick.h|apply Pick.t|apply Pick.app))|apply Sel.app|(with_reducible apply Sel.grp; · repeat (first|exact PickF.h|apply PickF.t|apply PickF.a))|(with_reducible refine Sel.nilF (by with_unfolding_all rfl) ?_)|apply Sel.drop|apply Sel.dropF)))))
end Go.Proofs.Ytahjgjmemijofaa
