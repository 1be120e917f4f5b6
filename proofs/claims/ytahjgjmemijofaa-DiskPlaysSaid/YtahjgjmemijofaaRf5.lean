/- The reference's disk: fall, an act. No statement of the seat is proved here. -/
import Derived.Test.YtahjgjmemijofaaRf4
namespace Go.Proofs.Ytahjgjmemijofaa
open Go Eng
set_option linter.unusedVariables false
set_option linter.unusedSimpArgs false
set_option maxRecDepth 4000
variable {W0 : World} {I I' : Heap}

def RPut (W0 : World) (I R : Heap) (b : Nat) (d' : DK) (v0 : Value) (v : Value) (L' : Heap) : Prop :=
  v = v0 ∧ ∃ D' I', Sel I' I ∧ RefR W0 I' d' b D' ∧ L' = D' ++ (I' ++ R)
theorem torn_same {a : Act} {t : Int} (h : a.B = [] ∨ t ≤ 0) : torn a t = a := by
  rcases h with h | h
  · show ({ a with B := a.B.take _ } : Act) = a
    rw [h, List.take_nil]
    cases a; simp at h; subst h; rfl
  · have : clamp t a.B.length = 0 := by unfold clamp; omega
    unfold torn
    rw [this, Nat.sub_zero, List.take_of_length_le (Nat.le_refl _)]
theorem torn_rs2 {v : Value} {a : Act} {t j : Int} (hv : Rs W0 I v 1 a.B.length (byteV a.B)) (ht : 0 < t) (hl : a.B.length ≤ 16777216) (hj : j = max 0 ((a.B.length : Int) - min t 1073741824)) : Rs W0 I (slH v j) 1 (torn a t).B.length (byteV (torn a t).B) := by
  have h1 := slH_rs hv (j := j) (by omega) (by omega)
  have h2 : j.toNat = a.B.length - clamp t a.B.length := by unfold clamp; omega
  have h3 : (torn a t).B.length = j.toNat := by show (a.B.take _).length = _; rw [List.length_take]; omega
  rw [h3]
  rw [byteV_take, h2] at h1
  rw [h2]
  exact h1

set_option maxHeartbeats 1000000 in
theorem rfall_ok (b : Nat) (d : DK) (hd : DOk d) (keep tear : Int) (hk : I64 keep) (ht : I64 tear) (D R : Heap) (hD : RefR W0 I d b D) (hn : d.acts.length ≤ 1000000) :
    FnC W0 Try.prog 61 #[ptr b, i64 keep, i64 tear] (D ++ (I ++ R)) (RPut W0 I R b (d.fall keep tear) (.tuple #[])) := by
  obtain ⟨Lv, av, acs, ax, kp, tr, rfl, hF, hA, hkt, hk64, ht64⟩ := hD
  have hal := hA.len
  obtain ⟨hk1, hk2⟩ := hk
  have hN : (clamp keep d.acts.length : Int) = max 0 (min keep (ax.length : Int)) := by unfold clamp; omega
  have hNl := clamp_le keep d.acts.length
  have hfell : d.fell keep tear = fallF d.last d.acts (clamp keep d.acts.length) tear := rfl
  generalize clamp keep d.acts.length = N at hN hNl hfell
  simp only [List.cons_append]
  refine fn_of Try.func61 rfl Try.ntmps61 rfl rfl ?_
  refine wc_seq ?_
  refine wc_seq ?_
  refine wc_region ?_
  refine wl rfl (OP.ev rfl rfl (eMv rfl) ?_)
  refine wl rfl (OP.ev rfl rfl (eNil rfl) ?_)
  refine wl rfl (OP.ev rfl rfl (eFld 2 ty86 rfl rfl ty84 rfl) ?_)
  first | refine wl rfl (OP.ev rfl rfl (eLd ty84 rfl rfl (by repeat (first | exact Has.h | apply Has.t | apply Has.app)) (by rfl)) ?_) | refine wl rfl (OP.ev rfl rfl (eLdO ty84 rfl rfl (by assumption)) ?_)
  refine wl rfl (OP.ev rfl rfl (eLenRow ty84 rfl hA.row) ?_)
  refine wl rfl (OP.ev rfl rfl (eMv rfl) ?_)
  refine wl_nil ?_
  refine wc_block ?_
  refine wc_loop (σ := Nat × Value × Heap) (fun q => [(0, ptr b), (1, i64 keep), (2, i64 tear), (11, av), (12, i64 (ax.length : Int)), (13, i64 (q.1 : Int))]) (fun q => rkC b d q.2.1 av kp tr :: (ownH av acs 92 ++ (q.2.2 ++ R))) (fun q => q.1 ≤ N ∧ Sel q.2.2 I ∧ FilesV W0 q.2.2 q.2.1 (curF d.last d.acts N tear q.1)) (fun q => ax.length - q.1) (0, Lv, I) ⟨Nat.zero_le _, Sel.all, by show FilesV _ _ _ (curF _ _ _ _ 0); rw [curF_zero]; exact hF⟩ ⟨rfl, rfl, rfl, rfl, rfl, rfl, trivial⟩ (by repeat (first | exact Sel.all | exact Sel.none | exact Sel.hd | (apply Sel.one; · repeat (first | exact Pick.h | apply Pick.t | apply Pick.app)) | apply Sel.app | (with_reducible apply Sel.grp; · repeat (first | exact PickF.h | apply PickF.t | apply PickF.a)) | (with_reducible refine Sel.nilF (by with_unfolding_all rfl) ?_) | apply Sel.drop | apply Sel.dropF)) ?_
  rintro ⟨i, v, I2⟩ ⟨hi, hI2, hFv⟩
  dsimp only at hi hI2 hFv ⊢
  refine wc_seq ?_
  refine wc_region ?_
  refine wl rfl (OP.evb rfl rfl (eLt rfl rfl) fun t14 h14 => ?_)
  refine wl_nil ?_
  refine wc_seq ?_
  cases t14 with
  | true =>
    try have c_t14 := dt h14
    first
    | (exfalso; omega)
    | (
      refine wc_then rfl ?_
      refine wc_skip ?_
      refine wc_seq ?_
      refine wc_block ?_
      refine wc_seq ?_
      obtain ⟨t, htt⟩ : ∃ t, ax[i]? = some t := ⟨_, List.getElem?_eq_getElem (by omega)⟩
      have hat := hA.at htt
      have hon := hA.one htt
      obtain ⟨htr, htb⟩ := hA.ok t (List.mem_of_getElem? htt)
      have hlen := hd.act_len (List.mem_of_getElem? hat)
      have hcan := hd.runs.at hat
      have htot : total ((d.acts.take i).foldl fdo d.last) ≤ 16777216 := by
        have h1 := (hd.runs.take i).total hd.rl
        have h2 := costs_take d.acts i
        have h3 := hd.use
        have h4 := hd.room
        omega
      have hnum := (hd.runs.take i).num hd.num
      have hris := (hd.runs.take i).rising hd.rl
      have hgl := fgetD_le hris t.2.name
      refine wc_region ?_
      refine wl rfl (OP.ev rfl rfl (eMv rfl) ?_)
      refine wl rfl (OP.ev rfl rfl (eIxS ty84 ty92 rfl (hA.row.rs (by repeat (first | exact At.cell | exact At.h | apply At.t | apply At.a))) rfl (by omega) (by omega)) ?_)
      refine wl rfl (OP.ev rfl rfl (eLdSA (vs := [i64 t.2.kind, strK t.2.name, strK t.2.to_, i64 t.2.at_, t.1]) ty92 rfl rfl (hA.row.rs (by repeat (first | exact At.cell | exact At.h | apply At.t | apply At.a))) (i * 5) (by omega) rfl (aV_at htt) (by decide)) ?_)
      refine wl rfl (oAl rfl ty92 rfl fun b7 => ?_)
      refine wl rfl (OP.ev rfl rfl (eAs rfl) ?_)
      refine wl rfl (oStW ty92 rfl rfl rfl (aC_one hon) (by repeat (first | exact Upd.h | apply Upd.t | apply Upd.app)) (by rfl) ?_)
      refine wl_nil ?_
      refine wc_seq ?_
      refine wc_seq ?_
      refine wc_region ?_
      refine wl rfl (OP.ev rfl rfl (eMv rfl) ?_)
      refine wl rfl (OP.ev rfl rfl (eMv rfl) ?_)
      refine wl rfl (OP.evb rfl rfl (eGe rfl rfl) fun t20 h20 => ?_)
      refine wl_nil ?_
      cases t20 with
      | true =>
        try have c_t20 := dt h20
        first
        | (exfalso; omega)
        | (
          refine wc_then rfl ?_
          refine wc_exit rfl ?_
          refine wc_seq ?_
          obtain rfl : i = N := by omega
          rw [curF_end, ← hfell] at hFv
          refine wc_region ?_
          refine wl rfl (OP.ev rfl rfl (eMv rfl) ?_)
          refine wl rfl (OP.ev rfl rfl (eNil rfl) ?_)
          refine wl rfl (OP.ev rfl rfl (eFld 2 ty86 rfl rfl ty84 rfl) ?_)
          refine wl rfl (oSt ty84 rfl rfl rfl rfl (by repeat (first | exact Upd.h | apply Upd.t | apply Upd.app)) (by first | decide | simp) (by rfl) ?_)
          refine wl_nil ?_
          refine wc_seq ?_
          refine wc_region ?_
          refine wl rfl (OP.ev rfl rfl (eMv rfl) ?_)
          refine wl rfl (OP.ev rfl rfl (eNil rfl) ?_)
          refine wl rfl (OP.ev rfl rfl (eFld 3 ty86 rfl rfl ty4 rfl) ?_)
          refine wl rfl (oSt ty4 rfl rfl rfl rfl (by repeat (first | exact Upd.h | apply Upd.t | apply Upd.app)) (by first | decide | simp) (by rfl) ?_)
          refine wl_nil ?_
          refine wc_region ?_
          refine wl rfl (OP.ev rfl rfl (eMv rfl) ?_)
          refine wl rfl (OP.ev rfl rfl (eNil rfl) ?_)
          refine wl rfl (OP.ev rfl rfl (eFld 4 ty86 rfl rfl ty3 rfl) ?_)
          refine wl rfl (oSt ty3 rfl rfl rfl rfl (by repeat (first | exact Upd.h | apply Upd.t | apply Upd.app)) (by first | decide | simp) (by rfl) ?_)
          refine wl_nil ?_
          apply at_ret rfl
          · exact .nil
          · exact ⟨rfl, rkC b (d.fall keep tear) v (.slice none 0 0) kp tr :: ownH (.slice none 0 0) #[] 92, I2, hI2, ⟨v, .slice none 0 0, #[], [], kp, tr, rfl, hFv, RActs.nil, fun h => absurd rfl h, hk64, ht64⟩, rfl⟩
          · exact (by repeat (first | exact Sel.all | exact Sel.none | exact Sel.hd | (apply Sel.one; · repeat (first | exact Pick.h | apply Pick.t | apply Pick.app)) | apply Sel.app | (with_reducible apply Sel.grp; · repeat (first | exact PickF.h | apply PickF.t | apply PickF.a)) | (with_reducible refine Sel.nilF (by with_unfolding_all rfl) ?_) | apply Sel.drop | apply Sel.dropF)))
      | false =>
        try have c_t20 := df h20
        first
        | (exfalso; omega)
        | (
          refine wc_else rfl ?_
          refine wc_skip ?_
          refine wc_seq ?_
          refine wc_seq ?_
          have hFv2 : FilesV W0 I2 v ((d.acts.take i).foldl fdo d.last) := by rw [← curF_lt (t := tear) (show i < N by omega)]; exact hFv
          refine wc_region ?_
          refine wl rfl (OP.ev rfl rfl (eFld 0 ty92 rfl rfl ty3 rfl) ?_)
          first | refine wl rfl (OP.ev rfl rfl (eLd ty3 rfl rfl (by repeat (first | exact Has.h | apply Has.t | apply Has.app)) (by rfl)) ?_) | refine wl rfl (OP.ev rfl rfl (eLdO ty3 rfl rfl (by assumption)) ?_)
          refine wl rfl (OP.evb rfl rfl (eEq rfl rfl) fun t23 h23 => ?_)
          refine wl rfl (OP.ev rfl rfl (eMv rfl) ?_)
          cases t23 with
          | true =>
            try have c_t23 := dt h23
            first
            | (exfalso; omega)
            | (
              refine wl_go rfl rfl (OP.ev rfl rfl (eMv rfl) ?_)
              refine wl_go rfl rfl (OP.ev rfl rfl (eMv rfl) ?_)
              first | refine wl_go rfl rfl (OP.ev rfl rfl (eSub rfl rfl (by omega)) ?_) | refine wl_go rfl rfl (OP.ev rfl rfl (eSubW rfl rfl) ?_)
              refine wl_go rfl rfl (OP.evb rfl rfl (eEq rfl rfl) fun t28 h28 => ?_)
              refine wl_go rfl rfl (OP.ev rfl rfl (eMv rfl) ?_)
              cases t28 with
              | true =>
                try have c_t28 := dt h28
                first
                | (exfalso; omega)
                | (
                  refine wl_skip rfl rfl rfl rfl rfl ?_
                  refine wl_skip rfl rfl rfl rfl rfl ?_
                  refine wl_skip rfl rfl rfl rfl rfl ?_
                  refine wl_skip rfl rfl rfl rfl rfl ?_
                  refine wl_skip rfl rfl rfl rfl rfl ?_
                  refine wl_skip rfl rfl rfl rfl rfl ?_
                  refine wl_skip rfl rfl rfl rfl rfl ?_
                  refine wl_skip rfl rfl rfl rfl rfl ?_
                  refine wl_go rfl rfl (OP.ev rfl rfl (ePk rfl rfl) ?_)
                  refine wl rfl (OP.ev rfl rfl (ePk rfl rfl) ?_)
                  refine wl rfl (OP.ev rfl rfl (eMv rfl) ?_)
                  refine wl_go rfl rfl (OP.ev rfl rfl (eMv rfl) ?_)
                  refine wl_go rfl rfl (OP.evb rfl rfl (eGt rfl rfl) fun t42 h42 => ?_)
                  refine wl rfl (OP.ev rfl rfl (ePk rfl rfl) ?_)
                  refine wl_nil ?_
                  cases t42 with
                  | true =>
                    try have c_t42 := dt h42
                    first
                    | (exfalso; omega)
                    | (
                      refine wc_then rfl ?_
                      refine wc_region ?_
                      refine wl rfl (OP.ev rfl rfl (eFld 4 ty92 rfl rfl ty30 rfl) ?_)
                      first | refine wl rfl (OP.ev rfl rfl (eLd ty30 rfl rfl (by repeat (first | exact Has.h | apply Has.t | apply Has.app)) (by rfl)) ?_) | refine wl rfl (OP.ev rfl rfl (eLdO ty30 rfl rfl (by assumption)) ?_)
                      refine wl rfl (OP.ev rfl rfl (eFld 4 ty92 rfl rfl ty30 rfl) ?_)
                      first | refine wl rfl (OP.ev rfl rfl (eLd ty30 rfl rfl (by repeat (first | exact Has.h | apply Has.t | apply Has.app)) (by rfl)) ?_) | refine wl rfl (OP.ev rfl rfl (eLdO ty30 rfl rfl (by assumption)) ?_)
                      refine wl rfl (OP.ev rfl rfl (eLenR ty30 rfl ((htr.sel hI2).sel (by repeat (first | exact Sel.all | exact Sel.none | exact Sel.hd | (apply Sel.one; · repeat (first | exact Pick.h | apply Pick.t | apply Pick.app)) | apply Sel.app | (with_reducible apply Sel.grp; · repeat (first | exact PickF.h | apply PickF.t | apply PickF.a)) | (with_reducible refine Sel.nilF (by with_unfolding_all rfl) ?_) | apply Sel.drop | apply Sel.dropF)))) ?_)
                      refine wl rfl (OP.ev rfl rfl (eMv rfl) ?_)
                      refine wl rfl (OP.ev rfl rfl (eMin rfl rfl) ?_)
                      first | refine wl rfl (OP.ev rfl rfl (eSub rfl rfl (by omega)) ?_) | refine wl rfl (OP.ev rfl rfl (eSubW rfl rfl) ?_)
                      refine wl rfl (OP.ev rfl rfl (eMax rfl rfl) ?_)
                      refine wl rfl (oSlH rfl ty30 ty5 rfl ((htr.sel hI2).sel (by repeat (first | exact Sel.all | exact Sel.none | exact Sel.hd | (apply Sel.one; · repeat (first | exact Pick.h | apply Pick.t | apply Pick.app)) | apply Sel.app | (with_reducible apply Sel.grp; · repeat (first | exact PickF.h | apply PickF.t | apply PickF.a)) | (with_reducible refine Sel.nilF (by with_unfolding_all rfl) ?_) | apply Sel.drop | apply Sel.dropF))) rfl (by omega) (by omega) ?_)
                      intro _
                      have hdt := torn_rs2 (t := tear) (htr.sel hI2) (by omega) hlen rfl
                      obtain ⟨ad5, k5, c5, hs5⟩ := hdt.isSlice
                      have hon5 := congrArg Value.oneCell' hs5
                      refine wl rfl (OP.ev rfl rfl (eFld 4 ty92 rfl rfl ty30 rfl) ?_)
                      refine wl rfl (oSt (o' := .cells #[i64 t.2.kind, strK t.2.name, strK t.2.to_, i64 t.2.at_, slH t.1 (max 0 ((t.2.B.length : Int) - min tear 1073741824))] 92 (0, 0)) ty30 rfl rfl hon5 rfl (by repeat (first | exact Upd.h | apply Upd.t | apply Upd.app)) (by simp) (by rfl) ?_)
                      refine wl_nil ?_
                      refine wc_draw [] rfl ?_
                      refine wa_take 0 (by kernel_rfl) rfl rfl rfl rfl (by repeat (first | exact Sel.all | exact Sel.none | exact Sel.hd | (apply Sel.one; · repeat (first | exact Pick.h | apply Pick.t | apply Pick.app)) | apply Sel.app | (with_reducible apply Sel.grp; · repeat (first | exact PickF.h | apply PickF.t | apply PickF.a)) | (with_reducible refine Sel.nilF (by with_unfolding_all rfl) ?_) | apply Sel.drop | apply Sel.dropF)) (eMv rfl) ?_
                      refine wa_take 1 (by kernel_rfl) rfl rfl rfl rfl (by repeat (first | exact Sel.all | exact Sel.none | exact Sel.hd | (apply Sel.one; · repeat (first | exact Pick.h | apply Pick.t | apply Pick.app)) | apply Sel.app | (with_reducible apply Sel.grp; · repeat (first | exact PickF.h | apply PickF.t | apply PickF.a)) | (with_reducible refine Sel.nilF (by with_unfolding_all rfl) ?_) | apply Sel.drop | apply Sel.dropF)) (eMv rfl) ?_
                      refine wa_take 2 (by kernel_rfl) rfl rfl rfl rfl (by repeat (first | exact Sel.all | exact Sel.none | exact Sel.hd | (apply Sel.one; · repeat (first | exact Pick.h | apply Pick.t | apply Pick.app)) | apply Sel.app | (with_reducible apply Sel.grp; · repeat (first | exact PickF.h | apply PickF.t | apply PickF.a)) | (with_reducible refine Sel.nilF (by with_unfolding_all rfl) ?_) | apply Sel.drop | apply Sel.dropF)) (eNil rfl) ?_
                      refine wa_take 3 (by kernel_rfl) rfl rfl rfl rfl (by repeat (first | exact Sel.all | exact Sel.none | exact Sel.hd | (apply Sel.one; · repeat (first | exact Pick.h | apply Pick.t | apply Pick.app)) | apply Sel.app | (with_reducible apply Sel.grp; · repeat (first | exact PickF.h | apply PickF.t | apply PickF.a)) | (with_reducible refine Sel.nilF (by with_unfolding_all rfl) ?_) | apply Sel.drop | apply Sel.dropF)) (eFld 1 ty86 rfl rfl ty83 rfl) ?_
                      refine wa_all [4, 5] (by kernel_rfl) rfl ⟨⟨_, rfl, .inl rfl, ?_⟩, ⟨_, rfl, .inl rfl, ?_⟩, trivial⟩
                      · skip
                        refine OP.ev rfl rfl (eLd ty83 rfl rfl (by repeat (first | exact Has.h | apply Has.t | apply Has.app)) (by rfl)) ?_
                        refine ⟨(by repeat (first | exact Sel.all | exact Sel.none | exact Sel.hd | (apply Sel.one; · repeat (first | exact Pick.h | apply Pick.t | apply Pick.app)) | apply Sel.app | (with_reducible apply Sel.grp; · repeat (first | exact PickF.h | apply PickF.t | apply PickF.a)) | (with_reducible refine Sel.nilF (by with_unfolding_all rfl) ?_) | apply Sel.drop | apply Sel.dropF)), ?_⟩
                        refine wa_all [5] (by kernel_rfl) rfl (wall_one 5 rfl rfl ?_ trivial)
                        refine OP.ev rfl rfl (eLdW ty92 rfl rfl (by repeat (first | exact Has.h | apply Has.t | apply Has.app)) (by rfl)) ?_
                        refine ⟨(by repeat (first | exact Sel.all | exact Sel.none | exact Sel.hd | (apply Sel.one; · repeat (first | exact Pick.h | apply Pick.t | apply Pick.app)) | apply Sel.app | (with_reducible apply Sel.grp; · repeat (first | exact PickF.h | apply PickF.t | apply PickF.a)) | (with_reducible refine Sel.nilF (by with_unfolding_all rfl) ?_) | apply Sel.drop | apply Sel.dropF)), ?_⟩
                        refine wa_all [6] (by kernel_rfl) rfl (wall_one 6 rfl rfl ?_ trivial)
                        first
                        | (have hg9 := hdt
                           refine oC rfl pf73 rfl (do73_ok v _ (torn t.2 tear) (slH t.1 (max 0 ((t.2.B.length : Int) - min tear 1073741824))) _ hFv2 hdt (isB_take htb _) (by omega) (hcan.torn hris tear) (Nat.le_trans (by show (t.2.B.take _).length ≤ t.2.B.length; rw [List.length_take]; omega) hlen) (by show (fgetD _ t.2.name).length ≤ _; omega)) (by repeat (first | exact Sel.all | exact Sel.none | exact Sel.hd | (apply Sel.one; · repeat (first | exact Pick.h | apply Pick.t | apply Pick.app)) | apply Sel.app | (with_reducible apply Sel.grp; · repeat (first | exact PickF.h | apply PickF.t | apply PickF.a)) | (with_reducible refine Sel.nilF (by with_unfolding_all rfl) ?_) | apply Sel.drop | apply Sel.dropF)) ?_
                           rintro v61 _ ⟨I3, hI3, hF3, rfl⟩
                           have hF4 : FilesV W0 I3 v61 (curF d.last d.acts N tear (i + 1)) := by rw [curF_last (by omega) hat]; exact hF3)
                        | (refine oC rfl pf73 rfl (do73_ok v _ t.2 t.1 _ hFv2 (htr.sel hI2) htb (by omega) hcan hlen (by omega)) (by repeat (first | exact Sel.all | exact Sel.none | exact Sel.hd | (apply Sel.one; · repeat (first | exact Pick.h | apply Pick.t | apply Pick.app)) | apply Sel.app | (with_reducible apply Sel.grp; · repeat (first | exact PickF.h | apply PickF.t | apply PickF.a)) | (with_reducible refine Sel.nilF (by with_unfolding_all rfl) ?_) | apply Sel.drop | apply Sel.dropF)) ?_
                           rintro v61 _ ⟨I3, hI3, hF3, rfl⟩
                           have hF4 : FilesV W0 I3 v61 (curF d.last d.acts N tear (i + 1)) := by
                             by_cases hlast : i + 1 = N
                             · have hts : t.2.B = [] ∨ tear ≤ 0 := by first | (right; omega) | (left; exact hcan.nil (by omega))
                               rw [curF_last hlast hat, torn_same hts]
                               exact hF3
                             · rw [curF_mid (by omega) hat]
                               exact hF3)
                        refine ⟨(by repeat (first | exact Sel.all | exact Sel.none | exact Sel.hd | (apply Sel.one; · repeat (first | exact Pick.h | apply Pick.t | apply Pick.app)) | apply Sel.app | (with_reducible apply Sel.grp; · repeat (first | exact PickF.h | apply PickF.t | apply PickF.a)) | (with_reducible refine Sel.nilF (by with_unfolding_all rfl) ?_) | apply Sel.drop | apply Sel.dropF)), ?_⟩
                        refine wa_take 7 (by kernel_rfl) rfl rfl rfl rfl (by repeat (first | exact Sel.all | exact Sel.none | exact Sel.hd | (apply Sel.one; · repeat (first | exact Pick.h | apply Pick.t | apply Pick.app)) | apply Sel.app | (with_reducible apply Sel.grp; · repeat (first | exact PickF.h | apply PickF.t | apply PickF.a)) | (with_reducible refine Sel.nilF (by with_unfolding_all rfl) ?_) | apply Sel.drop | apply Sel.dropF)) (eNil rfl) ?_
                        refine wa_take 8 (by kernel_rfl) rfl rfl rfl rfl (by repeat (first | exact Sel.all | exact Sel.none | exact Sel.hd | (apply Sel.one; · repeat (first | exact Pick.h | apply Pick.t | apply Pick.app)) | apply Sel.app | (with_reducible apply Sel.grp; · repeat (first | exact PickF.h | apply PickF.t | apply PickF.a)) | (with_reducible refine Sel.nilF (by with_unfolding_all rfl) ?_) | apply Sel.drop | apply Sel.dropF)) (eFld 1 ty86 rfl rfl ty83 rfl) ?_
                        refine wa_all [9] (by kernel_rfl) rfl (wall_one 9 rfl rfl ?_ trivial)
                        have hF5 := hF4
                        obtain ⟨xs9, hr9, _⟩ := hF5
                        obtain ⟨ad9, k9, c9, hs9⟩ := hr9.isSlice
                        have hon9 := congrArg Value.oneCell' hs9
                        refine oSt ty83 rfl rfl hon9 rfl (by repeat (first | exact Upd.h | apply Upd.t | apply Upd.app)) (by first | decide | simp) (by rfl) ?_
                        refine ⟨(by repeat (first | exact Sel.all | exact Sel.none | exact Sel.hd | (apply Sel.one; · repeat (first | exact Pick.h | apply Pick.t | apply Pick.app)) | apply Sel.app | (with_reducible apply Sel.grp; · repeat (first | exact PickF.h | apply PickF.t | apply PickF.a)) | (with_reducible refine Sel.nilF (by with_unfolding_all rfl) ?_) | apply Sel.drop | apply Sel.dropF)), ?_⟩
                        refine wa_nil (by kernel_rfl) ?_
                        refine wc_region ?_
                        first | refine wl rfl (OP.ev rfl rfl (eAdd rfl rfl (by omega)) ?_) | refine wl rfl (OP.ev rfl rfl (eAddW rfl rfl) ?_)
                        refine wl rfl (OP.ev rfl rfl (eMv rfl) ?_)
                        refine wl_nil ?_
                        exact ⟨(i + 1, v61, I3), ⟨by show i + 1 ≤ N; omega, hI3.trans hI2, hF4⟩, by show _ - (i + 1) < _; omega, ⟨rfl, rfl, rfl, rfl, rfl, rfl, trivial⟩, (by repeat (first | exact Sel.all | exact Sel.none | exact Sel.hd | (apply Sel.one; · repeat (first | exact Pick.h | apply Pick.t | apply Pick.app)) | apply Sel.app | (with_reducible apply Sel.grp; · repeat (first | exact PickF.h | apply PickF.t | apply PickF.a)) | (with_reducible refine Sel.nilF (by with_unfolding_all rfl) ?_) | apply Sel.drop | apply Sel.dropF))⟩
                      · skip
                        refine OP.ev rfl rfl (eLdW ty92 rfl rfl (by repeat (first | exact Has.h | apply Has.t | apply Has.app)) (by rfl)) ?_
                        refine ⟨(by repeat (first | exact Sel.all | exact Sel.none | exact Sel.hd | (apply Sel.one; · repeat (first | exact Pick.h | apply Pick.t | apply Pick.app)) | apply Sel.app | (with_reducible apply Sel.grp; · repeat (first | exact PickF.h | apply PickF.t | apply PickF.a)) | (with_reducible refine Sel.nilF (by with_unfolding_all rfl) ?_) | apply Sel.drop | apply Sel.dropF)), ?_⟩
                        refine wa_all [4] (by kernel_rfl) rfl (wall_one 4 rfl rfl ?_ trivial)
                        refine OP.ev rfl rfl (eLd ty83 rfl rfl (by repeat (first | exact Has.h | apply Has.t | apply Has.app)) (by rfl)) ?_
                        refine ⟨(by repeat (first | exact Sel.all | exact Sel.none | exact Sel.hd | (apply Sel.one; · repeat (first | exact Pick.h | apply Pick.t | apply Pick.app)) | apply Sel.app | (with_reducible apply Sel.grp; · repeat (first | exact PickF.h | apply PickF.t | apply PickF.a)) | (with_reducible refine Sel.nilF (by with_unfolding_all rfl) ?_) | apply Sel.drop | apply Sel.dropF)), ?_⟩
                        refine wa_all [6] (by kernel_rfl) rfl (wall_one 6 rfl rfl ?_ trivial)
                        first
                        | (have hg9 := hdt
                           refine oC rfl pf73 rfl (do73_ok v _ (torn t.2 tear) (slH t.1 (max 0 ((t.2.B.length : Int) - min tear 1073741824))) _ hFv2 hdt (isB_take htb _) (by omega) (hcan.torn hris tear) (Nat.le_trans (by show (t.2.B.take _).length ≤ t.2.B.length; rw [List.length_take]; omega) hlen) (by show (fgetD _ t.2.name).length ≤ _; omega)) (by repeat (first | exact Sel.all | exact Sel.none | exact Sel.hd | (apply Sel.one; · repeat (first | exact Pick.h | apply Pick.t | apply Pick.app)) | apply Sel.app | (with_reducible apply Sel.grp; · repeat (first | exact PickF.h | apply PickF.t | apply PickF.a)) | (with_reducible refine Sel.nilF (by with_unfolding_all rfl) ?_) | apply Sel.drop | apply Sel.dropF)) ?_
                           rintro v61 _ ⟨I3, hI3, hF3, rfl⟩
                           have hF4 : FilesV W0 I3 v61 (curF d.last d.acts N tear (i + 1)) := by rw [curF_last (by omega) hat]; exact hF3)
                        | (refine oC rfl pf73 rfl (do73_ok v _ t.2 t.1 _ hFv2 (htr.sel hI2) htb (by omega) hcan hlen (by omega)) (by repeat (first | exact Sel.all | exact Sel.none | exact Sel.hd | (apply Sel.one; · repeat (first | exact Pick.h | apply Pick.t | apply Pick.app)) | apply Sel.app | (with_reducible apply Sel.grp; · repeat (first | exact PickF.h | apply PickF.t | apply PickF.a)) | (with_reducible refine Sel.nilF (by with_unfolding_all rfl) ?_) | apply Sel.drop | apply Sel.dropF)) ?_
                           rintro v61 _ ⟨I3, hI3, hF3, rfl⟩
                           have hF4 : FilesV W0 I3 v61 (curF d.last d.acts N tear (i + 1)) := by
                             by_cases hlast : i + 1 = N
                             · have hts : t.2.B = [] ∨ tear ≤ 0 := by first | (right; omega) | (left; exact hcan.nil (by omega))
                               rw [curF_last hlast hat, torn_same hts]
                               exact hF3
                             · rw [curF_mid (by omega) hat]
                               exact hF3)
                        refine ⟨(by repeat (first | exact Sel.all | exact Sel.none | exact Sel.hd | (apply Sel.one; · repeat (first | exact Pick.h | apply Pick.t | apply Pick.app)) | apply Sel.app | (with_reducible apply Sel.grp; · repeat (first | exact PickF.h | apply PickF.t | apply PickF.a)) | (with_reducible refine Sel.nilF (by with_unfolding_all rfl) ?_) | apply Sel.drop | apply Sel.dropF)), ?_⟩
                        refine wa_take 7 (by kernel_rfl) rfl rfl rfl rfl (by repeat (first | exact Sel.all | exact Sel.none | exact Sel.hd | (apply Sel.one; · repeat (first | exact Pick.h | apply Pick.t | apply Pick.app)) | apply Sel.app | (with_reducible apply Sel.grp; · repeat (first | exact PickF.h | apply PickF.t | apply PickF.a)) | (with_reducible refine Sel.nilF (by with_unfolding_all rfl) ?_) | apply Sel.drop | apply Sel.dropF)) (eNil rfl) ?_
                        refine wa_take 8 (by kernel_rfl) rfl rfl rfl rfl (by repeat (first | exact Sel.all | exact Sel.none | exact Sel.hd | (apply Sel.one; · repeat (first | exact Pick.h | apply Pick.t | apply Pick.app)) | apply Sel.app | (with_reducible apply Sel.grp; · repeat (first | exact PickF.h | apply PickF.t | apply PickF.a)) | (with_reducible refine Sel.nilF (by with_unfolding_all rfl) ?_) | apply Sel.drop | apply Sel.dropF)) (eFld 1 ty86 rfl rfl ty83 rfl) ?_
                        refine wa_all [9] (by kernel_rfl) rfl (wall_one 9 rfl rfl ?_ trivial)
                        have hF5 := hF4
                        obtain ⟨xs9, hr9, _⟩ := hF5
                        obtain ⟨ad9, k9, c9, hs9⟩ := hr9.isSlice
                        have hon9 := congrArg Value.oneCell' hs9
                        refine oSt ty83 rfl rfl hon9 rfl (by repeat (first | exact Upd.h | apply Upd.t | apply Upd.app)) (by first | decide | simp) (by rfl) ?_
                        refine ⟨(by repeat (first | exact Sel.all | exact Sel.none | exact Sel.hd | (apply Sel.one; · repeat (first | exact Pick.h | apply Pick.t | apply Pick.app)) | apply Sel.app | (with_reducible apply Sel.grp; · repeat (first | exact PickF.h | apply PickF.t | apply PickF.a)) | (with_reducible refine Sel.nilF (by with_unfolding_all rfl) ?_) | apply Sel.drop | apply Sel.dropF)), ?_⟩
                        refine wa_nil (by kernel_rfl) ?_
                        refine wc_region ?_
                        first | refine wl rfl (OP.ev rfl rfl (eAdd rfl rfl (by omega)) ?_) | refine wl rfl (OP.ev rfl rfl (eAddW rfl rfl) ?_)
                        refine wl rfl (OP.ev rfl rfl (eMv rfl) ?_)
                        refine wl_nil ?_
                        exact ⟨(i + 1, v61, I3), ⟨by show i + 1 ≤ N; omega, hI3.trans hI2, hF4⟩, by show _ - (i + 1) < _; omega, ⟨rfl, rfl, rfl, rfl, rfl, rfl, trivial⟩, (by repeat (first | exact Sel.all | exact Sel.none | exact Sel.hd | (apply Sel.one; · repeat (first | exact Pick.h | apply Pick.t | apply Pick.app)) | apply Sel.app | (with_reducible apply Sel.grp; · repeat (first | exact PickF.h | apply PickF.t | apply PickF.a)) | (with_reducible refine Sel.nilF (by with_unfolding_all rfl) ?_) | apply Sel.drop | apply Sel.dropF))⟩)
                  | false =>
                    try have c_t42 := df h42
                    first
                    | (exfalso; omega)
                    | (
                      refine wc_else rfl ?_
                      refine wc_skip ?_
                      refine wc_draw [] rfl ?_
                      refine wa_take 0 (by kernel_rfl) rfl rfl rfl rfl (by repeat (first | exact Sel.all | exact Sel.none | exact Sel.hd | (apply Sel.one; · repeat (first | exact Pick.h | apply Pick.t | apply Pick.app)) | apply Sel.app | (with_reducible apply Sel.grp; · repeat (first | exact PickF.h | apply PickF.t | apply PickF.a)) | (with_reducible refine Sel.nilF (by with_unfolding_all rfl) ?_) | apply Sel.drop | apply Sel.dropF)) (eMv rfl) ?_
                      refine wa_take 1 (by kernel_rfl) rfl rfl rfl rfl (by repeat (first | exact Sel.all | exact Sel.none | exact Sel.hd | (apply Sel.one; · repeat (first | exact Pick.h | apply Pick.t | apply Pick.app)) | apply Sel.app | (with_reducible apply Sel.grp; · repeat (first | exact PickF.h | apply PickF.t | apply PickF.a)) | (with_reducible refine Sel.nilF (by with_unfolding_all rfl) ?_) | apply Sel.drop | apply Sel.dropF)) (eMv rfl) ?_
                      refine wa_take 2 (by kernel_rfl) rfl rfl rfl rfl (by repeat (first | exact Sel.all | exact Sel.none | exact Sel.hd | (apply Sel.one; · repeat (first | exact Pick.h | apply Pick.t | apply Pick.app)) | apply Sel.app | (with_reducible apply Sel.grp; · repeat (first | exact PickF.h | apply PickF.t | apply PickF.a)) | (with_reducible refine Sel.nilF (by with_unfolding_all rfl) ?_) | apply Sel.drop | apply Sel.dropF)) (eNil rfl) ?_
                      refine wa_take 3 (by kernel_rfl) rfl rfl rfl rfl (by repeat (first | exact Sel.all | exact Sel.none | exact Sel.hd | (apply Sel.one; · repeat (first | exact Pick.h | apply Pick.t | apply Pick.app)) | apply Sel.app | (with_reducible apply Sel.grp; · repeat (first | exact PickF.h | apply PickF.t | apply PickF.a)) | (with_reducible refine Sel.nilF (by with_unfolding_all rfl) ?_) | apply Sel.drop | apply Sel.dropF)) (eFld 1 ty86 rfl rfl ty83 rfl) ?_
                      refine wa_all [4, 5] (by kernel_rfl) rfl ⟨⟨_, rfl, .inl rfl, ?_⟩, ⟨_, rfl, .inl rfl, ?_⟩, trivial⟩
                      · skip
                        refine OP.ev rfl rfl (eLd ty83 rfl rfl (by repeat (first | exact Has.h | apply Has.t | apply Has.app)) (by rfl)) ?_
                        refine ⟨(by repeat (first | exact Sel.all | exact Sel.none | exact Sel.hd | (apply Sel.one; · repeat (first | exact Pick.h | apply Pick.t | apply Pick.app)) | apply Sel.app | (with_reducible apply Sel.grp; · repeat (first | exact PickF.h | apply PickF.t | apply PickF.a)) | (with_reducible refine Sel.nilF (by with_unfolding_all rfl) ?_) | apply Sel.drop | apply Sel.dropF)), ?_⟩
                        refine wa_all [5] (by kernel_rfl) rfl (wall_one 5 rfl rfl ?_ trivial)
                        refine OP.ev rfl rfl (eLdW ty92 rfl rfl (by repeat (first | exact Has.h | apply Has.t | apply Has.app)) (by rfl)) ?_
                        refine ⟨(by repeat (first | exact Sel.all | exact Sel.none | exact Sel.hd | (apply Sel.one; · repeat (first | exact Pick.h | apply Pick.t | apply Pick.app)) | apply Sel.app | (with_reducible apply Sel.grp; · repeat (first | exact PickF.h | apply PickF.t | apply PickF.a)) | (with_reducible refine Sel.nilF (by with_unfolding_all rfl) ?_) | apply Sel.drop | apply Sel.dropF)), ?_⟩
                        refine wa_all [6] (by kernel_rfl) rfl (wall_one 6 rfl rfl ?_ trivial)
                        first
                        | (have hg9 := hdt
                           refine oC rfl pf73 rfl (do73_ok v _ (torn t.2 tear) (slH t.1 (max 0 ((t.2.B.length : Int) - min tear 1073741824))) _ hFv2 hdt (isB_take htb _) (by omega) (hcan.torn hris tear) (Nat.le_trans (by show (t.2.B.take _).length ≤ t.2.B.length; rw [List.length_take]; omega) hlen) (by show (fgetD _ t.2.name).length ≤ _; omega)) (by repeat (first | exact Sel.all | exact Sel.none | exact Sel.hd | (apply Sel.one; · repeat (first | exact Pick.h | apply Pick.t | apply Pick.app)) | apply Sel.app | (with_reducible apply Sel.grp; · repeat (first | exact PickF.h | apply PickF.t | apply PickF.a)) | (with_reducible refine Sel.nilF (by with_unfolding_all rfl) ?_) | apply Sel.drop | apply Sel.dropF)) ?_
                           rintro v61 _ ⟨I3, hI3, hF3, rfl⟩
                           have hF4 : FilesV W0 I3 v61 (curF d.last d.acts N tear (i + 1)) := by rw [curF_last (by omega) hat]; exact hF3)
                        | (refine oC rfl pf73 rfl (do73_ok v _ t.2 t.1 _ hFv2 (htr.sel hI2) htb (by omega) hcan hlen (by omega)) (by repeat (first | exact Sel.all | exact Sel.none | exact Sel.hd | (apply Sel.one; · repeat (first | exact Pick.h | apply Pick.t | apply Pick.app)) | apply Sel.app | (with_reducible apply Sel.grp; · repeat (first | exact PickF.h | apply PickF.t | apply PickF.a)) | (with_reducible refine Sel.nilF (by with_unfolding_all rfl) ?_) | apply Sel.drop | apply Sel.dropF)) ?_
                           rintro v61 _ ⟨I3, hI3, hF3, rfl⟩
                           have hF4 : FilesV W0 I3 v61 (curF d.last d.acts N tear (i + 1)) := by
                             by_cases hlast : i + 1 = N
                             · have hts : t.2.B = [] ∨ tear ≤ 0 := by first | (right; omega) | (left; exact hcan.nil (by omega))
                               rw [curF_last hlast hat, torn_same hts]
                               exact hF3
                             · rw [curF_mid (by omega) hat]
                               exact hF3)
                        refine ⟨(by repeat (first | exact Sel.all | exact Sel.none | exact Sel.hd | (apply Sel.one; · repeat (first | exact Pick.h | apply Pick.t | apply Pick.app)) | apply Sel.app | (with_reducible apply Sel.grp; · repeat (first | exact PickF.h | apply PickF.t | apply PickF.a)) | (with_reducible refine Sel.nilF (by with_unfolding_all rfl) ?_) | apply Sel.drop | apply Sel.dropF)), ?_⟩
                        refine wa_take 7 (by kernel_rfl) rfl rfl rfl rfl (by repeat (first | exact Sel.all | exact Sel.none | exact Sel.hd | (apply Sel.one; · repeat (first | exact Pick.h | apply Pick.t | apply Pick.app)) | apply Sel.app | (with_reducible apply Sel.grp; · repeat (first | exact PickF.h | apply PickF.t | apply PickF.a)) | (with_reducible refine Sel.nilF (by with_unfolding_all rfl) ?_) | apply Sel.drop | apply Sel.dropF)) (eNil rfl) ?_
                        refine wa_take 8 (by kernel_rfl) rfl rfl rfl rfl (by repeat (first | exact Sel.all | exact Sel.none | exact Sel.hd | (apply Sel.one; · repeat (first | exact Pick.h | apply Pick.t | apply Pick.app)) | apply Sel.app | (with_reducible apply Sel.grp; · repeat (first | exact PickF.h | apply PickF.t | apply PickF.a)) | (with_reducible refine Sel.nilF (by with_unfolding_all rfl) ?_) | apply Sel.drop | apply Sel.dropF)) (eFld 1 ty86 rfl rfl ty83 rfl) ?_
                        refine wa_all [9] (by kernel_rfl) rfl (wall_one 9 rfl rfl ?_ trivial)
                        have hF5 := hF4
                        obtain ⟨xs9, hr9, _⟩ := hF5
                        obtain ⟨ad9, k9, c9, hs9⟩ := hr9.isSlice
                        have hon9 := congrArg Value.oneCell' hs9
                        refine oSt ty83 rfl rfl hon9 rfl (by repeat (first | exact Upd.h | apply Upd.t | apply Upd.app)) (by first | decide | simp) (by rfl) ?_
                        refine ⟨(by repeat (first | exact Sel.all | exact Sel.none | exact Sel.hd | (apply Sel.one; · repeat (first | exact Pick.h | apply Pick.t | apply Pick.app)) | apply Sel.app | (with_reducible apply Sel.grp; · repeat (first | exact PickF.h | apply PickF.t | apply PickF.a)) | (with_reducible refine Sel.nilF (by with_unfolding_all rfl) ?_) | apply Sel.drop | apply Sel.dropF)), ?_⟩
                        refine wa_nil (by kernel_rfl) ?_
                        refine wc_region ?_
                        first | refine wl rfl (OP.ev rfl rfl (eAdd rfl rfl (by omega)) ?_) | refine wl rfl (OP.ev rfl rfl (eAddW rfl rfl) ?_)
                        refine wl rfl (OP.ev rfl rfl (eMv rfl) ?_)
                        refine wl_nil ?_
                        exact ⟨(i + 1, v61, I3), ⟨by show i + 1 ≤ N; omega, hI3.trans hI2, hF4⟩, by show _ - (i + 1) < _; omega, ⟨rfl, rfl, rfl, rfl, rfl, rfl, trivial⟩, (by repeat (first | exact Sel.all | exact Sel.none | exact Sel.hd | (apply Sel.one; · repeat (first | exact Pick.h | apply Pick.t | apply Pick.app)) | apply Sel.app | (with_reducible apply Sel.grp; · repeat (first | exact PickF.h | apply PickF.t | apply PickF.a)) | (with_reducible refine Sel.nilF (by with_unfolding_all rfl) ?_) | apply Sel.drop | apply Sel.dropF))⟩
                      · skip
                        refine OP.ev rfl rfl (eLdW ty92 rfl rfl (by repeat (first | exact Has.h | apply Has.t | apply Has.app)) (by rfl)) ?_
                        refine ⟨(by repeat (first | exact Sel.all | exact Sel.none | exact Sel.hd | (apply Sel.one; · repeat (first | exact Pick.h | apply Pick.t | apply Pick.app)) | apply Sel.app | (with_reducible apply Sel.grp; · repeat (first | exact PickF.h | apply PickF.t | apply PickF.a)) | (with_reducible refine Sel.nilF (by with_unfolding_all rfl) ?_) | apply Sel.drop | apply Sel.dropF)), ?_⟩
                        refine wa_all [4] (by kernel_rfl) rfl (wall_one 4 rfl rfl ?_ trivial)
                        refine OP.ev rfl rfl (eLd ty83 rfl rfl (by repeat (first | exact Has.h | apply Has.t | apply Has.app)) (by rfl)) ?_
                        refine ⟨(by repeat (first | exact Sel.all | exact Sel.none | exact Sel.hd | (apply Sel.one; · repeat (first | exact Pick.h | apply Pick.t | apply Pick.app)) | apply Sel.app | (with_reducible apply Sel.grp; · repeat (first | exact PickF.h | apply PickF.t | apply PickF.a)) | (with_reducible refine Sel.nilF (by with_unfolding_all rfl) ?_) | apply Sel.drop | apply Sel.dropF)), ?_⟩
                        refine wa_all [6] (by kernel_rfl) rfl (wall_one 6 rfl rfl ?_ trivial)
                        first
                        | (have hg9 := hdt
                           refine oC rfl pf73 rfl (do73_ok v _ (torn t.2 tear) (slH t.1 (max 0 ((t.2.B.length : Int) - min tear 1073741824))) _ hFv2 hdt (isB_take htb _) (by omega) (hcan.torn hris tear) (Nat.le_trans (by show (t.2.B.take _).length ≤ t.2.B.length; rw [List.length_take]; omega) hlen) (by show (fgetD _ t.2.name).length ≤ _; omega)) (by repeat (first | exact Sel.all | exact Sel.none | exact Sel.hd | (apply Sel.one; · repeat (first | exact Pick.h | apply Pick.t | apply Pick.app)) | apply Sel.app | (with_reducible apply Sel.grp; · repeat (first | exact PickF.h | apply PickF.t | apply PickF.a)) | (with_reducible refine Sel.nilF (by with_unfolding_all rfl) ?_) | apply Sel.drop | apply Sel.dropF)) ?_
                           rintro v61 _ ⟨I3, hI3, hF3, rfl⟩
                           have hF4 : FilesV W0 I3 v61 (curF d.last d.acts N tear (i + 1)) := by rw [curF_last (by omega) hat]; exact hF3)
                        | (refine oC rfl pf73 rfl (do73_ok v _ t.2 t.1 _ hFv2 (htr.sel hI2) htb (by omega) hcan hlen (by omega)) (by repeat (first | exact Sel.all | exact Sel.none | exact Sel.hd | (apply Sel.one; · repeat (first | exact Pick.h | apply Pick.t | apply Pick.app)) | apply Sel.app | (with_reducible apply Sel.grp; · repeat (first | exact PickF.h | apply PickF.t | apply PickF.a)) | (with_reducible refine Sel.nilF (by with_unfolding_all rfl) ?_) | apply Sel.drop | apply Sel.dropF)) ?_
                           rintro v61 _ ⟨I3, hI3, hF3, rfl⟩
                           have hF4 : FilesV W0 I3 v61 (curF d.last d.acts N tear (i + 1)) := by
                             by_cases hlast : i + 1 = N
                             · have hts : t.2.B = [] ∨ tear ≤ 0 := by first | (right; omega) | (left; exact hcan.nil (by omega))
                               rw [curF_last hlast hat, torn_same hts]
                               exact hF3
                             · rw [curF_mid (by omega) hat]
                               exact hF3)
                        refine ⟨(by repeat (first | exact Sel.all | exact Sel.none | exact Sel.hd | (apply Sel.one; · repeat (first | exact Pick.h | apply Pick.t | apply Pick.app)) | apply Sel.app | (with_reducible apply Sel.grp; · repeat (first | exact PickF.h | apply PickF.t | apply PickF.a)) | (with_reducible refine Sel.nilF (by with_unfolding_all rfl) ?_) | apply Sel.drop | apply Sel.dropF)), ?_⟩
                        refine wa_take 7 (by kernel_rfl) rfl rfl rfl rfl (by repeat (first | exact Sel.all | exact Sel.none | exact Sel.hd | (apply Sel.one; · repeat (first | exact Pick.h | apply Pick.t | apply Pick.app)) | apply Sel.app | (with_reducible apply Sel.grp; · repeat (first | exact PickF.h | apply PickF.t | apply PickF.a)) | (with_reducible refine Sel.nilF (by with_unfolding_all rfl) ?_) | apply Sel.drop | apply Sel.dropF)) (eNil rfl) ?_
                        refine wa_take 8 (by kernel_rfl) rfl rfl rfl rfl (by repeat (first | exact Sel.all | exact Sel.none | exact Sel.hd | (apply Sel.one; · repeat (first | exact Pick.h | apply Pick.t | apply Pick.app)) | apply Sel.app | (with_reducible apply Sel.grp; · repeat (first | exact PickF.h | apply PickF.t | apply PickF.a)) | (with_reducible refine Sel.nilF (by with_unfolding_all rfl) ?_) | apply Sel.drop | apply Sel.dropF)) (eFld 1 ty86 rfl rfl ty83 rfl) ?_
                        refine wa_all [9] (by kernel_rfl) rfl (wall_one 9 rfl rfl ?_ trivial)
                        have hF5 := hF4
                        obtain ⟨xs9, hr9, _⟩ := hF5
                        obtain ⟨ad9, k9, c9, hs9⟩ := hr9.isSlice
                        have hon9 := congrArg Value.oneCell' hs9
                        refine oSt ty83 rfl rfl hon9 rfl (by repeat (first | exact Upd.h | apply Upd.t | apply Upd.app)) (by first | decide | simp) (by rfl) ?_
                        refine ⟨(by repeat (first | exact Sel.all | exact Sel.none | exact Sel.hd | (apply Sel.one; · repeat (first | exact Pick.h | apply Pick.t | apply Pick.app)) | apply Sel.app | (with_reducible apply Sel.grp; · repeat (first | exact PickF.h | apply PickF.t | apply PickF.a)) | (with_reducible refine Sel.nilF (by with_unfolding_all rfl) ?_) | apply Sel.drop | apply Sel.dropF)), ?_⟩
                        refine wa_nil (by kernel_rfl) ?_
                        refine wc_region ?_
                        first | refine wl rfl (OP.ev rfl rfl (eAdd rfl rfl (by omega)) ?_) | refine wl rfl (OP.ev rfl rfl (eAddW rfl rfl) ?_)
                        refine wl rfl (OP.ev rfl rfl (eMv rfl) ?_)
                        refine wl_nil ?_
                        exact ⟨(i + 1, v61, I3), ⟨by show i + 1 ≤ N; omega, hI3.trans hI2, hF4⟩, by show _ - (i + 1) < _; omega, ⟨rfl, rfl, rfl, rfl, rfl, rfl, trivial⟩, (by repeat (first | exact Sel.all | exact Sel.none | exact Sel.hd | (apply Sel.one; · repeat (first | exact Pick.h | apply Pick.t | apply Pick.app)) | apply Sel.app | (with_reducible apply Sel.grp; · repeat (first | exact PickF.h | apply PickF.t | apply PickF.a)) | (with_reducible refine Sel.nilF (by with_unfolding_all rfl) ?_) | apply Sel.drop | apply Sel.dropF))⟩))
              | false =>
                try have c_t28 := df h28
                first
                | (exfalso; omega)
                | (
                  refine wl_go rfl rfl (OP.ev rfl rfl (eMv rfl) ?_)
                  refine wl_go rfl rfl (OP.ev rfl rfl (eMv rfl) ?_)
                  refine wl_go rfl rfl (OP.ev rfl rfl (eNil rfl) ?_)
                  refine wl_go rfl rfl (OP.ev rfl rfl (eFld 2 ty86 rfl rfl ty84 rfl) ?_)
                  first | refine wl_go rfl rfl (OP.ev rfl rfl (eLd ty84 rfl rfl (by repeat (first | exact Has.h | apply Has.t | apply Has.app)) (by rfl)) ?_) | refine wl_go rfl rfl (OP.ev rfl rfl (eLdO ty84 rfl rfl (by assumption)) ?_)
                  refine wl_go rfl rfl (OP.ev rfl rfl (eLenRow ty84 rfl hA.row) ?_)
                  first | refine wl_go rfl rfl (OP.ev rfl rfl (eSub rfl rfl (by omega)) ?_) | refine wl_go rfl rfl (OP.ev rfl rfl (eSubW rfl rfl) ?_)
                  refine wl_go rfl rfl (OP.evb rfl rfl (eEq rfl rfl) fun t37 h37 => ?_)
                  refine wl_go rfl rfl (OP.ev rfl rfl (ePk rfl rfl) ?_)
                  refine wl rfl (OP.ev rfl rfl (ePk rfl rfl) ?_)
                  refine wl rfl (OP.ev rfl rfl (eMv rfl) ?_)
                  cases t37 with
                  | true =>
                    try have c_t37 := dt h37
                    first
                    | (exfalso; omega)
                    | (
                      refine wl_go rfl rfl (OP.ev rfl rfl (eMv rfl) ?_)
                      refine wl_go rfl rfl (OP.evb rfl rfl (eGt rfl rfl) fun t42 h42 => ?_)
                      refine wl rfl (OP.ev rfl rfl (ePk rfl rfl) ?_)
                      refine wl_nil ?_
                      cases t42 with
                      | true =>
                        try have c_t42 := dt h42
                        first
                        | (exfalso; omega)
                        | (
                          refine wc_then rfl ?_
                          refine wc_region ?_
                          refine wl rfl (OP.ev rfl rfl (eFld 4 ty92 rfl rfl ty30 rfl) ?_)
                          first | refine wl rfl (OP.ev rfl rfl (eLd ty30 rfl rfl (by repeat (first | exact Has.h | apply Has.t | apply Has.app)) (by rfl)) ?_) | refine wl rfl (OP.ev rfl rfl (eLdO ty30 rfl rfl (by assumption)) ?_)
                          refine wl rfl (OP.ev rfl rfl (eFld 4 ty92 rfl rfl ty30 rfl) ?_)
                          first | refine wl rfl (OP.ev rfl rfl (eLd ty30 rfl rfl (by repeat (first | exact Has.h | apply Has.t | apply Has.app)) (by rfl)) ?_) | refine wl rfl (OP.ev rfl rfl (eLdO ty30 rfl rfl (by assumption)) ?_)
                          refine wl rfl (OP.ev rfl rfl (eLenR ty30 rfl ((htr.sel hI2).sel (by repeat (first | exact Sel.all | exact Sel.none | exact Sel.hd | (apply Sel.one; · repeat (first | exact Pick.h | apply Pick.t | apply Pick.app)) | apply Sel.app | (with_reducible apply Sel.grp; · repeat (first | exact PickF.h | apply PickF.t | apply PickF.a)) | (with_reducible refine Sel.nilF (by with_unfolding_all rfl) ?_) | apply Sel.drop | apply Sel.dropF)))) ?_)
                          refine wl rfl (OP.ev rfl rfl (eMv rfl) ?_)
                          refine wl rfl (OP.ev rfl rfl (eMin rfl rfl) ?_)
                          first | refine wl rfl (OP.ev rfl rfl (eSub rfl rfl (by omega)) ?_) | refine wl rfl (OP.ev rfl rfl (eSubW rfl rfl) ?_)
                          refine wl rfl (OP.ev rfl rfl (eMax rfl rfl) ?_)
                          refine wl rfl (oSlH rfl ty30 ty5 rfl ((htr.sel hI2).sel (by repeat (first | exact Sel.all | exact Sel.none | exact Sel.hd | (apply Sel.one; · repeat (first | exact Pick.h | apply Pick.t | apply Pick.app)) | apply Sel.app | (with_reducible apply Sel.grp; · repeat (first | exact PickF.h | apply PickF.t | apply PickF.a)) | (with_reducible refine Sel.nilF (by with_unfolding_all rfl) ?_) | apply Sel.drop | apply Sel.dropF))) rfl (by omega) (by omega) ?_)
                          intro _
                          have hdt := torn_rs2 (t := tear) (htr.sel hI2) (by omega) hlen rfl
                          obtain ⟨ad5, k5, c5, hs5⟩ := hdt.isSlice
                          have hon5 := congrArg Value.oneCell' hs5
                          refine wl rfl (OP.ev rfl rfl (eFld 4 ty92 rfl rfl ty30 rfl) ?_)
                          refine wl rfl (oSt (o' := .cells #[i64 t.2.kind, strK t.2.name, strK t.2.to_, i64 t.2.at_, slH t.1 (max 0 ((t.2.B.length : Int) - min tear 1073741824))] 92 (0, 0)) ty30 rfl rfl hon5 rfl (by repeat (first | exact Upd.h | apply Upd.t | apply Upd.app)) (by simp) (by rfl) ?_)
                          refine wl_nil ?_
                          refine wc_draw [] rfl ?_
                          refine wa_take 0 (by kernel_rfl) rfl rfl rfl rfl (by repeat (first | exact Sel.all | exact Sel.none | exact Sel.hd | (apply Sel.one; · repeat (first | exact Pick.h | apply Pick.t | apply Pick.app)) | apply Sel.app | (with_reducible apply Sel.grp; · repeat (first | exact PickF.h | apply PickF.t | apply PickF.a)) | (with_reducible refine Sel.nilF (by with_unfolding_all rfl) ?_) | apply Sel.drop | apply Sel.dropF)) (eMv rfl) ?_
                          refine wa_take 1 (by kernel_rfl) rfl rfl rfl rfl (by repeat (first | exact Sel.all | exact Sel.none | exact Sel.hd | (apply Sel.one; · repeat (first | exact Pick.h | apply Pick.t | apply Pick.app)) | apply Sel.app | (with_reducible apply Sel.grp; · repeat (first | exact PickF.h | apply PickF.t | apply PickF.a)) | (with_reducible refine Sel.nilF (by with_unfolding_all rfl) ?_) | apply Sel.drop | apply Sel.dropF)) (eMv rfl) ?_
                          refine wa_take 2 (by kernel_rfl) rfl rfl rfl rfl (by repeat (first | exact Sel.all | exact Sel.none | exact Sel.hd | (apply Sel.one; · repeat (first | exact Pick.h | apply Pick.t | apply Pick.app)) | apply Sel.app | (with_reducible apply Sel.grp; · repeat (first | exact PickF.h | apply PickF.t | apply PickF.a)) | (with_reducible refine Sel.nilF (by with_unfolding_all rfl) ?_) | apply Sel.drop | apply Sel.dropF)) (eNil rfl) ?_
                          refine wa_take 3 (by kernel_rfl) rfl rfl rfl rfl (by repeat (first | exact Sel.all | exact Sel.none | exact Sel.hd | (apply Sel.one; · repeat (first | exact Pick.h | apply Pick.t | apply Pick.app)) | apply Sel.app | (with_reducible apply Sel.grp; · repeat (first | exact PickF.h | apply PickF.t | apply PickF.a)) | (with_reducible refine Sel.nilF (by with_unfolding_all rfl) ?_) | apply Sel.drop | apply Sel.dropF)) (eFld 1 ty86 rfl rfl ty83 rfl) ?_
                          refine wa_all [4, 5] (by kernel_rfl) rfl ⟨⟨_, rfl, .inl rfl, ?_⟩, ⟨_, rfl, .inl rfl, ?_⟩, trivial⟩
                          · skip
                            refine OP.ev rfl rfl (eLd ty83 rfl rfl (by repeat (first | exact Has.h | apply Has.t | apply Has.app)) (by rfl)) ?_
                            refine ⟨(by repeat (first | exact Sel.all | exact Sel.none | exact Sel.hd | (apply Sel.one; · repeat (first | exact Pick.h | apply Pick.t | apply Pick.app)) | apply Sel.app | (with_reducible apply Sel.grp; · repeat (first | exact PickF.h | apply PickF.t | apply PickF.a)) | (with_reducible refine Sel.nilF (by with_unfolding_all rfl) ?_) | apply Sel.drop | apply Sel.dropF)), ?_⟩
                            refine wa_all [5] (by kernel_rfl) rfl (wall_one 5 rfl rfl ?_ trivial)
                            refine OP.ev rfl rfl (eLdW ty92 rfl rfl (by repeat (first | exact Has.h | apply Has.t | apply Has.app)) (by rfl)) ?_
                            refine ⟨(by repeat (first | exact Sel.all | exact Sel.none | exact Sel.hd | (apply Sel.one; · repeat (first | exact Pick.h | apply Pick.t | apply Pick.app)) | apply Sel.app | (with_reducible apply Sel.grp; · repeat (first | exact PickF.h | apply PickF.t | apply PickF.a)) | (with_reducible refine Sel.nilF (by with_unfolding_all rfl) ?_) | apply Sel.drop | apply Sel.dropF)), ?_⟩
                            refine wa_all [6] (by kernel_rfl) rfl (wall_one 6 rfl rfl ?_ trivial)
                            first
                            | (have hg9 := hdt
                               refine oC rfl pf73 rfl (do73_ok v _ (torn t.2 tear) (slH t.1 (max 0 ((t.2.B.length : Int) - min tear 1073741824))) _ hFv2 hdt (isB_take htb _) (by omega) (hcan.torn hris tear) (Nat.le_trans (by show (t.2.B.take _).length ≤ t.2.B.length; rw [List.length_take]; omega) hlen) (by show (fgetD _ t.2.name).length ≤ _; omega)) (by repeat (first | exact Sel.all | exact Sel.none | exact Sel.hd | (apply Sel.one; · repeat (first | exact Pick.h | apply Pick.t | apply Pick.app)) | apply Sel.app | (with_reducible apply Sel.grp; · repeat (first | exact PickF.h | apply PickF.t | apply PickF.a)) | (with_reducible refine Sel.nilF (by with_unfolding_all rfl) ?_) | apply Sel.drop | apply Sel.dropF)) ?_
                               rintro v61 _ ⟨I3, hI3, hF3, rfl⟩
                               have hF4 : FilesV W0 I3 v61 (curF d.last d.acts N tear (i + 1)) := by rw [curF_last (by omega) hat]; exact hF3)
                            | (refine oC rfl pf73 rfl (do73_ok v _ t.2 t.1 _ hFv2 (htr.sel hI2) htb (by omega) hcan hlen (by omega)) (by repeat (first | exact Sel.all | exact Sel.none | exact Sel.hd | (apply Sel.one; · repeat (first | exact Pick.h | apply Pick.t | apply Pick.app)) | apply Sel.app | (with_reducible apply Sel.grp; · repeat (first | exact PickF.h | apply PickF.t | apply PickF.a)) | (with_reducible refine Sel.nilF (by with_unfolding_all rfl) ?_) | apply Sel.drop | apply Sel.dropF)) ?_
                               rintro v61 _ ⟨I3, hI3, hF3, rfl⟩
                               have hF4 : FilesV W0 I3 v61 (curF d.last d.acts N tear (i + 1)) := by
                                 by_cases hlast : i + 1 = N
                                 · have hts : t.2.B = [] ∨ tear ≤ 0 := by first | (right; omega) | (left; exact hcan.nil (by omega))
                                   rw [curF_last hlast hat, torn_same hts]
                                   exact hF3
                                 · rw [curF_mid (by omega) hat]
                                   exact hF3)
                            refine ⟨(by repeat (first | exact Sel.all | exact Sel.none | exact Sel.hd | (apply Sel.one; · repeat (first | exact Pick.h | apply Pick.t | apply Pick.app)) | apply Sel.app | (with_reducible apply Sel.grp; · repeat (first | exact PickF.h | apply PickF.t | apply PickF.a)) | (with_reducible refine Sel.nilF (by with_unfolding_all rfl) ?_) | apply Sel.drop | apply Sel.dropF)), ?_⟩
                            refine wa_take 7 (by kernel_rfl) rfl rfl rfl rfl (by repeat (first | exact Sel.all | exact Sel.none | exact Sel.hd | (apply Sel.one; · repeat (first | exact Pick.h | apply Pick.t | apply Pick.app)) | apply Sel.app | (with_reducible apply Sel.grp; · repeat (first | exact PickF.h | apply PickF.t | apply PickF.a)) | (with_reducible refine Sel.nilF (by with_unfolding_all rfl) ?_) | apply Sel.drop | apply Sel.dropF)) (eNil rfl) ?_
                            refine wa_take 8 (by kernel_rfl) rfl rfl rfl rfl (by repeat (first | exact Sel.all | exact Sel.none | exact Sel.hd | (apply Sel.one; · repeat (first | exact Pick.h | apply Pick.t | apply Pick.app)) | apply Sel.app | (with_reducible apply Sel.grp; · repeat (first | exact PickF.h | apply PickF.t | apply PickF.a)) | (with_reducible refine Sel.nilF (by with_unfolding_all rfl) ?_) | apply Sel.drop | apply Sel.dropF)) (eFld 1 ty86 rfl rfl ty83 rfl) ?_
                            refine wa_all [9] (by kernel_rfl) rfl (wall_one 9 rfl rfl ?_ trivial)
                            have hF5 := hF4
                            obtain ⟨xs9, hr9, _⟩ := hF5
                            obtain ⟨ad9, k9, c9, hs9⟩ := hr9.isSlice
                            have hon9 := congrArg Value.oneCell' hs9
                            refine oSt ty83 rfl rfl hon9 rfl (by repeat (first | exact Upd.h | apply Upd.t | apply Upd.app)) (by first | decide | simp) (by rfl) ?_
                            refine ⟨(by repeat (first | exact Sel.all | exact Sel.none | exact Sel.hd | (apply Sel.one; · repeat (first | exact Pick.h | apply Pick.t | apply Pick.app)) | apply Sel.app | (with_reducible apply Sel.grp; · repeat (first | exact PickF.h | apply PickF.t | apply PickF.a)) | (with_reducible refine Sel.nilF (by with_unfolding_all rfl) ?_) | apply Sel.drop | apply Sel.dropF)), ?_⟩
                            refine wa_nil (by kernel_rfl) ?_
                            refine wc_region ?_
                            first | refine wl rfl (OP.ev rfl rfl (eAdd rfl rfl (by omega)) ?_) | refine wl rfl (OP.ev rfl rfl (eAddW rfl rfl) ?_)
                            refine wl rfl (OP.ev rfl rfl (eMv rfl) ?_)
                            refine wl_nil ?_
                            exact ⟨(i + 1, v61, I3), ⟨by show i + 1 ≤ N; omega, hI3.trans hI2, hF4⟩, by show _ - (i + 1) < _; omega, ⟨rfl, rfl, rfl, rfl, rfl, rfl, trivial⟩, (by repeat (first | exact Sel.all | exact Sel.none | exact Sel.hd | (apply Sel.one; · repeat (first | exact Pick.h | apply Pick.t | apply Pick.app)) | apply Sel.app | (with_reducible apply Sel.grp; · repeat (first | exact PickF.h | apply PickF.t | apply PickF.a)) | (with_reducible refine Sel.nilF (by with_unfolding_all rfl) ?_) | apply Sel.drop | apply Sel.dropF))⟩
                          · skip
                            refine OP.ev rfl rfl (eLdW ty92 rfl rfl (by repeat (first | exact Has.h | apply Has.t | apply Has.app)) (by rfl)) ?_
                            refine ⟨(by repeat (first | exact Sel.all | exact Sel.none | exact Sel.hd | (apply Sel.one; · repeat (first | exact Pick.h | apply Pick.t | apply Pick.app)) | apply Sel.app | (with_reducible apply Sel.grp; · repeat (first | exact PickF.h | apply PickF.t | apply PickF.a)) | (with_reducible refine Sel.nilF (by with_unfolding_all rfl) ?_) | apply Sel.drop | apply Sel.dropF)), ?_⟩
                            refine wa_all [4] (by kernel_rfl) rfl (wall_one 4 rfl rfl ?_ trivial)
                            refine OP.ev rfl rfl (eLd ty83 rfl rfl (by repeat (first | exact Has.h | apply Has.t | apply Has.app)) (by rfl)) ?_
                            refine ⟨(by repeat (first | exact Sel.all | exact Sel.none | exact Sel.hd | (apply Sel.one; · repeat (first | exact Pick.h | apply Pick.t | apply Pick.app)) | apply Sel.app | (with_reducible apply Sel.grp; · repeat (first | exact PickF.h | apply PickF.t | apply PickF.a)) | (with_reducible refine Sel.nilF (by with_unfolding_all rfl) ?_) | apply Sel.drop | apply Sel.dropF)), ?_⟩
                            refine wa_all [6] (by kernel_rfl) rfl (wall_one 6 rfl rfl ?_ trivial)
                            first
                            | (have hg9 := hdt
                               refine oC rfl pf73 rfl (do73_ok v _ (torn t.2 tear) (slH t.1 (max 0 ((t.2.B.length : Int) - min tear 1073741824))) _ hFv2 hdt (isB_take htb _) (by omega) (hcan.torn hris tear) (Nat.le_trans (by show (t.2.B.take _).length ≤ t.2.B.length; rw [List.length_take]; omega) hlen) (by show (fgetD _ t.2.name).length ≤ _; omega)) (by repeat (first | exact Sel.all | exact Sel.none | exact Sel.hd | (apply Sel.one; · repeat (first | exact Pick.h | apply Pick.t | apply Pick.app)) | apply Sel.app | (with_reducible apply Sel.grp; · repeat (first | exact PickF.h | apply PickF.t | apply PickF.a)) | (with_reducible refine Sel.nilF (by with_unfolding_all rfl) ?_) | apply Sel.drop | apply Sel.dropF)) ?_
                               rintro v61 _ ⟨I3, hI3, hF3, rfl⟩
                               have hF4 : FilesV W0 I3 v61 (curF d.last d.acts N tear (i + 1)) := by rw [curF_last (by omega) hat]; exact hF3)
                            | (refine oC rfl pf73 rfl (do73_ok v _ t.2 t.1 _ hFv2 (htr.sel hI2) htb (by omega) hcan hlen (by omega)) (by repeat (first | exact Sel.all | exact Sel.none | exact Sel.hd | (apply Sel.one; · repeat (first | exact Pick.h | apply Pick.t | apply Pick.app)) | apply Sel.app | (with_reducible apply Sel.grp; · repeat (first | exact PickF.h | apply PickF.t | apply PickF.a)) | (with_reducible refine Sel.nilF (by with_unfolding_all rfl) ?_) | apply Sel.drop | apply Sel.dropF)) ?_
                               rintro v61 _ ⟨I3, hI3, hF3, rfl⟩
                               have hF4 : FilesV W0 I3 v61 (curF d.last d.acts N tear (i + 1)) := by
                                 by_cases hlast : i + 1 = N
                                 · have hts : t.2.B = [] ∨ tear ≤ 0 := by first | (right; omega) | (left; exact hcan.nil (by omega))
                                   rw [curF_last hlast hat, torn_same hts]
                                   exact hF3
                                 · rw [curF_mid (by omega) hat]
                                   exact hF3)
                            refine ⟨(by repeat (first | exact Sel.all | exact Sel.none | exact Sel.hd | (apply Sel.one; · repeat (first | exact Pick.h | apply Pick.t | apply Pick.app)) | apply Sel.app | (with_reducible apply Sel.grp; · repeat (first | exact PickF.h | apply PickF.t | apply PickF.a)) | (with_reducible refine Sel.nilF (by with_unfolding_all rfl) ?_) | apply Sel.drop | apply Sel.dropF)), ?_⟩
                            refine wa_take 7 (by kernel_rfl) rfl rfl rfl rfl (by repeat (first | exact Sel.all | exact Sel.none | exact Sel.hd | (apply Sel.one; · repeat (first | exact Pick.h | apply Pick.t | apply Pick.app)) | apply Sel.app | (with_reducible apply Sel.grp; · repeat (first | exact PickF.h | apply PickF.t | apply PickF.a)) | (with_reducible refine Sel.nilF (by with_unfolding_all rfl) ?_) | apply Sel.drop | apply Sel.dropF)) (eNil rfl) ?_
                            refine wa_take 8 (by kernel_rfl) rfl rfl rfl rfl (by repeat (first | exact Sel.all | exact Sel.none | exact Sel.hd | (apply Sel.one; · repeat (first | exact Pick.h | apply Pick.t | apply Pick.app)) | apply Sel.app | (with_reducible apply Sel.grp; · repeat (first | exact PickF.h | apply PickF.t | apply PickF.a)) | (with_reducible refine Sel.nilF (by with_unfolding_all rfl) ?_) | apply Sel.drop | apply Sel.dropF)) (eFld 1 ty86 rfl rfl ty83 rfl) ?_
                            refine wa_all [9] (by kernel_rfl) rfl (wall_one 9 rfl rfl ?_ trivial)
                            have hF5 := hF4
                            obtain ⟨xs9, hr9, _⟩ := hF5
                            obtain ⟨ad9, k9, c9, hs9⟩ := hr9.isSlice
                            have hon9 := congrArg Value.oneCell' hs9
                            refine oSt ty83 rfl rfl hon9 rfl (by repeat (first | exact Upd.h | apply Upd.t | apply Upd.app)) (by first | decide | simp) (by rfl) ?_
                            refine ⟨(by repeat (first | exact Sel.all | exact Sel.none | exact Sel.hd | (apply Sel.one; · repeat (first | exact Pick.h | apply Pick.t | apply Pick.app)) | apply Sel.app | (with_reducible apply Sel.grp; · repeat (first | exact PickF.h | apply PickF.t | apply PickF.a)) | (with_reducible refine Sel.nilF (by with_unfolding_all rfl) ?_) | apply Sel.drop | apply Sel.dropF)), ?_⟩
                            refine wa_nil (by kernel_rfl) ?_
                            refine wc_region ?_
                            first | refine wl rfl (OP.ev rfl rfl (eAdd rfl rfl (by omega)) ?_) | refine wl rfl (OP.ev rfl rfl (eAddW rfl rfl) ?_)
                            refine wl rfl (OP.ev rfl rfl (eMv rfl) ?_)
                            refine wl_nil ?_
                            exact ⟨(i + 1, v61, I3), ⟨by show i + 1 ≤ N; omega, hI3.trans hI2, hF4⟩, by show _ - (i + 1) < _; omega, ⟨rfl, rfl, rfl, rfl, rfl, rfl, trivial⟩, (by repeat (first | exact Sel.all | exact Sel.none | exact Sel.hd | (apply Sel.one; · repeat (first | exact Pick.h | apply Pick.t | apply Pick.app)) | apply Sel.app | (with_reducible apply Sel.grp; · repeat (first | exact PickF.h | apply PickF.t | apply PickF.a)) | (with_reducible refine Sel.nilF (by with_unfolding_all rfl) ?_) | apply Sel.drop | apply Sel.dropF))⟩)
                      | false =>
                        try have c_t42 := df h42
                        first
                        | (exfalso; omega)
                        | (
                          refine wc_else rfl ?_
                          refine wc_skip ?_
                          refine wc_draw [] rfl ?_
                          refine wa_take 0 (by kernel_rfl) rfl rfl rfl rfl (by repeat (first | exact Sel.all | exact Sel.none | exact Sel.hd | (apply Sel.one; · repeat (first | exact Pick.h | apply Pick.t | apply Pick.app)) | apply Sel.app | (with_reducible apply Sel.grp; · repeat (first | exact PickF.h | apply PickF.t | apply PickF.a)) | (with_reducible refine Sel.nilF (by with_unfolding_all rfl) ?_) | apply Sel.drop | apply Sel.dropF)) (eMv rfl) ?_
                          refine wa_take 1 (by kernel_rfl) rfl rfl rfl rfl (by repeat (first | exact Sel.all | exact Sel.none | exact Sel.hd | (apply Sel.one; · repeat (first | exact Pick.h | apply Pick.t | apply Pick.app)) | apply Sel.app | (with_reducible apply Sel.grp; · repeat (first | exact PickF.h | apply PickF.t | apply PickF.a)) | (with_reducible refine Sel.nilF (by with_unfolding_all rfl) ?_) | apply Sel.drop | apply Sel.dropF)) (eMv rfl) ?_
                          refine wa_take 2 (by kernel_rfl) rfl rfl rfl rfl (by repeat (first | exact Sel.all | exact Sel.none | exact Sel.hd | (apply Sel.one; · repeat (first | exact Pick.h | apply Pick.t | apply Pick.app)) | apply Sel.app | (with_reducible apply Sel.grp; · repeat (first | exact PickF.h | apply PickF.t | apply PickF.a)) | (with_reducible refine Sel.nilF (by with_unfolding_all rfl) ?_) | apply Sel.drop | apply Sel.dropF)) (eNil rfl) ?_
                          refine wa_take 3 (by kernel_rfl) rfl rfl rfl rfl (by repeat (first | exact Sel.all | exact Sel.none | exact Sel.hd | (apply Sel.one; · repeat (first | exact Pick.h | apply Pick.t | apply Pick.app)) | apply Sel.app | (with_reducible apply Sel.grp; · repeat (first | exact PickF.h | apply PickF.t | apply PickF.a)) | (with_reducible refine Sel.nilF (by with_unfolding_all rfl) ?_) | apply Sel.drop | apply Sel.dropF)) (eFld 1 ty86 rfl rfl ty83 rfl) ?_
                          refine wa_all [4, 5] (by kernel_rfl) rfl ⟨⟨_, rfl, .inl rfl, ?_⟩, ⟨_, rfl, .inl rfl, ?_⟩, trivial⟩
                          · skip
                            refine OP.ev rfl rfl (eLd ty83 rfl rfl (by repeat (first | exact Has.h | apply Has.t | apply Has.app)) (by rfl)) ?_
                            refine ⟨(by repeat (first | exact Sel.all | exact Sel.none | exact Sel.hd | (apply Sel.one; · repeat (first | exact Pick.h | apply Pick.t | apply Pick.app)) | apply Sel.app | (with_reducible apply Sel.grp; · repeat (first | exact PickF.h | apply PickF.t | apply PickF.a)) | (with_reducible refine Sel.nilF (by with_unfolding_all rfl) ?_) | apply Sel.drop | apply Sel.dropF)), ?_⟩
                            refine wa_all [5] (by kernel_rfl) rfl (wall_one 5 rfl rfl ?_ trivial)
                            refine OP.ev rfl rfl (eLdW ty92 rfl rfl (by repeat (first | exact Has.h | apply Has.t | apply Has.app)) (by rfl)) ?_
                            refine ⟨(by repeat (first | exact Sel.all | exact Sel.none | exact Sel.hd | (apply Sel.one; · repeat (first | exact Pick.h | apply Pick.t | apply Pick.app)) | apply Sel.app | (with_reducible apply Sel.grp; · repeat (first | exact PickF.h | apply PickF.t | apply PickF.a)) | (with_reducible refine Sel.nilF (by with_unfolding_all rfl) ?_) | apply Sel.drop | apply Sel.dropF)), ?_⟩
                            refine wa_all [6] (by kernel_rfl) rfl (wall_one 6 rfl rfl ?_ trivial)
                            first
                            | (have hg9 := hdt
                               refine oC rfl pf73 rfl (do73_ok v _ (torn t.2 tear) (slH t.1 (max 0 ((t.2.B.length : Int) - min tear 1073741824))) _ hFv2 hdt (isB_take htb _) (by omega) (hcan.torn hris tear) (Nat.le_trans (by show (t.2.B.take _).length ≤ t.2.B.length; rw [List.length_take]; omega) hlen) (by show (fgetD _ t.2.name).length ≤ _; omega)) (by repeat (first | exact Sel.all | exact Sel.none | exact Sel.hd | (apply Sel.one; · repeat (first | exact Pick.h | apply Pick.t | apply Pick.app)) | apply Sel.app | (with_reducible apply Sel.grp; · repeat (first | exact PickF.h | apply PickF.t | apply PickF.a)) | (with_reducible refine Sel.nilF (by with_unfolding_all rfl) ?_) | apply Sel.drop | apply Sel.dropF)) ?_
                               rintro v61 _ ⟨I3, hI3, hF3, rfl⟩
                               have hF4 : FilesV W0 I3 v61 (curF d.last d.acts N tear (i + 1)) := by rw [curF_last (by omega) hat]; exact hF3)
                            | (refine oC rfl pf73 rfl (do73_ok v _ t.2 t.1 _ hFv2 (htr.sel hI2) htb (by omega) hcan hlen (by omega)) (by repeat (first | exact Sel.all | exact Sel.none | exact Sel.hd | (apply Sel.one; · repeat (first | exact Pick.h | apply Pick.t | apply Pick.app)) | apply Sel.app | (with_reducible apply Sel.grp; · repeat (first | exact PickF.h | apply PickF.t | apply PickF.a)) | (with_reducible refine Sel.nilF (by with_unfolding_all rfl) ?_) | apply Sel.drop | apply Sel.dropF)) ?_
                               rintro v61 _ ⟨I3, hI3, hF3, rfl⟩
                               have hF4 : FilesV W0 I3 v61 (curF d.last d.acts N tear (i + 1)) := by
                                 by_cases hlast : i + 1 = N
                                 · have hts : t.2.B = [] ∨ tear ≤ 0 := by first | (right; omega) | (left; exact hcan.nil (by omega))
                                   rw [curF_last hlast hat, torn_same hts]
                                   exact hF3
                                 · rw [curF_mid (by omega) hat]
                                   exact hF3)
                            refine ⟨(by repeat (first | exact Sel.all | exact Sel.none | exact Sel.hd | (apply Sel.one; · repeat (first | exact Pick.h | apply Pick.t | apply Pick.app)) | apply Sel.app | (with_reducible apply Sel.grp; · repeat (first | exact PickF.h | apply PickF.t | apply PickF.a)) | (with_reducible refine Sel.nilF (by with_unfolding_all rfl) ?_) | apply Sel.drop | apply Sel.dropF)), ?_⟩
                            refine wa_take 7 (by kernel_rfl) rfl rfl rfl rfl (by repeat (first | exact Sel.all | exact Sel.none | exact Sel.hd | (apply Sel.one; · repeat (first | exact Pick.h | apply Pick.t | apply Pick.app)) | apply Sel.app | (with_reducible apply Sel.grp; · repeat (first | exact PickF.h | apply PickF.t | apply PickF.a)) | (with_reducible refine Sel.nilF (by with_unfolding_all rfl) ?_) | apply Sel.drop | apply Sel.dropF)) (eNil rfl) ?_
                            refine wa_take 8 (by kernel_rfl) rfl rfl rfl rfl (by repeat (first | exact Sel.all | exact Sel.none | exact Sel.hd | (apply Sel.one; · repeat (first | exact Pick.h | apply Pick.t | apply Pick.app)) | apply Sel.app | (with_reducible apply Sel.grp; · repeat (first | exact PickF.h | apply PickF.t | apply PickF.a)) | (with_reducible refine Sel.nilF (by with_unfolding_all rfl) ?_) | apply Sel.drop | apply Sel.dropF)) (eFld 1 ty86 rfl rfl ty83 rfl) ?_
                            refine wa_all [9] (by kernel_rfl) rfl (wall_one 9 rfl rfl ?_ trivial)
                            have hF5 := hF4
                            obtain ⟨xs9, hr9, _⟩ := hF5
                            obtain ⟨ad9, k9, c9, hs9⟩ := hr9.isSlice
                            have hon9 := congrArg Value.oneCell' hs9
                            refine oSt ty83 rfl rfl hon9 rfl (by repeat (first | exact Upd.h | apply Upd.t | apply Upd.app)) (by first | decide | simp) (by rfl) ?_
                            refine ⟨(by repeat (first | exact Sel.all | exact Sel.none | exact Sel.hd | (apply Sel.one; · repeat (first | exact Pick.h | apply Pick.t | apply Pick.app)) | apply Sel.app | (with_reducible apply Sel.grp; · repeat (first | exact PickF.h | apply PickF.t | apply PickF.a)) | (with_reducible refine Sel.nilF (by with_unfolding_all rfl) ?_) | apply Sel.drop | apply Sel.dropF)), ?_⟩
                            refine wa_nil (by kernel_rfl) ?_
                            refine wc_region ?_
                            first | refine wl rfl (OP.ev rfl rfl (eAdd rfl rfl (by omega)) ?_) | refine wl rfl (OP.ev rfl rfl (eAddW rfl rfl) ?_)
                            refine wl rfl (OP.ev rfl rfl (eMv rfl) ?_)
                            refine wl_nil ?_
                            exact ⟨(i + 1, v61, I3), ⟨by show i + 1 ≤ N; omega, hI3.trans hI2, hF4⟩, by show _ - (i + 1) < _; omega, ⟨rfl, rfl, rfl, rfl, rfl, rfl, trivial⟩, (by repeat (first | exact Sel.all | exact Sel.none | exact Sel.hd | (apply Sel.one; · repeat (first | exact Pick.h | apply Pick.t | apply Pick.app)) | apply Sel.app | (with_reducible apply Sel.grp; · repeat (first | exact PickF.h | apply PickF.t | apply PickF.a)) | (with_reducible refine Sel.nilF (by with_unfolding_all rfl) ?_) | apply Sel.drop | apply Sel.dropF))⟩
                          · skip
                            refine OP.ev rfl rfl (eLdW ty92 rfl rfl (by repeat (first | exact Has.h | apply Has.t | apply Has.app)) (by rfl)) ?_
                            refine ⟨(by repeat (first | exact Sel.all | exact Sel.none | exact Sel.hd | (apply Sel.one; · repeat (first | exact Pick.h | apply Pick.t | apply Pick.app)) | apply Sel.app | (with_reducible apply Sel.grp; · repeat (first | exact PickF.h | apply PickF.t | apply PickF.a)) | (with_reducible refine Sel.nilF (by with_unfolding_all rfl) ?_) | apply Sel.drop | apply Sel.dropF)), ?_⟩
                            refine wa_all [4] (by kernel_rfl) rfl (wall_one 4 rfl rfl ?_ trivial)
                            refine OP.ev rfl rfl (eLd ty83 rfl rfl (by repeat (first | exact Has.h | apply Has.t | apply Has.app)) (by rfl)) ?_
                            refine ⟨(by repeat (first | exact Sel.all | exact Sel.none | exact Sel.hd | (apply Sel.one; · repeat (first | exact Pick.h | apply Pick.t | apply Pick.app)) | apply Sel.app | (with_reducible apply Sel.grp; · repeat (first | exact PickF.h | apply PickF.t | apply PickF.a)) | (with_reducible refine Sel.nilF (by with_unfolding_all rfl) ?_) | apply Sel.drop | apply Sel.dropF)), ?_⟩
                            refine wa_all [6] (by kernel_rfl) rfl (wall_one 6 rfl rfl ?_ trivial)
                            first
                            | (have hg9 := hdt
                               refine oC rfl pf73 rfl (do73_ok v _ (torn t.2 tear) (slH t.1 (max 0 ((t.2.B.length : Int) - min tear 1073741824))) _ hFv2 hdt (isB_take htb _) (by omega) (hcan.torn hris tear) (Nat.le_trans (by show (t.2.B.take _).length ≤ t.2.B.length; rw [List.length_take]; omega) hlen) (by show (fgetD _ t.2.name).length ≤ _; omega)) (by repeat (first | exact Sel.all | exact Sel.none | exact Sel.hd | (apply Sel.one; · repeat (first | exact Pick.h | apply Pick.t | apply Pick.app)) | apply Sel.app | (with_reducible apply Sel.grp; · repeat (first | exact PickF.h | apply PickF.t | apply PickF.a)) | (with_reducible refine Sel.nilF (by with_unfolding_all rfl) ?_) | apply Sel.drop | apply Sel.dropF)) ?_
                               rintro v61 _ ⟨I3, hI3, hF3, rfl⟩
                               have hF4 : FilesV W0 I3 v61 (curF d.last d.acts N tear (i + 1)) := by rw [curF_last (by omega) hat]; exact hF3)
                            | (refine oC rfl pf73 rfl (do73_ok v _ t.2 t.1 _ hFv2 (htr.sel hI2) htb (by omega) hcan hlen (by omega)) (by repeat (first | exact Sel.all | exact Sel.none | exact Sel.hd | (apply Sel.one; · repeat (first | exact Pick.h | apply Pick.t | apply Pick.app)) | apply Sel.app | (with_reducible apply Sel.grp; · repeat (first | exact PickF.h | apply PickF.t | apply PickF.a)) | (with_reducible refine Sel.nilF (by with_unfolding_all rfl) ?_) | apply Sel.drop | apply Sel.dropF)) ?_
                               rintro v61 _ ⟨I3, hI3, hF3, rfl⟩
                               have hF4 : FilesV W0 I3 v61 (curF d.last d.acts N tear (i + 1)) := by
                                 by_cases hlast : i + 1 = N
                                 · have hts : t.2.B = [] ∨ tear ≤ 0 := by first | (right; omega) | (left; exact hcan.nil (by omega))
                                   rw [curF_last hlast hat, torn_same hts]
                                   exact hF3
                                 · rw [curF_mid (by omega) hat]
                                   exact hF3)
                            refine ⟨(by repeat (first | exact Sel.all | exact Sel.none | exact Sel.hd | (apply Sel.one; · repeat (first | exact Pick.h | apply Pick.t | apply Pick.app)) | apply Sel.app | (with_reducible apply Sel.grp; · repeat (first | exact PickF.h | apply PickF.t | apply PickF.a)) | (with_reducible refine Sel.nilF (by with_unfolding_all rfl) ?_) | apply Sel.drop | apply Sel.dropF)), ?_⟩
                            refine wa_take 7 (by kernel_rfl) rfl rfl rfl rfl (by repeat (first | exact Sel.all | exact Sel.none | exact Sel.hd | (apply Sel.one; · repeat (first | exact Pick.h | apply Pick.t | apply Pick.app)) | apply Sel.app | (with_reducible apply Sel.grp; · repeat (first | exact PickF.h | apply PickF.t | apply PickF.a)) | (with_reducible refine Sel.nilF (by with_unfolding_all rfl) ?_) | apply Sel.drop | apply Sel.dropF)) (eNil rfl) ?_
                            refine wa_take 8 (by kernel_rfl) rfl rfl rfl rfl (by repeat (first | exact Sel.all | exact Sel.none | exact Sel.hd | (apply Sel.one; · repeat (first | exact Pick.h | apply Pick.t | apply Pick.app)) | apply Sel.app | (with_reducible apply Sel.grp; · repeat (first | exact PickF.h | apply PickF.t | apply PickF.a)) | (with_reducible refine Sel.nilF (by with_unfolding_all rfl) ?_) | apply Sel.drop | apply Sel.dropF)) (eFld 1 ty86 rfl rfl ty83 rfl) ?_
                            refine wa_all [9] (by kernel_rfl) rfl (wall_one 9 rfl rfl ?_ trivial)
                            have hF5 := hF4
                            obtain ⟨xs9, hr9, _⟩ := hF5
                            obtain ⟨ad9, k9, c9, hs9⟩ := hr9.isSlice
                            have hon9 := congrArg Value.oneCell' hs9
                            refine oSt ty83 rfl rfl hon9 rfl (by repeat (first | exact Upd.h | apply Upd.t | apply Upd.app)) (by first | decide | simp) (by rfl) ?_
                            refine ⟨(by repeat (first | exact Sel.all | exact Sel.none | exact Sel.hd | (apply Sel.one; · repeat (first | exact Pick.h | apply Pick.t | apply Pick.app)) | apply Sel.app | (with_reducible apply Sel.grp; · repeat (first | exact PickF.h | apply PickF.t | apply PickF.a)) | (with_reducible refine Sel.nilF (by with_unfolding_all rfl) ?_) | apply Sel.drop | apply Sel.dropF)), ?_⟩
                            refine wa_nil (by kernel_rfl) ?_
                            refine wc_region ?_
                            first | refine wl rfl (OP.ev rfl rfl (eAdd rfl rfl (by omega)) ?_) | refine wl rfl (OP.ev rfl rfl (eAddW rfl rfl) ?_)
                            refine wl rfl (OP.ev rfl rfl (eMv rfl) ?_)
                            refine wl_nil ?_
                            exact ⟨(i + 1, v61, I3), ⟨by show i + 1 ≤ N; omega, hI3.trans hI2, hF4⟩, by show _ - (i + 1) < _; omega, ⟨rfl, rfl, rfl, rfl, rfl, rfl, trivial⟩, (by repeat (first | exact Sel.all | exact Sel.none | exact Sel.hd | (apply Sel.one; · repeat (first | exact Pick.h | apply Pick.t | apply Pick.app)) | apply Sel.app | (with_reducible apply Sel.grp; · repeat (first | exact PickF.h | apply PickF.t | apply PickF.a)) | (with_reducible refine Sel.nilF (by with_unfolding_all rfl) ?_) | apply Sel.drop | apply Sel.dropF))⟩))
                  | false =>
                    try have c_t37 := df h37
                    first
                    | (exfalso; omega)
                    | (
                      refine wl_skip rfl rfl rfl rfl rfl ?_
                      refine wl_skip rfl rfl rfl rfl rfl ?_
                      refine wl rfl (OP.ev rfl rfl (ePk rfl rfl) ?_)
                      refine wl_nil ?_
                      refine wc_else rfl ?_
                      refine wc_skip ?_
                      refine wc_draw [] rfl ?_
                      refine wa_take 0 (by kernel_rfl) rfl rfl rfl rfl (by repeat (first | exact Sel.all | exact Sel.none | exact Sel.hd | (apply Sel.one; · repeat (first | exact Pick.h | apply Pick.t | apply Pick.app)) | apply Sel.app | (with_reducible apply Sel.grp; · repeat (first | exact PickF.h | apply PickF.t | apply PickF.a)) | (with_reducible refine Sel.nilF (by with_unfolding_all rfl) ?_) | apply Sel.drop | apply Sel.dropF)) (eMv rfl) ?_
                      refine wa_take 1 (by kernel_rfl) rfl rfl rfl rfl (by repeat (first | exact Sel.all | exact Sel.none | exact Sel.hd | (apply Sel.one; · repeat (first | exact Pick.h | apply Pick.t | apply Pick.app)) | apply Sel.app | (with_reducible apply Sel.grp; · repeat (first | exact PickF.h | apply PickF.t | apply PickF.a)) | (with_reducible refine Sel.nilF (by with_unfolding_all rfl) ?_) | apply Sel.drop | apply Sel.dropF)) (eMv rfl) ?_
                      refine wa_take 2 (by kernel_rfl) rfl rfl rfl rfl (by repeat (first | exact Sel.all | exact Sel.none | exact Sel.hd | (apply Sel.one; · repeat (first | exact Pick.h | apply Pick.t | apply Pick.app)) | apply Sel.app | (with_reducible apply Sel.grp; · repeat (first | exact PickF.h | apply PickF.t | apply PickF.a)) | (with_reducible refine Sel.nilF (by with_unfolding_all rfl) ?_) | apply Sel.drop | apply Sel.dropF)) (eNil rfl) ?_
                      refine wa_take 3 (by kernel_rfl) rfl rfl rfl rfl (by repeat (first | exact Sel.all | exact Sel.none | exact Sel.hd | (apply Sel.one; · repeat (first | exact Pick.h | apply Pick.t | apply Pick.app)) | apply Sel.app | (with_reducible apply Sel.grp; · repeat (first | exact PickF.h | apply PickF.t | apply PickF.a)) | (with_reducible refine Sel.nilF (by with_unfolding_all rfl) ?_) | apply Sel.drop | apply Sel.dropF)) (eFld 1 ty86 rfl rfl ty83 rfl) ?_
                      refine wa_all [4, 5] (by kernel_rfl) rfl ⟨⟨_, rfl, .inl rfl, ?_⟩, ⟨_, rfl, .inl rfl, ?_⟩, trivial⟩
                      · skip
                        refine OP.ev rfl rfl (eLd ty83 rfl rfl (by repeat (first | exact Has.h | apply Has.t | apply Has.app)) (by rfl)) ?_
                        refine ⟨(by repeat (first | exact Sel.all | exact Sel.none | exact Sel.hd | (apply Sel.one; · repeat (first | exact Pick.h | apply Pick.t | apply Pick.app)) | apply Sel.app | (with_reducible apply Sel.grp; · repeat (first | exact PickF.h | apply PickF.t | apply PickF.a)) | (with_reducible refine Sel.nilF (by with_unfolding_all rfl) ?_) | apply Sel.drop | apply Sel.dropF)), ?_⟩
                        refine wa_all [5] (by kernel_rfl) rfl (wall_one 5 rfl rfl ?_ trivial)
                        refine OP.ev rfl rfl (eLdW ty92 rfl rfl (by repeat (first | exact Has.h | apply Has.t | apply Has.app)) (by rfl)) ?_
                        refine ⟨(by repeat (first | exact Sel.all | exact Sel.none | exact Sel.hd | (apply Sel.one; · repeat (first | exact Pick.h | apply Pick.t | apply Pick.app)) | apply Sel.app | (with_reducible apply Sel.grp; · repeat (first | exact PickF.h | apply PickF.t | apply PickF.a)) | (with_reducible refine Sel.nilF (by with_unfolding_all rfl) ?_) | apply Sel.drop | apply Sel.dropF)), ?_⟩
                        refine wa_all [6] (by kernel_rfl) rfl (wall_one 6 rfl rfl ?_ trivial)
                        first
                        | (have hg9 := hdt
                           refine oC rfl pf73 rfl (do73_ok v _ (torn t.2 tear) (slH t.1 (max 0 ((t.2.B.length : Int) - min tear 1073741824))) _ hFv2 hdt (isB_take htb _) (by omega) (hcan.torn hris tear) (Nat.le_trans (by show (t.2.B.take _).length ≤ t.2.B.length; rw [List.length_take]; omega) hlen) (by show (fgetD _ t.2.name).length ≤ _; omega)) (by repeat (first | exact Sel.all | exact Sel.none | exact Sel.hd | (apply Sel.one; · repeat (first | exact Pick.h | apply Pick.t | apply Pick.app)) | apply Sel.app | (with_reducible apply Sel.grp; · repeat (first | exact PickF.h | apply PickF.t | apply PickF.a)) | (with_reducible refine Sel.nilF (by with_unfolding_all rfl) ?_) | apply Sel.drop | apply Sel.dropF)) ?_
                           rintro v61 _ ⟨I3, hI3, hF3, rfl⟩
                           have hF4 : FilesV W0 I3 v61 (curF d.last d.acts N tear (i + 1)) := by rw [curF_last (by omega) hat]; exact hF3)
                        | (refine oC rfl pf73 rfl (do73_ok v _ t.2 t.1 _ hFv2 (htr.sel hI2) htb (by omega) hcan hlen (by omega)) (by repeat (first | exact Sel.all | exact Sel.none | exact Sel.hd | (apply Sel.one; · repeat (first | exact Pick.h | apply Pick.t | apply Pick.app)) | apply Sel.app | (with_reducible apply Sel.grp; · repeat (first | exact PickF.h | apply PickF.t | apply PickF.a)) | (with_reducible refine Sel.nilF (by with_unfolding_all rfl) ?_) | apply Sel.drop | apply Sel.dropF)) ?_
                           rintro v61 _ ⟨I3, hI3, hF3, rfl⟩
                           have hF4 : FilesV W0 I3 v61 (curF d.last d.acts N tear (i + 1)) := by
                             by_cases hlast : i + 1 = N
                             · have hts : t.2.B = [] ∨ tear ≤ 0 := by first | (right; omega) | (left; exact hcan.nil (by omega))
                               rw [curF_last hlast hat, torn_same hts]
                               exact hF3
                             · rw [curF_mid (by omega) hat]
                               exact hF3)
                        refine ⟨(by repeat (first | exact Sel.all | exact Sel.none | exact Sel.hd | (apply Sel.one; · repeat (first | exact Pick.h | apply Pick.t | apply Pick.app)) | apply Sel.app | (with_reducible apply Sel.grp; · repeat (first | exact PickF.h | apply PickF.t | apply PickF.a)) | (with_reducible refine Sel.nilF (by with_unfolding_all rfl) ?_) | apply Sel.drop | apply Sel.dropF)), ?_⟩
                        refine wa_take 7 (by kernel_rfl) rfl rfl rfl rfl (by repeat (first | exact Sel.all | exact Sel.none | exact Sel.hd | (apply Sel.one; · repeat (first | exact Pick.h | apply Pick.t | apply Pick.app)) | apply Sel.app | (with_reducible apply Sel.grp; · repeat (first | exact PickF.h | apply PickF.t | apply PickF.a)) | (with_reducible refine Sel.nilF (by with_unfolding_all rfl) ?_) | apply Sel.drop | apply Sel.dropF)) (eNil rfl) ?_
                        refine wa_take 8 (by kernel_rfl) rfl rfl rfl rfl (by repeat (first | exact Sel.all | exact Sel.none | exact Sel.hd | (apply Sel.one; · repeat (first | exact Pick.h | apply Pick.t | apply Pick.app)) | apply Sel.app | (with_reducible apply Sel.grp; · repeat (first | exact PickF.h | apply PickF.t | apply PickF.a)) | (with_reducible refine Sel.nilF (by with_unfolding_all rfl) ?_) | apply Sel.drop | apply Sel.dropF)) (eFld 1 ty86 rfl rfl ty83 rfl) ?_
                        refine wa_all [9] (by kernel_rfl) rfl (wall_one 9 rfl rfl ?_ trivial)
                        have hF5 := hF4
                        obtain ⟨xs9, hr9, _⟩ := hF5
                        obtain ⟨ad9, k9, c9, hs9⟩ := hr9.isSlice
                        have hon9 := congrArg Value.oneCell' hs9
                        refine oSt ty83 rfl rfl hon9 rfl (by repeat (first | exact Upd.h | apply Upd.t | apply Upd.app)) (by first | decide | simp) (by rfl) ?_
                        refine ⟨(by repeat (first | exact Sel.all | exact Sel.none | exact Sel.hd | (apply Sel.one; · repeat (first | exact Pick.h | apply Pick.t | apply Pick.app)) | apply Sel.app | (with_reducible apply Sel.grp; · repeat (first | exact PickF.h | apply PickF.t | apply PickF.a)) | (with_reducible refine Sel.nilF (by with_unfolding_all rfl) ?_) | apply Sel.drop | apply Sel.dropF)), ?_⟩
                        refine wa_nil (by kernel_rfl) ?_
                        refine wc_region ?_
                        first | refine wl rfl (OP.ev rfl rfl (eAdd rfl rfl (by omega)) ?_) | refine wl rfl (OP.ev rfl rfl (eAddW rfl rfl) ?_)
                        refine wl rfl (OP.ev rfl rfl (eMv rfl) ?_)
                        refine wl_nil ?_
                        exact ⟨(i + 1, v61, I3), ⟨by show i + 1 ≤ N; omega, hI3.trans hI2, hF4⟩, by show _ - (i + 1) < _; omega, ⟨rfl, rfl, rfl, rfl, rfl, rfl, trivial⟩, (by repeat (first | exact Sel.all | exact Sel.none | exact Sel.hd | (apply Sel.one; · repeat (first | exact Pick.h | apply Pick.t | apply Pick.app)) | apply Sel.app | (with_reducible apply Sel.grp; · repeat (first | exact PickF.h | apply PickF.t | apply PickF.a)) | (with_reducible refine Sel.nilF (by with_unfolding_all rfl) ?_) | apply Sel.drop | apply Sel.dropF))⟩
                      · skip
                        refine OP.ev rfl rfl (eLdW ty92 rfl rfl (by repeat (first | exact Has.h | apply Has.t | apply Has.app)) (by rfl)) ?_
                        refine ⟨(by repeat (first | exact Sel.all | exact Sel.none | exact Sel.hd | (apply Sel.one; · repeat (first | exact Pick.h | apply Pick.t | apply Pick.app)) | apply Sel.app | (with_reducible apply Sel.grp; · repeat (first | exact PickF.h | apply PickF.t | apply PickF.a)) | (with_reducible refine Sel.nilF (by with_unfolding_all rfl) ?_) | apply Sel.drop | apply Sel.dropF)), ?_⟩
                        refine wa_all [4] (by kernel_rfl) rfl (wall_one 4 rfl rfl ?_ trivial)
                        refine OP.ev rfl rfl (eLd ty83 rfl rfl (by repeat (first | exact Has.h | apply Has.t | apply Has.app)) (by rfl)) ?_
                        refine ⟨(by repeat (first | exact Sel.all | exact Sel.none | exact Sel.hd | (apply Sel.one; · repeat (first | exact Pick.h | apply Pick.t | apply Pick.app)) | apply Sel.app | (with_reducible apply Sel.grp; · repeat (first | exact PickF.h | apply PickF.t | apply PickF.a)) | (with_reducible refine Sel.nilF (by with_unfolding_all rfl) ?_) | apply Sel.drop | apply Sel.dropF)), ?_⟩
                        refine wa_all [6] (by kernel_rfl) rfl (wall_one 6 rfl rfl ?_ trivial)
                        first
                        | (have hg9 := hdt
                           refine oC rfl pf73 rfl (do73_ok v _ (torn t.2 tear) (slH t.1 (max 0 ((t.2.B.length : Int) - min tear 1073741824))) _ hFv2 hdt (isB_take htb _) (by omega) (hcan.torn hris tear) (Nat.le_trans (by show (t.2.B.take _).length ≤ t.2.B.length; rw [List.length_take]; omega) hlen) (by show (fgetD _ t.2.name).length ≤ _; omega)) (by repeat (first | exact Sel.all | exact Sel.none | exact Sel.hd | (apply Sel.one; · repeat (first | exact Pick.h | apply Pick.t | apply Pick.app)) | apply Sel.app | (with_reducible apply Sel.grp; · repeat (first | exact PickF.h | apply PickF.t | apply PickF.a)) | (with_reducible refine Sel.nilF (by with_unfolding_all rfl) ?_) | apply Sel.drop | apply Sel.dropF)) ?_
                           rintro v61 _ ⟨I3, hI3, hF3, rfl⟩
                           have hF4 : FilesV W0 I3 v61 (curF d.last d.acts N tear (i + 1)) := by rw [curF_last (by omega) hat]; exact hF3)
                        | (refine oC rfl pf73 rfl (do73_ok v _ t.2 t.1 _ hFv2 (htr.sel hI2) htb (by omega) hcan hlen (by omega)) (by repeat (first | exact Sel.all | exact Sel.none | exact Sel.hd | (apply Sel.one; · repeat (first | exact Pick.h | apply Pick.t | apply Pick.app)) | apply Sel.app | (with_reducible apply Sel.grp; · repeat (first | exact PickF.h | apply PickF.t | apply PickF.a)) | (with_reducible refine Sel.nilF (by with_unfolding_all rfl) ?_) | apply Sel.drop | apply Sel.dropF)) ?_
                           rintro v61 _ ⟨I3, hI3, hF3, rfl⟩
                           have hF4 : FilesV W0 I3 v61 (curF d.last d.acts N tear (i + 1)) := by
                             by_cases hlast : i + 1 = N
                             · have hts : t.2.B = [] ∨ tear ≤ 0 := by first | (right; omega) | (left; exact hcan.nil (by omega))
                               rw [curF_last hlast hat, torn_same hts]
                               exact hF3
                             · rw [curF_mid (by omega) hat]
                               exact hF3)
                        refine ⟨(by repeat (first | exact Sel.all | exact Sel.none | exact Sel.hd | (apply Sel.one; · repeat (first | exact Pick.h | apply Pick.t | apply Pick.app)) | apply Sel.app | (with_reducible apply Sel.grp; · repeat (first | exact PickF.h | apply PickF.t | apply PickF.a)) | (with_reducible refine Sel.nilF (by with_unfolding_all rfl) ?_) | apply Sel.drop | apply Sel.dropF)), ?_⟩
                        refine wa_take 7 (by kernel_rfl) rfl rfl rfl rfl (by repeat (first | exact Sel.all | exact Sel.none | exact Sel.hd | (apply Sel.one; · repeat (first | exact Pick.h | apply Pick.t | apply Pick.app)) | apply Sel.app | (with_reducible apply Sel.grp; · repeat (first | exact PickF.h | apply PickF.t | apply PickF.a)) | (with_reducible refine Sel.nilF (by with_unfolding_all rfl) ?_) | apply Sel.drop | apply Sel.dropF)) (eNil rfl) ?_
                        refine wa_take 8 (by kernel_rfl) rfl rfl rfl rfl (by repeat (first | exact Sel.all | exact Sel.none | exact Sel.hd | (apply Sel.one; · repeat (first | exact Pick.h | apply Pick.t | apply Pick.app)) | apply Sel.app | (with_reducible apply Sel.grp; · repeat (first | exact PickF.h | apply PickF.t | apply PickF.a)) | (with_reducible refine Sel.nilF (by with_unfolding_all rfl) ?_) | apply Sel.drop | apply Sel.dropF)) (eFld 1 ty86 rfl rfl ty83 rfl) ?_
                        refine wa_all [9] (by kernel_rfl) rfl (wall_one 9 rfl rfl ?_ trivial)
                        have hF5 := hF4
                        obtain ⟨xs9, hr9, _⟩ := hF5
                        obtain ⟨ad9, k9, c9, hs9⟩ := hr9.isSlice
                        have hon9 := congrArg Value.oneCell' hs9
                        refine oSt ty83 rfl rfl hon9 rfl (by repeat (first | exact Upd.h | apply Upd.t | apply Upd.app)) (by first | decide | simp) (by rfl) ?_
                        refine ⟨(by repeat (first | exact Sel.all | exact Sel.none | exact Sel.hd | (apply Sel.one; · repeat (first | exact Pick.h | apply Pick.t | apply Pick.app)) | apply Sel.app | (with_reducible apply Sel.grp; · repeat (first | exact PickF.h | apply PickF.t | apply PickF.a)) | (with_reducible refine Sel.nilF (by with_unfolding_all rfl) ?_) | apply Sel.drop | apply Sel.dropF)), ?_⟩
                        refine wa_nil (by kernel_rfl) ?_
                        refine wc_region ?_
                        first | refine wl rfl (OP.ev rfl rfl (eAdd rfl rfl (by omega)) ?_) | refine wl rfl (OP.ev rfl rfl (eAddW rfl rfl) ?_)
                        refine wl rfl (OP.ev rfl rfl (eMv rfl) ?_)
                        refine wl_nil ?_
                        exact ⟨(i + 1, v61, I3), ⟨by show i + 1 ≤ N; omega, hI3.trans hI2, hF4⟩, by show _ - (i + 1) < _; omega, ⟨rfl, rfl, rfl, rfl, rfl, rfl, trivial⟩, (by repeat (first | exact Sel.all | exact Sel.none | exact Sel.hd | (apply Sel.one; · repeat (first | exact Pick.h | apply Pick.t | apply Pick.app)) | apply Sel.app | (with_reducible apply Sel.grp; · repeat (first | exact PickF.h | apply PickF.t | apply PickF.a)) | (with_reducible refine Sel.nilF (by with_unfolding_all rfl) ?_) | apply Sel.drop | apply Sel.dropF))⟩)))
          | false =>
            try have c_t23 := df h23
            first
            | (exfalso; omega)
            | (
              refine wl_skip rfl rfl rfl rfl rfl ?_
              refine wl_skip rfl rfl rfl rfl rfl ?_
              refine wl_skip rfl rfl rfl rfl rfl ?_
              refine wl_skip rfl rfl rfl rfl rfl ?_
              refine wl_skip rfl rfl rfl rfl rfl ?_
              refine wl_skipU rfl rfl rfl rfl ?_
              refine wl_skipU rfl rfl rfl rfl ?_
              refine wl_skipU rfl rfl rfl rfl ?_
              refine wl_skipU rfl rfl rfl rfl ?_
              refine wl_skipU rfl rfl rfl rfl ?_
              refine wl_skipU rfl rfl rfl rfl ?_
              refine wl_skipU rfl rfl rfl rfl ?_
              refine wl_skipU rfl rfl rfl rfl ?_
              refine wl_skip rfl rfl rfl rfl rfl ?_
              refine wl rfl (OP.ev rfl rfl (ePk rfl rfl) ?_)
              refine wl rfl (OP.ev rfl rfl (eMv rfl) ?_)
              refine wl_skip rfl rfl rfl rfl rfl ?_
              refine wl_skip rfl rfl rfl rfl rfl ?_
              refine wl rfl (OP.ev rfl rfl (ePk rfl rfl) ?_)
              refine wl_nil ?_
              refine wc_else rfl ?_
              refine wc_skip ?_
              refine wc_draw [] rfl ?_
              refine wa_take 0 (by kernel_rfl) rfl rfl rfl rfl (by repeat (first | exact Sel.all | exact Sel.none | exact Sel.hd | (apply Sel.one; · repeat (first | exact Pick.h | apply Pick.t | apply Pick.app)) | apply Sel.app | (with_reducible apply Sel.grp; · repeat (first | exact PickF.h | apply PickF.t | apply PickF.a)) | (with_reducible refine Sel.nilF (by with_unfolding_all rfl) ?_) | apply Sel.drop | apply Sel.dropF)) (eMv rfl) ?_
              refine wa_take 1 (by kernel_rfl) rfl rfl rfl rfl (by repeat (first | exact Sel.all | exact Sel.none | exact Sel.hd | (apply Sel.one; · repeat (first | exact Pick.h | apply Pick.t | apply Pick.app)) | apply Sel.app | (with_reducible apply Sel.grp; · repeat (first | exact PickF.h | apply PickF.t | apply PickF.a)) | (with_reducible refine Sel.nilF (by with_unfolding_all rfl) ?_) | apply Sel.drop | apply Sel.dropF)) (eMv rfl) ?_
              refine wa_take 2 (by kernel_rfl) rfl rfl rfl rfl (by repeat (first | exact Sel.all | exact Sel.none | exact Sel.hd | (apply Sel.one; · repeat (first | exact Pick.h | apply Pick.t | apply Pick.app)) | apply Sel.app | (with_reducible apply Sel.grp; · repeat (first | exact PickF.h | apply PickF.t | apply PickF.a)) | (with_reducible refine Sel.nilF (by with_unfolding_all rfl) ?_) | apply Sel.drop | apply Sel.dropF)) (eNil rfl) ?_
              refine wa_take 3 (by kernel_rfl) rfl rfl rfl rfl (by repeat (first | exact Sel.all | exact Sel.none | exact Sel.hd | (apply Sel.one; · repeat (first | exact Pick.h | apply Pick.t | apply Pick.app)) | apply Sel.app | (with_reducible apply Sel.grp; · repeat (first | exact PickF.h | apply PickF.t | apply PickF.a)) | (with_reducible refine Sel.nilF (by with_unfolding_all rfl) ?_) | apply Sel.drop | apply Sel.dropF)) (eFld 1 ty86 rfl rfl ty83 rfl) ?_
              refine wa_all [4, 5] (by kernel_rfl) rfl ⟨⟨_, rfl, .inl rfl, ?_⟩, ⟨_, rfl, .inl rfl, ?_⟩, trivial⟩
              · skip
                refine OP.ev rfl rfl (eLd ty83 rfl rfl (by repeat (first | exact Has.h | apply Has.t | apply Has.app)) (by rfl)) ?_
                refine ⟨(by repeat (first | exact Sel.all | exact Sel.none | exact Sel.hd | (apply Sel.one; · repeat (first | exact Pick.h | apply Pick.t | apply Pick.app)) | apply Sel.app | (with_reducible apply Sel.grp; · repeat (first | exact PickF.h | apply PickF.t | apply PickF.a)) | (with_reducible refine Sel.nilF (by with_unfolding_all rfl) ?_) | apply Sel.drop | apply Sel.dropF)), ?_⟩
                refine wa_all [5] (by kernel_rfl) rfl (wall_one 5 rfl rfl ?_ trivial)
                refine OP.ev rfl rfl (eLdW ty92 rfl rfl (by repeat (first | exact Has.h | apply Has.t | apply Has.app)) (by rfl)) ?_
                refine ⟨(by repeat (first | exact Sel.all | exact Sel.none | exact Sel.hd | (apply Sel.one; · repeat (first | exact Pick.h | apply Pick.t | apply Pick.app)) | apply Sel.app | (with_reducible apply Sel.grp; · repeat (first | exact PickF.h | apply PickF.t | apply PickF.a)) | (with_reducible refine Sel.nilF (by with_unfolding_all rfl) ?_) | apply Sel.drop | apply Sel.dropF)), ?_⟩
                refine wa_all [6] (by kernel_rfl) rfl (wall_one 6 rfl rfl ?_ trivial)
                first
                | (have hg9 := hdt
                   refine oC rfl pf73 rfl (do73_ok v _ (torn t.2 tear) (slH t.1 (max 0 ((t.2.B.length : Int) - min tear 1073741824))) _ hFv2 hdt (isB_take htb _) (by omega) (hcan.torn hris tear) (Nat.le_trans (by show (t.2.B.take _).length ≤ t.2.B.length; rw [List.length_take]; omega) hlen) (by show (fgetD _ t.2.name).length ≤ _; omega)) (by repeat (first | exact Sel.all | exact Sel.none | exact Sel.hd | (apply Sel.one; · repeat (first | exact Pick.h | apply Pick.t | apply Pick.app)) | apply Sel.app | (with_reducible apply Sel.grp; · repeat (first | exact PickF.h | apply PickF.t | apply PickF.a)) | (with_reducible refine Sel.nilF (by with_unfolding_all rfl) ?_) | apply Sel.drop | apply Sel.dropF)) ?_
                   rintro v61 _ ⟨I3, hI3, hF3, rfl⟩
                   have hF4 : FilesV W0 I3 v61 (curF d.last d.acts N tear (i + 1)) := by rw [curF_last (by omega) hat]; exact hF3)
                | (refine oC rfl pf73 rfl (do73_ok v _ t.2 t.1 _ hFv2 (htr.sel hI2) htb (by omega) hcan hlen (by omega)) (by repeat (first | exact Sel.all | exact Sel.none | exact Sel.hd | (apply Sel.one; · repeat (first | exact Pick.h | apply Pick.t | apply Pick.app)) | apply Sel.app | (with_reducible apply Sel.grp; · repeat (first | exact PickF.h | apply PickF.t | apply PickF.a)) | (with_reducible refine Sel.nilF (by with_unfolding_all rfl) ?_) | apply Sel.drop | apply Sel.dropF)) ?_
                   rintro v61 _ ⟨I3, hI3, hF3, rfl⟩
                   have hF4 : FilesV W0 I3 v61 (curF d.last d.acts N tear (i + 1)) := by
                     by_cases hlast : i + 1 = N
                     · have hts : t.2.B = [] ∨ tear ≤ 0 := by first | (right; omega) | (left; exact hcan.nil (by omega))
                       rw [curF_last hlast hat, torn_same hts]
                       exact hF3
                     · rw [curF_mid (by omega) hat]
                       exact hF3)
                refine ⟨(by repeat (first | exact Sel.all | exact Sel.none | exact Sel.hd | (apply Sel.one; · repeat (first | exact Pick.h | apply Pick.t | apply Pick.app)) | apply Sel.app | (with_reducible apply Sel.grp; · repeat (first | exact PickF.h | apply PickF.t | apply PickF.a)) | (with_reducible refine Sel.nilF (by with_unfolding_all rfl) ?_) | apply Sel.drop | apply Sel.dropF)), ?_⟩
                refine wa_take 7 (by kernel_rfl) rfl rfl rfl rfl (by repeat (first | exact Sel.all | exact Sel.none | exact Sel.hd | (apply Sel.one; · repeat (first | exact Pick.h | apply Pick.t | apply Pick.app)) | apply Sel.app | (with_reducible apply Sel.grp; · repeat (first | exact PickF.h | apply PickF.t | apply PickF.a)) | (with_reducible refine Sel.nilF (by with_unfolding_all rfl) ?_) | apply Sel.drop | apply Sel.dropF)) (eNil rfl) ?_
                refine wa_take 8 (by kernel_rfl) rfl rfl rfl rfl (by repeat (first | exact Sel.all | exact Sel.none | exact Sel.hd | (apply Sel.one; · repeat (first | exact Pick.h | apply Pick.t | apply Pick.app)) | apply Sel.app | (with_reducible apply Sel.grp; · repeat (first | exact PickF.h | apply PickF.t | apply PickF.a)) | (with_reducible refine Sel.nilF (by with_unfolding_all rfl) ?_) | apply Sel.drop | apply Sel.dropF)) (eFld 1 ty86 rfl rfl ty83 rfl) ?_
                refine wa_all [9] (by kernel_rfl) rfl (wall_one 9 rfl rfl ?_ trivial)
                have hF5 := hF4
                obtain ⟨xs9, hr9, _⟩ := hF5
                obtain ⟨ad9, k9, c9, hs9⟩ := hr9.isSlice
                have hon9 := congrArg Value.oneCell' hs9
                refine oSt ty83 rfl rfl hon9 rfl (by repeat (first | exact Upd.h | apply Upd.t | apply Upd.app)) (by first | decide | simp) (by rfl) ?_
                refine ⟨(by repeat (first | exact Sel.all | exact Sel.none | exact Sel.hd | (apply Sel.one; · repeat (first | exact Pick.h | apply Pick.t | apply Pick.app)) | apply Sel.app | (with_reducible apply Sel.grp; · repeat (first | exact PickF.h | apply PickF.t | apply PickF.a)) | (with_reducible refine Sel.nilF (by with_unfolding_all rfl) ?_) | apply Sel.drop | apply Sel.dropF)), ?_⟩
                refine wa_nil (by kernel_rfl) ?_
                refine wc_region ?_
                first | refine wl rfl (OP.ev rfl rfl (eAdd rfl rfl (by omega)) ?_) | refine wl rfl (OP.ev rfl rfl (eAddW rfl rfl) ?_)
                refine wl rfl (OP.ev rfl rfl (eMv rfl) ?_)
                refine wl_nil ?_
                exact ⟨(i + 1, v61, I3), ⟨by show i + 1 ≤ N; omega, hI3.trans hI2, hF4⟩, by show _ - (i + 1) < _; omega, ⟨rfl, rfl, rfl, rfl, rfl, rfl, trivial⟩, (by repeat (first | exact Sel.all | exact Sel.none | exact Sel.hd | (apply Sel.one; · repeat (first | exact Pick.h | apply Pick.t | apply Pick.app)) | apply Sel.app | (with_reducible apply Sel.grp; · repeat (first | exact PickF.h | apply PickF.t | apply PickF.a)) | (with_reducible refine Sel.nilF (by with_unfolding_all rfl) ?_) | apply Sel.drop | apply Sel.dropF))⟩
              · skip
                refine OP.ev rfl rfl (eLdW ty92 rfl rfl (by repeat (first | exact Has.h | apply Has.t | apply Has.app)) (by rfl)) ?_
                refine ⟨(by repeat (first | exact Sel.all | exact Sel.none | exact Sel.hd | (apply Sel.one; · repeat (first | exact Pick.h | apply Pick.t | apply Pick.app)) | apply Sel.app | (with_reducible apply Sel.grp; · repeat (first | exact PickF.h | apply PickF.t | apply PickF.a)) | (with_reducible refine Sel.nilF (by with_unfolding_all rfl) ?_) | apply Sel.drop | apply Sel.dropF)), ?_⟩
                refine wa_all [4] (by kernel_rfl) rfl (wall_one 4 rfl rfl ?_ trivial)
                refine OP.ev rfl rfl (eLd ty83 rfl rfl (by repeat (first | exact Has.h | apply Has.t | apply Has.app)) (by rfl)) ?_
                refine ⟨(by repeat (first | exact Sel.all | exact Sel.none | exact Sel.hd | (apply Sel.one; · repeat (first | exact Pick.h | apply Pick.t | apply Pick.app)) | apply Sel.app | (with_reducible apply Sel.grp; · repeat (first | exact PickF.h | apply PickF.t | apply PickF.a)) | (with_reducible refine Sel.nilF (by with_unfolding_all rfl) ?_) | apply Sel.drop | apply Sel.dropF)), ?_⟩
                refine wa_all [6] (by kernel_rfl) rfl (wall_one 6 rfl rfl ?_ trivial)
                first
                | (have hg9 := hdt
                   refine oC rfl pf73 rfl (do73_ok v _ (torn t.2 tear) (slH t.1 (max 0 ((t.2.B.length : Int) - min tear 1073741824))) _ hFv2 hdt (isB_take htb _) (by omega) (hcan.torn hris tear) (Nat.le_trans (by show (t.2.B.take _).length ≤ t.2.B.length; rw [List.length_take]; omega) hlen) (by show (fgetD _ t.2.name).length ≤ _; omega)) (by repeat (first | exact Sel.all | exact Sel.none | exact Sel.hd | (apply Sel.one; · repeat (first | exact Pick.h | apply Pick.t | apply Pick.app)) | apply Sel.app | (with_reducible apply Sel.grp; · repeat (first | exact PickF.h | apply PickF.t | apply PickF.a)) | (with_reducible refine Sel.nilF (by with_unfolding_all rfl) ?_) | apply Sel.drop | apply Sel.dropF)) ?_
                   rintro v61 _ ⟨I3, hI3, hF3, rfl⟩
                   have hF4 : FilesV W0 I3 v61 (curF d.last d.acts N tear (i + 1)) := by rw [curF_last (by omega) hat]; exact hF3)
                | (refine oC rfl pf73 rfl (do73_ok v _ t.2 t.1 _ hFv2 (htr.sel hI2) htb (by omega) hcan hlen (by omega)) (by repeat (first | exact Sel.all | exact Sel.none | exact Sel.hd | (apply Sel.one; · repeat (first | exact Pick.h | apply Pick.t | apply Pick.app)) | apply Sel.app | (with_reducible apply Sel.grp; · repeat (first | exact PickF.h | apply PickF.t | apply PickF.a)) | (with_reducible refine Sel.nilF (by with_unfolding_all rfl) ?_) | apply Sel.drop | apply Sel.dropF)) ?_
                   rintro v61 _ ⟨I3, hI3, hF3, rfl⟩
                   have hF4 : FilesV W0 I3 v61 (curF d.last d.acts N tear (i + 1)) := by
                     by_cases hlast : i + 1 = N
                     · have hts : t.2.B = [] ∨ tear ≤ 0 := by first | (right; omega) | (left; exact hcan.nil (by omega))
                       rw [curF_last hlast hat, torn_same hts]
                       exact hF3
                     · rw [curF_mid (by omega) hat]
                       exact hF3)
                refine ⟨(by repeat (first | exact Sel.all | exact Sel.none | exact Sel.hd | (apply Sel.one; · repeat (first | exact Pick.h | apply Pick.t | apply Pick.app)) | apply Sel.app | (with_reducible apply Sel.grp; · repeat (first | exact PickF.h | apply PickF.t | apply PickF.a)) | (with_reducible refine Sel.nilF (by with_unfolding_all rfl) ?_) | apply Sel.drop | apply Sel.dropF)), ?_⟩
                refine wa_take 7 (by kernel_rfl) rfl rfl rfl rfl (by repeat (first | exact Sel.all | exact Sel.none | exact Sel.hd | (apply Sel.one; · repeat (first | exact Pick.h | apply Pick.t | apply Pick.app)) | apply Sel.app | (with_reducible apply Sel.grp; · repeat (first | exact PickF.h | apply PickF.t | apply PickF.a)) | (with_reducible refine Sel.nilF (by with_unfolding_all rfl) ?_) | apply Sel.drop | apply Sel.dropF)) (eNil rfl) ?_
                refine wa_take 8 (by kernel_rfl) rfl rfl rfl rfl (by repeat (first | exact Sel.all | exact Sel.none | exact Sel.hd | (apply Sel.one; · repeat (first | exact Pick.h | apply Pick.t | apply Pick.app)) | apply Sel.app | (with_reducible apply Sel.grp; · repeat (first | exact PickF.h | apply PickF.t | apply PickF.a)) | (with_reducible refine Sel.nilF (by with_unfolding_all rfl) ?_) | apply Sel.drop | apply Sel.dropF)) (eFld 1 ty86 rfl rfl ty83 rfl) ?_
                refine wa_all [9] (by kernel_rfl) rfl (wall_one 9 rfl rfl ?_ trivial)
                have hF5 := hF4
                obtain ⟨xs9, hr9, _⟩ := hF5
                obtain ⟨ad9, k9, c9, hs9⟩ := hr9.isSlice
                have hon9 := congrArg Value.oneCell' hs9
                refine oSt ty83 rfl rfl hon9 rfl (by repeat (first | exact Upd.h | apply Upd.t | apply Upd.app)) (by first | decide | simp) (by rfl) ?_
                refine ⟨(by repeat (first | exact Sel.all | exact Sel.none | exact Sel.hd | (apply Sel.one; · repeat (first | exact Pick.h | apply Pick.t | apply Pick.app)) | apply Sel.app | (with_reducible apply Sel.grp; · repeat (first | exact PickF.h | apply PickF.t | apply PickF.a)) | (with_reducible refine Sel.nilF (by with_unfolding_all rfl) ?_) | apply Sel.drop | apply Sel.dropF)), ?_⟩
                refine wa_nil (by kernel_rfl) ?_
                refine wc_region ?_
                first | refine wl rfl (OP.ev rfl rfl (eAdd rfl rfl (by omega)) ?_) | refine wl rfl (OP.ev rfl rfl (eAddW rfl rfl) ?_)
                refine wl rfl (OP.ev rfl rfl (eMv rfl) ?_)
                refine wl_nil ?_
                exact ⟨(i + 1, v61, I3), ⟨by show i + 1 ≤ N; omega, hI3.trans hI2, hF4⟩, by show _ - (i + 1) < _; omega, ⟨rfl, rfl, rfl, rfl, rfl, rfl, trivial⟩, (by repeat (first | exact Sel.all | exact Sel.none | exact Sel.hd | (apply Sel.one; · repeat (first | exact Pick.h | apply Pick.t | apply Pick.app)) | apply Sel.app | (with_reducible apply Sel.grp; · repeat (first | exact PickF.h | apply PickF.t | apply PickF.a)) | (with_reducible refine Sel.nilF (by with_unfolding_all rfl) ?_) | apply Sel.drop | apply Sel.dropF))⟩)))
  | false =>
    try have c_t14 := df h14
    first
    | (exfalso; omega)
    | (
      refine wc_else rfl ?_
      refine wc_exit rfl ?_
      refine wc_seq ?_
      obtain rfl : i = N := by omega
      rw [curF_end, ← hfell] at hFv
      refine wc_region ?_
      refine wl rfl (OP.ev rfl rfl (eMv rfl) ?_)
      refine wl rfl (OP.ev rfl rfl (eNil rfl) ?_)
      refine wl rfl (OP.ev rfl rfl (eFld 2 ty86 rfl rfl ty84 rfl) ?_)
      refine wl rfl (oSt ty84 rfl rfl rfl rfl (by repeat (first | exact Upd.h | apply Upd.t | apply Upd.app)) (by first | decide | simp) (by rfl) ?_)
      refine wl_nil ?_
      refine wc_seq ?_
      refine wc_region ?_
      refine wl rfl (OP.ev rfl rfl (eMv rfl) ?_)
      refine wl rfl (OP.ev rfl rfl (eNil rfl) ?_)
      refine wl rfl (OP.ev rfl rfl (eFld 3 ty86 rfl rfl ty4 rfl) ?_)
      refine wl rfl (oSt ty4 rfl rfl rfl rfl (by repeat (first | exact Upd.h | apply Upd.t | apply Upd.app)) (by first | decide | simp) (by rfl) ?_)
      refine wl_nil ?_
      refine wc_region ?_
      refine wl rfl (OP.ev rfl rfl (eMv rfl) ?_)
      refine wl rfl (OP.ev rfl rfl (eNil rfl) ?_)
      refine wl rfl (OP.ev rfl rfl (eFld 4 ty86 rfl rfl ty3 rfl) ?_)
      refine wl rfl (oSt ty3 rfl rfl rfl rfl (by repeat (first | exact Upd.h | apply Upd.t | apply Upd.app)) (by first | decide | simp) (by rfl) ?_)
      refine wl_nil ?_
      apply at_ret rfl
      · exact .nil
      · exact ⟨rfl, rkC b (d.fall keep tear) v (.slice none 0 0) kp tr :: ownH (.slice none 0 0) #[] 92, I2, hI2, ⟨v, .slice none 0 0, #[], [], kp, tr, rfl, hFv, RActs.nil, fun h => absurd rfl h, hk64, ht64⟩, rfl⟩
      · exact (by repeat (first | exact Sel.all | exact Sel.none | exact Sel.hd | (apply Sel.one; · repeat (first | exact Pick.h | apply Pick.t | apply Pick.app)) | apply Sel.app | (with_reducible apply Sel.grp; · repeat (first | exact PickF.h | apply PickF.t | apply PickF.a)) | (with_reducible refine Sel.nilF (by with_unfolding_all rfl) ?_) | apply Sel.drop | apply Sel.dropF)))

theorem radd_ok (b : Nat) (d : DK) (hd : DOk d) (ho : d.off = false) (a : Act) (bv : Value) (hc : CanDo d.seen a) (hu : ((total d.last + costs d.acts + a.B.length : Nat) : Int) ≤ d.room) (hnm : a.name.length ≤ 32 ∧ a.to_.length ≤ 32)
    (hda : Rs W0 I bv 1 a.B.length (byteV a.B)) (hB : IsB a.B) (D R : Heap) (hD : RefR W0 I d b D) (hn : d.acts.length < 1000000) :
    FnC W0 Try.prog 58 #[ptr b, .agg (aC a bv)] (D ++ (I ++ R)) (RPut W0 I R b (d.act a).2 (i64 (d.act a).1)) := by
  obtain ⟨Lv, av, acs, ax, kp, tr, rfl, hF, hA, hkt, hk64, ht64⟩ := hD
  have hal := hA.len
  have hd1 := hd.add ho hc hu hnm
  obtain ⟨ad0, k0, cp0, hdv⟩ := hda.isSlice
  have hon2 : bv.oneCell' = true := by rw [hdv]; rfl
  simp only [List.cons_append]
  refine fn_of Try.func58 rfl Try.ntmps58 rfl rfl ?_
  refine wc_seq ?_
  refine wc_region ?_
  refine wl rfl (oBox rfl rfl rfl fun b3 => ?_)
  refine wl rfl (OP.ev rfl rfl (eAs rfl) ?_)
  refine wl_nil ?_
  refine wc_seq ?_
  refine wc_draw [(b3, .cells (aC a bv) 92 (0, 0))] rfl ?_
  refine wa_take 0 (by kernel_rfl) rfl rfl rfl rfl (by repeat (first | exact Sel.all | exact Sel.none | exact Sel.hd | (apply Sel.one; · repeat (first | exact Pick.h | apply Pick.t | apply Pick.app)) | apply Sel.app | (with_reducible apply Sel.grp; · repeat (first | exact PickF.h | apply PickF.t | apply PickF.a)) | (with_reducible refine Sel.nilF (by with_unfolding_all rfl) ?_) | apply Sel.drop | apply Sel.dropF)) (eMv rfl) ?_
  refine wa_take 1 (by kernel_rfl) rfl rfl rfl rfl (by repeat (first | exact Sel.all | exact Sel.none | exact Sel.hd | (apply Sel.one; · repeat (first | exact Pick.h | apply Pick.t | apply Pick.app)) | apply Sel.app | (with_reducible apply Sel.grp; · repeat (first | exact PickF.h | apply PickF.t | apply PickF.a)) | (with_reducible refine Sel.nilF (by with_unfolding_all rfl) ?_) | apply Sel.drop | apply Sel.dropF)) (eMv rfl) ?_
  refine wa_take 2 (by kernel_rfl) rfl rfl rfl rfl (by repeat (first | exact Sel.all | exact Sel.none | exact Sel.hd | (apply Sel.one; · repeat (first | exact Pick.h | apply Pick.t | apply Pick.app)) | apply Sel.app | (with_reducible apply Sel.grp; · repeat (first | exact PickF.h | apply PickF.t | apply PickF.a)) | (with_reducible refine Sel.nilF (by with_unfolding_all rfl) ?_) | apply Sel.drop | apply Sel.dropF)) (eNil rfl) ?_
  refine wa_take 3 (by kernel_rfl) rfl rfl rfl rfl (by repeat (first | exact Sel.all | exact Sel.none | exact Sel.hd | (apply Sel.one; · repeat (first | exact Pick.h | apply Pick.t | apply Pick.app)) | apply Sel.app | (with_reducible apply Sel.grp; · repeat (first | exact PickF.h | apply PickF.t | apply PickF.a)) | (with_reducible refine Sel.nilF (by with_unfolding_all rfl) ?_) | apply Sel.drop | apply Sel.dropF)) (eFld 2 ty86 rfl rfl ty84 rfl) ?_
  first | refine wa_take 5 (by kernel_rfl) rfl rfl rfl rfl (by repeat (first | exact Sel.all | exact Sel.none | exact Sel.hd | (apply Sel.one; · repeat (first | exact Pick.h | apply Pick.t | apply Pick.app)) | apply Sel.app | (with_reducible apply Sel.grp; · repeat (first | exact PickF.h | apply PickF.t | apply PickF.a)) | (with_reducible refine Sel.nilF (by with_unfolding_all rfl) ?_) | apply Sel.drop | apply Sel.dropF)) (eLdW ty92 rfl rfl (by repeat (first | exact Has.h | apply Has.t | apply Has.app)) (by rfl)) ?_ | refine wa_take 5 (by kernel_rfl) rfl rfl rfl rfl (by repeat (first | exact Sel.all | exact Sel.none | exact Sel.hd | (apply Sel.one; · repeat (first | exact Pick.h | apply Pick.t | apply Pick.app)) | apply Sel.app | (with_reducible apply Sel.grp; · repeat (first | exact PickF.h | apply PickF.t | apply PickF.a)) | (with_reducible refine Sel.nilF (by with_unfolding_all rfl) ?_) | apply Sel.drop | apply Sel.dropF)) (eLdA (vs := [_, _, _, _, _]) ty92 rfl rfl (by repeat (first | exact Has.h | apply Has.t | apply Has.app)) (by rfl) (by rfl)) ?_ | refine wa_take 5 (by kernel_rfl) rfl rfl rfl rfl (by repeat (first | exact Sel.all | exact Sel.none | exact Sel.hd | (apply Sel.one; · repeat (first | exact Pick.h | apply Pick.t | apply Pick.app)) | apply Sel.app | (with_reducible apply Sel.grp; · repeat (first | exact PickF.h | apply PickF.t | apply PickF.a)) | (with_reducible refine Sel.nilF (by with_unfolding_all rfl) ?_) | apply Sel.drop | apply Sel.dropF)) (eLdAO ty92 rfl rfl (by assumption) (by assumption)) ?_
  refine wa_all [4, 6] (by kernel_rfl) rfl ⟨⟨_, rfl, .inl rfl, ?_⟩, ⟨_, rfl, .inl rfl, ?_⟩, trivial⟩
  · skip
    refine OP.ev rfl rfl (eLd ty84 rfl rfl (by repeat (first | exact Has.h | apply Has.t | apply Has.app)) (by rfl)) ?_
    refine ⟨(by repeat (first | exact Sel.all | exact Sel.none | exact Sel.hd | (apply Sel.one; · repeat (first | exact Pick.h | apply Pick.t | apply Pick.app)) | apply Sel.app | (with_reducible apply Sel.grp; · repeat (first | exact PickF.h | apply PickF.t | apply PickF.a)) | (with_reducible refine Sel.nilF (by with_unfolding_all rfl) ?_) | apply Sel.drop | apply Sel.dropF)), ?_⟩
    refine wa_all [6] (by kernel_rfl) rfl (wall_one 6 rfl rfl ?_ trivial)
    refine oBSw (vs := [.agg (aC a bv)]) rfl ty84 ty92 rfl rfl rfl rfl rfl rfl fun b11 => ?_
    refine ⟨(by repeat (first | exact Sel.all | exact Sel.none | exact Sel.hd | (apply Sel.one; · repeat (first | exact Pick.h | apply Pick.t | apply Pick.app)) | apply Sel.app | (with_reducible apply Sel.grp; · repeat (first | exact PickF.h | apply PickF.t | apply PickF.a)) | (with_reducible refine Sel.nilF (by with_unfolding_all rfl) ?_) | apply Sel.drop | apply Sel.dropF)), ?_⟩
    refine wa_all [7] (by kernel_rfl) rfl (wall_one 7 rfl rfl ?_ trivial)
    refine oApp (m := 1) (news := (aC a bv).toList) rfl ty84 ty92 rfl rfl rfl hA.row (by repeat (first | exact At.cell | exact At.h | apply At.t | apply At.a)) (Rs.mk (Rc.of_has (by repeat (first | exact Has.h | apply Has.t | apply Has.app)) rfl) rfl (Nat.le_refl _)) (aC_one hon2) (by omega) (by omega) ?_
    rintro v12 cs12 hrow12 _
    have hA2 : RActs W0 I v12 cs12 (ax ++ [(bv, a)]) (d.acts ++ [a]) := by
      refine ⟨?_, by rw [List.map_append, hA.acts]; rfl, fun t ht => ?_⟩
      · rw [aV_app, List.length_append]; exact hrow12
      · rcases List.mem_append.1 ht with ht | ht
        · exact hA.ok t ht
        · simp at ht; subst ht; exact ⟨hda, hB⟩
    refine ⟨(by repeat (first | exact Sel.all | exact Sel.none | exact Sel.hd | (apply Sel.one; · repeat (first | exact Pick.h | apply Pick.t | apply Pick.app)) | apply Sel.app | (with_reducible apply Sel.grp; · repeat (first | exact PickF.h | apply PickF.t | apply PickF.a)) | (with_reducible refine Sel.nilF (by with_unfolding_all rfl) ?_) | apply Sel.drop | apply Sel.dropF)), ?_⟩
    refine wa_take 8 (by kernel_rfl) rfl rfl rfl rfl (by repeat (first | exact Sel.all | exact Sel.none | exact Sel.hd | (apply Sel.one; · repeat (first | exact Pick.h | apply Pick.t | apply Pick.app)) | apply Sel.app | (with_reducible apply Sel.grp; · repeat (first | exact PickF.h | apply PickF.t | apply PickF.a)) | (with_reducible refine Sel.nilF (by with_unfolding_all rfl) ?_) | apply Sel.drop | apply Sel.dropF)) (eNil rfl) ?_
    refine wa_take 9 (by kernel_rfl) rfl rfl rfl rfl (by repeat (first | exact Sel.all | exact Sel.none | exact Sel.hd | (apply Sel.one; · repeat (first | exact Pick.h | apply Pick.t | apply Pick.app)) | apply Sel.app | (with_reducible apply Sel.grp; · repeat (first | exact PickF.h | apply PickF.t | apply PickF.a)) | (with_reducible refine Sel.nilF (by with_unfolding_all rfl) ?_) | apply Sel.drop | apply Sel.dropF)) (eFld 2 ty86 rfl rfl ty84 rfl) ?_
    refine wa_all [10] (by kernel_rfl) rfl (wall_one 10 rfl rfl ?_ trivial)
    refine oSt ty84 rfl rfl hrow12.one rfl (by repeat (first | exact Upd.h | apply Upd.t | apply Upd.app)) (by first | decide | simp) (by rfl) ?_
    refine ⟨(by repeat (first | exact Sel.all | exact Sel.none | exact Sel.hd | (apply Sel.one; · repeat (first | exact Pick.h | apply Pick.t | apply Pick.app)) | apply Sel.app | (with_reducible apply Sel.grp; · repeat (first | exact PickF.h | apply PickF.t | apply PickF.a)) | (with_reducible refine Sel.nilF (by with_unfolding_all rfl) ?_) | apply Sel.drop | apply Sel.dropF)), ?_⟩
    refine wa_nil (by kernel_rfl) ?_
    refine wc_seq ?_
    refine wc_seq ?_
    have hD2 : RefR W0 I ((d.add a).less) b (rkC b ((d.add a).less) Lv v12 kp tr :: ownH v12 cs12 92) := ⟨_, _, _, _, _, _, rfl, hF, hA2, fun h => hkt (fun h2 => h (by show (if d.left = 0 then 0 else d.left - 1) = 0; rw [h2]; rfl)), hk64, ht64⟩
    rcases hh : (d.add a).hit with _ | _
    · refine wc_region ?_
      refine wl rfl (OP.ev rfl rfl (eMv rfl) ?_)
      refine wl rfl (oC rfl pf60 rfl (hit_ok b (d.add a) Lv v12 kp tr hd1.left _) (by repeat (first | exact Sel.all | exact Sel.none | exact Sel.hd | (apply Sel.one; · repeat (first | exact Pick.h | apply Pick.t | apply Pick.app)) | apply Sel.app | (with_reducible apply Sel.grp; · repeat (first | exact PickF.h | apply PickF.t | apply PickF.a)) | (with_reducible refine Sel.nilF (by with_unfolding_all rfl) ?_) | apply Sel.drop | apply Sel.dropF)) ?_)
      rintro _ _ ⟨rfl, rfl⟩
      refine wl_nil ?_
      rw [hh]
      refine wc_else rfl ?_
      refine wc_skip ?_
      refine wc_seq ?_
      refine wc_region ?_
      refine wl rfl (OP.ev rfl rfl (eAs rfl) ?_)
      refine wl_nil ?_
      refine wc_ret ?_
      apply at_ret rfl
      · exact (.cons (.tmp rfl) .nil)
      · first
        | exact ⟨by rw [act_no hh]; rfl, _, I, Sel.all, by rw [act_no hh]; exact hD2, (rfl : (rkC b ((d.add a).less) Lv v12 kp tr :: (ownH v12 cs12 92 ++ (I ++ R))) = _)⟩
        | exact ⟨by rw [act_hit hh]; rfl, _, I4, hI4, by rw [act_hit hh]; exact hD4, rfl⟩
      · exact (by repeat (first | exact Sel.all | exact Sel.none | exact Sel.hd | (apply Sel.one; · repeat (first | exact Pick.h | apply Pick.t | apply Pick.app)) | apply Sel.app | (with_reducible apply Sel.grp; · repeat (first | exact PickF.h | apply PickF.t | apply PickF.a)) | (with_reducible refine Sel.nilF (by with_unfolding_all rfl) ?_) | apply Sel.drop | apply Sel.dropF))
    · refine wc_region ?_
      refine wl rfl (OP.ev rfl rfl (eMv rfl) ?_)
      refine wl rfl (oC rfl pf60 rfl (hit_ok b (d.add a) Lv v12 kp tr hd1.left _) (by repeat (first | exact Sel.all | exact Sel.none | exact Sel.hd | (apply Sel.one; · repeat (first | exact Pick.h | apply Pick.t | apply Pick.app)) | apply Sel.app | (with_reducible apply Sel.grp; · repeat (first | exact PickF.h | apply PickF.t | apply PickF.a)) | (with_reducible refine Sel.nilF (by with_unfolding_all rfl) ?_) | apply Sel.drop | apply Sel.dropF)) ?_)
      rintro _ _ ⟨rfl, rfl⟩
      refine wl_nil ?_
      rw [hh]
      refine wc_then rfl ?_
      refine wc_seq ?_
      have hl1 : d.left = 1 := of_decide_eq_true hh
      obtain ⟨rfl, rfl⟩ := hkt (by omega)
      have hfall := rfall_ok (W0 := W0) b ((d.add a).less) hd1.less d.keep d.tear hd.keep.1 hd.keep.2 _ R hD2 (by show (d.acts ++ [a]).length ≤ _; simp; omega)
      simp only [List.cons_append] at hfall
      refine wc_draw [] rfl ?_
      refine wa_take 0 (by kernel_rfl) rfl rfl rfl rfl (by repeat (first | exact Sel.all | exact Sel.none | exact Sel.hd | (apply Sel.one; · repeat (first | exact Pick.h | apply Pick.t | apply Pick.app)) | apply Sel.app | (with_reducible apply Sel.grp; · repeat (first | exact PickF.h | apply PickF.t | apply PickF.a)) | (with_reducible refine Sel.nilF (by with_unfolding_all rfl) ?_) | apply Sel.drop | apply Sel.dropF)) (eMv rfl) ?_
      refine wa_take 1 (by kernel_rfl) rfl rfl rfl rfl (by repeat (first | exact Sel.all | exact Sel.none | exact Sel.hd | (apply Sel.one; · repeat (first | exact Pick.h | apply Pick.t | apply Pick.app)) | apply Sel.app | (with_reducible apply Sel.grp; · repeat (first | exact PickF.h | apply PickF.t | apply PickF.a)) | (with_reducible refine Sel.nilF (by with_unfolding_all rfl) ?_) | apply Sel.drop | apply Sel.dropF)) (eMv rfl) ?_
      refine wa_take 2 (by kernel_rfl) rfl rfl rfl rfl (by repeat (first | exact Sel.all | exact Sel.none | exact Sel.hd | (apply Sel.one; · repeat (first | exact Pick.h | apply Pick.t | apply Pick.app)) | apply Sel.app | (with_reducible apply Sel.grp; · repeat (first | exact PickF.h | apply PickF.t | apply PickF.a)) | (with_reducible refine Sel.nilF (by with_unfolding_all rfl) ?_) | apply Sel.drop | apply Sel.dropF)) (eNil rfl) ?_
      refine wa_take 3 (by kernel_rfl) rfl rfl rfl rfl (by repeat (first | exact Sel.all | exact Sel.none | exact Sel.hd | (apply Sel.one; · repeat (first | exact Pick.h | apply Pick.t | apply Pick.app)) | apply Sel.app | (with_reducible apply Sel.grp; · repeat (first | exact PickF.h | apply PickF.t | apply PickF.a)) | (with_reducible refine Sel.nilF (by with_unfolding_all rfl) ?_) | apply Sel.drop | apply Sel.dropF)) (eFld 5 ty86 rfl rfl ty3 rfl) ?_
      refine wa_take 5 (by kernel_rfl) rfl rfl rfl rfl (by repeat (first | exact Sel.all | exact Sel.none | exact Sel.hd | (apply Sel.one; · repeat (first | exact Pick.h | apply Pick.t | apply Pick.app)) | apply Sel.app | (with_reducible apply Sel.grp; · repeat (first | exact PickF.h | apply PickF.t | apply PickF.a)) | (with_reducible refine Sel.nilF (by with_unfolding_all rfl) ?_) | apply Sel.drop | apply Sel.dropF)) (eMv rfl) ?_
      refine wa_take 6 (by kernel_rfl) rfl rfl rfl rfl (by repeat (first | exact Sel.all | exact Sel.none | exact Sel.hd | (apply Sel.one; · repeat (first | exact Pick.h | apply Pick.t | apply Pick.app)) | apply Sel.app | (with_reducible apply Sel.grp; · repeat (first | exact PickF.h | apply PickF.t | apply PickF.a)) | (with_reducible refine Sel.nilF (by with_unfolding_all rfl) ?_) | apply Sel.drop | apply Sel.dropF)) (eNil rfl) ?_
      refine wa_take 7 (by kernel_rfl) rfl rfl rfl rfl (by repeat (first | exact Sel.all | exact Sel.none | exact Sel.hd | (apply Sel.one; · repeat (first | exact Pick.h | apply Pick.t | apply Pick.app)) | apply Sel.app | (with_reducible apply Sel.grp; · repeat (first | exact PickF.h | apply PickF.t | apply PickF.a)) | (with_reducible refine Sel.nilF (by with_unfolding_all rfl) ?_) | apply Sel.drop | apply Sel.dropF)) (eFld 6 ty86 rfl rfl ty3 rfl) ?_
      refine wa_all [4, 8] (by kernel_rfl) rfl ⟨⟨_, rfl, .inl rfl, ?_⟩, ⟨_, rfl, .inl rfl, ?_⟩, trivial⟩
      · skip
        refine OP.ev rfl rfl (eLd ty3 rfl rfl (by repeat (first | exact Has.h | apply Has.t | apply Has.app)) (by rfl)) ?_
        refine ⟨(by repeat (first | exact Sel.all | exact Sel.none | exact Sel.hd | (apply Sel.one; · repeat (first | exact Pick.h | apply Pick.t | apply Pick.app)) | apply Sel.app | (with_reducible apply Sel.grp; · repeat (first | exact PickF.h | apply PickF.t | apply PickF.a)) | (with_reducible refine Sel.nilF (by with_unfolding_all rfl) ?_) | apply Sel.drop | apply Sel.dropF)), ?_⟩
        refine wa_all [8] (by kernel_rfl) rfl (wall_one 8 rfl rfl ?_ trivial)
        refine OP.ev rfl rfl (eLd ty3 rfl rfl (by repeat (first | exact Has.h | apply Has.t | apply Has.app)) (by rfl)) ?_
        refine ⟨(by repeat (first | exact Sel.all | exact Sel.none | exact Sel.hd | (apply Sel.one; · repeat (first | exact Pick.h | apply Pick.t | apply Pick.app)) | apply Sel.app | (with_reducible apply Sel.grp; · repeat (first | exact PickF.h | apply PickF.t | apply PickF.a)) | (with_reducible refine Sel.nilF (by with_unfolding_all rfl) ?_) | apply Sel.drop | apply Sel.dropF)), ?_⟩
        refine wa_all [9] (by kernel_rfl) rfl (wall_one 9 rfl rfl ?_ trivial)
        refine oC rfl pf61 rfl hfall (by repeat (first | exact Sel.all | exact Sel.none | exact Sel.hd | (apply Sel.one; · repeat (first | exact Pick.h | apply Pick.t | apply Pick.app)) | apply Sel.app | (with_reducible apply Sel.grp; · repeat (first | exact PickF.h | apply PickF.t | apply PickF.a)) | (with_reducible refine Sel.nilF (by with_unfolding_all rfl) ?_) | apply Sel.drop | apply Sel.dropF)) ?_
        rintro _ _ ⟨rfl, D4, I4, hI4, hD4, rfl⟩
        refine ⟨(by repeat (first | exact Sel.all | exact Sel.none | exact Sel.hd | (apply Sel.one; · repeat (first | exact Pick.h | apply Pick.t | apply Pick.app)) | apply Sel.app | (with_reducible apply Sel.grp; · repeat (first | exact PickF.h | apply PickF.t | apply PickF.a)) | (with_reducible refine Sel.nilF (by with_unfolding_all rfl) ?_) | apply Sel.drop | apply Sel.dropF)), ?_⟩
        refine wa_nil (by kernel_rfl) ?_
        refine wc_seq ?_
        refine wc_region ?_
        refine wl rfl (OP.ev rfl rfl (eAs rfl) ?_)
        refine wl_nil ?_
        refine wc_ret ?_
        apply at_ret rfl
        · exact (.cons (.tmp rfl) .nil)
        · first
          | exact ⟨by rw [act_no hh]; rfl, _, I, Sel.all, by rw [act_no hh]; exact hD2, (rfl : (rkC b ((d.add a).less) Lv v12 kp tr :: (ownH v12 cs12 92 ++ (I ++ R))) = _)⟩
          | exact ⟨by rw [act_hit hh]; rfl, _, I4, hI4, by rw [act_hit hh]; exact hD4, rfl⟩
        · exact (by repeat (first | exact Sel.all | exact Sel.none | exact Sel.hd | (apply Sel.one; · repeat (first | exact Pick.h | apply Pick.t | apply Pick.app)) | apply Sel.app | (with_reducible apply Sel.grp; · repeat (first | exact PickF.h | apply PickF.t | apply PickF.a)) | (with_reducible refine Sel.nilF (by with_unfolding_all rfl) ?_) | apply Sel.drop | apply Sel.dropF))
      · skip
        refine OP.ev rfl rfl (eLd ty3 rfl rfl (by repeat (first | exact Has.h | apply Has.t | apply Has.app)) (by rfl)) ?_
        refine ⟨(by repeat (first | exact Sel.all | exact Sel.none | exact Sel.hd | (apply Sel.one; · repeat (first | exact Pick.h | apply Pick.t | apply Pick.app)) | apply Sel.app | (with_reducible apply Sel.grp; · repeat (first | exact PickF.h | apply PickF.t | apply PickF.a)) | (with_reducible refine Sel.nilF (by with_unfolding_all rfl) ?_) | apply Sel.drop | apply Sel.dropF)), ?_⟩
        refine wa_all [4] (by kernel_rfl) rfl (wall_one 4 rfl rfl ?_ trivial)
        refine OP.ev rfl rfl (eLd ty3 rfl rfl (by repeat (first | exact Has.h | apply Has.t | apply Has.app)) (by rfl)) ?_
        refine ⟨(by repeat (first | exact Sel.all | exact Sel.none | exact Sel.hd | (apply Sel.one; · repeat (first | exact Pick.h | apply Pick.t | apply Pick.app)) | apply Sel.app | (with_reducible apply Sel.grp; · repeat (first | exact PickF.h | apply PickF.t | apply PickF.a)) | (with_reducible refine Sel.nilF (by with_unfolding_all rfl) ?_) | apply Sel.drop | apply Sel.dropF)), ?_⟩
        refine wa_all [9] (by kernel_rfl) rfl (wall_one 9 rfl rfl ?_ trivial)
        refine oC rfl pf61 rfl hfall (by repeat (first | exact Sel.all | exact Sel.none | exact Sel.hd | (apply Sel.one; · repeat (first | exact Pick.h | apply Pick.t | apply Pick.app)) | apply Sel.app | (with_reducible apply Sel.grp; · repeat (first | exact PickF.h | apply PickF.t | apply PickF.a)) | (with_reducible refine Sel.nilF (by with_unfolding_all rfl) ?_) | apply Sel.drop | apply Sel.dropF)) ?_
        rintro _ _ ⟨rfl, D4, I4, hI4, hD4, rfl⟩
        refine ⟨(by repeat (first | exact Sel.all | exact Sel.none | exact Sel.hd | (apply Sel.one; · repeat (first | exact Pick.h | apply Pick.t | apply Pick.app)) | apply Sel.app | (with_reducible apply Sel.grp; · repeat (first | exact PickF.h | apply PickF.t | apply PickF.a)) | (with_reducible refine Sel.nilF (by with_unfolding_all rfl) ?_) | apply Sel.drop | apply Sel.dropF)), ?_⟩
        refine wa_nil (by kernel_rfl) ?_
        refine wc_seq ?_
        refine wc_region ?_
        refine wl rfl (OP.ev rfl rfl (eAs rfl) ?_)
        refine wl_nil ?_
        refine wc_ret ?_
        apply at_ret rfl
        · exact (.cons (.tmp rfl) .nil)
        · first
          | exact ⟨by rw [act_no hh]; rfl, _, I, Sel.all, by rw [act_no hh]; exact hD2, (rfl : (rkC b ((d.add a).less) Lv v12 kp tr :: (ownH v12 cs12 92 ++ (I ++ R))) = _)⟩
          | exact ⟨by rw [act_hit hh]; rfl, _, I4, hI4, by rw [act_hit hh]; exact hD4, rfl⟩
        · exact (by repeat (first | exact Sel.all | exact Sel.none | exact Sel.hd | (apply Sel.one; · repeat (first | exact Pick.h | apply Pick.t | apply Pick.app)) | apply Sel.app | (with_reducible apply Sel.grp; · repeat (first | exact PickF.h | apply PickF.t | apply PickF.a)) | (with_reducible refine Sel.nilF (by with_unfolding_all rfl) ?_) | apply Sel.drop | apply Sel.dropF))
  · skip
    refine oBSw (vs := [.agg (aC a bv)]) rfl ty84 ty92 rfl rfl rfl rfl rfl rfl fun b11 => ?_
    refine ⟨(by repeat (first | exact Sel.all | exact Sel.none | exact Sel.hd | (apply Sel.one; · repeat (first | exact Pick.h | apply Pick.t | apply Pick.app)) | apply Sel.app | (with_reducible apply Sel.grp; · repeat (first | exact PickF.h | apply PickF.t | apply PickF.a)) | (with_reducible refine Sel.nilF (by with_unfolding_all rfl) ?_) | apply Sel.drop | apply Sel.dropF)), ?_⟩
    refine wa_all [4] (by kernel_rfl) rfl (wall_one 4 rfl rfl ?_ trivial)
    refine OP.ev rfl rfl (eLd ty84 rfl rfl (by repeat (first | exact Has.h | apply Has.t | apply Has.app)) (by rfl)) ?_
    refine ⟨(by repeat (first | exact Sel.all | exact Sel.none | exact Sel.hd | (apply Sel.one; · repeat (first | exact Pick.h | apply Pick.t | apply Pick.app)) | apply Sel.app | (with_reducible apply Sel.grp; · repeat (first | exact PickF.h | apply PickF.t | apply PickF.a)) | (with_reducible refine Sel.nilF (by with_unfolding_all rfl) ?_) | apply Sel.drop | apply Sel.dropF)), ?_⟩
    refine wa_all [7] (by kernel_rfl) rfl (wall_one 7 rfl rfl ?_ trivial)
    refine oApp (m := 1) (news := (aC a bv).toList) rfl ty84 ty92 rfl rfl rfl hA.row (by repeat (first | exact At.cell | exact At.h | apply At.t | apply At.a)) (Rs.mk (Rc.of_has (by repeat (first | exact Has.h | apply Has.t | apply Has.app)) rfl) rfl (Nat.le_refl _)) (aC_one hon2) (by omega) (by omega) ?_
    rintro v12 cs12 hrow12 _
    have hA2 : RActs W0 I v12 cs12 (ax ++ [(bv, a)]) (d.acts ++ [a]) := by
      refine ⟨?_, by rw [List.map_append, hA.acts]; rfl, fun t ht => ?_⟩
      · rw [aV_app, List.length_append]; exact hrow12
      · rcases List.mem_append.1 ht with ht | ht
        · exact hA.ok t ht
        · simp at ht; subst ht; exact ⟨hda, hB⟩
    refine ⟨(by repeat (first | exact Sel.all | exact Sel.none | exact Sel.hd | (apply Sel.one; · repeat (first | exact Pick.h | apply Pick.t | apply Pick.app)) | apply Sel.app | (with_reducible apply Sel.grp; · repeat (first | exact PickF.h | apply PickF.t | apply PickF.a)) | (with_reducible refine Sel.nilF (by with_unfolding_all rfl) ?_) | apply Sel.drop | apply Sel.dropF)), ?_⟩
    refine wa_take 8 (by kernel_rfl) rfl rfl rfl rfl (by repeat (first | exact Sel.all | exact Sel.none | exact Sel.hd | (apply Sel.one; · repeat (first | exact Pick.h | apply Pick.t | apply Pick.app)) | apply Sel.app | (with_reducible apply Sel.grp; · repeat (first | exact PickF.h | apply PickF.t | apply PickF.a)) | (with_reducible refine Sel.nilF (by with_unfolding_all rfl) ?_) | apply Sel.drop | apply Sel.dropF)) (eNil rfl) ?_
    refine wa_take 9 (by kernel_rfl) rfl rfl rfl rfl (by repeat (first | exact Sel.all | exact Sel.none | exact Sel.hd | (apply Sel.one; · repeat (first | exact Pick.h | apply Pick.t | apply Pick.app)) | apply Sel.app | (with_reducible apply Sel.grp; · repeat (first | exact PickF.h | apply PickF.t | apply PickF.a)) | (with_reducible refine Sel.nilF (by with_unfolding_all rfl) ?_) | apply Sel.drop | apply Sel.dropF)) (eFld 2 ty86 rfl rfl ty84 rfl) ?_
    refine wa_all [10] (by kernel_rfl) rfl (wall_one 10 rfl rfl ?_ trivial)
    refine oSt ty84 rfl rfl hrow12.one rfl (by repeat (first | exact Upd.h | apply Upd.t | apply Upd.app)) (by first | decide | simp) (by rfl) ?_
    refine ⟨(by repeat (first | exact Sel.all | exact Sel.none | exact Sel.hd | (apply Sel.one; · repeat (first | exact Pick.h | apply Pick.t | apply Pick.app)) | apply Sel.app | (with_reducible apply Sel.grp; · repeat (first | exact PickF.h | apply PickF.t | apply PickF.a)) | (with_reducible refine Sel.nilF (by with_unfolding_all rfl) ?_) | apply Sel.drop | apply Sel.dropF)), ?_⟩
    refine wa_nil (by kernel_rfl) ?_
    refine wc_seq ?_
    refine wc_seq ?_
    have hD2 : RefR W0 I ((d.add a).less) b (rkC b ((d.add a).less) Lv v12 kp tr :: ownH v12 cs12 92) := ⟨_, _, _, _, _, _, rfl, hF, hA2, fun h => hkt (fun h2 => h (by show (if d.left = 0 then 0 else d.left - 1) = 0; rw [h2]; rfl)), hk64, ht64⟩
    rcases hh : (d.add a).hit with _ | _
    · refine wc_region ?_
      refine wl rfl (OP.ev rfl rfl (eMv rfl) ?_)
      refine wl rfl (oC rfl pf60 rfl (hit_ok b (d.add a) Lv v12 kp tr hd1.left _) (by repeat (first | exact Sel.all | exact Sel.none | exact Sel.hd | (apply Sel.one; · repeat (first | exact Pick.h | apply Pick.t | apply Pick.app)) | apply Sel.app | (with_reducible apply Sel.grp; · repeat (first | exact PickF.h | apply PickF.t | apply PickF.a)) | (with_reducible refine Sel.nilF (by with_unfolding_all rfl) ?_) | apply Sel.drop | apply Sel.dropF)) ?_)
      rintro _ _ ⟨rfl, rfl⟩
      refine wl_nil ?_
      rw [hh]
      refine wc_else rfl ?_
      refine wc_skip ?_
      refine wc_seq ?_
      refine wc_region ?_
      refine wl rfl (OP.ev rfl rfl (eAs rfl) ?_)
      refine wl_nil ?_
      refine wc_ret ?_
      apply at_ret rfl
      · exact (.cons (.tmp rfl) .nil)
      · first
        | exact ⟨by rw [act_no hh]; rfl, _, I, Sel.all, by rw [act_no hh]; exact hD2, (rfl : (rkC b ((d.add a).less) Lv v12 kp tr :: (ownH v12 cs12 92 ++ (I ++ R))) = _)⟩
        | exact ⟨by rw [act_hit hh]; rfl, _, I4, hI4, by rw [act_hit hh]; exact hD4, rfl⟩
      · exact (by repeat (first | exact Sel.all | exact Sel.none | exact Sel.hd | (apply Sel.one; · repeat (first | exact Pick.h | apply Pick.t | apply Pick.app)) | apply Sel.app | (with_reducible apply Sel.grp; · repeat (first | exact PickF.h | apply PickF.t | apply PickF.a)) | (with_reducible refine Sel.nilF (by with_unfolding_all rfl) ?_) | apply Sel.drop | apply Sel.dropF))
    · refine wc_region ?_
      refine wl rfl (OP.ev rfl rfl (eMv rfl) ?_)
      refine wl rfl (oC rfl pf60 rfl (hit_ok b (d.add a) Lv v12 kp tr hd1.left _) (by repeat (first | exact Sel.all | exact Sel.none | exact Sel.hd | (apply Sel.one; · repeat (first | exact Pick.h | apply Pick.t | apply Pick.app)) | apply Sel.app | (with_reducible apply Sel.grp; · repeat (first | exact PickF.h | apply PickF.t | apply PickF.a)) | (with_reducible refine Sel.nilF (by with_unfolding_all rfl) ?_) | apply Sel.drop | apply Sel.dropF)) ?_)
      rintro _ _ ⟨rfl, rfl⟩
      refine wl_nil ?_
      rw [hh]
      refine wc_then rfl ?_
      refine wc_seq ?_
      have hl1 : d.left = 1 := of_decide_eq_true hh
      obtain ⟨rfl, rfl⟩ := hkt (by omega)
      have hfall := rfall_ok (W0 := W0) b ((d.add a).less) hd1.less d.keep d.tear hd.keep.1 hd.keep.2 _ R hD2 (by show (d.acts ++ [a]).length ≤ _; simp; omega)
      simp only [List.cons_append] at hfall
      refine wc_draw [] rfl ?_
      refine wa_take 0 (by kernel_rfl) rfl rfl rfl rfl (by repeat (first | exact Sel.all | exact Sel.none | exact Sel.hd | (apply Sel.one; · repeat (first | exact Pick.h | apply Pick.t | apply Pick.app)) | apply Sel.app | (with_reducible apply Sel.grp; · repeat (first | exact PickF.h | apply PickF.t | apply PickF.a)) | (with_reducible refine Sel.nilF (by with_unfolding_all rfl) ?_) | apply Sel.drop | apply Sel.dropF)) (eMv rfl) ?_
      refine wa_take 1 (by kernel_rfl) rfl rfl rfl rfl (by repeat (first | exact Sel.all | exact Sel.none | exact Sel.hd | (apply Sel.one; · repeat (first | exact Pick.h | apply Pick.t | apply Pick.app)) | apply Sel.app | (with_reducible apply Sel.grp; · repeat (first | exact PickF.h | apply PickF.t | apply PickF.a)) | (with_reducible refine Sel.nilF (by with_unfolding_all rfl) ?_) | apply Sel.drop | apply Sel.dropF)) (eMv rfl) ?_
      refine wa_take 2 (by kernel_rfl) rfl rfl rfl rfl (by repeat (first | exact Sel.all | exact Sel.none | exact Sel.hd | (apply Sel.one; · repeat (first | exact Pick.h | apply Pick.t | apply Pick.app)) | apply Sel.app | (with_reducible apply Sel.grp; · repeat (first | exact PickF.h | apply PickF.t | apply PickF.a)) | (with_reducible refine Sel.nilF (by with_unfolding_all rfl) ?_) | apply Sel.drop | apply Sel.dropF)) (eNil rfl) ?_
      refine wa_take 3 (by kernel_rfl) rfl rfl rfl rfl (by repeat (first | exact Sel.all | exact Sel.none | exact Sel.hd | (apply Sel.one; · repeat (first | exact Pick.h | apply Pick.t | apply Pick.app)) | apply Sel.app | (with_reducible apply Sel.grp; · repeat (first | exact PickF.h | apply PickF.t | apply PickF.a)) | (with_reducible refine Sel.nilF (by with_unfolding_all rfl) ?_) | apply Sel.drop | apply Sel.dropF)) (eFld 5 ty86 rfl rfl ty3 rfl) ?_
      refine wa_take 5 (by kernel_rfl) rfl rfl rfl rfl (by repeat (first | exact Sel.all | exact Sel.none | exact Sel.hd | (apply Sel.one; · repeat (first | exact Pick.h | apply Pick.t | apply Pick.app)) | apply Sel.app | (with_reducible apply Sel.grp; · repeat (first | exact PickF.h | apply PickF.t | apply PickF.a)) | (with_reducible refine Sel.nilF (by with_unfolding_all rfl) ?_) | apply Sel.drop | apply Sel.dropF)) (eMv rfl) ?_
      refine wa_take 6 (by kernel_rfl) rfl rfl rfl rfl (by repeat (first | exact Sel.all | exact Sel.none | exact Sel.hd | (apply Sel.one; · repeat (first | exact Pick.h | apply Pick.t | apply Pick.app)) | apply Sel.app | (with_reducible apply Sel.grp; · repeat (first | exact PickF.h | apply PickF.t | apply PickF.a)) | (with_reducible refine Sel.nilF (by with_unfolding_all rfl) ?_) | apply Sel.drop | apply Sel.dropF)) (eNil rfl) ?_
      refine wa_take 7 (by kernel_rfl) rfl rfl rfl rfl (by repeat (first | exact Sel.all | exact Sel.none | exact Sel.hd | (apply Sel.one; · repeat (first | exact Pick.h | apply Pick.t | apply Pick.app)) | apply Sel.app | (with_reducible apply Sel.grp; · repeat (first | exact PickF.h | apply PickF.t | apply PickF.a)) | (with_reducible refine Sel.nilF (by with_unfolding_all rfl) ?_) | apply Sel.drop | apply Sel.dropF)) (eFld 6 ty86 rfl rfl ty3 rfl) ?_
      refine wa_all [4, 8] (by kernel_rfl) rfl ⟨⟨_, rfl, .inl rfl, ?_⟩, ⟨_, rfl, .inl rfl, ?_⟩, trivial⟩
      · skip
        refine OP.ev rfl rfl (eLd ty3 rfl rfl (by repeat (first | exact Has.h | apply Has.t | apply Has.app)) (by rfl)) ?_
        refine ⟨(by repeat (first | exact Sel.all | exact Sel.none | exact Sel.hd | (apply Sel.one; · repeat (first | exact Pick.h | apply Pick.t | apply Pick.app)) | apply Sel.app | (with_reducible apply Sel.grp; · repeat (first | exact PickF.h | apply PickF.t | apply PickF.a)) | (with_reducible refine Sel.nilF (by with_unfolding_all rfl) ?_) | apply Sel.drop | apply Sel.dropF)), ?_⟩
        refine wa_all [8] (by kernel_rfl) rfl (wall_one 8 rfl rfl ?_ trivial)
        refine OP.ev rfl rfl (eLd ty3 rfl rfl (by repeat (first | exact Has.h | apply Has.t | apply Has.app)) (by rfl)) ?_
        refine ⟨(by repeat (first | exact Sel.all | exact Sel.none | exact Sel.hd | (apply Sel.one; · repeat (first | exact Pick.h | apply Pick.t | apply Pick.app)) | apply Sel.app | (with_reducible apply Sel.grp; · repeat (first | exact PickF.h | apply PickF.t | apply PickF.a)) | (with_reducible refine Sel.nilF (by with_unfolding_all rfl) ?_) | apply Sel.drop | apply Sel.dropF)), ?_⟩
        refine wa_all [9] (by kernel_rfl) rfl (wall_one 9 rfl rfl ?_ trivial)
        refine oC rfl pf61 rfl hfall (by repeat (first | exact Sel.all | exact Sel.none | exact Sel.hd | (apply Sel.one; · repeat (first | exact Pick.h | apply Pick.t | apply Pick.app)) | apply Sel.app | (with_reducible apply Sel.grp; · repeat (first | exact PickF.h | apply PickF.t | apply PickF.a)) | (with_reducible refine Sel.nilF (by with_unfolding_all rfl) ?_) | apply Sel.drop | apply Sel.dropF)) ?_
        rintro _ _ ⟨rfl, D4, I4, hI4, hD4, rfl⟩
        refine ⟨(by repeat (first | exact Sel.all | exact Sel.none | exact Sel.hd | (apply Sel.one; · repeat (first | exact Pick.h | apply Pick.t | apply Pick.app)) | apply Sel.app | (with_reducible apply Sel.grp; · repeat (first | exact PickF.h | apply PickF.t | apply PickF.a)) | (with_reducible refine Sel.nilF (by with_unfolding_all rfl) ?_) | apply Sel.drop | apply Sel.dropF)), ?_⟩
        refine wa_nil (by kernel_rfl) ?_
        refine wc_seq ?_
        refine wc_region ?_
        refine wl rfl (OP.ev rfl rfl (eAs rfl) ?_)
        refine wl_nil ?_
        refine wc_ret ?_
        apply at_ret rfl
        · exact (.cons (.tmp rfl) .nil)
        · first
          | exact ⟨by rw [act_no hh]; rfl, _, I, Sel.all, by rw [act_no hh]; exact hD2, (rfl : (rkC b ((d.add a).less) Lv v12 kp tr :: (ownH v12 cs12 92 ++ (I ++ R))) = _)⟩
          | exact ⟨by rw [act_hit hh]; rfl, _, I4, hI4, by rw [act_hit hh]; exact hD4, rfl⟩
        · exact (by repeat (first | exact Sel.all | exact Sel.none | exact Sel.hd | (apply Sel.one; · repeat (first | exact Pick.h | apply Pick.t | apply Pick.app)) | apply Sel.app | (with_reducible apply Sel.grp; · repeat (first | exact PickF.h | apply PickF.t | apply PickF.a)) | (with_reducible refine Sel.nilF (by with_unfolding_all rfl) ?_) | apply Sel.drop | apply Sel.dropF))
      · skip
        refine OP.ev rfl rfl (eLd ty3 rfl rfl (by repeat (first | exact Has.h | apply Has.t | apply Has.app)) (by rfl)) ?_
        refine ⟨(by repeat (first | exact Sel.all | exact Sel.none | exact Sel.hd | (apply Sel.one; · repeat (first | exact Pick.h | apply Pick.t | apply Pick.app)) | apply Sel.app | (with_reducible apply Sel.grp; · repeat (first | exact PickF.h | apply PickF.t | apply PickF.a)) | (with_reducible refine Sel.nilF (by with_unfolding_all rfl) ?_) | apply Sel.drop | apply Sel.dropF)), ?_⟩
        refine wa_all [4] (by kernel_rfl) rfl (wall_one 4 rfl rfl ?_ trivial)
        refine OP.ev rfl rfl (eLd ty3 rfl rfl (by repeat (first | exact Has.h | apply Has.t | apply Has.app)) (by rfl)) ?_
        refine ⟨(by repeat (first | exact Sel.all | exact Sel.none | exact Sel.hd | (apply Sel.one; · repeat (first | exact Pick.h | apply Pick.t | apply Pick.app)) | apply Sel.app | (with_reducible apply Sel.grp; · repeat (first | exact PickF.h | apply PickF.t | apply PickF.a)) | (with_reducible refine Sel.nilF (by with_unfolding_all rfl) ?_) | apply Sel.drop | apply Sel.dropF)), ?_⟩
        refine wa_all [9] (by kernel_rfl) rfl (wall_one 9 rfl rfl ?_ trivial)
        refine oC rfl pf61 rfl hfall (by repeat (first | exact Sel.all | exact Sel.none | exact Sel.hd | (apply Sel.one; · repeat (first | exact Pick.h | apply Pick.t | apply Pick.app)) | apply Sel.app | (with_reducible apply Sel.grp; · repeat (first | exact PickF.h | apply PickF.t | apply PickF.a)) | (with_reducible refine Sel.nilF (by with_unfolding_all rfl) ?_) | apply Sel.drop | apply Sel.dropF)) ?_
        rintro _ _ ⟨rfl, D4, I4, hI4, hD4, rfl⟩
        refine ⟨(by repeat (first | exact Sel.all | exact Sel.none | exact Sel.hd | (apply Sel.one; · repeat (first | exact Pick.h | apply Pick.t | apply Pick.app)) | apply Sel.app | (with_reducible apply Sel.grp; · repeat (first | exact PickF.h | apply PickF.t | apply PickF.a)) | (with_reducible refine Sel.nilF (by with_unfolding_all rfl) ?_) | apply Sel.drop | apply Sel.dropF)), ?_⟩
        refine wa_nil (by kernel_rfl) ?_
        refine wc_seq ?_
        refine wc_region ?_
        refine wl rfl (OP.ev rfl rfl (eAs rfl) ?_)
        refine wl_nil ?_
        refine wc_ret ?_
        apply at_ret rfl
        · exact (.cons (.tmp rfl) .nil)
        · first
          | exact ⟨by rw [act_no hh]; rfl, _, I, Sel.all, by rw [act_no hh]; exact hD2, (rfl : (rkC b ((d.add a).less) Lv v12 kp tr :: (ownH v12 cs12 92 ++ (I ++ R))) = _)⟩
          | exact ⟨by rw [act_hit hh]; rfl, _, I4, hI4, by rw [act_hit hh]; exact hD4, rfl⟩
        · exact (by repeat (first | exact Sel.all | exact Sel.none | exact Sel.hd | (apply Sel.one; · repeat (first | exact Pick.h | apply Pick.t | apply Pick.app)) | apply Sel.app | (with_reducible apply Sel.grp; · repeat (first | exact PickF.h | apply PickF.t | apply PickF.a)) | (with_reducible refine Sel.nilF (by with_unfolding_all rfl) ?_) | apply Sel.drop | apply Sel.dropF))
end Go.Proofs.Ytahjgjmemijofaa
