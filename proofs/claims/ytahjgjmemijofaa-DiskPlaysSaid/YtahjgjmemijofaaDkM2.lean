/- Contracts of the disk's fall and of an act. No statement of the seat is proved here. -/
import Derived.Test.YtahjgjmemijofaaDkM
namespace Go.Proofs.Ytahjgjmemijofaa
open Go Eng
set_option linter.unusedVariables false
set_option maxRecDepth 4000
variable {W0 : World} {I I' : Heap}

/-- what a call leaves of a disk -/
def PutP (W0 : World) (I R : Heap) (b : Nat) (d' : DK) (v0 : Value) (v : Value) (L' : Heap) : Prop :=
  v = v0 ∧ ∃ D' I', Sel I' I ∧ DiskR W0 I' d' b D' ∧ L' = D' ++ (I' ++ R)

def curF (l : Files) (ax : List Act) (n : Nat) (t : Int) (i : Nat) : Files := if i < n then (ax.take i).foldl fdo l else fallF l ax n t
theorem curF_zero (l : Files) (ax : List Act) (n : Nat) (t : Int) : curF l ax n t 0 = l := by
  unfold curF
  split
  · rfl
  · rw [show n = 0 by omega, fallF_zero]
theorem curF_lt {l : Files} {ax : List Act} {n : Nat} {t : Int} {i : Nat} (h : i < n) : curF l ax n t i = (ax.take i).foldl fdo l := if_pos h
theorem curF_end (l : Files) (ax : List Act) (n : Nat) (t : Int) : curF l ax n t n = fallF l ax n t := if_neg (by omega)
theorem curF_mid {l : Files} {ax : List Act} {n : Nat} {t : Int} {i : Nat} {a : Act} (h : i + 1 < n) (ha : ax[i]? = some a) : curF l ax n t (i + 1) = fdo ((ax.take i).foldl fdo l) a := by
  rw [curF_lt h, List.take_add_one, ha, List.foldl_append]; rfl
theorem curF_last {l : Files} {ax : List Act} {n : Nat} {t : Int} {i : Nat} {a : Act} (h : i + 1 = n) (ha : ax[i]? = some a) : curF l ax n t (i + 1) = fdo ((ax.take i).foldl fdo l) (torn a t) := by
  rw [h, curF_end, ← h, fallF_at ha]
theorem torn_rs {v : Value} {a : Act} {t j : Int} (hv : Rs W0 I v 1 a.B.length (byteV a.B)) (hj : j = (a.B.length : Int) - max 0 (min t (a.B.length : Int))) : Rs W0 I (slH v j) 1 (torn a t).B.length (byteV (torn a t).B) := by
  have h1 := slH_rs hv (j := j) (by omega) (by omega)
  have h2 : j.toNat = a.B.length - clamp t a.B.length := by unfold clamp; omega
  have h3 : (torn a t).B.length = j.toNat := by show (a.B.take _).length = _; rw [List.length_take]; omega
  rw [h3]
  rw [byteV_take, h2] at h1
  rw [h2]
  exact h1

theorem fall_ok (b : Nat) (d : DK) (hd : DOk d) (keep tear : Int) (hk : I64 keep) (ht : I64 tear) (D R : Heap) (hD : DiskR W0 I d b D) (hn : d.acts.length ≤ 1000000) :
    FnC W0 Try.prog 65 #[ptr b, i64 keep, i64 tear] (D ++ (I ++ R)) (PutP W0 I R b (d.fall keep tear) (.tuple #[])) := by
  obtain ⟨ms, ml, m1, c1, m2, c2, av, acs, ax, rfl, hT1, hT2, hA⟩ := hD
  have hal := hA.len
  have hN : max 0 (min keep (ax.length : Int)) = (clamp keep d.acts.length : Int) := by unfold clamp; omega
  have hNl := clamp_le keep d.acts.length
  have hfell : d.fell keep tear = fallF d.last d.acts (clamp keep d.acts.length) tear := rfl
  generalize clamp keep d.acts.length = N at hN hNl hfell
  simp only [List.cons_append]
  refine fn_of Try.func65 rfl Try.ntmps65 rfl rfl ?_
  refine wc_seq ?_
  refine wc_region ?_
  refine wl rfl (OP.ev rfl rfl (eMv rfl) ?_)
  refine wl rfl (OP.ev rfl rfl (eMv rfl) ?_)
  refine wl rfl (OP.ev rfl rfl (eNil rfl) ?_)
  refine wl rfl (OP.ev rfl rfl (eFld 7 ty52 rfl rfl ty50 rfl) ?_)
  first | refine wl rfl (OP.ev rfl rfl (eLd ty50 rfl rfl (by repeat (first | exact Has.h | apply Has.t | apply Has.app)) (by rfl)) ?_) | refine wl rfl (OP.ev rfl rfl (eLdO ty50 rfl rfl (by assumption)) ?_)
  refine wl rfl (OP.ev rfl rfl (eLenRow ty50 rfl hA.row) ?_)
  refine wl rfl (OP.ev rfl rfl (eMin rfl rfl) ?_)
  refine wl rfl (OP.ev rfl rfl (eMax rfl rfl) ?_)
  refine wl rfl (OP.ev rfl rfl (eAs rfl) ?_)
  refine wl_nil ?_
  rw [hN]
  refine wc_seq ?_
  refine wc_seq ?_
  refine wc_region ?_
  refine wl rfl (OP.ev rfl rfl (eMv rfl) ?_)
  refine wl rfl (OP.ev rfl rfl (eNil rfl) ?_)
  refine wl rfl (OP.ev rfl rfl (eFld 7 ty52 rfl rfl ty50 rfl) ?_)
  first | refine wl rfl (OP.ev rfl rfl (eLd ty50 rfl rfl (by repeat (first | exact Has.h | apply Has.t | apply Has.app)) (by rfl)) ?_) | refine wl rfl (OP.ev rfl rfl (eLdO ty50 rfl rfl (by assumption)) ?_)
  refine wl rfl (OP.ev rfl rfl (eMv rfl) ?_)
  refine wl rfl (oSlH rfl ty50 ty82 rfl (hA.row.rs (by repeat (first | exact At.cell | exact At.h | apply At.t | apply At.a))) rfl (by omega) (by omega) ?_)
  intro _
  have hr23 : Rs W0 (ownH av acs 82 ++ []) (slH av (N : Int)) 3 N (actV (ax.take N)) := by
    have h9 := slH_rs (W0 := W0) (hA.row.rs (e := 82) (C := fun F => F ++ []) At.h) (j := (N : Int)) (by omega) (by omega)
    rwa [Int.toNat_natCast, actV_take] at h9
  refine wl rfl (OP.ev rfl rfl (eLenR ty50 rfl (hr23.sel (by repeat (first | exact Sel.all | exact Sel.none | exact Sel.hd | (apply Sel.one; · repeat (first | exact Pick.h | apply Pick.t | apply Pick.app)) | apply Sel.app | (with_reducible apply Sel.grp; · repeat (first | exact PickF.h | apply PickF.t | apply PickF.a)) | (with_reducible refine Sel.nilF (by with_unfolding_all rfl) ?_) | apply Sel.drop | apply Sel.dropF)))) ?_)
  refine wl rfl (OP.ev rfl rfl (eMv rfl) ?_)
  refine wl_nil ?_
  refine wc_block ?_
  refine wc_loop (σ := Nat × TMap × Nat × Heap) (fun q => [(0, ptr b), (2, i64 tear), (6, i64 (N : Int)), (23, slH av (N : Int)), (24, i64 (N : Int)), (25, i64 (q.1 : Int))]) (fun q => dkC b d ms ml av :: tC ms m1 c1 :: tC ml q.2.1 q.2.2.1 :: (ownH av acs 82 ++ (q.2.2.2 ++ R))) (fun q => q.1 ≤ N ∧ Sel q.2.2.2 I ∧ Tab W0 q.2.2.2 q.2.1 q.2.2.1 (curF d.last d.acts N tear q.1)) (fun q => N - q.1) (0, m2, c2, I) ⟨Nat.zero_le _, Sel.all, by show Tab _ _ _ _ (curF _ _ _ _ 0); rw [curF_zero]; exact hT2⟩ ⟨rfl, rfl, rfl, rfl, rfl, rfl, trivial⟩ (by repeat (first | exact Sel.all | exact Sel.none | exact Sel.hd | (apply Sel.one; · repeat (first | exact Pick.h | apply Pick.t | apply Pick.app)) | apply Sel.app | (with_reducible apply Sel.grp; · repeat (first | exact PickF.h | apply PickF.t | apply PickF.a)) | (with_reducible refine Sel.nilF (by with_unfolding_all rfl) ?_) | apply Sel.drop | apply Sel.dropF)) ?_
  rintro ⟨i, m, c, I2⟩ ⟨hi, hI2, hT⟩
  dsimp only at hi hI2 hT ⊢
  refine wc_seq ?_
  refine wc_region ?_
  refine wl rfl (OP.evb rfl rfl (eLt rfl rfl) fun t26 h26 => ?_)
  refine wl_nil ?_
  refine wc_seq ?_
  cases t26 with
  | true =>
    try have c_t26 := dt h26
    first
    | (exfalso; omega)
    | (
      refine wc_then rfl ?_
      refine wc_skip ?_
      refine wc_seq ?_
      refine wc_block ?_
      refine wc_seq ?_
      obtain ⟨t, htt⟩ : ∃ t, ax[i]? = some t := ⟨_, List.getElem?_eq_getElem (by omega)⟩
      have hat := hA.at htt
      have hon := hA.one htt
      obtain ⟨hB, hdr, hfr⟩ := hA.ok t (List.mem_of_getElem? htt)
      have hlen := hd.act_len (List.mem_of_getElem? hat)
      have hnm := hd.nms _ (List.mem_of_getElem? hat)
      rw [curF_lt (by omega)] at hT
      have hcan := hd.runs.at hat
      have htot : total ((d.acts.take i).foldl fdo d.last) ≤ 16777216 := by
        have h1 := (hd.runs.take i).total hd.rl
        have h2 := costs_take d.acts i
        have h3 := hd.use
        have h4 := hd.room
        omega
      have hnum := (hd.runs.take i).num hd.num
      have hris := (hd.runs.take i).rising hd.rl
      refine wc_region ?_
      refine wl rfl (OP.ev rfl rfl (eMv rfl) ?_)
      refine wl rfl (OP.ev rfl rfl (eIxS ty50 ty82 rfl (hr23.sel (by repeat (first | exact Sel.all | exact Sel.none | exact Sel.hd | (apply Sel.one; · repeat (first | exact Pick.h | apply Pick.t | apply Pick.app)) | apply Sel.app | (with_reducible apply Sel.grp; · repeat (first | exact PickF.h | apply PickF.t | apply PickF.a)) | (with_reducible refine Sel.nilF (by with_unfolding_all rfl) ?_) | apply Sel.drop | apply Sel.dropF))) rfl (by omega) (by omega)) ?_)
      refine wl rfl (OP.ev rfl rfl (eLdSA (vs := [t.1, t.2.1, i64 (t.2.2.B.length : Int)]) ty82 rfl rfl (hr23.sel (by repeat (first | exact Sel.all | exact Sel.none | exact Sel.hd | (apply Sel.one; · repeat (first | exact Pick.h | apply Pick.t | apply Pick.app)) | apply Sel.app | (with_reducible apply Sel.grp; · repeat (first | exact PickF.h | apply PickF.t | apply PickF.a)) | (with_reducible refine Sel.nilF (by with_unfolding_all rfl) ?_) | apply Sel.drop | apply Sel.dropF))) (i * 3) (by omega) rfl (actV_at (by rw [List.getElem?_take_of_lt (by omega)]; exact htt)) (by decide)) ?_)
      refine wl rfl (oAl rfl ty82 rfl fun b8 => ?_)
      refine wl rfl (OP.ev rfl rfl (eAs rfl) ?_)
      refine wl rfl (oStW ty82 rfl rfl rfl (all3 hon.1 hon.2 rfl) (by repeat (first | exact Upd.h | apply Upd.t | apply Upd.app)) (by rfl) ?_)
      refine wl_nil ?_
      refine wc_seq ?_
      refine wc_region ?_
      refine wl rfl (OP.ev rfl rfl (eFld 1 ty82 rfl rfl ty30 rfl) ?_)
      first | refine wl rfl (OP.ev rfl rfl (eLd ty30 rfl rfl (by repeat (first | exact Has.h | apply Has.t | apply Has.app)) (by rfl)) ?_) | refine wl rfl (OP.ev rfl rfl (eLdO ty30 rfl rfl (by assumption)) ?_)
      refine wl rfl (OP.ev rfl rfl (eAs rfl) ?_)
      refine wl_nil ?_
      refine wc_seq ?_
      refine wc_seq ?_
      refine wc_region ?_
      refine wl rfl (OP.ev rfl rfl (eMv rfl) ?_)
      refine wl rfl (OP.ev rfl rfl (eMv rfl) ?_)
      first | refine wl rfl (OP.ev rfl rfl (eSub rfl rfl (by omega)) ?_) | refine wl rfl (OP.ev rfl rfl (eSubW rfl rfl) ?_)
      refine wl rfl (OP.evb rfl rfl (eEq rfl rfl) fun t35 h35 => ?_)
      refine wl_nil ?_
      cases t35 with
      | true =>
        try have c_t35 := dt h35
        first
        | (exfalso; omega)
        | (
          refine wc_then rfl ?_
          refine wc_region ?_
          refine wl rfl (OP.ev rfl rfl (eMv rfl) ?_)
          refine wl rfl (OP.ev rfl rfl (eMv rfl) ?_)
          refine wl rfl (OP.ev rfl rfl (eLenR ty30 rfl ((hdr.sel hI2).sel (by repeat (first | exact Sel.all | exact Sel.none | exact Sel.hd | (apply Sel.one; · repeat (first | exact Pick.h | apply Pick.t | apply Pick.app)) | apply Sel.app | (with_reducible apply Sel.grp; · repeat (first | exact PickF.h | apply PickF.t | apply PickF.a)) | (with_reducible refine Sel.nilF (by with_unfolding_all rfl) ?_) | apply Sel.drop | apply Sel.dropF)))) ?_)
          refine wl rfl (OP.ev rfl rfl (eMv rfl) ?_)
          refine wl rfl (OP.ev rfl rfl (eMv rfl) ?_)
          refine wl rfl (OP.ev rfl rfl (eLenR ty30 rfl ((hdr.sel hI2).sel (by repeat (first | exact Sel.all | exact Sel.none | exact Sel.hd | (apply Sel.one; · repeat (first | exact Pick.h | apply Pick.t | apply Pick.app)) | apply Sel.app | (with_reducible apply Sel.grp; · repeat (first | exact PickF.h | apply PickF.t | apply PickF.a)) | (with_reducible refine Sel.nilF (by with_unfolding_all rfl) ?_) | apply Sel.drop | apply Sel.dropF)))) ?_)
          refine wl rfl (OP.ev rfl rfl (eMin rfl rfl) ?_)
          refine wl rfl (OP.ev rfl rfl (eMax rfl rfl) ?_)
          first | refine wl rfl (OP.ev rfl rfl (eSub rfl rfl (by omega)) ?_) | refine wl rfl (OP.ev rfl rfl (eSubW rfl rfl) ?_)
          refine wl rfl (oSlH rfl ty30 ty5 rfl ((hdr.sel hI2).sel (by repeat (first | exact Sel.all | exact Sel.none | exact Sel.hd | (apply Sel.one; · repeat (first | exact Pick.h | apply Pick.t | apply Pick.app)) | apply Sel.app | (with_reducible apply Sel.grp; · repeat (first | exact PickF.h | apply PickF.t | apply PickF.a)) | (with_reducible refine Sel.nilF (by with_unfolding_all rfl) ?_) | apply Sel.drop | apply Sel.dropF))) rfl (by omega) (by omega) ?_)
          intro _
          have hdt := torn_rs (t := tear) (hdr.sel hI2) rfl
          refine wl rfl (OP.ev rfl rfl (eAs rfl) ?_)
          refine wl_nil ?_
          refine wc_draw [(b8, .cells #[t.1, t.2.1, i64 (t.2.2.B.length : Int)] 82 (0, 0)), dkC b d ms ml av] rfl ?_
          refine wa_take 0 (by kernel_rfl) rfl rfl rfl rfl (by repeat (first | exact Sel.all | exact Sel.none | exact Sel.hd | (apply Sel.one; · repeat (first | exact Pick.h | apply Pick.t | apply Pick.app)) | apply Sel.app | (with_reducible apply Sel.grp; · repeat (first | exact PickF.h | apply PickF.t | apply PickF.a)) | (with_reducible refine Sel.nilF (by with_unfolding_all rfl) ?_) | apply Sel.drop | apply Sel.dropF)) (eFld 0 ty82 rfl rfl ty78 rfl) ?_
          first | refine wa_take 1 (by kernel_rfl) rfl rfl rfl rfl (by repeat (first | exact Sel.all | exact Sel.none | exact Sel.hd | (apply Sel.one; · repeat (first | exact Pick.h | apply Pick.t | apply Pick.app)) | apply Sel.app | (with_reducible apply Sel.grp; · repeat (first | exact PickF.h | apply PickF.t | apply PickF.a)) | (with_reducible refine Sel.nilF (by with_unfolding_all rfl) ?_) | apply Sel.drop | apply Sel.dropF)) (eLd ty78 rfl rfl (by repeat (first | exact Has.h | apply Has.t | apply Has.app)) (by rfl)) ?_ | refine wa_take 1 (by kernel_rfl) rfl rfl rfl rfl (by repeat (first | exact Sel.all | exact Sel.none | exact Sel.hd | (apply Sel.one; · repeat (first | exact Pick.h | apply Pick.t | apply Pick.app)) | apply Sel.app | (with_reducible apply Sel.grp; · repeat (first | exact PickF.h | apply PickF.t | apply PickF.a)) | (with_reducible refine Sel.nilF (by with_unfolding_all rfl) ?_) | apply Sel.drop | apply Sel.dropF)) (eLdO ty78 rfl rfl (by assumption)) ?_
          refine wa_take 2 (by kernel_rfl) rfl rfl rfl rfl (by repeat (first | exact Sel.all | exact Sel.none | exact Sel.hd | (apply Sel.one; · repeat (first | exact Pick.h | apply Pick.t | apply Pick.app)) | apply Sel.app | (with_reducible apply Sel.grp; · repeat (first | exact PickF.h | apply PickF.t | apply PickF.a)) | (with_reducible refine Sel.nilF (by with_unfolding_all rfl) ?_) | apply Sel.drop | apply Sel.dropF)) (eMv rfl) ?_
          refine wa_take 3 (by kernel_rfl) rfl rfl rfl rfl (by repeat (first | exact Sel.all | exact Sel.none | exact Sel.hd | (apply Sel.one; · repeat (first | exact Pick.h | apply Pick.t | apply Pick.app)) | apply Sel.app | (with_reducible apply Sel.grp; · repeat (first | exact PickF.h | apply PickF.t | apply PickF.a)) | (with_reducible refine Sel.nilF (by with_unfolding_all rfl) ?_) | apply Sel.drop | apply Sel.dropF)) (eNil rfl) ?_
          refine wa_take 4 (by kernel_rfl) rfl rfl rfl rfl (by repeat (first | exact Sel.all | exact Sel.none | exact Sel.hd | (apply Sel.one; · repeat (first | exact Pick.h | apply Pick.t | apply Pick.app)) | apply Sel.app | (with_reducible apply Sel.grp; · repeat (first | exact PickF.h | apply PickF.t | apply PickF.a)) | (with_reducible refine Sel.nilF (by with_unfolding_all rfl) ?_) | apply Sel.drop | apply Sel.dropF)) (eFld 6 ty52 rfl rfl ty49 rfl) ?_
          first | refine wa_take 5 (by kernel_rfl) rfl rfl rfl rfl (by repeat (first | exact Sel.all | exact Sel.none | exact Sel.hd | (apply Sel.one; · repeat (first | exact Pick.h | apply Pick.t | apply Pick.app)) | apply Sel.app | (with_reducible apply Sel.grp; · repeat (first | exact PickF.h | apply PickF.t | apply PickF.a)) | (with_reducible refine Sel.nilF (by with_unfolding_all rfl) ?_) | apply Sel.drop | apply Sel.dropF)) (eLd ty49 rfl rfl (by repeat (first | exact Has.h | apply Has.t | apply Has.app)) (by rfl)) ?_ | refine wa_take 5 (by kernel_rfl) rfl rfl rfl rfl (by repeat (first | exact Sel.all | exact Sel.none | exact Sel.hd | (apply Sel.one; · repeat (first | exact Pick.h | apply Pick.t | apply Pick.app)) | apply Sel.app | (with_reducible apply Sel.grp; · repeat (first | exact PickF.h | apply PickF.t | apply PickF.a)) | (with_reducible refine Sel.nilF (by with_unfolding_all rfl) ?_) | apply Sel.drop | apply Sel.dropF)) (eLdO ty49 rfl rfl (by assumption)) ?_
          refine wa_take 6 (by kernel_rfl) rfl rfl rfl rfl (by repeat (first | exact Sel.all | exact Sel.none | exact Sel.hd | (apply Sel.one; · repeat (first | exact Pick.h | apply Pick.t | apply Pick.app)) | apply Sel.app | (with_reducible apply Sel.grp; · repeat (first | exact PickF.h | apply PickF.t | apply PickF.a)) | (with_reducible refine Sel.nilF (by with_unfolding_all rfl) ?_) | apply Sel.drop | apply Sel.dropF)) (eMv rfl) ?_
          refine wa_all [7] (by kernel_rfl) rfl (wall_one 7 rfl rfl ?_ trivial)
          first
          | refine oFun (a := torn t.2.2 tear) rfl rfl rfl rfl (hfr.sel hI2) hdt (isB_take hB _) hT (hcan.torn hris tear) hnm htot (Nat.le_trans (by show (t.2.2.B.take _).length ≤ t.2.2.B.length; rw [List.length_take]; omega) hlen) hnum (by repeat (first | exact Sel.all | exact Sel.none | exact Sel.hd | (apply Sel.one; · repeat (first | exact Pick.h | apply Pick.t | apply Pick.app)) | apply Sel.app | (with_reducible apply Sel.grp; · repeat (first | exact PickF.h | apply PickF.t | apply PickF.a)) | (with_reducible refine Sel.nilF (by with_unfolding_all rfl) ?_) | apply Sel.drop | apply Sel.dropF)) ?_
          | refine oFun (a := t.2.2) rfl rfl rfl rfl (hfr.sel hI2) (hdr.sel hI2) hB hT hcan hnm htot hlen hnum (by repeat (first | exact Sel.all | exact Sel.none | exact Sel.hd | (apply Sel.one; · repeat (first | exact Pick.h | apply Pick.t | apply Pick.app)) | apply Sel.app | (with_reducible apply Sel.grp; · repeat (first | exact PickF.h | apply PickF.t | apply PickF.a)) | (with_reducible refine Sel.nilF (by with_unfolding_all rfl) ?_) | apply Sel.drop | apply Sel.dropF)) ?_
          rintro v53 m' c' I3 hI3 hT'
          refine ⟨(by repeat (first | exact Sel.all | exact Sel.none | exact Sel.hd | (apply Sel.one; · repeat (first | exact Pick.h | apply Pick.t | apply Pick.app)) | apply Sel.app | (with_reducible apply Sel.grp; · repeat (first | exact PickF.h | apply PickF.t | apply PickF.a)) | (with_reducible refine Sel.nilF (by with_unfolding_all rfl) ?_) | apply Sel.drop | apply Sel.dropF)), ?_⟩
          refine wa_nil (by kernel_rfl) ?_
          refine wc_region ?_
          first | refine wl rfl (OP.ev rfl rfl (eAdd rfl rfl (by omega)) ?_) | refine wl rfl (OP.ev rfl rfl (eAddW rfl rfl) ?_)
          refine wl rfl (OP.ev rfl rfl (eMv rfl) ?_)
          refine wl_nil ?_
          first
          | exact ⟨(i + 1, m', c', I3), ⟨by show i + 1 ≤ N; omega, hI3.trans hI2, by show Tab W0 I3 m' c' (curF _ _ _ _ (i + 1)); rw [curF_last (by omega) hat]; exact hT'⟩, by show N - (i + 1) < _; omega, ⟨rfl, rfl, rfl, rfl, rfl, rfl, trivial⟩, (by repeat (first | exact Sel.all | exact Sel.none | exact Sel.hd | (apply Sel.one; · repeat (first | exact Pick.h | apply Pick.t | apply Pick.app)) | apply Sel.app | (with_reducible apply Sel.grp; · repeat (first | exact PickF.h | apply PickF.t | apply PickF.a)) | (with_reducible refine Sel.nilF (by with_unfolding_all rfl) ?_) | apply Sel.drop | apply Sel.dropF))⟩
          | exact ⟨(i + 1, m', c', I3), ⟨by show i + 1 ≤ N; omega, hI3.trans hI2, by show Tab W0 I3 m' c' (curF _ _ _ _ (i + 1)); rw [curF_mid (by omega) hat]; exact hT'⟩, by show N - (i + 1) < _; omega, ⟨rfl, rfl, rfl, rfl, rfl, rfl, trivial⟩, (by repeat (first | exact Sel.all | exact Sel.none | exact Sel.hd | (apply Sel.one; · repeat (first | exact Pick.h | apply Pick.t | apply Pick.app)) | apply Sel.app | (with_reducible apply Sel.grp; · repeat (first | exact PickF.h | apply PickF.t | apply PickF.a)) | (with_reducible refine Sel.nilF (by with_unfolding_all rfl) ?_) | apply Sel.drop | apply Sel.dropF))⟩)
      | false =>
        try have c_t35 := df h35
        first
        | (exfalso; omega)
        | (
          refine wc_else rfl ?_
          refine wc_skip ?_
          refine wc_draw [(b8, .cells #[t.1, t.2.1, i64 (t.2.2.B.length : Int)] 82 (0, 0)), dkC b d ms ml av] rfl ?_
          refine wa_take 0 (by kernel_rfl) rfl rfl rfl rfl (by repeat (first | exact Sel.all | exact Sel.none | exact Sel.hd | (apply Sel.one; · repeat (first | exact Pick.h | apply Pick.t | apply Pick.app)) | apply Sel.app | (with_reducible apply Sel.grp; · repeat (first | exact PickF.h | apply PickF.t | apply PickF.a)) | (with_reducible refine Sel.nilF (by with_unfolding_all rfl) ?_) | apply Sel.drop | apply Sel.dropF)) (eFld 0 ty82 rfl rfl ty78 rfl) ?_
          first | refine wa_take 1 (by kernel_rfl) rfl rfl rfl rfl (by repeat (first | exact Sel.all | exact Sel.none | exact Sel.hd | (apply Sel.one; · repeat (first | exact Pick.h | apply Pick.t | apply Pick.app)) | apply Sel.app | (with_reducible apply Sel.grp; · repeat (first | exact PickF.h | apply PickF.t | apply PickF.a)) | (with_reducible refine Sel.nilF (by with_unfolding_all rfl) ?_) | apply Sel.drop | apply Sel.dropF)) (eLd ty78 rfl rfl (by repeat (first | exact Has.h | apply Has.t | apply Has.app)) (by rfl)) ?_ | refine wa_take 1 (by kernel_rfl) rfl rfl rfl rfl (by repeat (first | exact Sel.all | exact Sel.none | exact Sel.hd | (apply Sel.one; · repeat (first | exact Pick.h | apply Pick.t | apply Pick.app)) | apply Sel.app | (with_reducible apply Sel.grp; · repeat (first | exact PickF.h | apply PickF.t | apply PickF.a)) | (with_reducible refine Sel.nilF (by with_unfolding_all rfl) ?_) | apply Sel.drop | apply Sel.dropF)) (eLdO ty78 rfl rfl (by assumption)) ?_
          refine wa_take 2 (by kernel_rfl) rfl rfl rfl rfl (by repeat (first | exact Sel.all | exact Sel.none | exact Sel.hd | (apply Sel.one; · repeat (first | exact Pick.h | apply Pick.t | apply Pick.app)) | apply Sel.app | (with_reducible apply Sel.grp; · repeat (first | exact PickF.h | apply PickF.t | apply PickF.a)) | (with_reducible refine Sel.nilF (by with_unfolding_all rfl) ?_) | apply Sel.drop | apply Sel.dropF)) (eMv rfl) ?_
          refine wa_take 3 (by kernel_rfl) rfl rfl rfl rfl (by repeat (first | exact Sel.all | exact Sel.none | exact Sel.hd | (apply Sel.one; · repeat (first | exact Pick.h | apply Pick.t | apply Pick.app)) | apply Sel.app | (with_reducible apply Sel.grp; · repeat (first | exact PickF.h | apply PickF.t | apply PickF.a)) | (with_reducible refine Sel.nilF (by with_unfolding_all rfl) ?_) | apply Sel.drop | apply Sel.dropF)) (eNil rfl) ?_
          refine wa_take 4 (by kernel_rfl) rfl rfl rfl rfl (by repeat (first | exact Sel.all | exact Sel.none | exact Sel.hd | (apply Sel.one; · repeat (first | exact Pick.h | apply Pick.t | apply Pick.app)) | apply Sel.app | (with_reducible apply Sel.grp; · repeat (first | exact PickF.h | apply PickF.t | apply PickF.a)) | (with_reducible refine Sel.nilF (by with_unfolding_all rfl) ?_) | apply Sel.drop | apply Sel.dropF)) (eFld 6 ty52 rfl rfl ty49 rfl) ?_
          first | refine wa_take 5 (by kernel_rfl) rfl rfl rfl rfl (by repeat (first | exact Sel.all | exact Sel.none | exact Sel.hd | (apply Sel.one; · repeat (first | exact Pick.h | apply Pick.t | apply Pick.app)) | apply Sel.app | (with_reducible apply Sel.grp; · repeat (first | exact PickF.h | apply PickF.t | apply PickF.a)) | (with_reducible refine Sel.nilF (by with_unfolding_all rfl) ?_) | apply Sel.drop | apply Sel.dropF)) (eLd ty49 rfl rfl (by repeat (first | exact Has.h | apply Has.t | apply Has.app)) (by rfl)) ?_ | refine wa_take 5 (by kernel_rfl) rfl rfl rfl rfl (by repeat (first | exact Sel.all | exact Sel.none | exact Sel.hd | (apply Sel.one; · repeat (first | exact Pick.h | apply Pick.t | apply Pick.app)) | apply Sel.app | (with_reducible apply Sel.grp; · repeat (first | exact PickF.h | apply PickF.t | apply PickF.a)) | (with_reducible refine Sel.nilF (by with_unfolding_all rfl) ?_) | apply Sel.drop | apply Sel.dropF)) (eLdO ty49 rfl rfl (by assumption)) ?_
          refine wa_take 6 (by kernel_rfl) rfl rfl rfl rfl (by repeat (first | exact Sel.all | exact Sel.none | exact Sel.hd | (apply Sel.one; · repeat (first | exact Pick.h | apply Pick.t | apply Pick.app)) | apply Sel.app | (with_reducible apply Sel.grp; · repeat (first | exact PickF.h | apply PickF.t | apply PickF.a)) | (with_reducible refine Sel.nilF (by with_unfolding_all rfl) ?_) | apply Sel.drop | apply Sel.dropF)) (eMv rfl) ?_
          refine wa_all [7] (by kernel_rfl) rfl (wall_one 7 rfl rfl ?_ trivial)
          first
          | refine oFun (a := torn t.2.2 tear) rfl rfl rfl rfl (hfr.sel hI2) hdt (isB_take hB _) hT (hcan.torn hris tear) hnm htot (Nat.le_trans (by show (t.2.2.B.take _).length ≤ t.2.2.B.length; rw [List.length_take]; omega) hlen) hnum (by repeat (first | exact Sel.all | exact Sel.none | exact Sel.hd | (apply Sel.one; · repeat (first | exact Pick.h | apply Pick.t | apply Pick.app)) | apply Sel.app | (with_reducible apply Sel.grp; · repeat (first | exact PickF.h | apply PickF.t | apply PickF.a)) | (with_reducible refine Sel.nilF (by with_unfolding_all rfl) ?_) | apply Sel.drop | apply Sel.dropF)) ?_
          | refine oFun (a := t.2.2) rfl rfl rfl rfl (hfr.sel hI2) (hdr.sel hI2) hB hT hcan hnm htot hlen hnum (by repeat (first | exact Sel.all | exact Sel.none | exact Sel.hd | (apply Sel.one; · repeat (first | exact Pick.h | apply Pick.t | apply Pick.app)) | apply Sel.app | (with_reducible apply Sel.grp; · repeat (first | exact PickF.h | apply PickF.t | apply PickF.a)) | (with_reducible refine Sel.nilF (by with_unfolding_all rfl) ?_) | apply Sel.drop | apply Sel.dropF)) ?_
          rintro v53 m' c' I3 hI3 hT'
          refine ⟨(by repeat (first | exact Sel.all | exact Sel.none | exact Sel.hd | (apply Sel.one; · repeat (first | exact Pick.h | apply Pick.t | apply Pick.app)) | apply Sel.app | (with_reducible apply Sel.grp; · repeat (first | exact PickF.h | apply PickF.t | apply PickF.a)) | (with_reducible refine Sel.nilF (by with_unfolding_all rfl) ?_) | apply Sel.drop | apply Sel.dropF)), ?_⟩
          refine wa_nil (by kernel_rfl) ?_
          refine wc_region ?_
          first | refine wl rfl (OP.ev rfl rfl (eAdd rfl rfl (by omega)) ?_) | refine wl rfl (OP.ev rfl rfl (eAddW rfl rfl) ?_)
          refine wl rfl (OP.ev rfl rfl (eMv rfl) ?_)
          refine wl_nil ?_
          first
          | exact ⟨(i + 1, m', c', I3), ⟨by show i + 1 ≤ N; omega, hI3.trans hI2, by show Tab W0 I3 m' c' (curF _ _ _ _ (i + 1)); rw [curF_last (by omega) hat]; exact hT'⟩, by show N - (i + 1) < _; omega, ⟨rfl, rfl, rfl, rfl, rfl, rfl, trivial⟩, (by repeat (first | exact Sel.all | exact Sel.none | exact Sel.hd | (apply Sel.one; · repeat (first | exact Pick.h | apply Pick.t | apply Pick.app)) | apply Sel.app | (with_reducible apply Sel.grp; · repeat (first | exact PickF.h | apply PickF.t | apply PickF.a)) | (with_reducible refine Sel.nilF (by with_unfolding_all rfl) ?_) | apply Sel.drop | apply Sel.dropF))⟩
          | exact ⟨(i + 1, m', c', I3), ⟨by show i + 1 ≤ N; omega, hI3.trans hI2, by show Tab W0 I3 m' c' (curF _ _ _ _ (i + 1)); rw [curF_mid (by omega) hat]; exact hT'⟩, by show N - (i + 1) < _; omega, ⟨rfl, rfl, rfl, rfl, rfl, rfl, trivial⟩, (by repeat (first | exact Sel.all | exact Sel.none | exact Sel.hd | (apply Sel.one; · repeat (first | exact Pick.h | apply Pick.t | apply Pick.app)) | apply Sel.app | (with_reducible apply Sel.grp; · repeat (first | exact PickF.h | apply PickF.t | apply PickF.a)) | (with_reducible refine Sel.nilF (by with_unfolding_all rfl) ?_) | apply Sel.drop | apply Sel.dropF))⟩))
  | false =>
    try have c_t26 := df h26
    first
    | (exfalso; omega)
    | (
      refine wc_else rfl ?_
      refine wc_exit rfl ?_
      refine wc_seq ?_
      obtain rfl : i = N := by omega
      rw [curF_end, ← hfell] at hT
      have hd2 := hd.fall keep tear
      refine wc_region ?_
      refine wl rfl (OP.ev rfl rfl (eMv rfl) ?_)
      refine wl rfl (OP.ev rfl rfl (eMv rfl) ?_)
      refine wl rfl (OP.ev rfl rfl (eMv rfl) ?_)
      refine wl rfl (OP.ev rfl rfl (eNil rfl) ?_)
      refine wl rfl (OP.ev rfl rfl (eFld 6 ty52 rfl rfl ty49 rfl) ?_)
      first | refine wl rfl (OP.ev rfl rfl (eLd ty49 rfl rfl (by repeat (first | exact Has.h | apply Has.t | apply Has.app)) (by rfl)) ?_) | refine wl rfl (OP.ev rfl rfl (eLdO ty49 rfl rfl (by assumption)) ?_)
      refine wl rfl (oC rfl pf50 rfl (copied_ok ml m c (d.fell keep tear) hT hd2.num hd2.lbytes _) (by repeat (first | exact Sel.all | exact Sel.none | exact Sel.hd | (apply Sel.one; · repeat (first | exact Pick.h | apply Pick.t | apply Pick.app)) | apply Sel.app | (with_reducible apply Sel.grp; · repeat (first | exact PickF.h | apply PickF.t | apply PickF.a)) | (with_reducible refine Sel.nilF (by with_unfolding_all rfl) ?_) | apply Sel.drop | apply Sel.dropF)) ?_)
      rintro v61 _ ⟨r4, m4, c4, I4, rfl, hI4, hT4, rfl⟩
      refine wl rfl (OP.ev rfl rfl (eNil rfl) ?_)
      refine wl rfl (OP.ev rfl rfl (eFld 5 ty52 rfl rfl ty49 rfl) ?_)
      refine wl rfl (oSt ty49 rfl rfl rfl rfl (by repeat (first | exact Upd.h | apply Upd.t | apply Upd.app)) (by first | decide | simp) (by rfl) ?_)
      refine wl rfl (OP.ev rfl rfl (eNil rfl) ?_)
      refine wl rfl (OP.ev rfl rfl (eFld 7 ty52 rfl rfl ty50 rfl) ?_)
      refine wl rfl (oSt ty50 rfl rfl rfl rfl (by repeat (first | exact Upd.h | apply Upd.t | apply Upd.app)) (by first | decide | simp) (by rfl) ?_)
      refine wl_nil ?_
      refine wc_region ?_
      refine wl rfl (OP.ev rfl rfl (eMv rfl) ?_)
      refine wl rfl (OP.ev rfl rfl (eBuL (cells := [_, .int .i64 0, .int .i64 0, .int .i64 0]) ty47 pl47 rfl rfl) ?_)
      refine wl rfl (OP.ev rfl rfl (eNil rfl) ?_)
      refine wl rfl (OP.ev rfl rfl (eFld 0 ty52 rfl rfl ty47 rfl) ?_)
      refine wl rfl (oStA (vs := [.bool true, i64 0, i64 0, i64 0]) ty47 rfl rfl rfl rfl rfl (by repeat (first | exact Upd.h | apply Upd.t | apply Upd.app)) (by simp) ?_)
      refine wl_nil ?_
      apply at_ret rfl
      · exact .nil
      · exact ⟨rfl, dkC b (d.fall keep tear) r4 ml (.slice none 0 0) :: tC r4 m4 c4 :: tC ml m c :: ownH (.slice none 0 0) #[] 82, I4, hI4.trans hI2, ⟨_, _, _, _, _, _, _, _, [], rfl, hT4, hT.sel hI4, ActsR.nil⟩, rfl⟩
      · exact (by repeat (first | exact Sel.all | exact Sel.none | exact Sel.hd | (apply Sel.one; · repeat (first | exact Pick.h | apply Pick.t | apply Pick.app)) | apply Sel.app | (with_reducible apply Sel.grp; · repeat (first | exact PickF.h | apply PickF.t | apply PickF.a)) | (with_reducible refine Sel.nilF (by with_unfolding_all rfl) ?_) | apply Sel.drop | apply Sel.dropF)))

theorem act_no {d : DK} {a : Act} (h : (d.add a).hit = false) : d.act a = (0, (d.add a).less) := by
  unfold DK.act
  rw [if_neg (show ¬ d.left = 1 from of_decide_eq_false h)]
theorem act_hit {d : DK} {a : Act} (h : (d.add a).hit = true) : d.act a = (22, ((d.add a).less).fall d.keep d.tear) := by
  unfold DK.act
  rw [if_pos (show d.left = 1 from of_decide_eq_true h)]
theorem fill3 {a b c x y z : Value} (hx : x.oneCell' = true) (hy : y.oneCell' = true) (hz : z.oneCell' = true) : fillL [(0, 1), (1, 1), (2, 1)] [a, b, c] [(0, x), (1, y), (2, z)] = some [x, y, z] := by
  simp [fillL, setL, oneCell_of hx, oneCell_of hy, oneCell_of hz]
  rfl
theorem do_ok (b : Nat) (d : DK) (hd : DOk d) (ho : d.off = false) (a : Act) (f data : Value) (hc : CanDo d.seen a) (hu : ((total d.last + costs d.acts + a.B.length : Nat) : Int) ≤ d.room) (hnm : a.name.length ≤ 32 ∧ a.to_.length ≤ 32)
    (hf : FunR W0 I f a) (hda : Rs W0 I data 1 a.B.length (byteV a.B)) (hB : IsB a.B) (D R : Heap) (hD : DiskR W0 I d b D) (hn : d.acts.length < 1000000) :
    FnC W0 Try.prog 48 #[ptr b, data, f] (D ++ (I ++ R)) (PutP W0 I R b (d.act a).2 (i64 (d.act a).1)) := by
  obtain ⟨ms, ml, m1, c1, m2, c2, av, acs, ax, rfl, hT1, hT2, hA⟩ := hD
  have hal := hA.len
  have hlen : a.B.length ≤ 16777216 := by
    have := hd.room
    omega
  have hd1 := hd.add ho hc hu hnm
  obtain ⟨ad0, k0, cp0, hdv⟩ := hda.isSlice
  have hon := hf.one
  have hon2 : data.oneCell' = true := by rw [hdv]; rfl
  simp only [List.cons_append]
  refine fn_of Try.func48 rfl Try.ntmps48 rfl rfl ?_
  refine wc_seq ?_
  refine wc_region ?_
  refine wl rfl (OP.ev rfl rfl (eAs rfl) ?_)
  refine wl_nil ?_
  refine wc_seq ?_
  refine wc_region ?_
  refine wl rfl (OP.ev rfl rfl (eMv rfl) ?_)
  refine wl rfl (OP.ev rfl rfl (eMv rfl) ?_)
  refine wl rfl (OP.ev rfl rfl (eNil rfl) ?_)
  refine wl rfl (OP.ev rfl rfl (eFld 5 ty52 rfl rfl ty49 rfl) ?_)
  first | refine wl rfl (OP.ev rfl rfl (eLd ty49 rfl rfl (by repeat (first | exact Has.h | apply Has.t | apply Has.app)) (by rfl)) ?_) | refine wl rfl (OP.ev rfl rfl (eLdO ty49 rfl rfl (by assumption)) ?_)
  refine wl rfl (OP.ev rfl rfl (eMv rfl) ?_)
  refine wl rfl (oFun rfl rfl rfl rfl hf hda hB hT1 hc hnm hd.sbytes hlen hd.snum (by repeat (first | exact Sel.all | exact Sel.none | exact Sel.hd | (apply Sel.one; · repeat (first | exact Pick.h | apply Pick.t | apply Pick.app)) | apply Sel.app | (with_reducible apply Sel.grp; · repeat (first | exact PickF.h | apply PickF.t | apply PickF.a)) | (with_reducible refine Sel.nilF (by with_unfolding_all rfl) ?_) | apply Sel.drop | apply Sel.dropF)) ?_)
  rintro v13 m3 c3 I3 hI3 hT3
  refine wl_nil ?_
  refine wc_seq ?_
  refine wc_region ?_
  refine wl rfl (OP.ev rfl rfl (eMv rfl) ?_)
  refine wl rfl (OP.ev rfl rfl (eMv rfl) ?_)
  refine wl rfl (OP.ev rfl rfl (eNil rfl) ?_)
  refine wl rfl (OP.ev rfl rfl (eFld 7 ty52 rfl rfl ty50 rfl) ?_)
  first | refine wl rfl (OP.ev rfl rfl (eLd ty50 rfl rfl (by repeat (first | exact Has.h | apply Has.t | apply Has.app)) (by rfl)) ?_) | refine wl rfl (OP.ev rfl rfl (eLdO ty50 rfl rfl (by assumption)) ?_)
  refine wl rfl (OP.ev rfl rfl (eMv rfl) ?_)
  refine wl rfl (OP.ev rfl rfl (eMv rfl) ?_)
  refine wl rfl (OP.ev rfl rfl (eMv rfl) ?_)
  refine wl rfl (OP.ev rfl rfl (eLenR ty30 rfl ((hda.sel hI3).sel (by repeat (first | exact Sel.all | exact Sel.none | exact Sel.hd | (apply Sel.one; · repeat (first | exact Pick.h | apply Pick.t | apply Pick.app)) | apply Sel.app | (with_reducible apply Sel.grp; · repeat (first | exact PickF.h | apply PickF.t | apply PickF.a)) | (with_reducible refine Sel.nilF (by with_unfolding_all rfl) ?_) | apply Sel.drop | apply Sel.dropF)))) ?_)
  refine wl rfl (OP.ev rfl rfl (eBuL (cells := [f, data, i64 (a.B.length : Int)]) ty82 pl82 rfl (fill3 hon hon2 rfl)) ?_)
  refine wl rfl (oBSw (vs := [.agg #[f, data, i64 (a.B.length : Int)]]) rfl ty50 ty82 rfl rfl rfl rfl rfl rfl fun b24 => ?_)
  refine wl rfl (oApp (m := 1) (news := [f, data, i64 (a.B.length : Int)]) rfl ty50 ty82 rfl rfl rfl hA.row (by repeat (first | exact At.cell | exact At.h | apply At.t | apply At.a)) (Rs.mk (Rc.of_has (by repeat (first | exact Has.h | apply Has.t | apply Has.app)) rfl) rfl (Nat.le_refl _)) (all3 hon hon2 rfl) (by omega) (by omega) ?_)
  rintro v25 cs25 hrow25 hn25
  have hA2 : ActsR W0 I3 v25 cs25 (ax ++ [(f, data, a)]) (d.acts ++ [a]) := by
    refine ⟨?_, by rw [List.map_append, hA.acts]; rfl, fun t ht => ?_⟩
    · rw [actV_app, List.length_append]; exact hrow25
    · rcases List.mem_append.1 ht with ht | ht
      · exact ⟨(hA.ok t ht).1, (hA.ok t ht).2.1.sel hI3, (hA.ok t ht).2.2.sel hI3⟩
      · simp at ht; subst ht; exact ⟨hB, hda.sel hI3, hf.sel hI3⟩
  refine wl rfl (OP.ev rfl rfl (eNil rfl) ?_)
  refine wl rfl (OP.ev rfl rfl (eFld 7 ty52 rfl rfl ty50 rfl) ?_)
  refine wl rfl (oSt ty50 rfl rfl hrow25.one rfl (by repeat (first | exact Upd.h | apply Upd.t | apply Upd.app)) (by first | decide | simp) (by rfl) ?_)
  refine wl_nil ?_
  refine wc_seq ?_
  refine wc_seq ?_
  have hD2 : DiskR W0 I3 ((d.add a).less) b (dkC b ((d.add a).less) ms ml v25 :: tC ms m3 c3 :: tC ml m2 c2 :: ownH v25 cs25 82) := ⟨_, _, _, _, _, _, _, _, _, rfl, hT3, hT2.sel hI3, hA2⟩
  rcases hh : (d.add a).hit with _ | _
  · refine wc_region ?_
    refine wl rfl (OP.ev rfl rfl (eMv rfl) ?_)
    refine wl rfl (oC rfl pf66 rfl (struck_ok b (d.add a) ms ml v25 hd1.left _) (by repeat (first | exact Sel.all | exact Sel.none | exact Sel.hd | (apply Sel.one; · repeat (first | exact Pick.h | apply Pick.t | apply Pick.app)) | apply Sel.app | (with_reducible apply Sel.grp; · repeat (first | exact PickF.h | apply PickF.t | apply PickF.a)) | (with_reducible refine Sel.nilF (by with_unfolding_all rfl) ?_) | apply Sel.drop | apply Sel.dropF)) ?_)
    rintro _ _ ⟨rfl, rfl⟩
    refine wl_nil ?_
    rw [hh]
    refine wc_else rfl ?_
    refine wc_skip ?_
    refine wc_seq ?_
    refine wc_region ?_
    refine wl rfl (OP.ev rfl rfl (eAs rfl) ?_)
    refine wl_nil ?_
    refine wc_ret ?_
    apply at_ret rfl
    · exact (.cons (.tmp rfl) .nil)
    · first
      | exact ⟨by rw [act_no hh]; rfl, _, I3, hI3, by rw [act_no hh]; exact hD2, (rfl : (dkC b ((d.add a).less) ms ml v25 :: tC ms m3 c3 :: tC ml m2 c2 :: (ownH v25 cs25 82 ++ (I3 ++ R))) = _)⟩
      | exact ⟨by rw [act_hit hh]; rfl, _, I4, hI4.trans hI3, by rw [act_hit hh]; exact hD4, rfl⟩
    · exact (by repeat (first | exact Sel.all | exact Sel.none | exact Sel.hd | (apply Sel.one; · repeat (first | exact Pick.h | apply Pick.t | apply Pick.app)) | apply Sel.app | (with_reducible apply Sel.grp; · repeat (first | exact PickF.h | apply PickF.t | apply PickF.a)) | (with_reducible refine Sel.nilF (by with_unfolding_all rfl) ?_) | apply Sel.drop | apply Sel.dropF))
  · refine wc_region ?_
    refine wl rfl (OP.ev rfl rfl (eMv rfl) ?_)
    refine wl rfl (oC rfl pf66 rfl (struck_ok b (d.add a) ms ml v25 hd1.left _) (by repeat (first | exact Sel.all | exact Sel.none | exact Sel.hd | (apply Sel.one; · repeat (first | exact Pick.h | apply Pick.t | apply Pick.app)) | apply Sel.app | (with_reducible apply Sel.grp; · repeat (first | exact PickF.h | apply PickF.t | apply PickF.a)) | (with_reducible refine Sel.nilF (by with_unfolding_all rfl) ?_) | apply Sel.drop | apply Sel.dropF)) ?_)
    rintro _ _ ⟨rfl, rfl⟩
    refine wl_nil ?_
    rw [hh]
    refine wc_then rfl ?_
    refine wc_seq ?_
    have hfall := fall_ok (W0 := W0) b ((d.add a).less) hd1.less d.keep d.tear hd.keep.1 hd.keep.2 _ R hD2 (by show (d.acts ++ [a]).length ≤ _; simp; omega)
    simp only [List.cons_append] at hfall
    refine wc_draw [] rfl ?_
    refine wa_take 0 (by kernel_rfl) rfl rfl rfl rfl (by repeat (first | exact Sel.all | exact Sel.none | exact Sel.hd | (apply Sel.one; · repeat (first | exact Pick.h | apply Pick.t | apply Pick.app)) | apply Sel.app | (with_reducible apply Sel.grp; · repeat (first | exact PickF.h | apply PickF.t | apply PickF.a)) | (with_reducible refine Sel.nilF (by with_unfolding_all rfl) ?_) | apply Sel.drop | apply Sel.dropF)) (eMv rfl) ?_
    refine wa_take 1 (by kernel_rfl) rfl rfl rfl rfl (by repeat (first | exact Sel.all | exact Sel.none | exact Sel.hd | (apply Sel.one; · repeat (first | exact Pick.h | apply Pick.t | apply Pick.app)) | apply Sel.app | (with_reducible apply Sel.grp; · repeat (first | exact PickF.h | apply PickF.t | apply PickF.a)) | (with_reducible refine Sel.nilF (by with_unfolding_all rfl) ?_) | apply Sel.drop | apply Sel.dropF)) (eMv rfl) ?_
    refine wa_take 2 (by kernel_rfl) rfl rfl rfl rfl (by repeat (first | exact Sel.all | exact Sel.none | exact Sel.hd | (apply Sel.one; · repeat (first | exact Pick.h | apply Pick.t | apply Pick.app)) | apply Sel.app | (with_reducible apply Sel.grp; · repeat (first | exact PickF.h | apply PickF.t | apply PickF.a)) | (with_reducible refine Sel.nilF (by with_unfolding_all rfl) ?_) | apply Sel.drop | apply Sel.dropF)) (eNil rfl) ?_
    refine wa_take 3 (by kernel_rfl) rfl rfl rfl rfl (by repeat (first | exact Sel.all | exact Sel.none | exact Sel.hd | (apply Sel.one; · repeat (first | exact Pick.h | apply Pick.t | apply Pick.app)) | apply Sel.app | (with_reducible apply Sel.grp; · repeat (first | exact PickF.h | apply PickF.t | apply PickF.a)) | (with_reducible refine Sel.nilF (by with_unfolding_all rfl) ?_) | apply Sel.drop | apply Sel.dropF)) (eFld 0 ty52 rfl rfl ty47 rfl) ?_
    refine wa_take 4 (by kernel_rfl) rfl rfl rfl rfl (by repeat (first | exact Sel.all | exact Sel.none | exact Sel.hd | (apply Sel.one; · repeat (first | exact Pick.h | apply Pick.t | apply Pick.app)) | apply Sel.app | (with_reducible apply Sel.grp; · repeat (first | exact PickF.h | apply PickF.t | apply PickF.a)) | (with_reducible refine Sel.nilF (by with_unfolding_all rfl) ?_) | apply Sel.drop | apply Sel.dropF)) (eFld 2 ty47 rfl rfl ty3 rfl) ?_
    refine wa_take 6 (by kernel_rfl) rfl rfl rfl rfl (by repeat (first | exact Sel.all | exact Sel.none | exact Sel.hd | (apply Sel.one; · repeat (first | exact Pick.h | apply Pick.t | apply Pick.app)) | apply Sel.app | (with_reducible apply Sel.grp; · repeat (first | exact PickF.h | apply PickF.t | apply PickF.a)) | (with_reducible refine Sel.nilF (by with_unfolding_all rfl) ?_) | apply Sel.drop | apply Sel.dropF)) (eMv rfl) ?_
    refine wa_take 7 (by kernel_rfl) rfl rfl rfl rfl (by repeat (first | exact Sel.all | exact Sel.none | exact Sel.hd | (apply Sel.one; · repeat (first | exact Pick.h | apply Pick.t | apply Pick.app)) | apply Sel.app | (with_reducible apply Sel.grp; · repeat (first | exact PickF.h | apply PickF.t | apply PickF.a)) | (with_reducible refine Sel.nilF (by with_unfolding_all rfl) ?_) | apply Sel.drop | apply Sel.dropF)) (eNil rfl) ?_
    refine wa_take 8 (by kernel_rfl) rfl rfl rfl rfl (by repeat (first | exact Sel.all | exact Sel.none | exact Sel.hd | (apply Sel.one; · repeat (first | exact Pick.h | apply Pick.t | apply Pick.app)) | apply Sel.app | (with_reducible apply Sel.grp; · repeat (first | exact PickF.h | apply PickF.t | apply PickF.a)) | (with_reducible refine Sel.nilF (by with_unfolding_all rfl) ?_) | apply Sel.drop | apply Sel.dropF)) (eFld 0 ty52 rfl rfl ty47 rfl) ?_
    refine wa_take 9 (by kernel_rfl) rfl rfl rfl rfl (by repeat (first | exact Sel.all | exact Sel.none | exact Sel.hd | (apply Sel.one; · repeat (first | exact Pick.h | apply Pick.t | apply Pick.app)) | apply Sel.app | (with_reducible apply Sel.grp; · repeat (first | exact PickF.h | apply PickF.t | apply PickF.a)) | (with_reducible refine Sel.nilF (by with_unfolding_all rfl) ?_) | apply Sel.drop | apply Sel.dropF)) (eFld 3 ty47 rfl rfl ty3 rfl) ?_
    refine wa_all [5, 10] (by kernel_rfl) rfl ⟨⟨_, rfl, .inl rfl, ?_⟩, ⟨_, rfl, .inl rfl, ?_⟩, trivial⟩
    · skip
      refine OP.ev rfl rfl (eLd ty3 rfl rfl (by repeat (first | exact Has.h | apply Has.t | apply Has.app)) (by rfl)) ?_
      refine ⟨(by repeat (first | exact Sel.all | exact Sel.none | exact Sel.hd | (apply Sel.one; · repeat (first | exact Pick.h | apply Pick.t | apply Pick.app)) | apply Sel.app | (with_reducible apply Sel.grp; · repeat (first | exact PickF.h | apply PickF.t | apply PickF.a)) | (with_reducible refine Sel.nilF (by with_unfolding_all rfl) ?_) | apply Sel.drop | apply Sel.dropF)), ?_⟩
      refine wa_all [10] (by kernel_rfl) rfl (wall_one 10 rfl rfl ?_ trivial)
      refine OP.ev rfl rfl (eLd ty3 rfl rfl (by repeat (first | exact Has.h | apply Has.t | apply Has.app)) (by rfl)) ?_
      refine ⟨(by repeat (first | exact Sel.all | exact Sel.none | exact Sel.hd | (apply Sel.one; · repeat (first | exact Pick.h | apply Pick.t | apply Pick.app)) | apply Sel.app | (with_reducible apply Sel.grp; · repeat (first | exact PickF.h | apply PickF.t | apply PickF.a)) | (with_reducible refine Sel.nilF (by with_unfolding_all rfl) ?_) | apply Sel.drop | apply Sel.dropF)), ?_⟩
      refine wa_all [11] (by kernel_rfl) rfl (wall_one 11 rfl rfl ?_ trivial)
      refine oC rfl pf65 rfl hfall (by repeat (first | exact Sel.all | exact Sel.none | exact Sel.hd | (apply Sel.one; · repeat (first | exact Pick.h | apply Pick.t | apply Pick.app)) | apply Sel.app | (with_reducible apply Sel.grp; · repeat (first | exact PickF.h | apply PickF.t | apply PickF.a)) | (with_reducible refine Sel.nilF (by with_unfolding_all rfl) ?_) | apply Sel.drop | apply Sel.dropF)) ?_
      rintro _ _ ⟨rfl, D4, I4, hI4, hD4, rfl⟩
      refine ⟨(by repeat (first | exact Sel.all | exact Sel.none | exact Sel.hd | (apply Sel.one; · repeat (first | exact Pick.h | apply Pick.t | apply Pick.app)) | apply Sel.app | (with_reducible apply Sel.grp; · repeat (first | exact PickF.h | apply PickF.t | apply PickF.a)) | (with_reducible refine Sel.nilF (by with_unfolding_all rfl) ?_) | apply Sel.drop | apply Sel.dropF)), ?_⟩
      refine wa_nil (by kernel_rfl) ?_
      refine wc_seq ?_
      refine wc_region ?_
      refine wl rfl (OP.ev rfl rfl (eAs rfl) ?_)
      refine wl_nil ?_
      refine wc_ret ?_
      apply at_ret rfl
      · exact (.cons (.tmp rfl) .nil)
      · first
        | exact ⟨by rw [act_no hh]; rfl, _, I3, hI3, by rw [act_no hh]; exact hD2, (rfl : (dkC b ((d.add a).less) ms ml v25 :: tC ms m3 c3 :: tC ml m2 c2 :: (ownH v25 cs25 82 ++ (I3 ++ R))) = _)⟩
        | exact ⟨by rw [act_hit hh]; rfl, _, I4, hI4.trans hI3, by rw [act_hit hh]; exact hD4, rfl⟩
      · exact (by repeat (first | exact Sel.all | exact Sel.none | exact Sel.hd | (apply Sel.one; · repeat (first | exact Pick.h | apply Pick.t | apply Pick.app)) | apply Sel.app | (with_reducible apply Sel.grp; · repeat (first | exact PickF.h | apply PickF.t | apply PickF.a)) | (with_reducible refine Sel.nilF (by with_unfolding_all rfl) ?_) | apply Sel.drop | apply Sel.dropF))
    · skip
      refine OP.ev rfl rfl (eLd ty3 rfl rfl (by repeat (first | exact Has.h | apply Has.t | apply Has.app)) (by rfl)) ?_
      refine ⟨(by repeat (first | exact Sel.all | exact Sel.none | exact Sel.hd | (apply Sel.one; · repeat (first | exact Pick.h | apply Pick.t | apply Pick.app)) | apply Sel.app | (with_reducible apply Sel.grp; · repeat (first | exact PickF.h | apply PickF.t | apply PickF.a)) | (with_reducible refine Sel.nilF (by with_unfolding_all rfl) ?_) | apply Sel.drop | apply Sel.dropF)), ?_⟩
      refine wa_all [5] (by kernel_rfl) rfl (wall_one 5 rfl rfl ?_ trivial)
      refine OP.ev rfl rfl (eLd ty3 rfl rfl (by repeat (first | exact Has.h | apply Has.t | apply Has.app)) (by rfl)) ?_
      refine ⟨(by repeat (first | exact Sel.all | exact Sel.none | exact Sel.hd | (apply Sel.one; · repeat (first | exact Pick.h | apply Pick.t | apply Pick.app)) | apply Sel.app | (with_reducible apply Sel.grp; · repeat (first | exact PickF.h | apply PickF.t | apply PickF.a)) | (with_reducible refine Sel.nilF (by with_unfolding_all rfl) ?_) | apply Sel.drop | apply Sel.dropF)), ?_⟩
      refine wa_all [11] (by kernel_rfl) rfl (wall_one 11 rfl rfl ?_ trivial)
      refine oC rfl pf65 rfl hfall (by repeat (first | exact Sel.all | exact Sel.none | exact Sel.hd | (apply Sel.one; · repeat (first | exact Pick.h | apply Pick.t | apply Pick.app)) | apply Sel.app | (with_reducible apply Sel.grp; · repeat (first | exact PickF.h | apply PickF.t | apply PickF.a)) | (with_reducible refine Sel.nilF (by with_unfolding_all rfl) ?_) | apply Sel.drop | apply Sel.dropF)) ?_
      rintro _ _ ⟨rfl, D4, I4, hI4, hD4, rfl⟩
      refine ⟨(by repeat (first | exact Sel.all | exact Sel.none | exact Sel.hd | (apply Sel.one; · repeat (first | exact Pick.h | apply Pick.t | apply Pick.app)) | apply Sel.app | (with_reducible apply Sel.grp; · repeat (first | exact PickF.h | apply PickF.t | apply PickF.a)) | (with_reducible refine Sel.nilF (by with_unfolding_all rfl) ?_) | apply Sel.drop | apply Sel.dropF)), ?_⟩
      refine wa_nil (by kernel_rfl) ?_
      refine wc_seq ?_
      refine wc_region ?_
      refine wl rfl (OP.ev rfl rfl (eAs rfl) ?_)
      refine wl_nil ?_
      refine wc_ret ?_
      apply at_ret rfl
      · exact (.cons (.tmp rfl) .nil)
      · first
        | exact ⟨by rw [act_no hh]; rfl, _, I3, hI3, by rw [act_no hh]; exact hD2, (rfl : (dkC b ((d.add a).less) ms ml v25 :: tC ms m3 c3 :: tC ml m2 c2 :: (ownH v25 cs25 82 ++ (I3 ++ R))) = _)⟩
        | exact ⟨by rw [act_hit hh]; rfl, _, I4, hI4.trans hI3, by rw [act_hit hh]; exact hD4, rfl⟩
      · exact (by repeat (first | exact Sel.all | exact Sel.none | exact Sel.hd | (apply Sel.one; · repeat (first | exact Pick.h | apply Pick.t | apply Pick.app)) | apply Sel.app | (with_reducible apply Sel.grp; · repeat (first | exact PickF.h | apply PickF.t | apply PickF.a)) | (with_reducible refine Sel.nilF (by with_unfolding_all rfl) ?_) | apply Sel.drop | apply Sel.dropF))
end Go.Proofs.Ytahjgjmemijofaa
