/- The reference's files: an act done, files as they are seen, names. No statement of the seat is proved here. -/
import Derived.Test.YtahjgjmemijofaaRf2
namespace Go.Proofs.Ytahjgjmemijofaa
open Go Eng
set_option linter.unusedVariables false
set_option maxRecDepth 4000
variable {W0 : World} {I I' : Heap}

def aC (a : Act) (bv : Value) : Array Value := #[i64 a.kind, strK a.name, strK a.to_, i64 a.at_, bv]
abbrev AT := Value × Act
def aV (xs : List AT) : List Value := xs.flatMap fun t => (aC t.2 t.1).toList
theorem aV_app (a b : List AT) : aV (a ++ b) = aV a ++ aV b := by simp [aV]
theorem aV_at {xs : List AT} {i : Nat} {t : AT} (h : xs[i]? = some t) : ((aV xs).drop (i * 5)).take 5 = (aC t.2 t.1).toList := by
  induction xs generalizing i with
  | nil => simp at h
  | cons x r ih =>
    cases i with
    | zero => simp at h; subst h; rfl
    | succ i =>
      have := ih (by simpa using h)
      rw [← this]
      show (((aC x.2 x.1).toList ++ aV r).drop ((i + 1) * 5)).take 5 = _
      rw [show (i + 1) * 5 = 5 + i * 5 by omega, List.drop_append, List.drop_of_length_le (by simp [aC])]
      simp [aC]
theorem aC_one {a : Act} {bv : Value} (h : bv.oneCell' = true) : (aC a bv).toList.all Value.oneCell' = true := by
  show ([i64 a.kind, strK a.name, strK a.to_, i64 a.at_, bv] : List Value).all Value.oneCell' = true
  simp only [List.all_cons, h, List.all_nil]; rfl

theorem wr_step {b : List Int} {n : Nat} {B : List Int} {i : Nat} {x : Int} (h0 : (b.take n ++ B).length ≤ i) (hx : b[i]? = some x) :
    (b.take n ++ B) ++ (b.drop (b.take n ++ B).length).take (i + 1 - (b.take n ++ B).length) = ((b.take n ++ B) ++ (b.drop (b.take n ++ B).length).take (i - (b.take n ++ B).length)) ++ [x] := by
  rw [List.append_assoc, show i + 1 - (b.take n ++ B).length = i - (b.take n ++ B).length + 1 by omega, List.take_add_one, List.getElem?_drop, show (b.take n ++ B).length + (i - (b.take n ++ B).length) = i by omega, hx]
  simp only [Option.toList_some, List.append_assoc]

theorem do73_ok (v : Value) (l : Files) (a : Act) (bv : Value) (R : Heap) (hv : FilesV W0 I v l) (hb : Rs W0 I bv 1 a.B.length (byteV a.B)) (hB : IsB a.B) (hl : l.length ≤ 4096) (hc : CanDo l a) (hbl : a.B.length ≤ 16777216) (hgl : (fgetD l a.name).length ≤ 16777216) :
    FnC W0 Try.prog 73 #[v, .agg (aC a bv)] (I ++ R) (FsP W0 I R (fdo l a)) := by
  obtain ⟨ad1, k1, cc1, hts1⟩ := hb.isSlice
  have honb : bv.oneCell' = true := by rw [hts1]; rfl
  refine fn_of Try.func73 rfl Try.ntmps73 rfl rfl ?_
  refine wc_seq ?_
  refine wc_region ?_
  refine wl rfl (oBox rfl rfl rfl fun b3 => ?_)
  refine wl rfl (OP.ev rfl rfl (eAs rfl) ?_)
  refine wl_nil ?_
  refine wc_seq ?_
  refine wc_region ?_
  refine wl rfl (OP.ev rfl rfl (eMv rfl) ?_)
  refine wl rfl (OP.ev rfl rfl (eFld 1 ty92 rfl rfl ty9 rfl) ?_)
  first | refine wl rfl (OP.ev rfl rfl (eLd ty9 rfl rfl (by repeat (first | exact Has.h | apply Has.t | apply Has.app)) (by rfl)) ?_) | refine wl rfl (OP.ev rfl rfl (eLdO ty9 rfl rfl (by assumption)) ?_)
  refine wl rfl (oC rfl pf56 rfl (get_ok v l a.name _ hv (by omega)) (by repeat (first | exact Sel.all | exact Sel.none | exact Sel.hd | (apply Sel.one; · repeat (first | exact Pick.h | apply Pick.t | apply Pick.app)) | apply Sel.app | (with_reducible apply Sel.grp; · repeat (first | exact PickF.h | apply PickF.t | apply PickF.a)) | (with_reducible refine Sel.nilF (by with_unfolding_all rfl) ?_) | apply Sel.drop | apply Sel.dropF)) ?_)
  rintro _ _ ⟨w, rfl, hw, hwB, rfl⟩
  refine wl rfl (OP.ev rfl rfl (eMv rfl) ?_)
  refine wl rfl (OP.ev rfl rfl (eExt rfl rfl) ?_)
  refine wl rfl (OP.ev rfl rfl (eExt rfl rfl) ?_)
  refine wl rfl (OP.ev rfl rfl (eAs rfl) ?_)
  refine wl rfl (OP.ev rfl rfl (eAs rfl) ?_)
  refine wl_nil ?_
  refine wc_seq ?_
  refine wc_region ?_
  refine wl rfl (OP.ev rfl rfl (eFld 0 ty92 rfl rfl ty3 rfl) ?_)
  first | refine wl rfl (OP.ev rfl rfl (eLd ty3 rfl rfl (by repeat (first | exact Has.h | apply Has.t | apply Has.app)) (by rfl)) ?_) | refine wl rfl (OP.ev rfl rfl (eLdO ty3 rfl rfl (by assumption)) ?_)
  refine wl_nil ?_
  refine wc_block ?_
  refine wc_seq ?_
  refine wc_region ?_
  refine wl rfl (OP.evb rfl rfl (eEq rfl rfl) fun t23 h23 => ?_)
  refine wl rfl (OP.ev rfl rfl (eAs rfl) ?_)
  refine wl_nil ?_
  cases t23 with
  | true =>
    try have c_t23 := dt h23
    first
    | (exfalso; omega)
    | (
      refine wc_then rfl ?_
      refine wc_seq ?_
      have hk0 : a.kind = 0 := by omega
      obtain ⟨ha0, ha1⟩ := hc.wr hk0
      have hdo : fdo l a = fwith l a.name (wrB (fgetD l a.name) a.at_.toNat a.B) := by unfold fdo; rw [if_pos hk0]
      generalize fgetD l a.name = ob at hw hwB ha1 hgl hdo
      have htl : (ob.take a.at_.toNat).length = a.at_.toNat := by rw [List.length_take]; omega
      have hr28 := slH_rs hw ha0 (by omega : a.at_ ≤ (ob.length : Int))
      rw [byteV_take] at hr28
      refine wc_draw ((b3, .cells (aC a bv) 92 (0, 0)) :: (I ++ [])) rfl ?_
      refine wa_take 1 (by kernel_rfl) rfl rfl rfl rfl (by repeat (first | exact Sel.all | exact Sel.none | exact Sel.hd | (apply Sel.one; · repeat (first | exact Pick.h | apply Pick.t | apply Pick.app)) | apply Sel.app | (with_reducible apply Sel.grp; · repeat (first | exact PickF.h | apply PickF.t | apply PickF.a)) | (with_reducible refine Sel.nilF (by with_unfolding_all rfl) ?_) | apply Sel.drop | apply Sel.dropF)) (eMv rfl) ?_
      refine wa_take 2 (by kernel_rfl) rfl rfl rfl rfl (by repeat (first | exact Sel.all | exact Sel.none | exact Sel.hd | (apply Sel.one; · repeat (first | exact Pick.h | apply Pick.t | apply Pick.app)) | apply Sel.app | (with_reducible apply Sel.grp; · repeat (first | exact PickF.h | apply PickF.t | apply PickF.a)) | (with_reducible refine Sel.nilF (by with_unfolding_all rfl) ?_) | apply Sel.drop | apply Sel.dropF)) (eFld 3 ty92 rfl rfl ty3 rfl) ?_
      first | refine wa_take 3 (by kernel_rfl) rfl rfl rfl rfl (by repeat (first | exact Sel.all | exact Sel.none | exact Sel.hd | (apply Sel.one; · repeat (first | exact Pick.h | apply Pick.t | apply Pick.app)) | apply Sel.app | (with_reducible apply Sel.grp; · repeat (first | exact PickF.h | apply PickF.t | apply PickF.a)) | (with_reducible refine Sel.nilF (by with_unfolding_all rfl) ?_) | apply Sel.drop | apply Sel.dropF)) (eLd ty3 rfl rfl (by repeat (first | exact Has.h | apply Has.t | apply Has.app)) (by rfl)) ?_ | refine wa_take 3 (by kernel_rfl) rfl rfl rfl rfl (by repeat (first | exact Sel.all | exact Sel.none | exact Sel.hd | (apply Sel.one; · repeat (first | exact Pick.h | apply Pick.t | apply Pick.app)) | apply Sel.app | (with_reducible apply Sel.grp; · repeat (first | exact PickF.h | apply PickF.t | apply PickF.a)) | (with_reducible refine Sel.nilF (by with_unfolding_all rfl) ?_) | apply Sel.drop | apply Sel.dropF)) (eLdO ty3 rfl rfl (by assumption)) ?_
      refine wa_take 4 (by kernel_rfl) rfl rfl rfl rfl (by repeat (first | exact Sel.all | exact Sel.none | exact Sel.hd | (apply Sel.one; · repeat (first | exact Pick.h | apply Pick.t | apply Pick.app)) | apply Sel.app | (with_reducible apply Sel.grp; · repeat (first | exact PickF.h | apply PickF.t | apply PickF.a)) | (with_reducible refine Sel.nilF (by with_unfolding_all rfl) ?_) | apply Sel.drop | apply Sel.dropF)) (eSlHx ty30 ty5 rfl hw rfl ha0 (by omega)) ?_
      refine wa_take 6 (by kernel_rfl) rfl rfl rfl rfl (by repeat (first | exact Sel.all | exact Sel.none | exact Sel.hd | (apply Sel.one; · repeat (first | exact Pick.h | apply Pick.t | apply Pick.app)) | apply Sel.app | (with_reducible apply Sel.grp; · repeat (first | exact PickF.h | apply PickF.t | apply PickF.a)) | (with_reducible refine Sel.nilF (by with_unfolding_all rfl) ?_) | apply Sel.drop | apply Sel.dropF)) (eFld 4 ty92 rfl rfl ty30 rfl) ?_
      first | refine wa_take 7 (by kernel_rfl) rfl rfl rfl rfl (by repeat (first | exact Sel.all | exact Sel.none | exact Sel.hd | (apply Sel.one; · repeat (first | exact Pick.h | apply Pick.t | apply Pick.app)) | apply Sel.app | (with_reducible apply Sel.grp; · repeat (first | exact PickF.h | apply PickF.t | apply PickF.a)) | (with_reducible refine Sel.nilF (by with_unfolding_all rfl) ?_) | apply Sel.drop | apply Sel.dropF)) (eLd ty30 rfl rfl (by repeat (first | exact Has.h | apply Has.t | apply Has.app)) (by rfl)) ?_ | refine wa_take 7 (by kernel_rfl) rfl rfl rfl rfl (by repeat (first | exact Sel.all | exact Sel.none | exact Sel.hd | (apply Sel.one; · repeat (first | exact Pick.h | apply Pick.t | apply Pick.app)) | apply Sel.app | (with_reducible apply Sel.grp; · repeat (first | exact PickF.h | apply PickF.t | apply PickF.a)) | (with_reducible refine Sel.nilF (by with_unfolding_all rfl) ?_) | apply Sel.drop | apply Sel.dropF)) (eLdO ty30 rfl rfl (by assumption)) ?_
      refine wa_all [0] (by kernel_rfl) rfl (wall_one 0 rfl rfl ?_ trivial)
      refine oBS0 rfl ty30 ty5 fun b24 => ?_
      refine ⟨(by repeat (first | exact Sel.all | exact Sel.none | exact Sel.hd | (apply Sel.one; · repeat (first | exact Pick.h | apply Pick.t | apply Pick.app)) | apply Sel.app | (with_reducible apply Sel.grp; · repeat (first | exact PickF.h | apply PickF.t | apply PickF.a)) | (with_reducible refine Sel.nilF (by with_unfolding_all rfl) ?_) | apply Sel.drop | apply Sel.dropF)), ?_⟩
      refine wa_all [5] (by kernel_rfl) rfl (wall_one 5 rfl rfl ?_ trivial)
      refine oApp (m := a.at_.toNat) (news := byteV (ob.take a.at_.toNat)) rfl ty30 ty5 rfl rfl rfl (Row.mk (b := b24) (k := 0) (cap := 0) (cs := #[]) (sz := 1) (xs := []) (Nat.le_refl _) rfl rfl) (by repeat (first | exact At.cell | exact At.h | apply At.t | apply At.a)) (hr28.sel (by repeat (first | exact Sel.all | exact Sel.none | exact Sel.hd | (apply Sel.one; · repeat (first | exact Pick.h | apply Pick.t | apply Pick.app)) | apply Sel.app | (with_reducible apply Sel.grp; · repeat (first | exact PickF.h | apply PickF.t | apply PickF.a)) | (with_reducible refine Sel.nilF (by with_unfolding_all rfl) ?_) | apply Sel.drop | apply Sel.dropF))) (byteV_one _) (by omega) (by omega) ?_
      rintro v29 cs29 hrow29 hn29
      rw [Nat.zero_add, List.nil_append] at hrow29
      refine ⟨(by repeat (first | exact Sel.all | exact Sel.none | exact Sel.hd | (apply Sel.one; · repeat (first | exact Pick.h | apply Pick.t | apply Pick.app)) | apply Sel.app | (with_reducible apply Sel.grp; · repeat (first | exact PickF.h | apply PickF.t | apply PickF.a)) | (with_reducible refine Sel.nilF (by with_unfolding_all rfl) ?_) | apply Sel.drop | apply Sel.dropF)), ?_⟩
      refine wa_all [8] (by kernel_rfl) rfl (wall_one 8 rfl rfl ?_ trivial)
      refine oApp (m := a.B.length) (news := byteV a.B) rfl ty30 ty5 rfl rfl rfl hrow29 (by repeat (first | exact At.cell | exact At.h | apply At.t | apply At.a)) (hb.sel (by repeat (first | exact Sel.all | exact Sel.none | exact Sel.hd | (apply Sel.one; · repeat (first | exact Pick.h | apply Pick.t | apply Pick.app)) | apply Sel.app | (with_reducible apply Sel.grp; · repeat (first | exact PickF.h | apply PickF.t | apply PickF.a)) | (with_reducible refine Sel.nilF (by with_unfolding_all rfl) ?_) | apply Sel.drop | apply Sel.dropF))) (byteV_one _) (by omega) (by omega) ?_
      rintro v32 cs32 hrow32 hn32
      rw [← byteV_app, show a.at_.toNat + a.B.length = (ob.take a.at_.toNat ++ a.B).length by rw [List.length_append, htl]] at hrow32
      have hln : (ob.take a.at_.toNat ++ a.B).length = a.at_.toNat + a.B.length := by rw [List.length_append, htl]
      refine ⟨(by repeat (first | exact Sel.all | exact Sel.none | exact Sel.hd | (apply Sel.one; · repeat (first | exact Pick.h | apply Pick.t | apply Pick.app)) | apply Sel.app | (with_reducible apply Sel.grp; · repeat (first | exact PickF.h | apply PickF.t | apply PickF.a)) | (with_reducible refine Sel.nilF (by with_unfolding_all rfl) ?_) | apply Sel.drop | apply Sel.dropF)), ?_⟩
      refine wa_take 9 (by kernel_rfl) rfl rfl rfl rfl (by repeat (first | exact Sel.all | exact Sel.none | exact Sel.hd | (apply Sel.one; · repeat (first | exact Pick.h | apply Pick.t | apply Pick.app)) | apply Sel.app | (with_reducible apply Sel.grp; · repeat (first | exact PickF.h | apply PickF.t | apply PickF.a)) | (with_reducible refine Sel.nilF (by with_unfolding_all rfl) ?_) | apply Sel.drop | apply Sel.dropF)) (eAs rfl) ?_
      refine wa_nil (by kernel_rfl) ?_
      refine wc_seq ?_
      refine wc_seq ?_
      refine wc_region ?_
      refine wl rfl (OP.ev rfl rfl (eMv rfl) ?_)
      refine wl rfl (OP.ev rfl rfl (eLenRow ty30 rfl hrow32) ?_)
      refine wl rfl (OP.ev rfl rfl (eAs rfl) ?_)
      refine wl_nil ?_
      refine wc_block ?_
      refine wc_loop (σ := Nat × Value × Array Value) (fun q => [(0, v), (3, ptr b3), (5, w), (7, q.2.1), (8, i64 (q.1 : Int))]) (fun q => ownH q.2.1 q.2.2 5 ++ ((b3, .cells (aC a bv) 92 (0, 0)) :: (I ++ R))) (fun q => (ob.take a.at_.toNat ++ a.B).length ≤ q.1 ∧ q.1 ≤ max (ob.take a.at_.toNat ++ a.B).length ob.length ∧ Row q.2.1 q.2.2 1 q.1 (byteV ((ob.take a.at_.toNat ++ a.B) ++ (ob.drop (ob.take a.at_.toNat ++ a.B).length).take (q.1 - (ob.take a.at_.toNat ++ a.B).length)))) (fun q => ob.length - q.1) ((ob.take a.at_.toNat ++ a.B).length, v32, cs32) ⟨Nat.le_refl _, Nat.le_max_left _ _, by show Row _ _ _ _ (byteV ((ob.take a.at_.toNat ++ a.B) ++ (ob.drop (ob.take a.at_.toNat ++ a.B).length).take ((ob.take a.at_.toNat ++ a.B).length - (ob.take a.at_.toNat ++ a.B).length))); rw [Nat.sub_self, List.take_zero, List.append_nil]; exact hrow32⟩ ⟨rfl, rfl, rfl, rfl, rfl, trivial⟩ (by repeat (first | exact Sel.all | exact Sel.none | exact Sel.hd | (apply Sel.one; · repeat (first | exact Pick.h | apply Pick.t | apply Pick.app)) | apply Sel.app | (with_reducible apply Sel.grp; · repeat (first | exact PickF.h | apply PickF.t | apply PickF.a)) | (with_reducible refine Sel.nilF (by with_unfolding_all rfl) ?_) | apply Sel.drop | apply Sel.dropF)) ?_
      rintro ⟨i, w2, cs2⟩ ⟨hi0, hi1, hrow⟩
      dsimp only at hi0 hi1 hrow ⊢
      refine wc_seq ?_
      refine wc_seq ?_
      refine wc_region ?_
      refine wl rfl (OP.ev rfl rfl (eMv rfl) ?_)
      refine wl rfl (OP.ev rfl rfl (eMv rfl) ?_)
      refine wl rfl (OP.ev rfl rfl (eLenR ty30 rfl (hw.sel (by repeat (first | exact Sel.all | exact Sel.none | exact Sel.hd | (apply Sel.one; · repeat (first | exact Pick.h | apply Pick.t | apply Pick.app)) | apply Sel.app | (with_reducible apply Sel.grp; · repeat (first | exact PickF.h | apply PickF.t | apply PickF.a)) | (with_reducible refine Sel.nilF (by with_unfolding_all rfl) ?_) | apply Sel.drop | apply Sel.dropF)))) ?_)
      refine wl rfl (OP.evb rfl rfl (eLt rfl rfl) fun t38 h38 => ?_)
      refine wl_nil ?_
      cases t38 with
      | true =>
        try have c_t38 := dt h38
        first
        | (exfalso; omega)
        | (
          refine wc_then rfl ?_
          refine wc_skip ?_
          refine wc_seq ?_
          refine wc_block ?_
          obtain ⟨x, hx⟩ : ∃ x, ob[i]? = some x := ⟨_, List.getElem?_eq_getElem (by omega)⟩
          refine wc_region ?_
          refine wl rfl (OP.ev rfl rfl (eMv rfl) ?_)
          refine wl rfl (OP.ev rfl rfl (eMv rfl) ?_)
          refine wl rfl (OP.ev rfl rfl (eMv rfl) ?_)
          refine wl rfl (OP.ev rfl rfl (eIxS ty30 ty5 rfl (hw.sel (by repeat (first | exact Sel.all | exact Sel.none | exact Sel.hd | (apply Sel.one; · repeat (first | exact Pick.h | apply Pick.t | apply Pick.app)) | apply Sel.app | (with_reducible apply Sel.grp; · repeat (first | exact PickF.h | apply PickF.t | apply PickF.a)) | (with_reducible refine Sel.nilF (by with_unfolding_all rfl) ?_) | apply Sel.drop | apply Sel.dropF))) rfl (by omega) (by omega)) ?_)
          refine wl rfl (OP.ev rfl rfl (eLdS (u := .int .u8 x) ty5 rfl rfl (hw.sel (by repeat (first | exact Sel.all | exact Sel.none | exact Sel.hd | (apply Sel.one; · repeat (first | exact Pick.h | apply Pick.t | apply Pick.app)) | apply Sel.app | (with_reducible apply Sel.grp; · repeat (first | exact PickF.h | apply PickF.t | apply PickF.a)) | (with_reducible refine Sel.nilF (by with_unfolding_all rfl) ?_) | apply Sel.drop | apply Sel.dropF))) i (by omega) (by simp [byteV, hx])) ?_)
          refine wl rfl (oBSw (vs := [_]) rfl ty30 ty5 rfl rfl rfl rfl rfl rfl fun b46 => ?_)
          refine wl rfl (oApp (m := 1) (news := [.int .u8 x]) rfl ty30 ty5 rfl rfl rfl hrow (by repeat (first | exact At.cell | exact At.h | apply At.t | apply At.a)) (Rs.mk (Rc.of_has (by repeat (first | exact Has.h | apply Has.t | apply Has.app)) rfl) rfl (Nat.le_refl _)) rfl (by omega) (by omega) ?_)
          rintro v47 cs47 hrow47 _
          replace hrow47 : Row v47 cs47 1 (i + 1) (byteV ((ob.take a.at_.toNat ++ a.B) ++ (ob.drop (ob.take a.at_.toNat ++ a.B).length).take (i + 1 - (ob.take a.at_.toNat ++ a.B).length))) := by rw [wr_step hi0 hx, byteV_app]; exact hrow47
          refine wl rfl (OP.ev rfl rfl (eAs rfl) ?_)
          refine wl_nil ?_
          refine wc_region ?_
          refine wl rfl (OP.ev rfl rfl (eMv rfl) ?_)
          first | refine wl rfl (OP.ev rfl rfl (eAdd rfl rfl (by omega)) ?_) | refine wl rfl (OP.ev rfl rfl (eAddW rfl rfl) ?_)
          refine wl rfl (OP.ev rfl rfl (eAs rfl) ?_)
          refine wl_nil ?_
          exact ⟨(i + 1, v47, cs47), ⟨by show _ ≤ i + 1; omega, by show i + 1 ≤ _; omega, hrow47⟩, by show _ - (i + 1) < _; omega, ⟨rfl, rfl, rfl, rfl, rfl, trivial⟩, (by repeat (first | exact Sel.all | exact Sel.none | exact Sel.hd | (apply Sel.one; · repeat (first | exact Pick.h | apply Pick.t | apply Pick.app)) | apply Sel.app | (with_reducible apply Sel.grp; · repeat (first | exact PickF.h | apply PickF.t | apply PickF.a)) | (with_reducible refine Sel.nilF (by with_unfolding_all rfl) ?_) | apply Sel.drop | apply Sel.dropF))⟩)
      | false =>
        try have c_t38 := df h38
        first
        | (exfalso; omega)
        | (
          refine wc_else rfl ?_
          refine wc_exit rfl ?_
          refine wc_seq ?_
          have hwr : (ob.take a.at_.toNat ++ a.B) ++ (ob.drop (ob.take a.at_.toNat ++ a.B).length).take (i - (ob.take a.at_.toNat ++ a.B).length) = wrB ob a.at_.toNat a.B := by
            unfold wrB
            congr 1
            exact List.take_of_length_le (by rw [List.length_drop]; omega)
          rw [hwr, show i = (wrB ob a.at_.toNat a.B).length by rw [wrB_len]; omega] at hrow
          have hwi := with_ok (W0 := W0) (I := ownH w2 cs2 5 ++ I) v l a.name w2 (wrB ob a.at_.toNat a.B) ((b3, .cells (aC a bv) 92 (0, 0)) :: R) (hv.sel sel_app) (hrow.rs (C := fun F => F ++ I) At.h) (wrB_isB hwB hB) (by omega)
          rw [List.append_assoc] at hwi
          refine wc_region ?_
          refine wl rfl (OP.ev rfl rfl (eMv rfl) ?_)
          refine wl rfl (OP.ev rfl rfl (eFld 1 ty92 rfl rfl ty9 rfl) ?_)
          first | refine wl rfl (OP.ev rfl rfl (eLd ty9 rfl rfl (by repeat (first | exact Has.h | apply Has.t | apply Has.app)) (by rfl)) ?_) | refine wl rfl (OP.ev rfl rfl (eLdO ty9 rfl rfl (by assumption)) ?_)
          refine wl rfl (OP.ev rfl rfl (eMv rfl) ?_)
          refine wl rfl (oC rfl pf77 rfl hwi (by repeat (first | exact Sel.all | exact Sel.none | exact Sel.hd | (apply Sel.one; · repeat (first | exact Pick.h | apply Pick.t | apply Pick.app)) | apply Sel.app | (with_reducible apply Sel.grp; · repeat (first | exact PickF.h | apply PickF.t | apply PickF.a)) | (with_reducible refine Sel.nilF (by with_unfolding_all rfl) ?_) | apply Sel.drop | apply Sel.dropF)) ?_)
          rintro _ _ ⟨I9, hI9, hF9, rfl⟩
          refine wl rfl (OP.ev rfl rfl (eAs rfl) ?_)
          refine wl_nil ?_
          refine wc_ret ?_
          apply at_ret rfl
          · exact (.cons (.tmp rfl) .nil)
          · first
            | exact ⟨I9, hI9.trans sel_app, by rw [hdo]; exact hF9, rfl⟩
            | exact ⟨I9, hI9.trans sel_app, by rw [hdo1]; exact hF9, rfl⟩
            | exact ⟨I9, hI9.trans sel_app, by rw [hdo2]; exact hF9, rfl⟩
            | exact ⟨ownH v70 cs70 97 ++ I, sel_app, by rw [hdo3]; exact hfl, (by rw [List.append_assoc] : ownH v70 cs70 97 ++ (I ++ R) = _)⟩
          · exact (by repeat (first | exact Sel.all | exact Sel.none | exact Sel.hd | (apply Sel.one; · repeat (first | exact Pick.h | apply Pick.t | apply Pick.app)) | apply Sel.app | (with_reducible apply Sel.grp; · repeat (first | exact PickF.h | apply PickF.t | apply PickF.a)) | (with_reducible refine Sel.nilF (by with_unfolding_all rfl) ?_) | apply Sel.drop | apply Sel.dropF))))
  | false =>
    try have c_t23 := df h23
    first
    | (exfalso; omega)
    | (
      refine wc_else rfl ?_
      refine wc_seq ?_
      refine wc_region ?_
      refine wl rfl (OP.evb rfl rfl (eEq rfl rfl) fun t54 h54 => ?_)
      refine wl rfl (OP.ev rfl rfl (eAs rfl) ?_)
      refine wl_nil ?_
      cases t54 with
      | true =>
        try have c_t54 := dt h54
        first
        | (exfalso; omega)
        | (
          refine wc_then rfl ?_
          refine wc_seq ?_
          have hk1 : a.kind = 1 := by omega
          obtain ⟨ha0, ha1, _⟩ := hc.tr hk1
          have hdo1 : fdo l a = fwith l a.name ((fgetD l a.name).take a.at_.toNat) := by unfold fdo; rw [if_neg (by omega), if_pos hk1]
          generalize fgetD l a.name = ob at hw hwB ha1 hgl hdo1
          have htl : (ob.take a.at_.toNat).length = a.at_.toNat := by rw [List.length_take]; omega
          have hr28 := slH_rs hw ha0 (by omega : a.at_ ≤ (ob.length : Int))
          rw [byteV_take] at hr28
          refine wc_draw [(b3, .cells (aC a bv) 92 (0, 0))] rfl ?_
          refine wa_take 0 (by kernel_rfl) rfl rfl rfl rfl (by repeat (first | exact Sel.all | exact Sel.none | exact Sel.hd | (apply Sel.one; · repeat (first | exact Pick.h | apply Pick.t | apply Pick.app)) | apply Sel.app | (with_reducible apply Sel.grp; · repeat (first | exact PickF.h | apply PickF.t | apply PickF.a)) | (with_reducible refine Sel.nilF (by with_unfolding_all rfl) ?_) | apply Sel.drop | apply Sel.dropF)) (eMv rfl) ?_
          refine wa_take 1 (by kernel_rfl) rfl rfl rfl rfl (by repeat (first | exact Sel.all | exact Sel.none | exact Sel.hd | (apply Sel.one; · repeat (first | exact Pick.h | apply Pick.t | apply Pick.app)) | apply Sel.app | (with_reducible apply Sel.grp; · repeat (first | exact PickF.h | apply PickF.t | apply PickF.a)) | (with_reducible refine Sel.nilF (by with_unfolding_all rfl) ?_) | apply Sel.drop | apply Sel.dropF)) (eFld 1 ty92 rfl rfl ty9 rfl) ?_
          first | refine wa_take 2 (by kernel_rfl) rfl rfl rfl rfl (by repeat (first | exact Sel.all | exact Sel.none | exact Sel.hd | (apply Sel.one; · repeat (first | exact Pick.h | apply Pick.t | apply Pick.app)) | apply Sel.app | (with_reducible apply Sel.grp; · repeat (first | exact PickF.h | apply PickF.t | apply PickF.a)) | (with_reducible refine Sel.nilF (by with_unfolding_all rfl) ?_) | apply Sel.drop | apply Sel.dropF)) (eLd ty9 rfl rfl (by repeat (first | exact Has.h | apply Has.t | apply Has.app)) (by rfl)) ?_ | refine wa_take 2 (by kernel_rfl) rfl rfl rfl rfl (by repeat (first | exact Sel.all | exact Sel.none | exact Sel.hd | (apply Sel.one; · repeat (first | exact Pick.h | apply Pick.t | apply Pick.app)) | apply Sel.app | (with_reducible apply Sel.grp; · repeat (first | exact PickF.h | apply PickF.t | apply PickF.a)) | (with_reducible refine Sel.nilF (by with_unfolding_all rfl) ?_) | apply Sel.drop | apply Sel.dropF)) (eLdO ty9 rfl rfl (by assumption)) ?_
          refine wa_take 4 (by kernel_rfl) rfl rfl rfl rfl (by repeat (first | exact Sel.all | exact Sel.none | exact Sel.hd | (apply Sel.one; · repeat (first | exact Pick.h | apply Pick.t | apply Pick.app)) | apply Sel.app | (with_reducible apply Sel.grp; · repeat (first | exact PickF.h | apply PickF.t | apply PickF.a)) | (with_reducible refine Sel.nilF (by with_unfolding_all rfl) ?_) | apply Sel.drop | apply Sel.dropF)) (eMv rfl) ?_
          refine wa_take 5 (by kernel_rfl) rfl rfl rfl rfl (by repeat (first | exact Sel.all | exact Sel.none | exact Sel.hd | (apply Sel.one; · repeat (first | exact Pick.h | apply Pick.t | apply Pick.app)) | apply Sel.app | (with_reducible apply Sel.grp; · repeat (first | exact PickF.h | apply PickF.t | apply PickF.a)) | (with_reducible refine Sel.nilF (by with_unfolding_all rfl) ?_) | apply Sel.drop | apply Sel.dropF)) (eFld 3 ty92 rfl rfl ty3 rfl) ?_
          first | refine wa_take 6 (by kernel_rfl) rfl rfl rfl rfl (by repeat (first | exact Sel.all | exact Sel.none | exact Sel.hd | (apply Sel.one; · repeat (first | exact Pick.h | apply Pick.t | apply Pick.app)) | apply Sel.app | (with_reducible apply Sel.grp; · repeat (first | exact PickF.h | apply PickF.t | apply PickF.a)) | (with_reducible refine Sel.nilF (by with_unfolding_all rfl) ?_) | apply Sel.drop | apply Sel.dropF)) (eLd ty3 rfl rfl (by repeat (first | exact Has.h | apply Has.t | apply Has.app)) (by rfl)) ?_ | refine wa_take 6 (by kernel_rfl) rfl rfl rfl rfl (by repeat (first | exact Sel.all | exact Sel.none | exact Sel.hd | (apply Sel.one; · repeat (first | exact Pick.h | apply Pick.t | apply Pick.app)) | apply Sel.app | (with_reducible apply Sel.grp; · repeat (first | exact PickF.h | apply PickF.t | apply PickF.a)) | (with_reducible refine Sel.nilF (by with_unfolding_all rfl) ?_) | apply Sel.drop | apply Sel.dropF)) (eLdO ty3 rfl rfl (by assumption)) ?_
          refine wa_take 7 (by kernel_rfl) rfl rfl rfl rfl (by repeat (first | exact Sel.all | exact Sel.none | exact Sel.hd | (apply Sel.one; · repeat (first | exact Pick.h | apply Pick.t | apply Pick.app)) | apply Sel.app | (with_reducible apply Sel.grp; · repeat (first | exact PickF.h | apply PickF.t | apply PickF.a)) | (with_reducible refine Sel.nilF (by with_unfolding_all rfl) ?_) | apply Sel.drop | apply Sel.dropF)) (eSlHx ty30 ty5 rfl hw rfl ha0 (by omega)) ?_
          refine wa_all [3] (by kernel_rfl) rfl (wall_one 3 rfl rfl ?_ trivial)
          refine oBS0 rfl ty30 ty5 fun b58 => ?_
          refine ⟨(by repeat (first | exact Sel.all | exact Sel.none | exact Sel.hd | (apply Sel.one; · repeat (first | exact Pick.h | apply Pick.t | apply Pick.app)) | apply Sel.app | (with_reducible apply Sel.grp; · repeat (first | exact PickF.h | apply PickF.t | apply PickF.a)) | (with_reducible refine Sel.nilF (by with_unfolding_all rfl) ?_) | apply Sel.drop | apply Sel.dropF)), ?_⟩
          refine wa_all [8] (by kernel_rfl) rfl (wall_one 8 rfl rfl ?_ trivial)
          refine oApp (m := a.at_.toNat) (news := byteV (ob.take a.at_.toNat)) rfl ty30 ty5 rfl rfl rfl (Row.mk (b := b58) (k := 0) (cap := 0) (cs := #[]) (sz := 1) (xs := []) (Nat.le_refl _) rfl rfl) (by repeat (first | exact At.cell | exact At.h | apply At.t | apply At.a)) (hr28.sel (by repeat (first | exact Sel.all | exact Sel.none | exact Sel.hd | (apply Sel.one; · repeat (first | exact Pick.h | apply Pick.t | apply Pick.app)) | apply Sel.app | (with_reducible apply Sel.grp; · repeat (first | exact PickF.h | apply PickF.t | apply PickF.a)) | (with_reducible refine Sel.nilF (by with_unfolding_all rfl) ?_) | apply Sel.drop | apply Sel.dropF))) (byteV_one _) (by omega) (by omega) ?_
          rintro v63 cs63 hrow63 _
          rw [Nat.zero_add, List.nil_append] at hrow63
          replace hrow63 : Row v63 cs63 1 (ob.take a.at_.toNat).length (byteV (ob.take a.at_.toNat)) := by rw [htl]; exact hrow63
          have hwi := with_ok (W0 := W0) (I := ownH v63 cs63 5 ++ I) v l a.name v63 (ob.take a.at_.toNat) ((b3, .cells (aC a bv) 92 (0, 0)) :: R) (hv.sel sel_app) (hrow63.rs (C := fun F => F ++ I) At.h) (isB_take hwB _) (by omega)
          rw [List.append_assoc] at hwi
          refine ⟨(by repeat (first | exact Sel.all | exact Sel.none | exact Sel.hd | (apply Sel.one; · repeat (first | exact Pick.h | apply Pick.t | apply Pick.app)) | apply Sel.app | (with_reducible apply Sel.grp; · repeat (first | exact PickF.h | apply PickF.t | apply PickF.a)) | (with_reducible refine Sel.nilF (by with_unfolding_all rfl) ?_) | apply Sel.drop | apply Sel.dropF)), ?_⟩
          refine wa_all [9] (by kernel_rfl) rfl (wall_one 9 rfl rfl ?_ trivial)
          refine oC rfl pf77 rfl hwi (by repeat (first | exact Sel.all | exact Sel.none | exact Sel.hd | (apply Sel.one; · repeat (first | exact Pick.h | apply Pick.t | apply Pick.app)) | apply Sel.app | (with_reducible apply Sel.grp; · repeat (first | exact PickF.h | apply PickF.t | apply PickF.a)) | (with_reducible refine Sel.nilF (by with_unfolding_all rfl) ?_) | apply Sel.drop | apply Sel.dropF)) ?_
          rintro _ _ ⟨I9, hI9, hF9, rfl⟩
          refine ⟨(by repeat (first | exact Sel.all | exact Sel.none | exact Sel.hd | (apply Sel.one; · repeat (first | exact Pick.h | apply Pick.t | apply Pick.app)) | apply Sel.app | (with_reducible apply Sel.grp; · repeat (first | exact PickF.h | apply PickF.t | apply PickF.a)) | (with_reducible refine Sel.nilF (by with_unfolding_all rfl) ?_) | apply Sel.drop | apply Sel.dropF)), ?_⟩
          refine wa_take 10 (by kernel_rfl) rfl rfl rfl rfl (by repeat (first | exact Sel.all | exact Sel.none | exact Sel.hd | (apply Sel.one; · repeat (first | exact Pick.h | apply Pick.t | apply Pick.app)) | apply Sel.app | (with_reducible apply Sel.grp; · repeat (first | exact PickF.h | apply PickF.t | apply PickF.a)) | (with_reducible refine Sel.nilF (by with_unfolding_all rfl) ?_) | apply Sel.drop | apply Sel.dropF)) (eAs rfl) ?_
          refine wa_nil (by kernel_rfl) ?_
          refine wc_ret ?_
          apply at_ret rfl
          · exact (.cons (.tmp rfl) .nil)
          · first
            | exact ⟨I9, hI9.trans sel_app, by rw [hdo]; exact hF9, rfl⟩
            | exact ⟨I9, hI9.trans sel_app, by rw [hdo1]; exact hF9, rfl⟩
            | exact ⟨I9, hI9.trans sel_app, by rw [hdo2]; exact hF9, rfl⟩
            | exact ⟨ownH v70 cs70 97 ++ I, sel_app, by rw [hdo3]; exact hfl, (by rw [List.append_assoc] : ownH v70 cs70 97 ++ (I ++ R) = _)⟩
          · exact (by repeat (first | exact Sel.all | exact Sel.none | exact Sel.hd | (apply Sel.one; · repeat (first | exact Pick.h | apply Pick.t | apply Pick.app)) | apply Sel.app | (with_reducible apply Sel.grp; · repeat (first | exact PickF.h | apply PickF.t | apply PickF.a)) | (with_reducible refine Sel.nilF (by with_unfolding_all rfl) ?_) | apply Sel.drop | apply Sel.dropF)))
      | false =>
        try have c_t54 := df h54
        first
        | (exfalso; omega)
        | (
          refine wc_else rfl ?_
          refine wc_seq ?_
          refine wc_region ?_
          refine wl rfl (OP.evb rfl rfl (eEq rfl rfl) fun t66 h66 => ?_)
          refine wl rfl (OP.ev rfl rfl (eAs rfl) ?_)
          refine wl_nil ?_
          cases t66 with
          | true =>
            try have c_t66 := dt h66
            first
            | (exfalso; omega)
            | (
              refine wc_then rfl ?_
              refine wc_seq ?_
              have hk2 : a.kind = 2 := by omega
              have hdo2 : fdo l a = fwith (fless l a.name) a.to_ (fgetD l a.name) := by unfold fdo; rw [if_neg (by omega), if_neg (by omega), if_pos hk2]
              refine wc_draw [(b3, .cells (aC a bv) 92 (0, 0))] rfl ?_
              refine wa_take 0 (by kernel_rfl) rfl rfl rfl rfl (by repeat (first | exact Sel.all | exact Sel.none | exact Sel.hd | (apply Sel.one; · repeat (first | exact Pick.h | apply Pick.t | apply Pick.app)) | apply Sel.app | (with_reducible apply Sel.grp; · repeat (first | exact PickF.h | apply PickF.t | apply PickF.a)) | (with_reducible refine Sel.nilF (by with_unfolding_all rfl) ?_) | apply Sel.drop | apply Sel.dropF)) (eMv rfl) ?_
              refine wa_take 1 (by kernel_rfl) rfl rfl rfl rfl (by repeat (first | exact Sel.all | exact Sel.none | exact Sel.hd | (apply Sel.one; · repeat (first | exact Pick.h | apply Pick.t | apply Pick.app)) | apply Sel.app | (with_reducible apply Sel.grp; · repeat (first | exact PickF.h | apply PickF.t | apply PickF.a)) | (with_reducible refine Sel.nilF (by with_unfolding_all rfl) ?_) | apply Sel.drop | apply Sel.dropF)) (eFld 1 ty92 rfl rfl ty9 rfl) ?_
              first | refine wa_take 2 (by kernel_rfl) rfl rfl rfl rfl (by repeat (first | exact Sel.all | exact Sel.none | exact Sel.hd | (apply Sel.one; · repeat (first | exact Pick.h | apply Pick.t | apply Pick.app)) | apply Sel.app | (with_reducible apply Sel.grp; · repeat (first | exact PickF.h | apply PickF.t | apply PickF.a)) | (with_reducible refine Sel.nilF (by with_unfolding_all rfl) ?_) | apply Sel.drop | apply Sel.dropF)) (eLd ty9 rfl rfl (by repeat (first | exact Has.h | apply Has.t | apply Has.app)) (by rfl)) ?_ | refine wa_take 2 (by kernel_rfl) rfl rfl rfl rfl (by repeat (first | exact Sel.all | exact Sel.none | exact Sel.hd | (apply Sel.one; · repeat (first | exact Pick.h | apply Pick.t | apply Pick.app)) | apply Sel.app | (with_reducible apply Sel.grp; · repeat (first | exact PickF.h | apply PickF.t | apply PickF.a)) | (with_reducible refine Sel.nilF (by with_unfolding_all rfl) ?_) | apply Sel.drop | apply Sel.dropF)) (eLdO ty9 rfl rfl (by assumption)) ?_
              refine wa_take 4 (by kernel_rfl) rfl rfl rfl rfl (by repeat (first | exact Sel.all | exact Sel.none | exact Sel.hd | (apply Sel.one; · repeat (first | exact Pick.h | apply Pick.t | apply Pick.app)) | apply Sel.app | (with_reducible apply Sel.grp; · repeat (first | exact PickF.h | apply PickF.t | apply PickF.a)) | (with_reducible refine Sel.nilF (by with_unfolding_all rfl) ?_) | apply Sel.drop | apply Sel.dropF)) (eFld 2 ty92 rfl rfl ty9 rfl) ?_
              first | refine wa_take 5 (by kernel_rfl) rfl rfl rfl rfl (by repeat (first | exact Sel.all | exact Sel.none | exact Sel.hd | (apply Sel.one; · repeat (first | exact Pick.h | apply Pick.t | apply Pick.app)) | apply Sel.app | (with_reducible apply Sel.grp; · repeat (first | exact PickF.h | apply PickF.t | apply PickF.a)) | (with_reducible refine Sel.nilF (by with_unfolding_all rfl) ?_) | apply Sel.drop | apply Sel.dropF)) (eLd ty9 rfl rfl (by repeat (first | exact Has.h | apply Has.t | apply Has.app)) (by rfl)) ?_ | refine wa_take 5 (by kernel_rfl) rfl rfl rfl rfl (by repeat (first | exact Sel.all | exact Sel.none | exact Sel.hd | (apply Sel.one; · repeat (first | exact Pick.h | apply Pick.t | apply Pick.app)) | apply Sel.app | (with_reducible apply Sel.grp; · repeat (first | exact PickF.h | apply PickF.t | apply PickF.a)) | (with_reducible refine Sel.nilF (by with_unfolding_all rfl) ?_) | apply Sel.drop | apply Sel.dropF)) (eLdO ty9 rfl rfl (by assumption)) ?_
              refine wa_take 6 (by kernel_rfl) rfl rfl rfl rfl (by repeat (first | exact Sel.all | exact Sel.none | exact Sel.hd | (apply Sel.one; · repeat (first | exact Pick.h | apply Pick.t | apply Pick.app)) | apply Sel.app | (with_reducible apply Sel.grp; · repeat (first | exact PickF.h | apply PickF.t | apply PickF.a)) | (with_reducible refine Sel.nilF (by with_unfolding_all rfl) ?_) | apply Sel.drop | apply Sel.dropF)) (eMv rfl) ?_
              refine wa_all [3] (by kernel_rfl) rfl (wall_one 3 rfl rfl ?_ trivial)
              refine oC rfl pf78 rfl (less_ok v l a.name ((b3, .cells (aC a bv) 92 (0, 0)) :: R) hv (by omega)) (by repeat (first | exact Sel.all | exact Sel.none | exact Sel.hd | (apply Sel.one; · repeat (first | exact Pick.h | apply Pick.t | apply Pick.app)) | apply Sel.app | (with_reducible apply Sel.grp; · repeat (first | exact PickF.h | apply PickF.t | apply PickF.a)) | (with_reducible refine Sel.nilF (by with_unfolding_all rfl) ?_) | apply Sel.drop | apply Sel.dropF)) ?_
              rintro v70 _ ⟨ys, cs70, hrow70, hys, hyo, rfl⟩
              have hfl : FilesV W0 (ownH v70 cs70 97 ++ I) v70 (fless l a.name) := ⟨ys, hrow70.rs (C := fun F => F ++ I) At.h, hys, hyo.sel sel_app⟩
              have hwi := with_ok (W0 := W0) (I := ownH v70 cs70 97 ++ I) v70 (fless l a.name) a.to_ w (fgetD l a.name) ((b3, .cells (aC a bv) 92 (0, 0)) :: R) hfl (hw.sel sel_app) hwB (by have := len_less_le l a.name; omega)
              rw [List.append_assoc] at hwi
              refine ⟨(by repeat (first | exact Sel.all | exact Sel.none | exact Sel.hd | (apply Sel.one; · repeat (first | exact Pick.h | apply Pick.t | apply Pick.app)) | apply Sel.app | (with_reducible apply Sel.grp; · repeat (first | exact PickF.h | apply PickF.t | apply PickF.a)) | (with_reducible refine Sel.nilF (by with_unfolding_all rfl) ?_) | apply Sel.drop | apply Sel.dropF)), ?_⟩
              refine wa_all [7] (by kernel_rfl) rfl (wall_one 7 rfl rfl ?_ trivial)
              refine oC rfl pf77 rfl hwi (by repeat (first | exact Sel.all | exact Sel.none | exact Sel.hd | (apply Sel.one; · repeat (first | exact Pick.h | apply Pick.t | apply Pick.app)) | apply Sel.app | (with_reducible apply Sel.grp; · repeat (first | exact PickF.h | apply PickF.t | apply PickF.a)) | (with_reducible refine Sel.nilF (by with_unfolding_all rfl) ?_) | apply Sel.drop | apply Sel.dropF)) ?_
              rintro _ _ ⟨I9, hI9, hF9, rfl⟩
              refine ⟨(by repeat (first | exact Sel.all | exact Sel.none | exact Sel.hd | (apply Sel.one; · repeat (first | exact Pick.h | apply Pick.t | apply Pick.app)) | apply Sel.app | (with_reducible apply Sel.grp; · repeat (first | exact PickF.h | apply PickF.t | apply PickF.a)) | (with_reducible refine Sel.nilF (by with_unfolding_all rfl) ?_) | apply Sel.drop | apply Sel.dropF)), ?_⟩
              refine wa_take 8 (by kernel_rfl) rfl rfl rfl rfl (by repeat (first | exact Sel.all | exact Sel.none | exact Sel.hd | (apply Sel.one; · repeat (first | exact Pick.h | apply Pick.t | apply Pick.app)) | apply Sel.app | (with_reducible apply Sel.grp; · repeat (first | exact PickF.h | apply PickF.t | apply PickF.a)) | (with_reducible refine Sel.nilF (by with_unfolding_all rfl) ?_) | apply Sel.drop | apply Sel.dropF)) (eAs rfl) ?_
              refine wa_nil (by kernel_rfl) ?_
              refine wc_ret ?_
              apply at_ret rfl
              · exact (.cons (.tmp rfl) .nil)
              · first
                | exact ⟨I9, hI9.trans sel_app, by rw [hdo]; exact hF9, rfl⟩
                | exact ⟨I9, hI9.trans sel_app, by rw [hdo1]; exact hF9, rfl⟩
                | exact ⟨I9, hI9.trans sel_app, by rw [hdo2]; exact hF9, rfl⟩
                | exact ⟨ownH v70 cs70 97 ++ I, sel_app, by rw [hdo3]; exact hfl, (by rw [List.append_assoc] : ownH v70 cs70 97 ++ (I ++ R) = _)⟩
              · exact (by repeat (first | exact Sel.all | exact Sel.none | exact Sel.hd | (apply Sel.one; · repeat (first | exact Pick.h | apply Pick.t | apply Pick.app)) | apply Sel.app | (with_reducible apply Sel.grp; · repeat (first | exact PickF.h | apply PickF.t | apply PickF.a)) | (with_reducible refine Sel.nilF (by with_unfolding_all rfl) ?_) | apply Sel.drop | apply Sel.dropF)))
          | false =>
            try have c_t66 := df h66
            first
            | (exfalso; omega)
            | (
              refine wc_else rfl ?_
              refine wc_seq ?_
              have hdo3 : fdo l a = fless l a.name := by unfold fdo; rw [if_neg (by omega), if_neg (by omega), if_neg (by omega)]
              refine wc_region ?_
              refine wl rfl (OP.ev rfl rfl (eMv rfl) ?_)
              refine wl rfl (OP.ev rfl rfl (eFld 1 ty92 rfl rfl ty9 rfl) ?_)
              first | refine wl rfl (OP.ev rfl rfl (eLd ty9 rfl rfl (by repeat (first | exact Has.h | apply Has.t | apply Has.app)) (by rfl)) ?_) | refine wl rfl (OP.ev rfl rfl (eLdO ty9 rfl rfl (by assumption)) ?_)
              refine wl rfl (oC rfl pf78 rfl (less_ok v l a.name ((b3, .cells (aC a bv) 92 (0, 0)) :: R) hv (by omega)) (by repeat (first | exact Sel.all | exact Sel.none | exact Sel.hd | (apply Sel.one; · repeat (first | exact Pick.h | apply Pick.t | apply Pick.app)) | apply Sel.app | (with_reducible apply Sel.grp; · repeat (first | exact PickF.h | apply PickF.t | apply PickF.a)) | (with_reducible refine Sel.nilF (by with_unfolding_all rfl) ?_) | apply Sel.drop | apply Sel.dropF)) ?_)
              rintro v70 _ ⟨ys, cs70, hrow70, hys, hyo, rfl⟩
              have hfl : FilesV W0 (ownH v70 cs70 97 ++ I) v70 (fless l a.name) := ⟨ys, hrow70.rs (C := fun F => F ++ I) At.h, hys, hyo.sel sel_app⟩
              refine wl rfl (OP.ev rfl rfl (eAs rfl) ?_)
              refine wl_nil ?_
              refine wc_ret ?_
              apply at_ret rfl
              · exact (.cons (.tmp rfl) .nil)
              · first
                | exact ⟨I9, hI9.trans sel_app, by rw [hdo]; exact hF9, rfl⟩
                | exact ⟨I9, hI9.trans sel_app, by rw [hdo1]; exact hF9, rfl⟩
                | exact ⟨I9, hI9.trans sel_app, by rw [hdo2]; exact hF9, rfl⟩
                | exact ⟨ownH v70 cs70 97 ++ I, sel_app, by rw [hdo3]; exact hfl, (by rw [List.append_assoc] : ownH v70 cs70 97 ++ (I ++ R) = _)⟩
              · exact (by repeat (first | exact Sel.all | exact Sel.none | exact Sel.hd | (apply Sel.one; · repeat (first | exact Pick.h | apply Pick.t | apply Pick.app)) | apply Sel.app | (with_reducible apply Sel.grp; · repeat (first | exact PickF.h | apply PickF.t | apply PickF.a)) | (with_reducible refine Sel.nilF (by with_unfolding_all rfl) ?_) | apply Sel.drop | apply Sel.dropF)))))
end Go.Proofs.Ytahjgjmemijofaa
