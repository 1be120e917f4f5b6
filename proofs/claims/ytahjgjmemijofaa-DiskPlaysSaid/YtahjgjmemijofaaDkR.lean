/- How a disk lies in memory, and the contracts of what its acts do. No statement of the seat is proved here. -/
import Derived.Test.YtahjgjmemijofaaOps7
import Derived.Test.YtahjgjmemijofaaDk
import Derived.Test.YtahjgjmemijofaaTy02
import Derived.Test.YtahjgjmemijofaaRise02
namespace Go.Proofs.Ytahjgjmemijofaa
open Go Eng
set_option linter.unusedVariables false
set_option maxRecDepth 4000

abbrev ptr (b : Nat) : Value := .pointer (some ⟨b, 0, none⟩)
abbrev i64 (x : Int) : Value := .int .i64 x
abbrev dkC (b : Nat) (d : DK) (ms ml : Nat) (av : Value) : Nat × Obj := (b, .cells #[.bool d.off, i64 d.left, i64 d.keep, i64 d.tear, i64 d.room, .map (some ms), .map (some ml), av] 52 (0, 0))

/-- the function value of an act -/
def FunR (W0 : World) (I : Heap) (f : Value) (a : Act) : Prop :=
  (a.kind = 0 ∧ ∃ b1 b2, f = .func (.func 67) #[] #[ptr b1, ptr b2] ∧ Rc W0 I b1 0 [strK a.name] ∧ Rc W0 I b2 0 [i64 a.at_]) ∨
  (a.kind = 1 ∧ ∃ b1 b2, f = .func (.func 71) #[] #[ptr b1, ptr b2] ∧ Rc W0 I b1 0 [strK a.name] ∧ Rc W0 I b2 0 [i64 a.at_]) ∨
  (a.kind = 2 ∧ ∃ b1 b2, f = .func (.func 49) #[] #[ptr b1, ptr b2] ∧ Rc W0 I b1 0 [strK a.name] ∧ Rc W0 I b2 0 [strK a.to_]) ∨
  (a.kind = 3 ∧ ∃ b1, f = .func (.func 72) #[] #[ptr b1] ∧ Rc W0 I b1 0 [strK a.name])
variable {W0 : World} {I I' : Heap}
theorem FunR.sel {f : Value} {a : Act} (h : FunR W0 I f a) (hs : Sel I' I) : FunR W0 I' f a := by
  rcases h with ⟨h, b1, b2, h1, h2, h3⟩ | ⟨h, b1, b2, h1, h2, h3⟩ | ⟨h, b1, b2, h1, h2, h3⟩ | ⟨h, b1, h1, h2⟩
  · exact .inl ⟨h, b1, b2, h1, h2.sel hs, h3.sel hs⟩
  · exact .inr (.inl ⟨h, b1, b2, h1, h2.sel hs, h3.sel hs⟩)
  · exact .inr (.inr (.inl ⟨h, b1, b2, h1, h2.sel hs, h3.sel hs⟩))
  · exact .inr (.inr (.inr ⟨h, b1, h1, h2.sel hs⟩))

theorem Tab.look {m : TMap} {clk : Nat} {l : Files} (h : Tab W0 I m clk l) (k : Nm) : ∃ ov ob, (mget k m).elim (.slice none 0 0) Prod.fst = ov ∧ Rs W0 I ov 1 ob.length (byteV ob) ∧ fgetD l k = ob ∧ IsB ob := by
  cases hg : mget k m with
  | none => exact ⟨_, [], rfl, Rs.nil 1, by unfold fgetD; rw [h.get_none hg]; rfl, fun x hx => by simp at hx⟩
  | some u =>
    obtain ⟨h1, h2⟩ := h.get_some hg
    exact ⟨_, u.2, rfl, h2.2.1, by unfold fgetD; rw [h1]; rfl, h2.2.2⟩
theorem Tab.look1 {m : TMap} {clk : Nat} {l : Files} (h : Tab W0 I m clk l) {k : Nm} (hk : (fget l k).isSome) : ∃ u, mget k m = some u ∧ fgetD l k = u.2 ∧ FileV W0 I u.1 u.2 := by
  cases hg : mget k m with
  | none => rw [h.get_none hg] at hk; cases hk
  | some u =>
    obtain ⟨h1, h2⟩ := h.get_some hg
    exact ⟨u, rfl, by unfold fgetD; rw [h1]; rfl, h2⟩

/-- what an act leaves of a table -/
def DoneP (W0 : World) (I R : Heap) (r : Nat) (fl : Files) (a : Act) (v : Value) (L' : Heap) : Prop :=
  ∃ m' clk' I', Sel I' I ∧ Tab W0 I' m' clk' (fdo fl a) ∧ L' = tC r m' clk' :: (I' ++ R)

theorem isB_app {a b : List Int} (ha : IsB a) (hb : IsB b) : IsB (a ++ b) := fun x hx => (List.mem_append.1 hx).elim (ha x) (hb x)
theorem isB_take {a : List Int} (ha : IsB a) (k : Nat) : IsB (a.take k) := fun x hx => ha x (List.mem_of_mem_take hx)
theorem isB_drop {a : List Int} (ha : IsB a) (k : Nat) : IsB (a.drop k) := fun x hx => ha x (List.mem_of_mem_drop hx)
theorem Eng.Row.some {v : Value} {cs : Array Value} {sz k : Nat} {xs : List Value} (h : Row v cs sz k xs) (hn : v ≠ .slice none 0 0) : ∃ ad n c, v = .slice (some ad) n c := by
  rcases h.2 with ⟨rfl, _⟩ | ⟨b, cap, rfl, _⟩
  · exact absurd rfl hn
  · exact ⟨_, _, _, rfl⟩
theorem byteV_one (B : List Int) : (byteV B).all Value.oneCell' = true := by simp [byteV, Value.oneCell']
theorem wrB_end {b : List Int} {n : Nat} {B : List Int} (h : ¬ (b.take n ++ B).length < b.length) : wrB b n B = b.take n ++ B := by
  unfold wrB
  rw [List.drop_of_length_le (by omega), List.append_nil]
theorem wrB_isB {b : List Int} {n : Nat} {B : List Int} (h : IsB b) (hB : IsB B) : IsB (wrB b n B) := isB_app (isB_app (isB_take h _) hB) (isB_drop h _)
theorem sel_app {F : Heap} : Sel (F ++ I) I := Sel.dropF Sel.all

theorem wr_ok (r b1 b2 : Nat) (m : TMap) (clk : Nat) (fl : Files) (a : Act) (data : Value) (R : Heap) (hk : a.kind = 0) (hT : Tab W0 I m clk fl) (hc : CanDo fl a) (hb1 : Rc W0 I b1 0 [strK a.name]) (hb2 : Rc W0 I b2 0 [i64 a.at_])
    (hd : Rs W0 I data 1 a.B.length (byteV a.B)) (hB : IsB a.B) (hn : a.name.length ≤ 32) (hs : total fl ≤ 16777216) (hl : a.B.length ≤ 16777216) (h4 : fl.length ≤ 4096) :
    FnC W0 Try.prog 67 #[.map (some r), data, ptr b1, ptr b2] (tC r m clk :: (I ++ R)) (DoneP W0 I R r fl a) := by
  obtain ⟨ov, ob, hov, hor, hob, hoB⟩ := hT.look a.name
  obtain ⟨ha0, ha1⟩ := hc.wr hk
  rw [hob] at ha1
  have hol := fgetD_le hT.rise a.name
  rw [hob] at hol
  have htl : (ob.take a.at_.toNat).length = a.at_.toNat := by rw [List.length_take]; omega
  have hdo : fdo fl a = fwith fl a.name (wrB ob a.at_.toNat a.B) := by unfold fdo; rw [if_pos hk, hob]
  refine fn_of Try.func67 rfl Try.ntmps67 rfl rfl ?_
  refine wc_seq ?_
  refine wc_region ?_
  refine wl rfl (OP.ev rfl rfl (eMv rfl) ?_)
  refine wl rfl (OP.ev rfl rfl (eLdB ty9 rfl rfl (hb1.sel (by repeat (first | exact Sel.all | exact Sel.none | exact Sel.hd | (apply Sel.one; · repeat (first | exact Pick.h | apply Pick.t | apply Pick.app)) | apply Sel.app | (with_reducible apply Sel.grp; · repeat (first | exact PickF.h | apply PickF.t | apply PickF.a)) | (with_reducible refine Sel.nilF (by with_unfolding_all rfl) ?_) | apply Sel.drop | apply Sel.dropF)))) ?_)
  refine wl rfl (OP.ev rfl rfl (eLk1 ty49 ty30 (strKOk' ty9) rfl rfl (by repeat (first | exact Has.h | apply Has.t | apply Has.app)) hov) ?_)
  refine wl rfl (OP.ev rfl rfl (eAs rfl) ?_)
  refine wl_nil ?_
  refine wc_seq ?_
  refine wc_region ?_
  refine wl rfl (oBS0 rfl ty30 ty5 fun b11 => ?_)
  refine wl rfl (OP.ev rfl rfl (eMv rfl) ?_)
  refine wl rfl (OP.ev rfl rfl (eLdB ty3 rfl rfl (hb2.sel (by repeat (first | exact Sel.all | exact Sel.none | exact Sel.hd | (apply Sel.one; · repeat (first | exact Pick.h | apply Pick.t | apply Pick.app)) | apply Sel.app | (with_reducible apply Sel.grp; · repeat (first | exact PickF.h | apply PickF.t | apply PickF.a)) | (with_reducible refine Sel.nilF (by with_unfolding_all rfl) ?_) | apply Sel.drop | apply Sel.dropF)))) ?_)
  refine wl rfl (oSlH rfl ty30 ty5 rfl (hor.sel (by repeat (first | exact Sel.all | exact Sel.none | exact Sel.hd | (apply Sel.one; · repeat (first | exact Pick.h | apply Pick.t | apply Pick.app)) | apply Sel.app | (with_reducible apply Sel.grp; · repeat (first | exact PickF.h | apply PickF.t | apply PickF.a)) | (with_reducible refine Sel.nilF (by with_unfolding_all rfl) ?_) | apply Sel.drop | apply Sel.dropF))) rfl ha0 (by omega) ?_)
  intro hr14
  rw [byteV_take] at hr14
  refine wl rfl (oApp (m := a.at_.toNat) (news := byteV (ob.take a.at_.toNat)) rfl ty30 ty5 rfl rfl rfl (Row.mk (b := b11) (k := 0) (cap := 0) (cs := #[]) (sz := 1) (xs := []) (Nat.le_refl _) rfl rfl) (by repeat (first | exact At.cell | exact At.h | apply At.t | apply At.a)) (hr14.sel (by repeat (first | exact Sel.all | exact Sel.none | exact Sel.hd | (apply Sel.one; · repeat (first | exact Pick.h | apply Pick.t | apply Pick.app)) | apply Sel.app | (with_reducible apply Sel.grp; · repeat (first | exact PickF.h | apply PickF.t | apply PickF.a)) | (with_reducible refine Sel.nilF (by with_unfolding_all rfl) ?_) | apply Sel.drop | apply Sel.dropF))) (byteV_one _) (by omega) (by omega) ?_)
  rintro v15 cs15 hrow15 hn15
  rw [Nat.zero_add, List.nil_append] at hrow15
  refine wl rfl (OP.ev rfl rfl (eMv rfl) ?_)
  refine wl rfl (oApp (m := a.B.length) (news := byteV a.B) rfl ty30 ty5 rfl rfl rfl hrow15 (by repeat (first | exact At.cell | exact At.h | apply At.t | apply At.a)) (hd.sel (by repeat (first | exact Sel.all | exact Sel.none | exact Sel.hd | (apply Sel.one; · repeat (first | exact Pick.h | apply Pick.t | apply Pick.app)) | apply Sel.app | (with_reducible apply Sel.grp; · repeat (first | exact PickF.h | apply PickF.t | apply PickF.a)) | (with_reducible refine Sel.nilF (by with_unfolding_all rfl) ?_) | apply Sel.drop | apply Sel.dropF))) (byteV_one _) (by omega) (by omega) ?_)
  rintro v17 cs17 hrow17 hn17
  rw [← byteV_app, show a.at_.toNat + a.B.length = (ob.take a.at_.toNat ++ a.B).length by rw [List.length_append, htl]] at hrow17
  refine wl rfl (OP.ev rfl rfl (eAs rfl) ?_)
  refine wl_nil ?_
  have hnn : v17 ≠ .slice none 0 0 := fun h => by
    have h2 := (hn17.1 h).1
    have h3 := (hn15.1 h2).1
    cases h3
  refine wc_seq ?_
  refine wc_seq ?_
  refine wc_region ?_
  refine wl rfl (OP.ev rfl rfl (eMv rfl) ?_)
  refine wl rfl (OP.ev rfl rfl (eLenRow ty30 rfl hrow17) ?_)
  refine wl rfl (OP.ev rfl rfl (eMv rfl) ?_)
  refine wl rfl (OP.ev rfl rfl (eLenR ty30 rfl (hor.sel (by repeat (first | exact Sel.all | exact Sel.none | exact Sel.hd | (apply Sel.one; · repeat (first | exact Pick.h | apply Pick.t | apply Pick.app)) | apply Sel.app | (with_reducible apply Sel.grp; · repeat (first | exact PickF.h | apply PickF.t | apply PickF.a)) | (with_reducible refine Sel.nilF (by with_unfolding_all rfl) ?_) | apply Sel.drop | apply Sel.dropF)))) ?_)
  refine wl rfl (OP.evb rfl rfl (eLt rfl rfl) fun t22 h22 => ?_)
  refine wl_nil ?_
  cases t22 with
  | true =>
    try have c_t22 := dt h22
    first
    | (exfalso; omega)
    | (
      refine wc_then rfl ?_
      refine wc_region ?_
      refine wl rfl (OP.ev rfl rfl (eMv rfl) ?_)
      refine wl rfl (OP.ev rfl rfl (eMv rfl) ?_)
      refine wl rfl (OP.ev rfl rfl (eMv rfl) ?_)
      refine wl rfl (OP.ev rfl rfl (eLenRow ty30 rfl hrow17) ?_)
      refine wl rfl (oSlL rfl ty30 ty5 rfl (hor.sel (by repeat (first | exact Sel.all | exact Sel.none | exact Sel.hd | (apply Sel.one; · repeat (first | exact Pick.h | apply Pick.t | apply Pick.app)) | apply Sel.app | (with_reducible apply Sel.grp; · repeat (first | exact PickF.h | apply PickF.t | apply PickF.a)) | (with_reducible refine Sel.nilF (by with_unfolding_all rfl) ?_) | apply Sel.drop | apply Sel.dropF))) rfl (by omega) (by omega) ?_)
      intro v27 hr27
      rw [byteV_drop, Int.toNat_natCast] at hr27
      refine wl rfl (oApp (m := ob.length - (ob.take a.at_.toNat ++ a.B).length) (news := byteV (ob.drop (ob.take a.at_.toNat ++ a.B).length)) rfl ty30 ty5 rfl rfl rfl hrow17 (by repeat (first | exact At.cell | exact At.h | apply At.t | apply At.a)) (hr27.sel (by repeat (first | exact Sel.all | exact Sel.none | exact Sel.hd | (apply Sel.one; · repeat (first | exact Pick.h | apply Pick.t | apply Pick.app)) | apply Sel.app | (with_reducible apply Sel.grp; · repeat (first | exact PickF.h | apply PickF.t | apply PickF.a)) | (with_reducible refine Sel.nilF (by with_unfolding_all rfl) ?_) | apply Sel.drop | apply Sel.dropF))) (byteV_one _) (by rw [List.length_append, htl]; omega) (by rw [List.length_append, htl]; omega) ?_)
      rintro v28 cs28 hrow28 hn28
      rw [← byteV_app, show (ob.take a.at_.toNat ++ a.B).length + (ob.length - (ob.take a.at_.toNat ++ a.B).length) = (wrB ob a.at_.toNat a.B).length by simp only [wrB, List.length_append, List.length_drop]] at hrow28
      have hnn28 : v28 ≠ .slice none 0 0 := fun h => hnn (hn28.1 h).1
      refine wl rfl (OP.ev rfl rfl (eAs rfl) ?_)
      refine wl_nil ?_
      refine wc_region ?_
      refine wl rfl (OP.ev rfl rfl (eMv rfl) ?_)
      refine wl rfl (OP.ev rfl rfl (eLdB ty9 rfl rfl (hb1.sel (by repeat (first | exact Sel.all | exact Sel.none | exact Sel.hd | (apply Sel.one; · repeat (first | exact Pick.h | apply Pick.t | apply Pick.app)) | apply Sel.app | (with_reducible apply Sel.grp; · repeat (first | exact PickF.h | apply PickF.t | apply PickF.a)) | (with_reducible refine Sel.nilF (by with_unfolding_all rfl) ?_) | apply Sel.drop | apply Sel.dropF)))) ?_)
      refine wl rfl (OP.ev rfl rfl (eMv rfl) ?_)
      first
      | refine wl rfl (oMU (k := a.name) (v := (v28, wrB ob a.at_.toNat a.B)) ty49 (strKOk' ty9) rfl rfl rfl (by repeat (first | exact Upd.h | apply Upd.t | apply Upd.app)) ?_)
      | refine wl rfl (oMU (k := a.name) (v := (v17, ob.take a.at_.toNat ++ a.B)) ty49 (strKOk' ty9) rfl rfl rfl (by repeat (first | exact Upd.h | apply Upd.t | apply Upd.app)) ?_)
      refine wl_nil ?_
      apply at_ret rfl
      · exact .nil
      · first
        | exact ⟨_, _, ownH v28 cs28 5 ++ I, sel_app, by rw [hdo]; exact (hT.sel sel_app).set _ _ _ ⟨hrow28.some hnn28, hrow28.rs (C := fun F => F ++ I) At.h, wrB_isB hoB hB⟩ hn (by omega), by rw [List.append_assoc]⟩
        | exact ⟨_, _, ownH v17 cs17 5 ++ I, sel_app, by rw [hdo, wrB_end (by omega)]; exact (hT.sel sel_app).set _ _ _ ⟨hrow17.some hnn, hrow17.rs (C := fun F => F ++ I) At.h, isB_app (isB_take hoB _) hB⟩ hn (by omega), by rw [List.append_assoc]⟩
      · exact (by repeat (first | exact Sel.all | exact Sel.none | exact Sel.hd | (apply Sel.one; · repeat (first | exact Pick.h | apply Pick.t | apply Pick.app)) | apply Sel.app | (with_reducible apply Sel.grp; · repeat (first | exact PickF.h | apply PickF.t | apply PickF.a)) | (with_reducible refine Sel.nilF (by with_unfolding_all rfl) ?_) | apply Sel.drop | apply Sel.dropF)))
  | false =>
    try have c_t22 := df h22
    first
    | (exfalso; omega)
    | (
      refine wc_else rfl ?_
      refine wc_skip ?_
      refine wc_region ?_
      refine wl rfl (OP.ev rfl rfl (eMv rfl) ?_)
      refine wl rfl (OP.ev rfl rfl (eLdB ty9 rfl rfl (hb1.sel (by repeat (first | exact Sel.all | exact Sel.none | exact Sel.hd | (apply Sel.one; · repeat (first | exact Pick.h | apply Pick.t | apply Pick.app)) | apply Sel.app | (with_reducible apply Sel.grp; · repeat (first | exact PickF.h | apply PickF.t | apply PickF.a)) | (with_reducible refine Sel.nilF (by with_unfolding_all rfl) ?_) | apply Sel.drop | apply Sel.dropF)))) ?_)
      refine wl rfl (OP.ev rfl rfl (eMv rfl) ?_)
      first
      | refine wl rfl (oMU (k := a.name) (v := (v28, wrB ob a.at_.toNat a.B)) ty49 (strKOk' ty9) rfl rfl rfl (by repeat (first | exact Upd.h | apply Upd.t | apply Upd.app)) ?_)
      | refine wl rfl (oMU (k := a.name) (v := (v17, ob.take a.at_.toNat ++ a.B)) ty49 (strKOk' ty9) rfl rfl rfl (by repeat (first | exact Upd.h | apply Upd.t | apply Upd.app)) ?_)
      refine wl_nil ?_
      apply at_ret rfl
      · exact .nil
      · first
        | exact ⟨_, _, ownH v28 cs28 5 ++ I, sel_app, by rw [hdo]; exact (hT.sel sel_app).set _ _ _ ⟨hrow28.some hnn28, hrow28.rs (C := fun F => F ++ I) At.h, wrB_isB hoB hB⟩ hn (by omega), by rw [List.append_assoc]⟩
        | exact ⟨_, _, ownH v17 cs17 5 ++ I, sel_app, by rw [hdo, wrB_end (by omega)]; exact (hT.sel sel_app).set _ _ _ ⟨hrow17.some hnn, hrow17.rs (C := fun F => F ++ I) At.h, isB_app (isB_take hoB _) hB⟩ hn (by omega), by rw [List.append_assoc]⟩
      · exact (by repeat (first | exact Sel.all | exact Sel.none | exact Sel.hd | (apply Sel.one; · repeat (first | exact Pick.h | apply Pick.t | apply Pick.app)) | apply Sel.app | (with_reducible apply Sel.grp; · repeat (first | exact PickF.h | apply PickF.t | apply PickF.a)) | (with_reducible refine Sel.nilF (by with_unfolding_all rfl) ?_) | apply Sel.drop | apply Sel.dropF)))

theorem tr_ok (r b1 b2 : Nat) (m : TMap) (clk : Nat) (fl : Files) (a : Act) (data : Value) (R : Heap) (hk : a.kind = 1) (hT : Tab W0 I m clk fl) (hc : CanDo fl a) (hb1 : Rc W0 I b1 0 [strK a.name]) (hb2 : Rc W0 I b2 0 [i64 a.at_])
    (hn : a.name.length ≤ 32) (hs : total fl ≤ 16777216) (h4 : fl.length ≤ 4096) :
    FnC W0 Try.prog 71 #[.map (some r), data, ptr b1, ptr b2] (tC r m clk :: (I ++ R)) (DoneP W0 I R r fl a) := by
  obtain ⟨ov, ob, hov, hor, hob, hoB⟩ := hT.look a.name
  obtain ⟨ha0, ha1, _⟩ := hc.tr hk
  rw [hob] at ha1
  have hol := fgetD_le hT.rise a.name
  rw [hob] at hol
  have hdo : fdo fl a = fwith fl a.name (ob.take a.at_.toNat) := by unfold fdo; rw [if_neg (by omega), if_pos hk, hob]
  have htl : (ob.take a.at_.toNat).length = a.at_.toNat := by rw [List.length_take]; omega
  have hr13 := slH_rs hor ha0 (by omega : a.at_ ≤ (ob.length : Int))
  rw [byteV_take] at hr13
  refine fn_of Try.func71 rfl Try.ntmps71 rfl rfl ?_
  refine wc_draw (I ++ []) rfl ?_
  refine wa_take 0 (by kernel_rfl) rfl rfl rfl rfl (by repeat (first | exact Sel.all | exact Sel.none | exact Sel.hd | (apply Sel.one; · repeat (first | exact Pick.h | apply Pick.t | apply Pick.app)) | apply Sel.app | (with_reducible apply Sel.grp; · repeat (first | exact PickF.h | apply PickF.t | apply PickF.a)) | (with_reducible refine Sel.nilF (by with_unfolding_all rfl) ?_) | apply Sel.drop | apply Sel.dropF)) (eMv rfl) ?_
  refine wa_take 1 (by kernel_rfl) rfl rfl rfl rfl (by repeat (first | exact Sel.all | exact Sel.none | exact Sel.hd | (apply Sel.one; · repeat (first | exact Pick.h | apply Pick.t | apply Pick.app)) | apply Sel.app | (with_reducible apply Sel.grp; · repeat (first | exact PickF.h | apply PickF.t | apply PickF.a)) | (with_reducible refine Sel.nilF (by with_unfolding_all rfl) ?_) | apply Sel.drop | apply Sel.dropF)) (eLdB ty9 rfl rfl (hb1.sel (by repeat (first | exact Sel.all | exact Sel.none | exact Sel.hd | (apply Sel.one; · repeat (first | exact Pick.h | apply Pick.t | apply Pick.app)) | apply Sel.app | (with_reducible apply Sel.grp; · repeat (first | exact PickF.h | apply PickF.t | apply PickF.a)) | (with_reducible refine Sel.nilF (by with_unfolding_all rfl) ?_) | apply Sel.drop | apply Sel.dropF)))) ?_
  refine wa_take 3 (by kernel_rfl) rfl rfl rfl rfl (by repeat (first | exact Sel.all | exact Sel.none | exact Sel.hd | (apply Sel.one; · repeat (first | exact Pick.h | apply Pick.t | apply Pick.app)) | apply Sel.app | (with_reducible apply Sel.grp; · repeat (first | exact PickF.h | apply PickF.t | apply PickF.a)) | (with_reducible refine Sel.nilF (by with_unfolding_all rfl) ?_) | apply Sel.drop | apply Sel.dropF)) (eMv rfl) ?_
  refine wa_take 4 (by kernel_rfl) rfl rfl rfl rfl (by repeat (first | exact Sel.all | exact Sel.none | exact Sel.hd | (apply Sel.one; · repeat (first | exact Pick.h | apply Pick.t | apply Pick.app)) | apply Sel.app | (with_reducible apply Sel.grp; · repeat (first | exact PickF.h | apply PickF.t | apply PickF.a)) | (with_reducible refine Sel.nilF (by with_unfolding_all rfl) ?_) | apply Sel.drop | apply Sel.dropF)) (eLdB ty9 rfl rfl (hb1.sel (by repeat (first | exact Sel.all | exact Sel.none | exact Sel.hd | (apply Sel.one; · repeat (first | exact Pick.h | apply Pick.t | apply Pick.app)) | apply Sel.app | (with_reducible apply Sel.grp; · repeat (first | exact PickF.h | apply PickF.t | apply PickF.a)) | (with_reducible refine Sel.nilF (by with_unfolding_all rfl) ?_) | apply Sel.drop | apply Sel.dropF)))) ?_
  refine wa_take 6 (by kernel_rfl) rfl rfl rfl rfl (by repeat (first | exact Sel.all | exact Sel.none | exact Sel.hd | (apply Sel.one; · repeat (first | exact Pick.h | apply Pick.t | apply Pick.app)) | apply Sel.app | (with_reducible apply Sel.grp; · repeat (first | exact PickF.h | apply PickF.t | apply PickF.a)) | (with_reducible refine Sel.nilF (by with_unfolding_all rfl) ?_) | apply Sel.drop | apply Sel.dropF)) (eLdB ty3 rfl rfl (hb2.sel (by repeat (first | exact Sel.all | exact Sel.none | exact Sel.hd | (apply Sel.one; · repeat (first | exact Pick.h | apply Pick.t | apply Pick.app)) | apply Sel.app | (with_reducible apply Sel.grp; · repeat (first | exact PickF.h | apply PickF.t | apply PickF.a)) | (with_reducible refine Sel.nilF (by with_unfolding_all rfl) ?_) | apply Sel.drop | apply Sel.dropF)))) ?_
  refine wa_all [2, 5] (by kernel_rfl) rfl ⟨⟨_, rfl, .inl rfl, ?_⟩, ⟨_, rfl, .inl rfl, ?_⟩, trivial⟩
  · skip
    refine oBS0 rfl ty30 ty5 fun b8 => ?_
    refine ⟨(by repeat (first | exact Sel.all | exact Sel.none | exact Sel.hd | (apply Sel.one; · repeat (first | exact Pick.h | apply Pick.t | apply Pick.app)) | apply Sel.app | (with_reducible apply Sel.grp; · repeat (first | exact PickF.h | apply PickF.t | apply PickF.a)) | (with_reducible refine Sel.nilF (by with_unfolding_all rfl) ?_) | apply Sel.drop | apply Sel.dropF)), ?_⟩
    refine wa_all [5] (by kernel_rfl) rfl (wall_one 5 rfl rfl ?_ trivial)
    refine OP.ev rfl rfl (eLk1 ty49 ty30 (strKOk' ty9) rfl rfl (by repeat (first | exact Has.h | apply Has.t | apply Has.app)) hov) ?_
    refine ⟨(by repeat (first | exact Sel.all | exact Sel.none | exact Sel.hd | (apply Sel.one; · repeat (first | exact Pick.h | apply Pick.t | apply Pick.app)) | apply Sel.app | (with_reducible apply Sel.grp; · repeat (first | exact PickF.h | apply PickF.t | apply PickF.a)) | (with_reducible refine Sel.nilF (by with_unfolding_all rfl) ?_) | apply Sel.drop | apply Sel.dropF)), ?_⟩
    refine wa_take 7 (by kernel_rfl) rfl rfl rfl rfl (by repeat (first | exact Sel.all | exact Sel.none | exact Sel.hd | (apply Sel.one; · repeat (first | exact Pick.h | apply Pick.t | apply Pick.app)) | apply Sel.app | (with_reducible apply Sel.grp; · repeat (first | exact PickF.h | apply PickF.t | apply PickF.a)) | (with_reducible refine Sel.nilF (by with_unfolding_all rfl) ?_) | apply Sel.drop | apply Sel.dropF)) (eSlH ty30 ty5 rfl (hor.sel (by repeat (first | exact Sel.all | exact Sel.none | exact Sel.hd | (apply Sel.one; · repeat (first | exact Pick.h | apply Pick.t | apply Pick.app)) | apply Sel.app | (with_reducible apply Sel.grp; · repeat (first | exact PickF.h | apply PickF.t | apply PickF.a)) | (with_reducible refine Sel.nilF (by with_unfolding_all rfl) ?_) | apply Sel.drop | apply Sel.dropF))) rfl ha0 (by omega)) ?_
    refine wa_all [8] (by kernel_rfl) rfl (wall_one 8 rfl rfl ?_ trivial)
    refine oApp (m := a.at_.toNat) (news := byteV (ob.take a.at_.toNat)) rfl ty30 ty5 rfl rfl rfl (Row.mk (b := b8) (k := 0) (cap := 0) (cs := #[]) (sz := 1) (xs := []) (Nat.le_refl _) rfl rfl) (by repeat (first | exact At.cell | exact At.h | apply At.t | apply At.a)) (hr13.sel (by repeat (first | exact Sel.all | exact Sel.none | exact Sel.hd | (apply Sel.one; · repeat (first | exact Pick.h | apply Pick.t | apply Pick.app)) | apply Sel.app | (with_reducible apply Sel.grp; · repeat (first | exact PickF.h | apply PickF.t | apply PickF.a)) | (with_reducible refine Sel.nilF (by with_unfolding_all rfl) ?_) | apply Sel.drop | apply Sel.dropF))) (byteV_one _) (by omega) (by omega) ?_
    rintro v14 cs14 hrow14 hn14
    rw [Nat.zero_add, List.nil_append] at hrow14
    replace hrow14 : Row v14 cs14 1 (ob.take a.at_.toNat).length (byteV (ob.take a.at_.toNat)) := by rw [htl]; exact hrow14
    have hnn : v14 ≠ .slice none 0 0 := fun h => by
      have h3 := (hn14.1 h).1
      cases h3
    refine ⟨(by repeat (first | exact Sel.all | exact Sel.none | exact Sel.hd | (apply Sel.one; · repeat (first | exact Pick.h | apply Pick.t | apply Pick.app)) | apply Sel.app | (with_reducible apply Sel.grp; · repeat (first | exact PickF.h | apply PickF.t | apply PickF.a)) | (with_reducible refine Sel.nilF (by with_unfolding_all rfl) ?_) | apply Sel.drop | apply Sel.dropF)), ?_⟩
    refine wa_all [9] (by kernel_rfl) rfl (wall_one 9 rfl rfl ?_ trivial)
    refine oMU (k := a.name) (v := (v14, ob.take a.at_.toNat)) ty49 (strKOk' ty9) rfl rfl rfl (by repeat (first | exact Upd.h | apply Upd.t | apply Upd.app)) ?_
    refine ⟨(by repeat (first | exact Sel.all | exact Sel.none | exact Sel.hd | (apply Sel.one; · repeat (first | exact Pick.h | apply Pick.t | apply Pick.app)) | apply Sel.app | (with_reducible apply Sel.grp; · repeat (first | exact PickF.h | apply PickF.t | apply PickF.a)) | (with_reducible refine Sel.nilF (by with_unfolding_all rfl) ?_) | apply Sel.drop | apply Sel.dropF)), ?_⟩
    refine wa_nil (by kernel_rfl) ?_
    apply at_ret rfl
    · exact .nil
    · exact ⟨_, _, ownH v14 cs14 5 ++ I, sel_app, by rw [hdo]; exact (hT.sel sel_app).set _ _ _ ⟨hrow14.some hnn, hrow14.rs (C := fun F => F ++ I) At.h, isB_take hoB _⟩ hn (by omega), by rw [List.append_assoc]⟩
    · exact (by repeat (first | exact Sel.all | exact Sel.none | exact Sel.hd | (apply Sel.one; · repeat (first | exact Pick.h | apply Pick.t | apply Pick.app)) | apply Sel.app | (with_reducible apply Sel.grp; · repeat (first | exact PickF.h | apply PickF.t | apply PickF.a)) | (with_reducible refine Sel.nilF (by with_unfolding_all rfl) ?_) | apply Sel.drop | apply Sel.dropF))
  · skip
    refine OP.ev rfl rfl (eLk1 ty49 ty30 (strKOk' ty9) rfl rfl (by repeat (first | exact Has.h | apply Has.t | apply Has.app)) hov) ?_
    refine ⟨(by repeat (first | exact Sel.all | exact Sel.none | exact Sel.hd | (apply Sel.one; · repeat (first | exact Pick.h | apply Pick.t | apply Pick.app)) | apply Sel.app | (with_reducible apply Sel.grp; · repeat (first | exact PickF.h | apply PickF.t | apply PickF.a)) | (with_reducible refine Sel.nilF (by with_unfolding_all rfl) ?_) | apply Sel.drop | apply Sel.dropF)), ?_⟩
    refine wa_take 7 (by kernel_rfl) rfl rfl rfl rfl (by repeat (first | exact Sel.all | exact Sel.none | exact Sel.hd | (apply Sel.one; · repeat (first | exact Pick.h | apply Pick.t | apply Pick.app)) | apply Sel.app | (with_reducible apply Sel.grp; · repeat (first | exact PickF.h | apply PickF.t | apply PickF.a)) | (with_reducible refine Sel.nilF (by with_unfolding_all rfl) ?_) | apply Sel.drop | apply Sel.dropF)) (eSlH ty30 ty5 rfl (hor.sel (by repeat (first | exact Sel.all | exact Sel.none | exact Sel.hd | (apply Sel.one; · repeat (first | exact Pick.h | apply Pick.t | apply Pick.app)) | apply Sel.app | (with_reducible apply Sel.grp; · repeat (first | exact PickF.h | apply PickF.t | apply PickF.a)) | (with_reducible refine Sel.nilF (by with_unfolding_all rfl) ?_) | apply Sel.drop | apply Sel.dropF))) rfl ha0 (by omega)) ?_
    refine wa_all [2] (by kernel_rfl) rfl (wall_one 2 rfl rfl ?_ trivial)
    refine oBS0 rfl ty30 ty5 fun b8 => ?_
    refine ⟨(by repeat (first | exact Sel.all | exact Sel.none | exact Sel.hd | (apply Sel.one; · repeat (first | exact Pick.h | apply Pick.t | apply Pick.app)) | apply Sel.app | (with_reducible apply Sel.grp; · repeat (first | exact PickF.h | apply PickF.t | apply PickF.a)) | (with_reducible refine Sel.nilF (by with_unfolding_all rfl) ?_) | apply Sel.drop | apply Sel.dropF)), ?_⟩
    refine wa_all [8] (by kernel_rfl) rfl (wall_one 8 rfl rfl ?_ trivial)
    refine oApp (m := a.at_.toNat) (news := byteV (ob.take a.at_.toNat)) rfl ty30 ty5 rfl rfl rfl (Row.mk (b := b8) (k := 0) (cap := 0) (cs := #[]) (sz := 1) (xs := []) (Nat.le_refl _) rfl rfl) (by repeat (first | exact At.cell | exact At.h | apply At.t | apply At.a)) (hr13.sel (by repeat (first | exact Sel.all | exact Sel.none | exact Sel.hd | (apply Sel.one; · repeat (first | exact Pick.h | apply Pick.t | apply Pick.app)) | apply Sel.app | (with_reducible apply Sel.grp; · repeat (first | exact PickF.h | apply PickF.t | apply PickF.a)) | (with_reducible refine Sel.nilF (by with_unfolding_all rfl) ?_) | apply Sel.drop | apply Sel.dropF))) (byteV_one _) (by omega) (by omega) ?_
    rintro v14 cs14 hrow14 hn14
    rw [Nat.zero_add, List.nil_append] at hrow14
    replace hrow14 : Row v14 cs14 1 (ob.take a.at_.toNat).length (byteV (ob.take a.at_.toNat)) := by rw [htl]; exact hrow14
    have hnn : v14 ≠ .slice none 0 0 := fun h => by
      have h3 := (hn14.1 h).1
      cases h3
    refine ⟨(by repeat (first | exact Sel.all | exact Sel.none | exact Sel.hd | (apply Sel.one; · repeat (first | exact Pick.h | apply Pick.t | apply Pick.app)) | apply Sel.app | (with_reducible apply Sel.grp; · repeat (first | exact PickF.h | apply PickF.t | apply PickF.a)) | (with_reducible refine Sel.nilF (by with_unfolding_all rfl) ?_) | apply Sel.drop | apply Sel.dropF)), ?_⟩
    refine wa_all [9] (by kernel_rfl) rfl (wall_one 9 rfl rfl ?_ trivial)
    refine oMU (k := a.name) (v := (v14, ob.take a.at_.toNat)) ty49 (strKOk' ty9) rfl rfl rfl (by repeat (first | exact Upd.h | apply Upd.t | apply Upd.app)) ?_
    refine ⟨(by repeat (first | exact Sel.all | exact Sel.none | exact Sel.hd | (apply Sel.one; · repeat (first | exact Pick.h | apply Pick.t | apply Pick.app)) | apply Sel.app | (with_reducible apply Sel.grp; · repeat (first | exact PickF.h | apply PickF.t | apply PickF.a)) | (with_reducible refine Sel.nilF (by with_unfolding_all rfl) ?_) | apply Sel.drop | apply Sel.dropF)), ?_⟩
    refine wa_nil (by kernel_rfl) ?_
    apply at_ret rfl
    · exact .nil
    · exact ⟨_, _, ownH v14 cs14 5 ++ I, sel_app, by rw [hdo]; exact (hT.sel sel_app).set _ _ _ ⟨hrow14.some hnn, hrow14.rs (C := fun F => F ++ I) At.h, isB_take hoB _⟩ hn (by omega), by rw [List.append_assoc]⟩
    · exact (by repeat (first | exact Sel.all | exact Sel.none | exact Sel.hd | (apply Sel.one; · repeat (first | exact Pick.h | apply Pick.t | apply Pick.app)) | apply Sel.app | (with_reducible apply Sel.grp; · repeat (first | exact PickF.h | apply PickF.t | apply PickF.a)) | (with_reducible refine Sel.nilF (by with_unfolding_all rfl) ?_) | apply Sel.drop | apply Sel.dropF))

theorem mv_ok (r b1 b2 : Nat) (m : TMap) (clk : Nat) (fl : Files) (a : Act) (data : Value) (R : Heap) (hk : a.kind = 2) (hT : Tab W0 I m clk fl) (hc : CanDo fl a) (hb1 : Rc W0 I b1 0 [strK a.name]) (hb2 : Rc W0 I b2 0 [strK a.to_])
    (hn : a.to_.length ≤ 32) (h4 : fl.length ≤ 4096) :
    FnC W0 Try.prog 49 #[.map (some r), data, ptr b1, ptr b2] (tC r m clk :: (I ++ R)) (DoneP W0 I R r fl a) := by
  obtain ⟨u, hu, hub, hf⟩ := hT.look1 (hc.mv hk)
  have hdo : fdo fl a = fwith (fless fl a.name) a.to_ u.2 := by unfold fdo; rw [if_neg (by omega), if_neg (by omega), if_pos hk, hub]
  have hl := len_less_le fl a.name
  refine fn_of Try.func49 rfl Try.ntmps49 rfl rfl ?_
  refine wc_seq ?_
  refine wc_region ?_
  refine wl rfl (OP.ev rfl rfl (eMv rfl) ?_)
  refine wl rfl (OP.ev rfl rfl (eLdB ty9 rfl rfl (hb1.sel (by repeat (first | exact Sel.all | exact Sel.none | exact Sel.hd | (apply Sel.one; · repeat (first | exact Pick.h | apply Pick.t | apply Pick.app)) | apply Sel.app | (with_reducible apply Sel.grp; · repeat (first | exact PickF.h | apply PickF.t | apply PickF.a)) | (with_reducible refine Sel.nilF (by with_unfolding_all rfl) ?_) | apply Sel.drop | apply Sel.dropF)))) ?_)
  refine wl rfl (OP.ev rfl rfl (eLk1 (v := u.1) ty49 ty30 (strKOk' ty9) rfl rfl (by repeat (first | exact Has.h | apply Has.t | apply Has.app)) (by rw [hu]; rfl)) ?_)
  refine wl rfl (OP.ev rfl rfl (eAs rfl) ?_)
  refine wl_nil ?_
  refine wc_seq ?_
  refine wc_region ?_
  refine wl rfl (OP.ev rfl rfl (eMv rfl) ?_)
  refine wl rfl (OP.ev rfl rfl (eLdB ty9 rfl rfl (hb1.sel (by repeat (first | exact Sel.all | exact Sel.none | exact Sel.hd | (apply Sel.one; · repeat (first | exact Pick.h | apply Pick.t | apply Pick.app)) | apply Sel.app | (with_reducible apply Sel.grp; · repeat (first | exact PickF.h | apply PickF.t | apply PickF.a)) | (with_reducible refine Sel.nilF (by with_unfolding_all rfl) ?_) | apply Sel.drop | apply Sel.dropF)))) ?_)
  refine wl rfl (oDel0 (k := a.name) ty49 rfl (strKOk' ty9) rfl rfl (by repeat (first | exact Upd.h | apply Upd.t | apply Upd.app)) ?_)
  refine wl_nil ?_
  refine wc_region ?_
  refine wl rfl (OP.ev rfl rfl (eMv rfl) ?_)
  refine wl rfl (OP.ev rfl rfl (eLdB ty9 rfl rfl (hb2.sel (by repeat (first | exact Sel.all | exact Sel.none | exact Sel.hd | (apply Sel.one; · repeat (first | exact Pick.h | apply Pick.t | apply Pick.app)) | apply Sel.app | (with_reducible apply Sel.grp; · repeat (first | exact PickF.h | apply PickF.t | apply PickF.a)) | (with_reducible refine Sel.nilF (by with_unfolding_all rfl) ?_) | apply Sel.drop | apply Sel.dropF)))) ?_)
  refine wl rfl (OP.ev rfl rfl (eMv rfl) ?_)
  refine wl rfl (oMU (k := a.to_) (v := (u.1, u.2)) ty49 (strKOk' ty9) rfl rfl rfl (by repeat (first | exact Upd.h | apply Upd.t | apply Upd.app)) ?_)
  refine wl_nil ?_
  apply at_ret rfl
  · exact .nil
  · exact ⟨_, _, I, Sel.all, by rw [hdo]; exact (hT.del a.name).set _ _ _ hf hn (by omega), rfl⟩
  · exact (by repeat (first | exact Sel.all | exact Sel.none | exact Sel.hd | (apply Sel.one; · repeat (first | exact Pick.h | apply Pick.t | apply Pick.app)) | apply Sel.app | (with_reducible apply Sel.grp; · repeat (first | exact PickF.h | apply PickF.t | apply PickF.a)) | (with_reducible refine Sel.nilF (by with_unfolding_all rfl) ?_) | apply Sel.drop | apply Sel.dropF))

theorem dr_ok (r b1 : Nat) (m : TMap) (clk : Nat) (fl : Files) (a : Act) (data : Value) (R : Heap) (hk : a.kind = 3) (hT : Tab W0 I m clk fl) (hb1 : Rc W0 I b1 0 [strK a.name]) :
    FnC W0 Try.prog 72 #[.map (some r), data, ptr b1] (tC r m clk :: (I ++ R)) (DoneP W0 I R r fl a) := by
  have hdo : fdo fl a = fless fl a.name := by unfold fdo; rw [if_neg (by omega), if_neg (by omega), if_neg (by omega)]
  refine fn_of Try.func72 rfl Try.ntmps72 rfl rfl ?_
  refine wc_region ?_
  refine wl rfl (OP.ev rfl rfl (eMv rfl) ?_)
  refine wl rfl (OP.ev rfl rfl (eLdB ty9 rfl rfl (hb1.sel (by repeat (first | exact Sel.all | exact Sel.none | exact Sel.hd | (apply Sel.one; · repeat (first | exact Pick.h | apply Pick.t | apply Pick.app)) | apply Sel.app | (with_reducible apply Sel.grp; · repeat (first | exact PickF.h | apply PickF.t | apply PickF.a)) | (with_reducible refine Sel.nilF (by with_unfolding_all rfl) ?_) | apply Sel.drop | apply Sel.dropF)))) ?_)
  refine wl rfl (oDel0 (k := a.name) ty49 rfl (strKOk' ty9) rfl rfl (by repeat (first | exact Upd.h | apply Upd.t | apply Upd.app)) ?_)
  refine wl_nil ?_
  apply at_ret rfl
  · exact .nil
  · exact ⟨_, _, I, Sel.all, by rw [hdo]; exact hT.del a.name, rfl⟩
  · exact (by repeat (first | exact Sel.all | exact Sel.none | exact Sel.hd | (apply Sel.one; · repeat (first | exact Pick.h | apply Pick.t | apply Pick.app)) | apply Sel.app | (with_reducible apply Sel.grp; · repeat (first | exact PickF.h | apply PickF.t | apply PickF.a)) | (with_reducible refine Sel.nilF (by with_unfolding_all rfl) ?_) | apply Sel.drop | apply Sel.dropF))

/-- a call of an act's function -/
theorem oFun {n : Nat} {l : Env} {L : Heap} {K : Env → Heap → Prop} {d : Nat} {ty : TypeId} {pos : String} {af : Array Edge} {gd : Option (Nat × Bool)} (hdn : Nat.blt d n = true) {fx x y : Operand} {ats : Array TypeId} {f data : Value} {r : Nat} {m : TMap} {clk : Nat} {fl : Files} {a : Act} {R : Heap}
    (hfx : evo l fx = some f) (hx : evo l x = some (.map (some r))) (hy : evo l y = some data) (hf : FunR W0 I f a) (hd : Rs W0 I data 1 a.B.length (byteV a.B)) (hB : IsB a.B) (hT : Tab W0 I m clk fl) (hc : CanDo fl a) (hn : a.name.length ≤ 32 ∧ a.to_.length ≤ 32) (hs : total fl ≤ 16777216) (hl : a.B.length ≤ 16777216) (h4 : fl.length ≤ 4096)
    (hsel : Sel L (tC r m clk :: (I ++ R))) (h : ∀ v m' clk' I', Sel I' I → Tab W0 I' m' clk' (fdo fl a) → K ((d, v) :: l) (tC r m' clk' :: (I' ++ R))) :
    OP Try.prog n W0 ⟨some d, .call ⟨.value fx, #[x, y], ats⟩, ty, pos, af, gd⟩ l L K := by
  have hxs : evs l [x, y] = some [.map (some r), data] := by simp [evs, hx, hy]
  have hk : ∀ v L', DoneP W0 I R r fl a v L' → K ((d, v) :: l) L' := by
    rintro v L' ⟨m', clk', I', h1, h2, rfl⟩
    exact h v m' clk' I' h1 h2
  rcases hf with ⟨h0, b1, b2, rfl, h2, h3⟩ | ⟨h0, b1, b2, rfl, h2, h3⟩ | ⟨h0, b1, b2, rfl, h2, h3⟩ | ⟨h0, b1, rfl, h2⟩
  · exact oCall (xs := [x, y]) hdn pf67 hfx hxs rfl (wr_ok r b1 b2 m clk fl a data R h0 hT hc h2 h3 hd hB hn.1 hs hl h4) hsel hk
  · exact oCall (xs := [x, y]) hdn pf71 hfx hxs rfl (tr_ok r b1 b2 m clk fl a data R h0 hT hc h2 h3 hn.1 hs h4) hsel hk
  · exact oCall (xs := [x, y]) hdn pf49 hfx hxs rfl (mv_ok r b1 b2 m clk fl a data R h0 hT hc h2 h3 hn.2 h4) hsel hk
  · exact oCall (xs := [x, y]) hdn pf72 hfx hxs rfl (dr_ok r b1 m clk fl a data R h0 hT h2) hsel hk
end Go.Proofs.Ytahjgjmemijofaa
