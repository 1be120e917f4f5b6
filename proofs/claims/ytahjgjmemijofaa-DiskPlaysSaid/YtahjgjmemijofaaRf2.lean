/- The reference's files: with, Do. No statement of the seat is proved here. -/
import Derived.Test.YtahjgjmemijofaaRf
namespace Go.Proofs.Ytahjgjmemijofaa
open Go Eng
set_option linter.unusedVariables false
set_option maxRecDepth 4000
variable {W0 : World} {I I' : Heap}

theorem Eng.eSlHx {P : Program} {n : Nat} {l : Env} {L L2 : Heap} {ty : TypeId} {pos : String} {af : Array Edge} {gd : Option (Nat × Bool)} {D : Option Nat} {t e : TypeId} {x hi : Operand} {a1 a2 sz by_ : Nat} {z1 z2 : Option Value} {et : TypeDesc} {v : Value} {k : Nat} {cells : List Value} {j : Int} {k2 : IntKind}
    (ht : tinf P t = some (.slice e, a1, a2, z1)) (he : tinf P e = some (et, sz, by_, z2)) (hx : evo l x = some v) (hv : Rs W0 L2 v sz k cells) (hh : evo l hi = some (.int k2 j)) (h0 : 0 ≤ j) (h1 : j ≤ k) :
    EV P n W0 ⟨D, .slice t x none (some hi) none, ty, pos, af, gd⟩ l L (slH v j) := by
  obtain ⟨hc, hv2⟩ := hv
  intro a w ha hs
  have e3 : ∀ a : Addr, a.add 0 = a := fun a => by simp [Addr.add]
  rcases hv2 with ⟨rfl, ad, cap, rfl⟩ | ⟨b, off, cap, rfl, hcap, hr⟩
  · obtain rfl : j = 0 := by omega
    have e2 := run_bound (P := P) (k := k2) (i := 0) (code := .sliceAcap) (Int.le_refl _) (y := cap) (by omega) w
    cases ad <;> simp [execOp, ha.eval hx, ha.eval hh, Instr.sliceAt, Instr.slice, run_und ht, Instr.sliceBounds, e2, run_size he, e3, slH]
  · have e2 := run_bound (P := P) (k := k2) (code := .sliceAcap) (y := cap) h0 (by omega) w
    simp [execOp, ha.eval hx, ha.eval hh, Instr.sliceAt, Instr.slice, run_und ht, Instr.sliceBounds, e2, run_size he, e3, slH]

theorem drop_at {l : Files} {i : Nat} {e : Nm × List Int} (h : l[i]? = some e) : l.drop i = e :: l.drop (i + 1) := by
  obtain ⟨h1, h2⟩ := List.getElem?_eq_some_iff.1 h
  rw [← h2, ← List.drop_eq_getElem_cons h1]
theorem take_at {l : Files} {i : Nat} {e : Nm × List Int} (h : l[i]? = some e) : l.take (i + 1) = l.take i ++ [e] := by rw [List.take_add_one, h]; rfl
/-- how far one is laid at its place -/
structure InsI (k : Nm) (b : List Int) (l : Files) (i : Nat) (dn : Bool) (z : Files) : Prop where
  no : dn = false → z = l.take i ∧ fins k b l = l.take i ++ fins k b (l.drop i)
  yes : dn = true → fins k b l = z ++ l.drop i
theorem InsI.start (k : Nm) (b : List Int) (l : Files) : InsI k b l 0 false [] := ⟨fun _ => ⟨rfl, by simp⟩, fun h => by cases h⟩
theorem InsI.lay {k : Nm} {b : List Int} {l : Files} {i : Nat} {dn : Bool} {z : Files} (h : InsI k b l i dn z) {e : Nm × List Int} (he : l[i]? = some e) (hd : dn = false) (hk : k < e.1) : InsI k b l (i + 1) true (z ++ [(k, b)] ++ [e]) := by
  obtain ⟨h1, h2⟩ := h.no hd
  refine ⟨fun h => (by cases h), fun _ => ?_⟩
  rw [h2, drop_at he, fins, if_pos hk, h1]
  simp
theorem InsI.pass {k : Nm} {b : List Int} {l : Files} {i : Nat} {dn : Bool} {z : Files} (h : InsI k b l i dn z) {e : Nm × List Int} (he : l[i]? = some e) (hd : dn = false) (hk : ¬ k < e.1) : InsI k b l (i + 1) dn (z ++ [e]) := by
  obtain ⟨h1, h2⟩ := h.no hd
  refine ⟨fun _ => ⟨by rw [h1, take_at he], ?_⟩, fun h3 => by rw [hd] at h3; cases h3⟩
  rw [h2, drop_at he, fins, if_neg hk, take_at he]
  simp
theorem InsI.past {k : Nm} {b : List Int} {l : Files} {i : Nat} {dn : Bool} {z : Files} (h : InsI k b l i dn z) {e : Nm × List Int} (he : l[i]? = some e) (hd : dn = true) : InsI k b l (i + 1) dn (z ++ [e]) := by
  refine ⟨fun h3 => (by rw [hd] at h3; cases h3), fun _ => ?_⟩
  rw [h.yes hd, drop_at he]; simp
theorem InsI.endY {k : Nm} {b : List Int} {l : Files} {i : Nat} {dn : Bool} {z : Files} (h : InsI k b l i dn z) (hi : l.length ≤ i) (hd : dn = true) : z = fins k b l := by
  rw [h.yes hd, List.drop_of_length_le hi, List.append_nil]
theorem InsI.endN {k : Nm} {b : List Int} {l : Files} {i : Nat} {dn : Bool} {z : Files} (h : InsI k b l i dn z) (hi : l.length ≤ i) (hd : dn = false) : z ++ [(k, b)] = fins k b l := by
  obtain ⟨h1, h2⟩ := h.no hd
  rw [h2, h1, List.drop_of_length_le hi]; rfl

/-- what leaves files -/
def FsP (W0 : World) (I R : Heap) (l : Files) (v' : Value) (L' : Heap) : Prop := ∃ I', Sel I' I ∧ FilesV W0 I' v' l ∧ L' = I' ++ R

theorem with_ok (v : Value) (l : Files) (k : Nm) (bv : Value) (b : List Int) (R : Heap) (hv : FilesV W0 I v l) (hb : Rs W0 I bv 1 b.length (byteV b)) (hB : IsB b) (hl : l.length ≤ 1048576) :
    FnC W0 Try.prog 77 #[v, strK k, bv] (I ++ R) (FsP W0 I R (fwith l k b)) := by
  obtain ⟨ad1, k1, cc1, hts1⟩ := hb.isSlice
  have honb : bv.oneCell' = true := by rw [hts1]; rfl
  refine fn_of Try.func77 rfl Try.ntmps77 rfl rfl ?_
  refine wc_seq ?_
  refine wc_region ?_
  refine wl rfl (OP.ev rfl rfl (eAs rfl) ?_)
  refine wl_nil ?_
  refine wc_seq ?_
  refine wc_region ?_
  refine wl rfl (OP.ev rfl rfl (eAs rfl) ?_)
  refine wl_nil ?_
  refine wc_seq ?_
  refine wc_region ?_
  refine wl rfl (OP.ev rfl rfl (eAs rfl) ?_)
  refine wl_nil ?_
  refine wc_seq ?_
  refine wc_seq ?_
  refine wc_region ?_
  refine wl rfl (OP.ev rfl rfl (eMv rfl) ?_)
  refine wl rfl (OP.ev rfl rfl (eMv rfl) ?_)
  refine wl rfl (oC rfl pf78 rfl (less_ok v l k R hv hl) (by repeat (first | exact Sel.all | exact Sel.none | exact Sel.hd | (apply Sel.one; · repeat (first | exact Pick.h | apply Pick.t | apply Pick.app)) | apply Sel.app | (with_reducible apply Sel.grp; · repeat (first | exact PickF.h | apply PickF.t | apply PickF.a)) | (with_reducible refine Sel.nilF (by with_unfolding_all rfl) ?_) | apply Sel.drop | apply Sel.dropF)) ?_)
  rintro v13 _ ⟨ys, cs13, hrow13, hyl, hyo, rfl⟩
  refine wl rfl (OP.ev rfl rfl (eLenRow ty83 rfl hrow13) ?_)
  refine wl rfl (OP.ev rfl rfl (eMv rfl) ?_)
  refine wl_nil ?_
  have hyl2 : ys.length = (fless l k).length := by rw [← hyl]; simp [fL]
  have hll := len_less_le l k
  refine wc_block ?_
  refine wc_loop (σ := Nat × Value × Array Value × List FT × Bool) (fun q => [(1, strK k), (2, bv), (7, q.2.1), (8, .bool q.2.2.2.2), (13, v13), (14, i64 (ys.length : Int)), (15, i64 (q.1 : Int))]) (fun q => ownH q.2.1 q.2.2.1 97 ++ (ownH v13 cs13 97 ++ (I ++ R))) (fun q => q.1 ≤ ys.length ∧ Row q.2.1 q.2.2.1 2 q.2.2.2.1.length (fV q.2.2.2.1) ∧ InsI k b (fless l k) q.1 q.2.2.2.2 (fL q.2.2.2.1) ∧ FOk W0 I q.2.2.2.1 ∧ q.2.2.2.1.length ≤ q.1 + 1) (fun q => ys.length - q.1) (0, .slice none 0 0, #[], [], false) ⟨Nat.zero_le _, Row.nil _ _, InsI.start _ _ _, by intro t ht; simp at ht, by simp⟩ ⟨rfl, rfl, rfl, rfl, rfl, rfl, rfl, trivial⟩ (by repeat (first | exact Sel.all | exact Sel.none | exact Sel.hd | (apply Sel.one; · repeat (first | exact Pick.h | apply Pick.t | apply Pick.app)) | apply Sel.app | (with_reducible apply Sel.grp; · repeat (first | exact PickF.h | apply PickF.t | apply PickF.a)) | (with_reducible refine Sel.nilF (by with_unfolding_all rfl) ?_) | apply Sel.drop | apply Sel.dropF)) ?_
  rintro ⟨i, w, cs, zs, dn⟩ ⟨hi, hrow, hins, hzo, hzl⟩
  dsimp only at hi hrow hins hzo hzl ⊢
  refine wc_seq ?_
  refine wc_region ?_
  refine wl rfl (OP.evb rfl rfl (eLt rfl rfl) fun t16 h16 => ?_)
  refine wl_nil ?_
  refine wc_seq ?_
  cases t16 with
  | true =>
    try have c_t16 := dt h16
    first
    | (exfalso; omega)
    | (
      refine wc_then rfl ?_
      refine wc_skip ?_
      refine wc_seq ?_
      refine wc_block ?_
      refine wc_seq ?_
      obtain ⟨t, ht⟩ : ∃ t, ys[i]? = some t := ⟨_, List.getElem?_eq_getElem (by omega)⟩
      have htl := fL_at ht
      rw [hyl] at htl
      obtain ⟨htr, htb⟩ := hyo t (List.mem_of_getElem? ht)
      obtain ⟨ad, kk, cc, hts⟩ := htr.isSlice
      have hon : t.2.1.oneCell' = true := by rw [hts]; rfl
      refine wc_region ?_
      refine wl rfl (OP.ev rfl rfl (eIxS ty83 ty97 rfl (hrow13.rs (by repeat (first | exact At.cell | exact At.h | apply At.t | apply At.a))) rfl (by omega) (by omega)) ?_)
      refine wl rfl (OP.ev rfl rfl (eLdSA (vs := [strK t.1, t.2.1]) ty97 rfl rfl (hrow13.rs (by repeat (first | exact At.cell | exact At.h | apply At.t | apply At.a))) (i * 2) (by omega) rfl (fV_at ht) (by decide)) ?_)
      refine wl rfl (oAl rfl ty97 rfl fun b10 => ?_)
      refine wl rfl (oStW ty97 rfl rfl rfl (all2 rfl hon) (by repeat (first | exact Upd.h | apply Upd.t | apply Upd.app)) (by rfl) ?_)
      refine wl_nil ?_
      refine wc_seq ?_
      refine wc_seq ?_
      refine wc_region ?_
      refine wl rfl (OP.ev rfl rfl (eMv rfl) ?_)
      refine wl rfl (OP.evb rfl rfl (eNot rfl) fun t20 h20 => ?_)
      refine wl rfl (OP.ev rfl rfl (eMv rfl) ?_)
      cases t20 with
      | true =>
        try have c_t20 := dt h20
        first
        | (exfalso; omega)
        | (
          refine wl_go rfl rfl (OP.ev rfl rfl (eMv rfl) ?_)
          refine wl_go rfl rfl (OP.ev rfl rfl (eFld 0 ty97 rfl rfl ty9 rfl) ?_)
          first | refine wl_go rfl rfl (OP.ev rfl rfl (eLd ty9 rfl rfl (by repeat (first | exact Has.h | apply Has.t | apply Has.app)) (by rfl)) ?_) | refine wl_go rfl rfl (OP.ev rfl rfl (eLdO ty9 rfl rfl (by assumption)) ?_)
          refine wl_go rfl rfl (OP.evb rfl rfl (eLtK rfl rfl) fun t25 h25 => ?_)
          refine wl rfl (OP.ev rfl rfl (ePk rfl rfl) ?_)
          refine wl_nil ?_
          cases t25 with
          | true =>
            try have c_t25 := dt h25
            first
            | (exfalso; omega)
            | (
              refine wc_then rfl ?_
              refine wc_seq ?_
              refine wc_region ?_
              refine wl rfl (OP.ev rfl rfl (eMv rfl) ?_)
              refine wl rfl (OP.ev rfl rfl (eMv rfl) ?_)
              refine wl rfl (OP.ev rfl rfl (eMv rfl) ?_)
              refine wl rfl (OP.ev rfl rfl (eBuL (cells := [strK k, bv]) ty97 pl97 rfl (by have h9 := oneCell_of honb; simp only [fillL, h9]; rfl)) ?_)
              refine wl rfl (oBSw (vs := [.agg #[strK k, bv]]) rfl ty83 ty97 rfl rfl rfl rfl rfl rfl fun b31 => ?_)
              refine wl rfl (oApp (m := 1) (news := [strK k, bv]) rfl ty83 ty97 rfl rfl rfl hrow (by repeat (first | exact At.cell | exact At.h | apply At.t | apply At.a)) (Rs.mk (Rc.of_has (by repeat (first | exact Has.h | apply Has.t | apply Has.app)) rfl) rfl (Nat.le_refl _)) (all2 rfl honb) (by omega) (by omega) ?_)
              rintro v32 cs32 hrow32 _
              have hrow32' : Row v32 cs32 2 (zs ++ [(k, bv, b)]).length (fV (zs ++ [(k, bv, b)])) := by rw [fV_app, List.length_append]; exact hrow32
              refine wl rfl (OP.ev rfl rfl (eAs rfl) ?_)
              refine wl_nil ?_
              refine wc_region ?_
              refine wl rfl (OP.ev rfl rfl (eAs rfl) ?_)
              refine wl_nil ?_
              refine wc_region ?_
              refine wl rfl (OP.ev rfl rfl (eMv rfl) ?_)
              first | refine wl rfl (OP.ev rfl rfl (eLdW ty97 rfl rfl (by repeat (first | exact Has.h | apply Has.t | apply Has.app)) (by rfl)) ?_) | refine wl rfl (OP.ev rfl rfl (eLdA (vs := [_, _]) ty97 rfl rfl (by repeat (first | exact Has.h | apply Has.t | apply Has.app)) (by rfl) (by rfl)) ?_) | refine wl rfl (OP.ev rfl rfl (eLdAO ty97 rfl rfl (by assumption) (by assumption)) ?_)
              refine wl rfl (oBSw (vs := [.agg #[strK t.1, t.2.1]]) rfl ty83 ty97 rfl rfl rfl rfl rfl rfl fun b35 => ?_)
              first
              | (refine wl rfl (oApp (m := 1) (news := [strK t.1, t.2.1]) rfl ty83 ty97 rfl rfl rfl hrow32' (by repeat (first | exact At.cell | exact At.h | apply At.t | apply At.a)) (Rs.mk (Rc.of_has (by repeat (first | exact Has.h | apply Has.t | apply Has.app)) rfl) rfl (Nat.le_refl _)) (all2 rfl hon) (by rw [List.length_append]; simp; omega) (by rw [List.length_append]; simp; omega) ?_)
                 rintro v36 cs36 hrow36 _
                 have hins2 := hins.lay htl (by simpa using h20) c_t25)
              | (refine wl rfl (oApp (m := 1) (news := [strK t.1, t.2.1]) rfl ty83 ty97 rfl rfl rfl hrow (by repeat (first | exact At.cell | exact At.h | apply At.t | apply At.a)) (Rs.mk (Rc.of_has (by repeat (first | exact Has.h | apply Has.t | apply Has.app)) rfl) rfl (Nat.le_refl _)) (all2 rfl hon) (by omega) (by omega) ?_)
                 rintro v36 cs36 hrow36 _)
              refine wl rfl (OP.ev rfl rfl (eAs rfl) ?_)
              refine wl_nil ?_
              refine wc_region ?_
              first | refine wl rfl (OP.ev rfl rfl (eAdd rfl rfl (by omega)) ?_) | refine wl rfl (OP.ev rfl rfl (eAddW rfl rfl) ?_)
              refine wl rfl (OP.ev rfl rfl (eMv rfl) ?_)
              refine wl_nil ?_
              first
              | exact ⟨(i + 1, v36, cs36, zs ++ [(k, bv, b)] ++ [t], true), ⟨by show i + 1 ≤ _; omega, by show Row v36 cs36 2 (zs ++ [(k, bv, b)] ++ [t]).length (fV (zs ++ [(k, bv, b)] ++ [t])); rw [fV_app, List.length_append]; exact hrow36, by show InsI k b _ (i + 1) true (fL (zs ++ [(k, bv, b)] ++ [t])); rw [fL_app, fL_app]; exact hins2, (hzo.app (FOk.one hb hB)).app (FOk.one htr htb), by show (zs ++ [(k, bv, b)] ++ [t]).length ≤ i + 1 + 1; simp; have := (hins.no (by simpa using h20)).1; have := congrArg List.length this; simp [fL] at this; omega⟩, by show _ - (i + 1) < _; omega, ⟨rfl, rfl, rfl, rfl, rfl, rfl, rfl, trivial⟩, (by repeat (first | exact Sel.all | exact Sel.none | exact Sel.hd | (apply Sel.one; · repeat (first | exact Pick.h | apply Pick.t | apply Pick.app)) | apply Sel.app | (with_reducible apply Sel.grp; · repeat (first | exact PickF.h | apply PickF.t | apply PickF.a)) | (with_reducible refine Sel.nilF (by with_unfolding_all rfl) ?_) | apply Sel.drop | apply Sel.dropF))⟩
              | exact ⟨(i + 1, v36, cs36, zs ++ [t], dn), ⟨by show i + 1 ≤ _; omega, by show Row v36 cs36 2 (zs ++ [t]).length (fV (zs ++ [t])); rw [fV_app, List.length_append]; exact hrow36, by show InsI k b _ (i + 1) dn (fL (zs ++ [t])); rw [fL_app]; first | exact hins.pass htl (by simpa using h20) c_t25 | exact hins.past htl (by simpa using h20), hzo.app (FOk.one htr htb), by show (zs ++ [t]).length ≤ i + 1 + 1; rw [List.length_append]; simp; omega⟩, by show _ - (i + 1) < _; omega, ⟨rfl, rfl, rfl, rfl, rfl, rfl, rfl, trivial⟩, (by repeat (first | exact Sel.all | exact Sel.none | exact Sel.hd | (apply Sel.one; · repeat (first | exact Pick.h | apply Pick.t | apply Pick.app)) | apply Sel.app | (with_reducible apply Sel.grp; · repeat (first | exact PickF.h | apply PickF.t | apply PickF.a)) | (with_reducible refine Sel.nilF (by with_unfolding_all rfl) ?_) | apply Sel.drop | apply Sel.dropF))⟩)
          | false =>
            try have c_t25 := df h25
            first
            | (exfalso; omega)
            | (
              refine wc_else rfl ?_
              refine wc_skip ?_
              refine wc_region ?_
              refine wl rfl (OP.ev rfl rfl (eMv rfl) ?_)
              first | refine wl rfl (OP.ev rfl rfl (eLdW ty97 rfl rfl (by repeat (first | exact Has.h | apply Has.t | apply Has.app)) (by rfl)) ?_) | refine wl rfl (OP.ev rfl rfl (eLdA (vs := [_, _]) ty97 rfl rfl (by repeat (first | exact Has.h | apply Has.t | apply Has.app)) (by rfl) (by rfl)) ?_) | refine wl rfl (OP.ev rfl rfl (eLdAO ty97 rfl rfl (by assumption) (by assumption)) ?_)
              refine wl rfl (oBSw (vs := [.agg #[strK t.1, t.2.1]]) rfl ty83 ty97 rfl rfl rfl rfl rfl rfl fun b35 => ?_)
              first
              | (refine wl rfl (oApp (m := 1) (news := [strK t.1, t.2.1]) rfl ty83 ty97 rfl rfl rfl hrow32' (by repeat (first | exact At.cell | exact At.h | apply At.t | apply At.a)) (Rs.mk (Rc.of_has (by repeat (first | exact Has.h | apply Has.t | apply Has.app)) rfl) rfl (Nat.le_refl _)) (all2 rfl hon) (by rw [List.length_append]; simp; omega) (by rw [List.length_append]; simp; omega) ?_)
                 rintro v36 cs36 hrow36 _
                 have hins2 := hins.lay htl (by simpa using h20) c_t25)
              | (refine wl rfl (oApp (m := 1) (news := [strK t.1, t.2.1]) rfl ty83 ty97 rfl rfl rfl hrow (by repeat (first | exact At.cell | exact At.h | apply At.t | apply At.a)) (Rs.mk (Rc.of_has (by repeat (first | exact Has.h | apply Has.t | apply Has.app)) rfl) rfl (Nat.le_refl _)) (all2 rfl hon) (by omega) (by omega) ?_)
                 rintro v36 cs36 hrow36 _)
              refine wl rfl (OP.ev rfl rfl (eAs rfl) ?_)
              refine wl_nil ?_
              refine wc_region ?_
              first | refine wl rfl (OP.ev rfl rfl (eAdd rfl rfl (by omega)) ?_) | refine wl rfl (OP.ev rfl rfl (eAddW rfl rfl) ?_)
              refine wl rfl (OP.ev rfl rfl (eMv rfl) ?_)
              refine wl_nil ?_
              first
              | exact ⟨(i + 1, v36, cs36, zs ++ [(k, bv, b)] ++ [t], true), ⟨by show i + 1 ≤ _; omega, by show Row v36 cs36 2 (zs ++ [(k, bv, b)] ++ [t]).length (fV (zs ++ [(k, bv, b)] ++ [t])); rw [fV_app, List.length_append]; exact hrow36, by show InsI k b _ (i + 1) true (fL (zs ++ [(k, bv, b)] ++ [t])); rw [fL_app, fL_app]; exact hins2, (hzo.app (FOk.one hb hB)).app (FOk.one htr htb), by show (zs ++ [(k, bv, b)] ++ [t]).length ≤ i + 1 + 1; simp; have := (hins.no (by simpa using h20)).1; have := congrArg List.length this; simp [fL] at this; omega⟩, by show _ - (i + 1) < _; omega, ⟨rfl, rfl, rfl, rfl, rfl, rfl, rfl, trivial⟩, (by repeat (first | exact Sel.all | exact Sel.none | exact Sel.hd | (apply Sel.one; · repeat (first | exact Pick.h | apply Pick.t | apply Pick.app)) | apply Sel.app | (with_reducible apply Sel.grp; · repeat (first | exact PickF.h | apply PickF.t | apply PickF.a)) | (with_reducible refine Sel.nilF (by with_unfolding_all rfl) ?_) | apply Sel.drop | apply Sel.dropF))⟩
              | exact ⟨(i + 1, v36, cs36, zs ++ [t], dn), ⟨by show i + 1 ≤ _; omega, by show Row v36 cs36 2 (zs ++ [t]).length (fV (zs ++ [t])); rw [fV_app, List.length_append]; exact hrow36, by show InsI k b _ (i + 1) dn (fL (zs ++ [t])); rw [fL_app]; first | exact hins.pass htl (by simpa using h20) c_t25 | exact hins.past htl (by simpa using h20), hzo.app (FOk.one htr htb), by show (zs ++ [t]).length ≤ i + 1 + 1; rw [List.length_append]; simp; omega⟩, by show _ - (i + 1) < _; omega, ⟨rfl, rfl, rfl, rfl, rfl, rfl, rfl, trivial⟩, (by repeat (first | exact Sel.all | exact Sel.none | exact Sel.hd | (apply Sel.one; · repeat (first | exact Pick.h | apply Pick.t | apply Pick.app)) | apply Sel.app | (with_reducible apply Sel.grp; · repeat (first | exact PickF.h | apply PickF.t | apply PickF.a)) | (with_reducible refine Sel.nilF (by with_unfolding_all rfl) ?_) | apply Sel.drop | apply Sel.dropF))⟩))
      | false =>
        try have c_t20 := df h20
        first
        | (exfalso; omega)
        | (
          refine wl_skip rfl rfl rfl rfl rfl ?_
          refine wl_skip rfl rfl rfl rfl rfl ?_
          refine wl_skip rfl rfl rfl rfl rfl ?_
          refine wl_skip rfl rfl rfl rfl rfl ?_
          refine wl rfl (OP.ev rfl rfl (ePk rfl rfl) ?_)
          refine wl_nil ?_
          refine wc_else rfl ?_
          refine wc_skip ?_
          refine wc_region ?_
          refine wl rfl (OP.ev rfl rfl (eMv rfl) ?_)
          first | refine wl rfl (OP.ev rfl rfl (eLdW ty97 rfl rfl (by repeat (first | exact Has.h | apply Has.t | apply Has.app)) (by rfl)) ?_) | refine wl rfl (OP.ev rfl rfl (eLdA (vs := [_, _]) ty97 rfl rfl (by repeat (first | exact Has.h | apply Has.t | apply Has.app)) (by rfl) (by rfl)) ?_) | refine wl rfl (OP.ev rfl rfl (eLdAO ty97 rfl rfl (by assumption) (by assumption)) ?_)
          refine wl rfl (oBSw (vs := [.agg #[strK t.1, t.2.1]]) rfl ty83 ty97 rfl rfl rfl rfl rfl rfl fun b35 => ?_)
          first
          | (refine wl rfl (oApp (m := 1) (news := [strK t.1, t.2.1]) rfl ty83 ty97 rfl rfl rfl hrow32' (by repeat (first | exact At.cell | exact At.h | apply At.t | apply At.a)) (Rs.mk (Rc.of_has (by repeat (first | exact Has.h | apply Has.t | apply Has.app)) rfl) rfl (Nat.le_refl _)) (all2 rfl hon) (by rw [List.length_append]; simp; omega) (by rw [List.length_append]; simp; omega) ?_)
             rintro v36 cs36 hrow36 _
             have hins2 := hins.lay htl (by simpa using h20) c_t25)
          | (refine wl rfl (oApp (m := 1) (news := [strK t.1, t.2.1]) rfl ty83 ty97 rfl rfl rfl hrow (by repeat (first | exact At.cell | exact At.h | apply At.t | apply At.a)) (Rs.mk (Rc.of_has (by repeat (first | exact Has.h | apply Has.t | apply Has.app)) rfl) rfl (Nat.le_refl _)) (all2 rfl hon) (by omega) (by omega) ?_)
             rintro v36 cs36 hrow36 _)
          refine wl rfl (OP.ev rfl rfl (eAs rfl) ?_)
          refine wl_nil ?_
          refine wc_region ?_
          first | refine wl rfl (OP.ev rfl rfl (eAdd rfl rfl (by omega)) ?_) | refine wl rfl (OP.ev rfl rfl (eAddW rfl rfl) ?_)
          refine wl rfl (OP.ev rfl rfl (eMv rfl) ?_)
          refine wl_nil ?_
          first
          | exact ⟨(i + 1, v36, cs36, zs ++ [(k, bv, b)] ++ [t], true), ⟨by show i + 1 ≤ _; omega, by show Row v36 cs36 2 (zs ++ [(k, bv, b)] ++ [t]).length (fV (zs ++ [(k, bv, b)] ++ [t])); rw [fV_app, List.length_append]; exact hrow36, by show InsI k b _ (i + 1) true (fL (zs ++ [(k, bv, b)] ++ [t])); rw [fL_app, fL_app]; exact hins2, (hzo.app (FOk.one hb hB)).app (FOk.one htr htb), by show (zs ++ [(k, bv, b)] ++ [t]).length ≤ i + 1 + 1; simp; have := (hins.no (by simpa using h20)).1; have := congrArg List.length this; simp [fL] at this; omega⟩, by show _ - (i + 1) < _; omega, ⟨rfl, rfl, rfl, rfl, rfl, rfl, rfl, trivial⟩, (by repeat (first | exact Sel.all | exact Sel.none | exact Sel.hd | (apply Sel.one; · repeat (first | exact Pick.h | apply Pick.t | apply Pick.app)) | apply Sel.app | (with_reducible apply Sel.grp; · repeat (first | exact PickF.h | apply PickF.t | apply PickF.a)) | (with_reducible refine Sel.nilF (by with_unfolding_all rfl) ?_) | apply Sel.drop | apply Sel.dropF))⟩
          | exact ⟨(i + 1, v36, cs36, zs ++ [t], dn), ⟨by show i + 1 ≤ _; omega, by show Row v36 cs36 2 (zs ++ [t]).length (fV (zs ++ [t])); rw [fV_app, List.length_append]; exact hrow36, by show InsI k b _ (i + 1) dn (fL (zs ++ [t])); rw [fL_app]; first | exact hins.pass htl (by simpa using h20) c_t25 | exact hins.past htl (by simpa using h20), hzo.app (FOk.one htr htb), by show (zs ++ [t]).length ≤ i + 1 + 1; rw [List.length_append]; simp; omega⟩, by show _ - (i + 1) < _; omega, ⟨rfl, rfl, rfl, rfl, rfl, rfl, rfl, trivial⟩, (by repeat (first | exact Sel.all | exact Sel.none | exact Sel.hd | (apply Sel.one; · repeat (first | exact Pick.h | apply Pick.t | apply Pick.app)) | apply Sel.app | (with_reducible apply Sel.grp; · repeat (first | exact PickF.h | apply PickF.t | apply PickF.a)) | (with_reducible refine Sel.nilF (by with_unfolding_all rfl) ?_) | apply Sel.drop | apply Sel.dropF))⟩))
  | false =>
    try have c_t16 := df h16
    first
    | (exfalso; omega)
    | (
      refine wc_else rfl ?_
      refine wc_exit rfl ?_
      refine wc_seq ?_
      refine wc_seq ?_
      refine wc_region ?_
      refine wl rfl (OP.ev rfl rfl (eMv rfl) ?_)
      refine wl rfl (OP.evb rfl rfl (eNot rfl) fun t39 h39 => ?_)
      refine wl_nil ?_
      cases t39 with
      | true =>
        try have c_t39 := dt h39
        first
        | (exfalso; omega)
        | (
          refine wc_then rfl ?_
          refine wc_region ?_
          refine wl rfl (OP.ev rfl rfl (eMv rfl) ?_)
          refine wl rfl (OP.ev rfl rfl (eMv rfl) ?_)
          refine wl rfl (OP.ev rfl rfl (eMv rfl) ?_)
          refine wl rfl (OP.ev rfl rfl (eBuL (cells := [strK k, bv]) ty97 pl97 rfl (by have h9 := oneCell_of honb; simp only [fillL, h9]; rfl)) ?_)
          refine wl rfl (oBSw (vs := [.agg #[strK k, bv]]) rfl ty83 ty97 rfl rfl rfl rfl rfl rfl fun b44 => ?_)
          refine wl rfl (oApp (m := 1) (news := [strK k, bv]) rfl ty83 ty97 rfl rfl rfl hrow (by repeat (first | exact At.cell | exact At.h | apply At.t | apply At.a)) (Rs.mk (Rc.of_has (by repeat (first | exact Has.h | apply Has.t | apply Has.app)) rfl) rfl (Nat.le_refl _)) (all2 rfl honb) (by omega) (by omega) ?_)
          rintro v45 cs45 hrow45 _
          have hrow45' : Row v45 cs45 2 (zs ++ [(k, bv, b)]).length (fV (zs ++ [(k, bv, b)])) := by rw [fV_app, List.length_append]; exact hrow45
          refine wl rfl (OP.ev rfl rfl (eAs rfl) ?_)
          refine wl_nil ?_
          refine wc_seq ?_
          refine wc_region ?_
          refine wl rfl (OP.ev rfl rfl (eMv rfl) ?_)
          refine wl rfl (OP.ev rfl rfl (eAs rfl) ?_)
          refine wl_nil ?_
          refine wc_ret ?_
          apply at_ret rfl
          · exact (.cons (.tmp rfl) .nil)
          · first
            | exact ⟨ownH v45 cs45 97 ++ I, sel_app, ⟨zs ++ [(k, bv, b)], hrow45'.rs (C := fun F => F ++ I) At.h, by rw [fL_app]; exact hins.endN (by omega) (by simpa using h39), (hzo.app (FOk.one hb hB)).sel sel_app⟩, (by rw [List.append_assoc] : ownH v45 cs45 97 ++ (I ++ R) = _)⟩
            | exact ⟨ownH w cs 97 ++ I, sel_app, ⟨zs, hrow.rs (C := fun F => F ++ I) At.h, hins.endY (by omega) (by simpa using h39), hzo.sel sel_app⟩, (by rw [List.append_assoc] : ownH w cs 97 ++ (I ++ R) = _)⟩
          · exact (by repeat (first | exact Sel.all | exact Sel.none | exact Sel.hd | (apply Sel.one; · repeat (first | exact Pick.h | apply Pick.t | apply Pick.app)) | apply Sel.app | (with_reducible apply Sel.grp; · repeat (first | exact PickF.h | apply PickF.t | apply PickF.a)) | (with_reducible refine Sel.nilF (by with_unfolding_all rfl) ?_) | apply Sel.drop | apply Sel.dropF)))
      | false =>
        try have c_t39 := df h39
        first
        | (exfalso; omega)
        | (
          refine wc_else rfl ?_
          refine wc_skip ?_
          refine wc_seq ?_
          refine wc_region ?_
          refine wl rfl (OP.ev rfl rfl (eMv rfl) ?_)
          refine wl rfl (OP.ev rfl rfl (eAs rfl) ?_)
          refine wl_nil ?_
          refine wc_ret ?_
          apply at_ret rfl
          · exact (.cons (.tmp rfl) .nil)
          · first
            | exact ⟨ownH v45 cs45 97 ++ I, sel_app, ⟨zs ++ [(k, bv, b)], hrow45'.rs (C := fun F => F ++ I) At.h, by rw [fL_app]; exact hins.endN (by omega) (by simpa using h39), (hzo.app (FOk.one hb hB)).sel sel_app⟩, (by rw [List.append_assoc] : ownH v45 cs45 97 ++ (I ++ R) = _)⟩
            | exact ⟨ownH w cs 97 ++ I, sel_app, ⟨zs, hrow.rs (C := fun F => F ++ I) At.h, hins.endY (by omega) (by simpa using h39), hzo.sel sel_app⟩, (by rw [List.append_assoc] : ownH w cs 97 ++ (I ++ R) = _)⟩
          · exact (by repeat (first | exact Sel.all | exact Sel.none | exact Sel.hd | (apply Sel.one; · repeat (first | exact Pick.h | apply Pick.t | apply Pick.app)) | apply Sel.app | (with_reducible apply Sel.grp; · repeat (first | exact PickF.h | apply PickF.t | apply PickF.a)) | (with_reducible refine Sel.nilF (by with_unfolding_all rfl) ?_) | apply Sel.drop | apply Sel.dropF))))
end Go.Proofs.Ytahjgjmemijofaa
