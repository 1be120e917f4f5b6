/- Contracts of the acts of the disk: what is used, an act, a fall. No statement of the seat is proved here. -/
import Derived.Test.YtahjgjmemijofaaDkS2
namespace Go.Proofs.Ytahjgjmemijofaa
open Go Eng
set_option linter.unusedVariables false
set_option maxRecDepth 4000
variable {W0 : World} {I I' : Heap}

abbrev ActT := Value × Value × Act
def actV (ax : List ActT) : List Value := ax.flatMap fun t => [t.1, t.2.1, i64 (t.2.2.B.length : Int)]
theorem actV_len (ax : List ActT) : (actV ax).length = ax.length * 3 := by
  induction ax with
  | nil => rfl
  | cons x r ih => simp only [actV, List.flatMap_cons, List.length_append, List.length_cons, List.length_nil] at ih ⊢; omega
theorem actV_app (a b : List ActT) : actV (a ++ b) = actV a ++ actV b := by simp [actV]
theorem actV_at {ax : List ActT} {i : Nat} {t : ActT} (h : ax[i]? = some t) : ((actV ax).drop (i * 3)).take 3 = [t.1, t.2.1, i64 (t.2.2.B.length : Int)] := by
  induction ax generalizing i with
  | nil => simp at h
  | cons x r ih =>
    cases i with
    | zero => simp at h; subst h; rfl
    | succ i =>
      have := ih (by simpa using h)
      rw [← this]
      show (([x.1, x.2.1, i64 (x.2.2.B.length : Int)] ++ actV r).drop ((i + 1) * 3)).take 3 = _
      rw [show (i + 1) * 3 = 3 + i * 3 by omega, List.drop_append, List.drop_of_length_le (by simp)]
      simp
theorem actV_take (ax : List ActT) (k : Nat) : (actV ax).take (k * 3) = actV (ax.take k) := by
  induction ax generalizing k with
  | nil => simp [actV]
  | cons x r ih =>
    cases k with
    | zero => simp [actV]
    | succ k =>
      show ([x.1, x.2.1, i64 (x.2.2.B.length : Int)] ++ actV r).take ((k + 1) * 3) = [x.1, x.2.1, i64 (x.2.2.B.length : Int)] ++ actV (r.take k)
      rw [show (k + 1) * 3 = 3 + k * 3 by omega, List.take_append, List.take_of_length_le (by simp)]
      simp [ih]

theorem all3 {x y z : Value} (hx : x.oneCell' = true) (hy : y.oneCell' = true) (hz : z.oneCell' = true) : ([x, y, z] : List Value).all Value.oneCell' = true := by
  rw [List.all_cons, List.all_cons, List.all_cons, hx, hy, hz]; rfl
/-- the acts of a disk -/
structure ActsR (W0 : World) (I : Heap) (av : Value) (acs : Array Value) (ax : List ActT) (acts : List Act) : Prop where
  row : Row av acs 3 ax.length (actV ax)
  acts : ax.map (·.2.2) = acts
  ok : ∀ t ∈ ax, IsB t.2.2.B ∧ Rs W0 I t.2.1 1 t.2.2.B.length (byteV t.2.2.B) ∧ FunR W0 I t.1 t.2.2
theorem ActsR.sel {av : Value} {acs : Array Value} {ax : List ActT} {acts : List Act} (h : ActsR W0 I av acs ax acts) (hs : Sel I' I) : ActsR W0 I' av acs ax acts :=
  ⟨h.row, h.acts, fun t ht => ⟨(h.ok t ht).1, (h.ok t ht).2.1.sel hs, (h.ok t ht).2.2.sel hs⟩⟩
theorem ActsR.len {av : Value} {acs : Array Value} {ax : List ActT} {acts : List Act} (h : ActsR W0 I av acs ax acts) : ax.length = acts.length := by rw [← h.acts]; simp
theorem FunR.one {f : Value} {a : Act} (h : FunR W0 I f a) : f.oneCell' = true := by
  rcases h with ⟨h, b1, b2, rfl, _⟩ | ⟨h, b1, b2, rfl, _⟩ | ⟨h, b1, b2, rfl, _⟩ | ⟨h, b1, rfl, _⟩ <;> rfl
theorem ActsR.one {av : Value} {acs : Array Value} {ax : List ActT} {acts : List Act} (h : ActsR W0 I av acs ax acts) {i : Nat} {t : ActT} (ht : ax[i]? = some t) : t.1.oneCell' = true ∧ t.2.1.oneCell' = true := by
  obtain ⟨_, h2, h3⟩ := h.ok t (List.mem_of_getElem? ht)
  obtain ⟨ad, k, c, h4⟩ := h2.isSlice
  exact ⟨h3.one, by rw [h4]; rfl⟩
theorem ActsR.nil : ActsR W0 I (.slice none 0 0) #[] [] [] := ⟨Row.nil _ _, rfl, by simp⟩
theorem ActsR.at {av : Value} {acs : Array Value} {ax : List ActT} {acts : List Act} (h : ActsR W0 I av acs ax acts) {i : Nat} {t : ActT} (ht : ax[i]? = some t) : acts[i]? = some t.2.2 := by rw [← h.acts]; simp [ht]

/-- a disk in memory -/
def DiskR (W0 : World) (I : Heap) (d : DK) (b : Nat) (D : Heap) : Prop :=
  ∃ ms ml m1 c1 m2 c2 av acs ax, D = dkC b d ms ml av :: tC ms m1 c1 :: tC ml m2 c2 :: ownH av acs 82 ∧ Tab W0 I m1 c1 d.seen ∧ Tab W0 I m2 c2 d.last ∧ ActsR W0 I av acs ax d.acts
theorem DiskR.sel {d : DK} {b : Nat} {D : Heap} (h : DiskR W0 I d b D) (hs : Sel I' I) : DiskR W0 I' d b D := by
  obtain ⟨ms, ml, m1, c1, m2, c2, av, acs, ax, h1, h2, h3, h4⟩ := h
  exact ⟨ms, ml, m1, c1, m2, c2, av, acs, ax, h1, h2.sel hs, h3.sel hs, h4.sel hs⟩

theorem used_ok (b : Nat) (d : DK) (hd : DOk d) (D R : Heap) (hD : DiskR W0 I d b D) (hn : d.acts.length ≤ 1000000) :
    FnC W0 Try.prog 25 #[ptr b] (D ++ (I ++ R)) (fun v L' => v = i64 d.used ∧ L' = D ++ (I ++ R)) := by
  obtain ⟨ms, ml, m1, c1, m2, c2, av, acs, ax, rfl, hT1, hT2, hA⟩ := hD
  have hal := hA.len
  have huse := hd.use
  have hroom := hd.room
  simp only [List.cons_append]
  refine fn_of Try.func25 rfl Try.ntmps25 rfl rfl ?_
  refine wc_seq ?_
  refine wc_region ?_
  refine wl rfl (OP.ev rfl rfl (eAs rfl) ?_)
  refine wl_nil ?_
  refine wc_seq ?_
  refine wc_seq ?_
  refine wc_region ?_
  refine wl rfl (OP.ev rfl rfl (eMv rfl) ?_)
  refine wl rfl (oC rfl pf43 rfl (ready_ok b d ms ml av _) (by repeat (first | exact Sel.all | exact Sel.none | exact Sel.hd | (apply Sel.one; · repeat (first | exact Pick.h | apply Pick.t | apply Pick.app)) | apply Sel.app | (with_reducible apply Sel.grp; · repeat (first | exact PickF.h | apply PickF.t | apply PickF.a)) | (with_reducible refine Sel.nilF (by with_unfolding_all rfl) ?_) | apply Sel.drop | apply Sel.dropF)) ?_)
  rintro _ _ ⟨rfl, rfl⟩
  refine wl rfl (OP.evb rfl rfl (eNe rfl rfl) fun t8 h8 => ?_)
  refine wl_nil ?_
  cases t8 with
  | true =>
    try have c_t8 := dt h8
    first
    | (exfalso; omega)
    | (
      refine wc_then rfl ?_
      refine wc_seq ?_
      refine wc_region ?_
      refine wl rfl (OP.ev rfl rfl (eAs rfl) ?_)
      refine wl_nil ?_
      refine wc_ret ?_
      apply at_ret rfl
      · exact (.cons (.tmp rfl) .nil)
      · first
        | exact ⟨by show i64 0 = i64 d.used; unfold DK.used DK.ready at *; split <;> simp_all, rfl⟩
        | exact ⟨by show i64 _ = i64 d.used; rw [List.take_of_length_le (by omega)]; unfold DK.used DK.ready at *; split <;> simp_all, rfl⟩
      · exact (by repeat (first | exact Sel.all | exact Sel.none | exact Sel.hd | (apply Sel.one; · repeat (first | exact Pick.h | apply Pick.t | apply Pick.app)) | apply Sel.app | (with_reducible apply Sel.grp; · repeat (first | exact PickF.h | apply PickF.t | apply PickF.a)) | (with_reducible refine Sel.nilF (by with_unfolding_all rfl) ?_) | apply Sel.drop | apply Sel.dropF)))
  | false =>
    try have c_t8 := df h8
    first
    | (exfalso; omega)
    | (
      refine wc_else rfl ?_
      refine wc_skip ?_
      refine wc_seq ?_
      refine wc_region ?_
      refine wl rfl (OP.ev rfl rfl (eMv rfl) ?_)
      refine wl rfl (OP.ev rfl rfl (eNil rfl) ?_)
      refine wl rfl (OP.ev rfl rfl (eFld 6 ty52 rfl rfl ty49 rfl) ?_)
      first | refine wl rfl (OP.ev rfl rfl (eLd ty49 rfl rfl (by repeat (first | exact Has.h | apply Has.t | apply Has.app)) (by rfl)) ?_) | refine wl rfl (OP.ev rfl rfl (eLdO ty49 rfl rfl (by assumption)) ?_)
      refine wl rfl (oC rfl pf54 rfl (total_ok ml m2 c2 d.last hT2 hd.lbytes _) (by repeat (first | exact Sel.all | exact Sel.none | exact Sel.hd | (apply Sel.one; · repeat (first | exact Pick.h | apply Pick.t | apply Pick.app)) | apply Sel.app | (with_reducible apply Sel.grp; · repeat (first | exact PickF.h | apply PickF.t | apply PickF.a)) | (with_reducible refine Sel.nilF (by with_unfolding_all rfl) ?_) | apply Sel.drop | apply Sel.dropF)) ?_)
      rintro _ _ ⟨rfl, rfl⟩
      refine wl rfl (OP.ev rfl rfl (eAs rfl) ?_)
      refine wl_nil ?_
      refine wc_seq ?_
      refine wc_seq ?_
      refine wc_region ?_
      refine wl rfl (OP.ev rfl rfl (eMv rfl) ?_)
      refine wl rfl (OP.ev rfl rfl (eNil rfl) ?_)
      refine wl rfl (OP.ev rfl rfl (eFld 7 ty52 rfl rfl ty50 rfl) ?_)
      first | refine wl rfl (OP.ev rfl rfl (eLd ty50 rfl rfl (by repeat (first | exact Has.h | apply Has.t | apply Has.app)) (by rfl)) ?_) | refine wl rfl (OP.ev rfl rfl (eLdO ty50 rfl rfl (by assumption)) ?_)
      refine wl rfl (OP.ev rfl rfl (eLenRow ty50 rfl hA.row) ?_)
      refine wl rfl (OP.ev rfl rfl (eMv rfl) ?_)
      refine wl_nil ?_
      refine wc_block ?_
      refine wc_loop (σ := Nat) (fun i => [(3, i64 ((total d.last + costs (d.acts.take i) : Nat) : Int)), (17, av), (18, i64 (ax.length : Int)), (19, i64 (i : Int))]) (fun i => dkC b d ms ml av :: tC ms m1 c1 :: tC ml m2 c2 :: (ownH av acs 82 ++ (I ++ R))) (fun i => i ≤ ax.length) (fun i => ax.length - i) 0 (Nat.zero_le _) ⟨by show some (i64 _) = some (i64 _); simp [costs], rfl, rfl, rfl, trivial⟩ (by repeat (first | exact Sel.all | exact Sel.none | exact Sel.hd | (apply Sel.one; · repeat (first | exact Pick.h | apply Pick.t | apply Pick.app)) | apply Sel.app | (with_reducible apply Sel.grp; · repeat (first | exact PickF.h | apply PickF.t | apply PickF.a)) | (with_reducible refine Sel.nilF (by with_unfolding_all rfl) ?_) | apply Sel.drop | apply Sel.dropF)) ?_
      rintro i hi
      refine wc_seq ?_
      refine wc_region ?_
      refine wl rfl (OP.evb rfl rfl (eLt rfl rfl) fun t20 h20 => ?_)
      refine wl_nil ?_
      refine wc_seq ?_
      cases t20 with
      | true =>
        try have c_t20 := dt h20
        first
        | (exfalso; omega)
        | (
          refine wc_then rfl ?_
          refine wc_skip ?_
          refine wc_seq ?_
          refine wc_block ?_
          refine wc_seq ?_
          obtain ⟨t, ht⟩ : ∃ t, ax[i]? = some t := ⟨_, List.getElem?_eq_getElem (by omega)⟩
          have hat := hA.at ht
          have hc1 : costs (d.acts.take (i + 1)) = costs (d.acts.take i) + t.2.2.B.length := by
            rw [List.take_add_one, hat]; exact costs_snoc _ _
          have hc2 := costs_take d.acts (i + 1)
          have hon := hA.one ht
          refine wc_region ?_
          refine wl rfl (OP.ev rfl rfl (eIxS ty50 ty82 rfl (hA.row.rs (by repeat (first | exact At.cell | exact At.h | apply At.t | apply At.a))) rfl (by omega) (by omega)) ?_)
          refine wl rfl (OP.ev rfl rfl (eLdSA (vs := [t.1, t.2.1, i64 (t.2.2.B.length : Int)]) ty82 rfl rfl (hA.row.rs (by repeat (first | exact At.cell | exact At.h | apply At.t | apply At.a))) (i * 3) (by omega) rfl (actV_at ht) (by decide)) ?_)
          refine wl rfl (oAl rfl ty82 rfl fun b5 => ?_)
          refine wl rfl (oStW ty82 rfl rfl rfl (all3 hon.1 hon.2 rfl) (by repeat (first | exact Upd.h | apply Upd.t | apply Upd.app)) (by rfl) ?_)
          refine wl_nil ?_
          refine wc_region ?_
          refine wl rfl (OP.ev rfl rfl (eMv rfl) ?_)
          refine wl rfl (OP.ev rfl rfl (eFld 2 ty82 rfl rfl ty3 rfl) ?_)
          first | refine wl rfl (OP.ev rfl rfl (eLd ty3 rfl rfl (by repeat (first | exact Has.h | apply Has.t | apply Has.app)) (by rfl)) ?_) | refine wl rfl (OP.ev rfl rfl (eLdO ty3 rfl rfl (by assumption)) ?_)
          first | refine wl rfl (OP.ev rfl rfl (eAdd rfl rfl (by omega)) ?_) | refine wl rfl (OP.ev rfl rfl (eAddW rfl rfl) ?_)
          refine wl rfl (OP.ev rfl rfl (eAs rfl) ?_)
          refine wl_nil ?_
          refine wc_region ?_
          first | refine wl rfl (OP.ev rfl rfl (eAdd rfl rfl (by omega)) ?_) | refine wl rfl (OP.ev rfl rfl (eAddW rfl rfl) ?_)
          refine wl rfl (OP.ev rfl rfl (eMv rfl) ?_)
          refine wl_nil ?_
          exact ⟨i + 1, by omega, by omega, ⟨by show some (i64 _) = some (i64 _); congr 2; omega, rfl, rfl, rfl, trivial⟩, (by repeat (first | exact Sel.all | exact Sel.none | exact Sel.hd | (apply Sel.one; · repeat (first | exact Pick.h | apply Pick.t | apply Pick.app)) | apply Sel.app | (with_reducible apply Sel.grp; · repeat (first | exact PickF.h | apply PickF.t | apply PickF.a)) | (with_reducible refine Sel.nilF (by with_unfolding_all rfl) ?_) | apply Sel.drop | apply Sel.dropF))⟩)
      | false =>
        try have c_t20 := df h20
        first
        | (exfalso; omega)
        | (
          refine wc_else rfl ?_
          refine wc_exit rfl ?_
          refine wc_seq ?_
          refine wc_region ?_
          refine wl rfl (OP.ev rfl rfl (eMv rfl) ?_)
          refine wl rfl (OP.ev rfl rfl (eAs rfl) ?_)
          refine wl_nil ?_
          refine wc_ret ?_
          apply at_ret rfl
          · exact (.cons (.tmp rfl) .nil)
          · first
            | exact ⟨by show i64 0 = i64 d.used; unfold DK.used DK.ready at *; split <;> simp_all, rfl⟩
            | exact ⟨by show i64 _ = i64 d.used; rw [List.take_of_length_le (by omega)]; unfold DK.used DK.ready at *; split <;> simp_all, rfl⟩
          · exact (by repeat (first | exact Sel.all | exact Sel.none | exact Sel.hd | (apply Sel.one; · repeat (first | exact Pick.h | apply Pick.t | apply Pick.app)) | apply Sel.app | (with_reducible apply Sel.grp; · repeat (first | exact PickF.h | apply PickF.t | apply PickF.a)) | (with_reducible refine Sel.nilF (by with_unfolding_all rfl) ?_) | apply Sel.drop | apply Sel.dropF))))
end Go.Proofs.Ytahjgjmemijofaa
