/- The reference's disk: used, list, write, sync and the rest. No statement of the seat is proved here. -/
import Derived.Test.YtahjgjmemijofaaRf6
namespace Go.Proofs.Ytahjgjmemijofaa
open Go Eng
set_option linter.unusedVariables false
set_option linter.unusedSimpArgs false
set_option maxRecDepth 4000
variable {W0 : World} {I I' : Heap}

theorem total_tk {l : Files} {i : Nat} {e : Nm × List Int} (h : l[i]? = some e) : total (l.take (i + 1)) = total (l.take i) + e.2.length := by
  rw [List.take_add_one, h]
  simp [total]
theorem total_tk_le (l : Files) (i : Nat) : total (l.take i) ≤ total l := by
  induction l generalizing i with
  | nil => simp
  | cons e r ih =>
    cases i with
    | zero => simp [total]
    | succ i =>
      have := ih i
      rw [List.take_succ_cons, total_cons, total_cons]
      omega
theorem Eng.Rs.isSl {L : Heap} {v : Value} {sz k : Nat} {cells : List Value} (h : Rs W0 L v sz k cells) : ∃ ad c, v = .slice ad k c := by
  rcases h.2 with ⟨rfl, ad, cap, rfl⟩ | ⟨b, off, cap, rfl, _⟩
  · exact ⟨_, _, rfl⟩
  · exact ⟨_, _, rfl⟩

theorem rused_ok (b : Nat) (d : DK) (hd : DOk d) (Lv av : Value) (acs : Array Value) (ax : List AT) (kp tr : Int) (hF : FilesV W0 I Lv d.last) (hA : RActs W0 I av acs ax d.acts) (hn : d.acts.length ≤ 1000000) (R : Heap) :
    FnC W0 Try.prog 62 #[ptr b] (rkC b d Lv av kp tr :: (ownH av acs 92 ++ (I ++ R))) (fun v L' => v = i64 d.used ∧ L' = rkC b d Lv av kp tr :: (ownH av acs 92 ++ (I ++ R))) := by
  have hal := hA.len
  obtain ⟨xs, hr, hxl, hxo⟩ := hF
  have hxn : xs.length = d.last.length := by rw [← hxl]; simp [fL]
  have huse := hd.use
  have hnum := hd.num
  have hroom := hd.room
  rcases ho : d.off with _ | _
  · have hu : d.used = ((total d.last + costs d.acts : Nat) : Int) := by unfold DK.used; rw [ho]; rfl
    refine fn_of Try.func62 rfl Try.ntmps62 rfl rfl ?_
    refine wc_seq ?_
    refine wc_region ?_
    refine wl rfl (OP.ev rfl rfl (eAs rfl) ?_)
    refine wl_nil ?_
    refine wc_seq ?_
    refine wc_region ?_
    refine wl rfl (OP.ev rfl rfl (eAs rfl) ?_)
    refine wl_nil ?_
    refine wc_seq ?_
    refine wc_seq ?_
    refine wc_region ?_
    refine wl rfl (OP.ev rfl rfl (eMv rfl) ?_)
    refine wl rfl (OP.ev rfl rfl (eNil rfl) ?_)
    refine wl rfl (OP.ev rfl rfl (eFld 3 ty86 rfl rfl ty4 rfl) ?_)
    refine wl rfl (OP.ev rfl rfl (eLd (v := .bool false) ty4 rfl rfl (by repeat (first | exact Has.h | apply Has.t | apply Has.app)) (by show some (Value.bool d.off) = _; rw [ho])) ?_)
    refine wl_nil ?_
    refine wc_else rfl ?_
    refine wc_skip ?_
    refine wc_seq ?_
    refine wc_seq ?_
    refine wc_region ?_
    refine wl rfl (OP.ev rfl rfl (eMv rfl) ?_)
    refine wl rfl (OP.ev rfl rfl (eNil rfl) ?_)
    refine wl rfl (OP.ev rfl rfl (eFld 1 ty86 rfl rfl ty83 rfl) ?_)
    first | refine wl rfl (OP.ev rfl rfl (eLd ty83 rfl rfl (by repeat (first | exact Has.h | apply Has.t | apply Has.app)) (by rfl)) ?_) | refine wl rfl (OP.ev rfl rfl (eLdO ty83 rfl rfl (by assumption)) ?_)
    refine wl rfl (OP.ev rfl rfl (eLenR ty83 rfl (hr.sel (by repeat (first | exact Sel.all | exact Sel.none | exact Sel.hd | (apply Sel.one; · repeat (first | exact Pick.h | apply Pick.t | apply Pick.app)) | apply Sel.app | (with_reducible apply Sel.grp; · repeat (first | exact PickF.h | apply PickF.t | apply PickF.a)) | (with_reducible refine Sel.nilF (by with_unfolding_all rfl) ?_) | apply Sel.drop | apply Sel.dropF)))) ?_)
    refine wl rfl (OP.ev rfl rfl (eMv rfl) ?_)
    refine wl_nil ?_
    refine wc_block ?_
    refine wc_loop (σ := Nat) (fun i => [(0, ptr b), (3, i64 ((total (d.last.take i) : Nat) : Int)), (15, Lv), (16, i64 (xs.length : Int)), (17, i64 (i : Int))]) (fun i => rkC b d Lv av kp tr :: (ownH av acs 92 ++ (I ++ R))) (fun i => i ≤ xs.length) (fun i => xs.length - i) 0 (Nat.zero_le _) ⟨rfl, rfl, rfl, rfl, rfl, trivial⟩ (by repeat (first | exact Sel.all | exact Sel.none | exact Sel.hd | (apply Sel.one; · repeat (first | exact Pick.h | apply Pick.t | apply Pick.app)) | apply Sel.app | (with_reducible apply Sel.grp; · repeat (first | exact PickF.h | apply PickF.t | apply PickF.a)) | (with_reducible refine Sel.nilF (by with_unfolding_all rfl) ?_) | apply Sel.drop | apply Sel.dropF)) ?_
    rintro i hi
    refine wc_seq ?_
    refine wc_region ?_
    refine wl rfl (OP.evb rfl rfl (eLt rfl rfl) fun t18 h18 => ?_)
    refine wl_nil ?_
    refine wc_seq ?_
    cases t18 with
    | true =>
      try have c_t18 := dt h18
      first
      | (exfalso; omega)
      | (
        refine wc_then rfl ?_
        refine wc_skip ?_
        refine wc_seq ?_
        refine wc_block ?_
        refine wc_seq ?_
        obtain ⟨t, ht⟩ : ∃ t, xs[i]? = some t := ⟨_, List.getElem?_eq_getElem (by omega)⟩
        have htl := fL_at ht
        rw [hxl] at htl
        obtain ⟨htr, htb⟩ := hxo t (List.mem_of_getElem? ht)
        obtain ⟨ad, kk, cc, hts⟩ := htr.isSlice
        have hon : t.2.1.oneCell' = true := by rw [hts]; rfl
        have htt := total_tk htl
        have htt2 := total_tk_le d.last (i + 1)
        dsimp only at htt
        refine wc_region ?_
        refine wl rfl (OP.ev rfl rfl (eIxS ty83 ty97 rfl (hr.sel (by repeat (first | exact Sel.all | exact Sel.none | exact Sel.hd | (apply Sel.one; · repeat (first | exact Pick.h | apply Pick.t | apply Pick.app)) | apply Sel.app | (with_reducible apply Sel.grp; · repeat (first | exact PickF.h | apply PickF.t | apply PickF.a)) | (with_reducible refine Sel.nilF (by with_unfolding_all rfl) ?_) | apply Sel.drop | apply Sel.dropF))) rfl (by omega) (by omega)) ?_)
        refine wl rfl (OP.ev rfl rfl (eLdSA (vs := [strK t.1, t.2.1]) ty97 rfl rfl (hr.sel (by repeat (first | exact Sel.all | exact Sel.none | exact Sel.hd | (apply Sel.one; · repeat (first | exact Pick.h | apply Pick.t | apply Pick.app)) | apply Sel.app | (with_reducible apply Sel.grp; · repeat (first | exact PickF.h | apply PickF.t | apply PickF.a)) | (with_reducible refine Sel.nilF (by with_unfolding_all rfl) ?_) | apply Sel.drop | apply Sel.dropF))) (i * 2) (by omega) rfl (fV_at ht) (by decide)) ?_)
        refine wl rfl (oAl rfl ty97 rfl fun b5 => ?_)
        refine wl rfl (oStW ty97 rfl rfl rfl (all2 rfl hon) (by repeat (first | exact Upd.h | apply Upd.t | apply Upd.app)) (by rfl) ?_)
        refine wl_nil ?_
        refine wc_region ?_
        refine wl rfl (OP.ev rfl rfl (eMv rfl) ?_)
        refine wl rfl (OP.ev rfl rfl (eFld 1 ty97 rfl rfl ty30 rfl) ?_)
        first | refine wl rfl (OP.ev rfl rfl (eLd ty30 rfl rfl (by repeat (first | exact Has.h | apply Has.t | apply Has.app)) (by rfl)) ?_) | refine wl rfl (OP.ev rfl rfl (eLdO ty30 rfl rfl (by assumption)) ?_)
        refine wl rfl (OP.ev rfl rfl (eLenR ty30 rfl (htr.sel (by repeat (first | exact Sel.all | exact Sel.none | exact Sel.hd | (apply Sel.one; · repeat (first | exact Pick.h | apply Pick.t | apply Pick.app)) | apply Sel.app | (with_reducible apply Sel.grp; · repeat (first | exact PickF.h | apply PickF.t | apply PickF.a)) | (with_reducible refine Sel.nilF (by with_unfolding_all rfl) ?_) | apply Sel.drop | apply Sel.dropF)))) ?_)
        first | refine wl rfl (OP.ev rfl rfl (eAdd rfl rfl (by omega)) ?_) | refine wl rfl (OP.ev rfl rfl (eAddW rfl rfl) ?_)
        refine wl rfl (OP.ev rfl rfl (eAs rfl) ?_)
        refine wl_nil ?_
        refine wc_region ?_
        first | refine wl rfl (OP.ev rfl rfl (eAdd rfl rfl (by omega)) ?_) | refine wl rfl (OP.ev rfl rfl (eAddW rfl rfl) ?_)
        refine wl rfl (OP.ev rfl rfl (eMv rfl) ?_)
        refine wl_nil ?_
        exact ⟨i + 1, by omega, by omega, ⟨rfl, by show some (i64 _) = some (i64 _); congr 2; omega, rfl, rfl, rfl, trivial⟩, (by repeat (first | exact Sel.all | exact Sel.none | exact Sel.hd | (apply Sel.one; · repeat (first | exact Pick.h | apply Pick.t | apply Pick.app)) | apply Sel.app | (with_reducible apply Sel.grp; · repeat (first | exact PickF.h | apply PickF.t | apply PickF.a)) | (with_reducible refine Sel.nilF (by with_unfolding_all rfl) ?_) | apply Sel.drop | apply Sel.dropF))⟩)
    | false =>
      try have c_t18 := df h18
      first
      | (exfalso; omega)
      | (
        refine wc_else rfl ?_
        refine wc_exit rfl ?_
        refine wc_seq ?_
        refine wc_seq ?_
        rw [List.take_of_length_le (by omega)]
        refine wc_region ?_
        refine wl rfl (OP.ev rfl rfl (eMv rfl) ?_)
        refine wl rfl (OP.ev rfl rfl (eNil rfl) ?_)
        refine wl rfl (OP.ev rfl rfl (eFld 2 ty86 rfl rfl ty84 rfl) ?_)
        first | refine wl rfl (OP.ev rfl rfl (eLd ty84 rfl rfl (by repeat (first | exact Has.h | apply Has.t | apply Has.app)) (by rfl)) ?_) | refine wl rfl (OP.ev rfl rfl (eLdO ty84 rfl rfl (by assumption)) ?_)
        refine wl rfl (OP.ev rfl rfl (eLenRow ty84 rfl hA.row) ?_)
        refine wl rfl (OP.ev rfl rfl (eMv rfl) ?_)
        refine wl_nil ?_
        refine wc_block ?_
        refine wc_loop (σ := Nat) (fun i => [(0, ptr b), (3, i64 ((total d.last + costs (d.acts.take i) : Nat) : Int)), (30, av), (31, i64 (ax.length : Int)), (32, i64 (i : Int))]) (fun i => rkC b d Lv av kp tr :: (ownH av acs 92 ++ (I ++ R))) (fun i => i ≤ ax.length) (fun i => ax.length - i) 0 (Nat.zero_le _) ⟨rfl, by show some (i64 _) = some (i64 _); simp [costs], rfl, rfl, rfl, trivial⟩ (by repeat (first | exact Sel.all | exact Sel.none | exact Sel.hd | (apply Sel.one; · repeat (first | exact Pick.h | apply Pick.t | apply Pick.app)) | apply Sel.app | (with_reducible apply Sel.grp; · repeat (first | exact PickF.h | apply PickF.t | apply PickF.a)) | (with_reducible refine Sel.nilF (by with_unfolding_all rfl) ?_) | apply Sel.drop | apply Sel.dropF)) ?_
        rintro j hj
        refine wc_seq ?_
        refine wc_region ?_
        refine wl rfl (OP.evb rfl rfl (eLt rfl rfl) fun t33 h33 => ?_)
        refine wl_nil ?_
        refine wc_seq ?_
        cases t33 with
        | true =>
          try have c_t33 := dt h33
          first
          | (exfalso; omega)
          | (
            refine wc_then rfl ?_
            refine wc_skip ?_
            refine wc_seq ?_
            refine wc_block ?_
            refine wc_seq ?_
            obtain ⟨t, ht⟩ : ∃ t, ax[j]? = some t := ⟨_, List.getElem?_eq_getElem (by omega)⟩
            have hat := hA.at ht
            have hon := hA.one ht
            obtain ⟨htr, htb⟩ := hA.ok t (List.mem_of_getElem? ht)
            have hc1 : costs (d.acts.take (j + 1)) = costs (d.acts.take j) + t.2.B.length := by
              rw [List.take_add_one, hat]; exact costs_snoc _ _
            have hc2 := costs_take d.acts (j + 1)
            refine wc_region ?_
            refine wl rfl (OP.ev rfl rfl (eIxS ty84 ty92 rfl (hA.row.rs (by repeat (first | exact At.cell | exact At.h | apply At.t | apply At.a))) rfl (by omega) (by omega)) ?_)
            refine wl rfl (OP.ev rfl rfl (eLdSA (vs := (aC t.2 t.1).toList) ty92 rfl rfl (hA.row.rs (by repeat (first | exact At.cell | exact At.h | apply At.t | apply At.a))) (j * 5) (by omega) rfl (aV_at ht) (by decide)) ?_)
            refine wl rfl (oAl rfl ty92 rfl fun b7 => ?_)
            refine wl rfl (oStW ty92 rfl rfl rfl (aC_one hon) (by repeat (first | exact Upd.h | apply Upd.t | apply Upd.app)) (by rfl) ?_)
            refine wl_nil ?_
            refine wc_region ?_
            refine wl rfl (OP.ev rfl rfl (eMv rfl) ?_)
            refine wl rfl (OP.ev rfl rfl (eFld 4 ty92 rfl rfl ty30 rfl) ?_)
            first | refine wl rfl (OP.ev rfl rfl (eLd ty30 rfl rfl (by repeat (first | exact Has.h | apply Has.t | apply Has.app)) (by rfl)) ?_) | refine wl rfl (OP.ev rfl rfl (eLdO ty30 rfl rfl (by assumption)) ?_)
            refine wl rfl (OP.ev rfl rfl (eLenR ty30 rfl (htr.sel (by repeat (first | exact Sel.all | exact Sel.none | exact Sel.hd | (apply Sel.one; · repeat (first | exact Pick.h | apply Pick.t | apply Pick.app)) | apply Sel.app | (with_reducible apply Sel.grp; · repeat (first | exact PickF.h | apply PickF.t | apply PickF.a)) | (with_reducible refine Sel.nilF (by with_unfolding_all rfl) ?_) | apply Sel.drop | apply Sel.dropF)))) ?_)
            first | refine wl rfl (OP.ev rfl rfl (eAdd rfl rfl (by omega)) ?_) | refine wl rfl (OP.ev rfl rfl (eAddW rfl rfl) ?_)
            refine wl rfl (OP.ev rfl rfl (eAs rfl) ?_)
            refine wl_nil ?_
            refine wc_region ?_
            first | refine wl rfl (OP.ev rfl rfl (eAdd rfl rfl (by omega)) ?_) | refine wl rfl (OP.ev rfl rfl (eAddW rfl rfl) ?_)
            refine wl rfl (OP.ev rfl rfl (eMv rfl) ?_)
            refine wl_nil ?_
            exact ⟨j + 1, by omega, by omega, ⟨rfl, by show some (i64 _) = some (i64 _); congr 2; omega, rfl, rfl, rfl, trivial⟩, (by repeat (first | exact Sel.all | exact Sel.none | exact Sel.hd | (apply Sel.one; · repeat (first | exact Pick.h | apply Pick.t | apply Pick.app)) | apply Sel.app | (with_reducible apply Sel.grp; · repeat (first | exact PickF.h | apply PickF.t | apply PickF.a)) | (with_reducible refine Sel.nilF (by with_unfolding_all rfl) ?_) | apply Sel.drop | apply Sel.dropF))⟩)
        | false =>
          try have c_t33 := df h33
          first
          | (exfalso; omega)
          | (
            refine wc_else rfl ?_
            refine wc_exit rfl ?_
            refine wc_seq ?_
            refine wc_region ?_
            refine wl rfl (OP.ev rfl rfl (eMv rfl) ?_)
            refine wl rfl (OP.ev rfl rfl (eAs rfl) ?_)
            refine wl_nil ?_
            refine wc_ret ?_
            apply at_ret rfl
            · exact (.cons (.tmp rfl) .nil)
            · exact ⟨by show i64 _ = i64 d.used; rw [List.take_of_length_le (by omega), hu], rfl⟩
            · exact (by repeat (first | exact Sel.all | exact Sel.none | exact Sel.hd | (apply Sel.one; · repeat (first | exact Pick.h | apply Pick.t | apply Pick.app)) | apply Sel.app | (with_reducible apply Sel.grp; · repeat (first | exact PickF.h | apply PickF.t | apply PickF.a)) | (with_reducible refine Sel.nilF (by with_unfolding_all rfl) ?_) | apply Sel.drop | apply Sel.dropF))))
  · skip
    refine fn_of Try.func62 rfl Try.ntmps62 rfl rfl ?_
    refine wc_seq ?_
    refine wc_region ?_
    refine wl rfl (OP.ev rfl rfl (eAs rfl) ?_)
    refine wl_nil ?_
    refine wc_seq ?_
    refine wc_region ?_
    refine wl rfl (OP.ev rfl rfl (eAs rfl) ?_)
    refine wl_nil ?_
    refine wc_seq ?_
    refine wc_seq ?_
    refine wc_region ?_
    refine wl rfl (OP.ev rfl rfl (eMv rfl) ?_)
    refine wl rfl (OP.ev rfl rfl (eNil rfl) ?_)
    refine wl rfl (OP.ev rfl rfl (eFld 3 ty86 rfl rfl ty4 rfl) ?_)
    refine wl rfl (OP.ev rfl rfl (eLd (v := .bool true) ty4 rfl rfl (by repeat (first | exact Has.h | apply Has.t | apply Has.app)) (by show some (Value.bool d.off) = _; rw [ho])) ?_)
    refine wl_nil ?_
    refine wc_then rfl ?_
    refine wc_seq ?_
    refine wc_region ?_
    refine wl rfl (OP.ev rfl rfl (eAs rfl) ?_)
    refine wl_nil ?_
    refine wc_ret ?_
    apply at_ret rfl
    · exact (.cons (.tmp rfl) .nil)
    · exact ⟨by unfold DK.used; rw [ho]; rfl, rfl⟩
    · exact (by repeat (first | exact Sel.all | exact Sel.none | exact Sel.hd | (apply Sel.one; · repeat (first | exact Pick.h | apply Pick.t | apply Pick.app)) | apply Sel.app | (with_reducible apply Sel.grp; · repeat (first | exact PickF.h | apply PickF.t | apply PickF.a)) | (with_reducible refine Sel.nilF (by with_unfolding_all rfl) ?_) | apply Sel.drop | apply Sel.dropF))

theorem rlist_ok (b : Nat) (d : DK) (hd : DOk d) (Lv av : Value) (acs : Array Value) (ax : List AT) (kp tr : Int) (hF : FilesV W0 I Lv d.last) (hA : RActs W0 I av acs ax d.acts) (hn : d.acts.length ≤ 1000000) (R : Heap) :
    FnC W0 Try.prog 64 #[ptr b] (rkC b d Lv av kp tr :: (ownH av acs 92 ++ (I ++ R))) (fun w L' => ∃ cs I', Sel I' I ∧ Row w cs 1 d.names.length (d.names.map strK) ∧ L' = ownH w cs 9 ++ (rkC b d Lv av kp tr :: (ownH av acs 92 ++ (I' ++ R)))) := by
  have hsn := hd.snum
  rcases ho : d.off with _ | _
  · skip
    refine fn_of Try.func64 rfl Try.ntmps64 rfl rfl ?_
    refine wc_seq ?_
    refine wc_region ?_
    refine wl rfl (OP.ev rfl rfl (eAs rfl) ?_)
    refine wl_nil ?_
    refine wc_seq ?_
    refine wc_region ?_
    refine wl rfl (OP.ev rfl rfl (eAs rfl) ?_)
    refine wl_nil ?_
    refine wc_seq ?_
    refine wc_seq ?_
    refine wc_region ?_
    refine wl rfl (OP.ev rfl rfl (eMv rfl) ?_)
    refine wl rfl (OP.ev rfl rfl (eNil rfl) ?_)
    refine wl rfl (OP.ev rfl rfl (eFld 3 ty86 rfl rfl ty4 rfl) ?_)
    refine wl rfl (OP.ev rfl rfl (eLd (v := .bool false) ty4 rfl rfl (by repeat (first | exact Has.h | apply Has.t | apply Has.app)) (by show some (Value.bool d.off) = _; rw [ho])) ?_)
    refine wl_nil ?_
    refine wc_else rfl ?_
    refine wc_skip ?_
    refine wc_seq ?_
    refine wc_seq ?_
    refine wc_region ?_
    refine wl rfl (OP.ev rfl rfl (eMv rfl) ?_)
    refine wl rfl (oC rfl pf57 rfl (files_ok b d hd Lv av acs ax kp tr hF hA hn _) (by repeat (first | exact Sel.all | exact Sel.none | exact Sel.hd | (apply Sel.one; · repeat (first | exact Pick.h | apply Pick.t | apply Pick.app)) | apply Sel.app | (with_reducible apply Sel.grp; · repeat (first | exact PickF.h | apply PickF.t | apply PickF.a)) | (with_reducible refine Sel.nilF (by with_unfolding_all rfl) ?_) | apply Sel.drop | apply Sel.dropF)) ?_)
    rintro v12 _ ⟨I2, hI2, ⟨xs, hr, hxl, hxo⟩, rfl⟩
    refine wl rfl (OP.ev rfl rfl (eLenR ty83 rfl (hr.sel (by repeat (first | exact Sel.all | exact Sel.none | exact Sel.hd | (apply Sel.one; · repeat (first | exact Pick.h | apply Pick.t | apply Pick.app)) | apply Sel.app | (with_reducible apply Sel.grp; · repeat (first | exact PickF.h | apply PickF.t | apply PickF.a)) | (with_reducible refine Sel.nilF (by with_unfolding_all rfl) ?_) | apply Sel.drop | apply Sel.dropF)))) ?_)
    refine wl rfl (OP.ev rfl rfl (eMv rfl) ?_)
    refine wl_nil ?_
    skip
    refine wc_block ?_
    have hxn : xs.length = d.seen.length := by rw [← hxl]; simp [fL]
    refine wc_loop (σ := Nat × Value × Array Value) (fun q => [(3, q.2.1), (12, v12), (13, i64 (xs.length : Int)), (14, i64 (q.1 : Int))]) (fun q => ownH q.2.1 q.2.2 9 ++ (rkC b d Lv av kp tr :: (ownH av acs 92 ++ (I2 ++ R)))) (fun q => q.1 ≤ xs.length ∧ Row q.2.1 q.2.2 1 q.1 (((d.seen.take q.1).map (·.1)).map strK)) (fun q => xs.length - q.1) (0, .slice none 0 0, #[]) ⟨Nat.zero_le _, Row.nil _ _⟩ ⟨rfl, rfl, rfl, rfl, trivial⟩ (by repeat (first | exact Sel.all | exact Sel.none | exact Sel.hd | (apply Sel.one; · repeat (first | exact Pick.h | apply Pick.t | apply Pick.app)) | apply Sel.app | (with_reducible apply Sel.grp; · repeat (first | exact PickF.h | apply PickF.t | apply PickF.a)) | (with_reducible refine Sel.nilF (by with_unfolding_all rfl) ?_) | apply Sel.drop | apply Sel.dropF)) ?_
    rintro ⟨i, w, cs⟩ ⟨hi, hrow⟩
    dsimp only at hi hrow ⊢
    refine wc_seq ?_
    refine wc_region ?_
    refine wl rfl (OP.evb rfl rfl (eLt rfl rfl) fun t15 h15 => ?_)
    refine wl_nil ?_
    refine wc_seq ?_
    cases t15 with
    | true =>
      try have c_t15 := dt h15
      first
      | (exfalso; omega)
      | (
        refine wc_then rfl ?_
        refine wc_skip ?_
        refine wc_seq ?_
        refine wc_block ?_
        refine wc_seq ?_
        obtain ⟨t, ht⟩ : ∃ t, xs[i]? = some t := ⟨_, List.getElem?_eq_getElem (by omega)⟩
        have htl := fL_at ht
        rw [hxl] at htl
        obtain ⟨htr, htb⟩ := hxo t (List.mem_of_getElem? ht)
        obtain ⟨ad, kk, cc, hts⟩ := htr.isSlice
        have hon : t.2.1.oneCell' = true := by rw [hts]; rfl
        refine wc_region ?_
        refine wl rfl (OP.ev rfl rfl (eIxS ty83 ty97 rfl (hr.sel (by repeat (first | exact Sel.all | exact Sel.none | exact Sel.hd | (apply Sel.one; · repeat (first | exact Pick.h | apply Pick.t | apply Pick.app)) | apply Sel.app | (with_reducible apply Sel.grp; · repeat (first | exact PickF.h | apply PickF.t | apply PickF.a)) | (with_reducible refine Sel.nilF (by with_unfolding_all rfl) ?_) | apply Sel.drop | apply Sel.dropF))) rfl (by omega) (by omega)) ?_)
        refine wl rfl (OP.ev rfl rfl (eLdSA (vs := [strK t.1, t.2.1]) ty97 rfl rfl (hr.sel (by repeat (first | exact Sel.all | exact Sel.none | exact Sel.hd | (apply Sel.one; · repeat (first | exact Pick.h | apply Pick.t | apply Pick.app)) | apply Sel.app | (with_reducible apply Sel.grp; · repeat (first | exact PickF.h | apply PickF.t | apply PickF.a)) | (with_reducible refine Sel.nilF (by with_unfolding_all rfl) ?_) | apply Sel.drop | apply Sel.dropF))) (i * 2) (by omega) rfl (fV_at ht) (by decide)) ?_)
        refine wl rfl (oAl rfl ty97 rfl fun b5 => ?_)
        refine wl rfl (oStW ty97 rfl rfl rfl (all2 rfl hon) (by repeat (first | exact Upd.h | apply Upd.t | apply Upd.app)) (by rfl) ?_)
        refine wl_nil ?_
        refine wc_region ?_
        refine wl rfl (OP.ev rfl rfl (eMv rfl) ?_)
        refine wl rfl (OP.ev rfl rfl (eFld 0 ty97 rfl rfl ty9 rfl) ?_)
        first | refine wl rfl (OP.ev rfl rfl (eLd ty9 rfl rfl (by repeat (first | exact Has.h | apply Has.t | apply Has.app)) (by rfl)) ?_) | refine wl rfl (OP.ev rfl rfl (eLdO ty9 rfl rfl (by assumption)) ?_)
        refine wl rfl (oBSw (vs := [_]) rfl ty33 ty9 rfl rfl rfl rfl rfl rfl fun b21 => ?_)
        refine wl rfl (oApp (m := 1) (news := [strK t.1]) rfl ty33 ty9 rfl rfl rfl hrow (by repeat (first | exact At.cell | exact At.h | apply At.t | apply At.a)) (Rs.mk (Rc.of_has (by repeat (first | exact Has.h | apply Has.t | apply Has.app)) rfl) rfl (Nat.le_refl _)) rfl (by omega) (by omega) ?_)
        rintro v22 cs22 hrow22 _
        replace hrow22 : Row v22 cs22 1 (i + 1) (((d.seen.take (i + 1)).map (·.1)).map strK) := by rw [List.take_add_one, htl, List.map_append, List.map_append]; exact hrow22
        refine wl rfl (OP.ev rfl rfl (eAs rfl) ?_)
        refine wl_nil ?_
        refine wc_region ?_
        first | refine wl rfl (OP.ev rfl rfl (eAdd rfl rfl (by omega)) ?_) | refine wl rfl (OP.ev rfl rfl (eAddW rfl rfl) ?_)
        refine wl rfl (OP.ev rfl rfl (eMv rfl) ?_)
        refine wl_nil ?_
        exact ⟨(i + 1, v22, cs22), ⟨by show i + 1 ≤ _; omega, hrow22⟩, by show _ - (i + 1) < _; omega, ⟨rfl, rfl, rfl, rfl, trivial⟩, (by repeat (first | exact Sel.all | exact Sel.none | exact Sel.hd | (apply Sel.one; · repeat (first | exact Pick.h | apply Pick.t | apply Pick.app)) | apply Sel.app | (with_reducible apply Sel.grp; · repeat (first | exact PickF.h | apply PickF.t | apply PickF.a)) | (with_reducible refine Sel.nilF (by with_unfolding_all rfl) ?_) | apply Sel.drop | apply Sel.dropF))⟩)
    | false =>
      try have c_t15 := df h15
      first
      | (exfalso; omega)
      | (
        refine wc_else rfl ?_
        refine wc_exit rfl ?_
        refine wc_seq ?_
        refine wc_region ?_
        refine wl rfl (OP.ev rfl rfl (eMv rfl) ?_)
        refine wl rfl (OP.ev rfl rfl (eAs rfl) ?_)
        refine wl_nil ?_
        refine wc_ret ?_
        apply at_ret rfl
        · exact (.cons (.tmp rfl) .nil)
        · exact ⟨cs, I2, hI2, by rw [names_len ho, names_on ho]; rw [List.take_of_length_le (by omega)] at hrow; rw [show d.seen.length = i by omega]; exact hrow, rfl⟩
        · exact (by repeat (first | exact Sel.all | exact Sel.none | exact Sel.hd | (apply Sel.one; · repeat (first | exact Pick.h | apply Pick.t | apply Pick.app)) | apply Sel.app | (with_reducible apply Sel.grp; · repeat (first | exact PickF.h | apply PickF.t | apply PickF.a)) | (with_reducible refine Sel.nilF (by with_unfolding_all rfl) ?_) | apply Sel.drop | apply Sel.dropF)))
  · skip
    refine fn_of Try.func64 rfl Try.ntmps64 rfl rfl ?_
    refine wc_seq ?_
    refine wc_region ?_
    refine wl rfl (OP.ev rfl rfl (eAs rfl) ?_)
    refine wl_nil ?_
    refine wc_seq ?_
    refine wc_region ?_
    refine wl rfl (OP.ev rfl rfl (eAs rfl) ?_)
    refine wl_nil ?_
    refine wc_seq ?_
    refine wc_seq ?_
    refine wc_region ?_
    refine wl rfl (OP.ev rfl rfl (eMv rfl) ?_)
    refine wl rfl (OP.ev rfl rfl (eNil rfl) ?_)
    refine wl rfl (OP.ev rfl rfl (eFld 3 ty86 rfl rfl ty4 rfl) ?_)
    refine wl rfl (OP.ev rfl rfl (eLd (v := .bool true) ty4 rfl rfl (by repeat (first | exact Has.h | apply Has.t | apply Has.app)) (by show some (Value.bool d.off) = _; rw [ho])) ?_)
    refine wl_nil ?_
    refine wc_then rfl ?_
    refine wc_seq ?_
    refine wc_region ?_
    refine wl rfl (OP.ev rfl rfl (eMv rfl) ?_)
    refine wl rfl (OP.ev rfl rfl (eAs rfl) ?_)
    refine wl_nil ?_
    refine wc_ret ?_
    apply at_ret rfl
    · exact (.cons (.tmp rfl) .nil)
    · exact ⟨#[], I, Sel.all, by unfold DK.names; rw [ho]; exact Row.nil _ _, rfl⟩
    · exact (by repeat (first | exact Sel.all | exact Sel.none | exact Sel.hd | (apply Sel.one; · repeat (first | exact Pick.h | apply Pick.t | apply Pick.app)) | apply Sel.app | (with_reducible apply Sel.grp; · repeat (first | exact PickF.h | apply PickF.t | apply PickF.a)) | (with_reducible refine Sel.nilF (by with_unfolding_all rfl) ?_) | apply Sel.drop | apply Sel.dropF))
end Go.Proofs.Ytahjgjmemijofaa
