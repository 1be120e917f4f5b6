/- The walk of DiskRoom. -/
import Derived.Test.YtahjgjmemijofaaLw6
namespace Go.Proofs.Ytahjgjmemijofaa
open Go Eng
set_option linter.unusedVariables false
set_option linter.unusedSimpArgs false
set_option maxRecDepth 4000
variable {W0 : World} {I I' : Heap}

theorem act_code (d : DK) (a : Act) : (d.act a).1 = 0 ∨ (d.act a).1 = 22 := by
  unfold DK.act
  split
  · exact .inr rfl
  · exact .inl rfl
theorem find_code (d : DK) (k : Nm) : d.find k = 0 ∨ d.find k = 20 ∨ d.find k = 21 ∨ d.find k = 22 := by
  unfold DK.find
  repeat' split
  all_goals simp
theorem does_errP (d : DK) (c : Do) : (d.does c).1 = 0 ∨ (d.does c).1 = 22 ∨ (d.does c).2 = d := by
  have ha : ∀ a, (d.act a).1 = 0 ∨ (d.act a).1 = 22 ∨ (d.act a).2 = d := fun a => (act_code d a).elim .inl fun h => .inr (.inl h)
  unfold DK.does
  split
  · unfold DK.trim
    repeat' split
    all_goals first | exact .inr (.inr rfl) | exact ha _
  · split
    · unfold DK.move
      repeat' split
      all_goals first | exact .inr (.inr rfl) | exact ha _
    · split
      · unfold DK.drop
        repeat' split
        all_goals first | exact .inr (.inr rfl) | exact ha _
      · split
        · unfold DK.sync
          repeat' split
          all_goals first | exact .inr (.inr rfl) | exact .inl rfl | exact .inr (.inl rfl)
        · split
          · unfold DK.arm
            repeat' split
            all_goals first | exact .inr (.inr rfl) | exact .inl rfl
          · split
            · unfold DK.crash
              repeat' split
              all_goals first | exact .inr (.inr rfl) | exact .inl rfl
            · split
              · exact .inl rfl
              · unfold DK.write DK.writeA
                repeat' split
                all_goals first | exact .inr (.inr rfl) | exact ha _
theorem does_err (d : DK) (c : Do) (h0 : (d.does c).1 ≠ 0) (h1 : (d.does c).1 ≠ 22) : (d.does c).2 = d := by
  rcases does_errP d c with h | h | h
  · exact absurd h h0
  · exact absurd h h1
  · exact h
theorem does_full {d : DK} (hd : DOk d) (c : Do) (h : (d.does c).1 = 7) : 4096 ≤ (d.names.length : Int) ∨ d.used + (c.B.length : Int) > d.room := by
  have ha := act_code d
  have hf := find_code d c.name
  have hwa : ∀ n, (d.writeA c.name n c.B).1 = 7 → d.used + (c.B.length : Int) > d.room := by
    intro n
    unfold DK.writeA
    split
    · intro _; omega
    · intro h2; rcases ha ⟨0, c.name, [], n, c.B⟩ with h3 | h3 <;> omega
  revert h
  unfold DK.does
  split
  · intro h; exfalso; revert h
    unfold DK.trim
    repeat' split
    · intro h; simp only at h; omega
    · intro h; simp at h
    · intro h; rcases ha ⟨1, c.name, [], c.at_, []⟩ with h3 | h3 <;> omega
  · split
    · intro h; exfalso; revert h
      unfold DK.move
      repeat' split
      · intro h; simp only at h; omega
      · intro h; simp at h
      · intro h; rcases ha ⟨2, c.name, c.to_, 0, []⟩ with h3 | h3 <;> omega
    · split
      · intro h; exfalso; revert h
        unfold DK.drop
        repeat' split
        · intro h; simp only at h; omega
        · intro h; rcases ha ⟨3, c.name, [], 0, []⟩ with h3 | h3 <;> omega
      · split
        · intro h; exfalso; revert h
          unfold DK.sync
          repeat' split
          all_goals simp
        · split
          · intro h; exfalso; revert h
            unfold DK.arm
            repeat' split
            all_goals simp
          · split
            · intro h; exfalso; revert h
              unfold DK.crash
              repeat' split
              all_goals simp
            · split
              · intro h; exfalso; revert h
                unfold DK.start; simp
              · intro h
                revert h
                unfold DK.write
                split
                · rename_i h21
                  split
                  · rename_i h4
                    intro _
                    refine .inl ?_
                    rw [names_len (find_21 h21.1).1]
                    omega
                  · intro h; exact .inr (hwa _ h)
                · split
                  · intro h; simp only at h; omega
                  · split
                    · intro h; simp at h
                    · intro h; exact .inr (hwa _ h)
theorem sumB_mem {l : List Do} {c : Do} (h : c ∈ l) : min c.B.length 32769 ≤ sumB l := by
  induction l with
  | nil => simp at h
  | cons x r ih =>
    simp only [sumB, List.map_cons, List.sum_cons] at ih ⊢
    rcases List.mem_cons.1 h with rfl | h
    · omega
    · have := ih h; omega
theorem short_mem {l : List Do} (h : short l = true) {c : Do} (hc : c ∈ l) : c.B.length ≤ 32768 := by
  unfold short at h
  simp at h
  have := sumB_mem hc
  omega
theorem used_le {d : DK} (h : DOk d) : 0 ≤ d.used ∧ d.used ≤ d.room := by
  have h1 := h.use
  have h2 := h.room
  unfold DK.used
  split <;> omega
theorem end_law {d : DK} (hc : Calm d) (k t : Int) : (d.crash k t).2.start.2.off = false ∧ (d.crash k t).2.start.2.used = ((total (d.crash k t).2.start.2.seen : Nat) : Int) ∧ (d.crash k t).2.start.2.room = d.room := by
  have hcr : d.crash k t = (0, d.fall k t) := by unfold DK.crash; rw [if_neg (by simp [hc.1])]
  rw [hcr]
  refine ⟨rfl, ?_, rfl⟩
  show ((total (d.fell k t) + costs [] : Nat) : Int) = ((total (d.fell k t) : Nat) : Int)
  simp [costs]
theorem total_take {l : Files} {i : Nat} {e : Nm × List Int} (h : l[i]? = some e) : total (l.take (i + 1)) = total (l.take i) + e.2.length := by
  rw [List.take_add_one, h]
  simp [total]
theorem total_take_le (l : Files) (i : Nat) : total (l.take i) ≤ total l := by
  induction l generalizing i with
  | nil => simp
  | cons e r ih =>
    cases i with
    | zero => simp [total]
    | succ i =>
      have := ih i
      rw [List.take_succ_cons, total_cons, total_cons]
      omega
theorem hrL {l : List Do} (hr : ∀ c ∈ l, ∀ X, DoR W0 X c) (X : Heap) : ∀ c ∈ l, DoR W0 X c := fun c hc => hr c hc X
theorem room_ok (room : Int) (v1 : Value) (l : List Do) (hv : ∀ L, Rs W0 L v1 8 l.length (dos l)) (hr : ∀ c ∈ l, ∀ X, DoR W0 X c) (hl : l.length ≤ 9223372036854775807) :
    FnC W0 Try.prog 11 #[i64 room, v1] [] (fun v' L' => v' = .bool true ∧ L' = []) := by
  have hrr := rm_range room (m := 3000) (by decide) (by decide)
  have hrr' : IntKind.i64.wrap ((IntKind.u64.wrap room).tmod 3000) = rm room 3000 := rfl
  refine fn_of Try.func11 rfl Try.ntmps11 rfl rfl ?_
  refine wc_seq ?_
  refine wc_region ?_
  refine wl rfl (OP.ev rfl rfl (eAs rfl) ?_)
  refine wl_nil ?_
  refine wc_seq ?_
  refine wc_seq ?_
  refine wc_region ?_
  refine wl rfl (OP.ev rfl rfl (eMv rfl) ?_)
  refine wl rfl (oCA rfl pf20 rfl (short_ok v1 l _ (hv _) (hrL hr _) hl) ?_)
  rintro _ _ ⟨rfl, rfl⟩
  refine wl rfl (OP.evb rfl rfl (eNot rfl) fun t18 h18 => ?_)
  refine wl_nil ?_
  cases t18 with
  | true =>
    try have c_t18 := dt h18
    first
    | (exfalso; omega)
    | (
      refine wc_then rfl ?_
      refine wc_seq ?_
      refine wc_region ?_
      refine wl rfl (oC rfl pf13 rfl (awake_ok _) (by repeat (first | exact Sel.all | exact Sel.none | exact Sel.hd | (apply Sel.one; · repeat (first | exact Pick.h | apply Pick.t | apply Pick.app)) | apply Sel.app | (with_reducible apply Sel.grp; · repeat (first | exact PickF.h | apply PickF.t | apply PickF.a)) | (with_reducible refine Sel.nilF (by with_unfolding_all rfl) ?_) | apply Sel.drop | apply Sel.dropF)) ?_)
      rintro _ _ ⟨rfl, rfl⟩
      refine wl rfl (OP.ev rfl rfl (eAs rfl) ?_)
      refine wl_nil ?_
      refine wc_ret ?_
      apply at_ret rfl
      · exact (.cons (.tmp rfl) .nil)
      · exact ⟨rfl, rfl⟩
      · exact (by repeat (first | exact Sel.all | exact Sel.none | exact Sel.hd | (apply Sel.one; · repeat (first | exact Pick.h | apply Pick.t | apply Pick.app)) | apply Sel.app | (with_reducible apply Sel.grp; · repeat (first | exact PickF.h | apply PickF.t | apply PickF.a)) | (with_reducible refine Sel.nilF (by with_unfolding_all rfl) ?_) | apply Sel.drop | apply Sel.dropF)))
  | false =>
    try have c_t18 := df h18
    first
    | (exfalso; omega)
    | (
      refine wc_else rfl ?_
      refine wc_skip ?_
      refine wc_seq ?_
      refine wc_region ?_
      refine wl rfl (OP.ev rfl rfl (eMv rfl) ?_)
      refine wl rfl (OP.ev rfl rfl (eCv ty3 ty44 rfl) ?_)
      refine wl rfl (OP.ev rfl rfl (eRem rfl rfl rfl) ?_)
      refine wl rfl (OP.ev rfl rfl (eCv ty44 ty3 rfl) ?_)
      refine wl rfl (OP.ev rfl rfl (eAs rfl) ?_)
      refine wl_nil ?_
      rw [hrr']
      generalize rm room 3000 = r at hrr
      have hs : short l = true := by simpa using h18
      have hsl := short_len hs
      refine wc_seq ?_
      refine wc_region ?_
      refine wl rfl (OP.ev rfl rfl (eMv rfl) ?_)
      refine wl rfl (oCA rfl pf26 rfl (new_ok r _ ⟨by omega, by omega⟩) ?_)
      rintro v15 _ (⟨h9, _⟩ | ⟨_, b, ms, ml, rfl, rfl⟩)
      · exfalso; omega
      refine wl rfl (OP.ev rfl rfl (eMv rfl) ?_)
      refine wl rfl (OP.ev rfl rfl (eExt rfl rfl) ?_)
      refine wl rfl (OP.ev rfl rfl (eExt rfl rfl) ?_)
      refine wl rfl (OP.ev rfl rfl (eAs rfl) ?_)
      refine wl rfl (OP.ev rfl rfl (eAs rfl) ?_)
      refine wl_nil ?_
      refine wc_seq ?_
      refine wc_seq ?_
      refine wc_region ?_
      refine wl rfl (OP.ev rfl rfl (eMv rfl) ?_)
      refine wl rfl (OP.evb rfl rfl (eNe rfl rfl) fun t30 h30 => ?_)
      refine wl_nil ?_
      cases t30 with
      | true =>
        try have c_t30 := dt h30
        first
        | (exfalso; omega)
        | (
          refine wc_then rfl ?_
          refine wc_seq ?_
          refine wc_region ?_
          refine wl rfl (OP.ev rfl rfl (eAs rfl) ?_)
          refine wl_nil ?_
          refine wc_ret ?_
          apply at_ret rfl
          · exact (.cons (.tmp rfl) .nil)
          · exact ⟨rfl, rfl⟩
          · exact (by repeat (first | exact Sel.all | exact Sel.none | exact Sel.hd | (apply Sel.one; · repeat (first | exact Pick.h | apply Pick.t | apply Pick.app)) | apply Sel.app | (with_reducible apply Sel.grp; · repeat (first | exact PickF.h | apply PickF.t | apply PickF.a)) | (with_reducible refine Sel.nilF (by with_unfolding_all rfl) ?_) | apply Sel.drop | apply Sel.dropF)))
      | false =>
        try have c_t30 := df h30
        first
        | (exfalso; omega)
        | (
          refine wc_else rfl ?_
          refine wc_skip ?_
          refine wc_seq ?_
          refine wc_seq ?_
          refine wc_region ?_
          refine wl rfl (OP.ev rfl rfl (eMv rfl) ?_)
          refine wl rfl (OP.ev rfl rfl (eLenR ty22 rfl (hv _)) ?_)
          refine wl rfl (OP.ev rfl rfl (eMv rfl) ?_)
          refine wl_nil ?_
          refine wc_block ?_
          refine wc_loop (σ := Nat × DK × Heap × Heap) (fun q => [(0, i64 r), (5, ptr b), (31, v1), (32, i64 (l.length : Int)), (33, i64 (q.1 : Int))]) (fun q => q.2.2.1 ++ (q.2.2.2 ++ [])) (fun q => q.1 ≤ l.length ∧ DOk q.2.1 ∧ MN q.2.1 ∧ DiskR W0 q.2.2.2 q.2.1 b q.2.2.1 ∧ q.2.1.acts.length ≤ q.1 ∧ q.2.1.room = r) (fun q => l.length - q.1) (0, DK.new r, [dkC b (DK.new r) ms ml (.slice none 0 0), tC ms [] 0, tC ml [] 0], ([] : Heap)) ⟨Nat.zero_le _, DOk.new (by omega) (by omega), MN.new r, ⟨ms, ml, [], 0, [], 0, _, #[], [], rfl, Tab.nil 0, Tab.nil 0, ActsR.nil⟩, Nat.le_refl _, rfl⟩ ⟨rfl, rfl, rfl, rfl, rfl, trivial⟩ Sel.all ?_
          rintro ⟨i, d, D, I⟩ ⟨hi, hd, hmn, hD, hda, hrm⟩
          dsimp only at hi hd hmn hD hda hrm ⊢
          refine wc_seq ?_
          refine wc_region ?_
          refine wl rfl (OP.evb rfl rfl (eLt rfl rfl) fun t34 h34 => ?_)
          refine wl_nil ?_
          refine wc_seq ?_
          cases t34 with
          | true =>
            try have c_t34 := dt h34
            first
            | (exfalso; omega)
            | (
              refine wc_then rfl ?_
              refine wc_skip ?_
              refine wc_seq ?_
              refine wc_block ?_
              refine wc_seq ?_
              obtain ⟨k, hk⟩ : ∃ k, l[i]? = some k := ⟨_, List.getElem?_eq_getElem (by omega)⟩
              have hkr := hr k (List.mem_of_getElem? hk)
              have hda6 := (does_acts d k).1
              have hrm6 := (does_acts d k).2
              have hd6 := hd.does (hkr [])
              have hkl := short_mem hs (List.mem_of_getElem? hk)
              have hu := used_le hd
              have hu6 := used_le hd6
              have hful := does_full hd k
              have hnl := names_le hd
              refine wc_region ?_
              refine wl rfl (OP.ev rfl rfl (eIxS ty22 ty39 rfl (hv _) rfl (by omega) (by omega)) ?_)
              refine wl rfl (OP.ev rfl rfl (eLdSA (vs := (cC k).toList) ty39 rfl rfl (hv _) (i * 8) (by omega) rfl (dos_at hk) (by decide)) ?_)
              refine wl rfl (oAl rfl ty39 rfl fun b8 => ?_)
              refine wl rfl (oStW ty39 rfl rfl rfl (cC_one (hkr [])) (by repeat (first | exact Upd.h | apply Upd.t | apply Upd.app)) (by rfl) ?_)
              refine wl_nil ?_
              refine wc_seq ?_
              refine wc_region ?_
              refine wl rfl (OP.ev rfl rfl (eMv rfl) ?_)
              refine wl rfl (oC rfl pf22 rfl (clone_ok b d hd D _ hD (by omega)) (by repeat (first | exact Sel.all | exact Sel.none | exact Sel.hd | (apply Sel.one; · repeat (first | exact Pick.h | apply Pick.t | apply Pick.app)) | apply Sel.app | (with_reducible apply Sel.grp; · repeat (first | exact PickF.h | apply PickF.t | apply PickF.a)) | (with_reducible refine Sel.nilF (by with_unfolding_all rfl) ?_) | apply Sel.drop | apply Sel.dropF)) ?_)
              rintro v34 _ ⟨bc, Dc, I4, rfl, hI4, hDc, rfl⟩
              refine wl rfl (OP.ev rfl rfl (eAs rfl) ?_)
              refine wl_nil ?_
              refine wc_seq ?_
              refine wc_region ?_
              refine wl rfl (OP.ev rfl rfl (eMv rfl) ?_)
              first | refine wl rfl (OP.ev rfl rfl (eLdW ty39 rfl rfl (by repeat (first | exact Has.h | apply Has.t | apply Has.app)) (by rfl)) ?_) | refine wl rfl (OP.ev rfl rfl (eLdA (vs := [_, _, _, _, _, _, _, _]) ty39 rfl rfl (by repeat (first | exact Has.h | apply Has.t | apply Has.app)) (by rfl) (by rfl)) ?_) | refine wl rfl (OP.ev rfl rfl (eLdAO ty39 rfl rfl (by assumption) (by assumption)) ?_)
              refine wl rfl (oC rfl pf23 rfl (does_ok b d hd k D _ (hD.sel hI4) (hkr _) (by omega)) (by repeat (first | exact Sel.all | exact Sel.none | exact Sel.hd | (apply Sel.one; · repeat (first | exact Pick.h | apply Pick.t | apply Pick.app)) | apply Sel.app | (with_reducible apply Sel.grp; · repeat (first | exact PickF.h | apply PickF.t | apply PickF.a)) | (with_reducible refine Sel.nilF (by with_unfolding_all rfl) ?_) | apply Sel.drop | apply Sel.dropF)) ?_)
              rintro _ _ ⟨rfl, D5, I5, hI5, hD5, rfl⟩
              refine wl rfl (OP.ev rfl rfl (eAs rfl) ?_)
              refine wl_nil ?_
              replace hDc := hDc.sel hI5
              refine wc_seq ?_
              refine wc_seq ?_
              refine wc_region ?_
              refine wl rfl (OP.ev rfl rfl (eMv rfl) ?_)
              refine wl rfl (oC rfl pf25 rfl (used_ok b _ hd6 D5 _ hD5 (by omega)) (by repeat (first | exact Sel.all | exact Sel.none | exact Sel.hd | (apply Sel.one; · repeat (first | exact Pick.h | apply Pick.t | apply Pick.app)) | apply Sel.app | (with_reducible apply Sel.grp; · repeat (first | exact PickF.h | apply PickF.t | apply PickF.a)) | (with_reducible refine Sel.nilF (by with_unfolding_all rfl) ?_) | apply Sel.drop | apply Sel.dropF)) ?_)
              rintro _ _ ⟨rfl, rfl⟩
              refine wl rfl (OP.ev rfl rfl (eMv rfl) ?_)
              refine wl rfl (OP.evb rfl rfl (eGt rfl rfl) fun t45 h45 => ?_)
              refine wl rfl (OP.ev rfl rfl (eMv rfl) ?_)
              cases t45 with
              | true =>
                try have c_t45 := dt h45
                first
                | (exfalso; omega)
                | (
                  refine wl_skip rfl rfl rfl rfl rfl ?_
                  refine wl_skip rfl rfl rfl rfl rfl ?_
                  refine wl_skip rfl rfl rfl rfl rfl ?_
                  refine wl_skipU rfl rfl rfl rfl ?_
                  refine wl_skipU rfl rfl rfl rfl ?_
                  refine wl_skip rfl rfl rfl rfl rfl ?_
                  refine wl_skip rfl rfl rfl rfl rfl ?_
                  refine wl_skipU rfl rfl rfl rfl ?_
                  refine wl_skipU rfl rfl rfl rfl ?_
                  refine wl_skipU rfl rfl rfl rfl ?_
                  refine wl_skipU rfl rfl rfl rfl ?_
                  refine wl_skipU rfl rfl rfl rfl ?_
                  refine wl_skipU rfl rfl rfl rfl ?_
                  refine wl_skipU rfl rfl rfl rfl ?_
                  refine wl_skipU rfl rfl rfl rfl ?_
                  refine wl_skipU rfl rfl rfl rfl ?_
                  refine wl_skipU rfl rfl rfl rfl ?_
                  refine wl_skipU rfl rfl rfl rfl ?_
                  refine wl_skip rfl rfl rfl rfl rfl ?_
                  refine wl rfl (OP.ev rfl rfl (ePk rfl rfl) ?_)
                  refine wl_nil ?_
                  refine wc_then rfl ?_
                  refine wc_seq ?_
                  refine wc_region ?_
                  refine wl rfl (OP.ev rfl rfl (eAs rfl) ?_)
                  refine wl_nil ?_
                  refine wc_ret ?_
                  apply at_ret rfl
                  · exact (.cons (.tmp rfl) .nil)
                  · exact ⟨rfl, rfl⟩
                  · exact (by repeat (first | exact Sel.all | exact Sel.none | exact Sel.hd | (apply Sel.one; · repeat (first | exact Pick.h | apply Pick.t | apply Pick.app)) | apply Sel.app | (with_reducible apply Sel.grp; · repeat (first | exact PickF.h | apply PickF.t | apply PickF.a)) | (with_reducible refine Sel.nilF (by with_unfolding_all rfl) ?_) | apply Sel.drop | apply Sel.dropF)))
              | false =>
                try have c_t45 := df h45
                first
                | (exfalso; omega)
                | (
                  refine wl_go rfl rfl (OP.ev rfl rfl (eMv rfl) ?_)
                  refine wl_go rfl rfl (OP.evb rfl rfl (eNe rfl rfl) fun t48 h48 => ?_)
                  refine wl_go rfl rfl (OP.ev rfl rfl (eMv rfl) ?_)
                  cases t48 with
                  | true =>
                    try have c_t48 := dt h48
                    first
                    | (exfalso; omega)
                    | (
                      refine wl_go rfl rfl (OP.ev rfl rfl (eMv rfl) ?_)
                      refine wl_go rfl rfl (OP.evb rfl rfl (eNe rfl rfl) fun t51 h51 => ?_)
                      refine wl_go rfl rfl (OP.ev rfl rfl (ePk rfl rfl) ?_)
                      refine wl_go rfl rfl (OP.ev rfl rfl (eMv rfl) ?_)
                      cases t51 with
                      | true =>
                        try have c_t51 := dt h51
                        first
                        | (exfalso; omega)
                        | (
                          refine wl_go rfl rfl (OP.ev rfl rfl (eMv rfl) ?_)
                          refine wl_go rfl rfl (OP.ev rfl rfl (eMv rfl) ?_)
                          have hse := does_err d k (by omega) (by omega)
                          have hsb : sameB d (d.does k).2 = true := by rw [hse]; exact sameB_of rfl rfl
                          refine wl_go rfl rfl (oC rfl pf40 rfl (same_ok bc b d _ hd hd6 Dc D5 _ hDc hD5) (by repeat (first | exact Sel.all | exact Sel.none | exact Sel.hd | (apply Sel.one; · repeat (first | exact Pick.h | apply Pick.t | apply Pick.app)) | apply Sel.app | (with_reducible apply Sel.grp; · repeat (first | exact PickF.h | apply PickF.t | apply PickF.a)) | (with_reducible refine Sel.nilF (by with_unfolding_all rfl) ?_) | apply Sel.drop | apply Sel.dropF)) ?_)
                          rintro _ _ ⟨rfl, rfl⟩
                          rw [hsb]
                          refine wl_go rfl rfl (OP.ev rfl rfl (eNot rfl) ?_)
                          refine wl_go rfl rfl (OP.ev rfl rfl (eMv rfl) ?_)
                          refine wl_go rfl rfl (OP.ev rfl rfl (eMv rfl) ?_)
                          refine wl_go rfl rfl (oC rfl pf24 rfl (pend_ok bc d Dc _ hDc) (by repeat (first | exact Sel.all | exact Sel.none | exact Sel.hd | (apply Sel.one; · repeat (first | exact Pick.h | apply Pick.t | apply Pick.app)) | apply Sel.app | (with_reducible apply Sel.grp; · repeat (first | exact PickF.h | apply PickF.t | apply PickF.a)) | (with_reducible refine Sel.nilF (by with_unfolding_all rfl) ?_) | apply Sel.drop | apply Sel.dropF)) ?_)
                          rintro _ _ ⟨rfl, rfl⟩
                          refine wl_go rfl rfl (OP.ev rfl rfl (eMv rfl) ?_)
                          refine wl_go rfl rfl (oC rfl pf24 rfl (pend_ok b _ D5 _ hD5) (by repeat (first | exact Sel.all | exact Sel.none | exact Sel.hd | (apply Sel.one; · repeat (first | exact Pick.h | apply Pick.t | apply Pick.app)) | apply Sel.app | (with_reducible apply Sel.grp; · repeat (first | exact PickF.h | apply PickF.t | apply PickF.a)) | (with_reducible refine Sel.nilF (by with_unfolding_all rfl) ?_) | apply Sel.drop | apply Sel.dropF)) ?_)
                          rintro _ _ ⟨rfl, rfl⟩
                          rw [hse]
                          refine wl_go rfl rfl (OP.evb rfl rfl (eNe rfl rfl) fun t63 h63 => ?_)
                          refine wl_go rfl rfl (OP.ev rfl rfl (ePk rfl rfl) ?_)
                          refine wl_go rfl rfl (OP.ev rfl rfl (ePk rfl rfl) ?_)
                          refine wl rfl (OP.ev rfl rfl (ePk rfl rfl) ?_)
                          refine wl_nil ?_
                          cases t63 with
                          | true =>
                            try have c_t63 := dt h63
                            first
                            | (exfalso; omega)
                            | (
                              refine wc_then rfl ?_
                              refine wc_seq ?_
                              refine wc_region ?_
                              refine wl rfl (OP.ev rfl rfl (eAs rfl) ?_)
                              refine wl_nil ?_
                              refine wc_ret ?_
                              apply at_ret rfl
                              · exact (.cons (.tmp rfl) .nil)
                              · exact ⟨rfl, rfl⟩
                              · exact (by repeat (first | exact Sel.all | exact Sel.none | exact Sel.hd | (apply Sel.one; · repeat (first | exact Pick.h | apply Pick.t | apply Pick.app)) | apply Sel.app | (with_reducible apply Sel.grp; · repeat (first | exact PickF.h | apply PickF.t | apply PickF.a)) | (with_reducible refine Sel.nilF (by with_unfolding_all rfl) ?_) | apply Sel.drop | apply Sel.dropF)))
                          | false =>
                            try have c_t63 := df h63
                            first
                            | (exfalso; omega)
                            | (
                              refine wc_else rfl ?_
                              refine wc_skip ?_
                              refine wc_seq ?_
                              refine wc_draw [(b8, .cells (cC k) 39 (0, 0))] rfl ?_
                              refine wa_take 0 (by kernel_rfl) rfl rfl rfl rfl (by repeat (first | exact Sel.all | exact Sel.none | exact Sel.hd | (apply Sel.one; · repeat (first | exact Pick.h | apply Pick.t | apply Pick.app)) | apply Sel.app | (with_reducible apply Sel.grp; · repeat (first | exact PickF.h | apply PickF.t | apply PickF.a)) | (with_reducible refine Sel.nilF (by with_unfolding_all rfl) ?_) | apply Sel.drop | apply Sel.dropF)) (eMv rfl) ?_
                              refine wa_takeb 1 (by kernel_rfl) rfl rfl rfl rfl (by repeat (first | exact Sel.all | exact Sel.none | exact Sel.hd | (apply Sel.one; · repeat (first | exact Pick.h | apply Pick.t | apply Pick.app)) | apply Sel.app | (with_reducible apply Sel.grp; · repeat (first | exact PickF.h | apply PickF.t | apply PickF.a)) | (with_reducible refine Sel.nilF (by with_unfolding_all rfl) ?_) | apply Sel.drop | apply Sel.dropF)) (eEq rfl rfl) fun t68 h68 => ?_
                              refine wa_take 2 (by kernel_rfl) rfl rfl rfl rfl (by repeat (first | exact Sel.all | exact Sel.none | exact Sel.hd | (apply Sel.one; · repeat (first | exact Pick.h | apply Pick.t | apply Pick.app)) | apply Sel.app | (with_reducible apply Sel.grp; · repeat (first | exact PickF.h | apply PickF.t | apply PickF.a)) | (with_reducible refine Sel.nilF (by with_unfolding_all rfl) ?_) | apply Sel.drop | apply Sel.dropF)) (eMv rfl) ?_
                              cases t68 with
                              | true =>
                                try have c_t68 := dt h68
                                first
                                | (exfalso; omega)
                                | (
                                  refine wa_takeg 3 (by kernel_rfl) rfl rfl rfl rfl rfl (by repeat (first | exact Sel.all | exact Sel.none | exact Sel.hd | (apply Sel.one; · repeat (first | exact Pick.h | apply Pick.t | apply Pick.app)) | apply Sel.app | (with_reducible apply Sel.grp; · repeat (first | exact PickF.h | apply PickF.t | apply PickF.a)) | (with_reducible refine Sel.nilF (by with_unfolding_all rfl) ?_) | apply Sel.drop | apply Sel.dropF)) (eMv rfl) ?_
                                  refine wa_takeg 5 (by kernel_rfl) rfl rfl rfl rfl rfl (by repeat (first | exact Sel.all | exact Sel.none | exact Sel.hd | (apply Sel.one; · repeat (first | exact Pick.h | apply Pick.t | apply Pick.app)) | apply Sel.app | (with_reducible apply Sel.grp; · repeat (first | exact PickF.h | apply PickF.t | apply PickF.a)) | (with_reducible refine Sel.nilF (by with_unfolding_all rfl) ?_) | apply Sel.drop | apply Sel.dropF)) (eFld 4 ty39 rfl rfl ty30 rfl) ?_
                                  first | refine wa_takeg 6 (by kernel_rfl) rfl rfl rfl rfl rfl (by repeat (first | exact Sel.all | exact Sel.none | exact Sel.hd | (apply Sel.one; · repeat (first | exact Pick.h | apply Pick.t | apply Pick.app)) | apply Sel.app | (with_reducible apply Sel.grp; · repeat (first | exact PickF.h | apply PickF.t | apply PickF.a)) | (with_reducible refine Sel.nilF (by with_unfolding_all rfl) ?_) | apply Sel.drop | apply Sel.dropF)) (eLd ty30 rfl rfl (by repeat (first | exact Has.h | apply Has.t | apply Has.app)) (by rfl)) ?_ | refine wa_takeg 6 (by kernel_rfl) rfl rfl rfl rfl rfl (by repeat (first | exact Sel.all | exact Sel.none | exact Sel.hd | (apply Sel.one; · repeat (first | exact Pick.h | apply Pick.t | apply Pick.app)) | apply Sel.app | (with_reducible apply Sel.grp; · repeat (first | exact PickF.h | apply PickF.t | apply PickF.a)) | (with_reducible refine Sel.nilF (by with_unfolding_all rfl) ?_) | apply Sel.drop | apply Sel.dropF)) (eLdO ty30 rfl rfl (by assumption)) ?_
                                  refine wa_takeg 7 (by kernel_rfl) rfl rfl rfl rfl rfl (by repeat (first | exact Sel.all | exact Sel.none | exact Sel.hd | (apply Sel.one; · repeat (first | exact Pick.h | apply Pick.t | apply Pick.app)) | apply Sel.app | (with_reducible apply Sel.grp; · repeat (first | exact PickF.h | apply PickF.t | apply PickF.a)) | (with_reducible refine Sel.nilF (by with_unfolding_all rfl) ?_) | apply Sel.drop | apply Sel.dropF)) (eLenR ty30 rfl (hkr _).rs) ?_
                                  refine wa_takeg 9 (by kernel_rfl) rfl rfl rfl rfl rfl (by repeat (first | exact Sel.all | exact Sel.none | exact Sel.hd | (apply Sel.one; · repeat (first | exact Pick.h | apply Pick.t | apply Pick.app)) | apply Sel.app | (with_reducible apply Sel.grp; · repeat (first | exact PickF.h | apply PickF.t | apply PickF.a)) | (with_reducible refine Sel.nilF (by with_unfolding_all rfl) ?_) | apply Sel.drop | apply Sel.dropF)) (eMv rfl) ?_
                                  refine wa_all [4] (by kernel_rfl) rfl ⟨⟨_, rfl, .inr ⟨_, _, rfl, rfl⟩, ?_⟩, trivial⟩
                                  refine oC rfl pf25 rfl (used_ok bc d hd Dc _ hDc (by omega)) (by repeat (first | exact Sel.all | exact Sel.none | exact Sel.hd | (apply Sel.one; · repeat (first | exact Pick.h | apply Pick.t | apply Pick.app)) | apply Sel.app | (with_reducible apply Sel.grp; · repeat (first | exact PickF.h | apply PickF.t | apply PickF.a)) | (with_reducible refine Sel.nilF (by with_unfolding_all rfl) ?_) | apply Sel.drop | apply Sel.dropF)) ?_
                                  rintro _ _ ⟨rfl, rfl⟩
                                  refine ⟨(by repeat (first | exact Sel.all | exact Sel.none | exact Sel.hd | (apply Sel.one; · repeat (first | exact Pick.h | apply Pick.t | apply Pick.app)) | apply Sel.app | (with_reducible apply Sel.grp; · repeat (first | exact PickF.h | apply PickF.t | apply PickF.a)) | (with_reducible refine Sel.nilF (by with_unfolding_all rfl) ?_) | apply Sel.drop | apply Sel.dropF)), ?_⟩
                                  first | refine wa_takeg 8 (by kernel_rfl) rfl rfl rfl rfl rfl (by repeat (first | exact Sel.all | exact Sel.none | exact Sel.hd | (apply Sel.one; · repeat (first | exact Pick.h | apply Pick.t | apply Pick.app)) | apply Sel.app | (with_reducible apply Sel.grp; · repeat (first | exact PickF.h | apply PickF.t | apply PickF.a)) | (with_reducible refine Sel.nilF (by with_unfolding_all rfl) ?_) | apply Sel.drop | apply Sel.dropF)) (eAdd rfl rfl (by omega)) ?_ | refine wa_takeg 8 (by kernel_rfl) rfl rfl rfl rfl rfl (by repeat (first | exact Sel.all | exact Sel.none | exact Sel.hd | (apply Sel.one; · repeat (first | exact Pick.h | apply Pick.t | apply Pick.app)) | apply Sel.app | (with_reducible apply Sel.grp; · repeat (first | exact PickF.h | apply PickF.t | apply PickF.a)) | (with_reducible refine Sel.nilF (by with_unfolding_all rfl) ?_) | apply Sel.drop | apply Sel.dropF)) (eAddW rfl rfl) ?_
                                  refine wa_takegb 10 (by kernel_rfl) rfl rfl rfl rfl rfl (by repeat (first | exact Sel.all | exact Sel.none | exact Sel.hd | (apply Sel.one; · repeat (first | exact Pick.h | apply Pick.t | apply Pick.app)) | apply Sel.app | (with_reducible apply Sel.grp; · repeat (first | exact PickF.h | apply PickF.t | apply PickF.a)) | (with_reducible refine Sel.nilF (by with_unfolding_all rfl) ?_) | apply Sel.drop | apply Sel.dropF)) (eLe rfl rfl) fun t77 h77 => ?_
                                  refine wa_take 11 (by kernel_rfl) rfl rfl rfl rfl (by repeat (first | exact Sel.all | exact Sel.none | exact Sel.hd | (apply Sel.one; · repeat (first | exact Pick.h | apply Pick.t | apply Pick.app)) | apply Sel.app | (with_reducible apply Sel.grp; · repeat (first | exact PickF.h | apply PickF.t | apply PickF.a)) | (with_reducible refine Sel.nilF (by with_unfolding_all rfl) ?_) | apply Sel.drop | apply Sel.dropF)) (ePk rfl rfl) ?_
                                  refine wa_take 12 (by kernel_rfl) rfl rfl rfl rfl (by repeat (first | exact Sel.all | exact Sel.none | exact Sel.hd | (apply Sel.one; · repeat (first | exact Pick.h | apply Pick.t | apply Pick.app)) | apply Sel.app | (with_reducible apply Sel.grp; · repeat (first | exact PickF.h | apply PickF.t | apply PickF.a)) | (with_reducible refine Sel.nilF (by with_unfolding_all rfl) ?_) | apply Sel.drop | apply Sel.dropF)) (eMv rfl) ?_
                                  cases t77 with
                                  | true =>
                                    try have c_t77 := dt h77
                                    first
                                    | (exfalso; omega)
                                    | (
                                      refine wa_takeg 13 (by kernel_rfl) rfl rfl rfl rfl rfl (by repeat (first | exact Sel.all | exact Sel.none | exact Sel.hd | (apply Sel.one; · repeat (first | exact Pick.h | apply Pick.t | apply Pick.app)) | apply Sel.app | (with_reducible apply Sel.grp; · repeat (first | exact PickF.h | apply PickF.t | apply PickF.a)) | (with_reducible refine Sel.nilF (by with_unfolding_all rfl) ?_) | apply Sel.drop | apply Sel.dropF)) (eMv rfl) ?_
                                      refine wa_all [14] (by kernel_rfl) rfl ⟨⟨_, rfl, .inr ⟨_, _, rfl, rfl⟩, ?_⟩, trivial⟩
                                      refine oC rfl pf17 rfl (list_ok bc d hd Dc _ hDc) (by repeat (first | exact Sel.all | exact Sel.none | exact Sel.hd | (apply Sel.one; · repeat (first | exact Pick.h | apply Pick.t | apply Pick.app)) | apply Sel.app | (with_reducible apply Sel.grp; · repeat (first | exact PickF.h | apply PickF.t | apply PickF.a)) | (with_reducible refine Sel.nilF (by with_unfolding_all rfl) ?_) | apply Sel.drop | apply Sel.dropF)) ?_
                                      rintro v81 _ ⟨cs81, hrow81, rfl⟩
                                      refine ⟨(by repeat (first | exact Sel.all | exact Sel.none | exact Sel.hd | (apply Sel.one; · repeat (first | exact Pick.h | apply Pick.t | apply Pick.app)) | apply Sel.app | (with_reducible apply Sel.grp; · repeat (first | exact PickF.h | apply PickF.t | apply PickF.a)) | (with_reducible refine Sel.nilF (by with_unfolding_all rfl) ?_) | apply Sel.drop | apply Sel.dropF)), ?_⟩
                                      refine wa_takeg 15 (by kernel_rfl) rfl rfl rfl rfl rfl (by repeat (first | exact Sel.all | exact Sel.none | exact Sel.hd | (apply Sel.one; · repeat (first | exact Pick.h | apply Pick.t | apply Pick.app)) | apply Sel.app | (with_reducible apply Sel.grp; · repeat (first | exact PickF.h | apply PickF.t | apply PickF.a)) | (with_reducible refine Sel.nilF (by with_unfolding_all rfl) ?_) | apply Sel.drop | apply Sel.dropF)) (eLenRow ty33 rfl hrow81) ?_
                                      refine wa_takegb 16 (by kernel_rfl) rfl rfl rfl rfl rfl (by repeat (first | exact Sel.all | exact Sel.none | exact Sel.hd | (apply Sel.one; · repeat (first | exact Pick.h | apply Pick.t | apply Pick.app)) | apply Sel.app | (with_reducible apply Sel.grp; · repeat (first | exact PickF.h | apply PickF.t | apply PickF.a)) | (with_reducible refine Sel.nilF (by with_unfolding_all rfl) ?_) | apply Sel.drop | apply Sel.dropF)) (eLt rfl rfl) fun t83 h83 => ?_
                                      refine wa_take 17 (by kernel_rfl) rfl rfl rfl rfl (by repeat (first | exact Sel.all | exact Sel.none | exact Sel.hd | (apply Sel.one; · repeat (first | exact Pick.h | apply Pick.t | apply Pick.app)) | apply Sel.app | (with_reducible apply Sel.grp; · repeat (first | exact PickF.h | apply PickF.t | apply PickF.a)) | (with_reducible refine Sel.nilF (by with_unfolding_all rfl) ?_) | apply Sel.drop | apply Sel.dropF)) (ePk rfl rfl) ?_
                                      refine wa_nil (by kernel_rfl) ?_
                                      cases t83 with
                                      | true =>
                                        try have c_t83 := dt h83
                                        first
                                        | (exfalso; omega)
                                        | (
                                          refine wc_then rfl ?_
                                          refine wc_seq ?_
                                          refine wc_region ?_
                                          refine wl rfl (OP.ev rfl rfl (eAs rfl) ?_)
                                          refine wl_nil ?_
                                          refine wc_ret ?_
                                          apply at_ret rfl
                                          · exact (.cons (.tmp rfl) .nil)
                                          · exact ⟨rfl, rfl⟩
                                          · exact (by repeat (first | exact Sel.all | exact Sel.none | exact Sel.hd | (apply Sel.one; · repeat (first | exact Pick.h | apply Pick.t | apply Pick.app)) | apply Sel.app | (with_reducible apply Sel.grp; · repeat (first | exact PickF.h | apply PickF.t | apply PickF.a)) | (with_reducible refine Sel.nilF (by with_unfolding_all rfl) ?_) | apply Sel.drop | apply Sel.dropF)))
                                      | false =>
                                        try have c_t83 := df h83
                                        first
                                        | (exfalso; omega)
                                        | (
                                          refine wc_else rfl ?_
                                          refine wc_skip ?_
                                          refine wc_region ?_
                                          first | refine wl rfl (OP.ev rfl rfl (eAdd rfl rfl (by omega)) ?_) | refine wl rfl (OP.ev rfl rfl (eAddW rfl rfl) ?_)
                                          refine wl rfl (OP.ev rfl rfl (eMv rfl) ?_)
                                          refine wl_nil ?_
                                          exact ⟨(i + 1, (d.does k).2, D5, I5), ⟨by show i + 1 ≤ _; omega, hd6, hmn.does k, hD5, by show (d.does k).2.acts.length ≤ i + 1; omega, by show (d.does k).2.room = r; omega⟩, by show _ - (i + 1) < _; omega, ⟨rfl, rfl, rfl, rfl, rfl, trivial⟩, (by repeat (first | exact Sel.all | exact Sel.none | exact Sel.hd | (apply Sel.one; · repeat (first | exact Pick.h | apply Pick.t | apply Pick.app)) | apply Sel.app | (with_reducible apply Sel.grp; · repeat (first | exact PickF.h | apply PickF.t | apply PickF.a)) | (with_reducible refine Sel.nilF (by with_unfolding_all rfl) ?_) | apply Sel.drop | apply Sel.dropF))⟩))
                                  | false =>
                                    try have c_t77 := df h77
                                    first
                                    | (exfalso; omega)
                                    | (
                                      refine wa_skip 13 (by kernel_rfl) rfl rfl rfl rfl rfl rfl (by repeat (first | exact Sel.all | exact Sel.none | exact Sel.hd | (apply Sel.one; · repeat (first | exact Pick.h | apply Pick.t | apply Pick.app)) | apply Sel.app | (with_reducible apply Sel.grp; · repeat (first | exact PickF.h | apply PickF.t | apply PickF.a)) | (with_reducible refine Sel.nilF (by with_unfolding_all rfl) ?_) | apply Sel.drop | apply Sel.dropF)) ?_
                                      refine wa_skip 14 (by kernel_rfl) rfl rfl rfl rfl rfl rfl (by repeat (first | exact Sel.all | exact Sel.none | exact Sel.hd | (apply Sel.one; · repeat (first | exact Pick.h | apply Pick.t | apply Pick.app)) | apply Sel.app | (with_reducible apply Sel.grp; · repeat (first | exact PickF.h | apply PickF.t | apply PickF.a)) | (with_reducible refine Sel.nilF (by with_unfolding_all rfl) ?_) | apply Sel.drop | apply Sel.dropF)) ?_
                                      refine wa_skip 15 (by kernel_rfl) rfl rfl rfl rfl rfl rfl (by repeat (first | exact Sel.all | exact Sel.none | exact Sel.hd | (apply Sel.one; · repeat (first | exact Pick.h | apply Pick.t | apply Pick.app)) | apply Sel.app | (with_reducible apply Sel.grp; · repeat (first | exact PickF.h | apply PickF.t | apply PickF.a)) | (with_reducible refine Sel.nilF (by with_unfolding_all rfl) ?_) | apply Sel.drop | apply Sel.dropF)) ?_
                                      refine wa_skip 16 (by kernel_rfl) rfl rfl rfl rfl rfl rfl (by repeat (first | exact Sel.all | exact Sel.none | exact Sel.hd | (apply Sel.one; · repeat (first | exact Pick.h | apply Pick.t | apply Pick.app)) | apply Sel.app | (with_reducible apply Sel.grp; · repeat (first | exact PickF.h | apply PickF.t | apply PickF.a)) | (with_reducible refine Sel.nilF (by with_unfolding_all rfl) ?_) | apply Sel.drop | apply Sel.dropF)) ?_
                                      refine wa_take 17 (by kernel_rfl) rfl rfl rfl rfl (by repeat (first | exact Sel.all | exact Sel.none | exact Sel.hd | (apply Sel.one; · repeat (first | exact Pick.h | apply Pick.t | apply Pick.app)) | apply Sel.app | (with_reducible apply Sel.grp; · repeat (first | exact PickF.h | apply PickF.t | apply PickF.a)) | (with_reducible refine Sel.nilF (by with_unfolding_all rfl) ?_) | apply Sel.drop | apply Sel.dropF)) (ePk rfl rfl) ?_
                                      refine wa_nil (by kernel_rfl) ?_
                                      refine wc_else rfl ?_
                                      refine wc_skip ?_
                                      refine wc_region ?_
                                      first | refine wl rfl (OP.ev rfl rfl (eAdd rfl rfl (by omega)) ?_) | refine wl rfl (OP.ev rfl rfl (eAddW rfl rfl) ?_)
                                      refine wl rfl (OP.ev rfl rfl (eMv rfl) ?_)
                                      refine wl_nil ?_
                                      exact ⟨(i + 1, (d.does k).2, D5, I5), ⟨by show i + 1 ≤ _; omega, hd6, hmn.does k, hD5, by show (d.does k).2.acts.length ≤ i + 1; omega, by show (d.does k).2.room = r; omega⟩, by show _ - (i + 1) < _; omega, ⟨rfl, rfl, rfl, rfl, rfl, trivial⟩, (by repeat (first | exact Sel.all | exact Sel.none | exact Sel.hd | (apply Sel.one; · repeat (first | exact Pick.h | apply Pick.t | apply Pick.app)) | apply Sel.app | (with_reducible apply Sel.grp; · repeat (first | exact PickF.h | apply PickF.t | apply PickF.a)) | (with_reducible refine Sel.nilF (by with_unfolding_all rfl) ?_) | apply Sel.drop | apply Sel.dropF))⟩))
                              | false =>
                                try have c_t68 := df h68
                                first
                                | (exfalso; omega)
                                | (
                                  refine wa_skip 3 (by kernel_rfl) rfl rfl rfl rfl rfl rfl (by repeat (first | exact Sel.all | exact Sel.none | exact Sel.hd | (apply Sel.one; · repeat (first | exact Pick.h | apply Pick.t | apply Pick.app)) | apply Sel.app | (with_reducible apply Sel.grp; · repeat (first | exact PickF.h | apply PickF.t | apply PickF.a)) | (with_reducible refine Sel.nilF (by with_unfolding_all rfl) ?_) | apply Sel.drop | apply Sel.dropF)) ?_
                                  refine wa_skip 4 (by kernel_rfl) rfl rfl rfl rfl rfl rfl (by repeat (first | exact Sel.all | exact Sel.none | exact Sel.hd | (apply Sel.one; · repeat (first | exact Pick.h | apply Pick.t | apply Pick.app)) | apply Sel.app | (with_reducible apply Sel.grp; · repeat (first | exact PickF.h | apply PickF.t | apply PickF.a)) | (with_reducible refine Sel.nilF (by with_unfolding_all rfl) ?_) | apply Sel.drop | apply Sel.dropF)) ?_
                                  refine wa_skip 5 (by kernel_rfl) rfl rfl rfl rfl rfl rfl (by repeat (first | exact Sel.all | exact Sel.none | exact Sel.hd | (apply Sel.one; · repeat (first | exact Pick.h | apply Pick.t | apply Pick.app)) | apply Sel.app | (with_reducible apply Sel.grp; · repeat (first | exact PickF.h | apply PickF.t | apply PickF.a)) | (with_reducible refine Sel.nilF (by with_unfolding_all rfl) ?_) | apply Sel.drop | apply Sel.dropF)) ?_
                                  refine wa_skip 6 (by kernel_rfl) rfl rfl rfl rfl rfl rfl (by repeat (first | exact Sel.all | exact Sel.none | exact Sel.hd | (apply Sel.one; · repeat (first | exact Pick.h | apply Pick.t | apply Pick.app)) | apply Sel.app | (with_reducible apply Sel.grp; · repeat (first | exact PickF.h | apply PickF.t | apply PickF.a)) | (with_reducible refine Sel.nilF (by with_unfolding_all rfl) ?_) | apply Sel.drop | apply Sel.dropF)) ?_
                                  refine wa_skip 7 (by kernel_rfl) rfl rfl rfl rfl rfl rfl (by repeat (first | exact Sel.all | exact Sel.none | exact Sel.hd | (apply Sel.one; · repeat (first | exact Pick.h | apply Pick.t | apply Pick.app)) | apply Sel.app | (with_reducible apply Sel.grp; · repeat (first | exact PickF.h | apply PickF.t | apply PickF.a)) | (with_reducible refine Sel.nilF (by with_unfolding_all rfl) ?_) | apply Sel.drop | apply Sel.dropF)) ?_
                                  refine wa_skip 8 (by kernel_rfl) rfl rfl rfl rfl rfl rfl (by repeat (first | exact Sel.all | exact Sel.none | exact Sel.hd | (apply Sel.one; · repeat (first | exact Pick.h | apply Pick.t | apply Pick.app)) | apply Sel.app | (with_reducible apply Sel.grp; · repeat (first | exact PickF.h | apply PickF.t | apply PickF.a)) | (with_reducible refine Sel.nilF (by with_unfolding_all rfl) ?_) | apply Sel.drop | apply Sel.dropF)) ?_
                                  refine wa_skip 9 (by kernel_rfl) rfl rfl rfl rfl rfl rfl (by repeat (first | exact Sel.all | exact Sel.none | exact Sel.hd | (apply Sel.one; · repeat (first | exact Pick.h | apply Pick.t | apply Pick.app)) | apply Sel.app | (with_reducible apply Sel.grp; · repeat (first | exact PickF.h | apply PickF.t | apply PickF.a)) | (with_reducible refine Sel.nilF (by with_unfolding_all rfl) ?_) | apply Sel.drop | apply Sel.dropF)) ?_
                                  refine wa_skip 10 (by kernel_rfl) rfl rfl rfl rfl rfl rfl (by repeat (first | exact Sel.all | exact Sel.none | exact Sel.hd | (apply Sel.one; · repeat (first | exact Pick.h | apply Pick.t | apply Pick.app)) | apply Sel.app | (with_reducible apply Sel.grp; · repeat (first | exact PickF.h | apply PickF.t | apply PickF.a)) | (with_reducible refine Sel.nilF (by with_unfolding_all rfl) ?_) | apply Sel.drop | apply Sel.dropF)) ?_
                                  refine wa_take 11 (by kernel_rfl) rfl rfl rfl rfl (by repeat (first | exact Sel.all | exact Sel.none | exact Sel.hd | (apply Sel.one; · repeat (first | exact Pick.h | apply Pick.t | apply Pick.app)) | apply Sel.app | (with_reducible apply Sel.grp; · repeat (first | exact PickF.h | apply PickF.t | apply PickF.a)) | (with_reducible refine Sel.nilF (by with_unfolding_all rfl) ?_) | apply Sel.drop | apply Sel.dropF)) (ePk rfl rfl) ?_
                                  refine wa_take 12 (by kernel_rfl) rfl rfl rfl rfl (by repeat (first | exact Sel.all | exact Sel.none | exact Sel.hd | (apply Sel.one; · repeat (first | exact Pick.h | apply Pick.t | apply Pick.app)) | apply Sel.app | (with_reducible apply Sel.grp; · repeat (first | exact PickF.h | apply PickF.t | apply PickF.a)) | (with_reducible refine Sel.nilF (by with_unfolding_all rfl) ?_) | apply Sel.drop | apply Sel.dropF)) (eMv rfl) ?_
                                  refine wa_skip 13 (by kernel_rfl) rfl rfl rfl rfl rfl rfl (by repeat (first | exact Sel.all | exact Sel.none | exact Sel.hd | (apply Sel.one; · repeat (first | exact Pick.h | apply Pick.t | apply Pick.app)) | apply Sel.app | (with_reducible apply Sel.grp; · repeat (first | exact PickF.h | apply PickF.t | apply PickF.a)) | (with_reducible refine Sel.nilF (by with_unfolding_all rfl) ?_) | apply Sel.drop | apply Sel.dropF)) ?_
                                  refine wa_skip 14 (by kernel_rfl) rfl rfl rfl rfl rfl rfl (by repeat (first | exact Sel.all | exact Sel.none | exact Sel.hd | (apply Sel.one; · repeat (first | exact Pick.h | apply Pick.t | apply Pick.app)) | apply Sel.app | (with_reducible apply Sel.grp; · repeat (first | exact PickF.h | apply PickF.t | apply PickF.a)) | (with_reducible refine Sel.nilF (by with_unfolding_all rfl) ?_) | apply Sel.drop | apply Sel.dropF)) ?_
                                  refine wa_skip 15 (by kernel_rfl) rfl rfl rfl rfl rfl rfl (by repeat (first | exact Sel.all | exact Sel.none | exact Sel.hd | (apply Sel.one; · repeat (first | exact Pick.h | apply Pick.t | apply Pick.app)) | apply Sel.app | (with_reducible apply Sel.grp; · repeat (first | exact PickF.h | apply PickF.t | apply PickF.a)) | (with_reducible refine Sel.nilF (by with_unfolding_all rfl) ?_) | apply Sel.drop | apply Sel.dropF)) ?_
                                  refine wa_skip 16 (by kernel_rfl) rfl rfl rfl rfl rfl rfl (by repeat (first | exact Sel.all | exact Sel.none | exact Sel.hd | (apply Sel.one; · repeat (first | exact Pick.h | apply Pick.t | apply Pick.app)) | apply Sel.app | (with_reducible apply Sel.grp; · repeat (first | exact PickF.h | apply PickF.t | apply PickF.a)) | (with_reducible refine Sel.nilF (by with_unfolding_all rfl) ?_) | apply Sel.drop | apply Sel.dropF)) ?_
                                  refine wa_take 17 (by kernel_rfl) rfl rfl rfl rfl (by repeat (first | exact Sel.all | exact Sel.none | exact Sel.hd | (apply Sel.one; · repeat (first | exact Pick.h | apply Pick.t | apply Pick.app)) | apply Sel.app | (with_reducible apply Sel.grp; · repeat (first | exact PickF.h | apply PickF.t | apply PickF.a)) | (with_reducible refine Sel.nilF (by with_unfolding_all rfl) ?_) | apply Sel.drop | apply Sel.dropF)) (ePk rfl rfl) ?_
                                  refine wa_nil (by kernel_rfl) ?_
                                  refine wc_else rfl ?_
                                  refine wc_skip ?_
                                  refine wc_region ?_
                                  first | refine wl rfl (OP.ev rfl rfl (eAdd rfl rfl (by omega)) ?_) | refine wl rfl (OP.ev rfl rfl (eAddW rfl rfl) ?_)
                                  refine wl rfl (OP.ev rfl rfl (eMv rfl) ?_)
                                  refine wl_nil ?_
                                  exact ⟨(i + 1, (d.does k).2, D5, I5), ⟨by show i + 1 ≤ _; omega, hd6, hmn.does k, hD5, by show (d.does k).2.acts.length ≤ i + 1; omega, by show (d.does k).2.room = r; omega⟩, by show _ - (i + 1) < _; omega, ⟨rfl, rfl, rfl, rfl, rfl, trivial⟩, (by repeat (first | exact Sel.all | exact Sel.none | exact Sel.hd | (apply Sel.one; · repeat (first | exact Pick.h | apply Pick.t | apply Pick.app)) | apply Sel.app | (with_reducible apply Sel.grp; · repeat (first | exact PickF.h | apply PickF.t | apply PickF.a)) | (with_reducible refine Sel.nilF (by with_unfolding_all rfl) ?_) | apply Sel.drop | apply Sel.dropF))⟩)))
                      | false =>
                        try have c_t51 := df h51
                        first
                        | (exfalso; omega)
                        | (
                          refine wl_skip rfl rfl rfl rfl rfl ?_
                          refine wl_skip rfl rfl rfl rfl rfl ?_
                          refine wl_skip rfl rfl rfl rfl rfl ?_
                          refine wl_skip rfl rfl rfl rfl rfl ?_
                          refine wl_skip rfl rfl rfl rfl rfl ?_
                          refine wl_skipU rfl rfl rfl rfl ?_
                          refine wl_skipU rfl rfl rfl rfl ?_
                          refine wl_skipU rfl rfl rfl rfl ?_
                          refine wl_skipU rfl rfl rfl rfl ?_
                          refine wl_skipU rfl rfl rfl rfl ?_
                          refine wl_skip rfl rfl rfl rfl rfl ?_
                          refine wl_go rfl rfl (OP.ev rfl rfl (ePk rfl rfl) ?_)
                          refine wl rfl (OP.ev rfl rfl (ePk rfl rfl) ?_)
                          refine wl_nil ?_
                          refine wc_else rfl ?_
                          refine wc_skip ?_
                          refine wc_seq ?_
                          refine wc_draw [(b8, .cells (cC k) 39 (0, 0))] rfl ?_
                          refine wa_take 0 (by kernel_rfl) rfl rfl rfl rfl (by repeat (first | exact Sel.all | exact Sel.none | exact Sel.hd | (apply Sel.one; · repeat (first | exact Pick.h | apply Pick.t | apply Pick.app)) | apply Sel.app | (with_reducible apply Sel.grp; · repeat (first | exact PickF.h | apply PickF.t | apply PickF.a)) | (with_reducible refine Sel.nilF (by with_unfolding_all rfl) ?_) | apply Sel.drop | apply Sel.dropF)) (eMv rfl) ?_
                          refine wa_takeb 1 (by kernel_rfl) rfl rfl rfl rfl (by repeat (first | exact Sel.all | exact Sel.none | exact Sel.hd | (apply Sel.one; · repeat (first | exact Pick.h | apply Pick.t | apply Pick.app)) | apply Sel.app | (with_reducible apply Sel.grp; · repeat (first | exact PickF.h | apply PickF.t | apply PickF.a)) | (with_reducible refine Sel.nilF (by with_unfolding_all rfl) ?_) | apply Sel.drop | apply Sel.dropF)) (eEq rfl rfl) fun t68 h68 => ?_
                          refine wa_take 2 (by kernel_rfl) rfl rfl rfl rfl (by repeat (first | exact Sel.all | exact Sel.none | exact Sel.hd | (apply Sel.one; · repeat (first | exact Pick.h | apply Pick.t | apply Pick.app)) | apply Sel.app | (with_reducible apply Sel.grp; · repeat (first | exact PickF.h | apply PickF.t | apply PickF.a)) | (with_reducible refine Sel.nilF (by with_unfolding_all rfl) ?_) | apply Sel.drop | apply Sel.dropF)) (eMv rfl) ?_
                          cases t68 with
                          | true =>
                            try have c_t68 := dt h68
                            first
                            | (exfalso; omega)
                            | (
                              refine wa_takeg 3 (by kernel_rfl) rfl rfl rfl rfl rfl (by repeat (first | exact Sel.all | exact Sel.none | exact Sel.hd | (apply Sel.one; · repeat (first | exact Pick.h | apply Pick.t | apply Pick.app)) | apply Sel.app | (with_reducible apply Sel.grp; · repeat (first | exact PickF.h | apply PickF.t | apply PickF.a)) | (with_reducible refine Sel.nilF (by with_unfolding_all rfl) ?_) | apply Sel.drop | apply Sel.dropF)) (eMv rfl) ?_
                              refine wa_takeg 5 (by kernel_rfl) rfl rfl rfl rfl rfl (by repeat (first | exact Sel.all | exact Sel.none | exact Sel.hd | (apply Sel.one; · repeat (first | exact Pick.h | apply Pick.t | apply Pick.app)) | apply Sel.app | (with_reducible apply Sel.grp; · repeat (first | exact PickF.h | apply PickF.t | apply PickF.a)) | (with_reducible refine Sel.nilF (by with_unfolding_all rfl) ?_) | apply Sel.drop | apply Sel.dropF)) (eFld 4 ty39 rfl rfl ty30 rfl) ?_
                              first | refine wa_takeg 6 (by kernel_rfl) rfl rfl rfl rfl rfl (by repeat (first | exact Sel.all | exact Sel.none | exact Sel.hd | (apply Sel.one; · repeat (first | exact Pick.h | apply Pick.t | apply Pick.app)) | apply Sel.app | (with_reducible apply Sel.grp; · repeat (first | exact PickF.h | apply PickF.t | apply PickF.a)) | (with_reducible refine Sel.nilF (by with_unfolding_all rfl) ?_) | apply Sel.drop | apply Sel.dropF)) (eLd ty30 rfl rfl (by repeat (first | exact Has.h | apply Has.t | apply Has.app)) (by rfl)) ?_ | refine wa_takeg 6 (by kernel_rfl) rfl rfl rfl rfl rfl (by repeat (first | exact Sel.all | exact Sel.none | exact Sel.hd | (apply Sel.one; · repeat (first | exact Pick.h | apply Pick.t | apply Pick.app)) | apply Sel.app | (with_reducible apply Sel.grp; · repeat (first | exact PickF.h | apply PickF.t | apply PickF.a)) | (with_reducible refine Sel.nilF (by with_unfolding_all rfl) ?_) | apply Sel.drop | apply Sel.dropF)) (eLdO ty30 rfl rfl (by assumption)) ?_
                              refine wa_takeg 7 (by kernel_rfl) rfl rfl rfl rfl rfl (by repeat (first | exact Sel.all | exact Sel.none | exact Sel.hd | (apply Sel.one; · repeat (first | exact Pick.h | apply Pick.t | apply Pick.app)) | apply Sel.app | (with_reducible apply Sel.grp; · repeat (first | exact PickF.h | apply PickF.t | apply PickF.a)) | (with_reducible refine Sel.nilF (by with_unfolding_all rfl) ?_) | apply Sel.drop | apply Sel.dropF)) (eLenR ty30 rfl (hkr _).rs) ?_
                              refine wa_takeg 9 (by kernel_rfl) rfl rfl rfl rfl rfl (by repeat (first | exact Sel.all | exact Sel.none | exact Sel.hd | (apply Sel.one; · repeat (first | exact Pick.h | apply Pick.t | apply Pick.app)) | apply Sel.app | (with_reducible apply Sel.grp; · repeat (first | exact PickF.h | apply PickF.t | apply PickF.a)) | (with_reducible refine Sel.nilF (by with_unfolding_all rfl) ?_) | apply Sel.drop | apply Sel.dropF)) (eMv rfl) ?_
                              refine wa_all [4] (by kernel_rfl) rfl ⟨⟨_, rfl, .inr ⟨_, _, rfl, rfl⟩, ?_⟩, trivial⟩
                              refine oC rfl pf25 rfl (used_ok bc d hd Dc _ hDc (by omega)) (by repeat (first | exact Sel.all | exact Sel.none | exact Sel.hd | (apply Sel.one; · repeat (first | exact Pick.h | apply Pick.t | apply Pick.app)) | apply Sel.app | (with_reducible apply Sel.grp; · repeat (first | exact PickF.h | apply PickF.t | apply PickF.a)) | (with_reducible refine Sel.nilF (by with_unfolding_all rfl) ?_) | apply Sel.drop | apply Sel.dropF)) ?_
                              rintro _ _ ⟨rfl, rfl⟩
                              refine ⟨(by repeat (first | exact Sel.all | exact Sel.none | exact Sel.hd | (apply Sel.one; · repeat (first | exact Pick.h | apply Pick.t | apply Pick.app)) | apply Sel.app | (with_reducible apply Sel.grp; · repeat (first | exact PickF.h | apply PickF.t | apply PickF.a)) | (with_reducible refine Sel.nilF (by with_unfolding_all rfl) ?_) | apply Sel.drop | apply Sel.dropF)), ?_⟩
                              first | refine wa_takeg 8 (by kernel_rfl) rfl rfl rfl rfl rfl (by repeat (first | exact Sel.all | exact Sel.none | exact Sel.hd | (apply Sel.one; · repeat (first | exact Pick.h | apply Pick.t | apply Pick.app)) | apply Sel.app | (with_reducible apply Sel.grp; · repeat (first | exact PickF.h | apply PickF.t | apply PickF.a)) | (with_reducible refine Sel.nilF (by with_unfolding_all rfl) ?_) | apply Sel.drop | apply Sel.dropF)) (eAdd rfl rfl (by omega)) ?_ | refine wa_takeg 8 (by kernel_rfl) rfl rfl rfl rfl rfl (by repeat (first | exact Sel.all | exact Sel.none | exact Sel.hd | (apply Sel.one; · repeat (first | exact Pick.h | apply Pick.t | apply Pick.app)) | apply Sel.app | (with_reducible apply Sel.grp; · repeat (first | exact PickF.h | apply PickF.t | apply PickF.a)) | (with_reducible refine Sel.nilF (by with_unfolding_all rfl) ?_) | apply Sel.drop | apply Sel.dropF)) (eAddW rfl rfl) ?_
                              refine wa_takegb 10 (by kernel_rfl) rfl rfl rfl rfl rfl (by repeat (first | exact Sel.all | exact Sel.none | exact Sel.hd | (apply Sel.one; · repeat (first | exact Pick.h | apply Pick.t | apply Pick.app)) | apply Sel.app | (with_reducible apply Sel.grp; · repeat (first | exact PickF.h | apply PickF.t | apply PickF.a)) | (with_reducible refine Sel.nilF (by with_unfolding_all rfl) ?_) | apply Sel.drop | apply Sel.dropF)) (eLe rfl rfl) fun t77 h77 => ?_
                              refine wa_take 11 (by kernel_rfl) rfl rfl rfl rfl (by repeat (first | exact Sel.all | exact Sel.none | exact Sel.hd | (apply Sel.one; · repeat (first | exact Pick.h | apply Pick.t | apply Pick.app)) | apply Sel.app | (with_reducible apply Sel.grp; · repeat (first | exact PickF.h | apply PickF.t | apply PickF.a)) | (with_reducible refine Sel.nilF (by with_unfolding_all rfl) ?_) | apply Sel.drop | apply Sel.dropF)) (ePk rfl rfl) ?_
                              refine wa_take 12 (by kernel_rfl) rfl rfl rfl rfl (by repeat (first | exact Sel.all | exact Sel.none | exact Sel.hd | (apply Sel.one; · repeat (first | exact Pick.h | apply Pick.t | apply Pick.app)) | apply Sel.app | (with_reducible apply Sel.grp; · repeat (first | exact PickF.h | apply PickF.t | apply PickF.a)) | (with_reducible refine Sel.nilF (by with_unfolding_all rfl) ?_) | apply Sel.drop | apply Sel.dropF)) (eMv rfl) ?_
                              cases t77 with
                              | true =>
                                try have c_t77 := dt h77
                                first
                                | (exfalso; omega)
                                | (
                                  refine wa_takeg 13 (by kernel_rfl) rfl rfl rfl rfl rfl (by repeat (first | exact Sel.all | exact Sel.none | exact Sel.hd | (apply Sel.one; · repeat (first | exact Pick.h | apply Pick.t | apply Pick.app)) | apply Sel.app | (with_reducible apply Sel.grp; · repeat (first | exact PickF.h | apply PickF.t | apply PickF.a)) | (with_reducible refine Sel.nilF (by with_unfolding_all rfl) ?_) | apply Sel.drop | apply Sel.dropF)) (eMv rfl) ?_
                                  refine wa_all [14] (by kernel_rfl) rfl ⟨⟨_, rfl, .inr ⟨_, _, rfl, rfl⟩, ?_⟩, trivial⟩
                                  refine oC rfl pf17 rfl (list_ok bc d hd Dc _ hDc) (by repeat (first | exact Sel.all | exact Sel.none | exact Sel.hd | (apply Sel.one; · repeat (first | exact Pick.h | apply Pick.t | apply Pick.app)) | apply Sel.app | (with_reducible apply Sel.grp; · repeat (first | exact PickF.h | apply PickF.t | apply PickF.a)) | (with_reducible refine Sel.nilF (by with_unfolding_all rfl) ?_) | apply Sel.drop | apply Sel.dropF)) ?_
                                  rintro v81 _ ⟨cs81, hrow81, rfl⟩
                                  refine ⟨(by repeat (first | exact Sel.all | exact Sel.none | exact Sel.hd | (apply Sel.one; · repeat (first | exact Pick.h | apply Pick.t | apply Pick.app)) | apply Sel.app | (with_reducible apply Sel.grp; · repeat (first | exact PickF.h | apply PickF.t | apply PickF.a)) | (with_reducible refine Sel.nilF (by with_unfolding_all rfl) ?_) | apply Sel.drop | apply Sel.dropF)), ?_⟩
                                  refine wa_takeg 15 (by kernel_rfl) rfl rfl rfl rfl rfl (by repeat (first | exact Sel.all | exact Sel.none | exact Sel.hd | (apply Sel.one; · repeat (first | exact Pick.h | apply Pick.t | apply Pick.app)) | apply Sel.app | (with_reducible apply Sel.grp; · repeat (first | exact PickF.h | apply PickF.t | apply PickF.a)) | (with_reducible refine Sel.nilF (by with_unfolding_all rfl) ?_) | apply Sel.drop | apply Sel.dropF)) (eLenRow ty33 rfl hrow81) ?_
                                  refine wa_takegb 16 (by kernel_rfl) rfl rfl rfl rfl rfl (by repeat (first | exact Sel.all | exact Sel.none | exact Sel.hd | (apply Sel.one; · repeat (first | exact Pick.h | apply Pick.t | apply Pick.app)) | apply Sel.app | (with_reducible apply Sel.grp; · repeat (first | exact PickF.h | apply PickF.t | apply PickF.a)) | (with_reducible refine Sel.nilF (by with_unfolding_all rfl) ?_) | apply Sel.drop | apply Sel.dropF)) (eLt rfl rfl) fun t83 h83 => ?_
                                  refine wa_take 17 (by kernel_rfl) rfl rfl rfl rfl (by repeat (first | exact Sel.all | exact Sel.none | exact Sel.hd | (apply Sel.one; · repeat (first | exact Pick.h | apply Pick.t | apply Pick.app)) | apply Sel.app | (with_reducible apply Sel.grp; · repeat (first | exact PickF.h | apply PickF.t | apply PickF.a)) | (with_reducible refine Sel.nilF (by with_unfolding_all rfl) ?_) | apply Sel.drop | apply Sel.dropF)) (ePk rfl rfl) ?_
                                  refine wa_nil (by kernel_rfl) ?_
                                  cases t83 with
                                  | true =>
                                    try have c_t83 := dt h83
                                    first
                                    | (exfalso; omega)
                                    | (
                                      refine wc_then rfl ?_
                                      refine wc_seq ?_
                                      refine wc_region ?_
                                      refine wl rfl (OP.ev rfl rfl (eAs rfl) ?_)
                                      refine wl_nil ?_
                                      refine wc_ret ?_
                                      apply at_ret rfl
                                      · exact (.cons (.tmp rfl) .nil)
                                      · exact ⟨rfl, rfl⟩
                                      · exact (by repeat (first | exact Sel.all | exact Sel.none | exact Sel.hd | (apply Sel.one; · repeat (first | exact Pick.h | apply Pick.t | apply Pick.app)) | apply Sel.app | (with_reducible apply Sel.grp; · repeat (first | exact PickF.h | apply PickF.t | apply PickF.a)) | (with_reducible refine Sel.nilF (by with_unfolding_all rfl) ?_) | apply Sel.drop | apply Sel.dropF)))
                                  | false =>
                                    try have c_t83 := df h83
                                    first
                                    | (exfalso; omega)
                                    | (
                                      refine wc_else rfl ?_
                                      refine wc_skip ?_
                                      refine wc_region ?_
                                      first | refine wl rfl (OP.ev rfl rfl (eAdd rfl rfl (by omega)) ?_) | refine wl rfl (OP.ev rfl rfl (eAddW rfl rfl) ?_)
                                      refine wl rfl (OP.ev rfl rfl (eMv rfl) ?_)
                                      refine wl_nil ?_
                                      exact ⟨(i + 1, (d.does k).2, D5, I5), ⟨by show i + 1 ≤ _; omega, hd6, hmn.does k, hD5, by show (d.does k).2.acts.length ≤ i + 1; omega, by show (d.does k).2.room = r; omega⟩, by show _ - (i + 1) < _; omega, ⟨rfl, rfl, rfl, rfl, rfl, trivial⟩, (by repeat (first | exact Sel.all | exact Sel.none | exact Sel.hd | (apply Sel.one; · repeat (first | exact Pick.h | apply Pick.t | apply Pick.app)) | apply Sel.app | (with_reducible apply Sel.grp; · repeat (first | exact PickF.h | apply PickF.t | apply PickF.a)) | (with_reducible refine Sel.nilF (by with_unfolding_all rfl) ?_) | apply Sel.drop | apply Sel.dropF))⟩))
                              | false =>
                                try have c_t77 := df h77
                                first
                                | (exfalso; omega)
                                | (
                                  refine wa_skip 13 (by kernel_rfl) rfl rfl rfl rfl rfl rfl (by repeat (first | exact Sel.all | exact Sel.none | exact Sel.hd | (apply Sel.one; · repeat (first | exact Pick.h | apply Pick.t | apply Pick.app)) | apply Sel.app | (with_reducible apply Sel.grp; · repeat (first | exact PickF.h | apply PickF.t | apply PickF.a)) | (with_reducible refine Sel.nilF (by with_unfolding_all rfl) ?_) | apply Sel.drop | apply Sel.dropF)) ?_
                                  refine wa_skip 14 (by kernel_rfl) rfl rfl rfl rfl rfl rfl (by repeat (first | exact Sel.all | exact Sel.none | exact Sel.hd | (apply Sel.one; · repeat (first | exact Pick.h | apply Pick.t | apply Pick.app)) | apply Sel.app | (with_reducible apply Sel.grp; · repeat (first | exact PickF.h | apply PickF.t | apply PickF.a)) | (with_reducible refine Sel.nilF (by with_unfolding_all rfl) ?_) | apply Sel.drop | apply Sel.dropF)) ?_
                                  refine wa_skip 15 (by kernel_rfl) rfl rfl rfl rfl rfl rfl (by repeat (first | exact Sel.all | exact Sel.none | exact Sel.hd | (apply Sel.one; · repeat (first | exact Pick.h | apply Pick.t | apply Pick.app)) | apply Sel.app | (with_reducible apply Sel.grp; · repeat (first | exact PickF.h | apply PickF.t | apply PickF.a)) | (with_reducible refine Sel.nilF (by with_unfolding_all rfl) ?_) | apply Sel.drop | apply Sel.dropF)) ?_
                                  refine wa_skip 16 (by kernel_rfl) rfl rfl rfl rfl rfl rfl (by repeat (first | exact Sel.all | exact Sel.none | exact Sel.hd | (apply Sel.one; · repeat (first | exact Pick.h | apply Pick.t | apply Pick.app)) | apply Sel.app | (with_reducible apply Sel.grp; · repeat (first | exact PickF.h | apply PickF.t | apply PickF.a)) | (with_reducible refine Sel.nilF (by with_unfolding_all rfl) ?_) | apply Sel.drop | apply Sel.dropF)) ?_
                                  refine wa_take 17 (by kernel_rfl) rfl rfl rfl rfl (by repeat (first | exact Sel.all | exact Sel.none | exact Sel.hd | (apply Sel.one; · repeat (first | exact Pick.h | apply Pick.t | apply Pick.app)) | apply Sel.app | (with_reducible apply Sel.grp; · repeat (first | exact PickF.h | apply PickF.t | apply PickF.a)) | (with_reducible refine Sel.nilF (by with_unfolding_all rfl) ?_) | apply Sel.drop | apply Sel.dropF)) (ePk rfl rfl) ?_
                                  refine wa_nil (by kernel_rfl) ?_
                                  refine wc_else rfl ?_
                                  refine wc_skip ?_
                                  refine wc_region ?_
                                  first | refine wl rfl (OP.ev rfl rfl (eAdd rfl rfl (by omega)) ?_) | refine wl rfl (OP.ev rfl rfl (eAddW rfl rfl) ?_)
                                  refine wl rfl (OP.ev rfl rfl (eMv rfl) ?_)
                                  refine wl_nil ?_
                                  exact ⟨(i + 1, (d.does k).2, D5, I5), ⟨by show i + 1 ≤ _; omega, hd6, hmn.does k, hD5, by show (d.does k).2.acts.length ≤ i + 1; omega, by show (d.does k).2.room = r; omega⟩, by show _ - (i + 1) < _; omega, ⟨rfl, rfl, rfl, rfl, rfl, trivial⟩, (by repeat (first | exact Sel.all | exact Sel.none | exact Sel.hd | (apply Sel.one; · repeat (first | exact Pick.h | apply Pick.t | apply Pick.app)) | apply Sel.app | (with_reducible apply Sel.grp; · repeat (first | exact PickF.h | apply PickF.t | apply PickF.a)) | (with_reducible refine Sel.nilF (by with_unfolding_all rfl) ?_) | apply Sel.drop | apply Sel.dropF))⟩))
                          | false =>
                            try have c_t68 := df h68
                            first
                            | (exfalso; omega)
                            | (
                              refine wa_skip 3 (by kernel_rfl) rfl rfl rfl rfl rfl rfl (by repeat (first | exact Sel.all | exact Sel.none | exact Sel.hd | (apply Sel.one; · repeat (first | exact Pick.h | apply Pick.t | apply Pick.app)) | apply Sel.app | (with_reducible apply Sel.grp; · repeat (first | exact PickF.h | apply PickF.t | apply PickF.a)) | (with_reducible refine Sel.nilF (by with_unfolding_all rfl) ?_) | apply Sel.drop | apply Sel.dropF)) ?_
                              refine wa_skip 4 (by kernel_rfl) rfl rfl rfl rfl rfl rfl (by repeat (first | exact Sel.all | exact Sel.none | exact Sel.hd | (apply Sel.one; · repeat (first | exact Pick.h | apply Pick.t | apply Pick.app)) | apply Sel.app | (with_reducible apply Sel.grp; · repeat (first | exact PickF.h | apply PickF.t | apply PickF.a)) | (with_reducible refine Sel.nilF (by with_unfolding_all rfl) ?_) | apply Sel.drop | apply Sel.dropF)) ?_
                              refine wa_skip 5 (by kernel_rfl) rfl rfl rfl rfl rfl rfl (by repeat (first | exact Sel.all | exact Sel.none | exact Sel.hd | (apply Sel.one; · repeat (first | exact Pick.h | apply Pick.t | apply Pick.app)) | apply Sel.app | (with_reducible apply Sel.grp; · repeat (first | exact PickF.h | apply PickF.t | apply PickF.a)) | (with_reducible refine Sel.nilF (by with_unfolding_all rfl) ?_) | apply Sel.drop | apply Sel.dropF)) ?_
                              refine wa_skip 6 (by kernel_rfl) rfl rfl rfl rfl rfl rfl (by repeat (first | exact Sel.all | exact Sel.none | exact Sel.hd | (apply Sel.one; · repeat (first | exact Pick.h | apply Pick.t | apply Pick.app)) | apply Sel.app | (with_reducible apply Sel.grp; · repeat (first | exact PickF.h | apply PickF.t | apply PickF.a)) | (with_reducible refine Sel.nilF (by with_unfolding_all rfl) ?_) | apply Sel.drop | apply Sel.dropF)) ?_
                              refine wa_skip 7 (by kernel_rfl) rfl rfl rfl rfl rfl rfl (by repeat (first | exact Sel.all | exact Sel.none | exact Sel.hd | (apply Sel.one; · repeat (first | exact Pick.h | apply Pick.t | apply Pick.app)) | apply Sel.app | (with_reducible apply Sel.grp; · repeat (first | exact PickF.h | apply PickF.t | apply PickF.a)) | (with_reducible refine Sel.nilF (by with_unfolding_all rfl) ?_) | apply Sel.drop | apply Sel.dropF)) ?_
                              refine wa_skip 8 (by kernel_rfl) rfl rfl rfl rfl rfl rfl (by repeat (first | exact Sel.all | exact Sel.none | exact Sel.hd | (apply Sel.one; · repeat (first | exact Pick.h | apply Pick.t | apply Pick.app)) | apply Sel.app | (with_reducible apply Sel.grp; · repeat (first | exact PickF.h | apply PickF.t | apply PickF.a)) | (with_reducible refine Sel.nilF (by with_unfolding_all rfl) ?_) | apply Sel.drop | apply Sel.dropF)) ?_
                              refine wa_skip 9 (by kernel_rfl) rfl rfl rfl rfl rfl rfl (by repeat (first | exact Sel.all | exact Sel.none | exact Sel.hd | (apply Sel.one; · repeat (first | exact Pick.h | apply Pick.t | apply Pick.app)) | apply Sel.app | (with_reducible apply Sel.grp; · repeat (first | exact PickF.h | apply PickF.t | apply PickF.a)) | (with_reducible refine Sel.nilF (by with_unfolding_all rfl) ?_) | apply Sel.drop | apply Sel.dropF)) ?_
                              refine wa_skip 10 (by kernel_rfl) rfl rfl rfl rfl rfl rfl (by repeat (first | exact Sel.all | exact Sel.none | exact Sel.hd | (apply Sel.one; · repeat (first | exact Pick.h | apply Pick.t | apply Pick.app)) | apply Sel.app | (with_reducible apply Sel.grp; · repeat (first | exact PickF.h | apply PickF.t | apply PickF.a)) | (with_reducible refine Sel.nilF (by with_unfolding_all rfl) ?_) | apply Sel.drop | apply Sel.dropF)) ?_
                              refine wa_take 11 (by kernel_rfl) rfl rfl rfl rfl (by repeat (first | exact Sel.all | exact Sel.none | exact Sel.hd | (apply Sel.one; · repeat (first | exact Pick.h | apply Pick.t | apply Pick.app)) | apply Sel.app | (with_reducible apply Sel.grp; · repeat (first | exact PickF.h | apply PickF.t | apply PickF.a)) | (with_reducible refine Sel.nilF (by with_unfolding_all rfl) ?_) | apply Sel.drop | apply Sel.dropF)) (ePk rfl rfl) ?_
                              refine wa_take 12 (by kernel_rfl) rfl rfl rfl rfl (by repeat (first | exact Sel.all | exact Sel.none | exact Sel.hd | (apply Sel.one; · repeat (first | exact Pick.h | apply Pick.t | apply Pick.app)) | apply Sel.app | (with_reducible apply Sel.grp; · repeat (first | exact PickF.h | apply PickF.t | apply PickF.a)) | (with_reducible refine Sel.nilF (by with_unfolding_all rfl) ?_) | apply Sel.drop | apply Sel.dropF)) (eMv rfl) ?_
                              refine wa_skip 13 (by kernel_rfl) rfl rfl rfl rfl rfl rfl (by repeat (first | exact Sel.all | exact Sel.none | exact Sel.hd | (apply Sel.one; · repeat (first | exact Pick.h | apply Pick.t | apply Pick.app)) | apply Sel.app | (with_reducible apply Sel.grp; · repeat (first | exact PickF.h | apply PickF.t | apply PickF.a)) | (with_reducible refine Sel.nilF (by with_unfolding_all rfl) ?_) | apply Sel.drop | apply Sel.dropF)) ?_
                              refine wa_skip 14 (by kernel_rfl) rfl rfl rfl rfl rfl rfl (by repeat (first | exact Sel.all | exact Sel.none | exact Sel.hd | (apply Sel.one; · repeat (first | exact Pick.h | apply Pick.t | apply Pick.app)) | apply Sel.app | (with_reducible apply Sel.grp; · repeat (first | exact PickF.h | apply PickF.t | apply PickF.a)) | (with_reducible refine Sel.nilF (by with_unfolding_all rfl) ?_) | apply Sel.drop | apply Sel.dropF)) ?_
                              refine wa_skip 15 (by kernel_rfl) rfl rfl rfl rfl rfl rfl (by repeat (first | exact Sel.all | exact Sel.none | exact Sel.hd | (apply Sel.one; · repeat (first | exact Pick.h | apply Pick.t | apply Pick.app)) | apply Sel.app | (with_reducible apply Sel.grp; · repeat (first | exact PickF.h | apply PickF.t | apply PickF.a)) | (with_reducible refine Sel.nilF (by with_unfolding_all rfl) ?_) | apply Sel.drop | apply Sel.dropF)) ?_
                              refine wa_skip 16 (by kernel_rfl) rfl rfl rfl rfl rfl rfl (by repeat (first | exact Sel.all | exact Sel.none | exact Sel.hd | (apply Sel.one; · repeat (first | exact Pick.h | apply Pick.t | apply Pick.app)) | apply Sel.app | (with_reducible apply Sel.grp; · repeat (first | exact PickF.h | apply PickF.t | apply PickF.a)) | (with_reducible refine Sel.nilF (by with_unfolding_all rfl) ?_) | apply Sel.drop | apply Sel.dropF)) ?_
                              refine wa_take 17 (by kernel_rfl) rfl rfl rfl rfl (by repeat (first | exact Sel.all | exact Sel.none | exact Sel.hd | (apply Sel.one; · repeat (first | exact Pick.h | apply Pick.t | apply Pick.app)) | apply Sel.app | (with_reducible apply Sel.grp; · repeat (first | exact PickF.h | apply PickF.t | apply PickF.a)) | (with_reducible refine Sel.nilF (by with_unfolding_all rfl) ?_) | apply Sel.drop | apply Sel.dropF)) (ePk rfl rfl) ?_
                              refine wa_nil (by kernel_rfl) ?_
                              refine wc_else rfl ?_
                              refine wc_skip ?_
                              refine wc_region ?_
                              first | refine wl rfl (OP.ev rfl rfl (eAdd rfl rfl (by omega)) ?_) | refine wl rfl (OP.ev rfl rfl (eAddW rfl rfl) ?_)
                              refine wl rfl (OP.ev rfl rfl (eMv rfl) ?_)
                              refine wl_nil ?_
                              exact ⟨(i + 1, (d.does k).2, D5, I5), ⟨by show i + 1 ≤ _; omega, hd6, hmn.does k, hD5, by show (d.does k).2.acts.length ≤ i + 1; omega, by show (d.does k).2.room = r; omega⟩, by show _ - (i + 1) < _; omega, ⟨rfl, rfl, rfl, rfl, rfl, trivial⟩, (by repeat (first | exact Sel.all | exact Sel.none | exact Sel.hd | (apply Sel.one; · repeat (first | exact Pick.h | apply Pick.t | apply Pick.app)) | apply Sel.app | (with_reducible apply Sel.grp; · repeat (first | exact PickF.h | apply PickF.t | apply PickF.a)) | (with_reducible refine Sel.nilF (by with_unfolding_all rfl) ?_) | apply Sel.drop | apply Sel.dropF))⟩)))
                  | false =>
                    try have c_t48 := df h48
                    first
                    | (exfalso; omega)
                    | (
                      refine wl_skip rfl rfl rfl rfl rfl ?_
                      refine wl_skip rfl rfl rfl rfl rfl ?_
                      refine wl_go rfl rfl (OP.ev rfl rfl (ePk rfl rfl) ?_)
                      refine wl_go rfl rfl (OP.ev rfl rfl (eMv rfl) ?_)
                      refine wl_skip rfl rfl rfl rfl rfl ?_
                      refine wl_skip rfl rfl rfl rfl rfl ?_
                      refine wl_skip rfl rfl rfl rfl rfl ?_
                      refine wl_skip rfl rfl rfl rfl rfl ?_
                      refine wl_skip rfl rfl rfl rfl rfl ?_
                      refine wl_skipU rfl rfl rfl rfl ?_
                      refine wl_skipU rfl rfl rfl rfl ?_
                      refine wl_skipU rfl rfl rfl rfl ?_
                      refine wl_skipU rfl rfl rfl rfl ?_
                      refine wl_skipU rfl rfl rfl rfl ?_
                      refine wl_skip rfl rfl rfl rfl rfl ?_
                      refine wl_go rfl rfl (OP.ev rfl rfl (ePk rfl rfl) ?_)
                      refine wl rfl (OP.ev rfl rfl (ePk rfl rfl) ?_)
                      refine wl_nil ?_
                      refine wc_else rfl ?_
                      refine wc_skip ?_
                      refine wc_seq ?_
                      refine wc_draw [(b8, .cells (cC k) 39 (0, 0))] rfl ?_
                      refine wa_take 0 (by kernel_rfl) rfl rfl rfl rfl (by repeat (first | exact Sel.all | exact Sel.none | exact Sel.hd | (apply Sel.one; · repeat (first | exact Pick.h | apply Pick.t | apply Pick.app)) | apply Sel.app | (with_reducible apply Sel.grp; · repeat (first | exact PickF.h | apply PickF.t | apply PickF.a)) | (with_reducible refine Sel.nilF (by with_unfolding_all rfl) ?_) | apply Sel.drop | apply Sel.dropF)) (eMv rfl) ?_
                      refine wa_takeb 1 (by kernel_rfl) rfl rfl rfl rfl (by repeat (first | exact Sel.all | exact Sel.none | exact Sel.hd | (apply Sel.one; · repeat (first | exact Pick.h | apply Pick.t | apply Pick.app)) | apply Sel.app | (with_reducible apply Sel.grp; · repeat (first | exact PickF.h | apply PickF.t | apply PickF.a)) | (with_reducible refine Sel.nilF (by with_unfolding_all rfl) ?_) | apply Sel.drop | apply Sel.dropF)) (eEq rfl rfl) fun t68 h68 => ?_
                      refine wa_take 2 (by kernel_rfl) rfl rfl rfl rfl (by repeat (first | exact Sel.all | exact Sel.none | exact Sel.hd | (apply Sel.one; · repeat (first | exact Pick.h | apply Pick.t | apply Pick.app)) | apply Sel.app | (with_reducible apply Sel.grp; · repeat (first | exact PickF.h | apply PickF.t | apply PickF.a)) | (with_reducible refine Sel.nilF (by with_unfolding_all rfl) ?_) | apply Sel.drop | apply Sel.dropF)) (eMv rfl) ?_
                      cases t68 with
                      | true =>
                        try have c_t68 := dt h68
                        first
                        | (exfalso; omega)
                        | (
                          refine wa_takeg 3 (by kernel_rfl) rfl rfl rfl rfl rfl (by repeat (first | exact Sel.all | exact Sel.none | exact Sel.hd | (apply Sel.one; · repeat (first | exact Pick.h | apply Pick.t | apply Pick.app)) | apply Sel.app | (with_reducible apply Sel.grp; · repeat (first | exact PickF.h | apply PickF.t | apply PickF.a)) | (with_reducible refine Sel.nilF (by with_unfolding_all rfl) ?_) | apply Sel.drop | apply Sel.dropF)) (eMv rfl) ?_
                          refine wa_takeg 5 (by kernel_rfl) rfl rfl rfl rfl rfl (by repeat (first | exact Sel.all | exact Sel.none | exact Sel.hd | (apply Sel.one; · repeat (first | exact Pick.h | apply Pick.t | apply Pick.app)) | apply Sel.app | (with_reducible apply Sel.grp; · repeat (first | exact PickF.h | apply PickF.t | apply PickF.a)) | (with_reducible refine Sel.nilF (by with_unfolding_all rfl) ?_) | apply Sel.drop | apply Sel.dropF)) (eFld 4 ty39 rfl rfl ty30 rfl) ?_
                          first | refine wa_takeg 6 (by kernel_rfl) rfl rfl rfl rfl rfl (by repeat (first | exact Sel.all | exact Sel.none | exact Sel.hd | (apply Sel.one; · repeat (first | exact Pick.h | apply Pick.t | apply Pick.app)) | apply Sel.app | (with_reducible apply Sel.grp; · repeat (first | exact PickF.h | apply PickF.t | apply PickF.a)) | (with_reducible refine Sel.nilF (by with_unfolding_all rfl) ?_) | apply Sel.drop | apply Sel.dropF)) (eLd ty30 rfl rfl (by repeat (first | exact Has.h | apply Has.t | apply Has.app)) (by rfl)) ?_ | refine wa_takeg 6 (by kernel_rfl) rfl rfl rfl rfl rfl (by repeat (first | exact Sel.all | exact Sel.none | exact Sel.hd | (apply Sel.one; · repeat (first | exact Pick.h | apply Pick.t | apply Pick.app)) | apply Sel.app | (with_reducible apply Sel.grp; · repeat (first | exact PickF.h | apply PickF.t | apply PickF.a)) | (with_reducible refine Sel.nilF (by with_unfolding_all rfl) ?_) | apply Sel.drop | apply Sel.dropF)) (eLdO ty30 rfl rfl (by assumption)) ?_
                          refine wa_takeg 7 (by kernel_rfl) rfl rfl rfl rfl rfl (by repeat (first | exact Sel.all | exact Sel.none | exact Sel.hd | (apply Sel.one; · repeat (first | exact Pick.h | apply Pick.t | apply Pick.app)) | apply Sel.app | (with_reducible apply Sel.grp; · repeat (first | exact PickF.h | apply PickF.t | apply PickF.a)) | (with_reducible refine Sel.nilF (by with_unfolding_all rfl) ?_) | apply Sel.drop | apply Sel.dropF)) (eLenR ty30 rfl (hkr _).rs) ?_
                          refine wa_takeg 9 (by kernel_rfl) rfl rfl rfl rfl rfl (by repeat (first | exact Sel.all | exact Sel.none | exact Sel.hd | (apply Sel.one; · repeat (first | exact Pick.h | apply Pick.t | apply Pick.app)) | apply Sel.app | (with_reducible apply Sel.grp; · repeat (first | exact PickF.h | apply PickF.t | apply PickF.a)) | (with_reducible refine Sel.nilF (by with_unfolding_all rfl) ?_) | apply Sel.drop | apply Sel.dropF)) (eMv rfl) ?_
                          refine wa_all [4] (by kernel_rfl) rfl ⟨⟨_, rfl, .inr ⟨_, _, rfl, rfl⟩, ?_⟩, trivial⟩
                          refine oC rfl pf25 rfl (used_ok bc d hd Dc _ hDc (by omega)) (by repeat (first | exact Sel.all | exact Sel.none | exact Sel.hd | (apply Sel.one; · repeat (first | exact Pick.h | apply Pick.t | apply Pick.app)) | apply Sel.app | (with_reducible apply Sel.grp; · repeat (first | exact PickF.h | apply PickF.t | apply PickF.a)) | (with_reducible refine Sel.nilF (by with_unfolding_all rfl) ?_) | apply Sel.drop | apply Sel.dropF)) ?_
                          rintro _ _ ⟨rfl, rfl⟩
                          refine ⟨(by repeat (first | exact Sel.all | exact Sel.none | exact Sel.hd | (apply Sel.one; · repeat (first | exact Pick.h | apply Pick.t | apply Pick.app)) | apply Sel.app | (with_reducible apply Sel.grp; · repeat (first | exact PickF.h | apply PickF.t | apply PickF.a)) | (with_reducible refine Sel.nilF (by with_unfolding_all rfl) ?_) | apply Sel.drop | apply Sel.dropF)), ?_⟩
                          first | refine wa_takeg 8 (by kernel_rfl) rfl rfl rfl rfl rfl (by repeat (first | exact Sel.all | exact Sel.none | exact Sel.hd | (apply Sel.one; · repeat (first | exact Pick.h | apply Pick.t | apply Pick.app)) | apply Sel.app | (with_reducible apply Sel.grp; · repeat (first | exact PickF.h | apply PickF.t | apply PickF.a)) | (with_reducible refine Sel.nilF (by with_unfolding_all rfl) ?_) | apply Sel.drop | apply Sel.dropF)) (eAdd rfl rfl (by omega)) ?_ | refine wa_takeg 8 (by kernel_rfl) rfl rfl rfl rfl rfl (by repeat (first | exact Sel.all | exact Sel.none | exact Sel.hd | (apply Sel.one; · repeat (first | exact Pick.h | apply Pick.t | apply Pick.app)) | apply Sel.app | (with_reducible apply Sel.grp; · repeat (first | exact PickF.h | apply PickF.t | apply PickF.a)) | (with_reducible refine Sel.nilF (by with_unfolding_all rfl) ?_) | apply Sel.drop | apply Sel.dropF)) (eAddW rfl rfl) ?_
                          refine wa_takegb 10 (by kernel_rfl) rfl rfl rfl rfl rfl (by repeat (first | exact Sel.all | exact Sel.none | exact Sel.hd | (apply Sel.one; · repeat (first | exact Pick.h | apply Pick.t | apply Pick.app)) | apply Sel.app | (with_reducible apply Sel.grp; · repeat (first | exact PickF.h | apply PickF.t | apply PickF.a)) | (with_reducible refine Sel.nilF (by with_unfolding_all rfl) ?_) | apply Sel.drop | apply Sel.dropF)) (eLe rfl rfl) fun t77 h77 => ?_
                          refine wa_take 11 (by kernel_rfl) rfl rfl rfl rfl (by repeat (first | exact Sel.all | exact Sel.none | exact Sel.hd | (apply Sel.one; · repeat (first | exact Pick.h | apply Pick.t | apply Pick.app)) | apply Sel.app | (with_reducible apply Sel.grp; · repeat (first | exact PickF.h | apply PickF.t | apply PickF.a)) | (with_reducible refine Sel.nilF (by with_unfolding_all rfl) ?_) | apply Sel.drop | apply Sel.dropF)) (ePk rfl rfl) ?_
                          refine wa_take 12 (by kernel_rfl) rfl rfl rfl rfl (by repeat (first | exact Sel.all | exact Sel.none | exact Sel.hd | (apply Sel.one; · repeat (first | exact Pick.h | apply Pick.t | apply Pick.app)) | apply Sel.app | (with_reducible apply Sel.grp; · repeat (first | exact PickF.h | apply PickF.t | apply PickF.a)) | (with_reducible refine Sel.nilF (by with_unfolding_all rfl) ?_) | apply Sel.drop | apply Sel.dropF)) (eMv rfl) ?_
                          cases t77 with
                          | true =>
                            try have c_t77 := dt h77
                            first
                            | (exfalso; omega)
                            | (
                              refine wa_takeg 13 (by kernel_rfl) rfl rfl rfl rfl rfl (by repeat (first | exact Sel.all | exact Sel.none | exact Sel.hd | (apply Sel.one; · repeat (first | exact Pick.h | apply Pick.t | apply Pick.app)) | apply Sel.app | (with_reducible apply Sel.grp; · repeat (first | exact PickF.h | apply PickF.t | apply PickF.a)) | (with_reducible refine Sel.nilF (by with_unfolding_all rfl) ?_) | apply Sel.drop | apply Sel.dropF)) (eMv rfl) ?_
                              refine wa_all [14] (by kernel_rfl) rfl ⟨⟨_, rfl, .inr ⟨_, _, rfl, rfl⟩, ?_⟩, trivial⟩
                              refine oC rfl pf17 rfl (list_ok bc d hd Dc _ hDc) (by repeat (first | exact Sel.all | exact Sel.none | exact Sel.hd | (apply Sel.one; · repeat (first | exact Pick.h | apply Pick.t | apply Pick.app)) | apply Sel.app | (with_reducible apply Sel.grp; · repeat (first | exact PickF.h | apply PickF.t | apply PickF.a)) | (with_reducible refine Sel.nilF (by with_unfolding_all rfl) ?_) | apply Sel.drop | apply Sel.dropF)) ?_
                              rintro v81 _ ⟨cs81, hrow81, rfl⟩
                              refine ⟨(by repeat (first | exact Sel.all | exact Sel.none | exact Sel.hd | (apply Sel.one; · repeat (first | exact Pick.h | apply Pick.t | apply Pick.app)) | apply Sel.app | (with_reducible apply Sel.grp; · repeat (first | exact PickF.h | apply PickF.t | apply PickF.a)) | (with_reducible refine Sel.nilF (by with_unfolding_all rfl) ?_) | apply Sel.drop | apply Sel.dropF)), ?_⟩
                              refine wa_takeg 15 (by kernel_rfl) rfl rfl rfl rfl rfl (by repeat (first | exact Sel.all | exact Sel.none | exact Sel.hd | (apply Sel.one; · repeat (first | exact Pick.h | apply Pick.t | apply Pick.app)) | apply Sel.app | (with_reducible apply Sel.grp; · repeat (first | exact PickF.h | apply PickF.t | apply PickF.a)) | (with_reducible refine Sel.nilF (by with_unfolding_all rfl) ?_) | apply Sel.drop | apply Sel.dropF)) (eLenRow ty33 rfl hrow81) ?_
                              refine wa_takegb 16 (by kernel_rfl) rfl rfl rfl rfl rfl (by repeat (first | exact Sel.all | exact Sel.none | exact Sel.hd | (apply Sel.one; · repeat (first | exact Pick.h | apply Pick.t | apply Pick.app)) | apply Sel.app | (with_reducible apply Sel.grp; · repeat (first | exact PickF.h | apply PickF.t | apply PickF.a)) | (with_reducible refine Sel.nilF (by with_unfolding_all rfl) ?_) | apply Sel.drop | apply Sel.dropF)) (eLt rfl rfl) fun t83 h83 => ?_
                              refine wa_take 17 (by kernel_rfl) rfl rfl rfl rfl (by repeat (first | exact Sel.all | exact Sel.none | exact Sel.hd | (apply Sel.one; · repeat (first | exact Pick.h | apply Pick.t | apply Pick.app)) | apply Sel.app | (with_reducible apply Sel.grp; · repeat (first | exact PickF.h | apply PickF.t | apply PickF.a)) | (with_reducible refine Sel.nilF (by with_unfolding_all rfl) ?_) | apply Sel.drop | apply Sel.dropF)) (ePk rfl rfl) ?_
                              refine wa_nil (by kernel_rfl) ?_
                              cases t83 with
                              | true =>
                                try have c_t83 := dt h83
                                first
                                | (exfalso; omega)
                                | (
                                  refine wc_then rfl ?_
                                  refine wc_seq ?_
                                  refine wc_region ?_
                                  refine wl rfl (OP.ev rfl rfl (eAs rfl) ?_)
                                  refine wl_nil ?_
                                  refine wc_ret ?_
                                  apply at_ret rfl
                                  · exact (.cons (.tmp rfl) .nil)
                                  · exact ⟨rfl, rfl⟩
                                  · exact (by repeat (first | exact Sel.all | exact Sel.none | exact Sel.hd | (apply Sel.one; · repeat (first | exact Pick.h | apply Pick.t | apply Pick.app)) | apply Sel.app | (with_reducible apply Sel.grp; · repeat (first | exact PickF.h | apply PickF.t | apply PickF.a)) | (with_reducible refine Sel.nilF (by with_unfolding_all rfl) ?_) | apply Sel.drop | apply Sel.dropF)))
                              | false =>
                                try have c_t83 := df h83
                                first
                                | (exfalso; omega)
                                | (
                                  refine wc_else rfl ?_
                                  refine wc_skip ?_
                                  refine wc_region ?_
                                  first | refine wl rfl (OP.ev rfl rfl (eAdd rfl rfl (by omega)) ?_) | refine wl rfl (OP.ev rfl rfl (eAddW rfl rfl) ?_)
                                  refine wl rfl (OP.ev rfl rfl (eMv rfl) ?_)
                                  refine wl_nil ?_
                                  exact ⟨(i + 1, (d.does k).2, D5, I5), ⟨by show i + 1 ≤ _; omega, hd6, hmn.does k, hD5, by show (d.does k).2.acts.length ≤ i + 1; omega, by show (d.does k).2.room = r; omega⟩, by show _ - (i + 1) < _; omega, ⟨rfl, rfl, rfl, rfl, rfl, trivial⟩, (by repeat (first | exact Sel.all | exact Sel.none | exact Sel.hd | (apply Sel.one; · repeat (first | exact Pick.h | apply Pick.t | apply Pick.app)) | apply Sel.app | (with_reducible apply Sel.grp; · repeat (first | exact PickF.h | apply PickF.t | apply PickF.a)) | (with_reducible refine Sel.nilF (by with_unfolding_all rfl) ?_) | apply Sel.drop | apply Sel.dropF))⟩))
                          | false =>
                            try have c_t77 := df h77
                            first
                            | (exfalso; omega)
                            | (
                              refine wa_skip 13 (by kernel_rfl) rfl rfl rfl rfl rfl rfl (by repeat (first | exact Sel.all | exact Sel.none | exact Sel.hd | (apply Sel.one; · repeat (first | exact Pick.h | apply Pick.t | apply Pick.app)) | apply Sel.app | (with_reducible apply Sel.grp; · repeat (first | exact PickF.h | apply PickF.t | apply PickF.a)) | (with_reducible refine Sel.nilF (by with_unfolding_all rfl) ?_) | apply Sel.drop | apply Sel.dropF)) ?_
                              refine wa_skip 14 (by kernel_rfl) rfl rfl rfl rfl rfl rfl (by repeat (first | exact Sel.all | exact Sel.none | exact Sel.hd | (apply Sel.one; · repeat (first | exact Pick.h | apply Pick.t | apply Pick.app)) | apply Sel.app | (with_reducible apply Sel.grp; · repeat (first | exact PickF.h | apply PickF.t | apply PickF.a)) | (with_reducible refine Sel.nilF (by with_unfolding_all rfl) ?_) | apply Sel.drop | apply Sel.dropF)) ?_
                              refine wa_skip 15 (by kernel_rfl) rfl rfl rfl rfl rfl rfl (by repeat (first | exact Sel.all | exact Sel.none | exact Sel.hd | (apply Sel.one; · repeat (first | exact Pick.h | apply Pick.t | apply Pick.app)) | apply Sel.app | (with_reducible apply Sel.grp; · repeat (first | exact PickF.h | apply PickF.t | apply PickF.a)) | (with_reducible refine Sel.nilF (by with_unfolding_all rfl) ?_) | apply Sel.drop | apply Sel.dropF)) ?_
                              refine wa_skip 16 (by kernel_rfl) rfl rfl rfl rfl rfl rfl (by repeat (first | exact Sel.all | exact Sel.none | exact Sel.hd | (apply Sel.one; · repeat (first | exact Pick.h | apply Pick.t | apply Pick.app)) | apply Sel.app | (with_reducible apply Sel.grp; · repeat (first | exact PickF.h | apply PickF.t | apply PickF.a)) | (with_reducible refine Sel.nilF (by with_unfolding_all rfl) ?_) | apply Sel.drop | apply Sel.dropF)) ?_
                              refine wa_take 17 (by kernel_rfl) rfl rfl rfl rfl (by repeat (first | exact Sel.all | exact Sel.none | exact Sel.hd | (apply Sel.one; · repeat (first | exact Pick.h | apply Pick.t | apply Pick.app)) | apply Sel.app | (with_reducible apply Sel.grp; · repeat (first | exact PickF.h | apply PickF.t | apply PickF.a)) | (with_reducible refine Sel.nilF (by with_unfolding_all rfl) ?_) | apply Sel.drop | apply Sel.dropF)) (ePk rfl rfl) ?_
                              refine wa_nil (by kernel_rfl) ?_
                              refine wc_else rfl ?_
                              refine wc_skip ?_
                              refine wc_region ?_
                              first | refine wl rfl (OP.ev rfl rfl (eAdd rfl rfl (by omega)) ?_) | refine wl rfl (OP.ev rfl rfl (eAddW rfl rfl) ?_)
                              refine wl rfl (OP.ev rfl rfl (eMv rfl) ?_)
                              refine wl_nil ?_
                              exact ⟨(i + 1, (d.does k).2, D5, I5), ⟨by show i + 1 ≤ _; omega, hd6, hmn.does k, hD5, by show (d.does k).2.acts.length ≤ i + 1; omega, by show (d.does k).2.room = r; omega⟩, by show _ - (i + 1) < _; omega, ⟨rfl, rfl, rfl, rfl, rfl, trivial⟩, (by repeat (first | exact Sel.all | exact Sel.none | exact Sel.hd | (apply Sel.one; · repeat (first | exact Pick.h | apply Pick.t | apply Pick.app)) | apply Sel.app | (with_reducible apply Sel.grp; · repeat (first | exact PickF.h | apply PickF.t | apply PickF.a)) | (with_reducible refine Sel.nilF (by with_unfolding_all rfl) ?_) | apply Sel.drop | apply Sel.dropF))⟩))
                      | false =>
                        try have c_t68 := df h68
                        first
                        | (exfalso; omega)
                        | (
                          refine wa_skip 3 (by kernel_rfl) rfl rfl rfl rfl rfl rfl (by repeat (first | exact Sel.all | exact Sel.none | exact Sel.hd | (apply Sel.one; · repeat (first | exact Pick.h | apply Pick.t | apply Pick.app)) | apply Sel.app | (with_reducible apply Sel.grp; · repeat (first | exact PickF.h | apply PickF.t | apply PickF.a)) | (with_reducible refine Sel.nilF (by with_unfolding_all rfl) ?_) | apply Sel.drop | apply Sel.dropF)) ?_
                          refine wa_skip 4 (by kernel_rfl) rfl rfl rfl rfl rfl rfl (by repeat (first | exact Sel.all | exact Sel.none | exact Sel.hd | (apply Sel.one; · repeat (first | exact Pick.h | apply Pick.t | apply Pick.app)) | apply Sel.app | (with_reducible apply Sel.grp; · repeat (first | exact PickF.h | apply PickF.t | apply PickF.a)) | (with_reducible refine Sel.nilF (by with_unfolding_all rfl) ?_) | apply Sel.drop | apply Sel.dropF)) ?_
                          refine wa_skip 5 (by kernel_rfl) rfl rfl rfl rfl rfl rfl (by repeat (first | exact Sel.all | exact Sel.none | exact Sel.hd | (apply Sel.one; · repeat (first | exact Pick.h | apply Pick.t | apply Pick.app)) | apply Sel.app | (with_reducible apply Sel.grp; · repeat (first | exact PickF.h | apply PickF.t | apply PickF.a)) | (with_reducible refine Sel.nilF (by with_unfolding_all rfl) ?_) | apply Sel.drop | apply Sel.dropF)) ?_
                          refine wa_skip 6 (by kernel_rfl) rfl rfl rfl rfl rfl rfl (by repeat (first | exact Sel.all | exact Sel.none | exact Sel.hd | (apply Sel.one; · repeat (first | exact Pick.h | apply Pick.t | apply Pick.app)) | apply Sel.app | (with_reducible apply Sel.grp; · repeat (first | exact PickF.h | apply PickF.t | apply PickF.a)) | (with_reducible refine Sel.nilF (by with_unfolding_all rfl) ?_) | apply Sel.drop | apply Sel.dropF)) ?_
                          refine wa_skip 7 (by kernel_rfl) rfl rfl rfl rfl rfl rfl (by repeat (first | exact Sel.all | exact Sel.none | exact Sel.hd | (apply Sel.one; · repeat (first | exact Pick.h | apply Pick.t | apply Pick.app)) | apply Sel.app | (with_reducible apply Sel.grp; · repeat (first | exact PickF.h | apply PickF.t | apply PickF.a)) | (with_reducible refine Sel.nilF (by with_unfolding_all rfl) ?_) | apply Sel.drop | apply Sel.dropF)) ?_
                          refine wa_skip 8 (by kernel_rfl) rfl rfl rfl rfl rfl rfl (by repeat (first | exact Sel.all | exact Sel.none | exact Sel.hd | (apply Sel.one; · repeat (first | exact Pick.h | apply Pick.t | apply Pick.app)) | apply Sel.app | (with_reducible apply Sel.grp; · repeat (first | exact PickF.h | apply PickF.t | apply PickF.a)) | (with_reducible refine Sel.nilF (by with_unfolding_all rfl) ?_) | apply Sel.drop | apply Sel.dropF)) ?_
                          refine wa_skip 9 (by kernel_rfl) rfl rfl rfl rfl rfl rfl (by repeat (first | exact Sel.all | exact Sel.none | exact Sel.hd | (apply Sel.one; · repeat (first | exact Pick.h | apply Pick.t | apply Pick.app)) | apply Sel.app | (with_reducible apply Sel.grp; · repeat (first | exact PickF.h | apply PickF.t | apply PickF.a)) | (with_reducible refine Sel.nilF (by with_unfolding_all rfl) ?_) | apply Sel.drop | apply Sel.dropF)) ?_
                          refine wa_skip 10 (by kernel_rfl) rfl rfl rfl rfl rfl rfl (by repeat (first | exact Sel.all | exact Sel.none | exact Sel.hd | (apply Sel.one; · repeat (first | exact Pick.h | apply Pick.t | apply Pick.app)) | apply Sel.app | (with_reducible apply Sel.grp; · repeat (first | exact PickF.h | apply PickF.t | apply PickF.a)) | (with_reducible refine Sel.nilF (by with_unfolding_all rfl) ?_) | apply Sel.drop | apply Sel.dropF)) ?_
                          refine wa_take 11 (by kernel_rfl) rfl rfl rfl rfl (by repeat (first | exact Sel.all | exact Sel.none | exact Sel.hd | (apply Sel.one; · repeat (first | exact Pick.h | apply Pick.t | apply Pick.app)) | apply Sel.app | (with_reducible apply Sel.grp; · repeat (first | exact PickF.h | apply PickF.t | apply PickF.a)) | (with_reducible refine Sel.nilF (by with_unfolding_all rfl) ?_) | apply Sel.drop | apply Sel.dropF)) (ePk rfl rfl) ?_
                          refine wa_take 12 (by kernel_rfl) rfl rfl rfl rfl (by repeat (first | exact Sel.all | exact Sel.none | exact Sel.hd | (apply Sel.one; · repeat (first | exact Pick.h | apply Pick.t | apply Pick.app)) | apply Sel.app | (with_reducible apply Sel.grp; · repeat (first | exact PickF.h | apply PickF.t | apply PickF.a)) | (with_reducible refine Sel.nilF (by with_unfolding_all rfl) ?_) | apply Sel.drop | apply Sel.dropF)) (eMv rfl) ?_
                          refine wa_skip 13 (by kernel_rfl) rfl rfl rfl rfl rfl rfl (by repeat (first | exact Sel.all | exact Sel.none | exact Sel.hd | (apply Sel.one; · repeat (first | exact Pick.h | apply Pick.t | apply Pick.app)) | apply Sel.app | (with_reducible apply Sel.grp; · repeat (first | exact PickF.h | apply PickF.t | apply PickF.a)) | (with_reducible refine Sel.nilF (by with_unfolding_all rfl) ?_) | apply Sel.drop | apply Sel.dropF)) ?_
                          refine wa_skip 14 (by kernel_rfl) rfl rfl rfl rfl rfl rfl (by repeat (first | exact Sel.all | exact Sel.none | exact Sel.hd | (apply Sel.one; · repeat (first | exact Pick.h | apply Pick.t | apply Pick.app)) | apply Sel.app | (with_reducible apply Sel.grp; · repeat (first | exact PickF.h | apply PickF.t | apply PickF.a)) | (with_reducible refine Sel.nilF (by with_unfolding_all rfl) ?_) | apply Sel.drop | apply Sel.dropF)) ?_
                          refine wa_skip 15 (by kernel_rfl) rfl rfl rfl rfl rfl rfl (by repeat (first | exact Sel.all | exact Sel.none | exact Sel.hd | (apply Sel.one; · repeat (first | exact Pick.h | apply Pick.t | apply Pick.app)) | apply Sel.app | (with_reducible apply Sel.grp; · repeat (first | exact PickF.h | apply PickF.t | apply PickF.a)) | (with_reducible refine Sel.nilF (by with_unfolding_all rfl) ?_) | apply Sel.drop | apply Sel.dropF)) ?_
                          refine wa_skip 16 (by kernel_rfl) rfl rfl rfl rfl rfl rfl (by repeat (first | exact Sel.all | exact Sel.none | exact Sel.hd | (apply Sel.one; · repeat (first | exact Pick.h | apply Pick.t | apply Pick.app)) | apply Sel.app | (with_reducible apply Sel.grp; · repeat (first | exact PickF.h | apply PickF.t | apply PickF.a)) | (with_reducible refine Sel.nilF (by with_unfolding_all rfl) ?_) | apply Sel.drop | apply Sel.dropF)) ?_
                          refine wa_take 17 (by kernel_rfl) rfl rfl rfl rfl (by repeat (first | exact Sel.all | exact Sel.none | exact Sel.hd | (apply Sel.one; · repeat (first | exact Pick.h | apply Pick.t | apply Pick.app)) | apply Sel.app | (with_reducible apply Sel.grp; · repeat (first | exact PickF.h | apply PickF.t | apply PickF.a)) | (with_reducible refine Sel.nilF (by with_unfolding_all rfl) ?_) | apply Sel.drop | apply Sel.dropF)) (ePk rfl rfl) ?_
                          refine wa_nil (by kernel_rfl) ?_
                          refine wc_else rfl ?_
                          refine wc_skip ?_
                          refine wc_region ?_
                          first | refine wl rfl (OP.ev rfl rfl (eAdd rfl rfl (by omega)) ?_) | refine wl rfl (OP.ev rfl rfl (eAddW rfl rfl) ?_)
                          refine wl rfl (OP.ev rfl rfl (eMv rfl) ?_)
                          refine wl_nil ?_
                          exact ⟨(i + 1, (d.does k).2, D5, I5), ⟨by show i + 1 ≤ _; omega, hd6, hmn.does k, hD5, by show (d.does k).2.acts.length ≤ i + 1; omega, by show (d.does k).2.room = r; omega⟩, by show _ - (i + 1) < _; omega, ⟨rfl, rfl, rfl, rfl, rfl, trivial⟩, (by repeat (first | exact Sel.all | exact Sel.none | exact Sel.hd | (apply Sel.one; · repeat (first | exact Pick.h | apply Pick.t | apply Pick.app)) | apply Sel.app | (with_reducible apply Sel.grp; · repeat (first | exact PickF.h | apply PickF.t | apply PickF.a)) | (with_reducible refine Sel.nilF (by with_unfolding_all rfl) ?_) | apply Sel.drop | apply Sel.dropF))⟩))))
          | false =>
            try have c_t34 := df h34
            first
            | (exfalso; omega)
            | (
              refine wc_else rfl ?_
              refine wc_exit rfl ?_
              refine wc_seq ?_
              refine wc_region ?_
              refine wl rfl (OP.ev rfl rfl (eMv rfl) ?_)
              refine wl rfl (oC rfl pf14 rfl (start_ok b d D _ hD) (by repeat (first | exact Sel.all | exact Sel.none | exact Sel.hd | (apply Sel.one; · repeat (first | exact Pick.h | apply Pick.t | apply Pick.app)) | apply Sel.app | (with_reducible apply Sel.grp; · repeat (first | exact PickF.h | apply PickF.t | apply PickF.a)) | (with_reducible refine Sel.nilF (by with_unfolding_all rfl) ?_) | apply Sel.drop | apply Sel.dropF)) ?_)
              rintro _ _ ⟨rfl, D1, I1, hI1, hD1, rfl⟩
              refine wl_nil ?_
              refine wc_seq ?_
              refine wc_region ?_
              refine wl rfl (OP.ev rfl rfl (eMv rfl) ?_)
              refine wl rfl (oC rfl pf15 rfl (arm_ok b _ 0 0 0 D1 _ hD1) (by repeat (first | exact Sel.all | exact Sel.none | exact Sel.hd | (apply Sel.one; · repeat (first | exact Pick.h | apply Pick.t | apply Pick.app)) | apply Sel.app | (with_reducible apply Sel.grp; · repeat (first | exact PickF.h | apply PickF.t | apply PickF.a)) | (with_reducible refine Sel.nilF (by with_unfolding_all rfl) ?_) | apply Sel.drop | apply Sel.dropF)) ?_)
              rintro _ _ ⟨rfl, D2, I2, hI2, hD2, rfl⟩
              refine wl_nil ?_
              refine wc_seq ?_
              have hd2 : DOk ((d.start.2).arm 0 0 0).2 := hd.start.arm (by simp [I64]) (by simp [I64]) (by simp [I64])
              have hcm := calm_of d
              have hmn2 : MN ((d.start.2).arm 0 0 0).2 := hmn.start.arm 0 0 0
              have ha2 := arm_acts d 0 0 0
              have hrm2 : ((d.start.2).arm 0 0 0).2.room = d.room := by unfold DK.arm; rw [if_neg (by simp [DK.start])]; rfl
              rw [← ha2] at hda
              rw [← hrm2] at hrm
              clear ha2 hrm2 hD hD1
              generalize ((d.start.2).arm 0 0 0).2 = d2 at hd2 hcm hD2 hda hrm hmn2
              obtain ⟨e1, e2, e3⟩ := end_law hcm 120 0
              have hd3 := (hd2.crash 120 0).start
              have hmn3 := ((hmn2.crash 120 0)).start
              have hac3 : (d2.crash 120 0).2.start.2.acts.length ≤ 1000000 := Nat.le_trans (crash_acts d2 120 0) (by omega)
              refine wc_region ?_
              refine wl rfl (OP.ev rfl rfl (eMv rfl) ?_)
              refine wl rfl (oC rfl pf39 rfl (crash_ok b d2 hd2 120 0 (by simp [I64]) (by simp [I64]) D2 _ hD2 (by omega)) (by repeat (first | exact Sel.all | exact Sel.none | exact Sel.hd | (apply Sel.one; · repeat (first | exact Pick.h | apply Pick.t | apply Pick.app)) | apply Sel.app | (with_reducible apply Sel.grp; · repeat (first | exact PickF.h | apply PickF.t | apply PickF.a)) | (with_reducible refine Sel.nilF (by with_unfolding_all rfl) ?_) | apply Sel.drop | apply Sel.dropF)) ?_)
              rintro _ _ ⟨rfl, D8, I8, hI8, hD8, rfl⟩
              refine wl_nil ?_
              refine wc_seq ?_
              refine wc_region ?_
              refine wl rfl (OP.ev rfl rfl (eMv rfl) ?_)
              refine wl rfl (oC rfl pf14 rfl (start_ok b _ D8 _ hD8) (by repeat (first | exact Sel.all | exact Sel.none | exact Sel.hd | (apply Sel.one; · repeat (first | exact Pick.h | apply Pick.t | apply Pick.app)) | apply Sel.app | (with_reducible apply Sel.grp; · repeat (first | exact PickF.h | apply PickF.t | apply PickF.a)) | (with_reducible refine Sel.nilF (by with_unfolding_all rfl) ?_) | apply Sel.drop | apply Sel.dropF)) ?_)
              rintro _ _ ⟨rfl, D9, I9, hI9, hD9, rfl⟩
              refine wl_nil ?_
              refine wc_seq ?_
              generalize (d2.crash 120 0).2.start.2 = e at e1 e2 e3 hd3 hD9 hmn3 hac3
              have hue := used_le hd3
              have hen := names_le hd3
              have henl := names_len e1
              refine wc_region ?_
              refine wl rfl (OP.ev rfl rfl (eAs rfl) ?_)
              refine wl_nil ?_
              refine wc_seq ?_
              refine wc_seq ?_
              refine wc_region ?_
              refine wl rfl (OP.ev rfl rfl (eMv rfl) ?_)
              refine wl rfl (oC rfl pf17 rfl (list_ok b e hd3 D9 _ hD9) (by repeat (first | exact Sel.all | exact Sel.none | exact Sel.hd | (apply Sel.one; · repeat (first | exact Pick.h | apply Pick.t | apply Pick.app)) | apply Sel.app | (with_reducible apply Sel.grp; · repeat (first | exact PickF.h | apply PickF.t | apply PickF.a)) | (with_reducible refine Sel.nilF (by with_unfolding_all rfl) ?_) | apply Sel.drop | apply Sel.dropF)) ?_)
              rintro v95 _ ⟨cs95, hrow95, rfl⟩
              refine wl rfl (OP.ev rfl rfl (eLenRow ty33 rfl hrow95) ?_)
              refine wl rfl (OP.ev rfl rfl (eMv rfl) ?_)
              refine wl_nil ?_
              refine wc_block ?_
              refine wc_loop (σ := Nat) (fun i => [(0, i64 r), (5, ptr b), (11, i64 ((total (e.seen.take i) : Nat) : Int)), (95, v95), (96, i64 (e.names.length : Int)), (97, i64 (i : Int))]) (fun i => ownH v95 cs95 9 ++ (D9 ++ (I9 ++ []))) (fun i => i ≤ e.names.length) (fun i => e.names.length - i) 0 (Nat.zero_le _) ⟨rfl, rfl, rfl, rfl, rfl, rfl, trivial⟩ (by repeat (first | exact Sel.all | exact Sel.none | exact Sel.hd | (apply Sel.one; · repeat (first | exact Pick.h | apply Pick.t | apply Pick.app)) | apply Sel.app | (with_reducible apply Sel.grp; · repeat (first | exact PickF.h | apply PickF.t | apply PickF.a)) | (with_reducible refine Sel.nilF (by with_unfolding_all rfl) ?_) | apply Sel.drop | apply Sel.dropF)) ?_
              rintro j hj
              refine wc_seq ?_
              refine wc_region ?_
              refine wl rfl (OP.evb rfl rfl (eLt rfl rfl) fun t98 h98 => ?_)
              refine wl_nil ?_
              refine wc_seq ?_
              cases t98 with
              | true =>
                try have c_t98 := dt h98
                first
                | (exfalso; omega)
                | (
                  refine wc_then rfl ?_
                  refine wc_skip ?_
                  refine wc_seq ?_
                  refine wc_block ?_
                  refine wc_seq ?_
                  obtain ⟨n, hn⟩ : ∃ n, e.seen[j]? = some n := ⟨_, List.getElem?_eq_getElem (by omega)⟩
                  have hnn : e.names[j]? = some n.1 := by rw [names_on e1]; simp [hn]
                  have hmem := List.mem_of_getElem? hn
                  have hg : fget e.seen n.1 = some n.2 := (fget_mem hd3.rs.keys).2 hmem
                  have htt := total_take hn
                  have htl := total_take_le e.seen (j + 1)
                  refine wc_region ?_
                  refine wl rfl (OP.ev rfl rfl (eIxS ty33 ty9 rfl (hrow95.rs (by repeat (first | exact At.cell | exact At.h | apply At.t | apply At.a))) rfl (by omega) (by omega)) ?_)
                  refine wl rfl (OP.ev rfl rfl (eLdS (u := strK n.1) ty9 rfl rfl (hrow95.rs (by repeat (first | exact At.cell | exact At.h | apply At.t | apply At.a))) j (by omega) (by simp [hnn])) ?_)
                  refine wl rfl (OP.ev rfl rfl (eAs rfl) ?_)
                  refine wl_nil ?_
                  refine wc_seq ?_
                  refine wc_region ?_
                  refine wl rfl (OP.ev rfl rfl (eMv rfl) ?_)
                  refine wl rfl (OP.ev rfl rfl (eMv rfl) ?_)
                  refine wl rfl (oC rfl pf16 rfl (read_ok b e hd3 n.1 D9 _ hD9) (by repeat (first | exact Sel.all | exact Sel.none | exact Sel.hd | (apply Sel.one; · repeat (first | exact Pick.h | apply Pick.t | apply Pick.app)) | apply Sel.app | (with_reducible apply Sel.grp; · repeat (first | exact PickF.h | apply PickF.t | apply PickF.a)) | (with_reducible refine Sel.nilF (by with_unfolding_all rfl) ?_) | apply Sel.drop | apply Sel.dropF)) ?_)
                  rintro _ _ ⟨w104, cs104, rfl, hrow104, hB104, rfl⟩
                  refine wl rfl (OP.ev rfl rfl (eMv rfl) ?_)
                  refine wl rfl (OP.ev rfl rfl (eExt rfl rfl) ?_)
                  refine wl rfl (OP.ev rfl rfl (eExt rfl rfl) ?_)
                  refine wl rfl (OP.ev rfl rfl (eAs rfl) ?_)
                  refine wl rfl (OP.ev rfl rfl (eAs rfl) ?_)
                  refine wl_nil ?_
                  have hmy : may n.1 = true := hmn3.seen _ hmem
                  have hrd : e.read n.1 = (n.2, 0) := read_here e1 hmy hg
                  rw [hrd] at hrow104
                  dsimp only at hrow104
                  refine wc_region ?_
                  refine wl rfl (OP.ev rfl rfl (eMv rfl) ?_)
                  refine wl rfl (OP.ev rfl rfl (eMv rfl) ?_)
                  refine wl rfl (OP.ev rfl rfl (eLenRow ty30 rfl hrow104) ?_)
                  first | refine wl rfl (OP.ev rfl rfl (eAdd rfl rfl (by omega)) ?_) | refine wl rfl (OP.ev rfl rfl (eAddW rfl rfl) ?_)
                  refine wl rfl (OP.ev rfl rfl (eAs rfl) ?_)
                  refine wl_nil ?_
                  refine wc_region ?_
                  first | refine wl rfl (OP.ev rfl rfl (eAdd rfl rfl (by omega)) ?_) | refine wl rfl (OP.ev rfl rfl (eAddW rfl rfl) ?_)
                  refine wl rfl (OP.ev rfl rfl (eMv rfl) ?_)
                  refine wl_nil ?_
                  exact ⟨j + 1, by omega, by omega, ⟨rfl, rfl, by show some (i64 _) = some (i64 _); congr 2; omega, rfl, rfl, rfl, trivial⟩, (by repeat (first | exact Sel.all | exact Sel.none | exact Sel.hd | (apply Sel.one; · repeat (first | exact Pick.h | apply Pick.t | apply Pick.app)) | apply Sel.app | (with_reducible apply Sel.grp; · repeat (first | exact PickF.h | apply PickF.t | apply PickF.a)) | (with_reducible refine Sel.nilF (by with_unfolding_all rfl) ?_) | apply Sel.drop | apply Sel.dropF))⟩)
              | false =>
                try have c_t98 := df h98
                first
                | (exfalso; omega)
                | (
                  refine wc_else rfl ?_
                  refine wc_exit rfl ?_
                  refine wc_seq ?_
                  rw [List.take_of_length_le (by omega)]
                  refine wc_region ?_
                  refine wl rfl (OP.ev rfl rfl (eMv rfl) ?_)
                  refine wl rfl (OP.ev rfl rfl (eMv rfl) ?_)
                  refine wl rfl (oC rfl pf25 rfl (used_ok b e hd3 D9 _ hD9 hac3) (by repeat (first | exact Sel.all | exact Sel.none | exact Sel.hd | (apply Sel.one; · repeat (first | exact Pick.h | apply Pick.t | apply Pick.app)) | apply Sel.app | (with_reducible apply Sel.grp; · repeat (first | exact PickF.h | apply PickF.t | apply PickF.a)) | (with_reducible refine Sel.nilF (by with_unfolding_all rfl) ?_) | apply Sel.drop | apply Sel.dropF)) ?_)
                  rintro _ _ ⟨rfl, rfl⟩
                  refine wl rfl (OP.evb rfl rfl (eEq rfl rfl) fun t115 h115 => ?_)
                  refine wl rfl (OP.ev rfl rfl (eMv rfl) ?_)
                  cases t115 with
                  | true =>
                    try have c_t115 := dt h115
                    first
                    | (exfalso; omega)
                    | (
                      refine wl_go rfl rfl (OP.ev rfl rfl (eMv rfl) ?_)
                      refine wl_go rfl rfl (OP.ev rfl rfl (eMv rfl) ?_)
                      refine wl_go rfl rfl (OP.evb rfl rfl (eLe rfl rfl) fun t119 h119 => ?_)
                      refine wl rfl (OP.ev rfl rfl (ePk rfl rfl) ?_)
                      refine wl rfl (OP.ev rfl rfl (eMv rfl) ?_)
                      cases t119 with
                      | true =>
                        try have c_t119 := dt h119
                        first
                        | (exfalso; omega)
                        | (
                          refine wl_go rfl rfl (oC rfl pf13 rfl (awake_ok _) (by repeat (first | exact Sel.all | exact Sel.none | exact Sel.hd | (apply Sel.one; · repeat (first | exact Pick.h | apply Pick.t | apply Pick.app)) | apply Sel.app | (with_reducible apply Sel.grp; · repeat (first | exact PickF.h | apply PickF.t | apply PickF.a)) | (with_reducible refine Sel.nilF (by with_unfolding_all rfl) ?_) | apply Sel.drop | apply Sel.dropF)) ?_)
                          rintro _ _ ⟨rfl, rfl⟩
                          refine wl rfl (OP.ev rfl rfl (ePk rfl rfl) ?_)
                          refine wl rfl (OP.ev rfl rfl (eAs rfl) ?_)
                          refine wl_nil ?_
                          refine wc_ret ?_
                          apply at_ret rfl
                          · exact (.cons (.tmp rfl) .nil)
                          · exact ⟨rfl, rfl⟩
                          · exact (by repeat (first | exact Sel.all | exact Sel.none | exact Sel.hd | (apply Sel.one; · repeat (first | exact Pick.h | apply Pick.t | apply Pick.app)) | apply Sel.app | (with_reducible apply Sel.grp; · repeat (first | exact PickF.h | apply PickF.t | apply PickF.a)) | (with_reducible refine Sel.nilF (by with_unfolding_all rfl) ?_) | apply Sel.drop | apply Sel.dropF)))
                      | false =>
                        try have c_t119 := df h119
                        first
                        | (exfalso; omega)
                        | (
                          refine wl_skip rfl rfl rfl rfl rfl ?_
                          refine wl rfl (OP.ev rfl rfl (ePk rfl rfl) ?_)
                          refine wl rfl (OP.ev rfl rfl (eAs rfl) ?_)
                          refine wl_nil ?_
                          refine wc_ret ?_
                          apply at_ret rfl
                          · exact (.cons (.tmp rfl) .nil)
                          · exact ⟨rfl, rfl⟩
                          · exact (by repeat (first | exact Sel.all | exact Sel.none | exact Sel.hd | (apply Sel.one; · repeat (first | exact Pick.h | apply Pick.t | apply Pick.app)) | apply Sel.app | (with_reducible apply Sel.grp; · repeat (first | exact PickF.h | apply PickF.t | apply PickF.a)) | (with_reducible refine Sel.nilF (by with_unfolding_all rfl) ?_) | apply Sel.drop | apply Sel.dropF))))
                  | false =>
                    try have c_t115 := df h115
                    first
                    | (exfalso; omega)
                    | (
                      refine wl_skip rfl rfl rfl rfl rfl ?_
                      refine wl_skip rfl rfl rfl rfl rfl ?_
                      refine wl_skip rfl rfl rfl rfl rfl ?_
                      refine wl rfl (OP.ev rfl rfl (ePk rfl rfl) ?_)
                      refine wl rfl (OP.ev rfl rfl (eMv rfl) ?_)
                      refine wl_skip rfl rfl rfl rfl rfl ?_
                      refine wl rfl (OP.ev rfl rfl (ePk rfl rfl) ?_)
                      refine wl rfl (OP.ev rfl rfl (eAs rfl) ?_)
                      refine wl_nil ?_
                      refine wc_ret ?_
                      apply at_ret rfl
                      · exact (.cons (.tmp rfl) .nil)
                      · exact ⟨rfl, rfl⟩
                      · exact (by repeat (first | exact Sel.all | exact Sel.none | exact Sel.hd | (apply Sel.one; · repeat (first | exact Pick.h | apply Pick.t | apply Pick.app)) | apply Sel.app | (with_reducible apply Sel.grp; · repeat (first | exact PickF.h | apply PickF.t | apply PickF.a)) | (with_reducible refine Sel.nilF (by with_unfolding_all rfl) ?_) | apply Sel.drop | apply Sel.dropF)))))))
end Go.Proofs.Ytahjgjmemijofaa
