/- Contracts of what the laws of the disk share: made, awake. No statement of the seat is proved here. -/
import Derived.Test.YtahjgjmemijofaaLw2
namespace Go.Proofs.Ytahjgjmemijofaa
open Go Eng
set_option linter.unusedVariables false
set_option linter.unusedSimpArgs false
set_option maxRecDepth 4000
variable {W0 : World} {I I' : Heap}

def rm (x m : Int) : Int := IntKind.i64.wrap ((IntKind.u64.wrap x).tmod m)
theorem u64_range (x : Int) : 0 ≤ IntKind.u64.wrap x ∧ IntKind.u64.wrap x < 18446744073709551616 := by
  simp only [IntKind.wrap, IntKind.signed, IntKind.bits]
  constructor
  · simp; omega
  · simp; omega
theorem rm_range (x : Int) {m : Int} (h0 : 0 < m) (h1 : m ≤ 1099511627776) : 0 ≤ rm x m ∧ rm x m < m := by
  obtain ⟨h2, h3⟩ := u64_range x
  have h4 : (IntKind.u64.wrap x).tmod m = (IntKind.u64.wrap x) % m := Int.tmod_eq_emod_of_nonneg h2
  have h5 := Int.emod_nonneg (IntKind.u64.wrap x) (show m ≠ 0 by omega)
  have h6 := Int.emod_lt_of_pos (IntKind.u64.wrap x) h0
  unfold rm
  rw [h4, IntWalk.i64_in _ (by omega)]
  exact ⟨h5, h6⟩

def made (room : Int) (l : List Do) : DK := l.foldl (fun d c => (d.does c).2) (DK.new (rm room 1048576))
theorem foldl_does {X : Heap} : ∀ (l : List Do) (d : DK), DOk d → (∀ c ∈ l, DoR W0 X c) → DOk (l.foldl (fun d c => (d.does c).2) d) ∧ (l.foldl (fun d c => (d.does c).2) d).acts.length ≤ d.acts.length + l.length ∧ (l.foldl (fun d c => (d.does c).2) d).room = d.room := by
  intro l
  induction l with
  | nil => intro d hd _; exact ⟨hd, Nat.le_refl _, rfl⟩
  | cons c r ih =>
    intro d hd h
    have h1 := does_acts d c
    obtain ⟨h2, h3, h4⟩ := ih (d.does c).2 (hd.does (h c List.mem_cons_self)) fun x hx => h x (List.mem_cons_of_mem _ hx)
    refine ⟨h2, ?_, h4.trans h1.2⟩
    rw [List.length_cons]
    exact Nat.le_trans h3 (by omega)
theorem made_dok {X : Heap} (room : Int) {l : List Do} (h : ∀ c ∈ l, DoR W0 X c) : DOk (made room l) ∧ (made room l).acts.length ≤ l.length := by
  have h1 := rm_range room (m := 1048576) (by decide) (by decide)
  obtain ⟨h2, h3, _⟩ := foldl_does l (DK.new (rm room 1048576)) (DOk.new h1.1 (by omega)) h
  exact ⟨h2, Nat.le_trans h3 (by simp [DK.new])⟩
theorem made_snoc (room : Int) {l : List Do} {i : Nat} {c : Do} (h : l[i]? = some c) : made room (l.take (i + 1)) = ((made room (l.take i)).does c).2 := by
  unfold made
  rw [List.take_add_one, h, List.foldl_append]; rfl
theorem cC_one {X : Heap} {c : Do} (h : DoR W0 X c) : (cC c).toList.all Value.oneCell' = true := by
  obtain ⟨ad, k, cp, h1⟩ := h.rs.isSlice
  simp only [cC, h1]; rfl

theorem made_ok (room : Int) (v : Value) (l : List Do) (R : Heap) (hv : Rs W0 R v 8 l.length (dos l)) (hr : ∀ c ∈ l, DoR W0 R c) (hl : l.length ≤ 9223372036854775807) :
    FnC W0 Try.prog 12 #[i64 room, v] R (fun v' L' => (short l = false ∧ ∃ x, v' = .tuple #[x, .bool false] ∧ L' = R) ∨ (short l = true ∧ ∃ b D I', v' = .tuple #[ptr b, .bool true] ∧ DiskR W0 I' (made room l) b D ∧ L' = D ++ (I' ++ R))) := by
  have hrm := rm_range room (m := 1048576) (by decide) (by decide)
  refine fn_of Try.func12 rfl Try.ntmps12 rfl rfl ?_
  refine wc_seq ?_
  refine wc_region ?_
  refine wl rfl (OP.ev rfl rfl (eAs rfl) ?_)
  refine wl rfl (OP.ev rfl rfl (eAs rfl) ?_)
  refine wl_nil ?_
  refine wc_seq ?_
  refine wc_region ?_
  refine wl rfl (OP.ev rfl rfl (eMv rfl) ?_)
  refine wl rfl (OP.ev rfl rfl (eCv ty3 ty44 rfl) ?_)
  refine wl rfl (OP.ev rfl rfl (eRem rfl rfl rfl) ?_)
  refine wl rfl (OP.ev rfl rfl (eCv ty44 ty3 rfl) ?_)
  refine wl rfl (oCA rfl pf26 rfl (new_ok (rm room 1048576) _ ⟨by omega, by omega⟩) ?_)
  rintro v15 _ (⟨h9, _⟩ | ⟨_, b, ms, ml, rfl, rfl⟩)
  · exfalso; omega
  refine wl rfl (OP.ev rfl rfl (eMv rfl) ?_)
  refine wl rfl (OP.ev rfl rfl (eExt rfl rfl) ?_)
  refine wl rfl (OP.ev rfl rfl (eExt rfl rfl) ?_)
  refine wl rfl (OP.ev rfl rfl (eAs rfl) ?_)
  refine wl rfl (OP.ev rfl rfl (eAs rfl) ?_)
  refine wl_nil ?_
  refine wc_seq ?_
  refine wc_seq ?_
  refine wc_region ?_
  refine wl rfl (OP.ev rfl rfl (eMv rfl) ?_)
  refine wl rfl (OP.evb rfl rfl (eNe rfl rfl) fun t19 h19 => ?_)
  refine wl rfl (OP.ev rfl rfl (eMv rfl) ?_)
  cases t19 with
  | true =>
    try have c_t19 := dt h19
    first
    | (exfalso; omega)
    | (
      refine wl_skip rfl rfl rfl rfl rfl ?_
      refine wl_skip rfl rfl rfl rfl rfl ?_
      refine wl_skip rfl rfl rfl rfl rfl ?_
      refine wl rfl (OP.ev rfl rfl (ePk rfl rfl) ?_)
      refine wl_nil ?_
      refine wc_then rfl ?_
      refine wc_seq ?_
      refine wc_region ?_
      refine wl rfl (OP.ev rfl rfl (eMv rfl) ?_)
      refine wl rfl (OP.ev rfl rfl (eAs rfl) ?_)
      refine wl rfl (OP.ev rfl rfl (eAs rfl) ?_)
      refine wl_nil ?_
      refine wc_ret ?_
      apply at_ret rfl
      · exact (.cons (.tmp rfl) (.cons (.tmp rfl) .nil))
      · first
        | exact .inl ⟨by simpa using h23, _, rfl, rfl⟩
        | exact .inr ⟨by simpa using h23, b, D, I, rfl, by rw [List.take_of_length_le (by omega)] at hD; exact hD, rfl⟩
      · exact (by repeat (first | exact Sel.all | exact Sel.none | exact Sel.hd | (apply Sel.one; · repeat (first | exact Pick.h | apply Pick.t | apply Pick.app)) | apply Sel.app | (with_reducible apply Sel.grp; · repeat (first | exact PickF.h | apply PickF.t | apply PickF.a)) | (with_reducible refine Sel.nilF (by with_unfolding_all rfl) ?_) | apply Sel.drop | apply Sel.dropF)))
  | false =>
    try have c_t19 := df h19
    first
    | (exfalso; omega)
    | (
      refine wl_go rfl rfl (OP.ev rfl rfl (eMv rfl) ?_)
      refine wl_go rfl rfl (oCA rfl pf20 rfl (short_ok v l _ (hv.sel (by repeat (first | exact Sel.all | exact Sel.none | exact Sel.hd | (apply Sel.one; · repeat (first | exact Pick.h | apply Pick.t | apply Pick.app)) | apply Sel.app | (with_reducible apply Sel.grp; · repeat (first | exact PickF.h | apply PickF.t | apply PickF.a)) | (with_reducible refine Sel.nilF (by with_unfolding_all rfl) ?_) | apply Sel.drop | apply Sel.dropF))) (fun c hc => (hr c hc).sel (by repeat (first | exact Sel.all | exact Sel.none | exact Sel.hd | (apply Sel.one; · repeat (first | exact Pick.h | apply Pick.t | apply Pick.app)) | apply Sel.app | (with_reducible apply Sel.grp; · repeat (first | exact PickF.h | apply PickF.t | apply PickF.a)) | (with_reducible refine Sel.nilF (by with_unfolding_all rfl) ?_) | apply Sel.drop | apply Sel.dropF))) hl) ?_)
      rintro _ _ ⟨rfl, rfl⟩
      refine wl_go rfl rfl (OP.evb rfl rfl (eNot rfl) fun t23 h23 => ?_)
      refine wl rfl (OP.ev rfl rfl (ePk rfl rfl) ?_)
      refine wl_nil ?_
      cases t23 with
      | true =>
        try have c_t23 := dt h23
        first
        | (exfalso; omega)
        | (
          refine wc_then rfl ?_
          refine wc_seq ?_
          refine wc_region ?_
          refine wl rfl (OP.ev rfl rfl (eMv rfl) ?_)
          refine wl rfl (OP.ev rfl rfl (eAs rfl) ?_)
          refine wl rfl (OP.ev rfl rfl (eAs rfl) ?_)
          refine wl_nil ?_
          refine wc_ret ?_
          apply at_ret rfl
          · exact (.cons (.tmp rfl) (.cons (.tmp rfl) .nil))
          · first
            | exact .inl ⟨by simpa using h23, _, rfl, rfl⟩
            | exact .inr ⟨by simpa using h23, b, D, I, rfl, by rw [List.take_of_length_le (by omega)] at hD; exact hD, rfl⟩
          · exact (by repeat (first | exact Sel.all | exact Sel.none | exact Sel.hd | (apply Sel.one; · repeat (first | exact Pick.h | apply Pick.t | apply Pick.app)) | apply Sel.app | (with_reducible apply Sel.grp; · repeat (first | exact PickF.h | apply PickF.t | apply PickF.a)) | (with_reducible refine Sel.nilF (by with_unfolding_all rfl) ?_) | apply Sel.drop | apply Sel.dropF)))
      | false =>
        try have c_t23 := df h23
        first
        | (exfalso; omega)
        | (
          refine wc_else rfl ?_
          refine wc_skip ?_
          refine wc_seq ?_
          refine wc_seq ?_
          refine wc_region ?_
          refine wl rfl (OP.ev rfl rfl (eMv rfl) ?_)
          refine wl rfl (OP.ev rfl rfl (eLenR ty22 rfl (hv.sel (by repeat (first | exact Sel.all | exact Sel.none | exact Sel.hd | (apply Sel.one; · repeat (first | exact Pick.h | apply Pick.t | apply Pick.app)) | apply Sel.app | (with_reducible apply Sel.grp; · repeat (first | exact PickF.h | apply PickF.t | apply PickF.a)) | (with_reducible refine Sel.nilF (by with_unfolding_all rfl) ?_) | apply Sel.drop | apply Sel.dropF)))) ?_)
          refine wl rfl (OP.ev rfl rfl (eMv rfl) ?_)
          refine wl_nil ?_
          refine wc_block ?_
          refine wc_loop (σ := Nat × Heap × Heap) (fun q => [(6, ptr b), (26, v), (27, i64 (l.length : Int)), (28, i64 (q.1 : Int))]) (fun q => q.2.1 ++ (q.2.2 ++ R)) (fun q => q.1 ≤ l.length ∧ DiskR W0 q.2.2 (made room (l.take q.1)) b q.2.1) (fun q => l.length - q.1) (0, [dkC b (DK.new (rm room 1048576)) ms ml (.slice none 0 0), tC ms [] 0, tC ml [] 0], ([] : Heap)) ⟨Nat.zero_le _, ⟨ms, ml, [], 0, [], 0, _, #[], [], rfl, Tab.nil 0, Tab.nil 0, ActsR.nil⟩⟩ ⟨rfl, rfl, rfl, rfl, trivial⟩ Sel.all ?_
          rintro ⟨i, D, I⟩ ⟨hi, hD⟩
          dsimp only at hi hD ⊢
          refine wc_seq ?_
          refine wc_region ?_
          refine wl rfl (OP.evb rfl rfl (eLt rfl rfl) fun t29 h29 => ?_)
          refine wl_nil ?_
          refine wc_seq ?_
          cases t29 with
          | true =>
            try have c_t29 := dt h29
            first
            | (exfalso; omega)
            | (
              refine wc_then rfl ?_
              refine wc_skip ?_
              refine wc_seq ?_
              refine wc_block ?_
              refine wc_seq ?_
              obtain ⟨c, hc⟩ : ∃ c, l[i]? = some c := ⟨_, List.getElem?_eq_getElem (by omega)⟩
              have hcr := hr c (List.mem_of_getElem? hc)
              have hls : l.length ≤ 120 := by
                have : short l = true := by simpa using h23
                unfold short at this
                simp at this
                exact this.1
              obtain ⟨hdk, hda⟩ := made_dok (X := R) room (l := l.take i) (fun x hx => hr x (List.mem_of_mem_take hx))
              rw [List.length_take] at hda
              refine wc_region ?_
              refine wl rfl (OP.ev rfl rfl (eIxS ty22 ty39 rfl (hv.sel (by repeat (first | exact Sel.all | exact Sel.none | exact Sel.hd | (apply Sel.one; · repeat (first | exact Pick.h | apply Pick.t | apply Pick.app)) | apply Sel.app | (with_reducible apply Sel.grp; · repeat (first | exact PickF.h | apply PickF.t | apply PickF.a)) | (with_reducible refine Sel.nilF (by with_unfolding_all rfl) ?_) | apply Sel.drop | apply Sel.dropF))) rfl (by omega) (by omega)) ?_)
              refine wl rfl (OP.ev rfl rfl (eLdSA (vs := (cC c).toList) ty39 rfl rfl (hv.sel (by repeat (first | exact Sel.all | exact Sel.none | exact Sel.hd | (apply Sel.one; · repeat (first | exact Pick.h | apply Pick.t | apply Pick.app)) | apply Sel.app | (with_reducible apply Sel.grp; · repeat (first | exact PickF.h | apply PickF.t | apply PickF.a)) | (with_reducible refine Sel.nilF (by with_unfolding_all rfl) ?_) | apply Sel.drop | apply Sel.dropF))) (i * 8) (by omega) rfl (dos_at hc) (by decide)) ?_)
              refine wl rfl (oAl rfl ty39 rfl fun b9 => ?_)
              refine wl rfl (oStW ty39 rfl rfl rfl (cC_one hcr) (by repeat (first | exact Upd.h | apply Upd.t | apply Upd.app)) (by rfl) ?_)
              refine wl_nil ?_
              refine wc_region ?_
              refine wl rfl (OP.ev rfl rfl (eMv rfl) ?_)
              first | refine wl rfl (OP.ev rfl rfl (eLdW ty39 rfl rfl (by repeat (first | exact Has.h | apply Has.t | apply Has.app)) (by rfl)) ?_) | refine wl rfl (OP.ev rfl rfl (eLdA (vs := [_, _, _, _, _, _, _, _]) ty39 rfl rfl (by repeat (first | exact Has.h | apply Has.t | apply Has.app)) (by rfl) (by rfl)) ?_) | refine wl rfl (OP.ev rfl rfl (eLdAO ty39 rfl rfl (by assumption) (by assumption)) ?_)
              refine wl rfl (oC rfl pf23 rfl (does_ok b _ hdk c D R hD (hcr.sel (Sel.dropF Sel.all)) (by omega)) (by repeat (first | exact Sel.all | exact Sel.none | exact Sel.hd | (apply Sel.one; · repeat (first | exact Pick.h | apply Pick.t | apply Pick.app)) | apply Sel.app | (with_reducible apply Sel.grp; · repeat (first | exact PickF.h | apply PickF.t | apply PickF.a)) | (with_reducible refine Sel.nilF (by with_unfolding_all rfl) ?_) | apply Sel.drop | apply Sel.dropF)) ?_)
              rintro _ _ ⟨rfl, D1, I1, hI1, hD1, rfl⟩
              refine wl_nil ?_
              refine wc_region ?_
              first | refine wl rfl (OP.ev rfl rfl (eAdd rfl rfl (by omega)) ?_) | refine wl rfl (OP.ev rfl rfl (eAddW rfl rfl) ?_)
              refine wl rfl (OP.ev rfl rfl (eMv rfl) ?_)
              refine wl_nil ?_
              exact ⟨(i + 1, D1, I1), ⟨by show i + 1 ≤ _; omega, by show DiskR _ _ (made room (l.take (i + 1))) _ _; rw [made_snoc room hc]; exact hD1⟩, by show _ - (i + 1) < _; omega, ⟨rfl, rfl, rfl, rfl, trivial⟩, (by repeat (first | exact Sel.all | exact Sel.none | exact Sel.hd | (apply Sel.one; · repeat (first | exact Pick.h | apply Pick.t | apply Pick.app)) | apply Sel.app | (with_reducible apply Sel.grp; · repeat (first | exact PickF.h | apply PickF.t | apply PickF.a)) | (with_reducible refine Sel.nilF (by with_unfolding_all rfl) ?_) | apply Sel.drop | apply Sel.dropF))⟩)
          | false =>
            try have c_t29 := df h29
            first
            | (exfalso; omega)
            | (
              refine wc_else rfl ?_
              refine wc_exit rfl ?_
              refine wc_seq ?_
              refine wc_region ?_
              refine wl rfl (OP.ev rfl rfl (eMv rfl) ?_)
              refine wl rfl (OP.ev rfl rfl (eAs rfl) ?_)
              refine wl rfl (OP.ev rfl rfl (eAs rfl) ?_)
              refine wl_nil ?_
              refine wc_ret ?_
              apply at_ret rfl
              · exact (.cons (.tmp rfl) (.cons (.tmp rfl) .nil))
              · first
                | exact .inl ⟨by simpa using h23, _, rfl, rfl⟩
                | exact .inr ⟨by simpa using h23, b, D, I, rfl, by rw [List.take_of_length_le (by omega)] at hD; exact hD, rfl⟩
              · exact (by repeat (first | exact Sel.all | exact Sel.none | exact Sel.hd | (apply Sel.one; · repeat (first | exact Pick.h | apply Pick.t | apply Pick.app)) | apply Sel.app | (with_reducible apply Sel.grp; · repeat (first | exact PickF.h | apply PickF.t | apply PickF.a)) | (with_reducible refine Sel.nilF (by with_unfolding_all rfl) ?_) | apply Sel.drop | apply Sel.dropF)))))

/-- bytes made of a constant's bytes: the run-time's mark behind the last one -/
theorem Eng.oCvB {P : Program} {n : Nat} {l : Env} {L L' : Heap} {K : Env → Heap → Prop} {d : Nat} {ty : TypeId} {pos : String} {af : Array Edge} {gd : Option (Nat × Bool)} (hdn : Nat.blt d n = true) {t e : TypeId} {x : Operand} {b k c a1 a2 b1 b2 : Nat} {z1 z2 : Option Value} {cs : Array Value}
    (ht : tinf P t = some (.slice e, a1, a2, z1)) (he : tinf P e = some (.int .u8, b1, b2, z2)) (hx : evo l x = some (.slice (some ⟨b, 0, none⟩) k c)) (hb : Upd L b (.cells cs e (0, 0)) (.cells cs e (cs.size, cs.size + 1)) L')
    (h : K ((d, .slice (some ⟨b, 0, none⟩) k c) :: l) L') : OP P n W0 ⟨some d, .convert t t x, ty, pos, af, gd⟩ l L K :=
  .val rfl hdn fun a w ha hs => by
    have hg := hs.get hb.has
    have hsh : w.shape? b = some (e, cs.size) := by unfold World.shape?; rw [hg]
    have hr : (convert t t (.slice (some ⟨b, 0, none⟩) k c)).run P w = .ok (.slice (some ⟨b, 0, none⟩) k c) (w.freeze ⟨b, cs.size, none⟩ 1) := by
      simp [convert, run_und ht, run_und he, markStringish, hsh]
    refine ⟨_, _, _, by simp only [execOp, ha.eval hx, Sem.run_bind, hr]; rfl, ?_, h⟩
    refine hs.write hb rfl rfl rfl (by simp [World.freeze]) ?_ ?_
    · simp [World.freeze, Array.getElem?_modify, hg]
    · intro k hk
      simp [World.freeze, Array.getElem?_modify, Ne.symm hk]

def aw0 : DK := DK.new 100
def aw1 : DK := (aw0.write [97] 0 [120, 121]).2
def aw2 : DK := aw1.sync.2
def aw3 : DK := (aw2.write [97] 2 [122, 119]).2
def aw4 : DK := (aw3.crash 1 1).2
def aw5 : DK := aw4.start.2
theorem aw_ok : DOk aw0 ∧ DOk aw1 ∧ DOk aw2 ∧ DOk aw3 ∧ DOk aw4 ∧ DOk aw5 := by
  have h0 : DOk aw0 := DOk.new (by decide) (by decide)
  have h1 : DOk aw1 := h0.write _ _ _
  have h2 : DOk aw2 := h1.sync
  have h3 : DOk aw3 := h2.write _ _ _
  have h4 : DOk aw4 := h3.crash _ _
  exact ⟨h0, h1, h2, h3, h4, h4.start⟩
theorem aw_codes : (aw0.write [97] 0 [120, 121]).1 = 0 ∧ aw1.sync.1 = 0 ∧ (aw2.write [97] 2 [122, 119]).1 = 0 ∧ (aw3.crash 1 1).1 = 0 ∧ aw4.start.1 = 0 ∧ aw5.read [97] = ([120, 121, 122], 0) := by decide
theorem aw_acts : aw0.acts.length ≤ 3 ∧ aw1.acts.length ≤ 3 ∧ aw2.acts.length ≤ 3 ∧ aw3.acts.length ≤ 3 := by decide

theorem awake_ok (R : Heap) : FnC W0 Try.prog 13 #[] R (fun v L' => v = .bool true ∧ L' = R) := by
  obtain ⟨h0, h1, h2, h3, h4, h5⟩ := aw_ok
  obtain ⟨c1, c2, c3, c4, c5, c6⟩ := aw_codes
  obtain ⟨a0, a1, a2, a3⟩ := aw_acts
  refine fn_of Try.func13 rfl Try.ntmps13 rfl rfl ?_
  refine wc_seq ?_
  refine wc_region ?_
  refine wl rfl (OP.ev rfl rfl (eAs rfl) ?_)
  refine wl_nil ?_
  refine wc_seq ?_
  refine wc_region ?_
  refine wl rfl (oCA rfl pf26 rfl (new_ok 100 _ (by simp [I64])) ?_)
  rintro v15 _ (⟨h9, _⟩ | ⟨_, b, ms, ml, rfl, rfl⟩)
  · exfalso; omega
  refine wl rfl (OP.ev rfl rfl (eMv rfl) ?_)
  refine wl rfl (OP.ev rfl rfl (eExt rfl rfl) ?_)
  refine wl rfl (OP.ev rfl rfl (eExt rfl rfl) ?_)
  refine wl rfl (OP.ev rfl rfl (eAs rfl) ?_)
  refine wl rfl (OP.ev rfl rfl (eAs rfl) ?_)
  refine wl_nil ?_
  refine wc_seq ?_
  refine wc_seq ?_
  have hD0 : DiskR W0 [] aw0 b [dkC b (DK.new 100) ms ml (.slice none 0 0), tC ms [] 0, tC ml [] 0] := ⟨ms, ml, [], 0, [], 0, _, #[], [], rfl, Tab.nil 0, Tab.nil 0, ActsR.nil⟩
  refine wc_region ?_
  refine wl rfl (OP.ev rfl rfl (eMv rfl) ?_)
  refine wl rfl (OP.evb rfl rfl (eNe rfl rfl) fun t10 h10 => ?_)
  refine wl rfl (OP.ev rfl rfl (eMv rfl) ?_)
  cases t10 with
  | true =>
    try have c_t10 := dt h10
    first
    | (exfalso; omega)
    | (
      refine wl_skip rfl rfl rfl rfl rfl ?_
      refine wl_skip rfl rfl rfl rfl rfl ?_
      refine wl_skip rfl rfl rfl rfl rfl ?_
      refine wl_skip rfl rfl rfl rfl rfl ?_
      refine wl_skip rfl rfl rfl rfl rfl ?_
      refine wl rfl (OP.ev rfl rfl (ePk rfl rfl) ?_)
      refine wl rfl (OP.ev rfl rfl (eMv rfl) ?_)
      refine wl_skip rfl rfl rfl rfl rfl ?_
      refine wl_skip rfl rfl rfl rfl rfl ?_
      refine wl_skip rfl rfl rfl rfl rfl ?_
      refine wl rfl (OP.ev rfl rfl (ePk rfl rfl) ?_)
      refine wl rfl (OP.ev rfl rfl (eMv rfl) ?_)
      refine wl_skip rfl rfl rfl rfl rfl ?_
      refine wl_skip rfl rfl rfl rfl rfl ?_
      refine wl_skip rfl rfl rfl rfl rfl ?_
      refine wl_skip rfl rfl rfl rfl rfl ?_
      refine wl_skip rfl rfl rfl rfl rfl ?_
      refine wl rfl (OP.ev rfl rfl (ePk rfl rfl) ?_)
      refine wl rfl (OP.ev rfl rfl (eMv rfl) ?_)
      refine wl_skip rfl rfl rfl rfl rfl ?_
      refine wl_skip rfl rfl rfl rfl rfl ?_
      refine wl_skip rfl rfl rfl rfl rfl ?_
      refine wl rfl (OP.ev rfl rfl (ePk rfl rfl) ?_)
      refine wl rfl (OP.ev rfl rfl (eMv rfl) ?_)
      refine wl_skip rfl rfl rfl rfl rfl ?_
      refine wl_skip rfl rfl rfl rfl rfl ?_
      refine wl_skip rfl rfl rfl rfl rfl ?_
      refine wl rfl (OP.ev rfl rfl (ePk rfl rfl) ?_)
      refine wl_nil ?_
      refine wc_then rfl ?_
      refine wc_seq ?_
      refine wc_region ?_
      refine wl rfl (OP.ev rfl rfl (eAs rfl) ?_)
      refine wl_nil ?_
      refine wc_ret ?_
      apply at_ret rfl
      · exact (.cons (.tmp rfl) .nil)
      · exact ⟨by show Value.bool (BA [120, 121, 122] == ⟨#[120, 121, 122]⟩) = _; rw [show (BA [120, 121, 122] == ⟨#[120, 121, 122]⟩) = true from by decide], rfl⟩
      · exact (by repeat (first | exact Sel.all | exact Sel.none | exact Sel.hd | (apply Sel.one; · repeat (first | exact Pick.h | apply Pick.t | apply Pick.app)) | apply Sel.app | (with_reducible apply Sel.grp; · repeat (first | exact PickF.h | apply PickF.t | apply PickF.a)) | (with_reducible refine Sel.nilF (by with_unfolding_all rfl) ?_) | apply Sel.drop | apply Sel.dropF)))
  | false =>
    try have c_t10 := df h10
    first
    | (exfalso; omega)
    | (
      refine wl_go rfl rfl (OP.ev rfl rfl (eMv rfl) ?_)
      refine wl_go rfl rfl (oBSw (vs := [_, _]) rfl ty30 ty5 rfl rfl rfl rfl rfl rfl fun b13 => ?_)
      refine wl_go rfl rfl (oCvB rfl ty30 ty5 rfl (by repeat (first | exact Upd.h | apply Upd.t | apply Upd.app)) ?_)
      have hw1 := write_ok b aw0 h0 [97] 0 (by simp [I64]) (.slice (some ⟨b13, 0, none⟩) 2 2) [120, 121] _ ((b13, .cells #[.int .u8 120, .int .u8 121] 5 (2, 3)) :: R) hD0 (Rs.mk (Rc.of_has (by repeat (first | exact Has.h | apply Has.t | apply Has.app)) rfl) rfl (Nat.le_refl _)) (by simp [IsB]) (by decide) (by omega)
      simp only [List.cons_append, List.nil_append] at hw1
      refine wl_go rfl rfl (oC rfl pf42 rfl hw1 (by repeat (first | exact Sel.all | exact Sel.none | exact Sel.hd | (apply Sel.one; · repeat (first | exact Pick.h | apply Pick.t | apply Pick.app)) | apply Sel.app | (with_reducible apply Sel.grp; · repeat (first | exact PickF.h | apply PickF.t | apply PickF.a)) | (with_reducible refine Sel.nilF (by with_unfolding_all rfl) ?_) | apply Sel.drop | apply Sel.dropF)) ?_)
      rintro _ _ ⟨rfl, D1, I1, hI1, hD1, rfl⟩
      refine wl_go rfl rfl (OP.evb rfl rfl (eNe rfl rfl) fun t16 h16 => ?_)
      refine wl rfl (OP.ev rfl rfl (ePk rfl rfl) ?_)
      refine wl rfl (OP.ev rfl rfl (eMv rfl) ?_)
      cases t16 with
      | true =>
        try have c_t16 := dt h16
        first
        | (exfalso; omega)
        | (
          refine wl_skip rfl rfl rfl rfl rfl ?_
          refine wl_skip rfl rfl rfl rfl rfl ?_
          refine wl_skip rfl rfl rfl rfl rfl ?_
          refine wl rfl (OP.ev rfl rfl (ePk rfl rfl) ?_)
          refine wl rfl (OP.ev rfl rfl (eMv rfl) ?_)
          refine wl_skip rfl rfl rfl rfl rfl ?_
          refine wl_skip rfl rfl rfl rfl rfl ?_
          refine wl_skip rfl rfl rfl rfl rfl ?_
          refine wl_skip rfl rfl rfl rfl rfl ?_
          refine wl_skip rfl rfl rfl rfl rfl ?_
          refine wl rfl (OP.ev rfl rfl (ePk rfl rfl) ?_)
          refine wl rfl (OP.ev rfl rfl (eMv rfl) ?_)
          refine wl_skip rfl rfl rfl rfl rfl ?_
          refine wl_skip rfl rfl rfl rfl rfl ?_
          refine wl_skip rfl rfl rfl rfl rfl ?_
          refine wl rfl (OP.ev rfl rfl (ePk rfl rfl) ?_)
          refine wl rfl (OP.ev rfl rfl (eMv rfl) ?_)
          refine wl_skip rfl rfl rfl rfl rfl ?_
          refine wl_skip rfl rfl rfl rfl rfl ?_
          refine wl_skip rfl rfl rfl rfl rfl ?_
          refine wl rfl (OP.ev rfl rfl (ePk rfl rfl) ?_)
          refine wl_nil ?_
          refine wc_then rfl ?_
          refine wc_seq ?_
          refine wc_region ?_
          refine wl rfl (OP.ev rfl rfl (eAs rfl) ?_)
          refine wl_nil ?_
          refine wc_ret ?_
          apply at_ret rfl
          · exact (.cons (.tmp rfl) .nil)
          · exact ⟨by show Value.bool (BA [120, 121, 122] == ⟨#[120, 121, 122]⟩) = _; rw [show (BA [120, 121, 122] == ⟨#[120, 121, 122]⟩) = true from by decide], rfl⟩
          · exact (by repeat (first | exact Sel.all | exact Sel.none | exact Sel.hd | (apply Sel.one; · repeat (first | exact Pick.h | apply Pick.t | apply Pick.app)) | apply Sel.app | (with_reducible apply Sel.grp; · repeat (first | exact PickF.h | apply PickF.t | apply PickF.a)) | (with_reducible refine Sel.nilF (by with_unfolding_all rfl) ?_) | apply Sel.drop | apply Sel.dropF)))
      | false =>
        try have c_t16 := df h16
        first
        | (exfalso; omega)
        | (
          refine wl_go rfl rfl (OP.ev rfl rfl (eMv rfl) ?_)
          refine wl_go rfl rfl (oC rfl pf41 rfl (sync_ok b aw1 h1 D1 _ hD1 (by omega)) (by repeat (first | exact Sel.all | exact Sel.none | exact Sel.hd | (apply Sel.one; · repeat (first | exact Pick.h | apply Pick.t | apply Pick.app)) | apply Sel.app | (with_reducible apply Sel.grp; · repeat (first | exact PickF.h | apply PickF.t | apply PickF.a)) | (with_reducible refine Sel.nilF (by with_unfolding_all rfl) ?_) | apply Sel.drop | apply Sel.dropF)) ?_)
          rintro _ _ ⟨rfl, D2, I2, hI2, hD2, rfl⟩
          refine wl_go rfl rfl (OP.evb rfl rfl (eNe rfl rfl) fun t21 h21 => ?_)
          refine wl rfl (OP.ev rfl rfl (ePk rfl rfl) ?_)
          refine wl rfl (OP.ev rfl rfl (eMv rfl) ?_)
          cases t21 with
          | true =>
            try have c_t21 := dt h21
            first
            | (exfalso; omega)
            | (
              refine wl_skip rfl rfl rfl rfl rfl ?_
              refine wl_skip rfl rfl rfl rfl rfl ?_
              refine wl_skip rfl rfl rfl rfl rfl ?_
              refine wl_skip rfl rfl rfl rfl rfl ?_
              refine wl_skip rfl rfl rfl rfl rfl ?_
              refine wl rfl (OP.ev rfl rfl (ePk rfl rfl) ?_)
              refine wl rfl (OP.ev rfl rfl (eMv rfl) ?_)
              refine wl_skip rfl rfl rfl rfl rfl ?_
              refine wl_skip rfl rfl rfl rfl rfl ?_
              refine wl_skip rfl rfl rfl rfl rfl ?_
              refine wl rfl (OP.ev rfl rfl (ePk rfl rfl) ?_)
              refine wl rfl (OP.ev rfl rfl (eMv rfl) ?_)
              refine wl_skip rfl rfl rfl rfl rfl ?_
              refine wl_skip rfl rfl rfl rfl rfl ?_
              refine wl_skip rfl rfl rfl rfl rfl ?_
              refine wl rfl (OP.ev rfl rfl (ePk rfl rfl) ?_)
              refine wl_nil ?_
              refine wc_then rfl ?_
              refine wc_seq ?_
              refine wc_region ?_
              refine wl rfl (OP.ev rfl rfl (eAs rfl) ?_)
              refine wl_nil ?_
              refine wc_ret ?_
              apply at_ret rfl
              · exact (.cons (.tmp rfl) .nil)
              · exact ⟨by show Value.bool (BA [120, 121, 122] == ⟨#[120, 121, 122]⟩) = _; rw [show (BA [120, 121, 122] == ⟨#[120, 121, 122]⟩) = true from by decide], rfl⟩
              · exact (by repeat (first | exact Sel.all | exact Sel.none | exact Sel.hd | (apply Sel.one; · repeat (first | exact Pick.h | apply Pick.t | apply Pick.app)) | apply Sel.app | (with_reducible apply Sel.grp; · repeat (first | exact PickF.h | apply PickF.t | apply PickF.a)) | (with_reducible refine Sel.nilF (by with_unfolding_all rfl) ?_) | apply Sel.drop | apply Sel.dropF)))
          | false =>
            try have c_t21 := df h21
            first
            | (exfalso; omega)
            | (
              refine wl_go rfl rfl (OP.ev rfl rfl (eMv rfl) ?_)
              refine wl_go rfl rfl (oBSw (vs := [_, _]) rfl ty30 ty5 rfl rfl rfl rfl rfl rfl fun b25 => ?_)
              refine wl_go rfl rfl (oCvB rfl ty30 ty5 rfl (by repeat (first | exact Upd.h | apply Upd.t | apply Upd.app)) ?_)
              have hw2 := write_ok b aw2 h2 [97] 2 (by simp [I64]) (.slice (some ⟨b25, 0, none⟩) 2 2) [122, 119] D2 ((b25, .cells #[.int .u8 122, .int .u8 119] 5 (2, 3)) :: R) hD2 (Rs.mk (Rc.of_has (by repeat (first | exact Has.h | apply Has.t | apply Has.app)) rfl) rfl (Nat.le_refl _)) (by simp [IsB]) (by decide) (by omega)
              refine wl_go rfl rfl (oC rfl pf42 rfl hw2 (by repeat (first | exact Sel.all | exact Sel.none | exact Sel.hd | (apply Sel.one; · repeat (first | exact Pick.h | apply Pick.t | apply Pick.app)) | apply Sel.app | (with_reducible apply Sel.grp; · repeat (first | exact PickF.h | apply PickF.t | apply PickF.a)) | (with_reducible refine Sel.nilF (by with_unfolding_all rfl) ?_) | apply Sel.drop | apply Sel.dropF)) ?_)
              rintro _ _ ⟨rfl, D3, I3, hI3, hD3, rfl⟩
              refine wl_go rfl rfl (OP.evb rfl rfl (eNe rfl rfl) fun t28 h28 => ?_)
              refine wl rfl (OP.ev rfl rfl (ePk rfl rfl) ?_)
              refine wl rfl (OP.ev rfl rfl (eMv rfl) ?_)
              cases t28 with
              | true =>
                try have c_t28 := dt h28
                first
                | (exfalso; omega)
                | (
                  refine wl_skip rfl rfl rfl rfl rfl ?_
                  refine wl_skip rfl rfl rfl rfl rfl ?_
                  refine wl_skip rfl rfl rfl rfl rfl ?_
                  refine wl rfl (OP.ev rfl rfl (ePk rfl rfl) ?_)
                  refine wl rfl (OP.ev rfl rfl (eMv rfl) ?_)
                  refine wl_skip rfl rfl rfl rfl rfl ?_
                  refine wl_skip rfl rfl rfl rfl rfl ?_
                  refine wl_skip rfl rfl rfl rfl rfl ?_
                  refine wl rfl (OP.ev rfl rfl (ePk rfl rfl) ?_)
                  refine wl_nil ?_
                  refine wc_then rfl ?_
                  refine wc_seq ?_
                  refine wc_region ?_
                  refine wl rfl (OP.ev rfl rfl (eAs rfl) ?_)
                  refine wl_nil ?_
                  refine wc_ret ?_
                  apply at_ret rfl
                  · exact (.cons (.tmp rfl) .nil)
                  · exact ⟨by show Value.bool (BA [120, 121, 122] == ⟨#[120, 121, 122]⟩) = _; rw [show (BA [120, 121, 122] == ⟨#[120, 121, 122]⟩) = true from by decide], rfl⟩
                  · exact (by repeat (first | exact Sel.all | exact Sel.none | exact Sel.hd | (apply Sel.one; · repeat (first | exact Pick.h | apply Pick.t | apply Pick.app)) | apply Sel.app | (with_reducible apply Sel.grp; · repeat (first | exact PickF.h | apply PickF.t | apply PickF.a)) | (with_reducible refine Sel.nilF (by with_unfolding_all rfl) ?_) | apply Sel.drop | apply Sel.dropF)))
              | false =>
                try have c_t28 := df h28
                first
                | (exfalso; omega)
                | (
                  refine wl_go rfl rfl (OP.ev rfl rfl (eMv rfl) ?_)
                  refine wl_go rfl rfl (oC rfl pf39 rfl (crash_ok b aw3 h3 1 1 (by simp [I64]) (by simp [I64]) D3 _ hD3 (by omega)) (by repeat (first | exact Sel.all | exact Sel.none | exact Sel.hd | (apply Sel.one; · repeat (first | exact Pick.h | apply Pick.t | apply Pick.app)) | apply Sel.app | (with_reducible apply Sel.grp; · repeat (first | exact PickF.h | apply PickF.t | apply PickF.a)) | (with_reducible refine Sel.nilF (by with_unfolding_all rfl) ?_) | apply Sel.drop | apply Sel.dropF)) ?_)
                  rintro _ _ ⟨rfl, D4, I4, hI4, hD4, rfl⟩
                  refine wl_go rfl rfl (OP.evb rfl rfl (eNe rfl rfl) fun t33 h33 => ?_)
                  refine wl rfl (OP.ev rfl rfl (ePk rfl rfl) ?_)
                  refine wl rfl (OP.ev rfl rfl (eMv rfl) ?_)
                  cases t33 with
                  | true =>
                    try have c_t33 := dt h33
                    first
                    | (exfalso; omega)
                    | (
                      refine wl_skip rfl rfl rfl rfl rfl ?_
                      refine wl_skip rfl rfl rfl rfl rfl ?_
                      refine wl_skip rfl rfl rfl rfl rfl ?_
                      refine wl rfl (OP.ev rfl rfl (ePk rfl rfl) ?_)
                      refine wl_nil ?_
                      refine wc_then rfl ?_
                      refine wc_seq ?_
                      refine wc_region ?_
                      refine wl rfl (OP.ev rfl rfl (eAs rfl) ?_)
                      refine wl_nil ?_
                      refine wc_ret ?_
                      apply at_ret rfl
                      · exact (.cons (.tmp rfl) .nil)
                      · exact ⟨by show Value.bool (BA [120, 121, 122] == ⟨#[120, 121, 122]⟩) = _; rw [show (BA [120, 121, 122] == ⟨#[120, 121, 122]⟩) = true from by decide], rfl⟩
                      · exact (by repeat (first | exact Sel.all | exact Sel.none | exact Sel.hd | (apply Sel.one; · repeat (first | exact Pick.h | apply Pick.t | apply Pick.app)) | apply Sel.app | (with_reducible apply Sel.grp; · repeat (first | exact PickF.h | apply PickF.t | apply PickF.a)) | (with_reducible refine Sel.nilF (by with_unfolding_all rfl) ?_) | apply Sel.drop | apply Sel.dropF)))
                  | false =>
                    try have c_t33 := df h33
                    first
                    | (exfalso; omega)
                    | (
                      refine wl_go rfl rfl (OP.ev rfl rfl (eMv rfl) ?_)
                      refine wl_go rfl rfl (oC rfl pf14 rfl (start_ok b aw4 D4 _ hD4) (by repeat (first | exact Sel.all | exact Sel.none | exact Sel.hd | (apply Sel.one; · repeat (first | exact Pick.h | apply Pick.t | apply Pick.app)) | apply Sel.app | (with_reducible apply Sel.grp; · repeat (first | exact PickF.h | apply PickF.t | apply PickF.a)) | (with_reducible refine Sel.nilF (by with_unfolding_all rfl) ?_) | apply Sel.drop | apply Sel.dropF)) ?_)
                      rintro _ _ ⟨rfl, D5, I5, hI5, hD5, rfl⟩
                      refine wl_go rfl rfl (OP.evb rfl rfl (eNe rfl rfl) fun t38 h38 => ?_)
                      refine wl rfl (OP.ev rfl rfl (ePk rfl rfl) ?_)
                      refine wl_nil ?_
                      cases t38 with
                      | true =>
                        try have c_t38 := dt h38
                        first
                        | (exfalso; omega)
                        | (
                          refine wc_then rfl ?_
                          refine wc_seq ?_
                          refine wc_region ?_
                          refine wl rfl (OP.ev rfl rfl (eAs rfl) ?_)
                          refine wl_nil ?_
                          refine wc_ret ?_
                          apply at_ret rfl
                          · exact (.cons (.tmp rfl) .nil)
                          · exact ⟨by show Value.bool (BA [120, 121, 122] == ⟨#[120, 121, 122]⟩) = _; rw [show (BA [120, 121, 122] == ⟨#[120, 121, 122]⟩) = true from by decide], rfl⟩
                          · exact (by repeat (first | exact Sel.all | exact Sel.none | exact Sel.hd | (apply Sel.one; · repeat (first | exact Pick.h | apply Pick.t | apply Pick.app)) | apply Sel.app | (with_reducible apply Sel.grp; · repeat (first | exact PickF.h | apply PickF.t | apply PickF.a)) | (with_reducible refine Sel.nilF (by with_unfolding_all rfl) ?_) | apply Sel.drop | apply Sel.dropF)))
                      | false =>
                        try have c_t38 := df h38
                        first
                        | (exfalso; omega)
                        | (
                          refine wc_else rfl ?_
                          refine wc_skip ?_
                          refine wc_seq ?_
                          refine wc_region ?_
                          refine wl rfl (OP.ev rfl rfl (eMv rfl) ?_)
                          refine wl rfl (oC rfl pf16 rfl (read_ok b aw5 h5 [97] D5 _ hD5) (by repeat (first | exact Sel.all | exact Sel.none | exact Sel.hd | (apply Sel.one; · repeat (first | exact Pick.h | apply Pick.t | apply Pick.app)) | apply Sel.app | (with_reducible apply Sel.grp; · repeat (first | exact PickF.h | apply PickF.t | apply PickF.a)) | (with_reducible refine Sel.nilF (by with_unfolding_all rfl) ?_) | apply Sel.drop | apply Sel.dropF)) ?_)
                          rintro _ _ ⟨w42, cs42, rfl, hrow42, hB42, rfl⟩
                          refine wl rfl (OP.ev rfl rfl (eMv rfl) ?_)
                          refine wl rfl (OP.ev rfl rfl (eExt rfl rfl) ?_)
                          refine wl rfl (OP.ev rfl rfl (eExt rfl rfl) ?_)
                          refine wl rfl (OP.ev rfl rfl (eAs rfl) ?_)
                          refine wl rfl (OP.ev rfl rfl (eAs rfl) ?_)
                          refine wl_nil ?_
                          rw [c6] at hrow42 hB42 ⊢
                          refine wc_seq ?_
                          refine wc_region ?_
                          refine wl rfl (OP.ev rfl rfl (eMv rfl) ?_)
                          refine wl rfl (OP.evb rfl rfl (eEq rfl rfl) fun t46 h46 => ?_)
                          refine wl rfl (OP.ev rfl rfl (eMv rfl) ?_)
                          cases t46 with
                          | true =>
                            try have c_t46 := dt h46
                            first
                            | (exfalso; omega)
                            | (
                              refine wl_go rfl rfl (OP.ev rfl rfl (eMv rfl) ?_)
                              refine wl_go rfl rfl (OP.ev rfl rfl (eBs ty30 ty5 ty9 rfl (hrow42.rs (by repeat (first | exact At.cell | exact At.h | apply At.t | apply At.a)))) ?_)
                              refine wl_go rfl rfl (OP.ev rfl rfl (eEqStr rfl rfl ty9) ?_)
                              refine wl rfl (OP.ev rfl rfl (ePk rfl rfl) ?_)
                              refine wl rfl (OP.ev rfl rfl (eAs rfl) ?_)
                              refine wl_nil ?_
                              refine wc_ret ?_
                              apply at_ret rfl
                              · exact (.cons (.tmp rfl) .nil)
                              · exact ⟨by show Value.bool (BA [120, 121, 122] == ⟨#[120, 121, 122]⟩) = _; rw [show (BA [120, 121, 122] == ⟨#[120, 121, 122]⟩) = true from by decide], rfl⟩
                              · exact (by repeat (first | exact Sel.all | exact Sel.none | exact Sel.hd | (apply Sel.one; · repeat (first | exact Pick.h | apply Pick.t | apply Pick.app)) | apply Sel.app | (with_reducible apply Sel.grp; · repeat (first | exact PickF.h | apply PickF.t | apply PickF.a)) | (with_reducible refine Sel.nilF (by with_unfolding_all rfl) ?_) | apply Sel.drop | apply Sel.dropF)))
                          | false =>
                            try have c_t46 := df h46
                            first
                            | (exfalso; omega)
                            | (
                              refine wl_skip rfl rfl rfl rfl rfl ?_
                              refine wl_skip rfl rfl rfl rfl rfl ?_
                              refine wl_skip rfl rfl rfl rfl rfl ?_
                              refine wl rfl (OP.ev rfl rfl (ePk rfl rfl) ?_)
                              refine wl rfl (OP.ev rfl rfl (eAs rfl) ?_)
                              refine wl_nil ?_
                              refine wc_ret ?_
                              apply at_ret rfl
                              · exact (.cons (.tmp rfl) .nil)
                              · exact ⟨by show Value.bool (BA [120, 121, 122] == ⟨#[120, 121, 122]⟩) = _; rw [show (BA [120, 121, 122] == ⟨#[120, 121, 122]⟩) = true from by decide], rfl⟩
                              · exact (by repeat (first | exact Sel.all | exact Sel.none | exact Sel.hd | (apply Sel.one; · repeat (first | exact Pick.h | apply Pick.t | apply Pick.app)) | apply Sel.app | (with_reducible apply Sel.grp; · repeat (first | exact PickF.h | apply PickF.t | apply PickF.a)) | (with_reducible refine Sel.nilF (by with_unfolding_all rfl) ?_) | apply Sel.drop | apply Sel.dropF)))))))))
end Go.Proofs.Ytahjgjmemijofaa
