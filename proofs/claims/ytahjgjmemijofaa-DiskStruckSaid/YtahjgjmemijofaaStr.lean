/- The walk of DiskStruck. -/
import Derived.Test.YtahjgjmemijofaaLw5
namespace Go.Proofs.Ytahjgjmemijofaa
open Go Eng
set_option linter.unusedVariables false
set_option linter.unusedSimpArgs false
set_option maxRecDepth 4000
variable {W0 : World} {I I' : Heap}

def armed (c : DK) (m keep tear : Int) : DK := { c with left := m, keep := keep, tear := tear }
theorem find_nd {d : DK} (ho : d.off = false) (k : Nm) : d.find k ≠ 22 := by
  rcases find_cases ho k with ⟨_, h⟩ | ⟨_, _, h⟩ | ⟨_, _, _, h⟩ <;> omega
theorem does_form {c : DK} (ho : c.off = false) {k : Do} (hk : k10 k.op < 6) :
    (∃ e, e ≠ 0 ∧ e ≠ 22 ∧ ∀ m kp t, (armed c m kp t).does k = (e, armed c m kp t)) ∨ ∃ a, ∀ m kp t, (armed c m kp t).does k = (armed c m kp t).act a := by
  have hf : ∀ j m kp t, (armed c m kp t).find j = c.find j := fun _ _ _ _ => rfl
  have hu : ∀ m kp t, (armed c m kp t).used = c.used := fun _ _ _ => rfl
  have hr : ∀ m kp t, (armed c m kp t).room = c.room := fun _ _ _ => rfl
  have hs : ∀ m kp t, (armed c m kp t).seen = c.seen := fun _ _ _ => rfl
  have hwa : ∀ n, (∃ e : Int, e ≠ 0 ∧ e ≠ 22 ∧ ∀ m kp t, (armed c m kp t).writeA k.name n k.B = (e, armed c m kp t)) ∨ ∃ a, ∀ m kp t, (armed c m kp t).writeA k.name n k.B = (armed c m kp t).act a := by
    intro n
    by_cases h : (k.B.length : Int) > c.room - c.used
    · exact .inl ⟨7, by decide, by decide, fun m kp t => by unfold DK.writeA; rw [hu, hr, if_pos h]⟩
    · exact .inr ⟨_, fun m kp t => by unfold DK.writeA; rw [hu, hr, if_neg h]⟩
  by_cases h3 : k10 k.op = 3
  · by_cases h : c.find k.name = 0
    · by_cases h2 : k.at_ < 0 ∨ k.at_ > ((fgetD c.seen k.name).length : Int)
      · exact .inl ⟨1, by decide, by decide, fun m kp t => by unfold DK.does DK.trim; rw [if_pos h3, hf, hs, if_neg (by omega), if_pos h2]⟩
      · exact .inr ⟨_, fun m kp t => by unfold DK.does DK.trim; rw [if_pos h3, hf, hs, if_neg (by omega), if_neg h2]⟩
    · exact .inl ⟨c.find k.name, h, find_nd ho _, fun m kp t => by unfold DK.does DK.trim; rw [if_pos h3, hf, if_pos h]⟩
  · by_cases h4 : k10 k.op = 4
    · by_cases h : c.find k.name = 0
      · by_cases h2 : may k.to_ = false
        · exact .inl ⟨20, by decide, by decide, fun m kp t => by unfold DK.does DK.move; rw [if_neg h3, if_pos h4, hf, if_neg (by omega), if_pos h2]⟩
        · exact .inr ⟨_, fun m kp t => by unfold DK.does DK.move; rw [if_neg h3, if_pos h4, hf, if_neg (by omega), if_neg h2]⟩
      · exact .inl ⟨c.find k.name, h, find_nd ho _, fun m kp t => by unfold DK.does DK.move; rw [if_neg h3, if_pos h4, hf, if_pos h]⟩
    · by_cases h5 : k10 k.op = 5
      · by_cases h : c.find k.name = 0
        · exact .inr ⟨_, fun m kp t => by unfold DK.does DK.drop; rw [if_neg h3, if_neg h4, if_pos h5, hf, if_neg (by omega)]⟩
        · exact .inl ⟨c.find k.name, h, find_nd ho _, fun m kp t => by unfold DK.does DK.drop; rw [if_neg h3, if_neg h4, if_pos h5, hf, if_pos h]⟩
      · have hd : ∀ m kp t, (armed c m kp t).does k = (armed c m kp t).write k.name k.at_ k.B := fun m kp t => by
          unfold DK.does
          rw [if_neg h3, if_neg h4, if_neg h5, if_neg (by omega), if_neg (by omega), if_neg (by omega), if_neg (by omega)]
        by_cases h1 : c.find k.name = 21 ∧ k.at_ = 0
        · by_cases h2 : 4096 ≤ c.seen.length
          · exact .inl ⟨7, by decide, by decide, fun m kp t => by rw [hd]; unfold DK.write; rw [hf, hs, if_pos h1, if_pos h2]⟩
          · rcases hwa k.at_ with ⟨e, e1, e2, e3⟩ | ⟨a, e1⟩
            · exact .inl ⟨e, e1, e2, fun m kp t => by rw [hd]; unfold DK.write; rw [hf, hs, if_pos h1, if_neg h2]; exact e3 m kp t⟩
            · exact .inr ⟨a, fun m kp t => by rw [hd]; unfold DK.write; rw [hf, hs, if_pos h1, if_neg h2]; exact e1 m kp t⟩
        · by_cases h : c.find k.name = 0
          · by_cases h2 : k.at_ < 0 ∨ k.at_ > ((fgetD c.seen k.name).length : Int)
            · exact .inl ⟨1, by decide, by decide, fun m kp t => by rw [hd]; unfold DK.write; rw [hf, hs, if_neg h1, if_neg (by omega), if_pos h2]⟩
            · rcases hwa k.at_ with ⟨e, e1, e2, e3⟩ | ⟨a, e1⟩
              · exact .inl ⟨e, e1, e2, fun m kp t => by rw [hd]; unfold DK.write; rw [hf, hs, if_neg h1, if_neg (by omega), if_neg h2]; exact e3 m kp t⟩
              · exact .inr ⟨a, fun m kp t => by rw [hd]; unfold DK.write; rw [hf, hs, if_neg h1, if_neg (by omega), if_neg h2]; exact e1 m kp t⟩
          · exact .inl ⟨c.find k.name, h, find_nd ho _, fun m kp t => by rw [hd]; unfold DK.write; rw [hf, if_neg h1, if_pos h]⟩

theorem crash_on {d : DK} (ho : d.off = false) (k t : Int) : d.crash k t = (0, d.fall k t) := by unfold DK.crash; rw [if_neg (by simp [ho])]
theorem str_step {c : DK} (hc : Calm c) {m keep tear : Int} (hm : 1 ≤ m) {k : Do} (hk : k10 k.op ≤ 6) :
    (((armed c m keep tear).does k).1 = 22 → m = 1 ∧ (k10 k.op < 6 → sameB (((c.does k).2.crash keep tear).2.start.2) (((armed c m keep tear).does k).2.start.2) = true) ∧ (k10 k.op = 6 → sameB ((c.crash keep tear).2.start.2) (((armed c m keep tear).does k).2.start.2) = true)) ∧
    (((armed c m keep tear).does k).1 ≠ 22 → (c.does k).1 = ((armed c m keep tear).does k).1 ∧ Calm (c.does k).2 ∧ (((armed c m keep tear).does k).1 = 0 → 1 < m ∧ ((armed c m keep tear).does k).2 = armed (c.does k).2 (m - 1) keep tear) ∧
      (((armed c m keep tear).does k).1 ≠ 0 → ((armed c m keep tear).does k).2 = armed (c.does k).2 m keep tear)) := by
  have hce : armed c c.left c.keep c.tear = c := rfl
  by_cases hk6 : k10 k.op < 6
  · rcases does_form hc.1 hk6 with ⟨e, e1, e2, e3⟩ | ⟨a, ea⟩
    · have h1 := e3 c.left c.keep c.tear
      rw [hce] at h1
      rw [e3, h1]
      exact ⟨fun h => absurd h e2, fun _ => ⟨rfl, hc, fun h => absurd h e1, fun _ => rfl⟩⟩
    · have h1 := ea c.left c.keep c.tear
      rw [hce, (hc.act a).1] at h1
      rw [ea, h1]
      by_cases hm1 : m = 1
      · subst hm1
        have h2 : (armed c 1 keep tear).act a = (22, (((armed c 1 keep tear).add a).less).fall keep tear) := by unfold DK.act; rw [if_pos (show (armed c 1 keep tear).left = 1 from rfl)]; rfl
        rw [h2]
        refine ⟨fun _ => ⟨rfl, fun _ => ?_, fun h => by omega⟩, fun h => absurd rfl h⟩
        show sameB ((((c.add a).less).crash keep tear).2.start.2) _ = true
        rw [crash_on (hc.act a).2.1]
        exact sameB_of rfl rfl
      · have h2 : (armed c m keep tear).act a = (0, ((armed c m keep tear).add a).less) := by unfold DK.act; rw [if_neg (show ¬ (armed c m keep tear).left = 1 from hm1)]
        rw [h2]
        refine ⟨fun h => (by cases h), fun _ => ⟨rfl, (hc.act a).2, fun _ => ⟨by omega, ?_⟩, fun h => absurd rfl h⟩⟩
        show ({ (armed c m keep tear).add a with left := if m = 0 then 0 else m - 1 } : DK) = _
        rw [if_neg (by omega)]
        rfl
  · have h6 : k10 k.op = 6 := by omega
    have hd : ∀ x : DK, x.does k = x.sync := fun x => by
      unfold DK.does
      rw [if_neg (by omega), if_neg (by omega), if_neg (by omega), if_pos h6]
    rw [hd, hd]
    have h1 : c.sync = (0, { c.less with last := c.seen, acts := [] }) := by unfold DK.sync; rw [if_neg (by simp [hc.1]), if_neg (by rw [hc.2]; decide)]
    by_cases hm1 : m = 1
    · subst hm1
      have h2 : (armed c 1 keep tear).sync = (22, ((armed c 1 keep tear).less).fall keep tear) := by
        unfold DK.sync
        rw [if_neg (by show ¬ c.off = true; simp [hc.1]), if_pos (show (armed c 1 keep tear).left = 1 from rfl)]; rfl
      rw [h2]
      refine ⟨fun _ => ⟨rfl, fun h => absurd h hk6, fun _ => ?_⟩, fun h => absurd rfl h⟩
      rw [crash_on hc.1]
      exact sameB_of rfl rfl
    · have h2 : (armed c m keep tear).sync = (0, { (armed c m keep tear).less with last := c.seen, acts := [] }) := by
        unfold DK.sync
        rw [if_neg (by show ¬ c.off = true; simp [hc.1]), if_neg (show ¬ (armed c m keep tear).left = 1 from hm1)]; rfl
      rw [h2, h1]
      refine ⟨fun h => (by cases h), fun _ => ⟨rfl, ⟨hc.1, by show (if c.left = 0 then 0 else c.left - 1) = 0; rw [hc.2]; rfl⟩, fun _ => ⟨by omega, ?_⟩, fun h => absurd rfl h⟩⟩
      show ({ armed c m keep tear with left := if m = 0 then 0 else m - 1, last := c.seen, acts := [] } : DK) = _
      rw [if_neg (by omega)]
      rfl

theorem struck_law_ok (room : Int) (v1 v2 : Value) (l l2 : List Do) (n0 keep tear : Int) (hkp : I64 keep) (htr : I64 tear) (hv : ∀ L, Rs W0 L v1 8 l.length (dos l)) (hr : ∀ c ∈ l, ∀ X, DoR W0 X c) (hl : l.length ≤ 9223372036854775807)
    (hv2 : ∀ L, Rs W0 L v2 8 l2.length (dos l2)) (hr2 : ∀ c ∈ l2, ∀ X, DoR W0 X c) (hl2 : l2.length ≤ 9223372036854775807) :
    FnC W0 Try.prog 7 #[i64 room, v1, v2, i64 n0, i64 keep, i64 tear] [] (fun v' L' => v' = .bool true ∧ L' = []) := by
  have hkr := rm_range n0 (m := 120) (by decide) (by decide)
  have hrr' : IntKind.i64.wrap ((IntKind.u64.wrap n0).tmod 120) = rm n0 120 := rfl
  refine fn_of Try.func7 rfl Try.ntmps7 rfl rfl ?_
  refine wc_seq ?_
  refine wc_region ?_
  refine wl rfl (OP.ev rfl rfl (eAs rfl) ?_)
  refine wl_nil ?_
  refine wc_seq ?_
  refine wc_region ?_
  refine wl rfl (OP.ev rfl rfl (eMv rfl) ?_)
  refine wl rfl (OP.ev rfl rfl (eMv rfl) ?_)
  refine wl rfl (oCA rfl pf12 rfl (made_ok room v1 l _ (hv _) (fun c hc => hr c hc _) hl) ?_)
  rintro _ _ (⟨hs, x, rfl, rfl⟩ | ⟨hs, b, D, I, rfl, hD, rfl⟩)
  · refine wl rfl (OP.ev rfl rfl (eMv rfl) ?_)
    refine wl rfl (OP.ev rfl rfl (eExt rfl rfl) ?_)
    refine wl rfl (OP.ev rfl rfl (eExt rfl rfl) ?_)
    refine wl rfl (OP.ev rfl rfl (eAs rfl) ?_)
    refine wl rfl (OP.ev rfl rfl (eAs rfl) ?_)
    refine wl_nil ?_
    refine wc_seq ?_
    refine wc_seq ?_
    refine wc_region ?_
    refine wl rfl (OP.ev rfl rfl (eMv rfl) ?_)
    refine wl rfl (OP.ev rfl rfl (eNot rfl) ?_)
    refine wl rfl (OP.ev rfl rfl (eMv rfl) ?_)
    refine wl_skip rfl rfl rfl rfl rfl ?_
    refine wl_skip rfl rfl rfl rfl rfl ?_
    refine wl_skip rfl rfl rfl rfl rfl ?_
    refine wl rfl (OP.ev rfl rfl (ePk rfl rfl) ?_)
    refine wl_nil ?_
    refine wc_then rfl ?_
    refine wc_seq ?_
    refine wc_region ?_
    refine wl rfl (oC rfl pf13 rfl (awake_ok _) (by repeat (first | exact Sel.all | exact Sel.none | exact Sel.hd | (apply Sel.one; · repeat (first | exact Pick.h | apply Pick.t | apply Pick.app)) | apply Sel.app | (with_reducible apply Sel.grp; · repeat (first | exact PickF.h | apply PickF.t | apply PickF.a)) | (with_reducible refine Sel.nilF (by with_unfolding_all rfl) ?_) | apply Sel.drop | apply Sel.dropF)) ?_)
    rintro _ _ ⟨rfl, rfl⟩
    refine wl rfl (OP.ev rfl rfl (eAs rfl) ?_)
    refine wl_nil ?_
    refine wc_ret ?_
    apply at_ret rfl
    · exact (.cons (.tmp rfl) .nil)
    · exact ⟨rfl, rfl⟩
    · exact (by repeat (first | exact Sel.all | exact Sel.none | exact Sel.hd | (apply Sel.one; · repeat (first | exact Pick.h | apply Pick.t | apply Pick.app)) | apply Sel.app | (with_reducible apply Sel.grp; · repeat (first | exact PickF.h | apply PickF.t | apply PickF.a)) | (with_reducible refine Sel.nilF (by with_unfolding_all rfl) ?_) | apply Sel.drop | apply Sel.dropF))
  · refine wl rfl (OP.ev rfl rfl (eMv rfl) ?_)
    refine wl rfl (OP.ev rfl rfl (eExt rfl rfl) ?_)
    refine wl rfl (OP.ev rfl rfl (eExt rfl rfl) ?_)
    refine wl rfl (OP.ev rfl rfl (eAs rfl) ?_)
    refine wl rfl (OP.ev rfl rfl (eAs rfl) ?_)
    refine wl_nil ?_
    refine wc_seq ?_
    refine wc_seq ?_
    refine wc_region ?_
    refine wl rfl (OP.ev rfl rfl (eMv rfl) ?_)
    refine wl rfl (OP.ev rfl rfl (eNot rfl) ?_)
    refine wl rfl (OP.ev rfl rfl (eMv rfl) ?_)
    refine wl_go rfl rfl (OP.ev rfl rfl (eMv rfl) ?_)
    refine wl_go rfl rfl (oCA rfl pf20 rfl (short_ok v2 l2 _ (hv2 _) (fun c hc => hr2 c hc _) hl2) ?_)
    rintro _ _ ⟨rfl, rfl⟩
    refine wl_go rfl rfl (OP.evb rfl rfl (eNot rfl) fun t32 h32 => ?_)
    refine wl rfl (OP.ev rfl rfl (ePk rfl rfl) ?_)
    refine wl_nil ?_
    cases t32 with
    | true =>
      try have c_t32 := dt h32
      first
      | (exfalso; omega)
      | (
        refine wc_then rfl ?_
        refine wc_seq ?_
        refine wc_region ?_
        refine wl rfl (oC rfl pf13 rfl (awake_ok _) (by repeat (first | exact Sel.all | exact Sel.none | exact Sel.hd | (apply Sel.one; · repeat (first | exact Pick.h | apply Pick.t | apply Pick.app)) | apply Sel.app | (with_reducible apply Sel.grp; · repeat (first | exact PickF.h | apply PickF.t | apply PickF.a)) | (with_reducible refine Sel.nilF (by with_unfolding_all rfl) ?_) | apply Sel.drop | apply Sel.dropF)) ?_)
        rintro _ _ ⟨rfl, rfl⟩
        refine wl rfl (OP.ev rfl rfl (eAs rfl) ?_)
        refine wl_nil ?_
        refine wc_ret ?_
        apply at_ret rfl
        · exact (.cons (.tmp rfl) .nil)
        · exact ⟨rfl, rfl⟩
        · exact (by repeat (first | exact Sel.all | exact Sel.none | exact Sel.hd | (apply Sel.one; · repeat (first | exact Pick.h | apply Pick.t | apply Pick.app)) | apply Sel.app | (with_reducible apply Sel.grp; · repeat (first | exact PickF.h | apply PickF.t | apply PickF.a)) | (with_reducible refine Sel.nilF (by with_unfolding_all rfl) ?_) | apply Sel.drop | apply Sel.dropF)))
    | false =>
      try have c_t32 := df h32
      first
      | (exfalso; omega)
      | (
        refine wc_else rfl ?_
        refine wc_skip ?_
        refine wc_seq ?_
        obtain ⟨hdk, hda⟩ := made_dok (X := []) room (l := l) (fun c hc => hr c hc [])
        have hsl := short_len hs
        have hsl2 := short_len (l := l2) (by simpa using h32)
        refine wc_region ?_
        refine wl rfl (OP.ev rfl rfl (eMv rfl) ?_)
        refine wl rfl (oC rfl pf14 rfl (start_ok b _ D _ hD) (by repeat (first | exact Sel.all | exact Sel.none | exact Sel.hd | (apply Sel.one; · repeat (first | exact Pick.h | apply Pick.t | apply Pick.app)) | apply Sel.app | (with_reducible apply Sel.grp; · repeat (first | exact PickF.h | apply PickF.t | apply PickF.a)) | (with_reducible refine Sel.nilF (by with_unfolding_all rfl) ?_) | apply Sel.drop | apply Sel.dropF)) ?_)
        rintro _ _ ⟨rfl, D1, I1, hI1, hD1, rfl⟩
        refine wl_nil ?_
        refine wc_seq ?_
        refine wc_region ?_
        refine wl rfl (OP.ev rfl rfl (eMv rfl) ?_)
        refine wl rfl (oC rfl pf22 rfl (clone_ok b _ hdk.start D1 _ hD1 (by show (made room l).acts.length ≤ _; omega)) (by repeat (first | exact Sel.all | exact Sel.none | exact Sel.hd | (apply Sel.one; · repeat (first | exact Pick.h | apply Pick.t | apply Pick.app)) | apply Sel.app | (with_reducible apply Sel.grp; · repeat (first | exact PickF.h | apply PickF.t | apply PickF.a)) | (with_reducible refine Sel.nilF (by with_unfolding_all rfl) ?_) | apply Sel.drop | apply Sel.dropF)) ?_)
        rintro v34 _ ⟨bc, Dc, I2, rfl, hI2, hDc, rfl⟩
        refine wl rfl (OP.ev rfl rfl (eAs rfl) ?_)
        refine wl_nil ?_
        refine wc_seq ?_
        refine wc_region ?_
        refine wl rfl (OP.ev rfl rfl (eMv rfl) ?_)
        refine wl rfl (OP.ev rfl rfl (eCv ty3 ty44 rfl) ?_)
        refine wl rfl (OP.ev rfl rfl (eRem rfl rfl rfl) ?_)
        refine wl rfl (OP.ev rfl rfl (eCv ty44 ty3 rfl) ?_)
        first | refine wl rfl (OP.ev rfl rfl (eAdd rfl rfl (by omega)) ?_) | refine wl rfl (OP.ev rfl rfl (eAddW rfl rfl) ?_)
        refine wl rfl (OP.ev rfl rfl (eAs rfl) ?_)
        refine wl_nil ?_
        rw [hrr']
        generalize rm n0 120 = n at hkr
        replace hD1 := hD1.sel hI2
        have ho0 : (made room l).start.2.off = false := rfl
        have hda0 : (made room l).start.2.acts.length ≤ 120 := by show (made room l).acts.length ≤ _; omega
        have hdk0 := hdk.start
        generalize (made room l).start.2 = d0 at hdk0 ho0 hda0 hD1 hDc
        refine wc_seq ?_
        refine wc_region ?_
        refine wl rfl (OP.ev rfl rfl (eMv rfl) ?_)
        refine wl rfl (OP.ev rfl rfl (eMv rfl) ?_)
        refine wl rfl (OP.ev rfl rfl (eMv rfl) ?_)
        refine wl rfl (OP.ev rfl rfl (eMv rfl) ?_)
        refine wl rfl (oC rfl pf15 rfl (arm_ok b d0 (1 + n) keep tear D1 _ hD1) (by repeat (first | exact Sel.all | exact Sel.none | exact Sel.hd | (apply Sel.one; · repeat (first | exact Pick.h | apply Pick.t | apply Pick.app)) | apply Sel.app | (with_reducible apply Sel.grp; · repeat (first | exact PickF.h | apply PickF.t | apply PickF.a)) | (with_reducible refine Sel.nilF (by with_unfolding_all rfl) ?_) | apply Sel.drop | apply Sel.dropF)) ?_)
        rintro _ _ ⟨rfl, D3, I3, hI3, hD3, rfl⟩
        refine wl_nil ?_
        refine wc_seq ?_
        refine wc_region ?_
        refine wl rfl (OP.ev rfl rfl (eMv rfl) ?_)
        refine wl rfl (oC rfl pf15 rfl (arm_ok bc d0 0 0 0 Dc _ (hDc.sel hI3)) (by repeat (first | exact Sel.all | exact Sel.none | exact Sel.hd | (apply Sel.one; · repeat (first | exact Pick.h | apply Pick.t | apply Pick.app)) | apply Sel.app | (with_reducible apply Sel.grp; · repeat (first | exact PickF.h | apply PickF.t | apply PickF.a)) | (with_reducible refine Sel.nilF (by with_unfolding_all rfl) ?_) | apply Sel.drop | apply Sel.dropF)) ?_)
        rintro _ _ ⟨rfl, Dc4, I4, hI4, hDc4, rfl⟩
        refine wl_nil ?_
        refine wc_seq ?_
        have hcalm : Calm (d0.arm 0 0 0).2 := by unfold DK.arm; rw [if_neg (by simp [ho0])]; exact ⟨ho0, rfl⟩
        have harm : (d0.arm (1 + n) keep tear).2 = armed (d0.arm 0 0 0).2 (1 + n) keep tear := by
          unfold DK.arm armed
          rw [if_neg (by simp [ho0]), if_neg (by simp [ho0]), show max (1 + n) 0 = 1 + n by omega]
        have hdc0 : DOk (d0.arm 0 0 0).2 := hdk0.arm (by simp [I64]) (by simp [I64]) (by simp [I64])
        have hdd0 : DOk (d0.arm (1 + n) keep tear).2 := hdk0.arm ⟨by omega, by omega⟩ hkp htr
        have hac0 : (d0.arm 0 0 0).2.acts.length ≤ 120 := by unfold DK.arm; rw [if_neg (by simp [ho0])]; exact hda0
        rw [harm] at hD3 hdd0
        replace hD3 := hD3.sel hI4
        clear harm
        generalize (d0.arm 0 0 0).2 = c0 at hcalm hdc0 hac0 hDc4 hD3 hdd0
        refine wc_region ?_
        refine wl rfl (OP.ev rfl rfl (eAs rfl) ?_)
        refine wl_nil ?_
        refine wc_seq ?_
        refine wc_seq ?_
        refine wc_region ?_
        refine wl rfl (OP.ev rfl rfl (eMv rfl) ?_)
        refine wl rfl (OP.ev rfl rfl (eLenR ty22 rfl (hv2 _)) ?_)
        refine wl rfl (OP.ev rfl rfl (eMv rfl) ?_)
        refine wl_nil ?_
        refine wc_block ?_
        refine wc_loop (σ := Nat × DK × Nat × Heap × Heap × Heap) (fun q => [(3, i64 (1 + n)), (4, i64 keep), (5, i64 tear), (13, ptr b), (15, ptr bc), (16, i64 (q.2.2.1 : Int)), (51, v2), (52, i64 (l2.length : Int)), (53, i64 (q.1 : Int))]) (fun q => q.2.2.2.1 ++ (q.2.2.2.2.1 ++ (q.2.2.2.2.2 ++ [])))
          (fun q => q.1 ≤ l2.length ∧ Calm q.2.1 ∧ DOk q.2.1 ∧ DOk (armed q.2.1 (1 + n - q.2.2.1) keep tear) ∧ DiskR W0 q.2.2.2.2.2 (armed q.2.1 (1 + n - q.2.2.1) keep tear) b q.2.2.2.1 ∧ DiskR W0 q.2.2.2.2.2 q.2.1 bc q.2.2.2.2.1 ∧ q.2.1.acts.length ≤ 120 + q.1 ∧ (q.2.2.1 : Int) < 1 + n) (fun q => l2.length - q.1) (0, c0, 0, D3, Dc4, I4) ⟨Nat.zero_le _, hcalm, hdc0, by simpa using hdd0, by simpa using hD3, hDc4, hac0, by show ((0 : Nat) : Int) < _; omega⟩ ⟨rfl, rfl, rfl, rfl, rfl, rfl, rfl, rfl, rfl, trivial⟩ (by repeat (first | exact Sel.all | exact Sel.none | exact Sel.hd | (apply Sel.one; · repeat (first | exact Pick.h | apply Pick.t | apply Pick.app)) | apply Sel.app | (with_reducible apply Sel.grp; · repeat (first | exact PickF.h | apply PickF.t | apply PickF.a)) | (with_reducible refine Sel.nilF (by with_unfolding_all rfl) ?_) | apply Sel.drop | apply Sel.dropF)) ?_
        rintro ⟨i, c, dn, D5, Dc5, I5⟩ ⟨hi, hcc, hdc, hdd, hD5, hDc5, hac5, hdn⟩
        dsimp only at hi hcc hdc hdd hD5 hDc5 hac5 hdn ⊢
        refine wc_seq ?_
        refine wc_region ?_
        refine wl rfl (OP.evb rfl rfl (eLt rfl rfl) fun t54 h54 => ?_)
        refine wl_nil ?_
        refine wc_seq ?_
        cases t54 with
        | true =>
          try have c_t54 := dt h54
          first
          | (exfalso; omega)
          | (
            refine wc_then rfl ?_
            refine wc_skip ?_
            refine wc_seq ?_
            refine wc_block ?_
            refine wc_seq ?_
            obtain ⟨k, hk⟩ : ∃ k, l2[i]? = some k := ⟨_, List.getElem?_eq_getElem (by omega)⟩
            have hkr2 := hr2 k (List.mem_of_getElem? hk)
            have hk0 : k10 k.op = IntKind.i64.wrap ((IntKind.u64.wrap k.op).tmod 10) := rfl
            refine wc_region ?_
            refine wl rfl (OP.ev rfl rfl (eIxS ty22 ty39 rfl (hv2 _) rfl (by omega) (by omega)) ?_)
            refine wl rfl (OP.ev rfl rfl (eLdSA (vs := (cC k).toList) ty39 rfl rfl (hv2 _) (i * 8) (by omega) rfl (dos_at hk) (by decide)) ?_)
            refine wl rfl (oAl rfl ty39 rfl fun b18 => ?_)
            refine wl rfl (oStW ty39 rfl rfl rfl (cC_one (hkr2 [])) (by repeat (first | exact Upd.h | apply Upd.t | apply Upd.app)) (by rfl) ?_)
            refine wl_nil ?_
            refine wc_seq ?_
            refine wc_region ?_
            refine wl rfl (OP.ev rfl rfl (eFld 0 ty39 rfl rfl ty3 rfl) ?_)
            first | refine wl rfl (OP.ev rfl rfl (eLd ty3 rfl rfl (by repeat (first | exact Has.h | apply Has.t | apply Has.app)) (by rfl)) ?_) | refine wl rfl (OP.ev rfl rfl (eLdO ty3 rfl rfl (by assumption)) ?_)
            refine wl rfl (OP.ev rfl rfl (eCv ty3 ty44 rfl) ?_)
            refine wl rfl (OP.ev rfl rfl (eRem rfl rfl rfl) ?_)
            refine wl rfl (OP.ev rfl rfl (eCv ty44 ty3 rfl) ?_)
            refine wl rfl (OP.ev rfl rfl (eAs rfl) ?_)
            refine wl_nil ?_
            refine wc_seq ?_
            refine wc_seq ?_
            refine wc_region ?_
            refine wl rfl (OP.ev rfl rfl (eMv rfl) ?_)
            refine wl rfl (OP.evb rfl rfl (eGt rfl rfl) fun t63 h63 => ?_)
            refine wl_nil ?_
            cases t63 with
            | true =>
              try have c_t63 := dt h63
              first
              | (exfalso; omega)
              | (
                refine wc_then rfl ?_
                refine wc_exit rfl ?_
                refine wc_region ?_
                first | refine wl rfl (OP.ev rfl rfl (eAdd rfl rfl (by omega)) ?_) | refine wl rfl (OP.ev rfl rfl (eAddW rfl rfl) ?_)
                refine wl rfl (OP.ev rfl rfl (eMv rfl) ?_)
                refine wl_nil ?_
                first
                | (rw [f6, show 1 + n - (dn : Int) - 1 = 1 + n - ((dn + 1 : Nat) : Int) by omega] at hD6 hdd6
                   exact ⟨(i + 1, (c.does k).2, dn + 1, D6, Dc7, I7), ⟨by show i + 1 ≤ _; omega, f2, hdc6, hdd6, hD6.sel hI7, hDc7, by show (c.does k).2.acts.length ≤ 120 + (i + 1); omega, by show ((dn + 1 : Nat) : Int) < _; omega⟩, by show _ - (i + 1) < _; omega, ⟨rfl, rfl, rfl, rfl, rfl, rfl, rfl, rfl, rfl, trivial⟩, (by repeat (first | exact Sel.all | exact Sel.none | exact Sel.hd | (apply Sel.one; · repeat (first | exact Pick.h | apply Pick.t | apply Pick.app)) | apply Sel.app | (with_reducible apply Sel.grp; · repeat (first | exact PickF.h | apply PickF.t | apply PickF.a)) | (with_reducible refine Sel.nilF (by with_unfolding_all rfl) ?_) | apply Sel.drop | apply Sel.dropF))⟩)
                | (rw [f4 c_t106] at hD6 hdd6
                   exact ⟨(i + 1, (c.does k).2, dn, D6, Dc7, I7), ⟨by show i + 1 ≤ _; omega, f2, hdc6, hdd6, hD6.sel hI7, hDc7, by show (c.does k).2.acts.length ≤ 120 + (i + 1); omega, hdn⟩, by show _ - (i + 1) < _; omega, ⟨rfl, rfl, rfl, rfl, rfl, rfl, rfl, rfl, rfl, trivial⟩, (by repeat (first | exact Sel.all | exact Sel.none | exact Sel.hd | (apply Sel.one; · repeat (first | exact Pick.h | apply Pick.t | apply Pick.app)) | apply Sel.app | (with_reducible apply Sel.grp; · repeat (first | exact PickF.h | apply PickF.t | apply PickF.a)) | (with_reducible refine Sel.nilF (by with_unfolding_all rfl) ?_) | apply Sel.drop | apply Sel.dropF))⟩)
                | exact ⟨(i + 1, c, dn, D5, Dc5, I5), ⟨by show i + 1 ≤ _; omega, hcc, hdc, hdd, hD5, hDc5, by show c.acts.length ≤ 120 + (i + 1); omega, hdn⟩, by show _ - (i + 1) < _; omega, ⟨rfl, rfl, rfl, rfl, rfl, rfl, rfl, rfl, rfl, trivial⟩, (by repeat (first | exact Sel.all | exact Sel.none | exact Sel.hd | (apply Sel.one; · repeat (first | exact Pick.h | apply Pick.t | apply Pick.app)) | apply Sel.app | (with_reducible apply Sel.grp; · repeat (first | exact PickF.h | apply PickF.t | apply PickF.a)) | (with_reducible refine Sel.nilF (by with_unfolding_all rfl) ?_) | apply Sel.drop | apply Sel.dropF))⟩)
            | false =>
              try have c_t63 := df h63
              first
              | (exfalso; omega)
              | (
                refine wc_else rfl ?_
                refine wc_skip ?_
                refine wc_seq ?_
                obtain ⟨S1, S2⟩ := str_step (keep := keep) (tear := tear) hcc (m := 1 + n - dn) (by omega) (k := k) (by omega)
                have hdd6 := hdd.does (hkr2 [])
                have hdc6 := hdc.does (hkr2 [])
                have hac6 := (does_acts c k).1
                refine wc_region ?_
                refine wl rfl (OP.ev rfl rfl (eMv rfl) ?_)
                first | refine wl rfl (OP.ev rfl rfl (eLdW ty39 rfl rfl (by repeat (first | exact Has.h | apply Has.t | apply Has.app)) (by rfl)) ?_) | refine wl rfl (OP.ev rfl rfl (eLdA (vs := [_, _, _, _, _, _, _, _]) ty39 rfl rfl (by repeat (first | exact Has.h | apply Has.t | apply Has.app)) (by rfl) (by rfl)) ?_) | refine wl rfl (OP.ev rfl rfl (eLdAO ty39 rfl rfl (by assumption) (by assumption)) ?_)
                refine wl rfl (oC rfl pf23 rfl (does_ok b _ hdd k D5 _ hD5 (hkr2 _) (by show c.acts.length < _; omega)) (by repeat (first | exact Sel.all | exact Sel.none | exact Sel.hd | (apply Sel.one; · repeat (first | exact Pick.h | apply Pick.t | apply Pick.app)) | apply Sel.app | (with_reducible apply Sel.grp; · repeat (first | exact PickF.h | apply PickF.t | apply PickF.a)) | (with_reducible refine Sel.nilF (by with_unfolding_all rfl) ?_) | apply Sel.drop | apply Sel.dropF)) ?_)
                rintro _ _ ⟨rfl, D6, I6, hI6, hD6, rfl⟩
                refine wl rfl (OP.ev rfl rfl (eAs rfl) ?_)
                refine wl_nil ?_
                refine wc_seq ?_
                refine wc_seq ?_
                refine wc_region ?_
                refine wl rfl (OP.ev rfl rfl (eMv rfl) ?_)
                refine wl rfl (OP.evb rfl rfl (eEq rfl rfl) fun t68 h68 => ?_)
                refine wl_nil ?_
                cases t68 with
                | true =>
                  try have c_t68 := dt h68
                  first
                  | (exfalso; omega)
                  | (
                    refine wc_then rfl ?_
                    refine wc_seq ?_
                    refine wc_seq ?_
                    obtain ⟨e1, e2, e3⟩ := S1 (by omega)
                    refine wc_region ?_
                    refine wl rfl (OP.ev rfl rfl (eMv rfl) ?_)
                    refine wl rfl (OP.evb rfl rfl (eLt rfl rfl) fun t70 h70 => ?_)
                    refine wl_nil ?_
                    cases t70 with
                    | true =>
                      try have c_t70 := dt h70
                      first
                      | (exfalso; omega)
                      | (
                        refine wc_then rfl ?_
                        refine wc_region ?_
                        refine wl rfl (OP.ev rfl rfl (eMv rfl) ?_)
                        first | refine wl rfl (OP.ev rfl rfl (eLdW ty39 rfl rfl (by repeat (first | exact Has.h | apply Has.t | apply Has.app)) (by rfl)) ?_) | refine wl rfl (OP.ev rfl rfl (eLdA (vs := [_, _, _, _, _, _, _, _]) ty39 rfl rfl (by repeat (first | exact Has.h | apply Has.t | apply Has.app)) (by rfl) (by rfl)) ?_) | refine wl rfl (OP.ev rfl rfl (eLdAO ty39 rfl rfl (by assumption) (by assumption)) ?_)
                        refine wl rfl (oC rfl pf23 rfl (does_ok bc c hdc k Dc5 _ (hDc5.sel hI6) (hkr2 _) (by omega)) (by repeat (first | exact Sel.all | exact Sel.none | exact Sel.hd | (apply Sel.one; · repeat (first | exact Pick.h | apply Pick.t | apply Pick.app)) | apply Sel.app | (with_reducible apply Sel.grp; · repeat (first | exact PickF.h | apply PickF.t | apply PickF.a)) | (with_reducible refine Sel.nilF (by with_unfolding_all rfl) ?_) | apply Sel.drop | apply Sel.dropF)) ?_)
                        rintro _ _ ⟨rfl, Dc7, I7, hI7, hDc7, rfl⟩
                        refine wl_nil ?_
                        refine wc_seq ?_
                        refine wc_region ?_
                        refine wl rfl (OP.ev rfl rfl (eMv rfl) ?_)
                        refine wl rfl (OP.ev rfl rfl (eMv rfl) ?_)
                        refine wl rfl (OP.ev rfl rfl (eMv rfl) ?_)
                        first
                        | (refine wl rfl (oC rfl pf39 rfl (crash_ok bc _ hdc6 keep tear hkp htr Dc7 _ hDc7 (by omega)) (by repeat (first | exact Sel.all | exact Sel.none | exact Sel.hd | (apply Sel.one; · repeat (first | exact Pick.h | apply Pick.t | apply Pick.app)) | apply Sel.app | (with_reducible apply Sel.grp; · repeat (first | exact PickF.h | apply PickF.t | apply PickF.a)) | (with_reducible refine Sel.nilF (by with_unfolding_all rfl) ?_) | apply Sel.drop | apply Sel.dropF)) ?_); rintro _ _ ⟨rfl, Dc8, I8, hI8, hDc8, rfl⟩; have hD8 := (hD6.sel hI7).sel hI8; have hsb := e2 (by omega); have hdc8 := (hdc6.crash keep tear).start; have hx8 : ((c.does k).2.crash keep tear).2.start.1 = 0 := rfl)
                        | (refine wl rfl (oC rfl pf39 rfl (crash_ok bc _ hdc keep tear hkp htr Dc5 _ (hDc5.sel hI6) (by omega)) (by repeat (first | exact Sel.all | exact Sel.none | exact Sel.hd | (apply Sel.one; · repeat (first | exact Pick.h | apply Pick.t | apply Pick.app)) | apply Sel.app | (with_reducible apply Sel.grp; · repeat (first | exact PickF.h | apply PickF.t | apply PickF.a)) | (with_reducible refine Sel.nilF (by with_unfolding_all rfl) ?_) | apply Sel.drop | apply Sel.dropF)) ?_); rintro _ _ ⟨rfl, Dc8, I8, hI8, hDc8, rfl⟩; have hD8 := hD6.sel hI8; have hsb := e3 (by omega); have hdc8 := (hdc.crash keep tear).start; have hx8 : (c.crash keep tear).2.start.1 = 0 := rfl)
                        refine wl_nil ?_
                        refine wc_seq ?_
                        refine wc_region ?_
                        refine wl rfl (OP.ev rfl rfl (eMv rfl) ?_)
                        refine wl rfl (OP.ev rfl rfl (eMv rfl) ?_)
                        first | refine wl rfl (OP.ev rfl rfl (eSub rfl rfl (by omega)) ?_) | refine wl rfl (OP.ev rfl rfl (eSubW rfl rfl) ?_)
                        refine wl rfl (OP.evb rfl rfl (eEq rfl rfl) fun t81 h81 => ?_)
                        refine wl rfl (OP.ev rfl rfl (eMv rfl) ?_)
                        cases t81 with
                        | true =>
                          try have c_t81 := dt h81
                          first
                          | (exfalso; omega)
                          | (
                            refine wl_go rfl rfl (OP.ev rfl rfl (eMv rfl) ?_)
                            have hy8 : (((armed c (1 + n - dn) keep tear).does k).2.start).1 = 0 := rfl
                            refine wl_go rfl rfl (oC rfl pf14 rfl (start_ok b _ D6 _ hD8) (by repeat (first | exact Sel.all | exact Sel.none | exact Sel.hd | (apply Sel.one; · repeat (first | exact Pick.h | apply Pick.t | apply Pick.app)) | apply Sel.app | (with_reducible apply Sel.grp; · repeat (first | exact PickF.h | apply PickF.t | apply PickF.a)) | (with_reducible refine Sel.nilF (by with_unfolding_all rfl) ?_) | apply Sel.drop | apply Sel.dropF)) ?_)
                            rintro _ _ ⟨rfl, D9, I9, hI9, hD9, rfl⟩
                            refine wl_go rfl rfl (OP.evb rfl rfl (eEq rfl rfl) fun t85 h85 => ?_)
                            refine wl rfl (OP.ev rfl rfl (ePk rfl rfl) ?_)
                            refine wl rfl (OP.ev rfl rfl (eMv rfl) ?_)
                            cases t85 with
                            | true =>
                              try have c_t85 := dt h85
                              first
                              | (exfalso; omega)
                              | (
                                refine wl_go rfl rfl (OP.ev rfl rfl (eMv rfl) ?_)
                                refine wl_go rfl rfl (oC rfl pf14 rfl (start_ok bc _ Dc8 _ (hDc8.sel hI9)) (by repeat (first | exact Sel.all | exact Sel.none | exact Sel.hd | (apply Sel.one; · repeat (first | exact Pick.h | apply Pick.t | apply Pick.app)) | apply Sel.app | (with_reducible apply Sel.grp; · repeat (first | exact PickF.h | apply PickF.t | apply PickF.a)) | (with_reducible refine Sel.nilF (by with_unfolding_all rfl) ?_) | apply Sel.drop | apply Sel.dropF)) ?_)
                                rintro _ _ ⟨rfl, Dc10, I10, hI10, hDc10, rfl⟩
                                refine wl_go rfl rfl (OP.evb rfl rfl (eEq rfl rfl) fun t90 h90 => ?_)
                                refine wl rfl (OP.ev rfl rfl (ePk rfl rfl) ?_)
                                refine wl rfl (OP.ev rfl rfl (eMv rfl) ?_)
                                cases t90 with
                                | true =>
                                  try have c_t90 := dt h90
                                  first
                                  | (exfalso; omega)
                                  | (
                                    refine wl_go rfl rfl (OP.ev rfl rfl (eMv rfl) ?_)
                                    refine wl_go rfl rfl (OP.ev rfl rfl (eMv rfl) ?_)
                                    refine wl_go rfl rfl (oC rfl pf40 rfl (same_ok bc b _ _ hdc8 hdd6.start Dc10 D9 _ hDc10 (hD9.sel hI10)) (by repeat (first | exact Sel.all | exact Sel.none | exact Sel.hd | (apply Sel.one; · repeat (first | exact Pick.h | apply Pick.t | apply Pick.app)) | apply Sel.app | (with_reducible apply Sel.grp; · repeat (first | exact PickF.h | apply PickF.t | apply PickF.a)) | (with_reducible refine Sel.nilF (by with_unfolding_all rfl) ?_) | apply Sel.drop | apply Sel.dropF)) ?_)
                                    rintro _ _ ⟨rfl, rfl⟩
                                    rw [hsb]
                                    refine wl rfl (OP.ev rfl rfl (ePk rfl rfl) ?_)
                                    refine wl rfl (OP.ev rfl rfl (eMv rfl) ?_)
                                    refine wl_go rfl rfl (oC rfl pf13 rfl (awake_ok _) (by repeat (first | exact Sel.all | exact Sel.none | exact Sel.hd | (apply Sel.one; · repeat (first | exact Pick.h | apply Pick.t | apply Pick.app)) | apply Sel.app | (with_reducible apply Sel.grp; · repeat (first | exact PickF.h | apply PickF.t | apply PickF.a)) | (with_reducible refine Sel.nilF (by with_unfolding_all rfl) ?_) | apply Sel.drop | apply Sel.dropF)) ?_)
                                    rintro _ _ ⟨rfl, rfl⟩
                                    refine wl rfl (OP.ev rfl rfl (ePk rfl rfl) ?_)
                                    refine wl rfl (OP.ev rfl rfl (eAs rfl) ?_)
                                    refine wl_nil ?_
                                    refine wc_ret ?_
                                    apply at_ret rfl
                                    · exact (.cons (.tmp rfl) .nil)
                                    · exact ⟨rfl, rfl⟩
                                    · exact (by repeat (first | exact Sel.all | exact Sel.none | exact Sel.hd | (apply Sel.one; · repeat (first | exact Pick.h | apply Pick.t | apply Pick.app)) | apply Sel.app | (with_reducible apply Sel.grp; · repeat (first | exact PickF.h | apply PickF.t | apply PickF.a)) | (with_reducible refine Sel.nilF (by with_unfolding_all rfl) ?_) | apply Sel.drop | apply Sel.dropF)))
                                | false =>
                                  try have c_t90 := df h90
                                  first
                                  | (exfalso; omega)
                                  | (
                                    refine wl_skip rfl rfl rfl rfl rfl ?_
                                    refine wl_skip rfl rfl rfl rfl rfl ?_
                                    refine wl_skip rfl rfl rfl rfl rfl ?_
                                    refine wl rfl (OP.ev rfl rfl (ePk rfl rfl) ?_)
                                    refine wl rfl (OP.ev rfl rfl (eMv rfl) ?_)
                                    refine wl_skip rfl rfl rfl rfl rfl ?_
                                    refine wl rfl (OP.ev rfl rfl (ePk rfl rfl) ?_)
                                    refine wl rfl (OP.ev rfl rfl (eAs rfl) ?_)
                                    refine wl_nil ?_
                                    refine wc_ret ?_
                                    apply at_ret rfl
                                    · exact (.cons (.tmp rfl) .nil)
                                    · exact ⟨rfl, rfl⟩
                                    · exact (by repeat (first | exact Sel.all | exact Sel.none | exact Sel.hd | (apply Sel.one; · repeat (first | exact Pick.h | apply Pick.t | apply Pick.app)) | apply Sel.app | (with_reducible apply Sel.grp; · repeat (first | exact PickF.h | apply PickF.t | apply PickF.a)) | (with_reducible refine Sel.nilF (by with_unfolding_all rfl) ?_) | apply Sel.drop | apply Sel.dropF))))
                            | false =>
                              try have c_t85 := df h85
                              first
                              | (exfalso; omega)
                              | (
                                refine wl_skip rfl rfl rfl rfl rfl ?_
                                refine wl_skip rfl rfl rfl rfl rfl ?_
                                refine wl_skip rfl rfl rfl rfl rfl ?_
                                refine wl rfl (OP.ev rfl rfl (ePk rfl rfl) ?_)
                                refine wl rfl (OP.ev rfl rfl (eMv rfl) ?_)
                                refine wl_skip rfl rfl rfl rfl rfl ?_
                                refine wl_skip rfl rfl rfl rfl rfl ?_
                                refine wl_skip rfl rfl rfl rfl rfl ?_
                                refine wl rfl (OP.ev rfl rfl (ePk rfl rfl) ?_)
                                refine wl rfl (OP.ev rfl rfl (eMv rfl) ?_)
                                refine wl_skip rfl rfl rfl rfl rfl ?_
                                refine wl rfl (OP.ev rfl rfl (ePk rfl rfl) ?_)
                                refine wl rfl (OP.ev rfl rfl (eAs rfl) ?_)
                                refine wl_nil ?_
                                refine wc_ret ?_
                                apply at_ret rfl
                                · exact (.cons (.tmp rfl) .nil)
                                · exact ⟨rfl, rfl⟩
                                · exact (by repeat (first | exact Sel.all | exact Sel.none | exact Sel.hd | (apply Sel.one; · repeat (first | exact Pick.h | apply Pick.t | apply Pick.app)) | apply Sel.app | (with_reducible apply Sel.grp; · repeat (first | exact PickF.h | apply PickF.t | apply PickF.a)) | (with_reducible refine Sel.nilF (by with_unfolding_all rfl) ?_) | apply Sel.drop | apply Sel.dropF))))
                        | false =>
                          try have c_t81 := df h81
                          first
                          | (exfalso; omega)
                          | (
                            refine wl_skip rfl rfl rfl rfl rfl ?_
                            refine wl_skip rfl rfl rfl rfl rfl ?_
                            refine wl_skip rfl rfl rfl rfl rfl ?_
                            refine wl rfl (OP.ev rfl rfl (ePk rfl rfl) ?_)
                            refine wl rfl (OP.ev rfl rfl (eMv rfl) ?_)
                            refine wl_skip rfl rfl rfl rfl rfl ?_
                            refine wl_skip rfl rfl rfl rfl rfl ?_
                            refine wl_skip rfl rfl rfl rfl rfl ?_
                            refine wl rfl (OP.ev rfl rfl (ePk rfl rfl) ?_)
                            refine wl rfl (OP.ev rfl rfl (eMv rfl) ?_)
                            refine wl_skip rfl rfl rfl rfl rfl ?_
                            refine wl_skip rfl rfl rfl rfl rfl ?_
                            refine wl_skip rfl rfl rfl rfl rfl ?_
                            refine wl rfl (OP.ev rfl rfl (ePk rfl rfl) ?_)
                            refine wl rfl (OP.ev rfl rfl (eMv rfl) ?_)
                            refine wl_skip rfl rfl rfl rfl rfl ?_
                            refine wl rfl (OP.ev rfl rfl (ePk rfl rfl) ?_)
                            refine wl rfl (OP.ev rfl rfl (eAs rfl) ?_)
                            refine wl_nil ?_
                            refine wc_ret ?_
                            apply at_ret rfl
                            · exact (.cons (.tmp rfl) .nil)
                            · exact ⟨rfl, rfl⟩
                            · exact (by repeat (first | exact Sel.all | exact Sel.none | exact Sel.hd | (apply Sel.one; · repeat (first | exact Pick.h | apply Pick.t | apply Pick.app)) | apply Sel.app | (with_reducible apply Sel.grp; · repeat (first | exact PickF.h | apply PickF.t | apply PickF.a)) | (with_reducible refine Sel.nilF (by with_unfolding_all rfl) ?_) | apply Sel.drop | apply Sel.dropF))))
                    | false =>
                      try have c_t70 := df h70
                      first
                      | (exfalso; omega)
                      | (
                        refine wc_else rfl ?_
                        refine wc_skip ?_
                        refine wc_seq ?_
                        refine wc_region ?_
                        refine wl rfl (OP.ev rfl rfl (eMv rfl) ?_)
                        refine wl rfl (OP.ev rfl rfl (eMv rfl) ?_)
                        refine wl rfl (OP.ev rfl rfl (eMv rfl) ?_)
                        first
                        | (refine wl rfl (oC rfl pf39 rfl (crash_ok bc _ hdc6 keep tear hkp htr Dc7 _ hDc7 (by omega)) (by repeat (first | exact Sel.all | exact Sel.none | exact Sel.hd | (apply Sel.one; · repeat (first | exact Pick.h | apply Pick.t | apply Pick.app)) | apply Sel.app | (with_reducible apply Sel.grp; · repeat (first | exact PickF.h | apply PickF.t | apply PickF.a)) | (with_reducible refine Sel.nilF (by with_unfolding_all rfl) ?_) | apply Sel.drop | apply Sel.dropF)) ?_); rintro _ _ ⟨rfl, Dc8, I8, hI8, hDc8, rfl⟩; have hD8 := (hD6.sel hI7).sel hI8; have hsb := e2 (by omega); have hdc8 := (hdc6.crash keep tear).start; have hx8 : ((c.does k).2.crash keep tear).2.start.1 = 0 := rfl)
                        | (refine wl rfl (oC rfl pf39 rfl (crash_ok bc _ hdc keep tear hkp htr Dc5 _ (hDc5.sel hI6) (by omega)) (by repeat (first | exact Sel.all | exact Sel.none | exact Sel.hd | (apply Sel.one; · repeat (first | exact Pick.h | apply Pick.t | apply Pick.app)) | apply Sel.app | (with_reducible apply Sel.grp; · repeat (first | exact PickF.h | apply PickF.t | apply PickF.a)) | (with_reducible refine Sel.nilF (by with_unfolding_all rfl) ?_) | apply Sel.drop | apply Sel.dropF)) ?_); rintro _ _ ⟨rfl, Dc8, I8, hI8, hDc8, rfl⟩; have hD8 := hD6.sel hI8; have hsb := e3 (by omega); have hdc8 := (hdc.crash keep tear).start; have hx8 : (c.crash keep tear).2.start.1 = 0 := rfl)
                        refine wl_nil ?_
                        refine wc_seq ?_
                        refine wc_region ?_
                        refine wl rfl (OP.ev rfl rfl (eMv rfl) ?_)
                        refine wl rfl (OP.ev rfl rfl (eMv rfl) ?_)
                        first | refine wl rfl (OP.ev rfl rfl (eSub rfl rfl (by omega)) ?_) | refine wl rfl (OP.ev rfl rfl (eSubW rfl rfl) ?_)
                        refine wl rfl (OP.evb rfl rfl (eEq rfl rfl) fun t81 h81 => ?_)
                        refine wl rfl (OP.ev rfl rfl (eMv rfl) ?_)
                        cases t81 with
                        | true =>
                          try have c_t81 := dt h81
                          first
                          | (exfalso; omega)
                          | (
                            refine wl_go rfl rfl (OP.ev rfl rfl (eMv rfl) ?_)
                            have hy8 : (((armed c (1 + n - dn) keep tear).does k).2.start).1 = 0 := rfl
                            refine wl_go rfl rfl (oC rfl pf14 rfl (start_ok b _ D6 _ hD8) (by repeat (first | exact Sel.all | exact Sel.none | exact Sel.hd | (apply Sel.one; · repeat (first | exact Pick.h | apply Pick.t | apply Pick.app)) | apply Sel.app | (with_reducible apply Sel.grp; · repeat (first | exact PickF.h | apply PickF.t | apply PickF.a)) | (with_reducible refine Sel.nilF (by with_unfolding_all rfl) ?_) | apply Sel.drop | apply Sel.dropF)) ?_)
                            rintro _ _ ⟨rfl, D9, I9, hI9, hD9, rfl⟩
                            refine wl_go rfl rfl (OP.evb rfl rfl (eEq rfl rfl) fun t85 h85 => ?_)
                            refine wl rfl (OP.ev rfl rfl (ePk rfl rfl) ?_)
                            refine wl rfl (OP.ev rfl rfl (eMv rfl) ?_)
                            cases t85 with
                            | true =>
                              try have c_t85 := dt h85
                              first
                              | (exfalso; omega)
                              | (
                                refine wl_go rfl rfl (OP.ev rfl rfl (eMv rfl) ?_)
                                refine wl_go rfl rfl (oC rfl pf14 rfl (start_ok bc _ Dc8 _ (hDc8.sel hI9)) (by repeat (first | exact Sel.all | exact Sel.none | exact Sel.hd | (apply Sel.one; · repeat (first | exact Pick.h | apply Pick.t | apply Pick.app)) | apply Sel.app | (with_reducible apply Sel.grp; · repeat (first | exact PickF.h | apply PickF.t | apply PickF.a)) | (with_reducible refine Sel.nilF (by with_unfolding_all rfl) ?_) | apply Sel.drop | apply Sel.dropF)) ?_)
                                rintro _ _ ⟨rfl, Dc10, I10, hI10, hDc10, rfl⟩
                                refine wl_go rfl rfl (OP.evb rfl rfl (eEq rfl rfl) fun t90 h90 => ?_)
                                refine wl rfl (OP.ev rfl rfl (ePk rfl rfl) ?_)
                                refine wl rfl (OP.ev rfl rfl (eMv rfl) ?_)
                                cases t90 with
                                | true =>
                                  try have c_t90 := dt h90
                                  first
                                  | (exfalso; omega)
                                  | (
                                    refine wl_go rfl rfl (OP.ev rfl rfl (eMv rfl) ?_)
                                    refine wl_go rfl rfl (OP.ev rfl rfl (eMv rfl) ?_)
                                    refine wl_go rfl rfl (oC rfl pf40 rfl (same_ok bc b _ _ hdc8 hdd6.start Dc10 D9 _ hDc10 (hD9.sel hI10)) (by repeat (first | exact Sel.all | exact Sel.none | exact Sel.hd | (apply Sel.one; · repeat (first | exact Pick.h | apply Pick.t | apply Pick.app)) | apply Sel.app | (with_reducible apply Sel.grp; · repeat (first | exact PickF.h | apply PickF.t | apply PickF.a)) | (with_reducible refine Sel.nilF (by with_unfolding_all rfl) ?_) | apply Sel.drop | apply Sel.dropF)) ?_)
                                    rintro _ _ ⟨rfl, rfl⟩
                                    rw [hsb]
                                    refine wl rfl (OP.ev rfl rfl (ePk rfl rfl) ?_)
                                    refine wl rfl (OP.ev rfl rfl (eMv rfl) ?_)
                                    refine wl_go rfl rfl (oC rfl pf13 rfl (awake_ok _) (by repeat (first | exact Sel.all | exact Sel.none | exact Sel.hd | (apply Sel.one; · repeat (first | exact Pick.h | apply Pick.t | apply Pick.app)) | apply Sel.app | (with_reducible apply Sel.grp; · repeat (first | exact PickF.h | apply PickF.t | apply PickF.a)) | (with_reducible refine Sel.nilF (by with_unfolding_all rfl) ?_) | apply Sel.drop | apply Sel.dropF)) ?_)
                                    rintro _ _ ⟨rfl, rfl⟩
                                    refine wl rfl (OP.ev rfl rfl (ePk rfl rfl) ?_)
                                    refine wl rfl (OP.ev rfl rfl (eAs rfl) ?_)
                                    refine wl_nil ?_
                                    refine wc_ret ?_
                                    apply at_ret rfl
                                    · exact (.cons (.tmp rfl) .nil)
                                    · exact ⟨rfl, rfl⟩
                                    · exact (by repeat (first | exact Sel.all | exact Sel.none | exact Sel.hd | (apply Sel.one; · repeat (first | exact Pick.h | apply Pick.t | apply Pick.app)) | apply Sel.app | (with_reducible apply Sel.grp; · repeat (first | exact PickF.h | apply PickF.t | apply PickF.a)) | (with_reducible refine Sel.nilF (by with_unfolding_all rfl) ?_) | apply Sel.drop | apply Sel.dropF)))
                                | false =>
                                  try have c_t90 := df h90
                                  first
                                  | (exfalso; omega)
                                  | (
                                    refine wl_skip rfl rfl rfl rfl rfl ?_
                                    refine wl_skip rfl rfl rfl rfl rfl ?_
                                    refine wl_skip rfl rfl rfl rfl rfl ?_
                                    refine wl rfl (OP.ev rfl rfl (ePk rfl rfl) ?_)
                                    refine wl rfl (OP.ev rfl rfl (eMv rfl) ?_)
                                    refine wl_skip rfl rfl rfl rfl rfl ?_
                                    refine wl rfl (OP.ev rfl rfl (ePk rfl rfl) ?_)
                                    refine wl rfl (OP.ev rfl rfl (eAs rfl) ?_)
                                    refine wl_nil ?_
                                    refine wc_ret ?_
                                    apply at_ret rfl
                                    · exact (.cons (.tmp rfl) .nil)
                                    · exact ⟨rfl, rfl⟩
                                    · exact (by repeat (first | exact Sel.all | exact Sel.none | exact Sel.hd | (apply Sel.one; · repeat (first | exact Pick.h | apply Pick.t | apply Pick.app)) | apply Sel.app | (with_reducible apply Sel.grp; · repeat (first | exact PickF.h | apply PickF.t | apply PickF.a)) | (with_reducible refine Sel.nilF (by with_unfolding_all rfl) ?_) | apply Sel.drop | apply Sel.dropF))))
                            | false =>
                              try have c_t85 := df h85
                              first
                              | (exfalso; omega)
                              | (
                                refine wl_skip rfl rfl rfl rfl rfl ?_
                                refine wl_skip rfl rfl rfl rfl rfl ?_
                                refine wl_skip rfl rfl rfl rfl rfl ?_
                                refine wl rfl (OP.ev rfl rfl (ePk rfl rfl) ?_)
                                refine wl rfl (OP.ev rfl rfl (eMv rfl) ?_)
                                refine wl_skip rfl rfl rfl rfl rfl ?_
                                refine wl_skip rfl rfl rfl rfl rfl ?_
                                refine wl_skip rfl rfl rfl rfl rfl ?_
                                refine wl rfl (OP.ev rfl rfl (ePk rfl rfl) ?_)
                                refine wl rfl (OP.ev rfl rfl (eMv rfl) ?_)
                                refine wl_skip rfl rfl rfl rfl rfl ?_
                                refine wl rfl (OP.ev rfl rfl (ePk rfl rfl) ?_)
                                refine wl rfl (OP.ev rfl rfl (eAs rfl) ?_)
                                refine wl_nil ?_
                                refine wc_ret ?_
                                apply at_ret rfl
                                · exact (.cons (.tmp rfl) .nil)
                                · exact ⟨rfl, rfl⟩
                                · exact (by repeat (first | exact Sel.all | exact Sel.none | exact Sel.hd | (apply Sel.one; · repeat (first | exact Pick.h | apply Pick.t | apply Pick.app)) | apply Sel.app | (with_reducible apply Sel.grp; · repeat (first | exact PickF.h | apply PickF.t | apply PickF.a)) | (with_reducible refine Sel.nilF (by with_unfolding_all rfl) ?_) | apply Sel.drop | apply Sel.dropF))))
                        | false =>
                          try have c_t81 := df h81
                          first
                          | (exfalso; omega)
                          | (
                            refine wl_skip rfl rfl rfl rfl rfl ?_
                            refine wl_skip rfl rfl rfl rfl rfl ?_
                            refine wl_skip rfl rfl rfl rfl rfl ?_
                            refine wl rfl (OP.ev rfl rfl (ePk rfl rfl) ?_)
                            refine wl rfl (OP.ev rfl rfl (eMv rfl) ?_)
                            refine wl_skip rfl rfl rfl rfl rfl ?_
                            refine wl_skip rfl rfl rfl rfl rfl ?_
                            refine wl_skip rfl rfl rfl rfl rfl ?_
                            refine wl rfl (OP.ev rfl rfl (ePk rfl rfl) ?_)
                            refine wl rfl (OP.ev rfl rfl (eMv rfl) ?_)
                            refine wl_skip rfl rfl rfl rfl rfl ?_
                            refine wl_skip rfl rfl rfl rfl rfl ?_
                            refine wl_skip rfl rfl rfl rfl rfl ?_
                            refine wl rfl (OP.ev rfl rfl (ePk rfl rfl) ?_)
                            refine wl rfl (OP.ev rfl rfl (eMv rfl) ?_)
                            refine wl_skip rfl rfl rfl rfl rfl ?_
                            refine wl rfl (OP.ev rfl rfl (ePk rfl rfl) ?_)
                            refine wl rfl (OP.ev rfl rfl (eAs rfl) ?_)
                            refine wl_nil ?_
                            refine wc_ret ?_
                            apply at_ret rfl
                            · exact (.cons (.tmp rfl) .nil)
                            · exact ⟨rfl, rfl⟩
                            · exact (by repeat (first | exact Sel.all | exact Sel.none | exact Sel.hd | (apply Sel.one; · repeat (first | exact Pick.h | apply Pick.t | apply Pick.app)) | apply Sel.app | (with_reducible apply Sel.grp; · repeat (first | exact PickF.h | apply PickF.t | apply PickF.a)) | (with_reducible refine Sel.nilF (by with_unfolding_all rfl) ?_) | apply Sel.drop | apply Sel.dropF)))))
                | false =>
                  try have c_t68 := df h68
                  first
                  | (exfalso; omega)
                  | (
                    refine wc_else rfl ?_
                    refine wc_skip ?_
                    refine wc_seq ?_
                    refine wc_seq ?_
                    obtain ⟨f1, f2, f3, f4⟩ := S2 (by omega)
                    refine wc_region ?_
                    refine wl rfl (OP.ev rfl rfl (eMv rfl) ?_)
                    first | refine wl rfl (OP.ev rfl rfl (eLdW ty39 rfl rfl (by repeat (first | exact Has.h | apply Has.t | apply Has.app)) (by rfl)) ?_) | refine wl rfl (OP.ev rfl rfl (eLdA (vs := [_, _, _, _, _, _, _, _]) ty39 rfl rfl (by repeat (first | exact Has.h | apply Has.t | apply Has.app)) (by rfl) (by rfl)) ?_) | refine wl rfl (OP.ev rfl rfl (eLdAO ty39 rfl rfl (by assumption) (by assumption)) ?_)
                    refine wl rfl (oC rfl pf23 rfl (does_ok bc c hdc k Dc5 _ (hDc5.sel hI6) (hkr2 _) (by omega)) (by repeat (first | exact Sel.all | exact Sel.none | exact Sel.hd | (apply Sel.one; · repeat (first | exact Pick.h | apply Pick.t | apply Pick.app)) | apply Sel.app | (with_reducible apply Sel.grp; · repeat (first | exact PickF.h | apply PickF.t | apply PickF.a)) | (with_reducible refine Sel.nilF (by with_unfolding_all rfl) ?_) | apply Sel.drop | apply Sel.dropF)) ?_)
                    rintro _ _ ⟨rfl, Dc7, I7, hI7, hDc7, rfl⟩
                    refine wl rfl (OP.ev rfl rfl (eMv rfl) ?_)
                    refine wl rfl (OP.evb rfl rfl (eNe rfl rfl) fun t104 h104 => ?_)
                    refine wl_nil ?_
                    cases t104 with
                    | true =>
                      try have c_t104 := dt h104
                      first
                      | (exfalso; omega)
                      | (
                        refine wc_then rfl ?_
                        refine wc_seq ?_
                        refine wc_region ?_
                        refine wl rfl (OP.ev rfl rfl (eAs rfl) ?_)
                        refine wl_nil ?_
                        refine wc_ret ?_
                        apply at_ret rfl
                        · exact (.cons (.tmp rfl) .nil)
                        · exact ⟨rfl, rfl⟩
                        · exact (by repeat (first | exact Sel.all | exact Sel.none | exact Sel.hd | (apply Sel.one; · repeat (first | exact Pick.h | apply Pick.t | apply Pick.app)) | apply Sel.app | (with_reducible apply Sel.grp; · repeat (first | exact PickF.h | apply PickF.t | apply PickF.a)) | (with_reducible refine Sel.nilF (by with_unfolding_all rfl) ?_) | apply Sel.drop | apply Sel.dropF)))
                    | false =>
                      try have c_t104 := df h104
                      first
                      | (exfalso; omega)
                      | (
                        refine wc_else rfl ?_
                        refine wc_skip ?_
                        refine wc_seq ?_
                        refine wc_region ?_
                        refine wl rfl (OP.ev rfl rfl (eMv rfl) ?_)
                        refine wl rfl (OP.evb rfl rfl (eEq rfl rfl) fun t106 h106 => ?_)
                        refine wl_nil ?_
                        cases t106 with
                        | true =>
                          try have c_t106 := dt h106
                          first
                          | (exfalso; omega)
                          | (
                            refine wc_then rfl ?_
                            obtain ⟨f5, f6⟩ := f3 (by omega)
                            refine wc_region ?_
                            refine wl rfl (OP.ev rfl rfl (eMv rfl) ?_)
                            first | refine wl rfl (OP.ev rfl rfl (eAdd rfl rfl (by omega)) ?_) | refine wl rfl (OP.ev rfl rfl (eAddW rfl rfl) ?_)
                            refine wl rfl (OP.ev rfl rfl (eAs rfl) ?_)
                            refine wl_nil ?_
                            refine wc_region ?_
                            first | refine wl rfl (OP.ev rfl rfl (eAdd rfl rfl (by omega)) ?_) | refine wl rfl (OP.ev rfl rfl (eAddW rfl rfl) ?_)
                            refine wl rfl (OP.ev rfl rfl (eMv rfl) ?_)
                            refine wl_nil ?_
                            first
                            | (rw [f6, show 1 + n - (dn : Int) - 1 = 1 + n - ((dn + 1 : Nat) : Int) by omega] at hD6 hdd6
                               exact ⟨(i + 1, (c.does k).2, dn + 1, D6, Dc7, I7), ⟨by show i + 1 ≤ _; omega, f2, hdc6, hdd6, hD6.sel hI7, hDc7, by show (c.does k).2.acts.length ≤ 120 + (i + 1); omega, by show ((dn + 1 : Nat) : Int) < _; omega⟩, by show _ - (i + 1) < _; omega, ⟨rfl, rfl, rfl, rfl, rfl, rfl, rfl, rfl, rfl, trivial⟩, (by repeat (first | exact Sel.all | exact Sel.none | exact Sel.hd | (apply Sel.one; · repeat (first | exact Pick.h | apply Pick.t | apply Pick.app)) | apply Sel.app | (with_reducible apply Sel.grp; · repeat (first | exact PickF.h | apply PickF.t | apply PickF.a)) | (with_reducible refine Sel.nilF (by with_unfolding_all rfl) ?_) | apply Sel.drop | apply Sel.dropF))⟩)
                            | (rw [f4 c_t106] at hD6 hdd6
                               exact ⟨(i + 1, (c.does k).2, dn, D6, Dc7, I7), ⟨by show i + 1 ≤ _; omega, f2, hdc6, hdd6, hD6.sel hI7, hDc7, by show (c.does k).2.acts.length ≤ 120 + (i + 1); omega, hdn⟩, by show _ - (i + 1) < _; omega, ⟨rfl, rfl, rfl, rfl, rfl, rfl, rfl, rfl, rfl, trivial⟩, (by repeat (first | exact Sel.all | exact Sel.none | exact Sel.hd | (apply Sel.one; · repeat (first | exact Pick.h | apply Pick.t | apply Pick.app)) | apply Sel.app | (with_reducible apply Sel.grp; · repeat (first | exact PickF.h | apply PickF.t | apply PickF.a)) | (with_reducible refine Sel.nilF (by with_unfolding_all rfl) ?_) | apply Sel.drop | apply Sel.dropF))⟩)
                            | exact ⟨(i + 1, c, dn, D5, Dc5, I5), ⟨by show i + 1 ≤ _; omega, hcc, hdc, hdd, hD5, hDc5, by show c.acts.length ≤ 120 + (i + 1); omega, hdn⟩, by show _ - (i + 1) < _; omega, ⟨rfl, rfl, rfl, rfl, rfl, rfl, rfl, rfl, rfl, trivial⟩, (by repeat (first | exact Sel.all | exact Sel.none | exact Sel.hd | (apply Sel.one; · repeat (first | exact Pick.h | apply Pick.t | apply Pick.app)) | apply Sel.app | (with_reducible apply Sel.grp; · repeat (first | exact PickF.h | apply PickF.t | apply PickF.a)) | (with_reducible refine Sel.nilF (by with_unfolding_all rfl) ?_) | apply Sel.drop | apply Sel.dropF))⟩)
                        | false =>
                          try have c_t106 := df h106
                          first
                          | (exfalso; omega)
                          | (
                            refine wc_else rfl ?_
                            refine wc_skip ?_
                            refine wc_region ?_
                            first | refine wl rfl (OP.ev rfl rfl (eAdd rfl rfl (by omega)) ?_) | refine wl rfl (OP.ev rfl rfl (eAddW rfl rfl) ?_)
                            refine wl rfl (OP.ev rfl rfl (eMv rfl) ?_)
                            refine wl_nil ?_
                            first
                            | (rw [f6, show 1 + n - (dn : Int) - 1 = 1 + n - ((dn + 1 : Nat) : Int) by omega] at hD6 hdd6
                               exact ⟨(i + 1, (c.does k).2, dn + 1, D6, Dc7, I7), ⟨by show i + 1 ≤ _; omega, f2, hdc6, hdd6, hD6.sel hI7, hDc7, by show (c.does k).2.acts.length ≤ 120 + (i + 1); omega, by show ((dn + 1 : Nat) : Int) < _; omega⟩, by show _ - (i + 1) < _; omega, ⟨rfl, rfl, rfl, rfl, rfl, rfl, rfl, rfl, rfl, trivial⟩, (by repeat (first | exact Sel.all | exact Sel.none | exact Sel.hd | (apply Sel.one; · repeat (first | exact Pick.h | apply Pick.t | apply Pick.app)) | apply Sel.app | (with_reducible apply Sel.grp; · repeat (first | exact PickF.h | apply PickF.t | apply PickF.a)) | (with_reducible refine Sel.nilF (by with_unfolding_all rfl) ?_) | apply Sel.drop | apply Sel.dropF))⟩)
                            | (rw [f4 c_t106] at hD6 hdd6
                               exact ⟨(i + 1, (c.does k).2, dn, D6, Dc7, I7), ⟨by show i + 1 ≤ _; omega, f2, hdc6, hdd6, hD6.sel hI7, hDc7, by show (c.does k).2.acts.length ≤ 120 + (i + 1); omega, hdn⟩, by show _ - (i + 1) < _; omega, ⟨rfl, rfl, rfl, rfl, rfl, rfl, rfl, rfl, rfl, trivial⟩, (by repeat (first | exact Sel.all | exact Sel.none | exact Sel.hd | (apply Sel.one; · repeat (first | exact Pick.h | apply Pick.t | apply Pick.app)) | apply Sel.app | (with_reducible apply Sel.grp; · repeat (first | exact PickF.h | apply PickF.t | apply PickF.a)) | (with_reducible refine Sel.nilF (by with_unfolding_all rfl) ?_) | apply Sel.drop | apply Sel.dropF))⟩)
                            | exact ⟨(i + 1, c, dn, D5, Dc5, I5), ⟨by show i + 1 ≤ _; omega, hcc, hdc, hdd, hD5, hDc5, by show c.acts.length ≤ 120 + (i + 1); omega, hdn⟩, by show _ - (i + 1) < _; omega, ⟨rfl, rfl, rfl, rfl, rfl, rfl, rfl, rfl, rfl, trivial⟩, (by repeat (first | exact Sel.all | exact Sel.none | exact Sel.hd | (apply Sel.one; · repeat (first | exact Pick.h | apply Pick.t | apply Pick.app)) | apply Sel.app | (with_reducible apply Sel.grp; · repeat (first | exact PickF.h | apply PickF.t | apply PickF.a)) | (with_reducible refine Sel.nilF (by with_unfolding_all rfl) ?_) | apply Sel.drop | apply Sel.dropF))⟩)))))
        | false =>
          try have c_t54 := df h54
          first
          | (exfalso; omega)
          | (
            refine wc_else rfl ?_
            refine wc_exit rfl ?_
            refine wc_seq ?_
            refine wc_region ?_
            refine wl rfl (OP.ev rfl rfl (eMv rfl) ?_)
            refine wl rfl (OP.ev rfl rfl (eMv rfl) ?_)
            refine wl rfl (OP.evb rfl rfl (eLt rfl rfl) fun t112 h112 => ?_)
            refine wl rfl (OP.ev rfl rfl (eMv rfl) ?_)
            cases t112 with
            | true =>
              try have c_t112 := dt h112
              first
              | (exfalso; omega)
              | (
                refine wl_go rfl rfl (OP.ev rfl rfl (eMv rfl) ?_)
                refine wl_go rfl rfl (OP.ev rfl rfl (eMv rfl) ?_)
                have hsb2 : sameB c (armed c (1 + n - dn) keep tear) = true := sameB_of rfl rfl
                refine wl_go rfl rfl (oC rfl pf40 rfl (same_ok bc b _ _ hdc hdd Dc5 D5 _ hDc5 hD5) (by repeat (first | exact Sel.all | exact Sel.none | exact Sel.hd | (apply Sel.one; · repeat (first | exact Pick.h | apply Pick.t | apply Pick.app)) | apply Sel.app | (with_reducible apply Sel.grp; · repeat (first | exact PickF.h | apply PickF.t | apply PickF.a)) | (with_reducible refine Sel.nilF (by with_unfolding_all rfl) ?_) | apply Sel.drop | apply Sel.dropF)) ?_)
                rintro _ _ ⟨rfl, rfl⟩
                rw [hsb2]
                refine wl rfl (OP.ev rfl rfl (ePk rfl rfl) ?_)
                refine wl rfl (OP.ev rfl rfl (eMv rfl) ?_)
                refine wl_go rfl rfl (oC rfl pf13 rfl (awake_ok _) (by repeat (first | exact Sel.all | exact Sel.none | exact Sel.hd | (apply Sel.one; · repeat (first | exact Pick.h | apply Pick.t | apply Pick.app)) | apply Sel.app | (with_reducible apply Sel.grp; · repeat (first | exact PickF.h | apply PickF.t | apply PickF.a)) | (with_reducible refine Sel.nilF (by with_unfolding_all rfl) ?_) | apply Sel.drop | apply Sel.dropF)) ?_)
                rintro _ _ ⟨rfl, rfl⟩
                refine wl rfl (OP.ev rfl rfl (ePk rfl rfl) ?_)
                refine wl rfl (OP.ev rfl rfl (eAs rfl) ?_)
                refine wl_nil ?_
                refine wc_ret ?_
                apply at_ret rfl
                · exact (.cons (.tmp rfl) .nil)
                · exact ⟨rfl, rfl⟩
                · exact (by repeat (first | exact Sel.all | exact Sel.none | exact Sel.hd | (apply Sel.one; · repeat (first | exact Pick.h | apply Pick.t | apply Pick.app)) | apply Sel.app | (with_reducible apply Sel.grp; · repeat (first | exact PickF.h | apply PickF.t | apply PickF.a)) | (with_reducible refine Sel.nilF (by with_unfolding_all rfl) ?_) | apply Sel.drop | apply Sel.dropF)))
            | false =>
              try have c_t112 := df h112
              first
              | (exfalso; omega)
              | (
                refine wl_skip rfl rfl rfl rfl rfl ?_
                refine wl_skip rfl rfl rfl rfl rfl ?_
                refine wl_skip rfl rfl rfl rfl rfl ?_
                refine wl rfl (OP.ev rfl rfl (ePk rfl rfl) ?_)
                refine wl rfl (OP.ev rfl rfl (eMv rfl) ?_)
                refine wl_skip rfl rfl rfl rfl rfl ?_
                refine wl rfl (OP.ev rfl rfl (ePk rfl rfl) ?_)
                refine wl rfl (OP.ev rfl rfl (eAs rfl) ?_)
                refine wl_nil ?_
                refine wc_ret ?_
                apply at_ret rfl
                · exact (.cons (.tmp rfl) .nil)
                · exact ⟨rfl, rfl⟩
                · exact (by repeat (first | exact Sel.all | exact Sel.none | exact Sel.hd | (apply Sel.one; · repeat (first | exact Pick.h | apply Pick.t | apply Pick.app)) | apply Sel.app | (with_reducible apply Sel.grp; · repeat (first | exact PickF.h | apply PickF.t | apply PickF.a)) | (with_reducible refine Sel.nilF (by with_unfolding_all rfl) ?_) | apply Sel.drop | apply Sel.dropF)))))
end Go.Proofs.Ytahjgjmemijofaa
