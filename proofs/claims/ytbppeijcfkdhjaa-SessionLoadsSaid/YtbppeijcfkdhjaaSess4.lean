/- The contracts of the statements' own calls: what the calls that a law names leave in a table, and when two lists of seats are equal. -/
import Derived.Test.YtbppeijcfkdhjaaSess3
import Derived.Test.YtbppeijcfkdhjaaEqS
namespace Go.Proofs.Ytbppeijcfkdhjaa
open Go Eng
set_option linter.unusedVariables false
set_option maxRecDepth 4000
variable {W0 : World}

structure Do where
  op : Int
  session : Int
  seq : Int
  at_ : Int
  r : Reply

def cC (c : Do) : Array Value := #[.int .i64 c.op, .int .i64 c.session, .int .i64 c.seq, .int .i64 c.at_, .int .i64 c.r.err, .int .i64 c.r.session, .int .i64 c.r.gone, .int .i64 c.r.added, .int .i64 c.r.same, .int .i64 c.r.other, .int .i64 c.r.cycle, .int .i64 c.r.full]
def dos (l : List Do) : List Value := l.flatMap fun c => (cC c).toList
def DoOk (c : Do) : Prop := -9223372036854775808 ≤ c.session ∧ c.session < 9223372036854775808 ∧ -9223372036854775808 ≤ c.seq ∧ c.seq < 9223372036854775808 ∧ -9223372036854775808 ≤ c.at_ ∧ c.at_ < 9223372036854775808

theorem flatMap_at {α : Type} (f : α → List Value) (k : Nat) (hf : ∀ c, (f c).length = k) : ∀ (l : List α) (i : Nat) (c : α), l[i]? = some c → ((l.flatMap f).drop (i * k)).take k = f c := by
  intro l
  induction l with
  | nil => intro i c h; simp at h
  | cons a r ih =>
    intro i c h
    rw [List.flatMap_cons]
    cases i with
    | zero =>
      simp at h; subst h
      rw [Nat.zero_mul, List.drop_zero, ← hf a, List.take_left]
    | succ i =>
      simp only [List.getElem?_cons_succ] at h
      rw [show (i + 1) * k = (f a).length + i * k from by rw [hf]; simp [Nat.add_mul]; omega, ← List.drop_drop, List.drop_left]
      exact ih i c h

/-- which call a number names -/
def kind (c : Do) : Int := IntKind.i64.wrap ((IntKind.u64.wrap c.op).tmod 6)

def step (q : SMap × Nat) (c : Do) : SMap × Nat :=
  if kind c = 0 then (openR q.1 q.2 c.at_).2
  else if kind c = 4 then (keepers q.1 c.at_, q.2)
  else (keepR q.1 q.2 c.session c.seq c.at_ c.r).2
def played (l : List Do) : SMap × Nat := l.foldl step ([], 0)

def SeatOk (k : Int) (s : Seat) : Prop := s.session = k ∧ 1 ≤ k ∧ k ≤ 1099511627776 ∧ 0 ≤ s.seq ∧ s.seq ≤ 1099511627776 ∧ 1 ≤ s.at_ ∧ s.at_ ≤ 1099511627776 ∧ checkR s.reply = 0 ∧ True
def TOk (m : SMap) (clk : Nat) : Prop := MOk m clk ∧ m.length ≤ 8 ∧ ∀ e ∈ m, SeatOk e.1 e.2.1

theorem TOk.nil : TOk [] 0 := ⟨MOk.nil 0, by simp, by simp⟩
theorem TOk.filter {m : SMap} {clk : Nat} (h : TOk m clk) (p : Int × Seat × Nat → Bool) : TOk (m.filter p) clk :=
  ⟨h.1.filter p, Nat.le_trans (List.length_filter_le _ _) h.2.1, fun e he => h.2.2 e (List.mem_filter.1 he).1⟩
theorem mset_length {k : Int} {v : Seat} {clk : Nat} (m : SMap) : (mset k v clk m).length = if (mget k m).isSome then m.length else m.length + 1 := by
  have := congrArg List.length (mset_keys k v clk m)
  simp only [List.length_map] at this
  rw [this]; split <;> simp
theorem TOk.open {m : SMap} {clk : Nat} (h : TOk m clk) (a : Int) : TOk (openR m clk a).2.1 (openR m clk a).2.2 := by
  unfold openR
  split
  · exact h
  · split
    · exact h
    · rename_i h1 h2
      refine ⟨h.1.set a _ (by omega) (by have := h.2.1; omega), ?_, ?_⟩
      · show (mset _ _ _ _).length ≤ 8
        rw [mset_length]; split <;> omega
      · intro e he
        rcases mset_mem he with he | ⟨he1, he2⟩
        · exact h.2.2 e he
        · rw [he1, he2]
          exact ⟨rfl, by omega, by omega, Int.le_refl _, by show (0 : Int) ≤ _; omega, by show 1 ≤ a; omega, by show a ≤ _; omega, show checkR r0 = 0 by decide, trivial⟩
theorem checkR_01 (r : Reply) : checkR r = 0 ∨ checkR r = 1 := by unfold checkR; split <;> simp
theorem TOk.keep {m : SMap} {clk : Nat} (h : TOk m clk) (k n a : Int) (r : Reply) : TOk (keepR m clk k n a r).2.1 (keepR m clk k n a r).2.2 := by
  unfold keepR
  split
  · exact h
  · split
    · exact h
    · split
      · exact h
      · rename_i h1 h2 h3
        unfold ask at h1 h2
        cases hg : mget k m with
        | none => simp [hg] at h1
        | some s =>
          simp only [hg] at h1 h2
          obtain ⟨b, hb⟩ := mget_mem hg
          have hs := h.2.2 _ hb
          obtain ⟨e1, e2, e3, e4, e5, e6, e7, e8, e9⟩ := hs
          simp only at e1 e2 e3 e4 e5 e6 e7
          split at h1
          · simp at h1
          · rename_i g1
            rw [if_neg g1] at h2
            split at h1
            · rename_i g2
              rw [if_pos g2] at h2; simp at h2
            · rename_i g2
              have h4 := (checkR_01 r)
              refine ⟨h.1.set k _ (by omega) (by have := h.2.1; omega), ?_, ?_⟩
              · show (mset _ _ _ _).length ≤ 8
                rw [mset_length, hg]; simpa using h.2.1
              · intro e he
                rcases mset_mem he with he | ⟨he1, he2⟩
                · exact h.2.2 e he
                · rw [he1, he2]
                  exact ⟨rfl, e2, e3, by show 0 ≤ n; omega, by show n ≤ _; omega, by show 1 ≤ a; omega, by show a ≤ _; omega, by show checkR r = 0; omega, trivial⟩

theorem TOk.step1 {q : SMap × Nat} (h : TOk q.1 q.2) (c : Do) : TOk (step q c).1 (step q c).2 := by
  unfold step
  split
  · exact h.open _
  · split
    · exact h.filter _
    · exact h.keep _ _ _ _
theorem TOk.played1 (l : List Do) : TOk (played l).1 (played l).2 := by
  unfold played
  have : ∀ (l : List Do) (q : SMap × Nat), TOk q.1 q.2 → TOk (l.foldl step q).1 (l.foldl step q).2 := by
    intro l
    induction l with
    | nil => intro q h; exact h
    | cons c r ih => intro q h; exact ih _ (h.step1 c)
  exact this l _ TOk.nil
theorem played_next {l : List Do} {i : Nat} {c : Do} (h : l[i]? = some c) : played (l.take (i + 1)) = step (played (l.take i)) c := by
  unfold played
  rw [List.take_add_one, h]
  simp

theorem step_open {m m' : SMap} {clk clk' : Nat} {c : Do} {c0 : Int} (h : kind c = 0) (ho : openR m clk c.at_ = (c0, m', clk')) : (m', clk') = step (m, clk) c := by
  unfold step; rw [if_pos h, ho]
theorem step_exp {m : SMap} {clk : Nat} {c : Do} (h : ¬ kind c = 0) (h4 : kind c = 4) : (keepers m c.at_, clk) = step (m, clk) c := by
  unfold step; rw [if_neg h, if_pos h4]
theorem step_keep {m m' : SMap} {clk clk' : Nat} {c : Do} {c0 : Int} (h : ¬ kind c = 0) (h4 : ¬ kind c = 4) (ho : keepR m clk c.session c.seq c.at_ c.r = (c0, m', clk')) : (m', clk') = step (m, clk) c := by
  unfold step; rw [if_neg h, if_neg h4, ho]

theorem play_ok (v : Value) (l : List Do) (hv : ∀ L, Rs W0 L v 12 l.length (dos l)) (hr : ∀ c ∈ l, DoOk c) (hl : l.length ≤ 1099511627776) (R : Heap) :
    FnC W0 Try.prog 9 #[v] R (fun v' L' => ∃ t r m clk, (m, clk) = played l ∧ v' = ptr t ∧ L' = tC t r :: mC r m clk :: R) := by
  refine fn_of Try.func9 rfl Try.ntmps9 rfl rfl ?_
  refine wc_seq ?_
  refine wc_region ?_
  refine wl rfl (OP.ev rfl rfl (eAs rfl) ?_)
  refine wl_nil ?_
  refine wc_seq ?_
  refine wc_region ?_
  refine wl rfl (oC rfl pf18 rfl (new_ok _) (by repeat (first | exact Sel.all | exact Sel.none | (apply Sel.one; · repeat (first | exact Pick.h | apply Pick.t | apply Pick.app)) | apply Sel.app | (with_reducible apply Sel.grp; · repeat (first | exact PickF.h | apply PickF.t | apply PickF.a)) | (with_reducible refine Sel.nilF (by with_unfolding_all rfl) ?_) | apply Sel.drop | apply Sel.dropF)) ?_)
  rintro _ _ ⟨t, r, rfl, rfl⟩
  refine wl rfl (OP.ev rfl rfl (eAs rfl) ?_)
  refine wl_nil ?_
  refine wc_seq ?_
  refine wc_seq ?_
  refine wc_region ?_
  refine wl rfl (OP.ev rfl rfl (eMv rfl) ?_)
  refine wl rfl (OP.ev rfl rfl (eLenR ty22 rfl (hv _)) ?_)
  refine wl rfl (OP.ev rfl rfl (eMv rfl) ?_)
  refine wl_nil ?_
  refine wc_block ?_
  refine wc_loop3 (fun (i : Nat) (m : SMap) (clk : Nat) => [(3, ptr t), (7, v), (8, .int .i64 (l.length : Int)), (9, .int .i64 (i : Int))]) (fun i m clk => tC t r :: mC r m clk :: R) (fun i m clk => i ≤ l.length ∧ (m, clk) = played (l.take i)) (fun i m clk => l.length - i) 0 [] 0 ⟨Nat.zero_le _, rfl⟩ ⟨rfl, rfl, rfl, rfl, trivial⟩ (by repeat (first | exact Sel.all | exact Sel.none | (apply Sel.one; · repeat (first | exact Pick.h | apply Pick.t | apply Pick.app)) | apply Sel.app | (with_reducible apply Sel.grp; · repeat (first | exact PickF.h | apply PickF.t | apply PickF.a)) | (with_reducible refine Sel.nilF (by with_unfolding_all rfl) ?_) | apply Sel.drop | apply Sel.dropF)) ?_
  rintro i m clk ⟨hi, hm⟩
  refine wc_seq ?_
  refine wc_region ?_
  refine wl rfl (OP.evb rfl rfl (eLt rfl rfl) fun t10 h10 => ?_)
  refine wl_nil ?_
  refine wc_seq ?_
  cases t10 with
  | true =>
    try have c_t10 := dt h10
    first
    | (exfalso; omega)
    | (
      refine wc_then rfl ?_
      refine wc_skip ?_
      refine wc_seq ?_
      refine wc_block ?_
      refine wc_seq ?_
      obtain ⟨c, hc⟩ : ∃ c, l[i]? = some c := ⟨_, List.getElem?_eq_getElem (by omega)⟩
      have hnext := played_next hc
      rw [← hm] at hnext
      have hTo : TOk m clk := by have := TOk.played1 (l.take i); rw [← hm] at this; exact this
      obtain ⟨hc1, hc2, hc3, hc4, hc5, hc6⟩ := hr c (List.mem_of_getElem? hc)
      have hrow := hv []
      rcases hrow.2 with ⟨h0, _⟩ | ⟨b, off, cap, rfl, hcap, hcells⟩
      · exfalso; omega
      refine wc_region ?_
      refine wl rfl (OP.ev rfl rfl (eIx ty22 ty41 rfl rfl (by omega) (by omega)) ?_)
      refine wl rfl (OP.ev rfl rfl (eLdRA (off := off) (cells := dos l) (vs := (cC c).toList) ty41 rfl rfl (Rc.sel hcells Sel.none) (i * 12) (by omega) rfl (flatMap_at _ 12 (fun _ => rfl) l i c hc)) ?_)
      refine wl rfl (oAl rfl ty41 rfl fun b5 => ?_)
      refine wl rfl (oStW ty41 rfl rfl rfl rfl (by repeat (first | exact Upd.h | apply Upd.t | apply Upd.app)) (by rfl) ?_)
      refine wl_nil ?_
      refine wc_seq ?_
      refine wc_region ?_
      refine wl rfl (OP.ev rfl rfl (eFld 0 ty41 rfl rfl ty3 rfl) ?_)
      first | refine wl rfl (OP.ev rfl rfl (eLd ty3 rfl rfl (by repeat (first | exact Has.h | apply Has.t | apply Has.app)) (by rfl)) ?_) | refine wl rfl (OP.ev rfl rfl (eLdO ty3 rfl rfl (by assumption)) ?_)
      refine wl rfl (OP.ev rfl rfl (eCv ty3 ty56 rfl) ?_)
      refine wl rfl (OP.ev rfl rfl (eRem rfl rfl rfl) ?_)
      refine wl rfl (OP.ev rfl rfl (eCv ty56 ty3 rfl) ?_)
      refine wl_nil ?_
      refine wc_block ?_
      refine wc_seq ?_
      refine wc_region ?_
      refine wl rfl (OP.evb rfl rfl (eEq rfl rfl) fun t29 h29 => ?_)
      refine wl rfl (OP.ev rfl rfl (eAs rfl) ?_)
      refine wl_nil ?_
      cases t29 with
      | true =>
        try have c_t29 := dt h29
        first
        | (exfalso; omega)
        | (
          refine wc_then rfl ?_
          refine wc_region ?_
          refine wl rfl (OP.ev rfl rfl (eMv rfl) ?_)
          refine wl rfl (OP.ev rfl rfl (eFld 3 ty41 rfl rfl ty3 rfl) ?_)
          first | refine wl rfl (OP.ev rfl rfl (eLd ty3 rfl rfl (by repeat (first | exact Has.h | apply Has.t | apply Has.app)) (by rfl)) ?_) | refine wl rfl (OP.ev rfl rfl (eLdO ty3 rfl rfl (by assumption)) ?_)
          refine wl rfl (oC rfl pf14 rfl (open_ok t r m clk c.at_ _) (by repeat (first | exact Sel.all | exact Sel.none | (apply Sel.one; · repeat (first | exact Pick.h | apply Pick.t | apply Pick.app)) | apply Sel.app | (with_reducible apply Sel.grp; · repeat (first | exact PickF.h | apply PickF.t | apply PickF.a)) | (with_reducible refine Sel.nilF (by with_unfolding_all rfl) ?_) | apply Sel.drop | apply Sel.dropF)) ?_)
          rintro _ _ ⟨c0, m', clk', rfl, rfl, ho⟩
          refine wl_nil ?_
          refine wc_region ?_
          first | refine wl rfl (OP.ev rfl rfl (eAdd rfl rfl (by omega)) ?_) | refine wl rfl (OP.ev rfl rfl (eAddW rfl rfl) ?_)
          refine wl rfl (OP.ev rfl rfl (eMv rfl) ?_)
          refine wl_nil ?_
          first | exact ⟨i + 1, m', clk', ⟨by omega, (step_open c_t29 ho).trans hnext.symm⟩, by omega, ⟨rfl, rfl, rfl, rfl, trivial⟩, (by repeat (first | exact Sel.all | exact Sel.none | (apply Sel.one; · repeat (first | exact Pick.h | apply Pick.t | apply Pick.app)) | apply Sel.app | (with_reducible apply Sel.grp; · repeat (first | exact PickF.h | apply PickF.t | apply PickF.a)) | (with_reducible refine Sel.nilF (by with_unfolding_all rfl) ?_) | apply Sel.drop | apply Sel.dropF))⟩ | exact ⟨i + 1, m', clk', ⟨by omega, (step_keep c_t29 c_t35 ho).trans hnext.symm⟩, by omega, ⟨rfl, rfl, rfl, rfl, trivial⟩, (by repeat (first | exact Sel.all | exact Sel.none | (apply Sel.one; · repeat (first | exact Pick.h | apply Pick.t | apply Pick.app)) | apply Sel.app | (with_reducible apply Sel.grp; · repeat (first | exact PickF.h | apply PickF.t | apply PickF.a)) | (with_reducible refine Sel.nilF (by with_unfolding_all rfl) ?_) | apply Sel.drop | apply Sel.dropF))⟩ | exact ⟨i + 1, _, _, ⟨by omega, (step_exp c_t29 c_t35).trans hnext.symm⟩, by omega, ⟨rfl, rfl, rfl, rfl, trivial⟩, (by repeat (first | exact Sel.all | exact Sel.none | (apply Sel.one; · repeat (first | exact Pick.h | apply Pick.t | apply Pick.app)) | apply Sel.app | (with_reducible apply Sel.grp; · repeat (first | exact PickF.h | apply PickF.t | apply PickF.a)) | (with_reducible refine Sel.nilF (by with_unfolding_all rfl) ?_) | apply Sel.drop | apply Sel.dropF))⟩)
      | false =>
        try have c_t29 := df h29
        first
        | (exfalso; omega)
        | (
          refine wc_else rfl ?_
          refine wc_seq ?_
          refine wc_region ?_
          refine wl rfl (OP.evb rfl rfl (eEq rfl rfl) fun t35 h35 => ?_)
          refine wl rfl (OP.ev rfl rfl (eAs rfl) ?_)
          refine wl_nil ?_
          cases t35 with
          | true =>
            try have c_t35 := dt h35
            first
            | (exfalso; omega)
            | (
              refine wc_then rfl ?_
              refine wc_region ?_
              refine wl rfl (OP.ev rfl rfl (eMv rfl) ?_)
              refine wl rfl (OP.ev rfl rfl (eFld 3 ty41 rfl rfl ty3 rfl) ?_)
              first | refine wl rfl (OP.ev rfl rfl (eLd ty3 rfl rfl (by repeat (first | exact Has.h | apply Has.t | apply Has.app)) (by rfl)) ?_) | refine wl rfl (OP.ev rfl rfl (eLdO ty3 rfl rfl (by assumption)) ?_)
              refine wl rfl (oC rfl pf11 rfl (expire_ok t r m clk hTo.1 c.at_ _) (by repeat (first | exact Sel.all | exact Sel.none | (apply Sel.one; · repeat (first | exact Pick.h | apply Pick.t | apply Pick.app)) | apply Sel.app | (with_reducible apply Sel.grp; · repeat (first | exact PickF.h | apply PickF.t | apply PickF.a)) | (with_reducible refine Sel.nilF (by with_unfolding_all rfl) ?_) | apply Sel.drop | apply Sel.dropF)) ?_)
              rintro _ _ ⟨rfl, rfl⟩
              refine wl_nil ?_
              refine wc_region ?_
              first | refine wl rfl (OP.ev rfl rfl (eAdd rfl rfl (by omega)) ?_) | refine wl rfl (OP.ev rfl rfl (eAddW rfl rfl) ?_)
              refine wl rfl (OP.ev rfl rfl (eMv rfl) ?_)
              refine wl_nil ?_
              first | exact ⟨i + 1, m', clk', ⟨by omega, (step_open c_t29 ho).trans hnext.symm⟩, by omega, ⟨rfl, rfl, rfl, rfl, trivial⟩, (by repeat (first | exact Sel.all | exact Sel.none | (apply Sel.one; · repeat (first | exact Pick.h | apply Pick.t | apply Pick.app)) | apply Sel.app | (with_reducible apply Sel.grp; · repeat (first | exact PickF.h | apply PickF.t | apply PickF.a)) | (with_reducible refine Sel.nilF (by with_unfolding_all rfl) ?_) | apply Sel.drop | apply Sel.dropF))⟩ | exact ⟨i + 1, m', clk', ⟨by omega, (step_keep c_t29 c_t35 ho).trans hnext.symm⟩, by omega, ⟨rfl, rfl, rfl, rfl, trivial⟩, (by repeat (first | exact Sel.all | exact Sel.none | (apply Sel.one; · repeat (first | exact Pick.h | apply Pick.t | apply Pick.app)) | apply Sel.app | (with_reducible apply Sel.grp; · repeat (first | exact PickF.h | apply PickF.t | apply PickF.a)) | (with_reducible refine Sel.nilF (by with_unfolding_all rfl) ?_) | apply Sel.drop | apply Sel.dropF))⟩ | exact ⟨i + 1, _, _, ⟨by omega, (step_exp c_t29 c_t35).trans hnext.symm⟩, by omega, ⟨rfl, rfl, rfl, rfl, trivial⟩, (by repeat (first | exact Sel.all | exact Sel.none | (apply Sel.one; · repeat (first | exact Pick.h | apply Pick.t | apply Pick.app)) | apply Sel.app | (with_reducible apply Sel.grp; · repeat (first | exact PickF.h | apply PickF.t | apply PickF.a)) | (with_reducible refine Sel.nilF (by with_unfolding_all rfl) ?_) | apply Sel.drop | apply Sel.dropF))⟩)
          | false =>
            try have c_t35 := df h35
            first
            | (exfalso; omega)
            | (
              refine wc_else rfl ?_
              refine wc_region ?_
              refine wl rfl (OP.ev rfl rfl (eMv rfl) ?_)
              refine wl rfl (OP.ev rfl rfl (eFld 1 ty41 rfl rfl ty3 rfl) ?_)
              first | refine wl rfl (OP.ev rfl rfl (eLd ty3 rfl rfl (by repeat (first | exact Has.h | apply Has.t | apply Has.app)) (by rfl)) ?_) | refine wl rfl (OP.ev rfl rfl (eLdO ty3 rfl rfl (by assumption)) ?_)
              refine wl rfl (OP.ev rfl rfl (eFld 2 ty41 rfl rfl ty3 rfl) ?_)
              first | refine wl rfl (OP.ev rfl rfl (eLd ty3 rfl rfl (by repeat (first | exact Has.h | apply Has.t | apply Has.app)) (by rfl)) ?_) | refine wl rfl (OP.ev rfl rfl (eLdO ty3 rfl rfl (by assumption)) ?_)
              refine wl rfl (OP.ev rfl rfl (eFld 3 ty41 rfl rfl ty3 rfl) ?_)
              first | refine wl rfl (OP.ev rfl rfl (eLd ty3 rfl rfl (by repeat (first | exact Has.h | apply Has.t | apply Has.app)) (by rfl)) ?_) | refine wl rfl (OP.ev rfl rfl (eLdO ty3 rfl rfl (by assumption)) ?_)
              refine wl rfl (OP.ev rfl rfl (eFld 4 ty41 rfl rfl ty33 rfl) ?_)
              first | refine wl rfl (OP.ev rfl rfl (eLdW ty33 rfl rfl (by repeat (first | exact Has.h | apply Has.t | apply Has.app)) (by rfl)) ?_) | refine wl rfl (OP.ev rfl rfl (eLdA (vs := [_, _, _, _, _, _, _, _]) ty33 rfl rfl (by repeat (first | exact Has.h | apply Has.t | apply Has.app)) (by rfl) (by rfl)) ?_) | refine wl rfl (OP.ev rfl rfl (eLdAO ty33 rfl rfl (by assumption) (by assumption)) ?_)
              refine wl rfl (oC rfl pf15 rfl (keep_ok t r m clk c.session c.seq c.at_ c.r hc4 _) (by repeat (first | exact Sel.all | exact Sel.none | (apply Sel.one; · repeat (first | exact Pick.h | apply Pick.t | apply Pick.app)) | apply Sel.app | (with_reducible apply Sel.grp; · repeat (first | exact PickF.h | apply PickF.t | apply PickF.a)) | (with_reducible refine Sel.nilF (by with_unfolding_all rfl) ?_) | apply Sel.drop | apply Sel.dropF)) ?_)
              rintro _ _ ⟨c0, m', clk', rfl, rfl, ho⟩
              refine wl_nil ?_
              refine wc_region ?_
              first | refine wl rfl (OP.ev rfl rfl (eAdd rfl rfl (by omega)) ?_) | refine wl rfl (OP.ev rfl rfl (eAddW rfl rfl) ?_)
              refine wl rfl (OP.ev rfl rfl (eMv rfl) ?_)
              refine wl_nil ?_
              first | exact ⟨i + 1, m', clk', ⟨by omega, (step_open c_t29 ho).trans hnext.symm⟩, by omega, ⟨rfl, rfl, rfl, rfl, trivial⟩, (by repeat (first | exact Sel.all | exact Sel.none | (apply Sel.one; · repeat (first | exact Pick.h | apply Pick.t | apply Pick.app)) | apply Sel.app | (with_reducible apply Sel.grp; · repeat (first | exact PickF.h | apply PickF.t | apply PickF.a)) | (with_reducible refine Sel.nilF (by with_unfolding_all rfl) ?_) | apply Sel.drop | apply Sel.dropF))⟩ | exact ⟨i + 1, m', clk', ⟨by omega, (step_keep c_t29 c_t35 ho).trans hnext.symm⟩, by omega, ⟨rfl, rfl, rfl, rfl, trivial⟩, (by repeat (first | exact Sel.all | exact Sel.none | (apply Sel.one; · repeat (first | exact Pick.h | apply Pick.t | apply Pick.app)) | apply Sel.app | (with_reducible apply Sel.grp; · repeat (first | exact PickF.h | apply PickF.t | apply PickF.a)) | (with_reducible refine Sel.nilF (by with_unfolding_all rfl) ?_) | apply Sel.drop | apply Sel.dropF))⟩ | exact ⟨i + 1, _, _, ⟨by omega, (step_exp c_t29 c_t35).trans hnext.symm⟩, by omega, ⟨rfl, rfl, rfl, rfl, trivial⟩, (by repeat (first | exact Sel.all | exact Sel.none | (apply Sel.one; · repeat (first | exact Pick.h | apply Pick.t | apply Pick.app)) | apply Sel.app | (with_reducible apply Sel.grp; · repeat (first | exact PickF.h | apply PickF.t | apply PickF.a)) | (with_reducible refine Sel.nilF (by with_unfolding_all rfl) ?_) | apply Sel.drop | apply Sel.dropF))⟩)))
  | false =>
    try have c_t10 := df h10
    first
    | (exfalso; omega)
    | (
      refine wc_else rfl ?_
      refine wc_exit rfl ?_
      refine wc_seq ?_
      refine wc_region ?_
      refine wl rfl (OP.ev rfl rfl (eMv rfl) ?_)
      refine wl rfl (OP.ev rfl rfl (eAs rfl) ?_)
      refine wl_nil ?_
      refine wc_ret ?_
      apply at_ret rfl
      · exact (.cons (.tmp rfl) .nil)
      · have e : i = l.length := by omega
        rw [e, List.take_length] at hm
        exact ⟨t, r, m, clk, hm, rfl, rfl⟩
      · exact (by repeat (first | exact Sel.all | exact Sel.none | (apply Sel.one; · repeat (first | exact Pick.h | apply Pick.t | apply Pick.app)) | apply Sel.app | (with_reducible apply Sel.grp; · repeat (first | exact PickF.h | apply PickF.t | apply PickF.a)) | (with_reducible refine Sel.nilF (by with_unfolding_all rfl) ?_) | apply Sel.drop | apply Sel.dropF)))

theorem guard33 : Program.eqGuardType Try.prog Try.prog.depth 33 = false := by kernel_rfl
theorem guard35 : Program.eqGuardType Try.prog Try.prog.depth 35 = false := by kernel_rfl
theorem held31 : Program.stoodInHeld Try.prog 31 = false := by kernel_rfl
theorem held33 : Program.stoodInHeld Try.prog 33 = false := by kernel_rfl
theorem held35 : Program.stoodInHeld Try.prog 35 = false := by kernel_rfl

theorem eqv_report (a b : Reply) : EqV Try.prog 2 31 (.agg [.int .i64 a.added, .int .i64 a.same, .int .i64 a.other, .int .i64 a.cycle, .int .i64 a.full].toArray) (.agg [.int .i64 b.added, .int .i64 b.same, .int .i64 b.other, .int .i64 b.cycle, .int .i64 b.full].toArray)
    ((a.added == b.added) && ((a.same == b.same) && ((a.other == b.other) && ((a.cycle == b.cycle) && ((a.full == b.full) && true))))) :=
  eqv_struct ty31 held31 (eqf_int rfl ty3 rfl rfl (eqf_int rfl ty3 rfl rfl (eqf_int rfl ty3 rfl rfl (eqf_int rfl ty3 rfl rfl (eqf_int rfl ty3 rfl rfl eqf_nil)))))

theorem eqv_reply0 (a b : Reply) : EqV Try.prog 3 33 (.agg (rC a)) (.agg (rC b)) ((a.err == b.err) && ((a.session == b.session) && ((a.gone == b.gone) && (((a.added == b.added) && ((a.same == b.same) && ((a.other == b.other) && ((a.cycle == b.cycle) && ((a.full == b.full) && true))))) && true)))) :=
  eqv_struct ty33 held33 (eqf_int rfl ty29 rfl rfl (eqf_int rfl ty3 rfl rfl (eqf_int rfl ty3 rfl rfl (eqf_of rfl (fun w => run_part_a ty31 rfl rfl w) (fun w => run_part_a ty31 rfl rfl w) (eqv_report a b) eqf_nil))))
theorem eqv_reply (a b : Reply) : EqV Try.prog 3 33 (.agg (rC a)) (.agg (rC b)) (decide (a = b)) := by
  have h := eqv_reply0 a b
  have e : ((a.err == b.err) && ((a.session == b.session) && ((a.gone == b.gone) && (((a.added == b.added) && ((a.same == b.same) && ((a.other == b.other) && ((a.cycle == b.cycle) && ((a.full == b.full) && true))))) && true)))) = decide (a = b) := by
    cases a; cases b; rw [Bool.eq_iff_iff]; simp
  rwa [e] at h
theorem eqv_seat (a b : Seat) : EqV Try.prog 4 35 (.agg (sC a)) (.agg (sC b)) (decide (a = b)) := by
  have h : EqV Try.prog 4 35 (.agg (sC a)) (.agg (sC b)) ((a.session == b.session) && ((a.seq == b.seq) && ((a.at_ == b.at_) && ((decide (a.reply = b.reply)) && true)))) :=
    eqv_struct ty35 held35 (eqf_int rfl ty3 rfl rfl (eqf_int rfl ty3 rfl rfl (eqf_int rfl ty3 rfl rfl (eqf_of rfl (fun w => run_part_a ty33 rfl rfl w) (fun w => run_part_a ty33 rfl rfl w) (eqv_reply a.reply b.reply) eqf_nil))))
  have e : ((a.session == b.session) && ((a.seq == b.seq) && ((a.at_ == b.at_) && ((decide (a.reply = b.reply)) && true)))) = decide (a = b) := by
    cases a; cases b; rw [Bool.eq_iff_iff]; simp
  rwa [e] at h
end Go.Proofs.Ytbppeijcfkdhjaa
