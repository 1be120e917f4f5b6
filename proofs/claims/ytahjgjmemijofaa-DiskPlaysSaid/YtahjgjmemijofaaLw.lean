/- Contracts of what the laws of the disk share. No statement of the seat is proved here. -/
import Derived.Test.YtahjgjmemijofaaDkC2
namespace Go.Proofs.Ytahjgjmemijofaa
open Go Eng
set_option linter.unusedVariables false
set_option maxRecDepth 4000
variable {W0 : World} {I I' : Heap}

structure Do where
  op : Int
  name : Nm
  to_ : Nm
  at_ : Int
  bv : Value
  B : List Int
  n : Int
  keep : Int
  tear : Int
def cC (c : Do) : Array Value := #[i64 c.op, strK c.name, strK c.to_, i64 c.at_, c.bv, i64 c.n, i64 c.keep, i64 c.tear]
def dos (l : List Do) : List Value := l.flatMap fun c => (cC c).toList
/-- a call as it is handed in -/
structure DoR (W0 : World) (X : Heap) (c : Do) : Prop where
  at_ : I64 c.at_
  keep : I64 c.keep
  tear : I64 c.tear
  n : I64 c.n
  rs : Rs W0 X c.bv 1 c.B.length (byteV c.B)
  isB : IsB c.B
  len : c.B.length ≤ 9223372036854775807
theorem DoR.sel {X X' : Heap} {c : Do} (h : DoR W0 X c) (hs : Sel X' X) : DoR W0 X' c := ⟨h.at_, h.keep, h.tear, h.n, h.rs.sel hs, h.isB, h.len⟩
theorem dos_at {l : List Do} {i : Nat} {c : Do} (h : l[i]? = some c) : ((dos l).drop (i * 8)).take 8 = (cC c).toList := by
  induction l generalizing i with
  | nil => simp at h
  | cons x r ih =>
    cases i with
    | zero => simp at h; subst h; rfl
    | succ i =>
      have := ih (by simpa using h)
      rw [← this]
      show (((cC x).toList ++ dos r).drop ((i + 1) * 8)).take 8 = _
      rw [show (i + 1) * 8 = 8 + i * 8 by omega, List.drop_append, List.drop_of_length_le (by simp [cC])]
      simp [cC]
theorem dos_len (l : List Do) : (dos l).length = l.length * 8 := by
  induction l with
  | nil => rfl
  | cons x r ih => simp only [dos, List.flatMap_cons, List.length_append] at ih ⊢; rw [ih]; simp [cC]; omega

def k10 (x : Int) : Int := IntKind.i64.wrap ((IntKind.u64.wrap x).tmod 10)
def DK.does (d : DK) (c : Do) : Int × DK :=
  if k10 c.op = 3 then d.trim c.name c.at_
  else if k10 c.op = 4 then d.move c.name c.to_
  else if k10 c.op = 5 then d.drop c.name
  else if k10 c.op = 6 then d.sync
  else if k10 c.op = 7 then d.arm c.n c.keep c.tear
  else if k10 c.op = 8 then d.crash c.keep c.tear
  else if k10 c.op = 9 then d.start
  else d.write c.name c.at_ c.B

theorem act_acts (d : DK) (a : Act) : (d.act a).2.acts.length ≤ d.acts.length + 1 := by
  unfold DK.act
  split
  · simp [DK.fall]
  · show (d.acts ++ [a]).length ≤ _; simp
theorem act_room (d : DK) (a : Act) : (d.act a).2.room = d.room := by
  unfold DK.act; split <;> rfl
theorem writeA_acts (d : DK) (k : Nm) (n : Int) (b : List Int) : (d.writeA k n b).2.acts.length ≤ d.acts.length + 1 ∧ (d.writeA k n b).2.room = d.room := by
  unfold DK.writeA
  split
  · exact ⟨Nat.le_succ _, rfl⟩
  · exact ⟨act_acts _ _, act_room _ _⟩
theorem does_acts (d : DK) (c : Do) : (d.does c).2.acts.length ≤ d.acts.length + 1 ∧ (d.does c).2.room = d.room := by
  have h0 : d.acts.length ≤ d.acts.length + 1 ∧ d.room = d.room := ⟨Nat.le_succ _, rfl⟩
  have h1 := fun a => And.intro (act_acts d a) (act_room d a)
  unfold DK.does DK.trim DK.move DK.drop DK.sync DK.arm DK.crash DK.start DK.write
  repeat' split
  all_goals first | exact h0 | exact h1 _ | exact writeA_acts _ _ _ _ | exact ⟨by simp [DK.fall, DK.less], rfl⟩ | exact ⟨by simp [DK.less], rfl⟩

theorem DOk.writeA {d : DK} (h : DOk d) {k : Nm} {n : Int} {b : List Int} (hf : (d.find k = 21 ∧ n = 0 ∧ d.seen.length < 4096) ∨ (d.find k = 0 ∧ 0 ≤ n ∧ n ≤ (fgetD d.seen k).length)) : DOk (d.writeA k n b).2 := by
  unfold DK.writeA
  split
  · exact h
  · rename_i hr
    have ho : d.off = false ∧ may k = true := by
      rcases hf with ⟨h1, _⟩ | ⟨h1, _⟩
      · exact ⟨(find_21 h1).1, (find_21 h1).2.1⟩
      · exact ⟨(find_zero h1).1, (find_zero h1).2.1⟩
    refine h.act ho.1 (can_write h hf) ?_ ⟨may_len ho.2, by simp⟩
    have hu : d.used = ((total d.last + costs d.acts : Nat) : Int) := by unfold DK.used; rw [ho.1]; rfl
    show ((total d.last + costs d.acts + b.length : Nat) : Int) ≤ _
    omega
theorem DOk.sync {d : DK} (h : DOk d) : DOk d.sync.2 := by
  unfold DK.sync
  split
  · exact h
  · rename_i ho
    split
    · exact h.less.fall _ _
    · have hl := h.less
      refine ⟨h.rs, .nil, h.snum, hl.left, h.room, ?_, fun h2 => ?_, h.keep, by simp⟩
      · have h1 := h.runs.total h.rl
        have h2 := h.use
        show ((total d.seen + costs [] : Nat) : Int) ≤ d.room
        simp only [costs, List.map_nil, List.sum_nil]
        omega
      · have : d.off = true := h2
        exact absurd this ho
theorem DOk.start {d : DK} (h : DOk d) : DOk d.start.2 := ⟨h.rl, h.runs, h.num, h.left, h.room, h.use, fun h2 => (by cases h2), h.keep, h.nms⟩
theorem DOk.arm {d : DK} (h : DOk d) {n keep tear : Int} (hn : I64 n) (hk : I64 keep) (ht : I64 tear) : DOk (d.arm n keep tear).2 := by
  unfold DK.arm
  split
  · exact h
  · rename_i ho
    refine ⟨h.rl, h.runs, h.num, ?_, h.room, h.use, fun h2 => absurd h2 ho, ⟨hk, ht⟩, h.nms⟩
    have h1 : n < 9223372036854775808 := hn.2
    constructor
    · show (0 : Int) ≤ max n 0; omega
    · show max n 0 < _; omega
theorem DOk.crash {d : DK} (h : DOk d) (keep tear : Int) : DOk (d.crash keep tear).2 := by
  unfold DK.crash
  split
  · exact h
  · exact h.fall _ _
theorem room0 {d : DK} (h : DOk d) : ((total d.last + costs d.acts + 0 : Nat) : Int) ≤ d.room := by have := h.use; omega
theorem DOk.trim {d : DK} (h : DOk d) (k : Nm) (n : Int) : DOk (d.trim k n).2 := by
  unfold DK.trim
  split
  · exact h
  · rename_i h1
    split
    · exact h
    · rename_i h2
      obtain ⟨ho, hm, _⟩ := find_zero (Classical.not_not.1 h1)
      exact h.act ho (can_trim h (Classical.not_not.1 h1) (by omega) (by omega)) (room0 h) ⟨may_len hm, by simp⟩
theorem DOk.move {d : DK} (h : DOk d) (k j : Nm) : DOk (d.move k j).2 := by
  unfold DK.move
  split
  · exact h
  · rename_i h1
    split
    · exact h
    · rename_i h2
      obtain ⟨ho, hm, _⟩ := find_zero (Classical.not_not.1 h1)
      exact h.act ho (can_move h (Classical.not_not.1 h1)) (room0 h) ⟨may_len hm, may_len (by simpa using h2)⟩
theorem DOk.drop {d : DK} (h : DOk d) (k : Nm) : DOk (d.drop k).2 := by
  unfold DK.drop
  split
  · exact h
  · rename_i h1
    obtain ⟨ho, hm, _⟩ := find_zero (Classical.not_not.1 h1)
    exact h.act ho (can_drop h (Classical.not_not.1 h1)) (room0 h) ⟨may_len hm, by simp⟩
theorem DOk.write {d : DK} (h : DOk d) (k : Nm) (n : Int) (b : List Int) : DOk (d.write k n b).2 := by
  unfold DK.write
  split
  · rename_i h1
    split
    · exact h
    · exact h.writeA (.inl ⟨h1.1, h1.2, by omega⟩)
  · split
    · exact h
    · rename_i h1
      split
      · exact h
      · rename_i h2
        exact h.writeA (.inr ⟨Classical.not_not.1 h1, by omega, by omega⟩)
theorem DOk.does {d : DK} (h : DOk d) {X : Heap} {c : Do} (hc : DoR W0 X c) : DOk (d.does c).2 := by
  unfold DK.does
  repeat' split
  · exact h.trim _ _
  · exact h.move _ _
  · exact h.drop _
  · exact h.sync
  · exact h.arm hc.n hc.keep hc.tear
  · exact h.crash _ _
  · exact h.start
  · exact h.write _ _ _

theorem PutP.out {b : Nat} {d' : DK} {v0 v : Value} {L' R : Heap} (h : PutP W0 I R b d' v0 v L') : v = v0 ∧ ∃ D' I', Sel I' I ∧ DiskR W0 I' d' b D' ∧ L' = D' ++ (I' ++ R) := h

theorem does_ok (b : Nat) (d : DK) (hd : DOk d) (c : Do) (D R : Heap) (hD : DiskR W0 I d b D) (hc : DoR W0 (I ++ R) c) (hn : d.acts.length < 1000000) :
    FnC W0 Try.prog 23 #[ptr b, .agg (cC c)] (D ++ (I ++ R)) (PutP W0 I R b (d.does c).2 (i64 (d.does c).1)) := by
  refine fn_of Try.func23 rfl Try.ntmps23 rfl rfl ?_
  refine wc_seq ?_
  refine wc_region ?_
  refine wl rfl (oBox rfl rfl rfl fun b3 => ?_)
  refine wl rfl (OP.ev rfl rfl (eAs rfl) ?_)
  refine wl_nil ?_
  refine wc_seq ?_
  refine wc_region ?_
  refine wl rfl (OP.ev rfl rfl (eFld 0 ty39 rfl rfl ty3 rfl) ?_)
  first | refine wl rfl (OP.ev rfl rfl (eLd ty3 rfl rfl (by repeat (first | exact Has.h | apply Has.t | apply Has.app)) (by rfl)) ?_) | refine wl rfl (OP.ev rfl rfl (eLdO ty3 rfl rfl (by assumption)) ?_)
  refine wl rfl (OP.ev rfl rfl (eCv ty3 ty44 rfl) ?_)
  refine wl rfl (OP.ev rfl rfl (eRem rfl rfl rfl) ?_)
  refine wl rfl (OP.ev rfl rfl (eCv ty44 ty3 rfl) ?_)
  refine wl_nil ?_
  refine wc_block ?_
  refine wc_seq ?_
  refine wc_region ?_
  refine wl rfl (OP.evb rfl rfl (eEq rfl rfl) fun t19 h19 => ?_)
  refine wl rfl (OP.ev rfl rfl (eAs rfl) ?_)
  refine wl_nil ?_
  cases t19 with
  | true =>
    try have c_t19 := dt h19
    first
    | (exfalso; omega)
    | (
      refine wc_then rfl ?_
      refine wc_seq ?_
      refine wc_region ?_
      refine wl rfl (OP.ev rfl rfl (eMv rfl) ?_)
      refine wl rfl (OP.ev rfl rfl (eFld 1 ty39 rfl rfl ty9 rfl) ?_)
      first | refine wl rfl (OP.ev rfl rfl (eLd ty9 rfl rfl (by repeat (first | exact Has.h | apply Has.t | apply Has.app)) (by rfl)) ?_) | refine wl rfl (OP.ev rfl rfl (eLdO ty9 rfl rfl (by assumption)) ?_)
      refine wl rfl (OP.ev rfl rfl (eFld 3 ty39 rfl rfl ty3 rfl) ?_)
      first | refine wl rfl (OP.ev rfl rfl (eLd ty3 rfl rfl (by repeat (first | exact Has.h | apply Has.t | apply Has.app)) (by rfl)) ?_) | refine wl rfl (OP.ev rfl rfl (eLdO ty3 rfl rfl (by assumption)) ?_)
      refine wl rfl (oC rfl pf52 rfl (trim_ok b d hd c.name c.at_ hc.at_ D _ hD hn) (by repeat (first | exact Sel.all | exact Sel.none | exact Sel.hd | (apply Sel.one; · repeat (first | exact Pick.h | apply Pick.t | apply Pick.app)) | apply Sel.app | (with_reducible apply Sel.grp; · repeat (first | exact PickF.h | apply PickF.t | apply PickF.a)) | (with_reducible refine Sel.nilF (by with_unfolding_all rfl) ?_) | apply Sel.drop | apply Sel.dropF)) ?_)
      rintro _ _ ⟨rfl, D1, I1, hI1, hD1, rfl⟩
      refine wl rfl (OP.ev rfl rfl (eAs rfl) ?_)
      refine wl_nil ?_
      refine wc_ret ?_
      apply at_ret rfl
      · exact (.cons (.tmp rfl) .nil)
      · first
        | exact ⟨by unfold DK.does; rw [if_pos (by assumption)]; rfl, D1, I1, hI1, by unfold DK.does; rw [if_pos (by assumption)]; exact hD1, rfl⟩
        | exact ⟨by unfold DK.does; rw [if_neg (by assumption), if_pos (by assumption)]; rfl, D1, I1, hI1, by unfold DK.does; rw [if_neg (by assumption), if_pos (by assumption)]; exact hD1, rfl⟩
        | exact ⟨by unfold DK.does; rw [if_neg (by assumption), if_neg (by assumption), if_pos (by assumption)]; rfl, D1, I1, hI1, by unfold DK.does; rw [if_neg (by assumption), if_neg (by assumption), if_pos (by assumption)]; exact hD1, rfl⟩
        | exact ⟨by unfold DK.does; rw [if_neg (by assumption), if_neg (by assumption), if_neg (by assumption), if_pos (by assumption)]; rfl, D1, I1, hI1, by unfold DK.does; rw [if_neg (by assumption), if_neg (by assumption), if_neg (by assumption), if_pos (by assumption)]; exact hD1, rfl⟩
        | exact ⟨by unfold DK.does; rw [if_neg (by assumption), if_neg (by assumption), if_neg (by assumption), if_neg (by assumption), if_pos (by assumption)]; rfl, D1, I1, hI1, by unfold DK.does; rw [if_neg (by assumption), if_neg (by assumption), if_neg (by assumption), if_neg (by assumption), if_pos (by assumption)]; exact hD1, rfl⟩
        | exact ⟨by unfold DK.does; rw [if_neg (by assumption), if_neg (by assumption), if_neg (by assumption), if_neg (by assumption), if_neg (by assumption), if_pos (by assumption)]; rfl, D1, I1, hI1, by unfold DK.does; rw [if_neg (by assumption), if_neg (by assumption), if_neg (by assumption), if_neg (by assumption), if_neg (by assumption), if_pos (by assumption)]; exact hD1, rfl⟩
        | exact ⟨by unfold DK.does; rw [if_neg (by assumption), if_neg (by assumption), if_neg (by assumption), if_neg (by assumption), if_neg (by assumption), if_neg (by assumption), if_pos (by assumption)]; rfl, D1, I1, hI1, by unfold DK.does; rw [if_neg (by assumption), if_neg (by assumption), if_neg (by assumption), if_neg (by assumption), if_neg (by assumption), if_neg (by assumption), if_pos (by assumption)]; exact hD1, rfl⟩
        | exact ⟨by unfold DK.does; rw [if_neg (by assumption), if_neg (by assumption), if_neg (by assumption), if_neg (by assumption), if_neg (by assumption), if_neg (by assumption), if_neg (by assumption)]; rfl, D1, I1, hI1, by unfold DK.does; rw [if_neg (by assumption), if_neg (by assumption), if_neg (by assumption), if_neg (by assumption), if_neg (by assumption), if_neg (by assumption), if_neg (by assumption)]; exact hD1, rfl⟩
      · exact (by repeat (first | exact Sel.all | exact Sel.none | exact Sel.hd | (apply Sel.one; · repeat (first | exact Pick.h | apply Pick.t | apply Pick.app)) | apply Sel.app | (with_reducible apply Sel.grp; · repeat (first | exact PickF.h | apply PickF.t | apply PickF.a)) | (with_reducible refine Sel.nilF (by with_unfolding_all rfl) ?_) | apply Sel.drop | apply Sel.dropF)))
  | false =>
    try have c_t19 := df h19
    first
    | (exfalso; omega)
    | (
      refine wc_else rfl ?_
      refine wc_seq ?_
      refine wc_region ?_
      refine wl rfl (OP.evb rfl rfl (eEq rfl rfl) fun t27 h27 => ?_)
      refine wl rfl (OP.ev rfl rfl (eAs rfl) ?_)
      refine wl_nil ?_
      cases t27 with
      | true =>
        try have c_t27 := dt h27
        first
        | (exfalso; omega)
        | (
          refine wc_then rfl ?_
          refine wc_seq ?_
          refine wc_region ?_
          refine wl rfl (OP.ev rfl rfl (eMv rfl) ?_)
          refine wl rfl (OP.ev rfl rfl (eFld 1 ty39 rfl rfl ty9 rfl) ?_)
          first | refine wl rfl (OP.ev rfl rfl (eLd ty9 rfl rfl (by repeat (first | exact Has.h | apply Has.t | apply Has.app)) (by rfl)) ?_) | refine wl rfl (OP.ev rfl rfl (eLdO ty9 rfl rfl (by assumption)) ?_)
          refine wl rfl (OP.ev rfl rfl (eFld 2 ty39 rfl rfl ty9 rfl) ?_)
          first | refine wl rfl (OP.ev rfl rfl (eLd ty9 rfl rfl (by repeat (first | exact Has.h | apply Has.t | apply Has.app)) (by rfl)) ?_) | refine wl rfl (OP.ev rfl rfl (eLdO ty9 rfl rfl (by assumption)) ?_)
          refine wl rfl (oC rfl pf18 rfl (move_ok b d hd c.name c.to_ D _ hD hn) (by repeat (first | exact Sel.all | exact Sel.none | exact Sel.hd | (apply Sel.one; · repeat (first | exact Pick.h | apply Pick.t | apply Pick.app)) | apply Sel.app | (with_reducible apply Sel.grp; · repeat (first | exact PickF.h | apply PickF.t | apply PickF.a)) | (with_reducible refine Sel.nilF (by with_unfolding_all rfl) ?_) | apply Sel.drop | apply Sel.dropF)) ?_)
          rintro _ _ ⟨rfl, D1, I1, hI1, hD1, rfl⟩
          refine wl rfl (OP.ev rfl rfl (eAs rfl) ?_)
          refine wl_nil ?_
          refine wc_ret ?_
          apply at_ret rfl
          · exact (.cons (.tmp rfl) .nil)
          · first
            | exact ⟨by unfold DK.does; rw [if_pos (by assumption)]; rfl, D1, I1, hI1, by unfold DK.does; rw [if_pos (by assumption)]; exact hD1, rfl⟩
            | exact ⟨by unfold DK.does; rw [if_neg (by assumption), if_pos (by assumption)]; rfl, D1, I1, hI1, by unfold DK.does; rw [if_neg (by assumption), if_pos (by assumption)]; exact hD1, rfl⟩
            | exact ⟨by unfold DK.does; rw [if_neg (by assumption), if_neg (by assumption), if_pos (by assumption)]; rfl, D1, I1, hI1, by unfold DK.does; rw [if_neg (by assumption), if_neg (by assumption), if_pos (by assumption)]; exact hD1, rfl⟩
            | exact ⟨by unfold DK.does; rw [if_neg (by assumption), if_neg (by assumption), if_neg (by assumption), if_pos (by assumption)]; rfl, D1, I1, hI1, by unfold DK.does; rw [if_neg (by assumption), if_neg (by assumption), if_neg (by assumption), if_pos (by assumption)]; exact hD1, rfl⟩
            | exact ⟨by unfold DK.does; rw [if_neg (by assumption), if_neg (by assumption), if_neg (by assumption), if_neg (by assumption), if_pos (by assumption)]; rfl, D1, I1, hI1, by unfold DK.does; rw [if_neg (by assumption), if_neg (by assumption), if_neg (by assumption), if_neg (by assumption), if_pos (by assumption)]; exact hD1, rfl⟩
            | exact ⟨by unfold DK.does; rw [if_neg (by assumption), if_neg (by assumption), if_neg (by assumption), if_neg (by assumption), if_neg (by assumption), if_pos (by assumption)]; rfl, D1, I1, hI1, by unfold DK.does; rw [if_neg (by assumption), if_neg (by assumption), if_neg (by assumption), if_neg (by assumption), if_neg (by assumption), if_pos (by assumption)]; exact hD1, rfl⟩
            | exact ⟨by unfold DK.does; rw [if_neg (by assumption), if_neg (by assumption), if_neg (by assumption), if_neg (by assumption), if_neg (by assumption), if_neg (by assumption), if_pos (by assumption)]; rfl, D1, I1, hI1, by unfold DK.does; rw [if_neg (by assumption), if_neg (by assumption), if_neg (by assumption), if_neg (by assumption), if_neg (by assumption), if_neg (by assumption), if_pos (by assumption)]; exact hD1, rfl⟩
            | exact ⟨by unfold DK.does; rw [if_neg (by assumption), if_neg (by assumption), if_neg (by assumption), if_neg (by assumption), if_neg (by assumption), if_neg (by assumption), if_neg (by assumption)]; rfl, D1, I1, hI1, by unfold DK.does; rw [if_neg (by assumption), if_neg (by assumption), if_neg (by assumption), if_neg (by assumption), if_neg (by assumption), if_neg (by assumption), if_neg (by assumption)]; exact hD1, rfl⟩
          · exact (by repeat (first | exact Sel.all | exact Sel.none | exact Sel.hd | (apply Sel.one; · repeat (first | exact Pick.h | apply Pick.t | apply Pick.app)) | apply Sel.app | (with_reducible apply Sel.grp; · repeat (first | exact PickF.h | apply PickF.t | apply PickF.a)) | (with_reducible refine Sel.nilF (by with_unfolding_all rfl) ?_) | apply Sel.drop | apply Sel.dropF)))
      | false =>
        try have c_t27 := df h27
        first
        | (exfalso; omega)
        | (
          refine wc_else rfl ?_
          refine wc_seq ?_
          refine wc_region ?_
          refine wl rfl (OP.evb rfl rfl (eEq rfl rfl) fun t35 h35 => ?_)
          refine wl rfl (OP.ev rfl rfl (eAs rfl) ?_)
          refine wl_nil ?_
          cases t35 with
          | true =>
            try have c_t35 := dt h35
            first
            | (exfalso; omega)
            | (
              refine wc_then rfl ?_
              refine wc_seq ?_
              refine wc_region ?_
              refine wl rfl (OP.ev rfl rfl (eMv rfl) ?_)
              refine wl rfl (OP.ev rfl rfl (eFld 1 ty39 rfl rfl ty9 rfl) ?_)
              first | refine wl rfl (OP.ev rfl rfl (eLd ty9 rfl rfl (by repeat (first | exact Has.h | apply Has.t | apply Has.app)) (by rfl)) ?_) | refine wl rfl (OP.ev rfl rfl (eLdO ty9 rfl rfl (by assumption)) ?_)
              refine wl rfl (oC rfl pf53 rfl (drop_ok b d hd c.name D _ hD hn) (by repeat (first | exact Sel.all | exact Sel.none | exact Sel.hd | (apply Sel.one; · repeat (first | exact Pick.h | apply Pick.t | apply Pick.app)) | apply Sel.app | (with_reducible apply Sel.grp; · repeat (first | exact PickF.h | apply PickF.t | apply PickF.a)) | (with_reducible refine Sel.nilF (by with_unfolding_all rfl) ?_) | apply Sel.drop | apply Sel.dropF)) ?_)
              rintro _ _ ⟨rfl, D1, I1, hI1, hD1, rfl⟩
              refine wl rfl (OP.ev rfl rfl (eAs rfl) ?_)
              refine wl_nil ?_
              refine wc_ret ?_
              apply at_ret rfl
              · exact (.cons (.tmp rfl) .nil)
              · first
                | exact ⟨by unfold DK.does; rw [if_pos (by assumption)]; rfl, D1, I1, hI1, by unfold DK.does; rw [if_pos (by assumption)]; exact hD1, rfl⟩
                | exact ⟨by unfold DK.does; rw [if_neg (by assumption), if_pos (by assumption)]; rfl, D1, I1, hI1, by unfold DK.does; rw [if_neg (by assumption), if_pos (by assumption)]; exact hD1, rfl⟩
                | exact ⟨by unfold DK.does; rw [if_neg (by assumption), if_neg (by assumption), if_pos (by assumption)]; rfl, D1, I1, hI1, by unfold DK.does; rw [if_neg (by assumption), if_neg (by assumption), if_pos (by assumption)]; exact hD1, rfl⟩
                | exact ⟨by unfold DK.does; rw [if_neg (by assumption), if_neg (by assumption), if_neg (by assumption), if_pos (by assumption)]; rfl, D1, I1, hI1, by unfold DK.does; rw [if_neg (by assumption), if_neg (by assumption), if_neg (by assumption), if_pos (by assumption)]; exact hD1, rfl⟩
                | exact ⟨by unfold DK.does; rw [if_neg (by assumption), if_neg (by assumption), if_neg (by assumption), if_neg (by assumption), if_pos (by assumption)]; rfl, D1, I1, hI1, by unfold DK.does; rw [if_neg (by assumption), if_neg (by assumption), if_neg (by assumption), if_neg (by assumption), if_pos (by assumption)]; exact hD1, rfl⟩
                | exact ⟨by unfold DK.does; rw [if_neg (by assumption), if_neg (by assumption), if_neg (by assumption), if_neg (by assumption), if_neg (by assumption), if_pos (by assumption)]; rfl, D1, I1, hI1, by unfold DK.does; rw [if_neg (by assumption), if_neg (by assumption), if_neg (by assumption), if_neg (by assumption), if_neg (by assumption), if_pos (by assumption)]; exact hD1, rfl⟩
                | exact ⟨by unfold DK.does; rw [if_neg (by assumption), if_neg (by assumption), if_neg (by assumption), if_neg (by assumption), if_neg (by assumption), if_neg (by assumption), if_pos (by assumption)]; rfl, D1, I1, hI1, by unfold DK.does; rw [if_neg (by assumption), if_neg (by assumption), if_neg (by assumption), if_neg (by assumption), if_neg (by assumption), if_neg (by assumption), if_pos (by assumption)]; exact hD1, rfl⟩
                | exact ⟨by unfold DK.does; rw [if_neg (by assumption), if_neg (by assumption), if_neg (by assumption), if_neg (by assumption), if_neg (by assumption), if_neg (by assumption), if_neg (by assumption)]; rfl, D1, I1, hI1, by unfold DK.does; rw [if_neg (by assumption), if_neg (by assumption), if_neg (by assumption), if_neg (by assumption), if_neg (by assumption), if_neg (by assumption), if_neg (by assumption)]; exact hD1, rfl⟩
              · exact (by repeat (first | exact Sel.all | exact Sel.none | exact Sel.hd | (apply Sel.one; · repeat (first | exact Pick.h | apply Pick.t | apply Pick.app)) | apply Sel.app | (with_reducible apply Sel.grp; · repeat (first | exact PickF.h | apply PickF.t | apply PickF.a)) | (with_reducible refine Sel.nilF (by with_unfolding_all rfl) ?_) | apply Sel.drop | apply Sel.dropF)))
          | false =>
            try have c_t35 := df h35
            first
            | (exfalso; omega)
            | (
              refine wc_else rfl ?_
              refine wc_seq ?_
              refine wc_region ?_
              refine wl rfl (OP.evb rfl rfl (eEq rfl rfl) fun t41 h41 => ?_)
              refine wl rfl (OP.ev rfl rfl (eAs rfl) ?_)
              refine wl_nil ?_
              cases t41 with
              | true =>
                try have c_t41 := dt h41
                first
                | (exfalso; omega)
                | (
                  refine wc_then rfl ?_
                  refine wc_seq ?_
                  refine wc_region ?_
                  refine wl rfl (OP.ev rfl rfl (eMv rfl) ?_)
                  refine wl rfl (oC rfl pf41 rfl (sync_ok b d hd D _ hD (by omega)) (by repeat (first | exact Sel.all | exact Sel.none | exact Sel.hd | (apply Sel.one; · repeat (first | exact Pick.h | apply Pick.t | apply Pick.app)) | apply Sel.app | (with_reducible apply Sel.grp; · repeat (first | exact PickF.h | apply PickF.t | apply PickF.a)) | (with_reducible refine Sel.nilF (by with_unfolding_all rfl) ?_) | apply Sel.drop | apply Sel.dropF)) ?_)
                  rintro _ _ ⟨rfl, D1, I1, hI1, hD1, rfl⟩
                  refine wl rfl (OP.ev rfl rfl (eAs rfl) ?_)
                  refine wl_nil ?_
                  refine wc_ret ?_
                  apply at_ret rfl
                  · exact (.cons (.tmp rfl) .nil)
                  · first
                    | exact ⟨by unfold DK.does; rw [if_pos (by assumption)]; rfl, D1, I1, hI1, by unfold DK.does; rw [if_pos (by assumption)]; exact hD1, rfl⟩
                    | exact ⟨by unfold DK.does; rw [if_neg (by assumption), if_pos (by assumption)]; rfl, D1, I1, hI1, by unfold DK.does; rw [if_neg (by assumption), if_pos (by assumption)]; exact hD1, rfl⟩
                    | exact ⟨by unfold DK.does; rw [if_neg (by assumption), if_neg (by assumption), if_pos (by assumption)]; rfl, D1, I1, hI1, by unfold DK.does; rw [if_neg (by assumption), if_neg (by assumption), if_pos (by assumption)]; exact hD1, rfl⟩
                    | exact ⟨by unfold DK.does; rw [if_neg (by assumption), if_neg (by assumption), if_neg (by assumption), if_pos (by assumption)]; rfl, D1, I1, hI1, by unfold DK.does; rw [if_neg (by assumption), if_neg (by assumption), if_neg (by assumption), if_pos (by assumption)]; exact hD1, rfl⟩
                    | exact ⟨by unfold DK.does; rw [if_neg (by assumption), if_neg (by assumption), if_neg (by assumption), if_neg (by assumption), if_pos (by assumption)]; rfl, D1, I1, hI1, by unfold DK.does; rw [if_neg (by assumption), if_neg (by assumption), if_neg (by assumption), if_neg (by assumption), if_pos (by assumption)]; exact hD1, rfl⟩
                    | exact ⟨by unfold DK.does; rw [if_neg (by assumption), if_neg (by assumption), if_neg (by assumption), if_neg (by assumption), if_neg (by assumption), if_pos (by assumption)]; rfl, D1, I1, hI1, by unfold DK.does; rw [if_neg (by assumption), if_neg (by assumption), if_neg (by assumption), if_neg (by assumption), if_neg (by assumption), if_pos (by assumption)]; exact hD1, rfl⟩
                    | exact ⟨by unfold DK.does; rw [if_neg (by assumption), if_neg (by assumption), if_neg (by assumption), if_neg (by assumption), if_neg (by assumption), if_neg (by assumption), if_pos (by assumption)]; rfl, D1, I1, hI1, by unfold DK.does; rw [if_neg (by assumption), if_neg (by assumption), if_neg (by assumption), if_neg (by assumption), if_neg (by assumption), if_neg (by assumption), if_pos (by assumption)]; exact hD1, rfl⟩
                    | exact ⟨by unfold DK.does; rw [if_neg (by assumption), if_neg (by assumption), if_neg (by assumption), if_neg (by assumption), if_neg (by assumption), if_neg (by assumption), if_neg (by assumption)]; rfl, D1, I1, hI1, by unfold DK.does; rw [if_neg (by assumption), if_neg (by assumption), if_neg (by assumption), if_neg (by assumption), if_neg (by assumption), if_neg (by assumption), if_neg (by assumption)]; exact hD1, rfl⟩
                  · exact (by repeat (first | exact Sel.all | exact Sel.none | exact Sel.hd | (apply Sel.one; · repeat (first | exact Pick.h | apply Pick.t | apply Pick.app)) | apply Sel.app | (with_reducible apply Sel.grp; · repeat (first | exact PickF.h | apply PickF.t | apply PickF.a)) | (with_reducible refine Sel.nilF (by with_unfolding_all rfl) ?_) | apply Sel.drop | apply Sel.dropF)))
              | false =>
                try have c_t41 := df h41
                first
                | (exfalso; omega)
                | (
                  refine wc_else rfl ?_
                  refine wc_seq ?_
                  refine wc_region ?_
                  refine wl rfl (OP.evb rfl rfl (eEq rfl rfl) fun t45 h45 => ?_)
                  refine wl rfl (OP.ev rfl rfl (eAs rfl) ?_)
                  refine wl_nil ?_
                  cases t45 with
                  | true =>
                    try have c_t45 := dt h45
                    first
                    | (exfalso; omega)
                    | (
                      refine wc_then rfl ?_
                      refine wc_seq ?_
                      refine wc_region ?_
                      refine wl rfl (OP.ev rfl rfl (eMv rfl) ?_)
                      refine wl rfl (OP.ev rfl rfl (eFld 5 ty39 rfl rfl ty3 rfl) ?_)
                      first | refine wl rfl (OP.ev rfl rfl (eLd ty3 rfl rfl (by repeat (first | exact Has.h | apply Has.t | apply Has.app)) (by rfl)) ?_) | refine wl rfl (OP.ev rfl rfl (eLdO ty3 rfl rfl (by assumption)) ?_)
                      refine wl rfl (OP.ev rfl rfl (eFld 6 ty39 rfl rfl ty3 rfl) ?_)
                      first | refine wl rfl (OP.ev rfl rfl (eLd ty3 rfl rfl (by repeat (first | exact Has.h | apply Has.t | apply Has.app)) (by rfl)) ?_) | refine wl rfl (OP.ev rfl rfl (eLdO ty3 rfl rfl (by assumption)) ?_)
                      refine wl rfl (OP.ev rfl rfl (eFld 7 ty39 rfl rfl ty3 rfl) ?_)
                      first | refine wl rfl (OP.ev rfl rfl (eLd ty3 rfl rfl (by repeat (first | exact Has.h | apply Has.t | apply Has.app)) (by rfl)) ?_) | refine wl rfl (OP.ev rfl rfl (eLdO ty3 rfl rfl (by assumption)) ?_)
                      refine wl rfl (oC rfl pf15 rfl (arm_ok b d c.n c.keep c.tear D _ hD) (by repeat (first | exact Sel.all | exact Sel.none | exact Sel.hd | (apply Sel.one; · repeat (first | exact Pick.h | apply Pick.t | apply Pick.app)) | apply Sel.app | (with_reducible apply Sel.grp; · repeat (first | exact PickF.h | apply PickF.t | apply PickF.a)) | (with_reducible refine Sel.nilF (by with_unfolding_all rfl) ?_) | apply Sel.drop | apply Sel.dropF)) ?_)
                      rintro _ _ ⟨rfl, D1, I1, hI1, hD1, rfl⟩
                      refine wl rfl (OP.ev rfl rfl (eAs rfl) ?_)
                      refine wl_nil ?_
                      refine wc_ret ?_
                      apply at_ret rfl
                      · exact (.cons (.tmp rfl) .nil)
                      · first
                        | exact ⟨by unfold DK.does; rw [if_pos (by assumption)]; rfl, D1, I1, hI1, by unfold DK.does; rw [if_pos (by assumption)]; exact hD1, rfl⟩
                        | exact ⟨by unfold DK.does; rw [if_neg (by assumption), if_pos (by assumption)]; rfl, D1, I1, hI1, by unfold DK.does; rw [if_neg (by assumption), if_pos (by assumption)]; exact hD1, rfl⟩
                        | exact ⟨by unfold DK.does; rw [if_neg (by assumption), if_neg (by assumption), if_pos (by assumption)]; rfl, D1, I1, hI1, by unfold DK.does; rw [if_neg (by assumption), if_neg (by assumption), if_pos (by assumption)]; exact hD1, rfl⟩
                        | exact ⟨by unfold DK.does; rw [if_neg (by assumption), if_neg (by assumption), if_neg (by assumption), if_pos (by assumption)]; rfl, D1, I1, hI1, by unfold DK.does; rw [if_neg (by assumption), if_neg (by assumption), if_neg (by assumption), if_pos (by assumption)]; exact hD1, rfl⟩
                        | exact ⟨by unfold DK.does; rw [if_neg (by assumption), if_neg (by assumption), if_neg (by assumption), if_neg (by assumption), if_pos (by assumption)]; rfl, D1, I1, hI1, by unfold DK.does; rw [if_neg (by assumption), if_neg (by assumption), if_neg (by assumption), if_neg (by assumption), if_pos (by assumption)]; exact hD1, rfl⟩
                        | exact ⟨by unfold DK.does; rw [if_neg (by assumption), if_neg (by assumption), if_neg (by assumption), if_neg (by assumption), if_neg (by assumption), if_pos (by assumption)]; rfl, D1, I1, hI1, by unfold DK.does; rw [if_neg (by assumption), if_neg (by assumption), if_neg (by assumption), if_neg (by assumption), if_neg (by assumption), if_pos (by assumption)]; exact hD1, rfl⟩
                        | exact ⟨by unfold DK.does; rw [if_neg (by assumption), if_neg (by assumption), if_neg (by assumption), if_neg (by assumption), if_neg (by assumption), if_neg (by assumption), if_pos (by assumption)]; rfl, D1, I1, hI1, by unfold DK.does; rw [if_neg (by assumption), if_neg (by assumption), if_neg (by assumption), if_neg (by assumption), if_neg (by assumption), if_neg (by assumption), if_pos (by assumption)]; exact hD1, rfl⟩
                        | exact ⟨by unfold DK.does; rw [if_neg (by assumption), if_neg (by assumption), if_neg (by assumption), if_neg (by assumption), if_neg (by assumption), if_neg (by assumption), if_neg (by assumption)]; rfl, D1, I1, hI1, by unfold DK.does; rw [if_neg (by assumption), if_neg (by assumption), if_neg (by assumption), if_neg (by assumption), if_neg (by assumption), if_neg (by assumption), if_neg (by assumption)]; exact hD1, rfl⟩
                      · exact (by repeat (first | exact Sel.all | exact Sel.none | exact Sel.hd | (apply Sel.one; · repeat (first | exact Pick.h | apply Pick.t | apply Pick.app)) | apply Sel.app | (with_reducible apply Sel.grp; · repeat (first | exact PickF.h | apply PickF.t | apply PickF.a)) | (with_reducible refine Sel.nilF (by with_unfolding_all rfl) ?_) | apply Sel.drop | apply Sel.dropF)))
                  | false =>
                    try have c_t45 := df h45
                    first
                    | (exfalso; omega)
                    | (
                      refine wc_else rfl ?_
                      refine wc_seq ?_
                      refine wc_region ?_
                      refine wl rfl (OP.evb rfl rfl (eEq rfl rfl) fun t55 h55 => ?_)
                      refine wl rfl (OP.ev rfl rfl (eAs rfl) ?_)
                      refine wl_nil ?_
                      cases t55 with
                      | true =>
                        try have c_t55 := dt h55
                        first
                        | (exfalso; omega)
                        | (
                          refine wc_then rfl ?_
                          refine wc_seq ?_
                          refine wc_region ?_
                          refine wl rfl (OP.ev rfl rfl (eMv rfl) ?_)
                          refine wl rfl (OP.ev rfl rfl (eFld 6 ty39 rfl rfl ty3 rfl) ?_)
                          first | refine wl rfl (OP.ev rfl rfl (eLd ty3 rfl rfl (by repeat (first | exact Has.h | apply Has.t | apply Has.app)) (by rfl)) ?_) | refine wl rfl (OP.ev rfl rfl (eLdO ty3 rfl rfl (by assumption)) ?_)
                          refine wl rfl (OP.ev rfl rfl (eFld 7 ty39 rfl rfl ty3 rfl) ?_)
                          first | refine wl rfl (OP.ev rfl rfl (eLd ty3 rfl rfl (by repeat (first | exact Has.h | apply Has.t | apply Has.app)) (by rfl)) ?_) | refine wl rfl (OP.ev rfl rfl (eLdO ty3 rfl rfl (by assumption)) ?_)
                          refine wl rfl (oC rfl pf39 rfl (crash_ok b d hd c.keep c.tear hc.keep hc.tear D _ hD (by omega)) (by repeat (first | exact Sel.all | exact Sel.none | exact Sel.hd | (apply Sel.one; · repeat (first | exact Pick.h | apply Pick.t | apply Pick.app)) | apply Sel.app | (with_reducible apply Sel.grp; · repeat (first | exact PickF.h | apply PickF.t | apply PickF.a)) | (with_reducible refine Sel.nilF (by with_unfolding_all rfl) ?_) | apply Sel.drop | apply Sel.dropF)) ?_)
                          rintro _ _ ⟨rfl, D1, I1, hI1, hD1, rfl⟩
                          refine wl rfl (OP.ev rfl rfl (eAs rfl) ?_)
                          refine wl_nil ?_
                          refine wc_ret ?_
                          apply at_ret rfl
                          · exact (.cons (.tmp rfl) .nil)
                          · first
                            | exact ⟨by unfold DK.does; rw [if_pos (by assumption)]; rfl, D1, I1, hI1, by unfold DK.does; rw [if_pos (by assumption)]; exact hD1, rfl⟩
                            | exact ⟨by unfold DK.does; rw [if_neg (by assumption), if_pos (by assumption)]; rfl, D1, I1, hI1, by unfold DK.does; rw [if_neg (by assumption), if_pos (by assumption)]; exact hD1, rfl⟩
                            | exact ⟨by unfold DK.does; rw [if_neg (by assumption), if_neg (by assumption), if_pos (by assumption)]; rfl, D1, I1, hI1, by unfold DK.does; rw [if_neg (by assumption), if_neg (by assumption), if_pos (by assumption)]; exact hD1, rfl⟩
                            | exact ⟨by unfold DK.does; rw [if_neg (by assumption), if_neg (by assumption), if_neg (by assumption), if_pos (by assumption)]; rfl, D1, I1, hI1, by unfold DK.does; rw [if_neg (by assumption), if_neg (by assumption), if_neg (by assumption), if_pos (by assumption)]; exact hD1, rfl⟩
                            | exact ⟨by unfold DK.does; rw [if_neg (by assumption), if_neg (by assumption), if_neg (by assumption), if_neg (by assumption), if_pos (by assumption)]; rfl, D1, I1, hI1, by unfold DK.does; rw [if_neg (by assumption), if_neg (by assumption), if_neg (by assumption), if_neg (by assumption), if_pos (by assumption)]; exact hD1, rfl⟩
                            | exact ⟨by unfold DK.does; rw [if_neg (by assumption), if_neg (by assumption), if_neg (by assumption), if_neg (by assumption), if_neg (by assumption), if_pos (by assumption)]; rfl, D1, I1, hI1, by unfold DK.does; rw [if_neg (by assumption), if_neg (by assumption), if_neg (by assumption), if_neg (by assumption), if_neg (by assumption), if_pos (by assumption)]; exact hD1, rfl⟩
                            | exact ⟨by unfold DK.does; rw [if_neg (by assumption), if_neg (by assumption), if_neg (by assumption), if_neg (by assumption), if_neg (by assumption), if_neg (by assumption), if_pos (by assumption)]; rfl, D1, I1, hI1, by unfold DK.does; rw [if_neg (by assumption), if_neg (by assumption), if_neg (by assumption), if_neg (by assumption), if_neg (by assumption), if_neg (by assumption), if_pos (by assumption)]; exact hD1, rfl⟩
                            | exact ⟨by unfold DK.does; rw [if_neg (by assumption), if_neg (by assumption), if_neg (by assumption), if_neg (by assumption), if_neg (by assumption), if_neg (by assumption), if_neg (by assumption)]; rfl, D1, I1, hI1, by unfold DK.does; rw [if_neg (by assumption), if_neg (by assumption), if_neg (by assumption), if_neg (by assumption), if_neg (by assumption), if_neg (by assumption), if_neg (by assumption)]; exact hD1, rfl⟩
                          · exact (by repeat (first | exact Sel.all | exact Sel.none | exact Sel.hd | (apply Sel.one; · repeat (first | exact Pick.h | apply Pick.t | apply Pick.app)) | apply Sel.app | (with_reducible apply Sel.grp; · repeat (first | exact PickF.h | apply PickF.t | apply PickF.a)) | (with_reducible refine Sel.nilF (by with_unfolding_all rfl) ?_) | apply Sel.drop | apply Sel.dropF)))
                      | false =>
                        try have c_t55 := df h55
                        first
                        | (exfalso; omega)
                        | (
                          refine wc_else rfl ?_
                          refine wc_seq ?_
                          refine wc_region ?_
                          refine wl rfl (OP.evb rfl rfl (eEq rfl rfl) fun t63 h63 => ?_)
                          refine wl rfl (OP.ev rfl rfl (eAs rfl) ?_)
                          refine wl_nil ?_
                          cases t63 with
                          | true =>
                            try have c_t63 := dt h63
                            first
                            | (exfalso; omega)
                            | (
                              refine wc_then rfl ?_
                              refine wc_seq ?_
                              refine wc_region ?_
                              refine wl rfl (OP.ev rfl rfl (eMv rfl) ?_)
                              refine wl rfl (oC rfl pf14 rfl (start_ok b d D _ hD) (by repeat (first | exact Sel.all | exact Sel.none | exact Sel.hd | (apply Sel.one; · repeat (first | exact Pick.h | apply Pick.t | apply Pick.app)) | apply Sel.app | (with_reducible apply Sel.grp; · repeat (first | exact PickF.h | apply PickF.t | apply PickF.a)) | (with_reducible refine Sel.nilF (by with_unfolding_all rfl) ?_) | apply Sel.drop | apply Sel.dropF)) ?_)
                              rintro _ _ ⟨rfl, D1, I1, hI1, hD1, rfl⟩
                              refine wl rfl (OP.ev rfl rfl (eAs rfl) ?_)
                              refine wl_nil ?_
                              refine wc_ret ?_
                              apply at_ret rfl
                              · exact (.cons (.tmp rfl) .nil)
                              · first
                                | exact ⟨by unfold DK.does; rw [if_pos (by assumption)]; rfl, D1, I1, hI1, by unfold DK.does; rw [if_pos (by assumption)]; exact hD1, rfl⟩
                                | exact ⟨by unfold DK.does; rw [if_neg (by assumption), if_pos (by assumption)]; rfl, D1, I1, hI1, by unfold DK.does; rw [if_neg (by assumption), if_pos (by assumption)]; exact hD1, rfl⟩
                                | exact ⟨by unfold DK.does; rw [if_neg (by assumption), if_neg (by assumption), if_pos (by assumption)]; rfl, D1, I1, hI1, by unfold DK.does; rw [if_neg (by assumption), if_neg (by assumption), if_pos (by assumption)]; exact hD1, rfl⟩
                                | exact ⟨by unfold DK.does; rw [if_neg (by assumption), if_neg (by assumption), if_neg (by assumption), if_pos (by assumption)]; rfl, D1, I1, hI1, by unfold DK.does; rw [if_neg (by assumption), if_neg (by assumption), if_neg (by assumption), if_pos (by assumption)]; exact hD1, rfl⟩
                                | exact ⟨by unfold DK.does; rw [if_neg (by assumption), if_neg (by assumption), if_neg (by assumption), if_neg (by assumption), if_pos (by assumption)]; rfl, D1, I1, hI1, by unfold DK.does; rw [if_neg (by assumption), if_neg (by assumption), if_neg (by assumption), if_neg (by assumption), if_pos (by assumption)]; exact hD1, rfl⟩
                                | exact ⟨by unfold DK.does; rw [if_neg (by assumption), if_neg (by assumption), if_neg (by assumption), if_neg (by assumption), if_neg (by assumption), if_pos (by assumption)]; rfl, D1, I1, hI1, by unfold DK.does; rw [if_neg (by assumption), if_neg (by assumption), if_neg (by assumption), if_neg (by assumption), if_neg (by assumption), if_pos (by assumption)]; exact hD1, rfl⟩
                                | exact ⟨by unfold DK.does; rw [if_neg (by assumption), if_neg (by assumption), if_neg (by assumption), if_neg (by assumption), if_neg (by assumption), if_neg (by assumption), if_pos (by assumption)]; rfl, D1, I1, hI1, by unfold DK.does; rw [if_neg (by assumption), if_neg (by assumption), if_neg (by assumption), if_neg (by assumption), if_neg (by assumption), if_neg (by assumption), if_pos (by assumption)]; exact hD1, rfl⟩
                                | exact ⟨by unfold DK.does; rw [if_neg (by assumption), if_neg (by assumption), if_neg (by assumption), if_neg (by assumption), if_neg (by assumption), if_neg (by assumption), if_neg (by assumption)]; rfl, D1, I1, hI1, by unfold DK.does; rw [if_neg (by assumption), if_neg (by assumption), if_neg (by assumption), if_neg (by assumption), if_neg (by assumption), if_neg (by assumption), if_neg (by assumption)]; exact hD1, rfl⟩
                              · exact (by repeat (first | exact Sel.all | exact Sel.none | exact Sel.hd | (apply Sel.one; · repeat (first | exact Pick.h | apply Pick.t | apply Pick.app)) | apply Sel.app | (with_reducible apply Sel.grp; · repeat (first | exact PickF.h | apply PickF.t | apply PickF.a)) | (with_reducible refine Sel.nilF (by with_unfolding_all rfl) ?_) | apply Sel.drop | apply Sel.dropF)))
                          | false =>
                            try have c_t63 := df h63
                            first
                            | (exfalso; omega)
                            | (
                              refine wc_else rfl ?_
                              refine wc_seq ?_
                              have hwr := write_ok b d hd c.name c.at_ hc.at_ c.bv c.B D ((b3, .cells (cC c) 39 (0, 0)) :: R) hD (hc.rs.sel (by repeat (first | exact Sel.all | exact Sel.none | exact Sel.hd | (apply Sel.one; · repeat (first | exact Pick.h | apply Pick.t | apply Pick.app)) | apply Sel.app | (with_reducible apply Sel.grp; · repeat (first | exact PickF.h | apply PickF.t | apply PickF.a)) | (with_reducible refine Sel.nilF (by with_unfolding_all rfl) ?_) | apply Sel.drop | apply Sel.dropF))) hc.isB hc.len hn
                              refine wc_region ?_
                              refine wl rfl (OP.ev rfl rfl (eMv rfl) ?_)
                              refine wl rfl (OP.ev rfl rfl (eFld 1 ty39 rfl rfl ty9 rfl) ?_)
                              first | refine wl rfl (OP.ev rfl rfl (eLd ty9 rfl rfl (by repeat (first | exact Has.h | apply Has.t | apply Has.app)) (by rfl)) ?_) | refine wl rfl (OP.ev rfl rfl (eLdO ty9 rfl rfl (by assumption)) ?_)
                              refine wl rfl (OP.ev rfl rfl (eFld 3 ty39 rfl rfl ty3 rfl) ?_)
                              first | refine wl rfl (OP.ev rfl rfl (eLd ty3 rfl rfl (by repeat (first | exact Has.h | apply Has.t | apply Has.app)) (by rfl)) ?_) | refine wl rfl (OP.ev rfl rfl (eLdO ty3 rfl rfl (by assumption)) ?_)
                              refine wl rfl (OP.ev rfl rfl (eFld 4 ty39 rfl rfl ty30 rfl) ?_)
                              first | refine wl rfl (OP.ev rfl rfl (eLd ty30 rfl rfl (by repeat (first | exact Has.h | apply Has.t | apply Has.app)) (by rfl)) ?_) | refine wl rfl (OP.ev rfl rfl (eLdO ty30 rfl rfl (by assumption)) ?_)
                              refine wl rfl (oC rfl pf42 rfl hwr (by repeat (first | exact Sel.all | exact Sel.none | exact Sel.hd | (apply Sel.one; · repeat (first | exact Pick.h | apply Pick.t | apply Pick.app)) | apply Sel.app | (with_reducible apply Sel.grp; · repeat (first | exact PickF.h | apply PickF.t | apply PickF.a)) | (with_reducible refine Sel.nilF (by with_unfolding_all rfl) ?_) | apply Sel.drop | apply Sel.dropF)) ?_)
                              rintro _ _ ⟨rfl, D1, I1, hI1, hD1, rfl⟩
                              refine wl rfl (OP.ev rfl rfl (eAs rfl) ?_)
                              refine wl_nil ?_
                              refine wc_ret ?_
                              apply at_ret rfl
                              · exact (.cons (.tmp rfl) .nil)
                              · first
                                | exact ⟨by unfold DK.does; rw [if_pos (by assumption)]; rfl, D1, I1, hI1, by unfold DK.does; rw [if_pos (by assumption)]; exact hD1, rfl⟩
                                | exact ⟨by unfold DK.does; rw [if_neg (by assumption), if_pos (by assumption)]; rfl, D1, I1, hI1, by unfold DK.does; rw [if_neg (by assumption), if_pos (by assumption)]; exact hD1, rfl⟩
                                | exact ⟨by unfold DK.does; rw [if_neg (by assumption), if_neg (by assumption), if_pos (by assumption)]; rfl, D1, I1, hI1, by unfold DK.does; rw [if_neg (by assumption), if_neg (by assumption), if_pos (by assumption)]; exact hD1, rfl⟩
                                | exact ⟨by unfold DK.does; rw [if_neg (by assumption), if_neg (by assumption), if_neg (by assumption), if_pos (by assumption)]; rfl, D1, I1, hI1, by unfold DK.does; rw [if_neg (by assumption), if_neg (by assumption), if_neg (by assumption), if_pos (by assumption)]; exact hD1, rfl⟩
                                | exact ⟨by unfold DK.does; rw [if_neg (by assumption), if_neg (by assumption), if_neg (by assumption), if_neg (by assumption), if_pos (by assumption)]; rfl, D1, I1, hI1, by unfold DK.does; rw [if_neg (by assumption), if_neg (by assumption), if_neg (by assumption), if_neg (by assumption), if_pos (by assumption)]; exact hD1, rfl⟩
                                | exact ⟨by unfold DK.does; rw [if_neg (by assumption), if_neg (by assumption), if_neg (by assumption), if_neg (by assumption), if_neg (by assumption), if_pos (by assumption)]; rfl, D1, I1, hI1, by unfold DK.does; rw [if_neg (by assumption), if_neg (by assumption), if_neg (by assumption), if_neg (by assumption), if_neg (by assumption), if_pos (by assumption)]; exact hD1, rfl⟩
                                | exact ⟨by unfold DK.does; rw [if_neg (by assumption), if_neg (by assumption), if_neg (by assumption), if_neg (by assumption), if_neg (by assumption), if_neg (by assumption), if_pos (by assumption)]; rfl, D1, I1, hI1, by unfold DK.does; rw [if_neg (by assumption), if_neg (by assumption), if_neg (by assumption), if_neg (by assumption), if_neg (by assumption), if_neg (by assumption), if_pos (by assumption)]; exact hD1, rfl⟩
                                | exact ⟨by unfold DK.does; rw [if_neg (by assumption), if_neg (by assumption), if_neg (by assumption), if_neg (by assumption), if_neg (by assumption), if_neg (by assumption), if_neg (by assumption)]; rfl, D1, I1, hI1, by unfold DK.does; rw [if_neg (by assumption), if_neg (by assumption), if_neg (by assumption), if_neg (by assumption), if_neg (by assumption), if_neg (by assumption), if_neg (by assumption)]; exact hD1, rfl⟩
                              · exact (by repeat (first | exact Sel.all | exact Sel.none | exact Sel.hd | (apply Sel.one; · repeat (first | exact Pick.h | apply Pick.t | apply Pick.app)) | apply Sel.app | (with_reducible apply Sel.grp; · repeat (first | exact PickF.h | apply PickF.t | apply PickF.a)) | (with_reducible refine Sel.nilF (by with_unfolding_all rfl) ?_) | apply Sel.drop | apply Sel.dropF)))))))))
end Go.Proofs.Ytahjgjmemijofaa
