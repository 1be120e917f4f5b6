/- The contracts of the package session's functions: what each call gives back and what it leaves in memory, over a table that is told by a list. -/
import Derived.Test.YtbppeijcfkdhjaaTy08
import Derived.Test.YtbppeijcfkdhjaaMapIt
namespace Go.Proofs.Ytbppeijcfkdhjaa
open Go Eng
set_option linter.unusedVariables false
set_option maxRecDepth 4000

structure Reply where
  err : Int
  session : Int
  gone : Int
  added : Int
  same : Int
  other : Int
  cycle : Int
  full : Int
  deriving DecidableEq

structure Seat where
  session : Int
  seq : Int
  at_ : Int
  reply : Reply
  deriving DecidableEq

def rC (r : Reply) : Array Value := #[.int .i64 r.err, .int .i64 r.session, .int .i64 r.gone, .int .i64 r.added, .int .i64 r.same, .int .i64 r.other, .int .i64 r.cycle, .int .i64 r.full]
def sC (s : Seat) : Array Value := #[.int .i64 s.session, .int .i64 s.seq, .int .i64 s.at_, .int .i64 s.reply.err, .int .i64 s.reply.session, .int .i64 s.reply.gone, .int .i64 s.reply.added, .int .i64 s.reply.same, .int .i64 s.reply.other, .int .i64 s.reply.cycle, .int .i64 s.reply.full]
def sV (s : Seat) : Value := .agg (sC s)
def r0 : Reply := ⟨0, 0, 0, 0, 0, 0, 0, 0⟩
def s0 : Seat := ⟨0, 0, 0, r0⟩

abbrev SMap := List (Int × Seat × Nat)
abbrev ptr (b : Nat) : Value := .pointer (some ⟨b, 0, none⟩)
abbrev i64 (x : Int) : Value := .int .i64 x
abbrev tC (t r : Nat) : Nat × Obj := (t, .cells #[.map (some r)] 45 (0, 0))
abbrev mC (r : Nat) (m : SMap) (clk : Nat) : Nat × Obj := (r, mp intKey sV m clk)

variable {W0 : World}

theorem made_ok (t r : Nat) (R : Heap) : FnC W0 Try.prog 28 #[ptr t] (tC t r :: R) (fun v L' => v = .bool true ∧ L' = tC t r :: R) := by
  refine fn_of Try.func28 rfl Try.ntmps28 rfl rfl ?_
  refine wc_seq ?_
  refine wc_region ?_
  refine wl rfl (OP.ev rfl rfl (eAs rfl) ?_)
  refine wl_nil ?_
  refine wc_seq ?_
  refine wc_region ?_
  refine wl rfl (OP.ev rfl rfl (eMv rfl) ?_)
  first | refine wl rfl (OP.ev rfl rfl (eNeP0 rfl rfl ty24) ?_) | refine wl rfl (OP.ev rfl rfl (eNeP1 rfl rfl ty24) ?_)
  refine wl rfl (OP.ev rfl rfl (eMv rfl) ?_)
  refine wl_go rfl rfl (OP.ev rfl rfl (eMv rfl) ?_)
  refine wl_go rfl rfl (OP.ev rfl rfl (eNil rfl) ?_)
  refine wl_go rfl rfl (OP.ev rfl rfl (eFld 0 ty45 rfl rfl ty43 rfl) ?_)
  first | refine wl_go rfl rfl (OP.ev rfl rfl (eLd ty43 rfl rfl (by repeat (first | exact Has.h | apply Has.t | apply Has.app)) (by rfl)) ?_) | refine wl_go rfl rfl (OP.ev rfl rfl (eLdO ty43 rfl rfl (by assumption)) ?_)
  first | refine wl_go rfl rfl (OP.ev rfl rfl (eNeM0 rfl rfl ty43) ?_) | refine wl_go rfl rfl (OP.ev rfl rfl (eNeM1 rfl rfl ty43) ?_)
  refine wl rfl (OP.ev rfl rfl (ePk rfl rfl) ?_)
  refine wl rfl (OP.ev rfl rfl (eAs rfl) ?_)
  refine wl_nil ?_
  refine wc_ret ?_
  apply at_ret rfl
  · exact (.cons (.tmp rfl) .nil)
  · exact ⟨rfl, rfl⟩
  · exact (by repeat (first | exact Sel.all | exact Sel.none | (apply Sel.one; · repeat (first | exact Pick.h | apply Pick.t | apply Pick.app)) | apply Sel.app | (with_reducible apply Sel.grp; · repeat (first | exact PickF.h | apply PickF.t | apply PickF.a)) | (with_reducible refine Sel.nilF (by with_unfolding_all rfl) ?_) | apply Sel.drop | apply Sel.dropF))

theorem made_nil (R : Heap) : FnC W0 Try.prog 28 #[.pointer none] R (fun v L' => v = .bool false ∧ L' = R) := by
  refine fn_of Try.func28 rfl Try.ntmps28 rfl rfl ?_
  refine wc_seq ?_
  refine wc_region ?_
  refine wl rfl (OP.ev rfl rfl (eAs rfl) ?_)
  refine wl_nil ?_
  refine wc_seq ?_
  refine wc_region ?_
  refine wl rfl (OP.ev rfl rfl (eMv rfl) ?_)
  first | refine wl rfl (OP.ev rfl rfl (eNeP0 rfl rfl ty24) ?_) | refine wl rfl (OP.ev rfl rfl (eNeP1 rfl rfl ty24) ?_)
  refine wl rfl (OP.ev rfl rfl (eMv rfl) ?_)
  refine wl_skip rfl rfl rfl rfl rfl ?_
  refine wl_skip rfl rfl rfl rfl rfl ?_
  refine wl_skip rfl rfl rfl rfl rfl ?_
  refine wl_skip rfl rfl rfl rfl rfl ?_
  refine wl_skip rfl rfl rfl rfl rfl ?_
  refine wl rfl (OP.ev rfl rfl (ePk rfl rfl) ?_)
  refine wl rfl (OP.ev rfl rfl (eAs rfl) ?_)
  refine wl_nil ?_
  refine wc_ret ?_
  apply at_ret rfl
  · exact (.cons (.tmp rfl) .nil)
  · exact ⟨rfl, rfl⟩
  · exact (by repeat (first | exact Sel.all | exact Sel.none | (apply Sel.one; · repeat (first | exact Pick.h | apply Pick.t | apply Pick.app)) | apply Sel.app | (with_reducible apply Sel.grp; · repeat (first | exact PickF.h | apply PickF.t | apply PickF.a)) | (with_reducible refine Sel.nilF (by with_unfolding_all rfl) ?_) | apply Sel.drop | apply Sel.dropF))

theorem index_ok (x : Int) (R : Heap) : FnC W0 Try.prog 32 #[i64 x] R (fun v L' => ∃ u, v = .bool u ∧ u = decide (1 ≤ x ∧ x ≤ 1099511627776) ∧ L' = R) := by
  refine fn_of Try.func32 rfl Try.ntmps32 rfl rfl ?_
  refine wc_seq ?_
  refine wc_region ?_
  refine wl rfl (OP.ev rfl rfl (eAs rfl) ?_)
  refine wl_nil ?_
  refine wc_seq ?_
  refine wc_region ?_
  refine wl rfl (OP.ev rfl rfl (eMv rfl) ?_)
  refine wl rfl (OP.evb rfl rfl (eGe rfl rfl) fun t4 h4 => ?_)
  refine wl rfl (OP.ev rfl rfl (eMv rfl) ?_)
  cases t4 with
  | true =>
    try have c_t4 := dt h4
    first
    | (exfalso; omega)
    | (
      refine wl_go rfl rfl (OP.ev rfl rfl (eMv rfl) ?_)
      refine wl_go rfl rfl (OP.evb rfl rfl (eLe rfl rfl) fun t7 h7 => ?_)
      refine wl rfl (OP.ev rfl rfl (ePk rfl rfl) ?_)
      refine wl rfl (OP.ev rfl rfl (eAs rfl) ?_)
      refine wl_nil ?_
      refine wc_ret ?_
      apply at_ret rfl
      · exact (.cons (.tmp rfl) .nil)
      · exact ⟨_, rfl, by first | (symm; apply decide_eq_false; omega) | (rw [h7]; apply decide_eq_decide.2; omega), rfl⟩
      · exact (by repeat (first | exact Sel.all | exact Sel.none | (apply Sel.one; · repeat (first | exact Pick.h | apply Pick.t | apply Pick.app)) | apply Sel.app | (with_reducible apply Sel.grp; · repeat (first | exact PickF.h | apply PickF.t | apply PickF.a)) | (with_reducible refine Sel.nilF (by with_unfolding_all rfl) ?_) | apply Sel.drop | apply Sel.dropF)))
  | false =>
    try have c_t4 := df h4
    first
    | (exfalso; omega)
    | (
      refine wl_skip rfl rfl rfl rfl rfl ?_
      refine wl_skip rfl rfl rfl rfl rfl ?_
      refine wl rfl (OP.ev rfl rfl (ePk rfl rfl) ?_)
      refine wl rfl (OP.ev rfl rfl (eAs rfl) ?_)
      refine wl_nil ?_
      refine wc_ret ?_
      apply at_ret rfl
      · exact (.cons (.tmp rfl) .nil)
      · exact ⟨_, rfl, by first | (symm; apply decide_eq_false; omega) | (rw [h7]; apply decide_eq_decide.2; omega), rfl⟩
      · exact (by repeat (first | exact Sel.all | exact Sel.none | (apply Sel.one; · repeat (first | exact Pick.h | apply Pick.t | apply Pick.app)) | apply Sel.app | (with_reducible apply Sel.grp; · repeat (first | exact PickF.h | apply PickF.t | apply PickF.a)) | (with_reducible refine Sel.nilF (by with_unfolding_all rfl) ?_) | apply Sel.drop | apply Sel.dropF)))

def ask (m : SMap) (k n : Int) : Reply × Bool × Int :=
  match mget k m with
  | none => (r0, false, 80)
  | some s => if n < s.seq ∨ n < 1 then (r0, false, 81) else if n = s.seq then (s.reply, true, 0) else if s.seq < n - 1 then (r0, false, 82) else (r0, false, 0)
def askV (x : Reply × Bool × Int) : Value := .tuple #[.agg (rC x.1), .bool x.2.1, i64 x.2.2]

theorem ask_ok (t r : Nat) (m : SMap) (clk : Nat) (k n : Int) (hn : n < 9223372036854775808) (R : Heap) :
    FnC W0 Try.prog 12 #[ptr t, i64 k, i64 n] (tC t r :: mC r m clk :: R) (fun v L' => v = askV (ask m k n) ∧ L' = tC t r :: mC r m clk :: R) := by
  cases hg : mget k m with
  | none =>
    refine fn_of Try.func12 rfl Try.ntmps12 rfl rfl ?_
    refine wc_seq ?_
    refine wc_region ?_
    refine wl rfl (oAl rfl ty33 rfl fun b6 => ?_)
    refine wl rfl (OP.ev rfl rfl (eAs rfl) ?_)
    refine wl rfl (OP.ev rfl rfl (eAs rfl) ?_)
    refine wl_nil ?_
    refine wc_seq ?_
    refine wc_region ?_
    refine wl rfl (OP.ev rfl rfl (eBuL (cells := [.int .i64 0, .int .i64 0, .int .i64 0, .int .i64 0, .int .i64 0, .int .i64 0, .int .i64 0, .int .i64 0]) ty33 pl33 rfl rfl) ?_)
    refine wl rfl (oAl rfl ty33 rfl fun b9 => ?_)
    refine wl rfl (oStW ty33 rfl rfl rfl rfl (by repeat (first | exact Upd.h | apply Upd.t | apply Upd.app)) (by rfl) ?_)
    refine wl_nil ?_
    refine wc_seq ?_
    refine wc_seq ?_
    refine wc_region ?_
    refine wl rfl (OP.ev rfl rfl (eMv rfl) ?_)
    refine wl rfl (oC rfl pf28 rfl (made_ok t r _) (by repeat (first | exact Sel.all | exact Sel.none | (apply Sel.one; · repeat (first | exact Pick.h | apply Pick.t | apply Pick.app)) | apply Sel.app | (with_reducible apply Sel.grp; · repeat (first | exact PickF.h | apply PickF.t | apply PickF.a)) | (with_reducible refine Sel.nilF (by with_unfolding_all rfl) ?_) | apply Sel.drop | apply Sel.dropF)) ?_)
    rintro _ _ ⟨rfl, rfl⟩
    refine wl rfl (OP.ev rfl rfl (eNot rfl) ?_)
    refine wl_nil ?_
    refine wc_else rfl ?_
    refine wc_skip ?_
    refine wc_seq ?_
    refine wc_region ?_
    refine wl rfl (OP.ev rfl rfl (eMv rfl) ?_)
    refine wl rfl (OP.ev rfl rfl (eNil rfl) ?_)
    refine wl rfl (OP.ev rfl rfl (eFld 0 ty45 rfl rfl ty43 rfl) ?_)
    first | refine wl rfl (OP.ev rfl rfl (eLd ty43 rfl rfl (by repeat (first | exact Has.h | apply Has.t | apply Has.app)) (by rfl)) ?_) | refine wl rfl (OP.ev rfl rfl (eLdO ty43 rfl rfl (by assumption)) ?_)
    refine wl rfl (OP.ev rfl rfl (eMv rfl) ?_)
    refine wl rfl (OP.ev rfl rfl (eLk (v := sV s0) (c := false) ty43 ty35 (intKOk ty3) rfl rfl (by repeat (first | exact Has.h | apply Has.t | apply Has.app)) (by rw [hg]; rfl) (by rw [hg]; rfl)) ?_)
    refine wl rfl (OP.ev rfl rfl (eMv rfl) ?_)
    refine wl rfl (OP.ev rfl rfl (eExt rfl rfl) ?_)
    refine wl rfl (OP.ev rfl rfl (eExt rfl rfl) ?_)
    refine wl rfl (oAl rfl ty35 rfl fun b10 => ?_)
    refine wl rfl (oStW ty35 rfl rfl rfl rfl (by repeat (first | exact Upd.h | apply Upd.t | apply Upd.app)) (by rfl) ?_)
    refine wl rfl (OP.ev rfl rfl (eAs rfl) ?_)
    refine wl_nil ?_
    refine wc_seq ?_
    refine wc_block ?_
    refine wc_seq ?_
    refine wc_region ?_
    refine wl rfl (OP.ev rfl rfl (eMv rfl) ?_)
    refine wl rfl (OP.ev rfl rfl (eNot rfl) ?_)
    refine wl rfl (OP.ev rfl rfl (eAs rfl) ?_)
    refine wl_nil ?_
    refine wc_then rfl ?_
    refine wc_seq ?_
    refine wc_region ?_
    first | refine wl rfl (OP.ev rfl rfl (eLdW ty33 rfl rfl (by repeat (first | exact Has.h | apply Has.t | apply Has.app)) (by rfl)) ?_) | refine wl rfl (OP.ev rfl rfl (eLdA (vs := [_, _, _, _, _, _, _, _]) ty33 rfl rfl (by repeat (first | exact Has.h | apply Has.t | apply Has.app)) (by rfl) (by rfl)) ?_) | refine wl rfl (OP.ev rfl rfl (eLdAO ty33 rfl rfl (by assumption) (by assumption)) ?_)
    refine wl rfl (oStW ty33 rfl rfl rfl rfl (by repeat (first | exact Upd.h | apply Upd.t | apply Upd.app)) (by rfl) ?_)
    refine wl rfl (OP.ev rfl rfl (eAs rfl) ?_)
    refine wl rfl (OP.ev rfl rfl (eAs rfl) ?_)
    refine wl_nil ?_
    refine wc_ret ?_
    apply at_ret rfl
    · exact (.cons (.cell rfl (by repeat (first | exact Has.h | apply Has.t | apply Has.app)) ty33 rfl) (.cons (.tmp rfl) (.cons (.tmp rfl) .nil)))
    · exact ⟨by simp only [ask, hg]; rfl, rfl⟩
    · exact (by repeat (first | exact Sel.all | exact Sel.none | (apply Sel.one; · repeat (first | exact Pick.h | apply Pick.t | apply Pick.app)) | apply Sel.app | (with_reducible apply Sel.grp; · repeat (first | exact PickF.h | apply PickF.t | apply PickF.a)) | (with_reducible refine Sel.nilF (by with_unfolding_all rfl) ?_) | apply Sel.drop | apply Sel.dropF))
  | some s =>
    refine fn_of Try.func12 rfl Try.ntmps12 rfl rfl ?_
    refine wc_seq ?_
    refine wc_region ?_
    refine wl rfl (oAl rfl ty33 rfl fun b6 => ?_)
    refine wl rfl (OP.ev rfl rfl (eAs rfl) ?_)
    refine wl rfl (OP.ev rfl rfl (eAs rfl) ?_)
    refine wl_nil ?_
    refine wc_seq ?_
    refine wc_region ?_
    refine wl rfl (OP.ev rfl rfl (eBuL (cells := [.int .i64 0, .int .i64 0, .int .i64 0, .int .i64 0, .int .i64 0, .int .i64 0, .int .i64 0, .int .i64 0]) ty33 pl33 rfl rfl) ?_)
    refine wl rfl (oAl rfl ty33 rfl fun b9 => ?_)
    refine wl rfl (oStW ty33 rfl rfl rfl rfl (by repeat (first | exact Upd.h | apply Upd.t | apply Upd.app)) (by rfl) ?_)
    refine wl_nil ?_
    refine wc_seq ?_
    refine wc_seq ?_
    refine wc_region ?_
    refine wl rfl (OP.ev rfl rfl (eMv rfl) ?_)
    refine wl rfl (oC rfl pf28 rfl (made_ok t r _) (by repeat (first | exact Sel.all | exact Sel.none | (apply Sel.one; · repeat (first | exact Pick.h | apply Pick.t | apply Pick.app)) | apply Sel.app | (with_reducible apply Sel.grp; · repeat (first | exact PickF.h | apply PickF.t | apply PickF.a)) | (with_reducible refine Sel.nilF (by with_unfolding_all rfl) ?_) | apply Sel.drop | apply Sel.dropF)) ?_)
    rintro _ _ ⟨rfl, rfl⟩
    refine wl rfl (OP.ev rfl rfl (eNot rfl) ?_)
    refine wl_nil ?_
    refine wc_else rfl ?_
    refine wc_skip ?_
    refine wc_seq ?_
    refine wc_region ?_
    refine wl rfl (OP.ev rfl rfl (eMv rfl) ?_)
    refine wl rfl (OP.ev rfl rfl (eNil rfl) ?_)
    refine wl rfl (OP.ev rfl rfl (eFld 0 ty45 rfl rfl ty43 rfl) ?_)
    first | refine wl rfl (OP.ev rfl rfl (eLd ty43 rfl rfl (by repeat (first | exact Has.h | apply Has.t | apply Has.app)) (by rfl)) ?_) | refine wl rfl (OP.ev rfl rfl (eLdO ty43 rfl rfl (by assumption)) ?_)
    refine wl rfl (OP.ev rfl rfl (eMv rfl) ?_)
    refine wl rfl (OP.ev rfl rfl (eLk (v := sV s) (c := true) ty43 ty35 (intKOk ty3) rfl rfl (by repeat (first | exact Has.h | apply Has.t | apply Has.app)) (by rw [hg]; rfl) (by rw [hg]; rfl)) ?_)
    refine wl rfl (OP.ev rfl rfl (eMv rfl) ?_)
    refine wl rfl (OP.ev rfl rfl (eExt rfl rfl) ?_)
    refine wl rfl (OP.ev rfl rfl (eExt rfl rfl) ?_)
    refine wl rfl (oAl rfl ty35 rfl fun b10 => ?_)
    refine wl rfl (oStW ty35 rfl rfl rfl rfl (by repeat (first | exact Upd.h | apply Upd.t | apply Upd.app)) (by rfl) ?_)
    refine wl rfl (OP.ev rfl rfl (eAs rfl) ?_)
    refine wl_nil ?_
    refine wc_seq ?_
    refine wc_block ?_
    refine wc_seq ?_
    refine wc_region ?_
    refine wl rfl (OP.ev rfl rfl (eMv rfl) ?_)
    refine wl rfl (OP.ev rfl rfl (eNot rfl) ?_)
    refine wl rfl (OP.ev rfl rfl (eAs rfl) ?_)
    refine wl_nil ?_
    refine wc_else rfl ?_
    refine wc_seq ?_
    refine wc_region ?_
    refine wl rfl (OP.ev rfl rfl (eMv rfl) ?_)
    refine wl rfl (OP.ev rfl rfl (eFld 1 ty35 rfl rfl ty3 rfl) ?_)
    first | refine wl rfl (OP.ev rfl rfl (eLd ty3 rfl rfl (by repeat (first | exact Has.h | apply Has.t | apply Has.app)) (by rfl)) ?_) | refine wl rfl (OP.ev rfl rfl (eLdO ty3 rfl rfl (by assumption)) ?_)
    refine wl rfl (OP.evb rfl rfl (eLt rfl rfl) fun t34 h34 => ?_)
    refine wl rfl (OP.ev rfl rfl (eMv rfl) ?_)
    cases t34 with
    | true =>
      try have c_t34 := dt h34
      first
      | (exfalso; omega)
      | (
        refine wl_skip rfl rfl rfl rfl rfl ?_
        refine wl_skip rfl rfl rfl rfl rfl ?_
        refine wl rfl (OP.ev rfl rfl (ePk rfl rfl) ?_)
        refine wl rfl (OP.ev rfl rfl (eAs rfl) ?_)
        refine wl_nil ?_
        refine wc_then rfl ?_
        refine wc_seq ?_
        refine wc_region ?_
        first | refine wl rfl (OP.ev rfl rfl (eLdW ty33 rfl rfl (by repeat (first | exact Has.h | apply Has.t | apply Has.app)) (by rfl)) ?_) | refine wl rfl (OP.ev rfl rfl (eLdA (vs := [_, _, _, _, _, _, _, _]) ty33 rfl rfl (by repeat (first | exact Has.h | apply Has.t | apply Has.app)) (by rfl) (by rfl)) ?_) | refine wl rfl (OP.ev rfl rfl (eLdAO ty33 rfl rfl (by assumption) (by assumption)) ?_)
        refine wl rfl (oStW ty33 rfl rfl rfl rfl (by repeat (first | exact Upd.h | apply Upd.t | apply Upd.app)) (by rfl) ?_)
        refine wl rfl (OP.ev rfl rfl (eAs rfl) ?_)
        refine wl rfl (OP.ev rfl rfl (eAs rfl) ?_)
        refine wl_nil ?_
        refine wc_ret ?_
        apply at_ret rfl
        · exact (.cons (.cell rfl (by repeat (first | exact Has.h | apply Has.t | apply Has.app)) ty33 rfl) (.cons (.tmp rfl) (.cons (.tmp rfl) .nil)))
        · exact ⟨by simp only [ask, hg]; (repeat (first | rw [if_pos (by omega)] | rw [if_neg (by omega)])); rfl, rfl⟩
        · exact (by repeat (first | exact Sel.all | exact Sel.none | (apply Sel.one; · repeat (first | exact Pick.h | apply Pick.t | apply Pick.app)) | apply Sel.app | (with_reducible apply Sel.grp; · repeat (first | exact PickF.h | apply PickF.t | apply PickF.a)) | (with_reducible refine Sel.nilF (by with_unfolding_all rfl) ?_) | apply Sel.drop | apply Sel.dropF)))
    | false =>
      try have c_t34 := df h34
      first
      | (exfalso; omega)
      | (
        refine wl_go rfl rfl (OP.ev rfl rfl (eMv rfl) ?_)
        refine wl_go rfl rfl (OP.evb rfl rfl (eLt rfl rfl) fun t37 h37 => ?_)
        refine wl rfl (OP.ev rfl rfl (ePk rfl rfl) ?_)
        refine wl rfl (OP.ev rfl rfl (eAs rfl) ?_)
        refine wl_nil ?_
        cases t37 with
        | true =>
          try have c_t37 := dt h37
          first
          | (exfalso; omega)
          | (
            refine wc_then rfl ?_
            refine wc_seq ?_
            refine wc_region ?_
            first | refine wl rfl (OP.ev rfl rfl (eLdW ty33 rfl rfl (by repeat (first | exact Has.h | apply Has.t | apply Has.app)) (by rfl)) ?_) | refine wl rfl (OP.ev rfl rfl (eLdA (vs := [_, _, _, _, _, _, _, _]) ty33 rfl rfl (by repeat (first | exact Has.h | apply Has.t | apply Has.app)) (by rfl) (by rfl)) ?_) | refine wl rfl (OP.ev rfl rfl (eLdAO ty33 rfl rfl (by assumption) (by assumption)) ?_)
            refine wl rfl (oStW ty33 rfl rfl rfl rfl (by repeat (first | exact Upd.h | apply Upd.t | apply Upd.app)) (by rfl) ?_)
            refine wl rfl (OP.ev rfl rfl (eAs rfl) ?_)
            refine wl rfl (OP.ev rfl rfl (eAs rfl) ?_)
            refine wl_nil ?_
            refine wc_ret ?_
            apply at_ret rfl
            · exact (.cons (.cell rfl (by repeat (first | exact Has.h | apply Has.t | apply Has.app)) ty33 rfl) (.cons (.tmp rfl) (.cons (.tmp rfl) .nil)))
            · exact ⟨by simp only [ask, hg]; (repeat (first | rw [if_pos (by omega)] | rw [if_neg (by omega)])); rfl, rfl⟩
            · exact (by repeat (first | exact Sel.all | exact Sel.none | (apply Sel.one; · repeat (first | exact Pick.h | apply Pick.t | apply Pick.app)) | apply Sel.app | (with_reducible apply Sel.grp; · repeat (first | exact PickF.h | apply PickF.t | apply PickF.a)) | (with_reducible refine Sel.nilF (by with_unfolding_all rfl) ?_) | apply Sel.drop | apply Sel.dropF)))
        | false =>
          try have c_t37 := df h37
          first
          | (exfalso; omega)
          | (
            refine wc_else rfl ?_
            refine wc_seq ?_
            refine wc_region ?_
            refine wl rfl (OP.ev rfl rfl (eMv rfl) ?_)
            refine wl rfl (OP.ev rfl rfl (eFld 1 ty35 rfl rfl ty3 rfl) ?_)
            first | refine wl rfl (OP.ev rfl rfl (eLd ty3 rfl rfl (by repeat (first | exact Has.h | apply Has.t | apply Has.app)) (by rfl)) ?_) | refine wl rfl (OP.ev rfl rfl (eLdO ty3 rfl rfl (by assumption)) ?_)
            refine wl rfl (OP.evb rfl rfl (eEq rfl rfl) fun t44 h44 => ?_)
            refine wl rfl (OP.ev rfl rfl (eAs rfl) ?_)
            refine wl_nil ?_
            cases t44 with
            | true =>
              try have c_t44 := dt h44
              first
              | (exfalso; omega)
              | (
                refine wc_then rfl ?_
                refine wc_seq ?_
                refine wc_region ?_
                refine wl rfl (OP.ev rfl rfl (eFld 3 ty35 rfl rfl ty33 rfl) ?_)
                first | refine wl rfl (OP.ev rfl rfl (eLdW ty33 rfl rfl (by repeat (first | exact Has.h | apply Has.t | apply Has.app)) (by rfl)) ?_) | refine wl rfl (OP.ev rfl rfl (eLdA (vs := [_, _, _, _, _, _, _, _]) ty33 rfl rfl (by repeat (first | exact Has.h | apply Has.t | apply Has.app)) (by rfl) (by rfl)) ?_) | refine wl rfl (OP.ev rfl rfl (eLdAO ty33 rfl rfl (by assumption) (by assumption)) ?_)
                refine wl rfl (oStW ty33 rfl rfl rfl rfl (by repeat (first | exact Upd.h | apply Upd.t | apply Upd.app)) (by rfl) ?_)
                refine wl rfl (OP.ev rfl rfl (eAs rfl) ?_)
                refine wl rfl (OP.ev rfl rfl (eAs rfl) ?_)
                refine wl_nil ?_
                refine wc_ret ?_
                apply at_ret rfl
                · exact (.cons (.cell rfl (by repeat (first | exact Has.h | apply Has.t | apply Has.app)) ty33 rfl) (.cons (.tmp rfl) (.cons (.tmp rfl) .nil)))
                · exact ⟨by simp only [ask, hg]; (repeat (first | rw [if_pos (by omega)] | rw [if_neg (by omega)])); rfl, rfl⟩
                · exact (by repeat (first | exact Sel.all | exact Sel.none | (apply Sel.one; · repeat (first | exact Pick.h | apply Pick.t | apply Pick.app)) | apply Sel.app | (with_reducible apply Sel.grp; · repeat (first | exact PickF.h | apply PickF.t | apply PickF.a)) | (with_reducible refine Sel.nilF (by with_unfolding_all rfl) ?_) | apply Sel.drop | apply Sel.dropF)))
            | false =>
              try have c_t44 := df h44
              first
              | (exfalso; omega)
              | (
                refine wc_else rfl ?_
                refine wc_seq ?_
                refine wc_region ?_
                refine wl rfl (OP.ev rfl rfl (eMv rfl) ?_)
                first | refine wl rfl (OP.ev rfl rfl (eSub rfl rfl (by omega)) ?_) | refine wl rfl (OP.ev rfl rfl (eSubW rfl rfl) ?_)
                refine wl rfl (OP.ev rfl rfl (eFld 1 ty35 rfl rfl ty3 rfl) ?_)
                first | refine wl rfl (OP.ev rfl rfl (eLd ty3 rfl rfl (by repeat (first | exact Has.h | apply Has.t | apply Has.app)) (by rfl)) ?_) | refine wl rfl (OP.ev rfl rfl (eLdO ty3 rfl rfl (by assumption)) ?_)
                refine wl rfl (OP.evb rfl rfl (eGt rfl rfl) fun t52 h52 => ?_)
                refine wl rfl (OP.ev rfl rfl (eAs rfl) ?_)
                refine wl_nil ?_
                cases t52 with
                | true =>
                  try have c_t52 := dt h52
                  first
                  | (exfalso; omega)
                  | (
                    refine wc_then rfl ?_
                    refine wc_seq ?_
                    refine wc_region ?_
                    first | refine wl rfl (OP.ev rfl rfl (eLdW ty33 rfl rfl (by repeat (first | exact Has.h | apply Has.t | apply Has.app)) (by rfl)) ?_) | refine wl rfl (OP.ev rfl rfl (eLdA (vs := [_, _, _, _, _, _, _, _]) ty33 rfl rfl (by repeat (first | exact Has.h | apply Has.t | apply Has.app)) (by rfl) (by rfl)) ?_) | refine wl rfl (OP.ev rfl rfl (eLdAO ty33 rfl rfl (by assumption) (by assumption)) ?_)
                    refine wl rfl (oStW ty33 rfl rfl rfl rfl (by repeat (first | exact Upd.h | apply Upd.t | apply Upd.app)) (by rfl) ?_)
                    refine wl rfl (OP.ev rfl rfl (eAs rfl) ?_)
                    refine wl rfl (OP.ev rfl rfl (eAs rfl) ?_)
                    refine wl_nil ?_
                    refine wc_ret ?_
                    apply at_ret rfl
                    · exact (.cons (.cell rfl (by repeat (first | exact Has.h | apply Has.t | apply Has.app)) ty33 rfl) (.cons (.tmp rfl) (.cons (.tmp rfl) .nil)))
                    · exact ⟨by simp only [ask, hg]; (repeat (first | rw [if_pos (by omega)] | rw [if_neg (by omega)])); rfl, rfl⟩
                    · exact (by repeat (first | exact Sel.all | exact Sel.none | (apply Sel.one; · repeat (first | exact Pick.h | apply Pick.t | apply Pick.app)) | apply Sel.app | (with_reducible apply Sel.grp; · repeat (first | exact PickF.h | apply PickF.t | apply PickF.a)) | (with_reducible refine Sel.nilF (by with_unfolding_all rfl) ?_) | apply Sel.drop | apply Sel.dropF)))
                | false =>
                  try have c_t52 := df h52
                  first
                  | (exfalso; omega)
                  | (
                    refine wc_else rfl ?_
                    refine wc_skip ?_
                    refine wc_seq ?_
                    refine wc_region ?_
                    first | refine wl rfl (OP.ev rfl rfl (eLdW ty33 rfl rfl (by repeat (first | exact Has.h | apply Has.t | apply Has.app)) (by rfl)) ?_) | refine wl rfl (OP.ev rfl rfl (eLdA (vs := [_, _, _, _, _, _, _, _]) ty33 rfl rfl (by repeat (first | exact Has.h | apply Has.t | apply Has.app)) (by rfl) (by rfl)) ?_) | refine wl rfl (OP.ev rfl rfl (eLdAO ty33 rfl rfl (by assumption) (by assumption)) ?_)
                    refine wl rfl (oStW ty33 rfl rfl rfl rfl (by repeat (first | exact Upd.h | apply Upd.t | apply Upd.app)) (by rfl) ?_)
                    refine wl rfl (OP.ev rfl rfl (eAs rfl) ?_)
                    refine wl rfl (OP.ev rfl rfl (eAs rfl) ?_)
                    refine wl_nil ?_
                    refine wc_ret ?_
                    apply at_ret rfl
                    · exact (.cons (.cell rfl (by repeat (first | exact Has.h | apply Has.t | apply Has.app)) ty33 rfl) (.cons (.tmp rfl) (.cons (.tmp rfl) .nil)))
                    · exact ⟨by simp only [ask, hg]; (repeat (first | rw [if_pos (by omega)] | rw [if_neg (by omega)])); rfl, rfl⟩
                    · exact (by repeat (first | exact Sel.all | exact Sel.none | (apply Sel.one; · repeat (first | exact Pick.h | apply Pick.t | apply Pick.app)) | apply Sel.app | (with_reducible apply Sel.grp; · repeat (first | exact PickF.h | apply PickF.t | apply PickF.a)) | (with_reducible refine Sel.nilF (by with_unfolding_all rfl) ?_) | apply Sel.drop | apply Sel.dropF))))))


def flat (l : List Seat) : List Value := l.flatMap fun s => (sC s).toList
theorem flat_len (l : List Seat) : (flat l).length = l.length * 11 := by
  induction l with
  | nil => rfl
  | cons s l ih => simp only [flat, List.flatMap_cons, List.length_append, List.length_cons] at ih ⊢; rw [ih]; simp [sC]; omega
theorem flat_snoc (l : List Seat) (s : Seat) : flat (l ++ [s]) = flat l ++ (sC s).toList := by simp [flat]

/-- the seats of a table, by rising numbers -/
def seatAt (m : SMap) (k : Int) : Seat := (mget k m).getD s0
def seatsOf (m : SMap) : List Seat := (mkeys m).map (seatAt m)

theorem mkeys_len {α : Type} (m : List (Int × α × Nat)) : (mkeys m).length = m.length := by simp [mkeys]

theorem seats_ok (t r : Nat) (m : SMap) (clk : Nat) (hm : MOk m clk) (R : Heap) :
    FnC W0 Try.prog 10 #[ptr t] (tC t r :: mC r m clk :: R) (fun v L' => ∃ cs, Row v cs 11 (seatsOf m).length (flat (seatsOf m)) ∧ L' = ownH v cs 35 ++ (tC t r :: mC r m clk :: R)) := by
  have hlen := hm.2.2.2.2
  have hkl := mkeys_len m
  have hsl : (seatsOf m).length = (mkeys m).length := by simp [seatsOf]
  refine fn_of Try.func10 rfl Try.ntmps10 rfl rfl ?_
  refine wc_seq ?_
  refine wc_region ?_
  refine wl rfl (OP.ev rfl rfl (eAs rfl) ?_)
  refine wl_nil ?_
  refine wc_seq ?_
  refine wc_seq ?_
  refine wc_region ?_
  refine wl rfl (OP.ev rfl rfl (eMv rfl) ?_)
  refine wl rfl (oC rfl pf28 rfl (made_ok t r _) (by repeat (first | exact Sel.all | exact Sel.none | (apply Sel.one; · repeat (first | exact Pick.h | apply Pick.t | apply Pick.app)) | apply Sel.app | (with_reducible apply Sel.grp; · repeat (first | exact PickF.h | apply PickF.t | apply PickF.a)) | (with_reducible refine Sel.nilF (by with_unfolding_all rfl) ?_) | apply Sel.drop | apply Sel.dropF)) ?_)
  rintro _ _ ⟨rfl, rfl⟩
  refine wl rfl (OP.ev rfl rfl (eNot rfl) ?_)
  refine wl_nil ?_
  refine wc_else rfl ?_
  refine wc_skip ?_
  refine wc_seq ?_
  refine wc_region ?_
  refine wl rfl (OP.ev rfl rfl (eAs rfl) ?_)
  refine wl_nil ?_
  refine wc_seq ?_
  refine wc_seq ?_
  refine wc_region ?_
  refine wl rfl (OP.ev rfl rfl (eMv rfl) ?_)
  refine wl rfl (OP.ev rfl rfl (eNil rfl) ?_)
  refine wl rfl (OP.ev rfl rfl (eFld 0 ty45 rfl rfl ty43 rfl) ?_)
  first | refine wl rfl (OP.ev rfl rfl (eLd ty43 rfl rfl (by repeat (first | exact Has.h | apply Has.t | apply Has.app)) (by rfl)) ?_) | refine wl rfl (OP.ev rfl rfl (eLdO ty43 rfl rfl (by assumption)) ?_)
  refine wl rfl (oC rfl pf29 rfl (rising_ok hm r _) (by repeat (first | exact Sel.all | exact Sel.none | (apply Sel.one; · repeat (first | exact Pick.h | apply Pick.t | apply Pick.app)) | apply Sel.app | (with_reducible apply Sel.grp; · repeat (first | exact PickF.h | apply PickF.t | apply PickF.a)) | (with_reducible refine Sel.nilF (by with_unfolding_all rfl) ?_) | apply Sel.drop | apply Sel.dropF)) ?_)
  rintro kv _ ⟨kcs, hkr, rfl⟩
  refine wl rfl (OP.ev rfl rfl (eLenRow ty67 rfl hkr) ?_)
  refine wl rfl (OP.ev rfl rfl (eMv rfl) ?_)
  refine wl_nil ?_
  refine wc_block ?_
  refine wc_loop3 (fun (i : Nat) v (cs : Array Value) => [(0, ptr t), (13, kv), (14, _), (15, .int .i64 (i : Int)), (3, v)]) (fun i v cs => ownH v cs 35 ++ (ownH kv kcs 3 ++ (tC t r :: mC r m clk :: R))) (fun i v cs => i ≤ (mkeys m).length ∧ Row v cs 11 i (flat ((seatsOf m).take i))) (fun i v cs => (mkeys m).length - i) 0 (.slice none 0 0) #[] ⟨Nat.zero_le _, Row.nil _ _⟩ ⟨rfl, rfl, rfl, rfl, rfl, trivial⟩ (by repeat (first | exact Sel.all | exact Sel.none | (apply Sel.one; · repeat (first | exact Pick.h | apply Pick.t | apply Pick.app)) | apply Sel.app | (with_reducible apply Sel.grp; · repeat (first | exact PickF.h | apply PickF.t | apply PickF.a)) | (with_reducible refine Sel.nilF (by with_unfolding_all rfl) ?_) | apply Sel.drop | apply Sel.dropF)) ?_
  rintro i v cs ⟨hi, hrow⟩
  refine wc_seq ?_
  refine wc_region ?_
  refine wl rfl (OP.evb rfl rfl (eLt rfl rfl) fun t16 h16 => ?_)
  refine wl_nil ?_
  refine wc_seq ?_
  cases t16 with
  | true =>
    try have c_t16 := dt h16
    first
    | (exfalso; omega)
    | (
      refine wc_then rfl ?_
      refine wc_skip ?_
      refine wc_seq ?_
      refine wc_block ?_
      refine wc_seq ?_
      obtain ⟨k, hk⟩ : ∃ k, (mkeys m)[i]? = some k := ⟨_, List.getElem?_eq_getElem (by omega)⟩
      have hts : flat ((seatsOf m).take (i + 1)) = flat ((seatsOf m).take i) ++ (sC (seatAt m k)).toList := by rw [List.take_add_one]; simp [seatsOf, hk, flat]
      rcases hkr.2 with ⟨_, h0⟩ | ⟨kb, kcap, rfl, hk1, hk2, hk3⟩
      · exfalso; omega
      refine wc_region ?_
      refine wl rfl (OP.ev rfl rfl (eIx ty67 ty3 rfl rfl (by omega) (by omega)) ?_)
      refine wl rfl (OP.ev rfl rfl (eLdR (off := 0) (cells := (mkeys m).map encZ) (v := .int .i64 k) ty3 rfl rfl (Rc.of_has (by repeat (first | exact Has.h | apply Has.t | apply Has.app)) (by simpa using hk3)) i (by simp) (by rw [List.getElem?_map, hk]; rfl)) ?_)
      refine wl rfl (OP.ev rfl rfl (eAs rfl) ?_)
      refine wl_nil ?_
      refine wc_region ?_
      refine wl rfl (OP.ev rfl rfl (eMv rfl) ?_)
      refine wl rfl (OP.ev rfl rfl (eMv rfl) ?_)
      refine wl rfl (OP.ev rfl rfl (eNil rfl) ?_)
      refine wl rfl (OP.ev rfl rfl (eFld 0 ty45 rfl rfl ty43 rfl) ?_)
      first | refine wl rfl (OP.ev rfl rfl (eLd ty43 rfl rfl (by repeat (first | exact Has.h | apply Has.t | apply Has.app)) (by rfl)) ?_) | refine wl rfl (OP.ev rfl rfl (eLdO ty43 rfl rfl (by assumption)) ?_)
      refine wl rfl (OP.ev rfl rfl (eMv rfl) ?_)
      refine wl rfl (OP.ev rfl rfl (eLk1 (v := sV (seatAt m k)) ty43 ty35 (intKOk ty3) rfl rfl (by repeat (first | exact Has.h | apply Has.t | apply Has.app)) (by unfold seatAt; cases mget k m <;> rfl)) ?_)
      refine wl rfl (oBSw (vs := [_]) rfl ty26 ty35 rfl rfl rfl rfl rfl rfl fun b26 => ?_)
      refine wl rfl (oApp (m := 1) (news := (sC (seatAt m k)).toList) rfl ty26 ty35 rfl rfl rfl hrow (by repeat (first | exact At.cell | exact At.h | apply At.t | apply At.a)) (Rs.mk (Rc.of_has (by repeat (first | exact Has.h | apply Has.t | apply Has.app)) rfl) rfl (Nat.le_refl _)) rfl (by omega) (by omega) ?_)
      rintro v' cs' hrow' _
      refine wl rfl (OP.ev rfl rfl (eAs rfl) ?_)
      refine wl_nil ?_
      refine wc_region ?_
      first | refine wl rfl (OP.ev rfl rfl (eAdd rfl rfl (by omega)) ?_) | refine wl rfl (OP.ev rfl rfl (eAddW rfl rfl) ?_)
      refine wl rfl (OP.ev rfl rfl (eMv rfl) ?_)
      refine wl_nil ?_
      exact ⟨i + 1, v', cs', ⟨by show i + 1 ≤ _; omega, by rw [hts]; exact hrow'⟩, by show _ - (i + 1) < _ - i; omega, ⟨rfl, rfl, rfl, rfl, rfl, trivial⟩, (by repeat (first | exact Sel.all | exact Sel.none | (apply Sel.one; · repeat (first | exact Pick.h | apply Pick.t | apply Pick.app)) | apply Sel.app | (with_reducible apply Sel.grp; · repeat (first | exact PickF.h | apply PickF.t | apply PickF.a)) | (with_reducible refine Sel.nilF (by with_unfolding_all rfl) ?_) | apply Sel.drop | apply Sel.dropF))⟩)
  | false =>
    try have c_t16 := df h16
    first
    | (exfalso; omega)
    | (
      refine wc_else rfl ?_
      refine wc_exit rfl ?_
      refine wc_seq ?_
      refine wc_region ?_
      refine wl rfl (OP.ev rfl rfl (eMv rfl) ?_)
      refine wl rfl (OP.ev rfl rfl (eAs rfl) ?_)
      refine wl_nil ?_
      refine wc_ret ?_
      apply at_ret rfl
      · exact (.cons (.tmp rfl) .nil)
      · have e : i = (seatsOf m).length := by omega
        rw [e, List.take_length] at hrow
        exact ⟨cs, hrow, rfl⟩
      · exact (by repeat (first | exact Sel.all | exact Sel.none | (apply Sel.one; · repeat (first | exact Pick.h | apply Pick.t | apply Pick.app)) | apply Sel.app | (with_reducible apply Sel.grp; · repeat (first | exact PickF.h | apply PickF.t | apply PickF.a)) | (with_reducible refine Sel.nilF (by with_unfolding_all rfl) ?_) | apply Sel.drop | apply Sel.dropF)))
end Go.Proofs.Ytbppeijcfkdhjaa
