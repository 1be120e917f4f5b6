/- The contract of session.Load: what is loaded is the table whose image the bytes are. -/
import Derived.Test.YtbppeijcfkdhjaaLoad
namespace Go.Proofs.Ytbppeijcfkdhjaa
open Go Eng
set_option linter.unusedVariables false
set_option maxRecDepth 4000
variable {W0 : World}

theorem insK_end {a : Int} : ∀ {ks : List Int}, (∀ k ∈ ks, ¬ a < k) → insK a ks = ks ++ [a] := by
  intro ks
  induction ks with
  | nil => intro _; rfl
  | cons k r ih =>
    intro h
    simp only [insK, List.cons_append]
    rw [if_neg (h k List.mem_cons_self), ih (fun x hx => h x (List.mem_cons_of_mem _ hx))]

theorem seats_snoc {m : SMap} {clk : Nat} (a : Int) (s : Seat) (h : ∀ e ∈ m, e.1 < a) : seatsOf (mset a s clk m) = seatsOf m ++ [s] := by
  have hno : mget a m = none := by
    rw [mget_none]
    intro h2
    obtain ⟨e, he, h3⟩ := List.mem_map.1 h2
    have := h e he
    omega
  have hk : mkeys (mset a s clk m) = mkeys m ++ [a] := by
    have hk0 : mkeys (mset a s clk m) = insK a (mkeys m) := by
      refine mkeys_unique ?_ (insK_sorted a (mkeys_sorted m))
      rw [mset_keys, hno]
      simp only [Option.isSome_none, Bool.false_eq_true, if_false]
      refine (insK_perm a _).trans (((mkeys_perm m).cons a).trans ?_)
      exact List.perm_append_comm (l₁ := [a])
    rw [hk0, insK_end]
    intro k hk
    obtain ⟨e, he, rfl⟩ := mkeys_mem.1 hk
    have := h e he
    omega
  unfold seatsOf
  rw [hk, List.map_append]
  congr 1
  · refine List.map_congr_left fun k hk2 => ?_
    obtain ⟨e, he, rfl⟩ := mkeys_mem.1 hk2
    have := h e he
    unfold seatAt; rw [mget_mset, if_neg (by omega)]
  · simp [seatAt, mget_mset]

/-- the number of the last seat -/
def lastS (L : List Seat) : Int := (L.getLast?.map (·.session)).getD 0
theorem lastS_snoc (L : List Seat) (s : Seat) : lastS (L ++ [s]) = s.session := by simp [lastS]

/-- what has been loaded when some seats were read -/
structure LdI (B : List Int) (n : Int) (Ls : List Seat) (k : Nat) (m : SMap) (clk : Nat) : Prop where
  len : Ls.length ≤ k
  pre : B.take k = dg n.toNat ++ numB (Ls.flatMap numsOf)
  ok : ∀ s ∈ Ls, SeatOk s.session s
  up : Ls.Pairwise (fun a b => a.session < b.session)
  low : ∀ s ∈ Ls, s.session ≤ lastS Ls
  seats : seatsOf m = Ls
  mok : MOk m clk
  mem : ∀ e ∈ m, SeatOk e.1 e.2.1
  one : ∀ L, Valid L → img L = B → n = L.length ∧ Ls = L.take Ls.length ∧ B.drop k = numB ((L.drop Ls.length).flatMap numsOf)

theorem small_nums {s : Seat} (h : SeatOk s.session s) : ∀ x ∈ numsOf s, 0 ≤ x ∧ x < 9223372036854775808 := by
  intro x hx
  refine ⟨?_, small_of h x hx⟩
  obtain ⟨h1, h2, h3, h4, h5, h6, h7, h8, _⟩ := h
  unfold checkR at h8
  split at h8
  · rename_i hall
    have h9 := List.all_eq_true.1 hall
    simp only [numsOf, List.mem_cons, List.not_mem_nil, or_false] at hx
    have key : ∀ y ∈ numsOf ⟨0, 0, 0, s.reply⟩, 0 ≤ y := fun y hy => (of_decide_eq_true (h9 y hy)).1
    have k1 := key s.reply.err (by simp [numsOf])
    have k2 := key s.reply.session (by simp [numsOf])
    have k3 := key s.reply.gone (by simp [numsOf])
    have k4 := key s.reply.added (by simp [numsOf])
    have k5 := key s.reply.same (by simp [numsOf])
    have k6 := key s.reply.other (by simp [numsOf])
    have k7 := key s.reply.cycle (by simp [numsOf])
    have k8 := key s.reply.full (by simp [numsOf])
    rcases hx with rfl | rfl | rfl | rfl | rfl | rfl | rfl | rfl | rfl | rfl | rfl <;> omega
  · cases h8

theorem LdI.start {B : List Int} (hB : IsB B) {n : Int} {k : Nat} (h : numK B 0 0 = (n, k, 0)) : LdI B n [] k [] 0 := by
  obtain ⟨g1, g2, g3, g4, g5, g6⟩ := numK_zero hB (Nat.zero_le _) h
  refine ⟨Nat.zero_le _, by rw [g2]; simp [numB], by simp, List.Pairwise.nil, by simp, by simp [seatsOf, mkeys], MOk.nil 0, by simp, fun L hL hi => ?_⟩
  have hd : B.drop 0 = dg ((L.length : Int)).toNat ++ numB (L.flatMap numsOf) := by rw [List.drop_zero, ← hi]; rfl
  have h8 := hL.1
  have h2 := numK_dg hd (by omega) (by omega)
  rw [h] at h2
  simp only [Prod.mk.injEq, and_true] at h2
  obtain ⟨rfl, rfl⟩ := h2
  exact ⟨rfl, by simp, drop_of hd⟩

theorem start_bad {B : List Int} {n : Int} {k : Nat} {e : Int} (h : numK B 0 0 = (n, k, e)) (he : e ≠ 0) : n = 0 ∧ ∀ L, Valid L → img L ≠ B := by
  refine ⟨?_, fun L hL hi => ?_⟩
  · unfold numK at h
    split at h
    · simp only [Prod.mk.injEq] at h; exact h.1.symm
    · split at h
      · simp only [Prod.mk.injEq] at h; exact absurd h.2.2.symm he
      · simp only [Prod.mk.injEq] at h; exact h.1.symm
  · have hd : B.drop 0 = dg ((L.length : Int)).toNat ++ numB (L.flatMap numsOf) := by rw [List.drop_zero, ← hi]; rfl
    have h8 := hL.1
    have h2 := numK_dg hd (by omega) (by omega)
    rw [h] at h2
    simp only [Prod.mk.injEq] at h2
    exact he h2.2.2

theorem LdI.step {B : List Int} (hB : IsB B) {n : Int} {Ls : List Seat} {k k' : Nat} {m : SMap} {clk : Nat} {xs : List Int} (h : LdI B n Ls k m clk) (hk : k ≤ B.length) (hl : B.length ≤ 1048576) (hr : rdK B k 0 11 = (xs, k', 0)) (hx : xs.length = 11)
    (h1 : lastS Ls < (ofN xs).session) (h2 : 1 ≤ (ofN xs).session ∧ (ofN xs).session ≤ 1099511627776) (h3 : 1 ≤ (ofN xs).at_ ∧ (ofN xs).at_ ≤ 1099511627776) (h4 : (ofN xs).seq ≤ 1099511627776) (h5 : checkR (ofN xs).reply = 0) :
    LdI B n (Ls ++ [ofN xs]) k' (mset (ofN xs).session (ofN xs) clk m) (mclk (ofN xs).session clk m) := by
  obtain ⟨_, g2, g3, g4, g5⟩ := rdK_zero hB hk hr
  obtain ⟨_, hn⟩ := ofN_cells hx
  have hseq : 0 ≤ (ofN xs).seq := by
    have hmem : (ofN xs).seq ∈ numsOf (ofN xs) := by simp [numsOf]
    rw [hn] at hmem
    exact (g5 _ hmem).1
  have hok : SeatOk (ofN xs).session (ofN xs) := ⟨rfl, h2.1, h2.2, hseq, h4, h3.1, h3.2, h5, trivial⟩
  have hlow : ∀ e ∈ m, e.1 < (ofN xs).session := fun e he => by
    have h6 : seatAt m e.1 ∈ seatsOf m := List.mem_map.2 ⟨e.1, mkeys_mem.2 ⟨e, he, rfl⟩, rfl⟩
    rw [seatAt_mem h.mok he, h.seats] at h6
    have h7 := h.low _ h6
    have h8 := (h.mem e he).1
    omega
  have hml : m.length = Ls.length := by rw [← h.seats, seats_len]
  have hlen := h.len
  refine ⟨by simp; omega, ?_, ?_, ?_, ?_, ?_, ?_, ?_, fun L hL hi => ?_⟩
  · rw [g2, h.pre, List.flatMap_append, numB_app, List.append_assoc]
    simp [hn]
  · intro s hs
    rcases List.mem_append.1 hs with hs | hs
    · exact h.ok s hs
    · simp at hs; rw [hs]; exact hok
  · rw [List.pairwise_append]
    refine ⟨h.up, by simp, fun a ha b hb => ?_⟩
    simp at hb; subst hb
    have := h.low a ha
    omega
  · intro s hs
    rw [lastS_snoc]
    rcases List.mem_append.1 hs with hs | hs
    · have := h.low s hs; omega
    · simp at hs; rw [hs]; exact Int.le_refl _
  · rw [seats_snoc _ _ hlow, h.seats]
  · exact h.mok.set _ _ (by omega) (by omega)
  · intro e he
    rcases mset_mem he with he | ⟨he1, he2⟩
    · exact h.mem e he
    · rw [he1, he2]; exact hok
  · obtain ⟨f1, f2, f3⟩ := h.one L hL hi
    have hlt : Ls.length < L.length := by
      rcases Nat.lt_or_ge Ls.length L.length with h6 | h6
      · exact h6
      · rw [List.drop_of_length_le h6] at f3
        simp [numB] at f3
        have := congrArg List.length f2
        rw [List.length_take] at this
        omega
    have hs : L.drop Ls.length = L[Ls.length]'hlt :: L.drop (Ls.length + 1) := List.drop_eq_getElem_cons hlt
    have hsok := small_nums (hL.2.1 _ (List.getElem_mem hlt))
    rw [hs, List.flatMap_cons, numB_app] at f3
    have h7 := rdK_img hsok f3
    rw [show (numsOf (L[Ls.length]'hlt)).length = 11 from rfl, hr] at h7
    simp only [Prod.mk.injEq, and_true] at h7
    obtain ⟨rfl, rfl⟩ := h7
    have hof : ofN (numsOf (L[Ls.length]'hlt)) = L[Ls.length]'hlt := rfl
    refine ⟨f1, ?_, ?_⟩
    · rw [List.length_append, List.length_singleton, List.take_add_one, ← f2, List.getElem?_eq_getElem hlt]
      simp [hof]
    · rw [List.length_append, List.length_singleton]
      exact drop_of f3
end Go.Proofs.Ytbppeijcfkdhjaa
