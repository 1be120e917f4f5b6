/- The disk, plain: what each call answers and leaves. No statement of the seat is proved here. -/
import Derived.Test.YtahjgjmemijofaaFs
namespace Go.Proofs.Ytahjgjmemijofaa
set_option linter.unusedVariables false
set_option linter.unusedSimpArgs false

def okC (c : UInt8) : Bool := (decide (97 ≤ c.toNat) && decide (c.toNat ≤ 122)) || (decide (48 ≤ c.toNat) && decide (c.toNat ≤ 57)) || decide (c.toNat = 46)
def may (k : Nm) : Bool := decide (1 ≤ k.length) && decide (k.length ≤ 32) && k.all okC
theorem may_len {k : Nm} (h : may k = true) : k.length ≤ 32 := by
  unfold may at h
  simp only [Bool.and_eq_true, decide_eq_true_eq] at h
  exact h.1.2

structure DK where
  off : Bool
  left : Int
  keep : Int
  tear : Int
  room : Int
  seen : Files
  last : Files
  acts : List Act

def DK.new (room : Int) : DK := ⟨false, 0, 0, 0, room, [], [], []⟩
def DK.ready (d : DK) : Int := if d.off then 22 else 0
def DK.find (d : DK) (k : Nm) : Int := if d.off then 22 else if may k = false then 20 else if (fget d.seen k).isNone then 21 else 0
def DK.used (d : DK) : Int := if d.off then 0 else ((total d.last + costs d.acts : Nat) : Int)
def DK.pend (d : DK) : Int := if d.off then 0 else (d.acts.length : Int)
def DK.names (d : DK) : List Nm := if d.off then [] else d.seen.map (·.1)
def DK.read (d : DK) (k : Nm) : List Int × Int := if d.find k = 0 then (fgetD d.seen k, 0) else ([], d.find k)

/-- how many of so many are taken -/
def clamp (x : Int) (n : Nat) : Nat := (max 0 (min x n)).toNat
def torn (a : Act) (tear : Int) : Act := { a with B := a.B.take (a.B.length - clamp tear a.B.length) }
/-- files behind the first acts, the last of which is torn -/
def fallF (l : Files) (as : List Act) (n : Nat) (tear : Int) : Files :=
  match as[n - 1]? with
  | some a => if n = 0 then l else fdo ((as.take (n - 1)).foldl fdo l) (torn a tear)
  | none => l
def DK.fell (d : DK) (keep tear : Int) : Files := fallF d.last d.acts (clamp keep d.acts.length) tear
def DK.fall (d : DK) (keep tear : Int) : DK := { off := true, left := 0, keep := 0, tear := 0, room := d.room, seen := d.fell keep tear, last := d.fell keep tear, acts := [] }

def DK.hit (d : DK) : Bool := decide (d.left = 1)
def DK.less (d : DK) : DK := { d with left := if d.left = 0 then 0 else d.left - 1 }
def DK.add (d : DK) (a : Act) : DK := { d with seen := fdo d.seen a, acts := d.acts ++ [a] }
def DK.act (d : DK) (a : Act) : Int × DK :=
  if d.left = 1 then (22, ((d.add a).less).fall d.keep d.tear) else (0, (d.add a).less)
def DK.writeA (d : DK) (k : Nm) (n : Int) (b : List Int) : Int × DK :=
  if (b.length : Int) > d.room - d.used then (7, d) else d.act ⟨0, k, [], n, b⟩
def DK.write (d : DK) (k : Nm) (n : Int) (b : List Int) : Int × DK :=
  if d.find k = 21 ∧ n = 0 then (if 4096 ≤ d.seen.length then (7, d) else d.writeA k n b)
  else if d.find k ≠ 0 then (d.find k, d)
  else if n < 0 ∨ n > ((fgetD d.seen k).length : Int) then (1, d)
  else d.writeA k n b
def DK.trim (d : DK) (k : Nm) (n : Int) : Int × DK :=
  if d.find k ≠ 0 then (d.find k, d)
  else if n < 0 ∨ n > ((fgetD d.seen k).length : Int) then (1, d)
  else d.act ⟨1, k, [], n, []⟩
def DK.move (d : DK) (k j : Nm) : Int × DK :=
  if d.find k ≠ 0 then (d.find k, d)
  else if may j = false then (20, d)
  else d.act ⟨2, k, j, 0, []⟩
def DK.drop (d : DK) (k : Nm) : Int × DK :=
  if d.find k ≠ 0 then (d.find k, d) else d.act ⟨3, k, [], 0, []⟩
def DK.sync (d : DK) : Int × DK :=
  if d.off then (22, d)
  else if d.left = 1 then (22, (d.less).fall d.keep d.tear)
  else (0, { d.less with last := d.seen, acts := [] })
def DK.arm (d : DK) (n keep tear : Int) : Int × DK :=
  if d.off then (22, d) else (0, { d with left := max n 0, keep := keep, tear := tear })
def DK.crash (d : DK) (keep tear : Int) : Int × DK :=
  if d.off then (22, d) else (0, d.fall keep tear)
def DK.start (d : DK) : Int × DK := (0, { d with off := false })

/-- numbers of 64 bits -/
def I64 (x : Int) : Prop := -9223372036854775808 ≤ x ∧ x < 9223372036854775808

structure DOk (d : DK) : Prop where
  rl : Rising d.last
  runs : Runs d.last d.acts d.seen
  num : d.last.length ≤ 4096
  left : 0 ≤ d.left ∧ d.left < 9223372036854775808
  room : 0 ≤ d.room ∧ d.room ≤ 16777216
  use : ((total d.last + costs d.acts : Nat) : Int) ≤ d.room
  off : d.off = true → d.acts = [] ∧ d.left = 0
  keep : I64 d.keep ∧ I64 d.tear
  nms : ∀ a ∈ d.acts, a.name.length ≤ 32 ∧ a.to_.length ≤ 32

theorem DOk.rs {d : DK} (h : DOk d) : Rising d.seen := h.runs.rising h.rl
theorem DOk.snum {d : DK} (h : DOk d) : d.seen.length ≤ 4096 := h.runs.num h.num
theorem DOk.sbytes {d : DK} (h : DOk d) : total d.seen ≤ 16777216 := by
  have h1 := h.runs.total h.rl
  have h2 := h.use
  have h3 := h.room
  omega
theorem DOk.lbytes {d : DK} (h : DOk d) : total d.last ≤ 16777216 := by
  have h2 := h.use
  have h3 := h.room
  omega
theorem DOk.get_len {d : DK} (h : DOk d) (k : Nm) : (fgetD d.seen k).length ≤ 16777216 := by
  have h1 := h.sbytes
  have h2 := fgetD_le h.rs k
  omega
theorem costs_mem {as : List Act} {a : Act} (h : a ∈ as) : a.B.length ≤ costs as := by
  induction as with
  | nil => simp at h
  | cons x r ih =>
    simp only [costs, List.map_cons, List.sum_cons] at ih ⊢
    rcases List.mem_cons.1 h with rfl | h
    · omega
    · have := ih h; omega
theorem DOk.act_len {d : DK} (h : DOk d) {a : Act} (ha : a ∈ d.acts) : a.B.length ≤ 16777216 := by
  have h1 := costs_mem ha
  have h2 := h.use
  have h3 := h.room
  omega
theorem DOk.new {room : Int} (h0 : 0 ≤ room) (h1 : room ≤ 16777216) : DOk (DK.new room) :=
  ⟨by simp [Rising, DK.new], .nil, by simp [DK.new], by simp [DK.new], ⟨h0, h1⟩, by simpa [DK.new, total, costs] using h0, by simp [DK.new], by simp [DK.new, I64], by simp [DK.new]⟩

theorem clamp_le (x : Int) (n : Nat) : clamp x n ≤ n := by unfold clamp; omega
theorem fdo_torn_len (l : Files) (hl : Rising l) (a : Act) (t : Int) : (fdo l (torn a t)).length = (fdo l a).length := by
  unfold fdo torn
  simp only
  split
  · rw [len_with, len_with]
  · rfl
theorem CanDo.torn {l : Files} (hl : Rising l) {a : Act} (h : CanDo l a) (t : Int) : CanDo l (torn a t) :=
  ⟨h.kind, h.wr, h.tr, h.mv, h.dr, fun hk => by show (a.B.take _) = []; rw [h.nil hk]; simp, by rw [fdo_torn_len l hl]; exact h.num⟩
theorem Runs.at {l : Files} {as : List Act} {l' : Files} (h : Runs l as l') : ∀ {i : Nat} {a : Act}, as[i]? = some a → CanDo ((as.take i).foldl fdo l) a := by
  induction h with
  | nil => intro i a hi; simp at hi
  | @cons l x as l' h1 h2 ih =>
    intro i a hi
    cases i with
    | zero => simp at hi; subst hi; exact h1
    | succ i => exact ih (by simpa using hi)
theorem fallF_zero (l : Files) (as : List Act) (t : Int) : fallF l as 0 t = l := by
  unfold fallF; split <;> simp
theorem fallF_at {l : Files} {as : List Act} {i : Nat} {a : Act} (h : as[i]? = some a) (t : Int) : fallF l as (i + 1) t = fdo ((as.take i).foldl fdo l) (torn a t) := by
  unfold fallF
  simp [h]
theorem fallF_rising {l : Files} (hl : Rising l) {as : List Act} {l' : Files} (h : Runs l as l') (n : Nat) (t : Int) : Rising (fallF l as n t) := by
  unfold fallF
  split
  · split
    · exact hl
    · exact ((h.take _).rising hl).fdo _
  · exact hl
theorem fallF_num {l : Files} (hl : Rising l) (h4 : l.length ≤ 4096) {as : List Act} {l' : Files} (h : Runs l as l') (n : Nat) (t : Int) : (fallF l as n t).length ≤ 4096 := by
  unfold fallF
  split
  · rename_i a ha
    split
    · exact h4
    · exact ((h.at ha).torn ((h.take _).rising hl) t).num
  · exact h4
theorem costs_take (as : List Act) (n : Nat) : costs (as.take n) ≤ costs as := by
  induction as generalizing n with
  | nil => simp
  | cons a as ih =>
    cases n with
    | zero => simp [costs]
    | succ n =>
      have := ih n
      simp only [costs, List.take_succ_cons, List.map_cons, List.sum_cons] at this ⊢
      omega
theorem fallF_total {l : Files} (hl : Rising l) {as : List Act} {l' : Files} (h : Runs l as l') (n : Nat) (t : Int) : total (fallF l as n t) ≤ total l + costs as := by
  unfold fallF
  split
  · rename_i a ha
    split
    · omega
    · rename_i hn
      have hr := (h.take (n - 1)).rising hl
      have h1 := (h.take (n - 1)).total hl
      have h2 := total_do hr ((h.at ha).torn hr t)
      have h3 : (torn a t).B.length ≤ a.B.length := by show (a.B.take _).length ≤ _; rw [List.length_take]; omega
      have h4 : costs (as.take (n - 1)) + a.B.length ≤ costs as := by
        have h5 : as.take (n - 1) ++ [a] = as.take n := by
          have := List.take_add_one (l := as) (i := n - 1)
          rw [ha] at this
          rw [show n = n - 1 + 1 by omega, this]; rfl
        rw [← costs_snoc, h5]; exact costs_take as n
      omega
  · omega

theorem DOk.fall {d : DK} (h : DOk d) (keep tear : Int) : DOk (d.fall keep tear) := by
  have h1 := fallF_total h.rl h.runs (clamp keep d.acts.length) tear
  have h2 := h.use
  exact ⟨fallF_rising h.rl h.runs _ _, .nil, fallF_num h.rl h.num h.runs _ _, ⟨Int.le_refl _, by show (0 : Int) < _; decide⟩, h.room, by
    show ((total (d.fell keep tear) + costs [] : Nat) : Int) ≤ d.room
    unfold DK.fell
    simp only [costs, List.map_nil, List.sum_nil]
    omega, fun _ => ⟨rfl, rfl⟩, by show I64 0 ∧ I64 0; simp [I64], by simp [DK.fall]⟩
theorem DOk.less {d : DK} (h : DOk d) : DOk d.less := by
  have := h.left
  refine ⟨h.rl, h.runs, h.num, ?_, h.room, h.use, fun ho => ⟨(h.off ho).1, ?_⟩, h.keep, h.nms⟩
  · show 0 ≤ (if d.left = 0 then 0 else d.left - 1) ∧ _
    split <;> constructor <;> first | omega | (show (if d.left = 0 then 0 else d.left - 1) < _; split <;> omega)
  · show (if d.left = 0 then 0 else d.left - 1) = 0
    rw [(h.off ho).2]; simp
theorem DOk.add {d : DK} (h : DOk d) (ho : d.off = false) {a : Act} (hc : CanDo d.seen a) (hu : ((total d.last + costs d.acts + a.B.length : Nat) : Int) ≤ d.room) (hn : a.name.length ≤ 32 ∧ a.to_.length ≤ 32) : DOk (d.add a) := by
  refine ⟨h.rl, h.runs.snoc hc, h.num, h.left, h.room, ?_, fun h2 => ?_, h.keep, fun x hx => ?_⟩
  · show ((total d.last + costs (d.acts ++ [a]) : Nat) : Int) ≤ d.room
    rw [costs_snoc]; omega
  · have : d.off = true := h2
    rw [ho] at this; cases this
  · rcases List.mem_append.1 hx with hx | hx
    · exact h.nms x hx
    · simp at hx; subst hx; exact hn
theorem DOk.act {d : DK} (h : DOk d) (ho : d.off = false) {a : Act} (hc : CanDo d.seen a) (hu : ((total d.last + costs d.acts + a.B.length : Nat) : Int) ≤ d.room) (hn : a.name.length ≤ 32 ∧ a.to_.length ≤ 32) : DOk (d.act a).2 := by
  unfold DK.act
  split
  · exact (h.add ho hc hu hn).less.fall _ _
  · exact (h.add ho hc hu hn).less

theorem find_zero {d : DK} {k : Nm} (h : d.find k = 0) : d.off = false ∧ may k = true ∧ ∃ b, fget d.seen k = some b := by
  unfold DK.find at h
  split at h
  · cases h
  · rename_i h1
    split at h
    · cases h
    · rename_i h2
      split at h
      · cases h
      · rename_i h3
        refine ⟨by simpa using h1, by simpa using h2, ?_⟩
        cases hg : fget d.seen k with
        | none => rw [hg] at h3; simp at h3
        | some b => exact ⟨b, rfl⟩
theorem find_21 {d : DK} {k : Nm} (h : d.find k = 21) : d.off = false ∧ may k = true ∧ fget d.seen k = none := by
  unfold DK.find at h
  split at h
  · cases h
  · rename_i h1
    split at h
    · cases h
    · rename_i h2
      split at h
      · rename_i h3
        exact ⟨by simpa using h1, by simpa using h2, by simpa using h3⟩
      · cases h

theorem can_write {d : DK} (h : DOk d) {k : Nm} {n : Int} {b : List Int} (hf : (d.find k = 21 ∧ n = 0 ∧ d.seen.length < 4096) ∨ (d.find k = 0 ∧ 0 ≤ n ∧ n ≤ (fgetD d.seen k).length)) : CanDo d.seen ⟨0, k, [], n, b⟩ := by
  refine ⟨⟨by simp, by simp⟩, fun _ => ?_, by simp, by simp, by simp, by simp, ?_⟩
  · rcases hf with ⟨h1, rfl, _⟩ | ⟨_, h1⟩
    · simp
    · exact h1
  · show (fwith d.seen k _).length ≤ _
    rw [len_with]
    rcases hf with ⟨h1, _, h3⟩ | ⟨h1, _⟩
    · have := len_less_le d.seen k; omega
    · obtain ⟨_, _, b, hb⟩ := find_zero h1
      have h2 := len_less h.rs hb
      have h3 := h.snum
      omega
theorem can_trim {d : DK} (h : DOk d) {k : Nm} {n : Int} (hf : d.find k = 0) (h0 : 0 ≤ n) (h1 : n ≤ (fgetD d.seen k).length) : CanDo d.seen ⟨1, k, [], n, []⟩ := by
  obtain ⟨_, _, b, hb⟩ := find_zero hf
  refine ⟨⟨by simp, by simp⟩, by simp, fun _ => ⟨h0, h1, by simp [hb]⟩, by simp, by simp, by simp, ?_⟩
  show (fwith d.seen k _).length ≤ _
  rw [len_with]
  have h2 := len_less h.rs hb
  have h3 := h.snum
  omega
theorem can_move {d : DK} (h : DOk d) {k j : Nm} (hf : d.find k = 0) : CanDo d.seen ⟨2, k, j, 0, []⟩ := by
  obtain ⟨_, _, b, hb⟩ := find_zero hf
  refine ⟨⟨by simp, by simp⟩, by simp, by simp, fun _ => by simp [hb], by simp, by simp, ?_⟩
  show (fwith (fless d.seen k) j _).length ≤ _
  rw [len_with]
  have h2 := len_less h.rs hb
  have h3 := h.snum
  have h4 := len_less_le (fless d.seen k) j
  omega
theorem can_drop {d : DK} (h : DOk d) {k : Nm} (hf : d.find k = 0) : CanDo d.seen ⟨3, k, [], 0, []⟩ := by
  obtain ⟨_, _, b, hb⟩ := find_zero hf
  refine ⟨⟨by simp, by simp⟩, by simp, by simp, by simp, fun _ => by simp [hb], by simp, ?_⟩
  show (fless d.seen k).length ≤ _
  have h3 := h.snum
  have h4 := len_less_le d.seen k
  omega
end Go.Proofs.Ytahjgjmemijofaa
