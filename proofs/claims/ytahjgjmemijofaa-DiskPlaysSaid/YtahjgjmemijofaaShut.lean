/- From a function's contract over its start to a row's post: rows of numbers opened into lists, and the row's post where nothing old has turned. No statement of the seat is proved here. -/
import Derived.Test.YtahjgjmemijofaaMem
import Derived.ProofKit
import Derived.Deep.Slices
import Derived.Carry
import Derived.Below
namespace Go.Proofs.Ytahjgjmemijofaa.Eng
open Go Go.ChangeShapes Go.WideShapes Go.ChangeAt Go.RowKit
set_option linter.unusedVariables false
set_option linter.unusedSimpArgs false

theorem Sep.start (W : World) : Sep W W [] := ⟨rfl, rfl, rfl, Nat.le_refl _, fun _ _ => rfl, fun p hp => by simp at hp, by simp⟩
theorem Sep.toBelow {W w : World} {L : Heap} (h : Sep W w L) : Below W.heap.size W w := ⟨h.os, h.tape, h.output, h.size, h.old⟩

section
variable {H : Type} {enc : TypeId × Value → H} {P : Program}

/-- the row's post, where the call lets everything old be as it was and hands back one value -/
theorem post_old {f : Func} {s : ChangeSpec} {apart fresh handsOn again : Bool} {W W' : World} {args : Array Value} {v : Value} {ds gs : List (DataW H)} {before pa pv : List MemPlace}
    (hW : DataW.Whole enc P f.params.toList s.vars apart W args.toList ds gs before) (hb : Below W.heap.size W W')
    (hres : ∀ (b : Nat) (sp : Nat → Bool) (hd : Bool), DataW.TrodAll enc P W' b sp hd f.resultTypes.toList (v.resultList f.resultTypes.size) (s.fn H (ds ++ gs)).results [])
    (hargs : ∀ sp : Nat → Bool, (∀ p ∈ before, sp p.block = true) → DataW.TrodAll enc P W' 0 sp true f.params.toList args.toList (s.fn H (ds ++ gs)).args pa)
    (hvars : ∀ sp : Nat → Bool, (∀ p ∈ before, sp p.block = true) → DataW.TrodVars enc P W' sp s.vars (s.fn H (ds ++ gs)).vars pv)
    (hps : before = pa ++ pv)
    (hok : ∀ (j : Nat) (t : TypeId) (r : Value), f.resultTypes[j]? = some t → (v.resultList f.resultTypes.size)[j]? = some r → Value.okWide P W' .any 0 t r) :
    s.post enc P f apart fresh handsOn again W args v W' := by
  have hlt := hW.lt
  have hold : ∀ p ∈ before, (fun b => decide (b < W.heap.size)) p.block = true := fun p hp => by simpa using hlt p hp
  have hargs1 := hargs (fun _ => true) (fun _ _ => rfl)
  have hvars1 := hvars (fun _ => true) (fun _ _ => rfl)
  refine ⟨ds, gs, before, [], pa, pv, hW, hres _ _ _, hargs _ hold, hvars _ hold, World.keptBut_mono (may := fun p => p ∈ before) (fun p hp => ⟨hp, by rw [hps] at hp; simpa using hp⟩) (hb.frame _), fun _ => ?_⟩
  obtain ⟨_, _, _, _, _, hz, hn⟩ := hW
  have hpa : ([] : List MemPlace) ++ pa = pa := rfl
  refine ⟨hok, _, _, ([] ++ pa) ++ pv, ⟨[] ++ pa, pv, trodAll_append hargs1 (hres _ _ _), hvars1, rfl, fun b off hp => ?_, fun ha => ?_⟩, fun p hp _ => by simpa [hps] using hp⟩
  · have hm : (MemPlace.cell b off) ∈ before := by rw [hps]; exact hp
    rw [hb.frozen (p := ⟨b, off, none⟩) (hlt _ hm)]
    exact hz b off hm
  · have := hn ha
    rwa [hps] at this

/-- the kinds of the numbers that a value of a type is made of, where it is made of nothing else -/
def ileaf (P : Program) : Nat → TypeId → Option (List IntKind)
  | 0, _ => none
  | n + 1, t => match P.underlying t with
    | some (.int k) => some [k]
    | some (.struct fs) => match fs.toList.foldl (fun acc f => match acc, ileaf P n f.type with
        | some ks, some js => if Nat.beq f.offset ks.length then some (ks ++ js) else none
        | _, _ => none) (some []) with
      | some ks => if Nat.beq (P.cellsOf t) ks.length then some ks else none
      | none => none
    | _ => none

def ints (ks : List IntKind) (as : List Int) : List Value := List.zipWith Value.int ks as
def Wfs (ks : List IntKind) (as : List Int) : Prop := ∀ (j : Nat) k a, ks[j]? = some k → as[j]? = some a → (Lit.int k a).wf = true

theorem ints_app {ks js : List IntKind} {as bs : List Int} (h : as.length = ks.length) : ints (ks ++ js) (as ++ bs) = ints ks as ++ ints js bs := by
  unfold ints; exact List.zipWith_append h.symm
theorem Wfs.app {ks js : List IntKind} {as bs : List Int} (hl : as.length = ks.length) (h1 : Wfs ks as) (h2 : Wfs js bs) : Wfs (ks ++ js) (as ++ bs) := by
  intro j k a hk ha
  rcases Nat.lt_or_ge j ks.length with h | h
  · rw [List.getElem?_append_left h] at hk
    rw [List.getElem?_append_left (by omega)] at ha
    exact h1 j k a hk ha
  · rw [List.getElem?_append_right h] at hk
    rw [List.getElem?_append_right (by omega), hl] at ha
    exact h2 _ k a hk ha

theorem ints_of_trod {W : World} {base : Nat} {spare : Nat → Bool} {held : Bool} : ∀ (n : Nat) {t : TypeId} {fuel : Nat} {cs : List Value} {x : DataW H × List MemPlace} {ks : List IntKind},
    ileaf P n t = some ks → DataW.trod enc P W base spare held fuel t cs = some x → ∃ as, as.length = ks.length ∧ cs = ints ks as ∧ Wfs ks as := by
  intro n
  induction n with
  | zero => intro t fuel cs x ks h; simp [ileaf] at h
  | succ n ih =>
    intro t fuel cs x ks h hx
    simp only [ileaf] at h
    split at h
    · rename_i k ht
      cases h
      obtain ⟨a, rfl, rfl, hw⟩ := DataW.trod_int ht hx
      refine ⟨[a], rfl, rfl, ?_⟩
      intro j k' a' hk ha
      cases j with
      | zero => simp at hk ha; subst hk; subst ha; exact hw
      | succ j => simp at hk
    · rename_i fs ht
      obtain ⟨xs, m, rfl, rfl, hcl, hxl, hf⟩ := DataW.trod_struct ht hx
      have key : ∀ (fl : List Field), (∀ f ∈ fl, ∃ y, DataW.trod enc P W base spare held m f.type ((cs.drop f.offset).take (P.cellsOf f.type)) = some y) → ∀ (ks0 ks1 : List IntKind) (as0 : List Int),
          (as0.length = ks0.length ∧ cs.take ks0.length = ints ks0 as0 ∧ ks0.length ≤ cs.length ∧ Wfs ks0 as0) →
          fl.foldl (fun acc f => match acc, ileaf P n f.type with
            | some ks, some js => if Nat.beq f.offset ks.length then some (ks ++ js) else none
            | _, _ => none) (some ks0) = some ks1 →
          ∃ as1, as1.length = ks1.length ∧ cs.take ks1.length = ints ks1 as1 ∧ ks1.length ≤ cs.length ∧ Wfs ks1 as1 := by
        intro fl
        induction fl with
        | nil => intro _ ks0 ks1 as0 h0 h1; simp at h1; subst h1; exact ⟨as0, h0⟩
        | cons f fl ihf =>
          intro hall ks0 ks1 as0 h0 h1
          simp only [List.foldl_cons] at h1
          have hnone : ∀ l : List Field, l.foldl (fun acc f => match acc, ileaf P n f.type with
            | some ks, some js => if Nat.beq f.offset ks.length then some (ks ++ js) else none
            | _, _ => none) (none : Option (List IntKind)) = none := by
            intro l
            induction l with
            | nil => rfl
            | cons g l ih2 => simpa using ih2
          cases hj : ileaf P n f.type with
          | none => simp only [hj] at h1; rw [hnone] at h1; cases h1
          | some js =>
            simp only [hj] at h1
            split at h1
            · rename_i hoff
              have hoff := Nat.eq_of_beq_eq_true hoff
              obtain ⟨y, hy⟩ := hall f List.mem_cons_self
              obtain ⟨bs, hb1, hb2, hb3⟩ := ih hj hy
              obtain ⟨g1, g2, g3, g4⟩ := h0
              rw [hoff] at hb2
              have hlen : ((cs.drop ks0.length).take (P.cellsOf f.type)).length = js.length := by rw [hb2]; simp [ints, hb1]
              have hlen2 := hlen
              simp only [List.length_take, List.length_drop] at hlen2
              have e2 : (cs.drop ks0.length).take js.length = ints js bs := by
                have h6 : (cs.drop ks0.length).take js.length = ((cs.drop ks0.length).take (P.cellsOf f.type)).take js.length := by rw [List.take_take]; congr 1; omega
                rw [h6, hb2, List.take_of_length_le (by simp [ints, hb1])]
              refine ihf (fun g hg => hall g (List.mem_cons_of_mem _ hg)) (ks0 ++ js) ks1 (as0 ++ bs) ⟨by simp [g1, hb1], ?_, by simp; omega, g4.app g1 hb3⟩ h1
              rw [List.length_append, List.take_add, g2, e2, ints_app g1]
            · rw [hnone] at h1; cases h1
      split at h
      · rename_i ks' hfold
        split at h
        · rename_i hbeq
          cases h
          obtain ⟨as, h1, h2, h3, h4⟩ := key fs.toList (fun f hfm => by
            obtain ⟨i, hi⟩ := List.getElem?_of_mem hfm
            have hi' : fs[i]? = some f := by simpa using hi
            have hlt : i < fs.size := (Array.getElem?_eq_some_iff.1 hi').1
            exact ⟨xs[i]'(by omega), by rw [hf i f hi']; exact List.getElem?_eq_getElem (by omega)⟩) [] _ [] ⟨rfl, rfl, Nat.zero_le _, fun j k a hk => by simp at hk⟩ hfold
          have hb := Nat.eq_of_beq_eq_true hbeq
          rw [List.take_of_length_le (by omega)] at h2
          exact ⟨as, h1, h2, h4⟩
        · cases h
      · cases h
    · cases h

/-- a slice of rows of numbers, handed in: what it holds, told by lists -/
theorem rows_of_trod {W : World} {held : Bool} {t e : TypeId} {v : Value} {d : DataW H} {p : List MemPlace} {ks : List IntKind} {spare : Nat → Bool} (n : Nat)
    (ht : P.underlying t = some (.slice e)) (hle : ileaf P n e = some ks) (hce : P.cellsOf e = ks.length) (hpos : Nat.beq ks.length 0 = false)
    (hval : ∃ a len cap, v = .slice a len cap) (h : DataW.Trod enc P W 0 spare held t v d p) :
    ∃ rows : List (List Int), rows.length ≤ maxLen ∧ (∀ L, Rs W L v ks.length rows.length (rows.flatMap (ints ks))) ∧ ∀ r ∈ rows, r.length = ks.length ∧ Wfs ks r := by
  have hpos' : 0 < ks.length := by
    rcases Nat.eq_zero_or_pos ks.length with h | h
    · rw [h] at hpos; cases hpos
    · exact h
  obtain ⟨a0, len0, cap0, rfl⟩ := hval
  obtain ⟨fuel, hf⟩ := h
  rcases Go.Deep.open_slice ht hf with ⟨hcs, _⟩ | ⟨a, len, cap, m, n', D, Pl, hcs, _, hlc, hmax, hm, _, hall⟩
  · simp [Value.cells] at hcs
    obtain ⟨rfl, rfl, rfl⟩ := hcs
    exact ⟨[], Nat.zero_le _, fun L => Rs.nil _, fun r hr => by simp at hr⟩
  · simp [Value.cells] at hcs
    obtain ⟨rfl, rfl, rfl⟩ := hcs
    have hlm : len0 ≤ m := by rw [hm]; split <;> omega
    obtain ⟨f, hfp⟩ := Go.Deep.choose_lt (α := List Int) (n := len0) (p := fun i as => as.length = ks.length ∧ Wfs ks as ∧ ∀ (j : Nat) u, (ints ks as)[j]? = some u → W.cell? ((a.add (i * ks.length)).add j) = some u) (fun i hi => by
      obtain ⟨cs', h1, h2⟩ := hall i (by omega)
      rw [hce] at h1
      obtain ⟨as, g1, g2, g3⟩ := ints_of_trod n hle h2
      obtain ⟨_, hl, hc⟩ := World.cells?_some h1
      refine ⟨as, g1, g3, fun j u hj => ?_⟩
      have hjl : j < ks.length := by
        have := (List.getElem?_eq_some_iff.1 hj).1
        simp [ints, g1] at this; exact this
      rw [hc j hjl, g2]; exact hj)
    have hlenr : ((List.range len0).map f).length = len0 := by simp
    refine ⟨(List.range len0).map f, by rw [hlenr]; omega, fun L => ?_, fun r hr => ?_⟩
    · rw [hlenr]
      have hfl : ∀ r ∈ (List.range len0).map f, (ints ks r).length = ks.length := by
        intro r hr
        obtain ⟨i, hi, rfl⟩ := List.mem_map.1 hr
        simp [ints, (hfp i (List.mem_range.1 hi)).1]
      have htot : (((List.range len0).map f).flatMap (ints ks)).length = len0 * ks.length := by
        rw [List.length_flatMap]
        have : ∀ l : List (List Int), (∀ r ∈ l, (ints ks r).length = ks.length) → (l.map fun a => (ints ks a).length).sum = l.length * ks.length := by
          intro l
          induction l with
          | nil => intro _; simp
          | cons x l ih => intro hh; simp only [List.map_cons, List.sum_cons, List.length_cons]; rw [ih (fun r hr => hh r (List.mem_cons_of_mem _ hr)), hh x List.mem_cons_self, Nat.add_mul]; omega
        rw [this _ hfl, hlenr]
      have hcell : ∀ (j : Nat) u, (((List.range len0).map f).flatMap (ints ks))[j]? = some u → W.cell? (a.add j) = some u := by
        intro j u hj
        have hjl : j < len0 * ks.length := by rw [← htot]; exact (List.getElem?_eq_some_iff.1 hj).1
        have hi : j / ks.length < len0 := by rw [Nat.div_lt_iff_lt_mul hpos']; exact hjl
        have hget : (((List.range len0).map f).flatMap (ints ks))[j]? = (ints ks (f (j / ks.length)))[j % ks.length]? := by
          have gen : ∀ (l : List (List Int)), (∀ r ∈ l, (ints ks r).length = ks.length) → ∀ j, (l.flatMap (ints ks))[j]? = (l[j / ks.length]?).bind fun r => (ints ks r)[j % ks.length]? := by
            intro l
            induction l with
            | nil => intro _ j; simp
            | cons x l ih =>
              intro hh j
              rw [List.flatMap_cons]
              have hx := hh x List.mem_cons_self
              rcases Nat.lt_or_ge j ks.length with h | h
              · rw [List.getElem?_append_left (by omega), Nat.div_eq_of_lt h, Nat.mod_eq_of_lt h]; simp
              · rw [List.getElem?_append_right (by omega), hx, ih (fun r hr => hh r (List.mem_cons_of_mem _ hr))]
                have h1 : j / ks.length = (j - ks.length) / ks.length + 1 := by
                  conv => lhs; rw [← Nat.sub_add_cancel h]
                  rw [Nat.add_div_right _ hpos']
                have h2 : j % ks.length = (j - ks.length) % ks.length := by
                  conv => lhs; rw [← Nat.sub_add_cancel h]
                  rw [Nat.add_mod_right]
                rw [h1, h2]; simp
          rw [gen _ hfl, List.getElem?_map, List.getElem?_range hi]; rfl
        rw [hget] at hj
        have := (hfp _ hi).2.2 _ _ hj
        rw [Go.Deep.add_add, Nat.mul_comm, Nat.div_add_mod] at this
        exact this
      rcases Nat.eq_zero_or_pos len0 with h0 | h0
      · subst h0
        exact Rs.nil' _ _ _
      · obtain ⟨b, off, sp⟩ := a
        have hsp : sp = none := by
          have h1 : 0 < (((List.range len0).map f).flatMap (ints ks)).length := by rw [htot]; exact Nat.mul_pos h0 hpos'
          have h2 := hcell 0 _ (List.getElem?_eq_getElem h1)
          unfold World.cell? Addr.add at h2
          cases sp with
          | none => rfl
          | some s => simp at h2; split at h2 <;> simp at h2
        subst hsp
        exact Rs.mk (Rc.of_old fun j u hj => by have := hcell j u hj; rwa [addr_add] at this) htot hlc
    · obtain ⟨i, hi, rfl⟩ := List.mem_map.1 hr
      exact ⟨(hfp i (List.mem_range.1 hi)).1, (hfp i (List.mem_range.1 hi)).2.1⟩
end
end Go.Proofs.Ytahjgjmemijofaa.Eng
