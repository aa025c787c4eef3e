/-
  PLAIN: ascending numbers; the sets of the reference.
-/
import Derived.Test.YtpiejhjhalnaaaaGreatDoorLayE
import Derived.Test.YtpiejhjhalnaaaaGreatDoorWalkK
namespace PM
open Go Go.RowKit

/-! ### Sorted lists -/
def AscI (l : List Int) : Prop := l.Pairwise (· < ·)
theorem AscI.one {a b : List Int} (ha : AscI a) (hb : AscI b) (h : ∀ x, x ∈ a ↔ x ∈ b) : a = b :=
  strict_unique (lt := fun x y => decide (x < y)) (fun x => by simp) (fun x y z h1 h2 => by simp at h1 h2 ⊢; omega) a b (ha.imp fun h => decide_eq_true h) (hb.imp fun h => decide_eq_true h) h
theorem AscI.at {L : List Int} (h : AscI L) {i j : Nat} {x y : Int} (hx : L[i]? = some x) (hy : L[j]? = some y) (hij : i < j) : x < y := by
  have h1 := lt_of_get hx
  have h2 := lt_of_get hy
  rw [List.getElem?_eq_getElem h1] at hx; cases hx
  rw [List.getElem?_eq_getElem h2] at hy; cases hy
  exact (List.pairwise_iff_getElem.1 h) i j h1 h2 hij
theorem ref02_Has_eq (L : List Int) (x : Int) (h : L.length ≤ 1048576) : d_ref02_Has L x = some (decide (x ∈ L)) := by
  unfold d_ref02_Has
  rw [loop_find (fun y => decide (y = x)) (fun _ => .inr true) (.inl ()) L (by omega)]
  · cases hf : L.find? (fun y => decide (y = x)) with
    | none =>
      rw [List.find?_eq_none] at hf
      have : ¬ x ∈ L := fun hx => hf x hx (by simp)
      simp [onInl, onOut, this]
    | some y =>
      have h1 := List.mem_of_find?_eq_some hf
      have h2 := List.find?_some hf
      simp only [decide_eq_true_eq] at h2
      subst h2
      simp [onInl, onOut, h1]
  · intro i y hy
    have hi := lt_of_get hy
    simp only [d_ref02_Has_0, ixO_nat hy, show decide ((i : Int) < ((L.length : Nat) : Int)) = true by simp; omega, cond_true, Option.bind_some]
  · simp [d_ref02_Has_0]
structure InsI (L : List Int) (x : Int) (i : Nat) (d : Bool) (o : List Int) : Prop where
  asc : AscI o
  mem : ∀ y, y ∈ o ↔ y ∈ L.take i ∨ (d = true ∧ y = x)
  len : o.length ≤ i + 1
  no : d = false → ∀ y ∈ L.take i, y < x
  yes : d = true → ∀ (j : Nat) y, i ≤ j → L[j]? = some y → x < y
theorem take_lt {L : List Int} (h : AscI L) {i : Nat} {y z : Int} (hy : L[i]? = some y) (hz : z ∈ L.take i) : z < y := by
  obtain ⟨j, hj⟩ := List.mem_iff_getElem?.1 hz
  have h1 := lt_of_get hj
  rw [List.length_take] at h1
  rw [List.getElem?_take] at hj
  split at hj
  · exact h.at hj hy (by omega)
  · cases hj
theorem ref02_insert_is (L : List Int) (x : Int) (hL : AscI L) (h : L.length ≤ 1000000) : Is (d_ref02_insert L x) fun M => AscI M ∧ (∀ y, y ∈ M ↔ y ∈ L ∨ y = x) ∧ M.length ≤ L.length + 1 := by
  unfold d_ref02_insert
  rw [ref02_Has_eq L x (by omega), Option.bind_some]
  refine Is.ite (p := x ∈ L) dec_iff (fun hx => Is.val ⟨hL, fun y => ⟨.inl, ?_⟩, by omega⟩) (fun hx => ?_)
  · rintro (h | rfl)
    · exact h
    · exact hx
  refine Is.onInl (θ := fun o => ∃ r, o = .inl r ∧ InsI L x L.length r.2 r.1) ?_ ?_ (fun b hb => by obtain ⟨_, hb, _⟩ := hb; cases hb)
  · refine Is.loop (mk := fun (i : Nat) (s : Bool × List Int) => (s.1, (i : Int), s.2)) L.length (fun i s => InsI L x i s.1 s.2) (false, []) ⟨List.Pairwise.nil, fun y => by simp, by simp, fun _ y hy => by simp at hy, fun h => by cases h⟩ ?_ ?_
    · rintro i ⟨d, o⟩ hi hI
      unfold d_ref02_insert_0
      simp only at hI
      obtain ⟨y, hy⟩ : ∃ y, L[i]? = some y := ⟨_, List.getElem?_eq_getElem hi⟩
      have hlen := hI.len
      have hmem : y ∈ L := List.mem_of_getElem? hy
      have e0 : decide ((i : Int) < ((L.length : Nat) : Int)) = true := decide_eq_true (by omega)
      simp only [ixO_nat hy, e0, cond_true, Option.bind_some, cond_some, Bool.cond_false_right]
      refine Is.onInl (θ := fun v => ∃ r, v = .inl r ∧ r.1.length ≤ i + 2 - 1 + 1 - 1 + 1 ∧ InsI L x (i + 1) r.2 (r.1 ++ [y])) ?_ ?_ (fun b hb => by obtain ⟨_, hb, _⟩ := hb; cases hb)
      · refine Is.cond (fun hc => ?_) (fun hc => ?_)
        · simp only [Bool.and_eq_true, Bool.not_eq_true', decide_eq_true_eq] at hc
          obtain ⟨rfl, hc⟩ := hc
          have hol : o.length ≤ i := by
            have e : o = L.take i := hI.asc.one (hL.sublist (List.take_sublist i L)) (fun z => by rw [hI.mem]; simp)
            rw [e, List.length_take]; omega
          refine Is.bind (Is.app (by simp only [List.length_cons, List.length_nil, sizeMax, Enc.b]; omega)) fun M hM => ?_
          subst hM
          refine Is.val ⟨_, rfl, by simp; omega, ?_⟩
          refine ⟨?_, fun z => ?_, by simp; omega, fun h => (by cases h), fun _ j z hj hz => ?_⟩
          · unfold AscI
            rw [List.append_assoc, List.pairwise_append]
            refine ⟨hI.asc, by simp [hc], fun a ha b hb => ?_⟩
            have h1 : a ∈ L.take i := by
              have := (hI.mem a).1 ha
              rcases this with h | ⟨h, _⟩
              · exact h
              · cases h
            have h2 := hI.no rfl a h1
            simp at hb
            rcases hb with rfl | rfl <;> omega
          · rw [take_snoc hy]
            simp only [List.mem_append, List.mem_singleton, hI.mem, Bool.false_eq_true, false_and, or_false, true_and]
            exact or_right_comm
          · by_cases e : j = i
            · subst e; rw [hy] at hz; cases hz; exact hc
            · exact Int.lt_trans hc (hL.at hy hz (by omega))
        · have hol : o.length ≤ i + 1 := hI.len
          refine Is.val ⟨_, rfl, by simp; omega, ?_⟩
          have hd : d = false → y < x := by
            rintro rfl
            simp only [Bool.not_false, Bool.true_and, decide_eq_false_iff_not] at hc
            have : y ≠ x := fun e => hx (e ▸ hmem)
            omega
          refine ⟨?_, fun z => ?_, ?_, fun h z hz => ?_, fun h j z hj hz => hI.yes h j z (by omega) hz⟩
          · unfold AscI
            rw [List.pairwise_append]
            refine ⟨hI.asc, by simp, fun a ha b hb => ?_⟩
            simp at hb; subst hb
            rcases (hI.mem a).1 ha with h | ⟨h, rfl⟩
            · exact take_lt hL hy h
            · exact hI.yes h i _ (Nat.le_refl _) hy
          · rw [take_snoc hy]
            simp only [List.mem_append, List.mem_singleton, hI.mem]
            exact or_right_comm
          · simp; omega
          · rw [take_snoc hy] at hz
            rcases List.mem_append.1 hz with hz | hz
            · exact hI.no h z hz
            · simp at hz; subst hz; exact hd h
      · rintro ⟨o', d'⟩ ⟨r, hr, hl, hI'⟩
        cases hr
        refine Is.bind (Is.app (by simp only [List.length_cons, List.length_nil, sizeMax, Enc.b]; simp only at hl; omega)) fun M hM => ?_
        subst hM
        exact Is.val ⟨(d', o' ++ [y]), by rw [w64n (by omega)], hI'⟩
    · rintro ⟨d, o⟩ hI
      unfold d_ref02_insert_0
      have e0 : decide (((L.length : Nat) : Int) < ((L.length : Nat) : Int)) = false := decide_eq_false (by omega)
      simp only [e0, cond_false]
      exact Is.val ⟨_, rfl, hI⟩
  · rintro ⟨o, d⟩ ⟨r, hr, hI⟩
    cases hr
    simp only at hI
    have hlen := hI.len
    refine Is.onInl (θ := fun v => ∃ M, v = .inl M ∧ AscI M ∧ (∀ y, y ∈ M ↔ y ∈ L ∨ y = x) ∧ M.length ≤ L.length + 1) ?_ (fun v hv => ?_) (fun b hb => by obtain ⟨_, hb, _⟩ := hb; cases hb)
    · cases d with
      | true =>
        simp only [Bool.not_true, cond_false]
        exact Is.val ⟨_, rfl, hI.asc, fun y => by rw [hI.mem]; simp, hlen⟩
      | false =>
        have hol : o = L := hI.asc.one hL (fun z => by rw [hI.mem]; simp)
        subst hol
        simp only [Bool.not_false, cond_true]
        refine Is.bind (Is.app (by simp only [List.length_cons, List.length_nil, sizeMax, Enc.b]; omega)) fun M hM => ?_
        subst hM
        refine Is.val ⟨_, rfl, ?_, fun y => by simp, by simp⟩
        unfold AscI
        rw [List.pairwise_append]
        refine ⟨hL, by simp, fun a ha b hb => ?_⟩
        simp at hb; subst hb
        exact hI.no rfl a (by rw [List.take_length]; exact ha)
    · obtain ⟨M, rfl | _, h1, h2, h3⟩ := hv
      exact Is.val ⟨h1, h2, h3⟩
theorem ref02_Make_is (L : List Int) (h : L.length ≤ 1000000) : Is (d_ref02_Make L) fun M => AscI M ∧ ∀ y, y ∈ M ↔ y ∈ L := by
  unfold d_ref02_Make
  refine Is.onInl (θ := fun o => ∃ M, o = .inl M ∧ AscI M ∧ (∀ y, y ∈ M ↔ y ∈ L)) ?_ (fun v hv => ?_) (fun b hb => by obtain ⟨_, hb, _⟩ := hb; cases hb)
  · refine Is.loop (mk := fun (i : Nat) (o : List Int) => (o, (i : Int))) L.length (fun i o => AscI o ∧ (∀ y, y ∈ o ↔ y ∈ L.take i) ∧ o.length ≤ i) [] ⟨List.Pairwise.nil, fun y => by simp, by simp⟩ ?_ ?_
    · rintro i o hi ⟨h1, h2, h3⟩
      unfold d_ref02_Make_0
      obtain ⟨y, hy⟩ : ∃ y, L[i]? = some y := ⟨_, List.getElem?_eq_getElem hi⟩
      have e0 : decide ((i : Int) < ((L.length : Nat) : Int)) = true := decide_eq_true (by omega)
      simp only [ixO_nat hy, e0, cond_true, Option.bind_some]
      refine Is.bind (ref02_insert_is o y h1 (by omega)) fun M hM => ?_
      refine Is.val ⟨_, by rw [w64n (by omega)], hM.1, fun z => ?_, by have := hM.2.2; omega⟩
      rw [hM.2.1, h2, take_snoc hy]; simp
    · rintro o ⟨h1, h2, h3⟩
      unfold d_ref02_Make_0
      have e0 : decide (((L.length : Nat) : Int) < ((L.length : Nat) : Int)) = false := decide_eq_false (by omega)
      simp only [e0, cond_false]
      exact Is.val ⟨_, rfl, h1, fun y => by rw [h2, List.take_length]⟩
  · obtain ⟨M, rfl | _, h1, h2⟩ := hv
    exact Is.val ⟨h1, h2⟩
end PM
