/-
  PLAIN, WALK B: joined ends, branches, possible steps, lengths, and ways.
-/
import Derived.Test.YtoknlpdkocemfaaGreatDoorWalkA
namespace PM
open Go Go.RowKit

structure Sm (l : T_api_Layout) : Prop where
  sec : l.Sections.length ≤ 1048576
  el : l.Elements.length ≤ 1048576
  jo : l.Joints.length ≤ 1048576
  sg : l.Signals.length ≤ 1048576
  ba : l.Balises.length ≤ 1048576
  nm : l.Name.size ≤ 1048576
  secn : ∀ x ∈ l.Sections, x.size ≤ 1048576
  eln : ∀ x ∈ l.Elements, x.Name.size ≤ 1048576
  sgn : ∀ x ∈ l.Signals, x.Name.size ≤ 1048576
theorem eqEnd_iff (x y : T_api_End) : eq_T_api_End x y = true ↔ x = y := by
  cases x; cases y; simp [eq_T_api_End]
theorem eqStep_self (x : T_api_Step) : eq_T_api_Step x x = true := by simp [eq_T_api_Step]

def joinS (l : T_api_Layout) (e : T_api_End) : T_api_End × Bool :=
  match l.Joints.find? fun j => eq_T_api_End j.A e || eq_T_api_End j.B e with
  | some j => (bif eq_T_api_End j.A e then j.B else j.A, true)
  | none => (⟨0, 0⟩, false)
theorem layout_Joined_eq {l : T_api_Layout} (h : l.Joints.length ≤ 1048576) (e : T_api_End) : d_layout_Joined l e = some (joinS l e) := by
  unfold d_layout_Joined joinS
  rw [loop_find (fun j => eq_T_api_End j.A e || eq_T_api_End j.B e) (fun j => .inr (bif eq_T_api_End j.A e then j.B else j.A, true)) (.inl ()) l.Joints (by omega)]
  · cases l.Joints.find? (fun j => eq_T_api_End j.A e || eq_T_api_End j.B e) <;> rfl
  · intro i x hx
    have hi := lt_of_get hx
    simp only [d_layout_Joined_0, ixO_nat hx, show decide ((i : Int) < ((l.Joints.length : Nat) : Int)) = true by simp; omega, cond_true, Option.bind_some]
    cases eq_T_api_End x.A e <;> cases eq_T_api_End x.B e <;> rfl
  · simp [d_layout_Joined_0]
theorem ref07_Joined_eq {l : T_api_Layout} (h : l.Joints.length ≤ 1048576) (e : T_api_End) : d_ref07_Joined l e = some (joinS l e) := by
  unfold d_ref07_Joined joinS
  rw [loop_find (fun j => eq_T_api_End j.A e || eq_T_api_End j.B e) (fun j => .inr (bif eq_T_api_End j.A e then j.B else j.A, true)) (.inl ()) l.Joints (by omega)]
  · cases l.Joints.find? (fun j => eq_T_api_End j.A e || eq_T_api_End j.B e) <;> rfl
  · intro i x hx
    have hi := lt_of_get hx
    simp only [d_ref07_Joined_0, ixO_nat hx, show decide ((i : Int) < ((l.Joints.length : Nat) : Int)) = true by simp; omega, cond_true, Option.bind_some]
    cases eq_T_api_End x.A e <;> cases eq_T_api_End x.B e <;> rfl
  · simp [d_ref07_Joined_0]
theorem walk_passage_1_eq {l : T_api_Layout} (h : l.Joints.length ≤ 1048576) (s : T_api_Step) : d_walk_passage_1 s l = some (joinS l ⟨s.El, s.Out⟩) := by
  simp [d_walk_passage_1, layout_Joined_eq h]
theorem ref09_Next_eq {l : T_api_Layout} (h : l.Joints.length ≤ 1048576) (s : T_api_Step) : d_ref09_Next l s = some (joinS l ⟨s.El, s.Out⟩) := by
  simp [d_ref09_Next, ref07_Joined_eq h]
def hasEl (l : T_api_Layout) (i : Int) : Bool := decide (0 ≤ i) && decide (i < ((l.Elements.length : Nat) : Int))
theorem walk_exists_eq (l : T_api_Layout) (i : Int) : d_walk_exists l i = some (hasEl l i) := by
  unfold d_walk_exists hasEl
  cases decide (0 ≤ i) <;> simp
theorem ref09_exists_eq (l : T_api_Layout) (i : Int) : d_ref09_exists l i = some (hasEl l i) := by
  unfold d_ref09_exists hasEl
  cases decide (0 ≤ i) <;> simp
theorem hasEl_get {l : T_api_Layout} {i : Int} (h : hasEl l i = true) : ∃ x, ixO l.Elements i = some x ∧ l.Elements[i.toNat]? = some x := by
  simp only [hasEl, Bool.and_eq_true, decide_eq_true_eq] at h
  obtain ⟨x, h1, h2⟩ := Is.ix (L := l.Elements) h.1 h.2
  exact ⟨x, h1, h2⟩
theorem SameSteps_refl (L : List T_api_Step) (h : L.length ≤ 1048576) : d_ref09_SameSteps L L = some true := by
  unfold d_ref09_SameSteps
  have : Is (loopO (d_ref09_SameSteps_0 L L) 0) fun o => o = .inl () := by
    refine Is.loop (mk := fun (i : Nat) (_ : Unit) => (i : Int)) L.length (fun _ _ => True) () trivial ?_ ?_
    · rintro i m hi -
      unfold d_ref09_SameSteps_0
      refine Is.cond (fun _ => ?_) (fun hb => by simp at hb; omega)
      refine Is.bind (Is.ixn hi) fun x hx => Is.bind (Is.ixn hi) fun y hy => ?_
      rw [hx] at hy; cases hy
      rw [eqStep_self]
      exact Is.val ⟨(), by rw [w64n (by omega)], trivial⟩
    · rintro m -
      unfold d_ref09_SameSteps_0
      refine Is.cond (fun hb => by simp at hb) (fun _ => Is.val rfl)
  obtain ⟨o, h1, rfl⟩ := this
  simp [h1, onInl, onOut]
def posS (l : T_api_Layout) (s : T_api_Step) : Int × Bool :=
  bif hasEl l s.El then match l.Elements[s.El.toNat]? with
    | some x => needS x.Kind s.In s.Out
    | none => (0, false)
  else (0, false)
theorem walk_possible_eq (l : T_api_Layout) (s : T_api_Step) : d_walk_possible l s = some (posS l s) := by
  unfold d_walk_possible posS
  rw [walk_exists_eq]
  simp only [Option.bind_some]
  cases h : hasEl l s.El with
  | false => rfl
  | true =>
    obtain ⟨x, h1, h2⟩ := hasEl_get h
    simp [h1, h2, d_rail_Need_eq]
end PM
