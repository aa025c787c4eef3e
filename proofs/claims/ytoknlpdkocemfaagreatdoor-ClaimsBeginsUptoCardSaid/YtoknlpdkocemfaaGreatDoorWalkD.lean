/-
  PLAIN, WALK D: the reference's check of a layout comes to a value; if it is 0, the ends of all joints exist.
-/
import Derived.Test.YtoknlpdkocemfaaGreatDoorWalkC
namespace PM
open Go Go.RowKit

theorem ref06_Sides_eq (a0 : Int) : d_ref06_Sides a0 = some (sidesS a0) := by
  unfold d_ref06_Sides sidesS
  simp [Bool.cond_eq_ite]
  (repeat' split) <;> simp_all
def exS (l : T_api_Layout) (e : T_api_End) : Bool :=
  hasEl l e.El && decide (0 ≤ e.Side) && (match l.Elements[e.El.toNat]? with | some x => decide (e.Side < sidesS x.Kind) | none => false)
theorem ref07_exists_eq (l : T_api_Layout) (e : T_api_End) : d_ref07_exists l e = some (exS l e) := by
  unfold d_ref07_exists exS
  have h1 : ((bif decide (0 ≤ e.El) then (some (decide (e.El < ((l.Elements.length : Nat) : Int)))) else some false) : Option Bool) = some (hasEl l e.El) := by
    unfold hasEl; cases decide (0 ≤ e.El) <;> simp
  rw [h1]
  simp only [Option.bind_some]
  cases h : hasEl l e.El with
  | false => rfl
  | true =>
    obtain ⟨x, h2, h3⟩ := hasEl_get h
    cases decide (0 ≤ e.Side) with
    | false => rfl
    | true => simp [h2, h3, ref06_Sides_eq]
theorem take_snoc {α : Type} {L : List α} {i : Nat} {x : α} (h : L[i]? = some x) : L.take (i + 1) = L.take i ++ [x] := by rw [List.take_add_one, h]; rfl
theorem ref07_names_is {l : T_api_Layout} (h : Sm l) : Is (d_ref07_names l) fun r => r.x0 = l.Sections ∧ r.x1 = l.Elements.map (·.Name) ∧ r.x2 = l.Signals.map (·.Name) := by
  unfold d_ref07_names
  have h1 := h.sec; have h2 := h.el; have h3 := h.sg
  refine Is.bind (Is.app (by simp only [List.length_nil, sizeMax, Enc.b]; omega)) fun x1 hx1 => ?_
  refine Is.onInl (θ := fun o => o = .inl (l.Elements.map (·.Name))) ?_ ?_ (fun b hb => by cases hb)
  · refine Is.loop (mk := fun (i : Nat) (m : List ByteArray) => ((i : Int), m)) l.Elements.length (fun i m => m = (l.Elements.take i).map (·.Name)) [] rfl ?_ ?_
    · rintro i m hi rfl
      unfold d_ref07_names_0
      refine Is.cond (fun _ => ?_) (fun hb => by simp at hb; omega)
      refine Is.bind (Is.ixn hi) fun x hx => ?_
      refine Is.bind (Is.app ?_) fun M hM => ?_
      · simp only [List.length_map, List.length_take, List.length_cons, List.length_nil, sizeMax, Enc.b]; omega
      · subst hM
        exact Is.val ⟨_, by rw [w64n (by omega)], by rw [List.take_add_one, hx]; simp⟩
    · rintro m rfl
      unfold d_ref07_names_0
      exact Is.cond (fun hb => by simp at hb) (fun _ => Is.val (by rw [List.take_length]))
  · rintro v hv
    cases hv
    refine Is.onInl (θ := fun o => o = .inl (l.Signals.map (·.Name))) ?_ ?_ (fun b hb => by cases hb)
    · refine Is.loop (mk := fun (i : Nat) (m : List ByteArray) => ((i : Int), m)) l.Signals.length (fun i m => m = (l.Signals.take i).map (·.Name)) [] rfl ?_ ?_
      · rintro i m hi rfl
        unfold d_ref07_names_1
        refine Is.cond (fun _ => ?_) (fun hb => by simp at hb; omega)
        refine Is.bind (Is.ixn hi) fun x hx => ?_
        refine Is.bind (Is.app ?_) fun M hM => ?_
        · simp only [List.length_map, List.length_take, List.length_cons, List.length_nil, sizeMax, Enc.b]; omega
        · subst hM
          exact Is.val ⟨_, by rw [w64n (by omega)], by rw [List.take_add_one, hx]; simp⟩
      · rintro m rfl
        unfold d_ref07_names_1
        exact Is.cond (fun hb => by simp at hb) (fun _ => Is.val (by rw [List.take_length]))
    · rintro v hv
      cases hv
      exact Is.val ⟨by rw [hx1, List.nil_append], rfl, rfl⟩
def endsOf (L : List T_api_Joint) : List T_api_End := L.flatMap fun j => [j.A, j.B]
theorem endsOf_snoc (L : List T_api_Joint) (j : T_api_Joint) : endsOf (L ++ [j]) = endsOf L ++ [j.A, j.B] := by simp [endsOf]
def JoinsOk (l : T_api_Layout) : Prop := (∀ j ∈ l.Joints, exS l j.A = true ∧ exS l j.B = true) ∧ (endsOf l.Joints).Nodup
theorem exS_has {l : T_api_Layout} {e : T_api_End} (h : exS l e = true) : hasEl l e.El = true := by
  simp only [exS, Bool.and_eq_true] at h; exact h.1.1
theorem joinS_ok {l : T_api_Layout} (hJ : JoinsOk l) {e f : T_api_End} (h : joinS l e = (f, true)) : exS l f = true := by
  unfold joinS at h
  split at h
  · rename_i j hj
    have hm := hJ.1 j (List.mem_of_find?_eq_some hj)
    cases hA : eq_T_api_End j.A e <;> rw [hA] at h <;> simp at h <;> subst h
    · exact hm.1
    · exact hm.2
  · simp at h
end PM
