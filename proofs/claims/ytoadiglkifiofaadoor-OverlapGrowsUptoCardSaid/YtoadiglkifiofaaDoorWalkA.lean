/-
  PLAIN, WALK A: what the plain functions of the chapters 6, 7 and 9 come to.
-/
import Derived.Test.YtoadiglkifiofaaDoorPlA
import Derived.Test.YtoadiglkifiofaaDoorDen
namespace PM
open Go Go.RowKit

def needS (a0 a1 a2 : Int) : Int × Bool :=
  match tab_rail_passages.find? (fun x => decide (x.kind_ = a0) && decide (x.in_ = a1) && decide (x.out_ = a2)) with
  | some x => (x.need_, true)
  | none => (0, false)
def legsS (a0 a1 : Int) : List Int :=
  if a0 = 1 ∧ a1 = 0 then [1] else if a0 = 1 ∧ a1 = 1 then [0] else
  if a0 = 2 ∧ a1 = 0 then [1, 2] else if a0 = 2 ∧ a1 = 1 then [0] else if a0 = 2 ∧ a1 = 2 then [0] else
  if a0 = 3 ∧ a1 = 0 then [1] else if a0 = 3 ∧ a1 = 1 then [0] else if a0 = 3 ∧ a1 = 2 then [3] else if a0 = 3 ∧ a1 = 3 then [2] else []
def sidesS (a0 : Int) : Int := if a0 = 1 then 2 else if a0 = 2 then 3 else if a0 = 3 then 4 else 0

theorem kinds (a : Int) : a = 1 ∨ a = 2 ∨ a = 3 ∨ (¬ a = 1 ∧ ¬ a = 2 ∧ ¬ a = 3 ∧ ¬ 1 = a ∧ ¬ 2 = a ∧ ¬ 3 = a) := by omega
theorem sides4 (a : Int) : a = 0 ∨ a = 1 ∨ a = 2 ∨ a = 3 ∨ (¬ a = 0 ∧ ¬ a = 1 ∧ ¬ a = 2 ∧ ¬ a = 3 ∧ ¬ 0 = a ∧ ¬ 1 = a ∧ ¬ 2 = a ∧ ¬ 3 = a) := by omega
set_option maxRecDepth 10000
theorem d_rail_Need_eq (a0 a1 a2 : Int) : d_rail_Need a0 a1 a2 = some (needS a0 a1 a2) := by
  unfold d_rail_Need needS
  rw [loop_find (fun x => decide (x.kind_ = a0) && decide (x.in_ = a1) && decide (x.out_ = a2)) (fun x => .inr (x.need_, true)) (.inl ()) tab_rail_passages (by decide)]
  · cases tab_rail_passages.find? (fun x => decide (x.kind_ = a0) && decide (x.in_ = a1) && decide (x.out_ = a2)) <;> rfl
  · intro i x h
    have hi : i < 10 := lt_of_get h
    simp only [d_rail_Need_0, ixO_nat h, show decide ((i : Int) < 10) = true by simp; omega, cond_true, Option.bind_some]
  · simp [d_rail_Need_0, tab_rail_passages]
theorem d_ref06_Need_eq (a0 a1 a2 : Int) : d_ref06_Need a0 a1 a2 = some (needS a0 a1 a2) := by
  unfold d_ref06_Need needS
  rcases kinds a0 with rfl | rfl | rfl | ⟨h1, h2, h3, h4, h5, h6⟩
  · simp [tab_rail_passages, Bool.cond_eq_ite]
    rcases sides4 a1 with rfl | rfl | rfl | rfl | ⟨g0, g1, g2, g3, g4, g5, g6, g7⟩ <;> rcases sides4 a2 with rfl | rfl | rfl | rfl | ⟨e0, e1, e2, e3, e4, e5, e6, e7⟩ <;> simp [*] <;> omega
  · simp [tab_rail_passages, Bool.cond_eq_ite]
    rcases sides4 a1 with rfl | rfl | rfl | rfl | ⟨g0, g1, g2, g3, g4, g5, g6, g7⟩ <;> rcases sides4 a2 with rfl | rfl | rfl | rfl | ⟨e0, e1, e2, e3, e4, e5, e6, e7⟩ <;> simp [*] <;> (repeat' split) <;> first | rfl | omega
  · simp [tab_rail_passages, Bool.cond_eq_ite]
    rcases sides4 a1 with rfl | rfl | rfl | rfl | ⟨g0, g1, g2, g3, g4, g5, g6, g7⟩ <;> rcases sides4 a2 with rfl | rfl | rfl | rfl | ⟨e0, e1, e2, e3, e4, e5, e6, e7⟩ <;> simp [*] <;> omega
  · simp [tab_rail_passages, *]
def legG (a0 a1 : Int) (_ : Nat) (x : T_rail_passage) (l : List Int) : Option (List Int ⊕ (List Int ⊕ List Int)) :=
  bif (decide (x.kind_ = a0) && decide (x.in_ = a1)) then (appO l [x.out_]).map .inl else some (.inl l)
theorem d_rail_Legs_for (a0 a1 : Int) : d_rail_Legs a0 a1 = onInl (forL (legG a0 a1) (fun l => .inl l) tab_rail_passages 0 []) some := by
  unfold d_rail_Legs
  rw [← loop_for (step := d_rail_Legs_0 a0 a1) (fun (i : Nat) (l : List Int) => ((i : Int), l))]
  · rfl
  · intro i x l h
    have hi : i < 10 := lt_of_get h
    simp only [d_rail_Legs_0, ixO_nat h, show decide ((i : Int) < 10) = true by simp; omega, cond_true, Option.bind_some, legG]
    cases decide (x.kind_ = a0) && decide (x.in_ = a1)
    · simp [onInl, onOut, w64_of (n := (i : Int) + 1) (by omega) (by omega)]
    · cases appO l [x.out_] <;> simp [onInl, onOut, w64_of (n := (i : Int) + 1) (by omega) (by omega)]
  · intro l; simp [d_rail_Legs_0, tab_rail_passages]
theorem d_rail_Legs_eq (a0 a1 : Int) : d_rail_Legs a0 a1 = some (legsS a0 a1) := by
  rw [d_rail_Legs_for]
  rcases kinds a0 with rfl | rfl | rfl | ⟨h1, h2, h3, h4, h5, h6⟩ <;> rcases sides4 a1 with rfl | rfl | rfl | rfl | ⟨g0, g1, g2, g3, g4, g5, g6, g7⟩ <;>
    simp [forL, tab_rail_passages, legG, onInl, onOut, legsS, appO, Enc.b, sizeMax, *]
def legH (a0 a1 : Int) (i : Nat) (_ : Unit) (l : List Int) : Option (List Int ⊕ (List Int ⊕ List Int)) :=
  bif (needS a0 a1 i).2 then (appO l [(i : Int)]).map .inl else some (.inl l)
theorem d_ref06_Legs_for (a0 a1 : Int) : d_ref06_Legs a0 a1 = onInl (forL (legH a0 a1) (fun l => .inl l) [(), (), (), ()] 0 []) some := by
  unfold d_ref06_Legs
  rw [← loop_for (step := d_ref06_Legs_0 a0 a1) (fun (i : Nat) (l : List Int) => ((i : Int), l))]
  · rfl
  · intro i x l h
    have hi : i < 4 := lt_of_get h
    simp only [d_ref06_Legs_0, show decide ((i : Int) < 4) = true by simp; omega, cond_true, d_ref06_Need_eq, Option.bind_some, legH]
    cases (needS a0 a1 i).2
    · simp [onInl, onOut, w64_of (n := (i : Int) + 1) (by omega) (by omega)]
    · cases appO l [(i : Int)] <;> simp [onInl, onOut, w64_of (n := (i : Int) + 1) (by omega) (by omega)]
  · intro l; simp [d_ref06_Legs_0]
theorem d_ref06_Legs_eq (a0 a1 : Int) : d_ref06_Legs a0 a1 = some (legsS a0 a1) := by
  rw [d_ref06_Legs_for]
  rcases kinds a0 with rfl | rfl | rfl | ⟨h1, h2, h3, h4, h5, h6⟩ <;> rcases sides4 a1 with rfl | rfl | rfl | rfl | ⟨g0, g1, g2, g3, g4, g5, g6, g7⟩ <;>
    simp [forL, needS, tab_rail_passages, legH, onInl, onOut, legsS, appO, Enc.b, sizeMax, *]
end PM
