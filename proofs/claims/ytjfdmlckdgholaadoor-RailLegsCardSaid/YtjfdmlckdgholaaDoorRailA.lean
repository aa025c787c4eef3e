/-
  THE PLAIN LAWS OF CHAPTER 6: the five functions of signallinglaw06 return true, over the plain functions printed from the program.
-/
import Derived.Test.YtjfdmlckdgholaaDoorPlA
import Derived.Test.YtjfdmlckdgholaaDoorDen
namespace PM
open Go Go.RowKit

def needS (a0 a1 a2 : Int) : Int × Bool :=
  match tab1.find? (fun x => decide (x.kind_ = a0) && decide (x.in_ = a1) && decide (x.out_ = a2)) with
  | some x => (x.need_, true)
  | none => (0, false)
def outS (a0 a1 a2 : Int) : Int × Bool :=
  match tab1.find? (fun x => decide (x.kind_ = a0) && decide (x.in_ = a1) && (decide (x.need_ = 0) || decide (x.need_ = a2))) with
  | some x => (x.out_, true)
  | none => (0, false)
def legsS (a0 a1 : Int) : List Int :=
  if a0 = 1 ∧ a1 = 0 then [1] else if a0 = 1 ∧ a1 = 1 then [0] else
  if a0 = 2 ∧ a1 = 0 then [1, 2] else if a0 = 2 ∧ a1 = 1 then [0] else if a0 = 2 ∧ a1 = 2 then [0] else
  if a0 = 3 ∧ a1 = 0 then [1] else if a0 = 3 ∧ a1 = 1 then [0] else if a0 = 3 ∧ a1 = 2 then [3] else if a0 = 3 ∧ a1 = 3 then [2] else []
def sidesS (a0 : Int) : Int := if a0 = 1 then 2 else if a0 = 2 then 3 else if a0 = 3 then 4 else 0

theorem kinds (a : Int) : a = 1 ∨ a = 2 ∨ a = 3 ∨ (¬ a = 1 ∧ ¬ a = 2 ∧ ¬ a = 3 ∧ ¬ 1 = a ∧ ¬ 2 = a ∧ ¬ 3 = a) := by omega
theorem sides4 (a : Int) : a = 0 ∨ a = 1 ∨ a = 2 ∨ a = 3 ∨ (¬ a = 0 ∧ ¬ a = 1 ∧ ¬ a = 2 ∧ ¬ a = 3 ∧ ¬ 0 = a ∧ ¬ 1 = a ∧ ¬ 2 = a ∧ ¬ 3 = a) := by omega
set_option maxRecDepth 10000
theorem sides5 (a : Int) : a = 0 ∨ a = 1 ∨ a = 2 ∨ a = 3 ∨ (a < 0 ∧ ¬ a = 0 ∧ ¬ a = 1 ∧ ¬ a = 2 ∧ ¬ a = 3) ∨ (¬ a < 0 ∧ ¬ a = 0 ∧ ¬ a = 1 ∧ ¬ a = 2 ∧ ¬ a = 3 ∧ 2 ≤ a ∧ 3 ≤ a ∧ 4 ≤ a) := by omega
theorem poss (a : Int) : a = 1 ∨ a = 2 ∨ (¬ 1 = a ∧ ¬ 2 = a) := by omega
theorem f25_eq (a0 a1 a2 : Int) : f25 a0 a1 a2 = some (needS a0 a1 a2) := by
  unfold f25 needS
  rw [loop_find (fun x => decide (x.kind_ = a0) && decide (x.in_ = a1) && decide (x.out_ = a2)) (fun x => .inr (x.need_, true)) (.inl ()) tab1 (by decide)]
  · cases tab1.find? (fun x => decide (x.kind_ = a0) && decide (x.in_ = a1) && decide (x.out_ = a2)) <;> rfl
  · intro i x h
    have hi : i < 10 := lt_of_get h
    simp only [f25_0, ixO_nat h, show decide ((i : Int) < 10) = true by simp; omega, cond_true, Option.bind_some]
  · simp [f25_0, tab1]
theorem f23_eq (a0 a1 a2 : Int) : f23 a0 a1 a2 = some (outS a0 a1 a2) := by
  unfold f23 outS
  rw [loop_find (fun x => decide (x.kind_ = a0) && decide (x.in_ = a1) && (decide (x.need_ = 0) || decide (x.need_ = a2))) (fun x => .inr (x.out_, true)) (.inl ()) tab1 (by decide)]
  · cases tab1.find? (fun x => decide (x.kind_ = a0) && decide (x.in_ = a1) && (decide (x.need_ = 0) || decide (x.need_ = a2))) <;> rfl
  · intro i x h
    have hi : i < 10 := lt_of_get h
    simp only [f23_0, ixO_nat h, show decide ((i : Int) < 10) = true by simp; omega, cond_true, Option.bind_some]
  · simp [f23_0, tab1]
theorem f26_eq (a0 a1 a2 : Int) : f26 a0 a1 a2 = some (needS a0 a1 a2) := by
  unfold f26 needS
  rcases kinds a0 with rfl | rfl | rfl | ⟨h1, h2, h3, h4, h5, h6⟩
  · simp [tab1, Bool.cond_eq_ite]
    rcases sides4 a1 with rfl | rfl | rfl | rfl | ⟨g0, g1, g2, g3, g4, g5, g6, g7⟩ <;> rcases sides4 a2 with rfl | rfl | rfl | rfl | ⟨e0, e1, e2, e3, e4, e5, e6, e7⟩ <;> simp [*] <;> omega
  · simp [tab1, Bool.cond_eq_ite]
    rcases sides4 a1 with rfl | rfl | rfl | rfl | ⟨g0, g1, g2, g3, g4, g5, g6, g7⟩ <;> rcases sides4 a2 with rfl | rfl | rfl | rfl | ⟨e0, e1, e2, e3, e4, e5, e6, e7⟩ <;> simp [*] <;> (repeat' split) <;> first | rfl | omega
  · simp [tab1, Bool.cond_eq_ite]
    rcases sides4 a1 with rfl | rfl | rfl | rfl | ⟨g0, g1, g2, g3, g4, g5, g6, g7⟩ <;> rcases sides4 a2 with rfl | rfl | rfl | rfl | ⟨e0, e1, e2, e3, e4, e5, e6, e7⟩ <;> simp [*] <;> omega
  · simp [tab1, *]
def legG (a0 a1 : Int) (_ : Nat) (x : T_rail_passage) (l : List Int) : Option (List Int ⊕ (List Int ⊕ List Int)) :=
  bif (decide (x.kind_ = a0) && decide (x.in_ = a1)) then (appO l [x.out_]).map .inl else some (.inl l)
theorem f18_for (a0 a1 : Int) : f18 a0 a1 = onInl (forL (legG a0 a1) (fun l => .inl l) tab1 0 []) some := by
  unfold f18
  rw [← loop_for (step := f18_0 a0 a1) (fun (i : Nat) (l : List Int) => ((i : Int), l))]
  · rfl
  · intro i x l h
    have hi : i < 10 := lt_of_get h
    simp only [f18_0, ixO_nat h, show decide ((i : Int) < 10) = true by simp; omega, cond_true, Option.bind_some, legG]
    cases decide (x.kind_ = a0) && decide (x.in_ = a1)
    · simp [onInl, onOut, w64_of (n := (i : Int) + 1) (by omega) (by omega)]
    · cases appO l [x.out_] <;> simp [onInl, onOut, w64_of (n := (i : Int) + 1) (by omega) (by omega)]
  · intro l; simp [f18_0, tab1]
theorem f18_eq (a0 a1 : Int) : f18 a0 a1 = some (legsS a0 a1) := by
  rw [f18_for]
  rcases kinds a0 with rfl | rfl | rfl | ⟨h1, h2, h3, h4, h5, h6⟩ <;> rcases sides4 a1 with rfl | rfl | rfl | rfl | ⟨g0, g1, g2, g3, g4, g5, g6, g7⟩ <;>
    simp [forL, tab1, legG, onInl, onOut, legsS, appO, Enc.b, sizeMax, *]
def legH (a0 a1 : Int) (i : Nat) (_ : Unit) (l : List Int) : Option (List Int ⊕ (List Int ⊕ List Int)) :=
  bif (needS a0 a1 i).2 then (appO l [(i : Int)]).map .inl else some (.inl l)
theorem f19_for (a0 a1 : Int) : f19 a0 a1 = onInl (forL (legH a0 a1) (fun l => .inl l) [(), (), (), ()] 0 []) some := by
  unfold f19
  rw [← loop_for (step := f19_0 a0 a1) (fun (i : Nat) (l : List Int) => ((i : Int), l))]
  · rfl
  · intro i x l h
    have hi : i < 4 := lt_of_get h
    simp only [f19_0, show decide ((i : Int) < 4) = true by simp; omega, cond_true, f26_eq, Option.bind_some, legH]
    cases (needS a0 a1 i).2
    · simp [onInl, onOut, w64_of (n := (i : Int) + 1) (by omega) (by omega)]
    · cases appO l [(i : Int)] <;> simp [onInl, onOut, w64_of (n := (i : Int) + 1) (by omega) (by omega)]
  · intro l; simp [f19_0]
theorem f19_eq (a0 a1 : Int) : f19 a0 a1 = some (legsS a0 a1) := by
  rw [f19_for]
  rcases kinds a0 with rfl | rfl | rfl | ⟨h1, h2, h3, h4, h5, h6⟩ <;> rcases sides4 a1 with rfl | rfl | rfl | rfl | ⟨g0, g1, g2, g3, g4, g5, g6, g7⟩ <;>
    simp [forL, needS, tab1, legH, onInl, onOut, legsS, appO, Enc.b, sizeMax, *]
theorem f15_eq (a0 : Int) : f15 a0 = some (sidesS a0) := by
  unfold f15 sidesS
  by_cases h1 : a0 = 1
  · subst h1; simp [ixO, tab0]
  by_cases h2 : a0 = 2
  · subst h2; simp [ixO, tab0]
  by_cases h3 : a0 = 3
  · subst h3; simp [ixO, tab0]
  by_cases h0 : a0 = 0
  · subst h0; simp [ixO, tab0]
  simp [h1, h2, h3, Bool.cond_eq_ite]
  omega
theorem f16_eq (a0 : Int) : f16 a0 = some (sidesS a0) := by
  unfold f16 sidesS
  simp [Bool.cond_eq_ite]
  (repeat' split) <;> simp_all
theorem f20_eq (a0 a1 : Int) : f20 a0 a1 = some (decide (a0 = 2 ∧ a1 = 0)) := by
  simp [f20]
theorem f21_eq (a0 a1 : Int) : f21 a0 a1 = some (decide (a0 = 2 ∧ a1 = 0)) := by
  simp [f21]
theorem f17_refl (L : List Int) (h : L.length < 9223372036854775807) : f17 L L = some true := by
  unfold f17
  have := loop_for (step := f17_0 L L) (fun (i : Nat) (_ : Unit) => (i : Int)) (fun _ _ _ => some (.inl ())) (fun _ => .inl ()) L () ?_ ?_
  · have h2 : forL (fun _ (_ : Int) (_ : Unit) => (some (.inl ()) : Option (Unit ⊕ (Unit ⊕ Bool)))) (fun _ => .inl ()) L 0 () = some (.inl ()) := by
      suffices ∀ (M : List Int) i, forL (fun _ (_ : Int) (_ : Unit) => (some (.inl ()) : Option (Unit ⊕ (Unit ⊕ Bool)))) (fun _ => .inl ()) M i () = some (.inl ()) from this L 0
      intro M
      induction M with
      | nil => intro i; rfl
      | cons x xs ih => intro i; exact ih (i + 1)
    rw [h2] at this
    simp only [Int.ofNat_zero] at this
    simp [this, onInl, onOut]
  · intro i x s hx
    have := lt_of_get hx
    simp [f17_0, ixO_nat hx, w64_of (n := (i : Int) + 1) (by omega) (by omega), this]
  · intro s; simp [f17_0]
theorem f22_eq : f22 = some true := by
  simp [f22, f23_eq, f25_eq, f18_eq, f15_eq, f20_eq, outS, needS, legsS, tab1, sidesS, f17_refl]
def outG (a0 a1 a2 : Int) (i : Nat) (_ : Unit) (_ : Unit) : Option (Unit ⊕ (Unit ⊕ (Int × Bool))) :=
  bif ((needS a0 a1 i).2 && (decide ((needS a0 a1 i).1 = 0) || decide ((needS a0 a1 i).1 = a2))) then some (.inr (.inr ((i : Int), true))) else some (.inl ())
theorem f24_for (a0 a1 a2 : Int) : f24 a0 a1 a2 = onInl (forL (outG a0 a1 a2) (fun _ => .inl ()) [(), (), (), ()] 0 ()) fun _ => some (0, false) := by
  unfold f24
  rw [← loop_for (step := f24_0 a0 a1 a2) (fun (i : Nat) (_ : Unit) => (i : Int))]
  · rfl
  · intro i x l h
    have hi : i < 4 := lt_of_get h
    simp only [f24_0, show decide ((i : Int) < 4) = true by simp; omega, cond_true, f26_eq, Option.bind_some, outG]
    cases ((needS a0 a1 i).2 && (decide ((needS a0 a1 i).1 = 0) || decide ((needS a0 a1 i).1 = a2)))
    · simp [w64_of (n := (i : Int) + 1) (by omega) (by omega)]
    · rfl
  · intro l; simp [f24_0]
theorem f24_eq (a0 a1 a2 : Int) : f24 a0 a1 a2 = some (outS a0 a1 a2) := by
  rw [f24_for]
  rcases kinds a0 with rfl | rfl | rfl | ⟨h1, h2, h3, h4, h5, h6⟩ <;> rcases sides4 a1 with rfl | rfl | rfl | rfl | ⟨g0, g1, g2, g3, g4, g5, g6, g7⟩ <;>
    simp [forL, needS, tab1, outG, outS, onInl, onOut, *] <;> (rcases poss a2 with rfl | rfl | ⟨e1, e2⟩ <;> simp [*, onOut])
theorem law3 (a0 a1 : Int) : f3 a0 a1 = some true := by
  have h : (legsS a0 a1).length < 9223372036854775807 := by
    unfold legsS
    (repeat' split) <;> simp
  simp [f3, f15_eq, f16_eq, f18_eq, f19_eq, f20_eq, f21_eq, f22_eq, f17_refl _ h]
theorem law4 (a0 a1 a2 : Int) : f4 a0 a1 a2 = some true := by
  simp [f4, f23_eq, f24_eq, f25_eq, f26_eq, f22_eq]
theorem need_symm (a0 a1 a2 : Int) : needS a0 a1 a2 = needS a0 a2 a1 := by
  rcases kinds a0 with rfl | rfl | rfl | ⟨h1, h2, h3, h4, h5, h6⟩ <;> rcases sides4 a1 with rfl | rfl | rfl | rfl | ⟨g0, g1, g2, g3, g4, g5, g6, g7⟩ <;>
    rcases sides4 a2 with rfl | rfl | rfl | rfl | ⟨e0, e1, e2, e3, e4, e5, e6, e7⟩ <;> simp [needS, tab1, *]
theorem out_back (a0 a1 a3 : Int) : (outS a0 a1 a3).2 = false ∨ (outS a0 (outS a0 a1 a3).1 a3).2 = true ∧ (outS a0 (outS a0 a1 a3).1 a3).1 = a1 := by
  rcases kinds a0 with rfl | rfl | rfl | ⟨h1, h2, h3, h4, h5, h6⟩ <;> rcases sides4 a1 with rfl | rfl | rfl | rfl | ⟨g0, g1, g2, g3, g4, g5, g6, g7⟩ <;>
    rcases poss a3 with rfl | rfl | ⟨e1, e2⟩ <;> simp [outS, tab1, *]
theorem law5 (a0 a1 a2 a3 : Int) : f5 a0 a1 a2 a3 = some true := by
  simp [f5, f23_eq, f25_eq, f22_eq, need_symm a0 a2 a1]
  have := out_back a0 a1 a3
  simp [this, Bool.cond_eq_ite]
theorem pass_iff (a0 a1 a2 a3 : Int) : ((outS a0 a1 a3).2 && decide ((outS a0 a1 a3).1 = a2)) = ((needS a0 a1 a2).2 && (decide ((needS a0 a1 a2).1 = 0) || decide ((needS a0 a1 a2).1 = a3))) := by
  rcases kinds a0 with rfl | rfl | rfl | ⟨h1, h2, h3, h4, h5, h6⟩ <;> rcases sides4 a1 with rfl | rfl | rfl | rfl | ⟨g0, g1, g2, g3, g4, g5, g6, g7⟩ <;> simp [outS, needS, tab1, *] <;>
    rcases poss a3 with rfl | rfl | ⟨k1, k2⟩ <;> rcases sides4 a2 with rfl | rfl | rfl | rfl | ⟨e0, e1, e2, e3, e4, e5, e6, e7⟩ <;> simp [*]
theorem out_range (a0 a1 a3 : Int) : (outS a0 a1 a3).2 = true → ¬ (outS a0 a1 a3).1 = a1 ∧ ¬ (outS a0 a1 a3).1 < 0 ∧ ¬ sidesS a0 ≤ (outS a0 a1 a3).1 := by
  rcases kinds a0 with rfl | rfl | rfl | ⟨h1, h2, h3, h4, h5, h6⟩ <;> rcases sides4 a1 with rfl | rfl | rfl | rfl | ⟨g0, g1, g2, g3, g4, g5, g6, g7⟩ <;> simp [outS, sidesS, tab1, *] <;>
    rcases poss a3 with rfl | rfl | ⟨k1, k2⟩ <;> simp [*]
theorem out_inj (a0 a1 a2 a3 : Int) (h1 : (outS a0 a1 a3).2 = true) (h2 : (outS a0 a2 a3).2 = true) (h : (outS a0 a1 a3).1 = (outS a0 a2 a3).1) : a1 = a2 := by
  have e1 := out_back a0 a1 a3
  have e2 := out_back a0 a2 a3
  rw [h1] at e1
  rw [h2] at e2
  simp only [Bool.true_eq_false, false_or] at e1 e2
  rw [← e1.2, h, e2.2]
theorem law6 (a0 a1 a2 a3 : Int) : f6 a0 a1 a2 a3 = some true := by
  simp only [f6, f23_eq, f25_eq, f15_eq, f22_eq, Option.bind_some, pass_iff, beq_self_eq_true, Bool.not_true, cond_false]
  have e1 := out_range a0 a1 a3
  have e2 := out_inj a0 a1 a2 a3
  cases h1 : (outS a0 a1 a3).2
  · simp
  · obtain ⟨n0, n1, n2⟩ := e1 h1
    cases h2 : (outS a0 a2 a3).2
    · simp [n0, n1, n2]
    · by_cases h3 : a1 = a2
      · simp [h3]
        subst h3; simp [n0, n1, n2]
      · have : ¬ (outS a0 a1 a3).1 = (outS a0 a2 a3).1 := fun h => h3 (e2 h1 h2 h)
        simp [n0, n1, n2, h3, this]
theorem f7_1_eq (L : List Int) (h : L.length < 9223372036854775807) (x : Int) : loopO (f7_1 L x) (false, 0) = some (.inl (L.any fun y => decide (y = x))) := by
  have := loop_for (step := f7_1 L x) (fun (i : Nat) (b : Bool) => (b, (i : Int))) (fun _ y b => some (.inl (b || decide (y = x)))) (fun b => .inl b) L false ?_ ?_
  · have h2 : ∀ (M : List Int) (i : Nat) (b : Bool), forL (fun _ (y : Int) b => (some (.inl (b || decide (y = x))) : Option (Bool ⊕ (Bool ⊕ (Int ⊕ (Unit ⊕ Bool)))))) (fun b => .inl b) M i b = some (.inl (b || M.any fun y => decide (y = x))) := by
      intro M
      induction M with
      | nil => intro i b; simp [forL]
      | cons y ys ih => intro i b; simp [forL, ih, Bool.or_assoc]
    rw [h2, Bool.false_or] at this
    exact this
  · intro i y b hy
    have := lt_of_get hy
    simp [f7_1, ixO_nat hy, w64_of (n := (i : Int) + 1) (by omega) (by omega), this]
  · intro b; simp [f7_1]
theorem legs_any (a0 a1 x : Int) : (needS a0 a1 x).2 = (legsS a0 a1).any fun y => decide (y = x) := by
  rcases kinds a0 with rfl | rfl | rfl | ⟨h1, h2, h3, h4, h5, h6⟩ <;> rcases sides4 a1 with rfl | rfl | rfl | rfl | ⟨g0, g1, g2, g3, g4, g5, g6, g7⟩ <;> simp [needS, legsS, tab1, *] <;>
    rcases sides4 x with rfl | rfl | rfl | rfl | ⟨e0, e1, e2, e3, e4, e5, e6, e7⟩ <;> simp [*]
theorem legs_len (a0 a1 : Int) : (legsS a0 a1).length ≤ 2 := by
  unfold legsS
  (repeat' split) <;> simp
theorem f7_0_eq (a0 a1 x : Int) (h1 : -10 ≤ x) (h2 : x ≤ 4) : f7_0 a0 a1 (legsS a0 a1) x = some (.inl (x + 1)) := by
  have := legs_len a0 a1
  simp [f7_0, h2, f7_1_eq _ (show (legsS a0 a1).length < 9223372036854775807 by omega), f25_eq, legs_any, onInl, onOut, w64_of (n := x + 1) (by omega) (by omega)]
theorem f7_0_loop (a0 a1 : Int) : loopO (f7_0 a0 a1 (legsS a0 a1)) (-1) = some (.inl ()) := by
  rw [loop_more (f7_0_eq a0 a1 (-1) (by omega) (by omega)), loop_more (f7_0_eq a0 a1 (-1 + 1) (by omega) (by omega)), loop_more (f7_0_eq a0 a1 (-1 + 1 + 1) (by omega) (by omega)), loop_more (f7_0_eq a0 a1 (-1 + 1 + 1 + 1) (by omega) (by omega)),
    loop_more (f7_0_eq a0 a1 (-1 + 1 + 1 + 1 + 1) (by omega) (by omega)), loop_more (f7_0_eq a0 a1 (-1 + 1 + 1 + 1 + 1 + 1) (by omega) (by omega))]
  exact loop_done (by simp [f7_0])
theorem law7 (a0 a1 : Int) : f7 a0 a1 = some true := by
  simp only [f7, f18_eq, f15_eq, f20_eq, f22_eq, Option.bind_some, f7_0_loop, onInl, onOut]
  rcases kinds a0 with rfl | rfl | rfl | ⟨h1, h2, h3, h4, h5, h6⟩ <;> rcases sides5 a1 with rfl | rfl | rfl | rfl | ⟨h0, g0, g1, g2, g3⟩ | ⟨h0, g0, g1, g2, g3, g4, g5, g6⟩ <;> simp [sidesS, legsS, Bool.cond_eq_ite, *]
end PM
