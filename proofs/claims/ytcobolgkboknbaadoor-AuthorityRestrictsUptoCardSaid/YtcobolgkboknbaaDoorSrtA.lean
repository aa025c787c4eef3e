/-
  PLAIN, SORT A: slices.SortStableFunc at linked balises, in order of coordinates and numbers: the pieces (insertion, exchange, rotation, search).
-/
import Derived.Test.YtcobolgkboknbaaDoorDen
namespace PM
open Go Go.RowKit

def ltL (x y : T_api_Linked) : Prop := x.At < y.At ∨ (x.At = y.At ∧ x.Id < y.Id)
instance (x y : T_api_Linked) : Decidable (ltL x y) := by unfold ltL; infer_instance
def leL (x y : T_api_Linked) : Prop := ¬ ltL y x
theorem leL_refl (x : T_api_Linked) : leL x x := by unfold leL ltL; omega
theorem leL_trans {x y z : T_api_Linked} (h : leL x y) (g : leL y z) : leL x z := by unfold leL ltL at *; omega
theorem leL_of_lt {x y : T_api_Linked} (h : ltL x y) : leL x y := by unfold leL ltL at *; omega
theorem lt_of_le_lt {x y z : T_api_Linked} (h : leL x y) (g : ltL y z) : ltL x z := by unfold leL ltL at *; omega
theorem leL_antisymm {x y : T_api_Linked} (h : leL x y) (g : leL y x) : x = y := by
  cases x; cases y
  unfold leL ltL at *
  simp only [T_api_Linked.mk.injEq] at *
  omega
theorem Compare_eq (a b : Int) : d_cmp_Compare_int a b = some (if a < b then -1 else if b < a then 1 else 0) := by
  unfold d_cmp_Compare_int d_cmp_isNaN_int
  simp only [decide_true, Bool.not_true, Option.bind_some, cond_false]
  by_cases h1 : a < b
  · simp [h1]
  · by_cases h2 : b < a <;> simp [h1, h2]
theorem Or_eq (a b : Int) : d_cmp_Or_int [a, b] = some (if a = 0 then b else a) := by
  unfold d_cmp_Or_int
  have i0 : ixO [a, b] 0 = some a := rfl
  have i1 : ixO [a, b] 1 = some b := rfl
  by_cases ha : a = 0
  · subst ha
    rw [loop_more (s' := (1 : Int)) (by simp only [d_cmp_Or_int_0, i0, Option.bind_some]; rfl)]
    by_cases hb : b = 0
    · subst hb
      rw [loop_more (s' := (2 : Int)) (by simp only [d_cmp_Or_int_0, i1, Option.bind_some]; rfl), loop_done (r := .inl ()) (by rfl)]
      rfl
    · rw [loop_done (r := .inr b) (by simp only [d_cmp_Or_int_0, i1, Option.bind_some, decide_eq_false hb]; rfl)]
      simp [onInl, onOut]
  · rw [loop_done (r := .inr a) (by simp only [d_cmp_Or_int_0, i0, Option.bind_some, decide_eq_false ha]; rfl)]
    simp [onInl, onOut, ha]
theorem cmp_eq (x y : T_api_Linked) : ∃ r : Int, d_linking_Of_c1 x y = some r ∧ decide (r < 0) = decide (ltL x y) := by
  unfold d_linking_Of_c1
  rw [Compare_eq, Compare_eq]
  simp only [Option.bind_some, Or_eq]
  refine ⟨_, rfl, decide_eq_decide.2 ?_⟩
  unfold ltL
  (repeat' split) <;> omega

section
variable {α : Type}
theorem xix {N i : Nat} (h : i < N) : xixO 0 N (i : Int) = some i := by
  unfold xixO
  rw [if_pos (by omega)]
  simp
theorem xld {D : List α} {N i : Nat} {x : α} (hN : D.length = N) (h : D[i]? = some x) : xldO D N i = some x := by
  unfold xldO
  rw [if_pos hN, h]
theorem at_app (A : List α) (x : α) (B : List α) : (A ++ x :: B)[A.length]? = some x := by simp
theorem at_app1 (A : List α) (x y : α) (B : List α) : (A ++ x :: y :: B)[A.length + 1]? = some y := by
  rw [List.getElem?_append_right (by omega)]; simp
theorem swap_app (A : List α) (x y : α) (B : List α) : ((A ++ x :: y :: B).set (A.length + 1) x).set A.length y = A ++ y :: x :: B := by
  rw [List.set_append_right _ _ (by omega), Nat.add_sub_cancel_left, List.set_append_right _ _ (by omega), Nat.sub_self]; rfl
theorem swap_app' (A : List α) (x y : α) (B : List α) : ((A ++ x :: y :: B).set A.length y).set (A.length + 1) x = A ++ y :: x :: B := by
  rw [List.set_append_right _ _ (by omega), Nat.sub_self, List.set_append_right _ _ (by omega), Nat.add_sub_cancel_left]; rfl
end
theorem w64s {i : Nat} (h : i < 1048577) : w64 (((i + 1 : Nat) : Int) - 1) = (i : Int) := by rw [w64_of (by omega) (by omega)]; omega
theorem w64p {i : Nat} (h : i < 1048577) : w64 ((i : Int) + 1) = ((i + 1 : Nat) : Int) := w64n (by omega)
theorem w64a {i j : Nat} (h : i < 1048577) (h2 : j < 1048577) : w64 ((i : Int) + (j : Int)) = ((i + j : Nat) : Int) := by rw [w64_of (by omega) (by omega)]; omega
theorem w64d {i j : Nat} (h : i < 4194304) (h2 : j ≤ i) : w64 ((i : Int) - (j : Int)) = ((i - j : Nat) : Int) := by rw [w64_of (by omega) (by omega)]; omega
theorem half {i j : Nat} (h : i < 1048577) (h2 : j < 1048577) : w64 ((IntKind.u64.wrap (w64 ((i : Int) + (j : Int)))).fdiv 2) = (((i + j) / 2 : Nat) : Int) := by
  rw [w64a h h2, IntWalk.u64_in _ ⟨by omega, by omega⟩]
  rw [Int.fdiv_eq_ediv_of_nonneg _ (by omega), w64_of (by omega) (by omega)]
  omega

theorem cell_len (a : List T_api_Linked) : (a.map cellsOf).length = a.length := List.length_map _
theorem ins_loop (a0 P Q : List T_api_Linked) (hL : a0.length ≤ 1048576) : ∀ (n : Nat) (S1 S2 : List T_api_Linked) (x : T_api_Linked), S1.length = n → (P ++ S1 ++ x :: (S2 ++ Q)).length = a0.length → (S1 ++ S2).Pairwise leL → (∀ y ∈ S2, ltL x y) →
    ∃ M, loopO (d_slices_insertionSortCmpFunc_api_Linked_1 a0 (P.length : Int)) (((P.length + S1.length : Nat) : Int), P ++ S1 ++ x :: (S2 ++ Q)) = some (.inl (P ++ M ++ Q)) ∧ M.Perm (x :: (S1 ++ S2)) ∧ M.Pairwise leL := by
  intro n
  induction n with
  | zero =>
    intro S1 S2 x hn hlen hs hx
    have : S1 = [] := List.eq_nil_of_length_eq_zero hn
    subst this
    refine ⟨x :: S2, ?_, List.Perm.refl _, ?_⟩
    · rw [loop_done (r := .inl (P ++ [] ++ x :: (S2 ++ Q))) (by
        simp only [d_slices_insertionSortCmpFunc_api_Linked_1, List.length_nil, Nat.add_zero, decide_eq_false (show ¬ ((P.length : Int) < (P.length : Int)) by omega), cond_false, Option.bind_some])]
      simp
    · rw [List.pairwise_cons]
      exact ⟨fun y hy => leL_of_lt (hx y hy), by simpa using hs⟩
  | succ n ih =>
    intro S1 S2 x hn hlen hs hx
    obtain ⟨S, y, rfl⟩ : ∃ S y, S1 = S ++ [y] := by
      rcases List.eq_nil_or_concat S1 with e | ⟨S, y, e⟩
      · subst e; cases hn
      · exact ⟨S, y, by simpa using e⟩
    have hSn : S.length = n := by simpa using hn
    have hD : P ++ (S ++ [y]) ++ x :: (S2 ++ Q) = (P ++ S) ++ y :: x :: (S2 ++ Q) := by simp
    have hlen' : ((P ++ S) ++ y :: x :: (S2 ++ Q)).length = a0.length := by rw [← hD]; exact hlen
    have hA : (P ++ S).length = P.length + S.length := by simp
    have hb : P.length + S.length + 1 < a0.length := by rw [← hlen']; simp; omega
    have i1 := xix hb
    have i0 := xix (N := a0.length) (i := P.length + S.length) (by omega)
    have g1 : ((P ++ S) ++ y :: x :: (S2 ++ Q))[P.length + S.length + 1]? = some x := by rw [← hA]; exact at_app1 _ _ _ _
    have g0 : ((P ++ S) ++ y :: x :: (S2 ++ Q))[P.length + S.length]? = some y := by rw [← hA]; exact at_app _ _ _
    obtain ⟨r, hr, hd⟩ := cmp_eq x y
    have hj : P.length + (S ++ [y]).length = P.length + S.length + 1 := by simp; omega
    rw [hD, hj]
    by_cases hlt : ltL x y
    · obtain ⟨M, m1, m2, m3⟩ := ih S (y :: S2) x hSn (by rw [← hlen']; simp) (by simpa using hs) (fun z hz => by
        rcases List.mem_cons.1 hz with rfl | hz
        · exact hlt
        · exact hx z hz)
      refine ⟨M, ?_, m2.trans (by simp), m3⟩
      rw [loop_more (s' := (((P.length + S.length : Nat) : Int), P ++ S ++ x :: (y :: S2 ++ Q))) ?_]
      · exact m1
      · have e1 : decide ((P.length : Int) < ((P.length + S.length + 1 : Nat) : Int)) = true := decide_eq_true (by omega)
        have hsw := swap_app (P ++ S) y x (S2 ++ Q)
        rw [hA] at hsw
        have hl2 : (((P ++ S) ++ y :: x :: (S2 ++ Q)).set (P.length + S.length + 1) y).length = a0.length := by rw [List.length_set]; exact hlen'
        have g2 : (((P ++ S) ++ y :: x :: (S2 ++ Q)).set (P.length + S.length + 1) y)[P.length + S.length]? = some y := by
          rw [List.getElem?_set_ne (by omega)]; exact g0
        simp only [d_slices_insertionSortCmpFunc_api_Linked_1, cell_len, e1, cond_true, w64s (show P.length + S.length < 1048577 by omega), i1, i0, Option.bind_some, xld hlen' g1, xld hlen' g0, hr, hd, decide_eq_true hlt, xld hl2 g2]
        rw [hsw]; simp
    · refine ⟨S ++ y :: x :: S2, ?_, ?_, ?_⟩
      · rw [loop_done (r := .inl ((P ++ S) ++ y :: x :: (S2 ++ Q))) ?_]
        · simp
        · have e1 : decide ((P.length : Int) < ((P.length + S.length + 1 : Nat) : Int)) = true := decide_eq_true (by omega)
          simp only [d_slices_insertionSortCmpFunc_api_Linked_1, cell_len, e1, cond_true, w64s (show P.length + S.length < 1048577 by omega), i1, i0, Option.bind_some, xld hlen' g1, xld hlen' g0, hr, hd, decide_eq_false hlt, cond_false]
      · have : (S ++ y :: x :: S2).Perm (x :: (S ++ y :: S2)) := by
          have := @List.perm_middle _ x (S ++ [y]) S2
          simpa using this
        simpa using this
      · have hs' : (S ++ y :: S2).Pairwise leL := by simpa using hs
        rw [List.pairwise_append] at hs' ⊢
        obtain ⟨q1, q2, q3⟩ := hs'
        rw [List.pairwise_cons] at q2
        refine ⟨q1, ?_, fun u hu v hv => ?_⟩
        · rw [List.pairwise_cons, List.pairwise_cons]
          refine ⟨fun z hz => ?_, fun z hz => leL_of_lt (hx z hz), q2.2⟩
          rcases List.mem_cons.1 hz with rfl | hz
          · exact hlt
          · exact q2.1 z hz
        · rcases List.mem_cons.1 hv with rfl | hv
          · exact q3 u hu _ (by simp)
          · rcases List.mem_cons.1 hv with rfl | hv
            · exact leL_trans (q3 u hu y (by simp)) hlt
            · exact q3 u hu v (by simp [hv])
theorem insSort_outer (a0 P Q : List T_api_Linked) (hL : a0.length ≤ 1048576) (b : Nat) : ∀ (R S : List T_api_Linked), S ≠ [] → b = P.length + S.length + R.length → (P ++ S ++ (R ++ Q)).length = a0.length → S.Pairwise leL →
    ∃ M, loopO (d_slices_insertionSortCmpFunc_api_Linked_0 a0 (P.length : Int) (b : Int)) (((P.length + S.length : Nat) : Int), P ++ S ++ (R ++ Q)) = some (.inl (P ++ M ++ Q)) ∧ M.Perm (S ++ R) ∧ M.Pairwise leL := by
  intro R
  induction R with
  | nil =>
    intro S hS hb hlen hs
    refine ⟨S, ?_, by simp, hs⟩
    rw [loop_done (r := .inl (P ++ S ++ ([] ++ Q))) (by
      simp only [d_slices_insertionSortCmpFunc_api_Linked_0, decide_eq_false (show ¬ (((P.length + S.length : Nat) : Int) < (b : Int)) by simp at hb; omega), cond_false])]
    simp
  | cons x R ih =>
    intro S hS hb hlen hs
    have hlen1 : (P ++ S ++ x :: ([] ++ (R ++ Q))).length = a0.length := by rw [← hlen]; simp
    obtain ⟨M, m1, m2, m3⟩ := ins_loop a0 P (R ++ Q) hL S.length S [] x rfl hlen1 (by simpa using hs) (fun y hy => by cases hy)
    have hMl : M.length = S.length + 1 := by rw [m2.length_eq]; simp
    have hM : M ≠ [] := fun e => by rw [e] at hMl; simp at hMl
    have hbl : b ≤ 1048576 := by
      simp only [List.length_append, List.length_cons] at hlen hb; omega
    obtain ⟨M2, n1, n2, n3⟩ := ih M hM (by rw [hMl]; simp at hb; omega) (by rw [← hlen]; simp [hMl]; omega) m3
    refine ⟨M2, ?_, n2.trans ?_, n3⟩
    · rw [loop_more (s' := (((P.length + M.length : Nat) : Int), P ++ M ++ (R ++ Q))) ?_]
      · exact n1
      · have e1 : decide (((P.length + S.length : Nat) : Int) < (b : Int)) = true := decide_eq_true (by simp at hb; omega)
        simp only [List.nil_append] at m1
        simp only [d_slices_insertionSortCmpFunc_api_Linked_0, e1, cond_true, List.cons_append]
        rw [m1]
        simp only [onInl, onOut, Option.bind_some, w64p (show P.length + S.length < 1048577 by simp at hb; omega), hMl]
        rfl
    · have : (M ++ R).Perm ((x :: (S ++ [])) ++ R) := m2.append_right R
      refine this.trans ?_
      simp only [List.append_nil, List.cons_append]
      exact (List.perm_middle).symm
theorem insSort_is (P X Q : List T_api_Linked) (hL : (P ++ X ++ Q).length ≤ 1048576) : ∃ M, d_slices_insertionSortCmpFunc_api_Linked__linking_Of_c1 (P ++ X ++ Q) (P.length : Int) ((P.length + X.length : Nat) : Int) = some (P ++ M ++ Q) ∧ M.Perm X ∧ M.Pairwise leL := by
  unfold d_slices_insertionSortCmpFunc_api_Linked__linking_Of_c1
  have hb : P.length < 1048577 := by simp only [List.length_append] at hL; omega
  rw [w64p hb]
  cases X with
  | nil =>
    refine ⟨[], ?_, List.Perm.refl _, List.Pairwise.nil⟩
    rw [loop_done (r := .inl (P ++ [] ++ Q)) (by
      simp only [d_slices_insertionSortCmpFunc_api_Linked_0, List.length_nil, decide_eq_false (show ¬ (((P.length + 1 : Nat) : Int) < ((P.length + 0 : Nat) : Int)) by omega), cond_false])]
    rfl
  | cons x R =>
    obtain ⟨M, m1, m2, m3⟩ := insSort_outer (P ++ x :: R ++ Q) P Q hL (P.length + (x :: R).length) R [x] (by simp) (by simp; omega) (by simp) (by simp)
    refine ⟨M, ?_, by simpa using m2, m3⟩
    have e : P ++ x :: R ++ Q = P ++ [x] ++ (R ++ Q) := by simp
    have e2 : P.length + [x].length = P.length + 1 := rfl
    rw [e2] at m1
    rw [show (P ++ x :: R ++ Q) = P ++ [x] ++ (R ++ Q) from e] at m1 ⊢
    rw [m1]; rfl

theorem swapRange_loop (a0 : List T_api_Linked) (hL : a0.length ≤ 1048576) (a b n : Nat) : ∀ (X Y : List T_api_Linked) (A B Q : List T_api_Linked) (i : Nat), X.length = Y.length → i + X.length = n → A.length = a + i → A.length + X.length + B.length = b + i → (A ++ X ++ B ++ Y ++ Q).length = a0.length →
    loopO (d_slices_swapRangeCmpFunc_api_Linked_0 a0 (a : Int) (b : Int) (n : Int)) ((i : Int), A ++ X ++ B ++ Y ++ Q) = some (.inl (A ++ Y ++ B ++ X ++ Q)) := by
  intro X
  induction X with
  | nil =>
    intro Y A B Q i hxy hi ha hb hlen
    have : Y = [] := List.eq_nil_of_length_eq_zero hxy.symm
    subst this
    rw [loop_done (r := .inl (A ++ [] ++ B ++ [] ++ Q)) (by
      simp only [d_slices_swapRangeCmpFunc_api_Linked_0, decide_eq_false (show ¬ ((i : Int) < (n : Int)) by simp at hi; omega), cond_false])]
  | cons x X ih =>
    intro Y A B Q i hxy hi ha hb hlen
    cases Y with
    | nil => cases hxy
    | cons y Y =>
      have hxy' : X.length = Y.length := by simpa using hxy
      simp only [List.length_cons] at hi hb
      have hlen0 := hlen
      simp only [List.length_append, List.length_cons] at hlen
      -- the places
      have e0 : A ++ x :: X ++ B ++ y :: Y ++ Q = A ++ x :: (X ++ B ++ y :: (Y ++ Q)) := by simp
      have e1 : A ++ x :: X ++ B ++ y :: Y ++ Q = (A ++ x :: (X ++ B)) ++ y :: (Y ++ Q) := by simp
      have hA1 : (A ++ x :: (X ++ B)).length = b + i := by simp; omega
      have gb : (A ++ x :: X ++ B ++ y :: Y ++ Q)[b + i]? = some y := by rw [e1, ← hA1]; exact at_app _ _ _
      have ga : (A ++ x :: X ++ B ++ y :: Y ++ Q)[a + i]? = some x := by rw [e0, ← ha]; exact at_app _ _ _
      have s1 : (A ++ x :: X ++ B ++ y :: Y ++ Q).set (a + i) y = A ++ y :: (X ++ B ++ y :: (Y ++ Q)) := by
        rw [e0, ← ha, List.set_append_right _ _ (Nat.le_refl _), Nat.sub_self]; rfl
      have s2 : (A ++ y :: (X ++ B ++ y :: (Y ++ Q))).set (b + i) x = (A ++ [y]) ++ X ++ (B ++ [x]) ++ Y ++ Q := by
        have e3 : A ++ y :: (X ++ B ++ y :: (Y ++ Q)) = (A ++ y :: (X ++ B)) ++ y :: (Y ++ Q) := by simp
        have hA3 : (A ++ y :: (X ++ B)).length = b + i := by simp; omega
        rw [e3, ← hA3, List.set_append_right _ _ (Nat.le_refl _), Nat.sub_self]
        simp
      have g3 : (A ++ y :: (X ++ B ++ y :: (Y ++ Q)))[b + i]? = some y := by
        have e3 : A ++ y :: (X ++ B ++ y :: (Y ++ Q)) = (A ++ y :: (X ++ B)) ++ y :: (Y ++ Q) := by simp
        have hA3 : (A ++ y :: (X ++ B)).length = b + i := by simp; omega
        rw [e3, ← hA3]; exact at_app _ _ _
      have l1 : (A ++ y :: (X ++ B ++ y :: (Y ++ Q))).length = a0.length := by rw [← hlen0]; simp
      have hstep : d_slices_swapRangeCmpFunc_api_Linked_0 a0 (a : Int) (b : Int) (n : Int) ((i : Int), A ++ x :: X ++ B ++ y :: Y ++ Q) = some (.inl (((i + 1 : Nat) : Int), (A ++ [y]) ++ X ++ (B ++ [x]) ++ Y ++ Q)) := by
        simp only [d_slices_swapRangeCmpFunc_api_Linked_0, cell_len, decide_eq_true (show (i : Int) < (n : Int) by omega), cond_true, w64a (show b < 1048577 by omega) (show i < 1048577 by omega), w64a (show a < 1048577 by omega) (show i < 1048577 by omega),
          xix (show b + i < a0.length by omega), xix (show a + i < a0.length by omega), Option.bind_some, xld hlen0 gb, xld hlen0 ga, s1, xld l1 g3, s2, w64p (show i < 1048577 by omega)]
      rw [loop_more hstep]
      have := ih Y (A ++ [y]) (B ++ [x]) Q (i + 1) hxy' (by omega) (by simp; omega) (by simp; omega) (by simp; omega)
      rw [this]
      simp
theorem swapRange_eq (A X B Y Q : List T_api_Linked) (hL : (A ++ X ++ B ++ Y ++ Q).length ≤ 1048576) (hxy : X.length = Y.length) :
    d_slices_swapRangeCmpFunc_api_Linked__linking_Of_c1 (A ++ X ++ B ++ Y ++ Q) (A.length : Int) ((A.length + X.length + B.length : Nat) : Int) (X.length : Int) = some (A ++ Y ++ B ++ X ++ Q) := by
  unfold d_slices_swapRangeCmpFunc_api_Linked__linking_Of_c1
  have := swapRange_loop (A ++ X ++ B ++ Y ++ Q) hL A.length (A.length + X.length + B.length) X.length X Y A B Q 0 hxy (by omega) (by omega) (by omega) rfl
  rw [show ((0 : Nat) : Int) = 0 from rfl] at this
  rw [this]; rfl

theorem rotate_loop (m : Nat) (hm : m ≤ 1048576) : ∀ (n : Nat) (U V A Q : List T_api_Linked), U.length + V.length ≤ n → 0 < U.length → 0 < V.length → A.length + U.length = m → (A ++ U ++ V ++ Q).length ≤ 1048576 →
    ∃ (A' U' V' Q' : List T_api_Linked), loopO (d_slices_rotateCmpFunc_api_Linked_0 (m : Int)) ((U.length : Int), A ++ U ++ V ++ Q, (V.length : Int)) = some (.inl (A' ++ U' ++ V' ++ Q', (U'.length : Int))) ∧ U'.length = V'.length ∧ 0 < U'.length ∧ A'.length + U'.length = m ∧ A' ++ V' ++ U' ++ Q' = A ++ V ++ U ++ Q ∧ (A' ++ U' ++ V' ++ Q').length = (A ++ U ++ V ++ Q).length := by
  intro n
  induction n with
  | zero => intro U V A Q h h1 h2; omega
  | succ n ih =>
    intro U V A Q h h1 h2 ha hL
    have hlen := hL
    simp only [List.length_append] at hlen
    by_cases e : U.length = V.length
    · refine ⟨A, U, V, Q, ?_, e, h1, ha, rfl, rfl⟩
      rw [loop_done (r := .inl (A ++ U ++ V ++ Q, (U.length : Int))) (by
        simp only [d_slices_rotateCmpFunc_api_Linked_0, decide_eq_true (show (U.length : Int) = (V.length : Int) by omega), Bool.not_true, cond_false])]
    · have en : decide ((U.length : Int) = (V.length : Int)) = false := decide_eq_false (by omega)
      by_cases hlt : V.length < U.length
      · -- the first part of U changes places with V
        have hU : U = U.take V.length ++ U.drop V.length := (List.take_append_drop _ _).symm
        have t1 : (U.take V.length).length = V.length := by simp; omega
        have t2 : (U.drop V.length).length = U.length - V.length := by simp
        have hsw := swapRange_eq A (U.take V.length) (U.drop V.length) V Q (by rw [List.append_assoc A, ← hU]; exact hL) t1
        rw [List.append_assoc A, ← hU, t1, t2] at hsw
        have e2 : A.length + V.length + (U.length - V.length) = m := by omega
        rw [e2] at hsw
        obtain ⟨A', U', V', Q', k1, k2, k3, k4, k5, k6⟩ := ih (U.drop V.length) (U.take V.length) (A ++ V) Q (by omega) (by omega) (by omega) (by simp; omega) (by simp; omega)
        rw [t1, t2] at k1
        refine ⟨A', U', V', Q', ?_, k2, k3, k4, ?_, ?_⟩
        · rw [loop_more (s' := (((U.length - V.length : Nat) : Int), A ++ V ++ U.drop V.length ++ U.take V.length ++ Q, (V.length : Int))) ?_]
          · exact k1
          · have e3 : m - U.length = A.length := by omega
            simp only [d_slices_rotateCmpFunc_api_Linked_0, en, Bool.not_false, cond_true, decide_eq_true (show (V.length : Int) < (U.length : Int) by omega), w64d (show m < 4194304 by omega) (show U.length ≤ m by omega), e3, hsw, Option.bind_some, w64d (show U.length < 4194304 by omega) (show V.length ≤ U.length by omega)]
        · rw [k5, List.append_assoc (A ++ V), List.take_append_drop]
        · rw [k6]; simp; omega
      · -- U changes places with the last part of V
        have hV : V = V.take (V.length - U.length) ++ V.drop (V.length - U.length) := (List.take_append_drop _ _).symm
        have t1 : (V.take (V.length - U.length)).length = V.length - U.length := by simp
        have t2 : (V.drop (V.length - U.length)).length = U.length := by simp; omega
        have hD : A ++ U ++ V ++ Q = A ++ U ++ V.take (V.length - U.length) ++ V.drop (V.length - U.length) ++ Q := by
          rw [List.append_assoc (A ++ U) (V.take _), ← hV]
        have hsw := swapRange_eq A U (V.take (V.length - U.length)) (V.drop (V.length - U.length)) Q (by rw [← hD]; exact hL) t2.symm
        rw [← hD, t1] at hsw
        obtain ⟨A', U', V', Q', k1, k2, k3, k4, k5, k6⟩ := ih (V.drop (V.length - U.length)) (V.take (V.length - U.length)) A (U ++ Q) (by omega) (by omega) (by omega) (by omega) (by simp; omega)
        rw [t1, t2] at k1
        refine ⟨A', U', V', Q', ?_, k2, k3, k4, ?_, ?_⟩
        · rw [loop_more (s' := ((U.length : Int), A ++ V.drop (V.length - U.length) ++ V.take (V.length - U.length) ++ (U ++ Q), ((V.length - U.length : Nat) : Int))) ?_]
          · exact k1
          · have e3 : m - U.length = A.length := by omega
            have e4 : w64 ((w64 ((m : Int) + (V.length : Int))) - (U.length : Int)) = ((A.length + U.length + (V.length - U.length) : Nat) : Int) := by
              rw [w64a (by omega) (by omega), w64d (by omega) (by omega)]; omega
            simp only [d_slices_rotateCmpFunc_api_Linked_0, en, Bool.not_false, cond_true, decide_eq_false (show ¬ (V.length : Int) < (U.length : Int) by omega), cond_false, w64d (show m < 4194304 by omega) (show U.length ≤ m by omega), e3, e4, hsw, Option.bind_some, w64d (show V.length < 4194304 by omega) (show U.length ≤ V.length by omega)]
            simp
        · rw [k5, List.append_assoc A, ← hV]; simp
        · rw [k6]; simp; omega
theorem rotate_eq (A U V Q : List T_api_Linked) (hL : (A ++ U ++ V ++ Q).length ≤ 1048576) (h1 : 0 < U.length) (h2 : 0 < V.length) :
    d_slices_rotateCmpFunc_api_Linked__linking_Of_c1 (A ++ U ++ V ++ Q) (A.length : Int) ((A.length + U.length : Nat) : Int) ((A.length + U.length + V.length : Nat) : Int) = some (A ++ V ++ U ++ Q) := by
  unfold d_slices_rotateCmpFunc_api_Linked__linking_Of_c1
  have hlen := hL
  simp only [List.length_append] at hlen
  obtain ⟨A', U', V', Q', k1, k2, k3, k4, k5, k6⟩ := rotate_loop (A.length + U.length) (by omega) (U.length + V.length) U V A Q (Nat.le_refl _) h1 h2 rfl hL
  rw [w64d (by omega) (by omega), w64d (by omega) (by omega), show A.length + U.length - A.length = U.length by omega, show A.length + U.length + V.length - (A.length + U.length) = V.length by omega, k1]
  have hlen' : (A' ++ U' ++ V' ++ Q').length ≤ 1048576 := by rw [k6]; exact hL
  have hsw := swapRange_eq A' U' [] V' Q' (by simpa using hlen') k2
  simp only [List.append_nil, List.length_nil, Nat.add_zero] at hsw
  rw [k4] at hsw
  simp only [onInl, onOut, Option.bind_some]
  rw [w64d (by omega) (by omega), show A.length + U.length - U'.length = A'.length by omega, hsw, k5]
  rfl

theorem bsearch {β : Type} {step : Int × Int → Option ((Int × Int) ⊕ (Int ⊕ β))} (p : Nat → Prop) [DecidablePred p] (lo hi : Nat) (hmono : ∀ h k, lo ≤ h → h ≤ k → k < hi → p k → p h)
    (hs : ∀ i j : Nat, lo ≤ i → i < j → j ≤ hi → step ((i : Int), (j : Int)) = some (.inl (if p ((i + j) / 2) then ((((i + j) / 2 + 1 : Nat) : Int), (j : Int)) else ((i : Int), (((i + j) / 2 : Nat) : Int)))))
    (he : ∀ i : Nat, step ((i : Int), (i : Int)) = some (.inr (.inl (i : Int)))) : lo ≤ hi → ∃ s : Nat, lo ≤ s ∧ s ≤ hi ∧ loopO step ((lo : Int), (hi : Int)) = some (.inl (s : Int)) ∧ (∀ h, lo ≤ h → h < s → p h) ∧ ∀ h, s ≤ h → h < hi → ¬ p h := by
  suffices ∀ n i j : Nat, j - i ≤ n → lo ≤ i → i ≤ j → j ≤ hi → (∀ h, lo ≤ h → h < i → p h) → (∀ h, j ≤ h → h < hi → ¬ p h) → ∃ s : Nat, lo ≤ s ∧ s ≤ hi ∧ loopO step ((i : Int), (j : Int)) = some (.inl (s : Int)) ∧ (∀ h, lo ≤ h → h < s → p h) ∧ ∀ h, s ≤ h → h < hi → ¬ p h from
    fun hlh => this (hi - lo) lo hi (Nat.le_refl _) (Nat.le_refl _) hlh (Nat.le_refl _) (fun h h1 h2 => by omega) (fun h h1 h2 => by omega)
  intro n
  induction n with
  | zero =>
    intro i j hn h1 h2 h3 h4 h5
    have : i = j := by omega
    subst this
    exact ⟨i, h1, h3, loop_done (he i), h4, h5⟩
  | succ n ih =>
    intro i j hn h1 h2 h3 h4 h5
    by_cases hij : i = j
    · subst hij; exact ⟨i, h1, h3, loop_done (he i), h4, h5⟩
    · have hlt : i < j := by omega
      by_cases hp : p ((i + j) / 2)
      · obtain ⟨s, k1, k2, k3, k4, k5⟩ := ih ((i + j) / 2 + 1) j (by omega) (by omega) (by omega) h3 (fun h q1 q2 => hmono h _ q1 (by omega) (by omega) hp) h5
        exact ⟨s, k1, k2, by rw [loop_more (hs i j h1 hlt h3), if_pos hp]; exact k3, k4, k5⟩
      · obtain ⟨s, k1, k2, k3, k4, k5⟩ := ih i ((i + j) / 2) (by omega) h1 (by omega) (by omega) h4 (fun h q1 q2 q3 => hp (hmono _ h (by omega) q1 q2 q3))
        exact ⟨s, k1, k2, by rw [loop_more (hs i j h1 hlt h3), if_neg hp]; exact k3, k4, k5⟩
end PM
