/-
  PLAIN, SORT B: slices.SortStableFunc at linked balises: the merge of two sorted runs, and the whole sort of few balises.
-/
import Derived.Test.YtcobolgkboknbaaDoorSrtA
namespace PM
open Go Go.RowKit

theorem w64d1 {i : Nat} (h : i < 4194304) (h1 : 1 ≤ i) : w64 ((i : Int) - 1) = ((i - 1 : Nat) : Int) := by rw [w64_of (by omega) (by omega)]; omega
theorem sorted_at {X : List T_api_Linked} (hX : X.Pairwise leL) {i j : Nat} {u v : T_api_Linked} (hij : i ≤ j) (hu : X[i]? = some u) (hv : X[j]? = some v) : leL u v := by
  obtain ⟨hi, rfl⟩ := List.getElem?_eq_some_iff.1 hu
  obtain ⟨hj, rfl⟩ := List.getElem?_eq_some_iff.1 hv
  by_cases e : i = j
  · subst e; exact leL_refl _
  · exact List.pairwise_iff_getElem.1 hX i j hi hj (by omega)
theorem gL (P L R Q : List T_api_Linked) {i : Nat} (h : i < L.length) : (P ++ L ++ R ++ Q)[P.length + i]? = L[i]? := by
  rw [List.append_assoc, List.append_assoc, List.getElem?_append_right (by omega), Nat.add_sub_cancel_left, List.getElem?_append_left (by omega)]
theorem gR (P L R Q : List T_api_Linked) {i : Nat} (h : i < R.length) : (P ++ L ++ R ++ Q)[P.length + L.length + i]? = R[i]? := by
  rw [List.append_assoc (P ++ L), List.getElem?_append_right (by simp), show P.length + L.length + i - (P ++ L).length = i by simp, List.getElem?_append_left (by omega)]
theorem shiftR (a0 : List T_api_Linked) (hL : a0.length ≤ 1048576) (x : T_api_Linked) (i : Nat) : ∀ (R A Q : List T_api_Linked), A.length + R.length + 1 = i → (A ++ x :: (R ++ Q)).length = a0.length →
    loopO (d_slices_symMergeCmpFunc_api_Linked_1 a0 (i : Int)) ((A.length : Int), A ++ x :: (R ++ Q)) = some (.inl (A ++ R ++ x :: Q)) := by
  intro R
  induction R with
  | nil =>
    intro A Q hi hlen
    have hb : A.length < 1048577 := by simp at hlen; omega
    rw [loop_done (r := .inl (A ++ x :: ([] ++ Q))) (by
      simp only [d_slices_symMergeCmpFunc_api_Linked_1, ← hi, List.length_nil, Nat.add_zero, w64s hb, decide_eq_false (show ¬ ((A.length : Int) < (A.length : Int)) by omega), cond_false])]
    simp
  | cons y R ih =>
    intro A Q hi hlen
    simp only [List.length_cons] at hi
    have hlen1 : (A ++ x :: y :: (R ++ Q)).length = a0.length := by rw [← hlen]; simp
    have hl2 := hlen1
    simp only [List.length_append, List.length_cons] at hl2
    have g1 : (A ++ x :: y :: (R ++ Q))[A.length + 1]? = some y := at_app1 _ _ _ _
    have g0 : (A ++ x :: y :: (R ++ Q))[A.length]? = some x := at_app _ _ _
    have hl3 : ((A ++ x :: y :: (R ++ Q)).set A.length y).length = a0.length := by rw [List.length_set]; exact hlen1
    have g2 : ((A ++ x :: y :: (R ++ Q)).set A.length y)[A.length + 1]? = some y := by rw [List.getElem?_set_ne (by omega)]; exact g1
    have := ih (A ++ [y]) Q (by simp; omega) (by rw [← hlen]; simp)
    rw [loop_more (s' := (((A ++ [y]).length : Int), (A ++ [y]) ++ x :: (R ++ Q))) ?_, this]
    · simp
    · simp only [d_slices_symMergeCmpFunc_api_Linked_1, cell_len, w64d1 (show i < 4194304 by omega) (by omega), decide_eq_true (show (A.length : Int) < ((i - 1 : Nat) : Int) by omega), cond_true, w64p (show A.length < 1048577 by omega), xix (show A.length + 1 < a0.length by omega), xix (show A.length < a0.length by omega), List.cons_append, Option.bind_some, xld hlen1 g1, xld hlen1 g0, xld hl3 g2, swap_app']
      simp
theorem shiftL (a0 : List T_api_Linked) (hL : a0.length ≤ 1048576) (x : T_api_Linked) (A : List T_api_Linked) : ∀ (n : Nat) (L Q : List T_api_Linked), L.length = n → (A ++ L ++ x :: Q).length = a0.length →
    loopO (d_slices_symMergeCmpFunc_api_Linked_3 a0 (A.length : Int)) (((A.length + L.length : Nat) : Int), A ++ L ++ x :: Q) = some (.inl (A ++ x :: (L ++ Q))) := by
  intro n
  induction n with
  | zero =>
    intro L Q hn hlen
    have : L = [] := List.eq_nil_of_length_eq_zero hn
    subst this
    rw [loop_done (r := .inl (A ++ [] ++ x :: Q)) (by
      simp only [d_slices_symMergeCmpFunc_api_Linked_3, List.length_nil, Nat.add_zero, decide_eq_false (show ¬ ((A.length : Int) < (A.length : Int)) by omega), cond_false])]
    simp
  | succ n ih =>
    intro L Q hn hlen
    obtain ⟨S, y, rfl⟩ : ∃ S y, L = S ++ [y] := by
      rcases List.eq_nil_or_concat L with e | ⟨S, y, e⟩
      · subst e; cases hn
      · exact ⟨S, y, by simpa using e⟩
    have hSn : S.length = n := by simpa using hn
    have hD : A ++ (S ++ [y]) ++ x :: Q = (A ++ S) ++ y :: x :: Q := by simp
    have hlen' : ((A ++ S) ++ y :: x :: Q).length = a0.length := by rw [← hD]; exact hlen
    have hA : (A ++ S).length = A.length + S.length := by simp
    have hb : A.length + S.length + 1 < a0.length := by rw [← hlen']; simp; omega
    have g1 : ((A ++ S) ++ y :: x :: Q)[A.length + S.length + 1]? = some x := by rw [← hA]; exact at_app1 _ _ _ _
    have g0 : ((A ++ S) ++ y :: x :: Q)[A.length + S.length]? = some y := by rw [← hA]; exact at_app _ _ _
    have hj : A.length + (S ++ [y]).length = A.length + S.length + 1 := by simp; omega
    have hl2 : (((A ++ S) ++ y :: x :: Q).set (A.length + S.length + 1) y).length = a0.length := by rw [List.length_set]; exact hlen'
    have g2 : (((A ++ S) ++ y :: x :: Q).set (A.length + S.length + 1) y)[A.length + S.length]? = some y := by
      rw [List.getElem?_set_ne (by omega)]; exact g0
    have hsw := swap_app (A ++ S) y x Q
    rw [hA] at hsw
    have := ih S (y :: Q) hSn (by rw [← hlen']; simp)
    rw [hD, hj, loop_more (s' := (((A.length + S.length : Nat) : Int), A ++ S ++ x :: y :: Q)) ?_, this]
    · simp
    · simp only [d_slices_symMergeCmpFunc_api_Linked_3, cell_len, decide_eq_true (show (A.length : Int) < ((A.length + S.length + 1 : Nat) : Int) by omega), cond_true, w64s (show A.length + S.length < 1048577 by omega), xix hb, xix (show A.length + S.length < a0.length by omega), Option.bind_some, xld hlen' g1, xld hlen' g0, xld hl2 g2, hsw]

theorem N_succ (n : Nat) : d_slices_symMergeCmpFunc_api_Linked__linking_Of_c1_N (n + 1) = d_slices_symMergeCmpFunc_api_Linked__linking_Of_c1_F (d_slices_symMergeCmpFunc_api_Linked__linking_Of_c1_N n) := rfl
theorem mem_take' {α : Type} {L : List α} {k : Nat} {x : α} (h : x ∈ L.take k) : ∃ i, i < k ∧ L[i]? = some x := by
  obtain ⟨i, hi⟩ := List.getElem?_of_mem h
  rw [List.getElem?_take] at hi
  split at hi
  · exact ⟨i, by assumption, hi⟩
  · cases hi
theorem mem_drop' {α : Type} {L : List α} {k : Nat} {x : α} (h : x ∈ L.drop k) : ∃ i, k ≤ i ∧ L[i]? = some x := by
  obtain ⟨i, hi⟩ := List.getElem?_of_mem h
  rw [List.getElem?_drop] at hi
  exact ⟨k + i, by omega, hi⟩
theorem merge1 (rc : List T_api_Linked → Int → Int → Int → Option (List T_api_Linked)) (P R Q : List T_api_Linked) (x : T_api_Linked) (hR : R.Pairwise leL) (hL : (P ++ [x] ++ R ++ Q).length ≤ 1048576) :
    ∃ M, d_slices_symMergeCmpFunc_api_Linked__linking_Of_c1_F rc (P ++ [x] ++ R ++ Q) (P.length : Int) ((P.length + 1 : Nat) : Int) ((P.length + 1 + R.length : Nat) : Int) = some (P ++ M ++ Q) ∧ M.Perm ([x] ++ R) ∧ M.Pairwise leL := by
  have hlen := hL
  simp only [List.length_append, List.length_cons, List.length_nil, Nat.zero_add] at hlen
  have gx : (P ++ [x] ++ R ++ Q)[P.length]? = some x := by simp
  haveI : DecidablePred fun h : Nat => ∃ y, (P ++ [x] ++ R ++ Q)[h]? = some y ∧ ltL y x := fun _ => Classical.propDecidable _
  have hN : (P ++ [x] ++ R ++ Q).length = P.length + 1 + R.length + Q.length := by simp; omega
  obtain ⟨s, s1, s2, s3, s4, s5⟩ := bsearch (step := d_slices_symMergeCmpFunc_api_Linked_0 (P ++ [x] ++ R ++ Q) (P.length : Int)) (fun h : Nat => ∃ y, (P ++ [x] ++ R ++ Q)[h]? = some y ∧ ltL y x) (P.length + 1) (P.length + 1 + R.length)
    (fun h k h1 h2 h3 ⟨y, hy, hyx⟩ => by
      have e1 := gR P [x] R Q (i := h - (P.length + 1)) (by omega)
      have e2 := gR P [x] R Q (i := k - (P.length + 1)) (by omega)
      simp only [List.length_cons, List.length_nil, Nat.zero_add] at e1 e2
      rw [show P.length + 1 + (h - (P.length + 1)) = h by omega] at e1
      rw [show P.length + 1 + (k - (P.length + 1)) = k by omega, hy] at e2
      have hz : R[h - (P.length + 1)]? = some R[h - (P.length + 1)] := List.getElem?_eq_getElem (by omega)
      exact ⟨_, e1.trans hz, lt_of_le_lt (sorted_at hR (by omega) hz e2.symm) hyx⟩)
    (fun i j h1 h2 h3 => by
      have hy : (P ++ [x] ++ R ++ Q)[(i + j) / 2]? = some (P ++ [x] ++ R ++ Q)[(i + j) / 2] := List.getElem?_eq_getElem (by omega)
      obtain ⟨r, hr, hd⟩ := cmp_eq (P ++ [x] ++ R ++ Q)[(i + j) / 2] x
      simp only [d_slices_symMergeCmpFunc_api_Linked_0, cell_len, decide_eq_true (show (i : Int) < (j : Int) by omega), cond_true, half (show i < 1048577 by omega) (show j < 1048577 by omega), xix (show (i + j) / 2 < (P ++ [x] ++ R ++ Q).length by omega), xix (show P.length < (P ++ [x] ++ R ++ Q).length by omega), Option.bind_some, xld rfl hy, xld rfl gx, hr, hd, w64p (show (i + j) / 2 < 1048577 by omega)]
      by_cases hlt : ltL (P ++ [x] ++ R ++ Q)[(i + j) / 2] x
      · rw [decide_eq_true hlt, cond_true, if_pos ⟨_, hy, hlt⟩]
      · rw [decide_eq_false hlt, cond_false, if_neg (fun ⟨y, hy', h⟩ => by rw [hy] at hy'; cases hy'; exact hlt h)])
    (fun i => by simp [d_slices_symMergeCmpFunc_api_Linked_0]) (by omega)
  have hRs : R = R.take (s - (P.length + 1)) ++ R.drop (s - (P.length + 1)) := (List.take_append_drop _ _).symm
  have t1 : (R.take (s - (P.length + 1))).length = s - (P.length + 1) := by simp; omega
  have hsh := shiftR (P ++ [x] ++ R ++ Q) hL x s (R.take (s - (P.length + 1))) P (R.drop (s - (P.length + 1)) ++ Q) (by rw [t1]; omega) (by rw [← List.append_assoc, ← hRs]; simp)
  rw [← List.append_assoc (R.take _), ← hRs] at hsh
  refine ⟨R.take (s - (P.length + 1)) ++ x :: R.drop (s - (P.length + 1)), ?_, ?_, ?_⟩
  · unfold d_slices_symMergeCmpFunc_api_Linked__linking_Of_c1_F
    rw [w64d (show P.length + 1 < 4194304 by omega) (by omega), decide_eq_true (show ((P.length + 1 - P.length : Nat) : Int) = 1 by omega), cond_true, s3]
    simp only [onInl, onOut, Option.bind_some]
    rw [show P ++ [x] ++ R ++ Q = P ++ x :: (R ++ Q) by simp] at hsh ⊢
    rw [hsh]
    simp [onOut]
  · refine List.perm_middle.trans ?_
    rw [← hRs]; rfl
  · have hR' := hR
    rw [hRs, List.pairwise_append] at hR'
    obtain ⟨q1, q2, q3⟩ := hR'
    have at_ : ∀ {i : Nat} {y : T_api_Linked}, R[i]? = some y → (P ++ [x] ++ R ++ Q)[P.length + 1 + i]? = some y := fun {i} {y} hy => by
      have := gR P [x] R Q (i := i) (List.getElem?_eq_some_iff.1 hy).1
      simp only [List.length_cons, List.length_nil, Nat.zero_add] at this
      rw [this, hy]
    rw [List.pairwise_append, List.pairwise_cons]
    refine ⟨q1, ⟨fun y hy => ?_, q2⟩, fun y hy z hz => ?_⟩
    · obtain ⟨i, i1, i2⟩ := mem_drop' hy
      have hil := (List.getElem?_eq_some_iff.1 i2).1
      exact fun hlt => s5 (P.length + 1 + i) (by omega) (by omega) ⟨y, at_ i2, hlt⟩
    · rcases List.mem_cons.1 hz with rfl | hz
      · obtain ⟨i, i1, i2⟩ := mem_take' hy
        obtain ⟨y', hy', hlt⟩ := s4 (P.length + 1 + i) (by omega) (by omega)
        rw [at_ i2] at hy'; cases hy'
        exact leL_of_lt hlt
      · exact q3 y hy z hz
theorem merge2 (rc : List T_api_Linked → Int → Int → Int → Option (List T_api_Linked)) (P L Q : List T_api_Linked) (x : T_api_Linked) (hLs : L.Pairwise leL) (hl1 : L.length ≠ 1) (hL : (P ++ L ++ [x] ++ Q).length ≤ 1048576) :
    ∃ M, d_slices_symMergeCmpFunc_api_Linked__linking_Of_c1_F rc (P ++ L ++ [x] ++ Q) (P.length : Int) ((P.length + L.length : Nat) : Int) ((P.length + L.length + 1 : Nat) : Int) = some (P ++ M ++ Q) ∧ M.Perm (L ++ [x]) ∧ M.Pairwise leL := by
  have hlen := hL
  simp only [List.length_append, List.length_cons, List.length_nil, Nat.zero_add] at hlen
  have gx : (P ++ L ++ [x] ++ Q)[P.length + L.length]? = some x := by simp
  haveI : DecidablePred fun h : Nat => ∃ y, (P ++ L ++ [x] ++ Q)[h]? = some y ∧ leL y x := fun _ => Classical.propDecidable _
  have hN : (P ++ L ++ [x] ++ Q).length = P.length + L.length + 1 + Q.length := by simp; omega
  obtain ⟨s, s1, s2, s3, s4, s5⟩ := bsearch (step := d_slices_symMergeCmpFunc_api_Linked_2 (P ++ L ++ [x] ++ Q) ((P.length + L.length : Nat) : Int)) (fun h : Nat => ∃ y, (P ++ L ++ [x] ++ Q)[h]? = some y ∧ leL y x) P.length (P.length + L.length)
    (fun h k h1 h2 h3 ⟨y, hy, hyx⟩ => by
      have e1 := gL P L [x] Q (i := h - P.length) (by omega)
      have e2 := gL P L [x] Q (i := k - P.length) (by omega)
      rw [show P.length + (h - P.length) = h by omega] at e1
      rw [show P.length + (k - P.length) = k by omega, hy] at e2
      have hz : L[h - P.length]? = some L[h - P.length] := List.getElem?_eq_getElem (by omega)
      exact ⟨_, e1.trans hz, leL_trans (sorted_at hLs (by omega) hz e2.symm) hyx⟩)
    (fun i j h1 h2 h3 => by
      have hy : (P ++ L ++ [x] ++ Q)[(i + j) / 2]? = some (P ++ L ++ [x] ++ Q)[(i + j) / 2] := List.getElem?_eq_getElem (by omega)
      obtain ⟨r, hr, hd⟩ := cmp_eq x (P ++ L ++ [x] ++ Q)[(i + j) / 2]
      simp only [d_slices_symMergeCmpFunc_api_Linked_2, cell_len, decide_eq_true (show (i : Int) < (j : Int) by omega), cond_true, half (show i < 1048577 by omega) (show j < 1048577 by omega), xix (show (i + j) / 2 < (P ++ L ++ [x] ++ Q).length by omega), xix (show P.length + L.length < (P ++ L ++ [x] ++ Q).length by omega), Option.bind_some, xld rfl hy, xld rfl gx, hr, hd, w64p (show (i + j) / 2 < 1048577 by omega)]
      by_cases hlt : ltL x (P ++ L ++ [x] ++ Q)[(i + j) / 2]
      · rw [decide_eq_true hlt, Bool.not_true, cond_false, if_neg (fun ⟨y, hy', h⟩ => by rw [hy] at hy'; cases hy'; exact h hlt)]
      · rw [decide_eq_false hlt, Bool.not_false, cond_true, if_pos ⟨_, hy, hlt⟩])
    (fun i => by simp [d_slices_symMergeCmpFunc_api_Linked_2]) (by omega)
  have hRs : L = L.take (s - P.length) ++ L.drop (s - P.length) := (List.take_append_drop _ _).symm
  have t1 : (P ++ L.take (s - P.length)).length = s := by simp; omega
  have t2 : (L.drop (s - P.length)).length = P.length + L.length - s := by simp; omega
  have hsh := shiftL (P ++ L ++ [x] ++ Q) hL x (P ++ L.take (s - P.length)) _ (L.drop (s - P.length)) Q rfl (by rw [List.append_assoc P, ← hRs]; simp)
  rw [t1, t2, show s + (P.length + L.length - s) = P.length + L.length by omega, List.append_assoc P (L.take _) (L.drop _), ← hRs] at hsh
  refine ⟨L.take (s - P.length) ++ x :: L.drop (s - P.length), ?_, ?_, ?_⟩
  · unfold d_slices_symMergeCmpFunc_api_Linked__linking_Of_c1_F
    rw [w64d (show P.length + L.length < 4194304 by omega) (by omega), decide_eq_false (show ¬ (((P.length + L.length - P.length : Nat) : Int) = 1) by omega), cond_false,
      w64d (show P.length + L.length + 1 < 4194304 by omega) (by omega), decide_eq_true (show ((P.length + L.length + 1 - (P.length + L.length) : Nat) : Int) = 1 by omega), cond_true, s3]
    simp only [onInl, onOut, Option.bind_some]
    rw [show P ++ L ++ [x] ++ Q = P ++ L ++ x :: Q by simp] at hsh ⊢
    rw [hsh]
    simp [onOut]
  · refine List.perm_middle.trans ?_
    rw [← hRs]
    have := @List.perm_append_comm _ [x] L
    simpa using this
  · have hR' := hLs
    rw [hRs, List.pairwise_append] at hR'
    obtain ⟨q1, q2, q3⟩ := hR'
    have at_ : ∀ {i : Nat} {y : T_api_Linked}, L[i]? = some y → (P ++ L ++ [x] ++ Q)[P.length + i]? = some y := fun {i} {y} hy => by
      rw [gL P L [x] Q (i := i) (List.getElem?_eq_some_iff.1 hy).1, hy]
    rw [List.pairwise_append, List.pairwise_cons]
    refine ⟨q1, ⟨fun y hy => ?_, q2⟩, fun y hy z hz => ?_⟩
    · obtain ⟨i, i1, i2⟩ := mem_drop' hy
      have hil := (List.getElem?_eq_some_iff.1 i2).1
      have := s5 (P.length + i) (by omega) (by omega)
      exact leL_of_lt (Classical.not_not.1 fun hlt => this ⟨y, at_ i2, hlt⟩)
    · rcases List.mem_cons.1 hz with rfl | hz
      · obtain ⟨i, i1, i2⟩ := mem_take' hy
        obtain ⟨y', hy', hlt⟩ := s4 (P.length + i) (by omega) (by omega)
        rw [at_ i2] at hy'; cases hy'
        exact hlt
      · exact q3 y hy z hz
theorem sm_search (D : List T_api_Linked) (hD : D.length ≤ 1048576) (a m b : Nat) (h1 : a ≤ m) (h2 : m ≤ b) (h3 : b ≤ D.length) (hm0 : 0 < m)
    (hLs : ∀ h k y z, a ≤ h → h ≤ k → k < m → D[h]? = some y → D[k]? = some z → leL y z) (hRs : ∀ h k y z, m ≤ h → h ≤ k → k < b → D[h]? = some y → D[k]? = some z → leL y z)
    (st0 r0 : Nat) (h4 : a ≤ st0) (h5 : st0 ≤ r0) (h6 : r0 ≤ m) (hp : ∀ c, st0 ≤ c → c < r0 → m ≤ (a + b) / 2 + m - 1 - c ∧ (a + b) / 2 + m - 1 - c < b) :
    ∃ s, st0 ≤ s ∧ s ≤ r0 ∧ loopO (d_slices_symMergeCmpFunc_api_Linked_4 D (a : Int) (m : Int) (b : Int)) ((st0 : Int), (r0 : Int)) = some (.inl (s : Int)) ∧ (∀ c, st0 ≤ c → c < s → ∃ y z, D[(a + b) / 2 + m - 1 - c]? = some y ∧ D[c]? = some z ∧ leL z y) ∧
      ∀ c, s ≤ c → c < r0 → ∀ y z, D[(a + b) / 2 + m - 1 - c]? = some y → D[c]? = some z → ltL y z := by
  haveI : DecidablePred fun c : Nat => ∃ y z, D[(a + b) / 2 + m - 1 - c]? = some y ∧ D[c]? = some z ∧ leL z y := fun _ => Classical.propDecidable _
  have gt : ∀ i, i < D.length → ∃ y, D[i]? = some y := fun i hi => ⟨D[i], List.getElem?_eq_getElem hi⟩
  obtain ⟨s, s1, s2, s3, s4, s5⟩ := bsearch (step := d_slices_symMergeCmpFunc_api_Linked_4 D (a : Int) (m : Int) (b : Int)) (fun c : Nat => ∃ y z, D[(a + b) / 2 + m - 1 - c]? = some y ∧ D[c]? = some z ∧ leL z y) st0 r0
    (fun h k q1 q2 q3 ⟨y, z, hy, hz, hzy⟩ => by
      have p1 := hp h q1 (by omega); have p2 := hp k (by omega) q3
      obtain ⟨y', hy'⟩ := gt ((a + b) / 2 + m - 1 - h) (by omega)
      obtain ⟨z', hz'⟩ := gt h (by omega)
      exact ⟨y', z', hy', hz', leL_trans (hLs h k z' z (by omega) q2 (by omega) hz' hz) (leL_trans hzy (hRs _ _ y y' p2.1 (by omega) p1.2 hy hy'))⟩)
    (fun i j q1 q2 q3 => by
      have p1 := hp ((i + j) / 2) (by omega) (by omega)
      obtain ⟨y, hy⟩ := gt ((a + b) / 2 + m - 1 - (i + j) / 2) (by omega)
      obtain ⟨z, hz⟩ := gt ((i + j) / 2) (by omega)
      obtain ⟨r, hr, hd⟩ := cmp_eq y z
      simp only [d_slices_symMergeCmpFunc_api_Linked_4, cell_len, decide_eq_true (show (i : Int) < (j : Int) by omega), cond_true, half (show i < 1048577 by omega) (show j < 1048577 by omega), half (show a < 1048577 by omega) (show b < 1048577 by omega), w64a (show (a + b) / 2 < 1048577 by omega) (show m < 1048577 by omega),
        w64d1 (show (a + b) / 2 + m < 4194304 by omega) (show 1 ≤ (a + b) / 2 + m by omega), w64d (show (a + b) / 2 + m - 1 < 4194304 by omega) (show (i + j) / 2 ≤ (a + b) / 2 + m - 1 by omega), xix (show (a + b) / 2 + m - 1 - (i + j) / 2 < D.length by omega), xix (show (i + j) / 2 < D.length by omega), Option.bind_some, xld rfl hy, xld rfl hz, hr, hd, w64p (show (i + j) / 2 < 1048577 by omega)]
      by_cases hlt : ltL y z
      · rw [decide_eq_true hlt, Bool.not_true, cond_false, if_neg (fun ⟨y', z', hy', hz', h⟩ => by rw [hy] at hy'; rw [hz] at hz'; cases hy'; cases hz'; exact h hlt)]
      · rw [decide_eq_false hlt, Bool.not_false, cond_true, if_pos ⟨y, z, hy, hz, hlt⟩])
    (fun i => by simp [d_slices_symMergeCmpFunc_api_Linked_4]) h5
  exact ⟨s, s1, s2, s3, s4, fun c q1 q2 y z hy hz => Classical.not_not.1 fun hn => s5 c q1 q2 ⟨y, z, hy, hz, hn⟩⟩
theorem merge3 (rc : List T_api_Linked → Int → Int → Int → Option (List T_api_Linked)) (P L R Q : List T_api_Linked) (a m b : Nat) (ha : a = P.length) (hm : m = a + L.length) (hb : b = m + R.length) (hL2 : 2 ≤ L.length) (hR2 : 2 ≤ R.length) (hLs : L.Pairwise leL) (hRs : R.Pairwise leL) (hL : (P ++ L ++ R ++ Q).length ≤ 1048576)
    (ih : ∀ P' L' R' Q' : List T_api_Linked, L'.length + R'.length < L.length + R.length → 0 < L'.length → 0 < R'.length → L'.Pairwise leL → R'.Pairwise leL → (P' ++ L' ++ R' ++ Q').length ≤ 1048576 →
      ∃ M, rc (P' ++ L' ++ R' ++ Q') (P'.length : Int) ((P'.length + L'.length : Nat) : Int) ((P'.length + L'.length + R'.length : Nat) : Int) = some (P' ++ M ++ Q') ∧ M.Perm (L' ++ R') ∧ M.Pairwise leL) :
    ∃ M, d_slices_symMergeCmpFunc_api_Linked__linking_Of_c1_F rc (P ++ L ++ R ++ Q) (a : Int) (m : Int) (b : Int) = some (P ++ M ++ Q) ∧ M.Perm (L ++ R) ∧ M.Pairwise leL := by
  have hlen := hL
  simp only [List.length_append] at hlen
  have atL : ∀ i, i < L.length → (P ++ L ++ R ++ Q)[a + i]? = L[i]? := fun i hi => by rw [ha]; exact gL P L R Q hi
  have atR : ∀ i, i < R.length → (P ++ L ++ R ++ Q)[m + i]? = R[i]? := fun i hi => by rw [hm, ha]; exact gR P L R Q hi
  have hDl : (P ++ L ++ R ++ Q).length = b + Q.length := by simp; omega
  have sL : ∀ h k y z, a ≤ h → h ≤ k → k < m → (P ++ L ++ R ++ Q)[h]? = some y → (P ++ L ++ R ++ Q)[k]? = some z → leL y z := fun h k y z q1 q2 q3 hy hz => by
    have e1 := atL (h - a) (by omega); have e2 := atL (k - a) (by omega)
    rw [show a + (h - a) = h by omega, hy] at e1; rw [show a + (k - a) = k by omega, hz] at e2
    exact sorted_at hLs (by omega) e1.symm e2.symm
  have sR : ∀ h k y z, m ≤ h → h ≤ k → k < b → (P ++ L ++ R ++ Q)[h]? = some y → (P ++ L ++ R ++ Q)[k]? = some z → leL y z := fun h k y z q1 q2 q3 hy hz => by
    have e1 := atR (h - m) (by omega); have e2 := atR (k - m) (by omega)
    rw [show m + (h - m) = h by omega, hy] at e1; rw [show m + (k - m) = k by omega, hz] at e2
    exact sorted_at hRs (by omega) e1.symm e2.symm
  -- the start of the search, and its end
  obtain ⟨st0, r0, hst, s, g0, g1, g2, g3, g4, g5, g6⟩ : ∃ st0 r0 : Nat, (bif decide ((((a + b) / 2 : Nat) : Int) < (m : Int)) then some (.inl (w64 ((w64 ((((a + b) / 2 : Nat) : Int) + (m : Int))) - (b : Int)), (((a + b) / 2 : Nat) : Int))) else some (.inl ((a : Int), (m : Int))) : Option ((Int × Int) ⊕ List T_api_Linked)) = some (.inl ((st0 : Int), (r0 : Int))) ∧
      ∃ s : Nat, loopO (d_slices_symMergeCmpFunc_api_Linked_4 (P ++ L ++ R ++ Q) (a : Int) (m : Int) (b : Int)) ((st0 : Int), (r0 : Int)) = some (.inl (s : Int)) ∧ a ≤ s ∧ s ≤ m ∧ s ≤ (a + b) / 2 ∧ (a + b) / 2 + m - s ≤ b ∧
        (∀ y z, a < s → (a + b) / 2 + m - s < b → (P ++ L ++ R ++ Q)[s - 1]? = some y → (P ++ L ++ R ++ Q)[(a + b) / 2 + m - s]? = some z → leL y z) ∧
        (∀ y z, s < m → m < (a + b) / 2 + m - s → (P ++ L ++ R ++ Q)[(a + b) / 2 + m - s - 1]? = some y → (P ++ L ++ R ++ Q)[s]? = some z → ltL y z) := by
    by_cases hc : (a + b) / 2 < m
    · obtain ⟨s, s1, s2, s3, s4, s5⟩ := sm_search (P ++ L ++ R ++ Q) hL a m b (by omega) (by omega) (by omega) (by omega) sL sR ((a + b) / 2 + m - b) ((a + b) / 2) (by omega) (by omega) (by omega) (fun c q1 q2 => by omega)
      refine ⟨(a + b) / 2 + m - b, (a + b) / 2, ?_, s, s3, by omega, by omega, by omega, by omega, fun y z q1 q2 hy hz => ?_, fun y z q1 q2 hy hz => ?_⟩
      · rw [decide_eq_true (show (((a + b) / 2 : Nat) : Int) < (m : Int) by omega), cond_true, w64a (by omega) (by omega), w64d (by omega) (by omega)]
      · obtain ⟨y', z', k1, k2, k3⟩ := s4 (s - 1) (by omega) (by omega)
        rw [show (a + b) / 2 + m - 1 - (s - 1) = (a + b) / 2 + m - s by omega, hz] at k1
        rw [hy] at k2; cases k1; cases k2; exact k3
      · exact s5 s (Nat.le_refl _) (by omega) y z (by rw [show (a + b) / 2 + m - 1 - s = (a + b) / 2 + m - s - 1 by omega]; exact hy) hz
    · obtain ⟨s, s1, s2, s3, s4, s5⟩ := sm_search (P ++ L ++ R ++ Q) hL a m b (by omega) (by omega) (by omega) (by omega) sL sR a m (by omega) (by omega) (by omega) (fun c q1 q2 => by omega)
      refine ⟨a, m, ?_, s, s3, by omega, by omega, by omega, by omega, fun y z q1 q2 hy hz => ?_, fun y z q1 q2 hy hz => ?_⟩
      · rw [decide_eq_false (show ¬ (((a + b) / 2 : Nat) : Int) < (m : Int) by omega), cond_false]
      · obtain ⟨y', z', k1, k2, k3⟩ := s4 (s - 1) (by omega) (by omega)
        rw [show (a + b) / 2 + m - 1 - (s - 1) = (a + b) / 2 + m - s by omega, hz] at k1
        rw [hy] at k2; cases k1; cases k2; exact k3
      · exact s5 s (Nat.le_refl _) (by omega) y z (by rw [show (a + b) / 2 + m - 1 - s = (a + b) / 2 + m - s - 1 by omega]; exact hy) hz
  obtain ⟨e, he⟩ : ∃ e, e = (a + b) / 2 + m - s := ⟨_, rfl⟩
  rw [← he] at g4 g5 g6
  -- the four parts
  have hLp : L = L.take (s - a) ++ L.drop (s - a) := (List.take_append_drop _ _).symm
  have hRp : R = R.take (e - m) ++ R.drop (e - m) := (List.take_append_drop _ _).symm
  obtain ⟨L1, hL1⟩ : ∃ L1, L1 = L.take (s - a) := ⟨_, rfl⟩
  obtain ⟨L2, hL2'⟩ : ∃ L2, L2 = L.drop (s - a) := ⟨_, rfl⟩
  obtain ⟨R1, hR1⟩ : ∃ R1, R1 = R.take (e - m) := ⟨_, rfl⟩
  obtain ⟨R2, hR2'⟩ : ∃ R2, R2 = R.drop (e - m) := ⟨_, rfl⟩
  have l1 : L1.length = s - a := by rw [hL1]; simp; omega
  have l2 : L2.length = m - s := by rw [hL2']; simp; omega
  have r1 : R1.length = e - m := by rw [hR1]; simp; omega
  have r2 : R2.length = b - e := by rw [hR2']; simp; omega
  rw [← hL1, ← hL2'] at hLp
  rw [← hR1, ← hR2'] at hRp
  have mL1 : ∀ x ∈ L1, ∃ i, i < s - a ∧ L[i]? = some x := fun x hx => mem_take' (hL1 ▸ hx)
  have mL2 : ∀ x ∈ L2, ∃ i, s - a ≤ i ∧ L[i]? = some x := fun x hx => mem_drop' (hL2' ▸ hx)
  have mR1 : ∀ x ∈ R1, ∃ i, i < e - m ∧ R[i]? = some x := fun x hx => mem_take' (hR1 ▸ hx)
  have mR2 : ∀ x ∈ R2, ∃ i, e - m ≤ i ∧ R[i]? = some x := fun x hx => mem_drop' (hR2' ▸ hx)
  have pL := hLs; rw [hLp, List.pairwise_append] at pL
  have pR := hRs; rw [hRp, List.pairwise_append] at pR
  have hQl : Q.length ≤ 1048576 - b := by omega
  -- everything in the left half is before everything in the right half
  have cross : ∀ x, (x ∈ L1 ∨ x ∈ R1) → ∀ y, (y ∈ L2 ∨ y ∈ R2) → leL x y := by
    intro x hx y hy
    rcases hx with hx | hx <;> rcases hy with hy | hy
    · exact pL.2.2 x hx y hy
    · obtain ⟨i, i1, i2⟩ := mL1 x hx
      obtain ⟨j, j1, j2⟩ := mR2 y hy
      have hjl := (List.getElem?_eq_some_iff.1 j2).1
      have u1 : L[s - 1 - a]? = some L[s - 1 - a] := List.getElem?_eq_getElem (by omega)
      have u2 : R[e - m]? = some R[e - m] := List.getElem?_eq_getElem (by omega)
      have k1 := atL (s - 1 - a) (by omega); have k2 := atR (e - m) (by omega)
      rw [show a + (s - 1 - a) = s - 1 by omega, u1] at k1
      rw [show m + (e - m) = e by omega, u2] at k2
      exact leL_trans (sorted_at hLs (by omega) i2 u1) (leL_trans (g5 _ _ (by omega) (by omega) k1 k2) (sorted_at hRs j1 u2 j2))
    · obtain ⟨i, i1, i2⟩ := mR1 x hx
      obtain ⟨j, j1, j2⟩ := mL2 y hy
      have hjl := (List.getElem?_eq_some_iff.1 j2).1
      have u1 : R[e - 1 - m]? = some R[e - 1 - m] := List.getElem?_eq_getElem (by omega)
      have u2 : L[s - a]? = some L[s - a] := List.getElem?_eq_getElem (by omega)
      have k1 := atR (e - 1 - m) (by omega); have k2 := atL (s - a) (by omega)
      rw [show m + (e - 1 - m) = e - 1 by omega, u1] at k1
      rw [show a + (s - a) = s by omega, u2] at k2
      exact leL_trans (sorted_at hRs (by omega) i2 u1) (leL_trans (leL_of_lt (g6 _ _ (by omega) (by omega) k1 k2)) (sorted_at hLs j1 u2 j2))
    · exact pR.2.2 x hx y hy
  -- the left half
  obtain ⟨M1, m1, m2, m3⟩ : ∃ M1, (bif (decide ((a : Int) < (s : Int)) && decide ((s : Int) < (((a + b) / 2 : Nat) : Int))) then ((rc (P ++ L1 ++ R1 ++ (L2 ++ R2 ++ Q)) (a : Int) (s : Int) (((a + b) / 2 : Nat) : Int)).bind fun r => (some (.inl r) : Option (List T_api_Linked ⊕ List T_api_Linked))) else some (.inl (P ++ L1 ++ R1 ++ (L2 ++ R2 ++ Q)))) = some (.inl (P ++ M1 ++ (L2 ++ R2 ++ Q))) ∧ M1.Perm (L1 ++ R1) ∧ M1.Pairwise leL := by
    by_cases hc : a < s ∧ s < (a + b) / 2
    · obtain ⟨M, k1, k2, k3⟩ := ih P L1 R1 (L2 ++ R2 ++ Q) (by omega) (by omega) (by omega) pL.1 pR.1 (by simp; omega)
      rw [← ha, l1, r1, show a + (s - a) = s by omega, show s + (e - m) = (a + b) / 2 by omega] at k1
      refine ⟨M, ?_, k2, k3⟩
      rw [decide_eq_true (show (a : Int) < (s : Int) by omega), decide_eq_true (show (s : Int) < (((a + b) / 2 : Nat) : Int) by omega), k1]
      rfl
    · refine ⟨L1 ++ R1, ?_, List.Perm.refl _, ?_⟩
      · have : (decide ((a : Int) < (s : Int)) && decide ((s : Int) < (((a + b) / 2 : Nat) : Int))) = false := by
          rw [Bool.and_eq_false_iff, decide_eq_false_iff_not, decide_eq_false_iff_not]; omega
        rw [this, cond_false, List.append_assoc P]
      · rw [List.pairwise_append]
        refine ⟨pL.1, pR.1, fun x hx y hy => ?_⟩
        have := List.length_pos_of_mem hx; have := List.length_pos_of_mem hy
        omega
  have hM1 : M1.length = (a + b) / 2 - a := by rw [m2.length_eq]; simp; omega
  -- the right half
  obtain ⟨M2, n1, n2, n3⟩ : ∃ M2, (bif (decide ((((a + b) / 2 : Nat) : Int) < (e : Int)) && decide ((e : Int) < (b : Int))) then ((rc (P ++ M1 ++ (L2 ++ R2 ++ Q)) (((a + b) / 2 : Nat) : Int) (e : Int) (b : Int)).bind fun r => some r) else some (P ++ M1 ++ (L2 ++ R2 ++ Q))) = some (P ++ (M1 ++ M2) ++ Q) ∧ M2.Perm (L2 ++ R2) ∧ M2.Pairwise leL := by
    by_cases hc : (a + b) / 2 < e ∧ e < b
    · obtain ⟨M, k1, k2, k3⟩ := ih (P ++ M1) L2 R2 Q (by omega) (by omega) (by omega) pL.2.1 pR.2.1 (by simp; omega)
      rw [show (P ++ M1).length = (a + b) / 2 by simp; omega, l2, r2, show (a + b) / 2 + (m - s) = e by omega, show e + (b - e) = b by omega] at k1
      refine ⟨M, ?_, k2, k3⟩
      rw [decide_eq_true (show (((a + b) / 2 : Nat) : Int) < (e : Int) by omega), decide_eq_true (show (e : Int) < (b : Int) by omega), show P ++ M1 ++ (L2 ++ R2 ++ Q) = P ++ M1 ++ L2 ++ R2 ++ Q by simp, k1]
      simp
    · refine ⟨L2 ++ R2, ?_, List.Perm.refl _, ?_⟩
      · have : (decide ((((a + b) / 2 : Nat) : Int) < (e : Int)) && decide ((e : Int) < (b : Int))) = false := by
          rw [Bool.and_eq_false_iff, decide_eq_false_iff_not, decide_eq_false_iff_not]; omega
        rw [this, cond_false]
        simp
      · rw [List.pairwise_append]
        refine ⟨pL.2.1, pR.2.1, fun x hx y hy => ?_⟩
        have := List.length_pos_of_mem hx; have := List.length_pos_of_mem hy
        omega
  refine ⟨M1 ++ M2, ?_, ?_, ?_⟩
  · unfold d_slices_symMergeCmpFunc_api_Linked__linking_Of_c1_F
    rw [w64d (show m < 4194304 by omega) (by omega), decide_eq_false (show ¬ (((m - a : Nat) : Int) = 1) by omega), cond_false, w64d (show b < 4194304 by omega) (by omega), decide_eq_false (show ¬ (((b - m : Nat) : Int) = 1) by omega), cond_false]
    simp only [half (show a < 1048577 by omega) (show b < 1048577 by omega)]
    rw [hst]
    simp only [onInl, onOut, Option.bind_some]
    rw [g0]
    simp only [onInl, onOut, Option.bind_some, w64a (show (a + b) / 2 < 1048577 by omega) (show m < 1048577 by omega), w64d (show (a + b) / 2 + m < 4194304 by omega) (show s ≤ (a + b) / 2 + m by omega), ← he]
    have hrot : (bif (decide ((s : Int) < (m : Int)) && decide ((m : Int) < (e : Int))) then ((d_slices_rotateCmpFunc_api_Linked__linking_Of_c1 (P ++ L ++ R ++ Q) (s : Int) (m : Int) (e : Int)).bind fun r => (some (.inl r) : Option (List T_api_Linked ⊕ List T_api_Linked))) else some (.inl (P ++ L ++ R ++ Q))) = some (.inl (P ++ L1 ++ R1 ++ (L2 ++ R2 ++ Q))) := by
      have hD : P ++ L ++ R ++ Q = (P ++ L1) ++ L2 ++ R1 ++ (R2 ++ Q) := by
        rw [hLp, hRp]; simp
      by_cases hc : s < m ∧ m < e
      · have := rotate_eq (P ++ L1) L2 R1 (R2 ++ Q) (by rw [← hD]; exact hL) (by omega) (by omega)
        rw [← hD, show (P ++ L1).length = s by simp; omega, l2, r1, show s + (m - s) = m by omega, show m + (e - m) = e by omega] at this
        rw [decide_eq_true (show (s : Int) < (m : Int) by omega), decide_eq_true (show (m : Int) < (e : Int) by omega), this]
        simp
      · have : (decide ((s : Int) < (m : Int)) && decide ((m : Int) < (e : Int))) = false := by
          rw [Bool.and_eq_false_iff, decide_eq_false_iff_not, decide_eq_false_iff_not]; omega
        rw [this, cond_false, hD]
        by_cases hs : s < m
        · have : R1 = [] := List.eq_nil_of_length_eq_zero (by omega)
          rw [this]; simp
        · have : L2 = [] := List.eq_nil_of_length_eq_zero (by omega)
          rw [this]; simp
    rw [hrot]
    simp only [onInl, onOut, Option.bind_some]
    rw [m1]
    simp only [onInl, onOut, Option.bind_some]
    exact n1
  · have h1 : (M1 ++ M2).Perm ((L1 ++ R1) ++ (L2 ++ R2)) := m2.append n2
    refine h1.trans ?_
    rw [hLp, hRp]
    have h2 : (R1 ++ (L2 ++ R2)).Perm (L2 ++ (R1 ++ R2)) := by
      have := (@List.perm_append_comm _ R1 L2).append_right R2
      simpa using this
    have := h2.append_left L1
    simpa using this
  · rw [List.pairwise_append]
    refine ⟨m3, n3, fun x hx y hy => cross x ?_ y ?_⟩
    · exact List.mem_append.1 (m2.subset hx)
    · exact List.mem_append.1 (n2.subset hy)
theorem symMerge_N : ∀ (n : Nat) (P L R Q : List T_api_Linked), L.length + R.length ≤ n → 0 < L.length → 0 < R.length → L.Pairwise leL → R.Pairwise leL → (P ++ L ++ R ++ Q).length ≤ 1048576 →
    ∃ M, d_slices_symMergeCmpFunc_api_Linked__linking_Of_c1_N n (P ++ L ++ R ++ Q) (P.length : Int) ((P.length + L.length : Nat) : Int) ((P.length + L.length + R.length : Nat) : Int) = some (P ++ M ++ Q) ∧ M.Perm (L ++ R) ∧ M.Pairwise leL := by
  intro n
  induction n with
  | zero => intro P L R Q h h1 h2; omega
  | succ n ih =>
    intro P L R Q h h1 h2 hLs hRs hL
    rw [N_succ]
    by_cases c1 : L.length = 1
    · obtain ⟨x, rfl⟩ := List.length_eq_one_iff.1 c1
      exact merge1 _ P R Q x hRs hL
    · by_cases c2 : R.length = 1
      · obtain ⟨x, rfl⟩ := List.length_eq_one_iff.1 c2
        exact merge2 _ P L Q x hLs c1 hL
      · exact merge3 _ P L R Q _ _ _ rfl rfl rfl (by omega) (by omega) hLs hRs hL (fun P' L' R' Q' q => ih P' L' R' Q' (by omega))
theorem symMerge_is (P L R Q : List T_api_Linked) (h1 : 0 < L.length) (h2 : 0 < R.length) (hLs : L.Pairwise leL) (hRs : R.Pairwise leL) (hL : (P ++ L ++ R ++ Q).length ≤ 1048576) :
    ∃ M, d_slices_symMergeCmpFunc_api_Linked__linking_Of_c1 (P ++ L ++ R ++ Q) (P.length : Int) ((P.length + L.length : Nat) : Int) ((P.length + L.length + R.length : Nat) : Int) = some (P ++ M ++ Q) ∧ M.Perm (L ++ R) ∧ M.Pairwise leL := by
  have := symMerge_N (recFuel + 1) P L R Q (by simp only [List.length_append, recFuel] at *; omega) h1 h2 hLs hRs hL
  rw [N_succ] at this
  exact this

theorem sortStable_is (X : List T_api_Linked) (h : X.length ≤ 39) : ∃ M, d_slices_SortStableFunc_api_Linked__linking_Of_c1 X = some M ∧ M.Perm X ∧ M.Pairwise leL := by
  unfold d_slices_SortStableFunc_api_Linked__linking_Of_c1 d_slices_stableCmpFunc_api_Linked__linking_Of_c1
  rw [cell_len]
  by_cases hn : X.length < 20
  · obtain ⟨M, m1, m2, m3⟩ := insSort_is [] X [] (by simp; omega)
    simp only [List.nil_append, List.append_nil, List.length_nil, Nat.zero_add] at m1
    refine ⟨M, ?_, m2, m3⟩
    rw [loop_done (r := .inl (X, 0)) (by simp only [d_slices_stableCmpFunc_api_Linked_0, decide_eq_false (show ¬ (20 : Int) ≤ ((X.length : Nat) : Int) by omega), cond_false])]
    simp only [onInl, onOut, Option.bind_some]
    rw [show (0 : Int) = ((0 : Nat) : Int) from rfl, m1]
    simp only [Option.bind_some]
    rw [loop_done (r := .inl M) (by simp only [d_slices_stableCmpFunc_api_Linked_1, decide_eq_false (show ¬ (20 : Int) < ((X.length : Nat) : Int) by omega), cond_false])]
    rfl
  · have hX : X = X.take 20 ++ X.drop 20 := (List.take_append_drop _ _).symm
    have t1 : (X.take 20).length = 20 := by simp; omega
    have t2 : (X.drop 20).length = X.length - 20 := by simp
    obtain ⟨A, a1, a2, a3⟩ := insSort_is [] (X.take 20) (X.drop 20) (by rw [List.nil_append, ← hX]; omega)
    simp only [List.nil_append, List.length_nil, Nat.zero_add, t1, ← hX] at a1
    have hA : A.length = 20 := by rw [a2.length_eq, t1]
    obtain ⟨B, b1, b2, b3⟩ := insSort_is A (X.drop 20) [] (by simp [hA]; omega)
    simp only [List.append_nil, hA, t2] at b1
    have hB : B.length = X.length - 20 := by rw [b2.length_eq, t2]
    have hAB : (A ++ B).Perm X := by
      have := a2.append b2
      rwa [← hX] at this
    rw [show 20 + (X.length - 20) = X.length by omega] at b1
    have l0 : loopO (d_slices_stableCmpFunc_api_Linked_0 ((X.length : Nat) : Int)) (0, 20, X) = some (.inl (A ++ X.drop 20, 20)) := by
      have w40 : w64 ((20 : Int) + 20) = 40 := by rw [w64_of (by omega) (by omega)]; rfl
      rw [loop_more (s' := ((20 : Int), (40 : Int), A ++ X.drop 20)) (by
          simp only [d_slices_stableCmpFunc_api_Linked_0, decide_eq_true (show (20 : Int) ≤ ((X.length : Nat) : Int) by omega), cond_true]
          rw [show (0 : Int) = ((0 : Nat) : Int) from rfl, show (20 : Int) = ((20 : Nat) : Int) from rfl, a1]
          simp only [Option.bind_some]
          rw [show ((20 : Nat) : Int) = (20 : Int) from rfl, w40]),
        loop_done (r := .inl (A ++ X.drop 20, 20)) (by simp only [d_slices_stableCmpFunc_api_Linked_0, decide_eq_false (show ¬ (40 : Int) ≤ ((X.length : Nat) : Int) by omega), cond_false])]
    rw [l0]
    simp only [onInl, onOut, Option.bind_some]
    rw [show (20 : Int) = ((20 : Nat) : Int) from rfl, b1]
    simp only [Option.bind_some]
    by_cases h20 : X.length = 20
    · have hBn : B = [] := List.eq_nil_of_length_eq_zero (by omega)
      subst hBn
      simp only [List.append_nil] at hAB ⊢
      refine ⟨A, ?_, hAB, a3⟩
      rw [loop_done (r := .inl A) (by simp only [d_slices_stableCmpFunc_api_Linked_1, decide_eq_false (show ¬ ((20 : Nat) : Int) < ((X.length : Nat) : Int) by omega), cond_false])]
      rfl
    · obtain ⟨M, m1, m2, m3⟩ := symMerge_is [] A B [] (by omega) (by omega) a3 b3 (by simp; omega)
      simp only [List.nil_append, List.append_nil, List.length_nil, Nat.zero_add, hA, hB, show 20 + (X.length - 20) = X.length by omega] at m1
      refine ⟨M, ?_, m2.trans hAB, m3⟩
      have w40 : w64 (2 * ((20 : Nat) : Int)) = 40 := by rw [w64_of (by omega) (by omega)]; rfl
      have w40' : w64 (((20 : Nat) : Int) * 2) = 40 := by rw [w64_of (by omega) (by omega)]; rfl
      have w20 : w64 ((0 : Int) + ((20 : Nat) : Int)) = ((20 : Nat) : Int) := by rw [w64_of (by omega) (by omega)]; rfl
      rw [loop_more (s' := ((40 : Int), M)) ?_, loop_done (r := .inl M) (by simp only [d_slices_stableCmpFunc_api_Linked_1, decide_eq_false (show ¬ (40 : Int) < ((X.length : Nat) : Int) by omega), cond_false])]
      · rfl
      · simp only [d_slices_stableCmpFunc_api_Linked_1, decide_eq_true (show ((20 : Nat) : Int) < ((X.length : Nat) : Int) by omega), cond_true, w40, w40']
        rw [loop_done (r := .inl (A ++ B, 0)) (by simp only [d_slices_stableCmpFunc_api_Linked_2, decide_eq_false (show ¬ (40 : Int) ≤ ((X.length : Nat) : Int) by omega), cond_false])]
        simp only [onInl, onOut, Option.bind_some, w20, decide_eq_true (show ((20 : Nat) : Int) < ((X.length : Nat) : Int) by omega), cond_true]
        rw [show (0 : Int) = ((0 : Nat) : Int) from rfl, m1]
        rfl
end PM
