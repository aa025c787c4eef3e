import Derived.Test.YtmbcgmlgbcookaaDoorExpG
/-
  EXPR, H: the laws ExprRewrites, ExprSimplifies, ExprSimple.
-/
namespace PM
open Go Go.RowKit
theorem sim_size (e : E) : (sim e).size ≤ e.size ∧ (sim e).depth ≤ e.depth := by
  unfold sim
  split
  · rename_i h; exact simp_size e h.1
  · exact ⟨Nat.le_refl _, Nat.le_refl _⟩
theorem sim_ev (f : Int → Bool) (e : E) : (sim e).ev f = e.ev f := by
  unfold sim
  split
  · rename_i h; exact simp_ev f e h.1
  · rfl
theorem sim_sim (e : E) : sim (sim e) = sim e := by
  unfold sim
  by_cases h : e.wf 1073741824 ∧ e.depth ≤ 12
  · have hs := simp_sim e h.1
    have hd := (simp_size e h.1).2
    rw [if_pos h, if_pos ⟨hs.wf, by omega⟩, hs.same]
  · rw [if_neg h, if_neg h]
theorem exprRewrites_law (e : E) (v : Int) (b : E) (he : e.size ≤ BIG) (hb : b.size ≤ BIG) : d_law18_ExprRewrites (toT e) v (toT b) = some true := by
  suffices h : Is (d_law18_ExprRewrites (toT e) v (toT b)) fun r => r = true by
    obtain ⟨r, h1, h2⟩ := h
    rw [h1, h2]
  have hB : BIG = 4194304 := rfl
  have hM : MID = 20000 := rfl
  unfold d_law18_ExprRewrites
  refine Is.bind (modest_is e he) fun r1 h1 => ?_
  refine Is.bind (orO h1 (modest_is b hb)) fun r2 h2 => ?_
  refine Is.ite h2 (fun _ => aliveO) (fun hm => ?_)
  obtain ⟨⟨q1, _⟩, q2, _⟩ := Classical.not_not.1 hm
  have hs := sim_size e
  have hsz := size_sub v b e
  have hsz2 : e.size * b.size ≤ 300 * 300 := Nat.mul_le_mul q1 q2
  refine Is.bind (Simplify_is e (by omega)) ?_
  rintro r5 rfl
  refine Is.bind (RSimplify_is e (by omega)) ?_
  rintro r6 rfl
  refine Is.bind (RSame_is _ _ (by omega)) fun r7 h7 => ?_
  refine Is.bind (φ := fun c => c = true) (andO (h7.2 rfl) ?_) fun c hc => ?_
  · refine Is.bind (Replace_is v b e hb he) ?_
    rintro r9 rfl
    refine Is.bind (RReplace_is v b e he) ?_
    rintro r10 rfl
    exact Is.bind (RSame_is _ _ (by omega)) fun r hr => Is.val (hr.2 rfl)
  · exact Is.bind (φ := fun c => c = true) (andO hc aliveO) fun c hc => Is.val hc
theorem exprSimplifies_law (e : E) (vals : List Bool) (he : e.size ≤ BIG) : d_law18_ExprSimplifies (toT e) vals = some true := by
  suffices h : Is (d_law18_ExprSimplifies (toT e) vals) fun r => r = true by
    obtain ⟨r, h1, h2⟩ := h
    rw [h1, h2]
  have hB : BIG = 4194304 := rfl
  have hM : MID = 20000 := rfl
  unfold d_law18_ExprSimplifies
  refine Is.bind (modest_is e he) fun r1 h1 => ?_
  refine Is.ifn h1 (fun _ => aliveO) (fun hm => ?_)
  have hs := sim_size e
  refine Is.bind (Simplify_is e (by omega)) ?_
  rintro r3 rfl
  refine Is.bind (Eval_is vals _ (by omega)) ?_
  rintro r4 rfl
  refine Is.bind (Eval_is vals e he) ?_
  rintro r5 rfl
  rw [sim_ev, beq_self_eq_true]
  refine Is.bind (φ := fun c => c = false) ?_ ?_
  · show Is ((d_expr_Simplify (toT (sim e))).bind fun r7 => (d_ref18_Same r7 (toT (sim e))).bind fun r8 => some (!r8)) _
    refine Is.bind (Simplify_is (sim e) (by omega)) ?_
    rintro r7 rfl
    rw [sim_sim]
    refine Is.bind (RSame_is _ _ (by omega)) fun r8 h8 => Is.val ?_
    rw [h8.2 rfl]; rfl
  rintro b6 rfl
  show Is ((d_expr_Valid (toT e) 1073741824).bind _) _
  refine Is.bind (Valid_is _ e (by omega)) fun r9 h9 => ?_
  refine Is.bind (φ := fun c => c = true) ?_ fun c hc => ?_
  · refine Is.ifn h9 (fun _ => Is.val rfl) (fun hv => ?_)
    refine Is.bind (Valid_is _ (sim e) (by omega)) fun r hr => Is.val (hr.2 ?_)
    refine ⟨?_, by omega⟩
    unfold sim
    rw [if_pos hv]
    exact (simp_sim e hv.1).wf
  refine Is.bind (φ := fun c => c = true) (andO hc ?_) fun c hc => ?_
  · refine Is.bind (Size_is _ (by omega)) ?_
    rintro r13 rfl
    refine Is.bind (Size_is e he) ?_
    rintro r14 rfl
    exact Is.val (decide_eq_true (by omega))
  · exact Is.bind (φ := fun c => c = true) (andO hc aliveO) fun c hc => Is.val hc
theorem nodup_take {xs : List E} (h : xs.Nodup) {i j : Nat} {a b : E} (hi : xs[i]? = some a) (hj : xs[j]? = some b) (hij : j < i) : a ≠ b := by
  rintro rfl
  have h1 := lt_of_get hi
  have h2 := lt_of_get hj
  rw [List.getElem?_eq_getElem h1] at hi
  rw [List.getElem?_eq_getElem h2] at hj
  exact List.pairwise_iff_getElem.1 h j i h2 h1 hij (by rw [Option.some.inj hi, Option.some.inj hj])
theorem simplified_N {e : E} (h : Sim e) : ∀ n, e.depth ≤ n → e.size ≤ MID → ∀ up : Int, (up = 0 ∨ (e.op ≠ 1 ∧ e.op ≠ 2 ∧ e.op ≠ up)) → Is (d_law18_simplified_N n (toT e) up) fun r => r = true := by
  have hM : MID = 20000 := rfl
  have hB : BIG = 4194304 := rfl
  have body : ∀ (o : Int) (xs : List E), 1 ≤ o → sizes xs ≤ MID → ((o = 5 ∨ o = 6) → 2 ≤ xs.length) → xs.Nodup → ∀ n, (∀ a ∈ xs, Is (d_law18_simplified_N n (toT a) o) fun r => r = true) →
      ∀ v up : Int, (up = 0 ∨ (o ≠ 1 ∧ o ≠ 2 ∧ o ≠ up)) → Is (d_law18_simplified_N (n + 1) (toT (.mk o v xs)) up) fun r => r = true := by
    intro o xs ho hz hl hn n hrec v up hup
    have hlen := sizes_len xs
    show Is (d_law18_simplified_F (d_law18_simplified_N n) ⟨o, v, xs.map enc⟩ up) _
    unfold d_law18_simplified_F
    have h1 : ((((decide (o = 1)) || (decide (o = 2))) && (!(decide (up = 0)))) || (decide (o = up))) = false := by
      rcases hup with h | ⟨h1, h2, h3⟩
      · have : ¬ o = 0 := by omega
        simp [h, this]
      · simp [h1, h2, h3]
    show Is (bif ((((decide (o = 1)) || (decide (o = 2))) && (!(decide (up = 0)))) || (decide (o = up))) then _ else _) _
    rw [h1]
    refine Is.bind (φ := fun c => c = false) ?_ ?_
    · refine Is.cond (fun hc => Is.val ?_) (fun _ => Is.val rfl)
      simp only [Bool.or_eq_true, decide_eq_true_iff] at hc
      have := hl hc
      rw [decide_eq_false_iff_not, List.length_map]; omega
    · rintro c rfl
      refine Is.argall (xs := xs) (fun _ => True) () (by omega) ?_ (by unfold d_law18_simplified_0; simp) (fun _ => Is.val rfl)
      intro i a ha hi
      unfold d_law18_simplified_0
      have hm := List.mem_of_getElem? ha
      have hsz := sizes_mem hm
      have hil := lt_of_get ha
      refine Is.inb hi (Is.arg ha (Is.bind (hrec a hm) ?_))
      rintro r rfl
      show Is ((slO (xs.map enc) none (some (i : Int)) none).bind _) _
      rw [slO_hi (by rw [List.length_map]; omega), Option.bind_some, ← List.map_take]
      refine Is.argalli (xs := xs.take i) (fun _ _ => True) () (by rw [List.length_take]; omega) ?_ (by unfold d_law18_simplified_1; simp) (fun _ => Is.val ⟨rfl, trivial⟩)
      intro j b hb hj
      unfold d_law18_simplified_1
      refine Is.inb hj (Is.arg hb (Is.bind (RSame_is a b (by omega)) fun r hr => ?_))
      rw [List.getElem?_take] at hb
      split at hb
      · rename_i hji
        refine Is.ite hr (fun e => absurd e (nodup_take hn ha hb hji)) (fun _ => Is.val ⟨rfl, trivial⟩)
      · cases hb
  induction h with
  | con o h =>
    intro n hn hz up hup
    rw [E.depth] at hn
    obtain ⟨n, rfl⟩ : ∃ m, n = m + 1 := ⟨n - 1, by omega⟩
    exact body o [] (by omega) (Nat.zero_le _) (by omega) (by simp) n (fun a ha => by cases ha) 0 up hup
  | var v h =>
    intro n hn hz up hup
    rw [E.depth] at hn
    obtain ⟨n, rfl⟩ : ∃ m, n = m + 1 := ⟨n - 1, by omega⟩
    exact body 3 [] (by omega) (Nat.zero_le _) (by omega) (by simp) n (fun a ha => by cases ha) v up hup
  | not b hb h ih =>
    intro n hn hz up hup
    rw [E.depth] at hn
    rw [E.size] at hz
    obtain ⟨n, rfl⟩ : ∃ m, n = m + 1 := ⟨n - 1, by omega⟩
    simp only [sizes, depths] at hz hn
    refine body 4 [b] (by omega) (by simp only [sizes]; omega) (by omega) (by simp) n (fun a ha => ?_) 0 up hup
    rw [List.mem_singleton.1 ha]
    exact ih n (by omega) (by omega) 4 (.inr (by omega))
  | join o xs h hl hnd hs ho hc ih =>
    intro n hn hz up hup
    rw [E.depth] at hn
    rw [E.size] at hz
    obtain ⟨n, rfl⟩ : ∃ m, n = m + 1 := ⟨n - 1, by omega⟩
    refine body o xs (by omega) (by omega) (fun _ => hl) hnd n (fun a ha => ?_) 0 up hup
    exact ih a ha n (by have := depths_mem ha; omega) (by have := sizes_mem ha; omega) o (.inr (ho a ha))
theorem exprSimple_law (e : E) (he : e.size ≤ BIG) : d_law18_ExprSimple (toT e) = some true := by
  suffices h : Is (d_law18_ExprSimple (toT e)) fun r => r = true by
    obtain ⟨r, h1, h2⟩ := h
    rw [h1, h2]
  have hB : BIG = 4194304 := rfl
  have hM : MID = 20000 := rfl
  unfold d_law18_ExprSimple
  refine Is.bind (modest_is e he) fun r1 h1 => ?_
  refine Is.bind (φ := fun c => c = true ↔ ¬ ((e.size ≤ 300 ∧ e.depth ≤ 30) ∧ e.wf 1073741824 ∧ e.depth ≤ 12)) ?_ fun r2 h2 => ?_
  · cases r1 with
    | false =>
      refine Is.val ?_
      simp only [Bool.false_eq_true, false_iff] at h1
      simp [h1]
    | true =>
      have h1 := h1.1 rfl
      exact orO (x := d_ref18_Valid (toT e) 1073741824) (c := true) (p := e.size ≤ 300 ∧ e.depth ≤ 30) (by simp [h1]) (RValid_is _ e (by omega))
  refine Is.ite h2 (fun _ => aliveO) (fun hm => ?_)
  obtain ⟨⟨q1, q2⟩, q3⟩ := Classical.not_not.1 hm
  have hs := sim_size e
  refine Is.bind (Simplify_is e (by omega)) ?_
  rintro r5 rfl
  refine Is.bind (modest_is _ (by omega)) fun r6 h6 => ?_
  refine Is.bind (φ := fun c => c = true) (andO (h6.2 ⟨by omega, by omega⟩) ?_) fun c hc => ?_
  · have hsim : Sim (sim e) := by
      unfold sim
      rw [if_pos q3]
      exact simp_sim e q3.1
    exact Is.bind (simplified_N hsim (recFuel + 1) (by unfold recFuel; omega) (by omega) 0 (.inl rfl)) fun r hr => Is.val hr
  · exact Is.bind (φ := fun c => c = true) (andO hc aliveO) fun c hc => Is.val hc
end PM
