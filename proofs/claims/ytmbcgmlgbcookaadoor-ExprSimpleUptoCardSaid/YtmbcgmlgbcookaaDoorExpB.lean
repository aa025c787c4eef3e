import Derived.Test.YtmbcgmlgbcookaaDoorExpA
/-
  EXPR, B: Valid, Same, modest; the law ExprForms.
-/
namespace PM
open Go Go.RowKit
abbrev BIG : Nat := 4194304
/-- A loop over the arguments, with their places. -/
theorem Is.argalli {A β : Type} {xs : List E} {step : Int → Option (Int ⊕ (A ⊕ β))} {K : A → Option β} {ψ : β → Prop} (P : Nat → E → Prop) (v : A) (hL : xs.length < 9223372036854775807)
    (hs : ∀ (i : Nat) a, xs[i]? = some a → i < (xs.map enc).length → Is (step (i : Int)) fun o => match o with | .inl t => t = w64 ((i : Int) + 1) ∧ P i a | .inr (.inl _) => False | .inr (.inr b) => ψ b)
    (he : step ((xs.map enc).length : Int) = some (.inr (.inl v))) (hk : (∀ i a, xs[i]? = some a → P i a) → Is (K v) ψ) : Is (PM.onInl (loopO step 0) K) ψ := by
  have hl : (xs.map enc).length = xs.length := List.length_map _
  rw [hl] at he
  exact Is.all (L := xs) P v hL (fun i a h1 h2 _ => (hs i a h1 (by rw [hl]; exact h2)).mono fun o h => match o, h with | .inl _, h => h | .inr (.inl _), h => h | .inr (.inr _), h => h) he hk
/-! ### Valid -/
theorem valid_N (vars : Int) (e : E) : ∀ n, e.depth ≤ n → e.size ≤ BIG → ∀ d l : Int, 1 ≤ d → d ≤ 13 → 0 ≤ l → l ≤ 20000 →
    Is (d_expr_valid_N n (toT e) vars d l) fun r => (r.2 = true ↔ e.wf vars ∧ d + e.depth ≤ 13 ∧ (e.size : Int) ≤ l) ∧ 0 ≤ r.1 ∧ r.1 ≤ l ∧ (r.2 = true → r.1 = l - e.size) := by
  induction e using E.ind with
  | h o v xs ih =>
    intro n hn hsz d l hd1 hd13 hl0 hl
    have hB : BIG = 4194304 := rfl
    rw [E.depth] at hn
    rw [E.size] at hsz
    have hlen := sizes_len xs
    obtain ⟨n, rfl⟩ : ∃ m, n = m + 1 := ⟨n - 1, by omega⟩
    show Is (d_expr_valid_F (d_expr_valid_N n) ⟨o, v, xs.map enc⟩ vars d l) _
    have hD : (E.mk o v xs).depth = 1 + depths xs := by rw [E.depth]
    have hZ : (E.mk o v xs).size = 1 + sizes xs := by rw [E.size]
    unfold d_expr_valid_F
    refine Is.cond (fun hc => ?_) (fun hc => ?_)
    · refine Is.val ⟨?_, hl0, Int.le_refl _, fun h => by cases h⟩
      rw [hD, hZ]
      simp only [Bool.or_eq_true, decide_eq_true_iff] at hc
      simp only [Bool.false_eq_true, false_iff]
      omega
    · simp only [Bool.or_eq_false_iff, decide_eq_false_iff_not] at hc
      have hw : w64 (l - 1) = l - 1 := w64_of (by omega) (by omega)
      rw [hw]
      refine Is.onInl (θ := fun x => match x with | .inl _ => (o = 4 ∧ xs.length = 1) ∨ o = 5 ∨ o = 6 | .inr r => r.1 = l - 1 ∧ (r.2 = true ↔ (E.mk o v xs).wf vars) ∧ (r.2 = true → xs = [])) ?_ ?_ ?_
      · simp only [wf_mk]
        by_cases h1 : o = 1
        · subst h1; by_cases hv : v = 0 <;> simp [Is, PM.onInl, PM.onOut, hv]
        · by_cases h2 : o = 2
          · subst h2; by_cases hv : v = 0 <;> simp [Is, PM.onInl, PM.onOut, hv]
          · by_cases h3 : o = 3
            · subst h3
              by_cases hv : 0 ≤ v
              · by_cases hv2 : v < vars <;> simp [Is, PM.onInl, PM.onOut, hv, hv2]
              · simp [Is, PM.onInl, PM.onOut, hv]
            · by_cases h4 : o = 4
              · subst h4
                by_cases hl : xs.length = 1
                · simp [Is, PM.onInl, PM.onOut, hl]
                · have hl' : ¬ (xs.length : Int) = 1 := by omega
                  simp [Is, PM.onInl, PM.onOut, hl, hl']
              · by_cases h5 : o = 5
                · subst h5; simp [Is, PM.onInl, PM.onOut]
                · by_cases h6 : o = 6
                  · subst h6; simp [Is, PM.onInl, PM.onOut]
                  · simp [Is, PM.onInl, PM.onOut, h1, h2, h3, h4, h5, h6]
      · rintro _ ho
        refine Is.cond (fun hv => ?_) (fun hv => ?_)
        · refine Is.val ⟨?_, by show 0 ≤ l - 1; omega, by show l - 1 ≤ l; omega, fun h => by cases h⟩
          simp only [Bool.not_eq_true', decide_eq_false_iff_not] at hv
          simp only [Bool.false_eq_true, false_iff, wf_mk]
          omega
        · simp only [Bool.not_eq_false', decide_eq_true_iff] at hv
          refine Is.argfold (xs := xs) (fun i (s : Int) => (i, s)) (fun i s => s = l - 1 - sizes (xs.take i) ∧ 0 ≤ s ∧ ∀ j a, j < i → xs[j]? = some a → a.wf vars ∧ d + 1 + a.depth ≤ 13) (l - 1) (by omega) ⟨by simp [sizes], by omega, fun j a h => by omega⟩ ?_ ?_
          · rintro i a s ha hi ⟨hs, hs0, hall⟩
            unfold d_expr_valid_0
            refine Is.inb hi (Is.arg ha ?_)
            have hm := List.mem_of_getElem? ha
            have hma := sizes_mem hm
            have hda := depths_mem hm
            rw [show w64 (d + 1) = d + 1 from w64_of (by omega) (by omega)]
            refine Is.bind (ih a hm n (by omega) (by omega) (d + 1) s (by omega) (by omega) hs0 (by omega)) ?_
            rintro ⟨r1, r2⟩ ⟨q1, q2, q3, q4⟩
            have htk := sizes_take_get ha
            have hle := sizes_take_le xs (i + 1)
            cases r2 with
            | false =>
              refine Is.val ⟨?_, q2, by show r1 ≤ l; simp only at q3; omega, fun h => by cases h⟩
              simp only [Bool.false_eq_true, false_iff] at q1 ⊢
              rintro ⟨w1, w2, w3⟩
              apply q1
              rw [hD] at w2
              rw [hZ] at w3
              refine ⟨?_, by omega, by omega⟩
              rw [wf_mk] at w1
              rcases w1 with h | h | h | h
              · omega
              · omega
              · exact h.2.2.2 a hm
              · exact h.2.2 a hm
            | true =>
              have q5 := q4 rfl
              simp only [true_iff] at q1
              simp only at q5 q2
              refine Is.val ⟨r1, rfl, ?_, q2, fun j b hj hb => ?_⟩
              · rw [q5, hs, htk]; omega
              · by_cases hji : j = i
                · subst hji; rw [ha] at hb; cases hb; exact ⟨q1.1, q1.2.1⟩
                · exact hall j b (by omega) hb
          · rintro s ⟨hs, hs0, hall⟩
            unfold d_expr_valid_0
            refine Is.oub (Is.val (Is.val ?_))
            rw [List.take_length] at hs
            have hall' : ∀ a ∈ xs, a.wf vars ∧ d + 1 + a.depth ≤ 13 := mem_iff_get.1 fun i a h => hall i a (lt_of_get h) h
            have hdp : depths xs ≤ (12 - d).toNat := depths_le fun a ha => by have := (hall' a ha).2; omega
            refine ⟨?_, hs0, by show s ≤ l; omega, fun _ => by show s = _; rw [hZ, hs]; omega⟩
            simp only [true_iff]
            rw [hD, hZ, wf_mk]
            refine ⟨?_, by omega, by omega⟩
            rcases ho with ⟨h4, h5⟩ | h
            · exact .inr (.inr (.inl ⟨h4, hv, h5, fun a ha => (hall' a ha).1⟩))
            · exact .inr (.inr (.inr ⟨h, hv, fun a ha => (hall' a ha).1⟩))
      · rintro ⟨r1, r2⟩ ⟨q1, q2, q3⟩
        simp only at q1 q2 q3
        subst q1
        refine ⟨?_, by show 0 ≤ l - 1; omega, by show l - 1 ≤ l; omega, fun h => ?_⟩
        · rw [q2]
          constructor
          · intro h
            have h0 := q3 (q2.2 h)
            refine ⟨h, ?_, ?_⟩
            · rw [hD, h0]; simp [depths]; omega
            · rw [hZ, h0]; simp [sizes]; omega
          · exact fun h => h.1
        · have h0 := q3 h
          show l - 1 = _
          rw [hZ, h0]; simp [sizes]
theorem Valid_is (vars : Int) (e : E) (h : e.size ≤ 20000) : Is (d_expr_Valid (toT e) vars) fun b => b = true ↔ e.wf vars ∧ e.depth ≤ 12 := by
  unfold d_expr_Valid
  refine Is.bind (valid_N vars e (recFuel + 1) (by have := e.depth_le_size; unfold recFuel; omega) (by unfold BIG; omega) 1 20000 (by omega) (by omega) (by omega) (by omega)) ?_
  rintro r ⟨h1, _⟩
  refine Is.val ?_
  rw [h1]
  constructor
  · rintro ⟨w1, w2, _⟩; exact ⟨w1, by omega⟩
  · rintro ⟨w1, w2⟩; exact ⟨w1, by omega, by omega⟩
theorem RSize_is (e : E) (h : e.size ≤ BIG) : Is (d_ref18_Size (toT e)) fun r => r = (e.size : Int) := RSize_N e (recFuel + 1) (by have := e.depth_le_size; unfold recFuel; unfold BIG at h; omega) h
theorem Size_is (e : E) (h : e.size ≤ BIG) : Is (d_expr_Size (toT e)) fun r => r = (e.size : Int) := Size_N e (recFuel + 1) (by have := e.depth_le_size; unfold recFuel; unfold BIG at h; omega) h
theorem Depth_is (e : E) (h : e.size ≤ BIG) : Is (d_ref18_Depth (toT e)) fun r => r = (e.depth : Int) := Depth_N e (recFuel + 1) (by have := e.depth_le_size; unfold recFuel; unfold BIG at h; omega) h
theorem form_is (vars : Int) (e : E) (h : e.size ≤ BIG) : Is (d_ref18_form (toT e) vars) fun b => b = true ↔ e.wf vars := form_N vars e (recFuel + 1) (by have := e.depth_le_size; unfold recFuel; unfold BIG at h; omega) h
theorem RValid_is (vars : Int) (e : E) (h : e.size ≤ 20000) : Is (d_ref18_Valid (toT e) vars) fun b => b = true ↔ e.wf vars ∧ e.depth ≤ 12 := by
  unfold d_ref18_Valid
  have hb : e.size ≤ BIG := by unfold BIG; omega
  refine Is.bind (RSize_is e hb) ?_
  rintro r rfl
  rw [show decide ((e.size : Int) ≤ 20000) = true from decide_eq_true (by omega)]
  refine Is.bind (φ := fun b => b = true ↔ (e.depth : Int) ≤ 12) (Is.bind (Depth_is e hb) fun r hr => Is.val (by rw [hr]; exact decide_eq_true_iff)) ?_
  intro b hb1
  refine Is.bind (φ := fun c => c = true ↔ e.wf vars ∧ e.depth ≤ 12) ?_ (fun c hc => Is.val hc)
  cases b with
  | false =>
    refine Is.val ?_
    simp only [Bool.false_eq_true, false_iff] at hb1 ⊢
    rintro ⟨_, w⟩; omega
  | true =>
    simp only [true_iff] at hb1
    refine Is.bind (form_is vars e hb) fun c hc => Is.val ?_
    rw [hc]
    exact ⟨fun w => ⟨w, by omega⟩, fun w => w.1⟩
/-! ### Same -/
theorem ext_args {xs ys : List E} (hl : xs.length = ys.length) (h : ∀ (i : Nat) (a : E), xs[i]? = some a → ys[i]? = some a) : xs = ys := by
  apply List.ext_getElem?
  intro i
  cases hx : xs[i]? with
  | none => rw [List.getElem?_eq_none (by have := List.getElem?_eq_none_iff.1 hx; omega)]
  | some a => rw [h i a hx]
theorem RSame_N (a : E) : ∀ n b, a.depth ≤ n → a.size ≤ BIG → Is (d_ref18_Same_N n (toT a) (toT b)) fun r => r = true ↔ a = b := by
  induction a using E.ind with
  | h o v xs ih =>
    rintro n ⟨o', v', ys⟩ hn hsz
    rw [E.depth] at hn
    rw [E.size] at hsz
    have hlen := sizes_len xs
    obtain ⟨n, rfl⟩ : ∃ m, n = m + 1 := ⟨n - 1, by omega⟩
    show Is (d_ref18_Same_F (d_ref18_Same_N n) ⟨o, v, xs.map enc⟩ ⟨o', v', ys.map enc⟩) _
    unfold d_ref18_Same_F
    refine Is.bind (φ := fun c => c = true ↔ ¬ (o = o' ∧ v = v' ∧ xs.length = ys.length)) ?_ ?_
    · by_cases h1 : o = o'
      · by_cases h2 : v = v'
        · by_cases h3 : xs.length = ys.length
          · simp [Is, h1, h2, h3]
          · have h3' : ¬ (xs.length : Int) = ys.length := by omega
            simp [Is, h1, h2, h3, h3']
        · simp [Is, h1, h2]
      · simp [Is, h1]
    · intro c hc
      cases c with
      | true =>
        refine Is.val ?_
        simp only [true_iff] at hc
        simp only [Bool.false_eq_true, false_iff]
        intro h; cases h; exact hc ⟨rfl, rfl, rfl⟩
      | false =>
        simp only [Bool.false_eq_true, false_iff, Classical.not_not] at hc
        obtain ⟨rfl, rfl, hl⟩ := hc
        refine Is.argalli (xs := xs) (fun i a => ys[i]? = some a) () (by unfold BIG at hsz; omega) ?_ (by unfold d_ref18_Same_0; simp) ?_
        · intro i a ha hi
          unfold d_ref18_Same_0
          obtain ⟨b, hb⟩ : ∃ b, ys[i]? = some b := ⟨_, List.getElem?_eq_getElem (by have := lt_of_get ha; omega)⟩
          refine Is.inb hi (Is.arg ha (Is.arg hb ?_))
          have hm := List.mem_of_getElem? ha
          refine Is.bind (ih a hm n b (by have := depths_mem hm; omega) (by have := sizes_mem hm; omega)) ?_
          intro r hr
          cases r with
          | false =>
            refine Is.val ?_
            simp only [Bool.false_eq_true, false_iff] at hr ⊢
            intro h; cases h; rw [ha] at hb; cases hb; exact hr rfl
          | true => exact Is.val ⟨rfl, by rw [hb, hr.1 rfl]⟩
        · intro hall
          refine Is.val ?_
          simp only [true_iff]
          rw [ext_args hl hall]
theorem RSame_is (a b : E) (h : a.size ≤ BIG) : Is (d_ref18_Same (toT a) (toT b)) fun r => r = true ↔ a = b := RSame_N a (recFuel + 1) b (by have := a.depth_le_size; unfold recFuel; unfold BIG at h; omega) h
theorem Same_N (a : E) : ∀ n b, a.depth ≤ n → a.size ≤ BIG → Is (d_expr_Same_N n (toT a) (toT b)) fun r => r = true ↔ a = b := by
  induction a using E.ind with
  | h o v xs ih =>
    rintro n ⟨o', v', ys⟩ hn hsz
    rw [E.depth] at hn
    rw [E.size] at hsz
    have hlen := sizes_len xs
    obtain ⟨n, rfl⟩ : ∃ m, n = m + 1 := ⟨n - 1, by omega⟩
    show Is (d_expr_Same_F (d_expr_Same_N n) ⟨o, v, xs.map enc⟩ ⟨o', v', ys.map enc⟩) _
    unfold d_expr_Same_F
    refine Is.bind (φ := fun c => c = true ↔ E.mk o v xs = E.mk o' v' ys) ?_ (fun c hc => Is.val hc)
    refine Is.cond (fun hc => ?_) (fun hc => ?_)
    · simp only [Bool.and_eq_true, decide_eq_true_iff] at hc
      obtain ⟨rfl, rfl⟩ := hc
      refine Is.bind (φ := fun c => c = true ↔ E.mk o v xs = E.mk o v ys) ?_ (fun c hc => Is.val hc)
      unfold d_slices_EqualFunc_api_Expr__expr_Same
      refine Is.cond (fun hc => ?_) (fun hc => ?_)
      · refine Is.val ?_
        simp only [Bool.not_eq_true', decide_eq_false_iff_not, List.length_map] at hc
        simp only [Bool.false_eq_true, false_iff]
        intro h; cases h; exact hc rfl
      · simp only [Bool.not_eq_false', decide_eq_true_iff, List.length_map] at hc
        have hl : xs.length = ys.length := by omega
        refine Is.argalli (xs := xs) (fun i a => ys[i]? = some a) () (by unfold BIG at hsz; omega) ?_ (by unfold d_slices_EqualFunc_api_Expr_0; simp) ?_
        · intro i a ha hi
          unfold d_slices_EqualFunc_api_Expr_0
          obtain ⟨b, hb⟩ : ∃ b, ys[i]? = some b := ⟨_, List.getElem?_eq_getElem (by have := lt_of_get ha; omega)⟩
          refine Is.inb hi (Is.arg ha (Is.arg hb ?_))
          have hm := List.mem_of_getElem? ha
          refine Is.bind (ih a hm n b (by have := depths_mem hm; omega) (by have := sizes_mem hm; omega)) ?_
          intro r hr
          cases r with
          | false =>
            refine Is.val ?_
            simp only [Bool.false_eq_true, false_iff] at hr ⊢
            intro h; cases h; rw [ha] at hb; cases hb; exact hr rfl
          | true => exact Is.val ⟨rfl, by rw [hb, hr.1 rfl]⟩
        · intro hall
          refine Is.val ?_
          simp only [true_iff]
          rw [ext_args hl hall]
    · refine Is.val ?_
      simp only [Bool.and_eq_false_iff, decide_eq_false_iff_not] at hc
      simp only [Bool.false_eq_true, false_iff]
      intro h; cases h; rcases hc with hc | hc <;> exact hc rfl
theorem Same_is (a b : E) (h : a.size ≤ BIG) : Is (d_expr_Same (toT a) (toT b)) fun r => r = true ↔ a = b := Same_N a (recFuel + 1) b (by have := a.depth_le_size; unfold recFuel; unfold BIG at h; omega) h
/-! ### modest -/
theorem few_N : ∀ (d n : Nat), 1 ≤ d → d ≤ n → d ≤ 30 → ∀ e : E, e.size ≤ BIG →
    Is (d_law18_few_N n (toT e) (d : Int)) fun r => 1 ≤ r ∧ r ≤ 1000 * (d : Int) ∧ (r ≤ 300 → r = (e.size : Int) ∧ e.depth ≤ d) ∧ (e.size ≤ 300 → e.depth ≤ d → r = (e.size : Int)) := by
  intro d
  induction d with
  | zero => intro n h; omega
  | succ d ih =>
    rintro n _ hn hd ⟨o, v, xs⟩ hsz
    have hD : (E.mk o v xs).depth = 1 + depths xs := by rw [E.depth]
    have hZ : (E.mk o v xs).size = 1 + sizes xs := by rw [E.size]
    rw [hZ] at hsz
    have hlen := sizes_len xs
    obtain ⟨n, rfl⟩ : ∃ m, n = m + 1 := ⟨n - 1, by omega⟩
    show Is (d_law18_few_F (d_law18_few_N n) ⟨o, v, xs.map enc⟩ ((d + 1 : Nat) : Int)) _
    rw [hD, hZ]
    unfold d_law18_few_F
    refine Is.argfold (xs := xs) (fun i (s : Int) => (s, i)) (fun i s => 1 ≤ s ∧ s ≤ 300 + 1000 * (d : Int) ∧ (s ≤ 300 → s = 1 + (sizes (xs.take i) : Int) ∧ depths (xs.take i) ≤ d) ∧ (1 + sizes (xs.take i) ≤ 300 → depths (xs.take i) ≤ d → s = 1 + (sizes (xs.take i) : Int))) 1 (by unfold BIG at hsz; omega)
      ⟨by omega, by omega, fun _ => ⟨by simp [sizes], by simp [depths]⟩, fun _ _ => by simp [sizes]⟩ ?_ ?_
    · rintro i a s ha hi ⟨i1, i2, i3, i4⟩
      unfold d_law18_few_0
      refine Is.inb hi (Is.arg ha ?_)
      have hm := List.mem_of_getElem? ha
      have hma := sizes_mem hm
      have hda := depths_mem hm
      have hdp := a.depth_pos
      have hsp := a.size_pos
      have htk := sizes_take_get ha
      have htd := depths_take_get ha
      have hle := sizes_take_le xs (i + 1)
      have htl : depths (xs.take i) ≤ depths xs := depths_le fun b hb => depths_mem (List.mem_of_mem_take hb)
      refine Is.cond (fun hc => ?_) (fun hc => ?_)
      · simp only [Bool.or_eq_true, decide_eq_true_iff] at hc
        refine Is.val ⟨by omega, by omega, fun h => by omega, fun h1 h2 => ?_⟩
        exfalso
        rcases hc with hc | hc
        · omega
        · have := i4 (by omega) (by omega)
          omega
      · simp only [Bool.or_eq_false_iff, decide_eq_false_iff_not] at hc
        have hd1 : 1 ≤ d := by omega
        rw [show w64 (((d + 1 : Nat) : Int) - 1) = (d : Int) by rw [w64_of (by omega) (by omega)]; omega]
        refine Is.bind (ih n hd1 (by omega) (by omega) a (by omega)) ?_
        rintro r ⟨r1, r2, r3, r4⟩
        refine Is.val ⟨s + r, by rw [w64_of (by omega) (by omega)], by omega, by omega, fun h => ?_, fun h1 h2 => ?_⟩
        · obtain ⟨k1, k2⟩ := i3 (by omega)
          obtain ⟨k3, k4⟩ := r3 (by omega)
          rw [htk, htd]
          exact ⟨by omega, by omega⟩
        · rw [htk] at h1
          rw [htd] at h2
          rw [htk, i4 (by omega) (by omega), r4 (by omega) (by omega)]
          omega
    · rintro s ⟨i1, i2, i3, i4⟩
      unfold d_law18_few_0
      rw [List.take_length] at i3 i4
      refine Is.oub (Is.val (Is.val ⟨i1, by omega, fun h => ?_, fun h1 h2 => ?_⟩))
      · obtain ⟨k1, k2⟩ := i3 h
        exact ⟨by omega, by omega⟩
      · rw [i4 (by omega) (by omega)]; omega
theorem modest_is (e : E) (h : e.size ≤ BIG) : Is (d_law18_modest (toT e)) fun b => b = true ↔ e.size ≤ 300 ∧ e.depth ≤ 30 := by
  unfold d_law18_modest
  refine Is.bind (few_N 30 (recFuel + 1) (by omega) (by unfold recFuel; omega) (by omega) e h) ?_
  rintro r ⟨r1, r2, r3, r4⟩
  refine Is.val ?_
  rw [decide_eq_true_iff]
  constructor
  · intro h3
    obtain ⟨k1, k2⟩ := r3 h3
    exact ⟨by omega, k2⟩
  · rintro ⟨k1, k2⟩
    rw [r4 k1 k2]; omega
theorem alive_ok : d_law18_alive = some true := by kernel_rfl
/-! ### The law -/
theorem andO {c : Bool} {x : Option Bool} (hc : c = true) (hx : Is x fun b => b = true) : Is (bif c then x else some false) fun b => b = true := by rw [hc]; exact hx
theorem beq_of_iff {a b : Bool} {p : Prop} (h1 : a = true ↔ p) (h2 : b = true ↔ p) : (a == b) = true := by
  have : a = b := by
    cases a <;> cases b <;> simp_all
  rw [this]; exact beq_self_eq_true b
theorem orO {c : Bool} {p q : Prop} {x : Option Bool} (hc : c = true ↔ p) (hx : Is x fun b => b = true ↔ q) : Is ((bif (!c) then some true else x.bind fun r => some (!r)) : Option Bool) fun b => b = true ↔ ¬ (p ∧ q) := by
  cases c with
  | false =>
    refine Is.val ?_
    simp only [Bool.false_eq_true, false_iff] at hc
    simp [hc]
  | true =>
    simp only [true_iff] at hc
    refine Is.bind hx fun r hr => Is.val ?_
    rw [not_iff_of hr]
    simp [hc]
theorem aliveO : Is (d_law18_alive.bind fun r => some r) fun b => b = true := by rw [alive_ok]; exact Is.val rfl
theorem exprForms_law (a b : E) (vars : Int) (ha : a.size ≤ BIG) (hb : b.size ≤ BIG) : d_law18_ExprForms (toT a) (toT b) vars = some true := by
  suffices h : Is (d_law18_ExprForms (toT a) (toT b) vars) fun r => r = true by
    obtain ⟨r, h1, h2⟩ := h
    rw [h1, h2]
  unfold d_law18_ExprForms
  refine Is.bind (modest_is a ha) fun r1 h1 => ?_
  refine Is.bind (orO h1 (modest_is b hb)) fun r2 h2 => ?_
  refine Is.ite h2 (fun _ => aliveO) (fun hm => ?_)
  have hm : (a.size ≤ 300 ∧ a.depth ≤ 30) ∧ b.size ≤ 300 ∧ b.depth ≤ 30 := Classical.not_not.1 hm
  refine Is.bind (Valid_is vars a (by omega)) fun r5 h5 => ?_
  refine Is.bind (RValid_is vars a (by omega)) fun r6 h6 => ?_
  refine Is.bind (φ := fun c => c = true) (andO (beq_of_iff h5 h6) ?_) fun c hc => ?_
  · refine Is.bind (Same_is a b ha) fun r8 h8 => ?_
    refine Is.bind (RSame_is a b ha) fun r9 h9 => ?_
    exact Is.val (beq_of_iff h8 h9)
  · refine Is.bind (φ := fun c => c = true) (andO hc ?_) fun c hc => ?_
    · exact Is.bind (Same_is a a ha) fun r h => Is.val (h.2 rfl)
    · refine Is.bind (φ := fun c => c = true) (andO hc ?_) fun c hc => ?_
      · refine Is.bind (Size_is a ha) fun r h => ?_
        refine Is.bind (RSize_is a ha) fun r' h' => Is.val ?_
        rw [h, h']; exact decide_eq_true rfl
      · exact Is.bind (φ := fun c => c = true) (andO hc aliveO) fun c hc => Is.val hc
end PM
