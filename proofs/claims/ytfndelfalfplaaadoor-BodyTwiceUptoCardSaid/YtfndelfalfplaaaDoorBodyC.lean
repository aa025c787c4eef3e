/-
  PLAIN, BODY C: what movements keep.
-/
import Derived.Test.YtfndelfalfplaaaDoorBodyB
import Derived.Test.YtfndelfalfplaaaDoorWalkG
namespace PM
open Go Go.RowKit

/-! ### Ways -/
theorem outS_need {k a p b : Int} (h : outS k a p = (b, true)) : (needS k a b).2 = true := by
  unfold outS at h
  cases hf : tab_rail_passages.find? (fun x => (decide (x.kind_ = k) && decide (x.in_ = a)) && (decide (x.need_ = 0) || decide (x.need_ = p))) with
  | none => rw [hf] at h; cases h
  | some y =>
    rw [hf] at h
    have h1 := List.find?_some hf
    simp only [Bool.and_eq_true, decide_eq_true_eq] at h1
    obtain ⟨⟨rfl, rfl⟩, -⟩ := h1
    cases h
    have h2 : ∀ y ∈ tab_rail_passages, (needS y.kind_ y.in_ y.out_).2 = true := by decide
    exact h2 y (List.mem_of_find?_eq_some hf)
theorem ValidP.has {l : T_api_Layout} {way : List T_api_Step} (h : ValidP l way) {s : T_api_Step} (hs : s ∈ way) : hasEl l s.El = true := by
  obtain ⟨i, hi, e⟩ := List.mem_iff_getElem.1 hs
  obtain ⟨t, h1, h2, -⟩ := h.2.2 i hi
  rw [List.getElem?_eq_getElem hi, e] at h1
  cases h1
  exact pos_has h2
theorem ValidP.ne {l : T_api_Layout} {way : List T_api_Step} (h : ValidP l way) : way ≠ [] := by
  rintro rfl; have := h.1; simp at this
theorem ValidP.suffix {l : T_api_Layout} {way w : List T_api_Step} (h : ValidP l way) (hs : w <:+ way) (hn : w ≠ []) : ValidP l w := by
  obtain ⟨p, rfl⟩ := hs
  have h1 : 0 < w.length := List.length_pos_iff.2 hn
  have := valid_part h (f := p.length) (t := (p ++ w).length) (by simp; omega) (Nat.le_refl _)
  rwa [List.take_length, List.drop_left] at this
theorem ValidP.short {l : T_api_Layout} {way : List T_api_Step} (h : ValidP l way) : way.length ≤ l.Elements.length := by
  have h1 : (way.map fun s => s.El.toNat).Nodup := by
    rw [List.Nodup, List.pairwise_map, List.pairwise_iff_getElem]
    intro i j hi hj hij e
    have e1 := hasEl_get (h.has (List.getElem_mem hi))
    have g1 := h.has (List.getElem_mem hi)
    have g2 := h.has (List.getElem_mem hj)
    simp only [hasEl, Bool.and_eq_true, decide_eq_true_eq] at g1 g2
    have := h.apart (List.getElem?_eq_getElem hi) (List.getElem?_eq_getElem hj) (by omega)
    omega
  have h2 := sub_len (b := List.range l.Elements.length) h1 (fun x hx => by
    obtain ⟨s, hs, rfl⟩ := List.mem_map.1 hx
    have g := h.has hs
    simp only [hasEl, Bool.and_eq_true, decide_eq_true_eq] at g
    rw [List.mem_range]; omega)
  simpa using h2
theorem OkL.lens {l : T_api_Layout} (hl : OkL l) {s : T_api_Step} (h : hasEl l s.El = true) : 500 ≤ lenOf l s ∧ lenOf l s ≤ 1000000 := by
  obtain ⟨x, h1, h2⟩ := hasEl_get h
  have := hl.elem.1 x (List.mem_of_getElem? h2)
  simp only [lenOf, h, h2, cond_true, Option.map_some, Option.getD_some]
  exact this.2.1
theorem OkL.sum {l : T_api_Layout} (hl : OkL l) : ∀ {way : List T_api_Step}, (∀ s ∈ way, hasEl l s.El = true) → 0 ≤ sumL l way ∧ sumL l way ≤ 1000000 * way.length
  | [], _ => by simp [sumL]
  | s :: r, h => by
    have h1 := hl.lens (h s (by simp))
    have h2 := hl.sum (way := r) fun t ht => h t (by simp [ht])
    simp only [sumL, List.length_cons]; omega
theorem OkL.last {l : T_api_Layout} (hl : OkL l) {way : List T_api_Step} (h : ValidP l way) : 500 ≤ lastLen l way ∧ lastLen l way ≤ 1000000 := by
  have := List.getLast?_eq_some_getLast h.ne
  simp only [lastLen, this]
  exact hl.lens (h.has (List.getLast_mem h.ne))
theorem ent_valid {l : T_api_Layout} (hl : OkL l) {pos : List Int} {way : List T_api_Step} (h : ValidP l way) {s : T_api_Step} (he : entS l pos way = some s) : ValidP l (way ++ [s]) := by
  have hne := h.ne
  unfold entS at he
  rw [List.getLast?_eq_some_getLast hne] at he
  generalize hp : way.getLast hne = p at he
  simp only at he
  generalize hj : joinS l ⟨p.El, p.Out⟩ = a at he
  cases hc : a.2 && !decide (∃ t ∈ way, t.El = a.1.El) && (outS (kindOf l a.1.El) a.1.Side (posAt pos a.1.El)).2 with
  | false => rw [hc] at he; cases he
  | true =>
    rw [hc] at he
    simp only [Bool.and_eq_true, Bool.not_eq_true', decide_eq_false_iff_not] at hc
    obtain ⟨⟨ha, hn⟩, ho⟩ := hc
    cases he
    have hlen := h.1
    have hex : exS l a.1 = true := joinS_ok (l := l) ⟨fun j hj => ⟨(hl.joint j hj).1, (hl.joint j hj).2.1⟩, hl.ends⟩ (e := ⟨p.El, p.Out⟩) (f := a.1) (by rw [hj, ← ha])
    have hh := exS_has hex
    have h64 : way.length < 32 := by
      have hx : ValidP l way := h
      refine Nat.lt_of_lt_of_le ?_ hl.counts.2.1
      refine Nat.lt_of_le_of_ne h.short fun e => ?_
      -- all elements are in the way
      have h1 : (way.map fun s => s.El.toNat).Nodup := by
        rw [List.Nodup, List.pairwise_map, List.pairwise_iff_getElem]
        intro i j hi hj hij e
        have g1 := h.has (List.getElem_mem hi)
        have g2 := h.has (List.getElem_mem hj)
        simp only [hasEl, Bool.and_eq_true, decide_eq_true_eq] at g1 g2
        have := h.apart (List.getElem?_eq_getElem hi) (List.getElem?_eq_getElem hj) (by omega)
        omega
      have g0 : hasEl l a.1.El = true := hh
      have h2 := sub_len (a := a.1.El.toNat :: way.map fun s => s.El.toNat) (b := List.range l.Elements.length) (by
        rw [List.nodup_cons]
        refine ⟨fun hm => ?_, h1⟩
        obtain ⟨t, ht, e2⟩ := List.mem_map.1 hm
        have g2 := h.has ht
        simp only [hasEl, Bool.and_eq_true, decide_eq_true_eq] at g0 g2
        exact hn ⟨t, ht, by omega⟩) (fun x hx => by
        rw [List.mem_range]
        rcases List.mem_cons.1 hx with rfl | hx
        · simp only [hasEl, Bool.and_eq_true, decide_eq_true_eq] at g0; omega
        · obtain ⟨s, hs, rfl⟩ := List.mem_map.1 hx
          have g := h.has hs
          simp only [hasEl, Bool.and_eq_true, decide_eq_true_eq] at g
          omega)
      simp at h2; omega
    refine ⟨by simp, by simp; omega, fun i hi => ?_⟩
    simp only [List.length_append, List.length_singleton] at hi
    by_cases hi' : i < way.length
    · obtain ⟨s, g1, g2, g3, g4⟩ := h.2.2 i hi'
      refine ⟨s, by rw [List.getElem?_append_left hi']; exact g1, g2, fun k t hk ht => g3 k t hk ?_, fun p hp0 hp1 => g4 p hp0 ?_⟩
      · rwa [List.getElem?_append_left (by omega)] at ht
      · rwa [List.getElem?_append_left (by omega)] at hp1
    · have e : i = way.length := by omega
      subst e
      refine ⟨⟨a.1.El, a.1.Side, (outS (kindOf l a.1.El) a.1.Side (posAt pos a.1.El)).1⟩, by simp, ?_, fun k t hk ht => ?_, fun q hq0 hq1 => ?_⟩
      · obtain ⟨x, -, h2⟩ := hasEl_get hh
        have hk : kindOf l a.1.El = x.Kind := by simp [kindOf, h2]
        rw [hk] at ho
        have := outS_need (k := x.Kind) (a := a.1.Side) (p := posAt pos a.1.El) (b := (outS x.Kind a.1.Side (posAt pos a.1.El)).1) (by rw [← ho])
        simp only [posS, hk, hh, h2]
        simpa using this
      · rw [List.getElem?_append_left hk] at ht
        exact fun e => hn ⟨t, List.mem_of_getElem? ht, e⟩
      · rw [List.getElem?_append_left (by omega)] at hq1
        have : q = p := by
          rw [← hp, List.getLast_eq_getElem]
          rw [List.getElem?_eq_getElem (by omega)] at hq1
          cases hq1; rfl
        subst this
        rw [hj, ← ha]
end PM
