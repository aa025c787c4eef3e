/-
  PLAIN, LINKING C: the reference's list of the balises of a way; the laws of Of, Order and Reverse.
-/
import Derived.Test.YtcobolgkboknbaaDoorLnkB
namespace PM
open Go Go.RowKit

theorem perm_sorted_eq : ∀ {A B : List T_api_Linked}, A.Perm B → A.Pairwise leL → B.Pairwise leL → A = B
  | [], B, h, _, _ => (List.Perm.nil_eq h)
  | a :: A, [], h, _, _ => by have := h.length_eq; simp at this
  | a :: A, b :: B, h, hA, hB => by
    rw [List.pairwise_cons] at hA hB
    have e : a = b := by
      have h1 : a ∈ b :: B := h.subset (by simp)
      have h2 : b ∈ a :: A := h.symm.subset (by simp)
      rcases List.mem_cons.1 h1 with e | h1
      · exact e
      · rcases List.mem_cons.1 h2 with e | h2
        · exact e.symm
        · exact leL_antisymm (hA.1 b h2) (hB.1 a h1)
    subst e
    rw [perm_sorted_eq (List.Perm.cons_inv h) hA.2 hB.2]
theorem before_eq (x y : T_api_Linked) : d_ref32_before x y = some (decide (ltL x y)) := by
  unfold d_ref32_before
  congr 1
  rw [Bool.eq_iff_iff, decide_eq_true_iff]
  unfold ltL
  simp
theorem put_eq {L : List T_api_Linked} (x : T_api_Linked) (hL : L.length ≤ 10000) (hs : L.Pairwise leL) : ∃ r, d_ref32_put L x = some r ∧ r.Perm (x :: L) ∧ r.Pairwise leL := by
  suffices Is (d_ref32_put L x) fun r => r.Perm (x :: L) ∧ r.Pairwise leL by obtain ⟨r, h1, h2⟩ := this; exact ⟨r, h1, h2⟩
  unfold d_ref32_put
  refine Is.onInl (θ := fun o => ∃ out d, o = .inl (out, d) ∧ ((d = false ∧ out = L ∧ ∀ y ∈ L, leL y x) ∨ (d = true ∧ out.Perm (x :: L) ∧ out.Pairwise leL)) ∧ out.length ≤ 10001) ?_ ?_ (fun b hb => by obtain ⟨_, _, hb, _⟩ := hb; cases hb)
  · refine Is.loop (mk := fun (i : Nat) (z : Bool × List T_api_Linked) => (z.1, (i : Int), z.2)) L.length
      (fun i z => (z.1 = false ∧ z.2 = L.take i ∧ ∀ y ∈ L.take i, leL y x) ∨ (z.1 = true ∧ ∃ k, k < i ∧ z.2 = L.take k ++ x :: (L.take i).drop k ∧ (∀ y ∈ L.take k, leL y x) ∧ ∃ y, L[k]? = some y ∧ ltL x y)) (false, []) (.inl ⟨rfl, rfl, by simp⟩) ?_ ?_
    · rintro i ⟨d, out⟩ hi hI
      have hy : L[i]? = some L[i] := List.getElem?_eq_getElem hi
      have holen : out.length ≤ i + 1 := by
        rcases hI with ⟨_, rfl, _⟩ | ⟨_, k, k1, rfl, _⟩
        · simp; omega
        · simp; omega
      unfold d_ref32_put_0
      refine Is.inb hi ?_
      refine Is.onInl (θ := fun o => ∃ out' d', o = .inl (out', d') ∧ out'.length ≤ i + 2 ∧ ((d' = false ∧ out' ++ [L[i]] = L.take (i + 1) ∧ ∀ y ∈ L.take (i + 1), leL y x) ∨ (d' = true ∧ ∃ k, k < i + 1 ∧ out' ++ [L[i]] = L.take k ++ x :: (L.take (i + 1)).drop k ∧ (∀ y ∈ L.take k, leL y x) ∧ ∃ y, L[k]? = some y ∧ ltL x y))) ?_ ?_ (fun b hb => by obtain ⟨_, _, hb, _⟩ := hb; cases hb)
      · rw [ixO_nat hy]
        simp only [Option.bind_some, before_eq, cond_some', Bool.cond_false_right]
        rcases hI with ⟨hd, ho, hl⟩ | ⟨hd, k, k1, ho, k3, k4⟩
        · simp only at hd ho
          subst hd; subst ho
          refine Is.ite (p := ltL x L[i]) (by simp) (fun hc => ?_) (fun hc => ?_)
          · refine Is.bind (Is.app ?_) fun M hM => Is.val ⟨M, true, rfl, ?_, .inr ⟨rfl, i, by omega, ?_, hl, L[i], hy, hc⟩⟩
            · simp only [List.length_cons, List.length_nil, List.length_take, sizeMax, Enc.b]; omega
            · rw [hM]; simp; omega
            · rw [hM, take_get hy, List.drop_append_of_le_length (by simp; omega), List.drop_of_length_le (by rw [List.length_take]; omega)]
              simp
          · refine Is.val ⟨L.take i, false, rfl, by simp; omega, .inl ⟨rfl, (take_get hy).symm, fun y hyy => ?_⟩⟩
            rw [take_get hy] at hyy
            rcases List.mem_append.1 hyy with q | q
            · exact hl y q
            · simp at q; subst q; exact hc
        · simp only at hd ho
          subst hd
          simp only [Bool.not_true, Bool.false_and, cond_false]
          refine Is.val ⟨out, true, rfl, by omega, .inr ⟨rfl, k, by omega, ?_, k3, k4⟩⟩
          rw [ho, take_get hy, List.drop_append_of_le_length (by simp; omega)]
          simp
      · rintro ⟨v1, v2⟩ ⟨out', d', hv, hlen, hcase⟩
        cases hv
        refine Is.at hy (Is.bind (Is.app ?_) fun M hM => ?_)
        · simp only [List.length_cons, List.length_nil, sizeMax, Enc.b]; omega
        · refine Is.val ⟨(v2, M), by rw [w64n (by omega)], ?_⟩
          rw [hM]
          exact hcase
    · rintro ⟨d, out⟩ hI
      unfold d_ref32_put_0
      refine Is.oub (Is.val ⟨out, d, rfl, ?_, ?_⟩)
      · rcases hI with ⟨hd, ho, hl⟩ | ⟨hd, k, k1, ho, k3, y, k4, k5⟩
        · rw [List.take_length] at ho hl
          exact .inl ⟨hd, ho, hl⟩
        · rw [List.take_length] at ho
          simp only at ho
          refine .inr ⟨hd, ?_, ?_⟩
          · rw [ho]
            refine List.perm_middle.trans ?_
            rw [List.take_append_drop]
          · have hs' := hs
            rw [← List.take_append_drop k L, List.pairwise_append] at hs'
            rw [ho, List.pairwise_append, List.pairwise_cons]
            refine ⟨hs'.1, ⟨fun z hz => ?_, hs'.2.1⟩, fun a ha b hb => ?_⟩
            · obtain ⟨j, j1, j2⟩ := mem_drop' hz
              exact leL_trans (leL_of_lt k5) (sorted_at hs j1 k4 j2)
            · rcases List.mem_cons.1 hb with rfl | hb
              · exact k3 a ha
              · exact hs'.2.2 a ha b hb
      · rcases hI with ⟨_, ho, _⟩ | ⟨_, k, k1, ho, _⟩
        · simp only at ho; rw [ho]; simp; omega
        · simp only at ho; rw [ho]; simp; omega
  · rintro ⟨v1, v2⟩ ⟨out, d, hv, hcase, hlen⟩
    cases hv
    rcases hcase with ⟨hd, rfl, hl⟩ | ⟨hd, h1, h2⟩
    · subst hd
      simp only [Bool.not_false, cond_true]
      refine Is.onInl (θ := fun o => o = .inl (v1 ++ [x])) (Is.bind (Is.app ?_) fun M hM => Is.val (by rw [hM])) (fun v hv => ?_) (fun b hb => by cases hb)
      · simp only [List.length_cons, List.length_nil, sizeMax, Enc.b]; omega
      · cases hv
        refine Is.val ⟨?_, ?_⟩
        · simp
        · rw [List.pairwise_append]
          exact ⟨hs, by simp, fun a ha b hb => by simp at hb; subst hb; exact hl a ha⟩
    · subst hd
      simp only [Bool.not_true, cond_false, onInl, onOut, Option.bind_some]
      exact Is.val ⟨h1, h2⟩
theorem ref32_Of_in {l : T_api_Layout} (hO : OkL l) {way : List T_api_Step} (hv : ValidP l way) (en B : Int) (hB : -2147483648 ≤ B ∧ B ≤ 2147483648) {i : Nat} {s : T_api_Step} (hs : way[i]? = some s) {e : T_api_Element} (he : l.Elements[s.El.toNat]? = some e) (hr : RightP l e) (hn : (needS e.Kind s.In s.Out).2 = true) (out0 : List T_api_Linked) (h0 : out0.length ≤ 5000) (hs0 : out0.Pairwise leL) :
    ∃ out, loopO (d_ref32_Of_1 l way en B (i : Int) e) (out0, 0) = some (.inl out) ∧ out.Perm (out0 ++ stepL l en B s) ∧ out.Pairwise leL := by
  have hbl : l.Balises.length ≤ 24 := by have := hO.counts; unfold CountsP at this; omega
  have hlen := hr.2.1
  suffices Is (loopO (d_ref32_Of_1 l way en B (i : Int) e) (out0, 0)) fun o => ∃ out, o = .inl out ∧ out.Perm (out0 ++ stepL l en B s) ∧ out.Pairwise leL by
    obtain ⟨o, h, out, rfl, h1, h2⟩ := this; exact ⟨out, h, h1, h2⟩
  have hst : stepL l en B s = if passB e.Kind s = true then stepE en e s B (balsAt l s.El) else [] := by unfold stepL; rw [he]
  let part := fun k : Nat => if passB e.Kind s = true then stepE en e s B ((l.Balises.take k).filter fun b => decide (b.El = s.El)) else []
  have hpl : ∀ k, (part k).length ≤ 24 := fun k => by
    show (if passB e.Kind s = true then stepE en e s B ((l.Balises.take k).filter fun b => decide (b.El = s.El)) else []).length ≤ 24
    split
    · refine Nat.le_trans (stepE_len _ _ _ _ _) (Nat.le_trans (List.length_filter_le _ _) ?_)
      simp; omega
    · simp
  refine Is.loop (mk := fun (k : Nat) (z : List T_api_Linked) => (z, (k : Int))) l.Balises.length (fun k z => z.Perm (out0 ++ part k) ∧ z.Pairwise leL) out0 ⟨?_, hs0⟩ ?_ ?_
  · have : part 0 = [] := by
      show (if passB e.Kind s = true then stepE en e s B (([] : List T_api_Balise).filter fun b => decide (b.El = s.El)) else []) = []
      split <;> simp [stepE]
    rw [this, List.append_nil]
  · rintro k z hk ⟨hz, hzs⟩
    have hb : l.Balises[k]? = some l.Balises[k] := List.getElem?_eq_getElem hk
    obtain ⟨_, _, _, k1, k2⟩ := hO.bal _ (List.getElem_mem hk)
    unfold d_ref32_Of_1
    refine Is.inb hk ?_
    have hzl : z.length ≤ 6000 := by rw [hz.length_eq, List.length_append]; have := hpl k; omega
    refine Is.onInl (θ := fun o => ∃ z', o = .inl z' ∧ z'.Perm (out0 ++ part (k + 1)) ∧ z'.Pairwise leL) ?_ (fun v hv' => ?_) (fun b hb => by obtain ⟨_, hb, _⟩ := hb; cases hb)
    · refine Is.at hb ?_
      rw [ixO_nat hs]
      simp only [Option.bind_some, ref32_passes_eq hn, cond_some', Bool.cond_false_right]
      by_cases hel : l.Balises[k].El = s.El
      · rw [hel] at k2
        unfold elLen at k2
        rw [he] at k2
        simp only [Option.map_some, Option.getD_some] at k2
        have hpl2 : ∃ q, d_ref32_place e s l.Balises[k] = some q ∧ w64 (B + q) = atE e s B l.Balises[k] := by
          unfold d_ref32_place atE
          by_cases h1 : s.In = 1
          · refine ⟨_, by rw [decide_eq_true h1]; rfl, ?_⟩
            rw [if_pos h1, w64_of (n := e.Length - l.Balises[k].Offset) (by omega) (by omega), w64_of (by omega) (by omega)]; omega
          · refine ⟨_, by rw [decide_eq_false h1]; rfl, ?_⟩
            rw [if_neg h1, w64_of (by omega) (by omega)]
        obtain ⟨q, hq, hat⟩ := hpl2
        rw [hq]
        simp only [Option.bind_some, hat, decide_eq_true hel, Bool.true_and]
        have hpart : part (k + 1) = part k ++ (if passB e.Kind s = true ∧ atE e s B l.Balises[k] ≤ en then [lkOf e s B l.Balises[k]] else []) := by
          show (if passB e.Kind s = true then stepE en e s B ((l.Balises.take (k + 1)).filter fun b => decide (b.El = s.El)) else []) = (if passB e.Kind s = true then stepE en e s B ((l.Balises.take k).filter fun b => decide (b.El = s.El)) else []) ++ _
          by_cases hp : passB e.Kind s = true
          · rw [if_pos hp, if_pos hp, take_get hb, List.filter_append]
            unfold stepE
            rw [List.map_append, List.filter_append]
            congr 1
            have e1 : ([l.Balises[k]].filter fun b => decide (b.El = s.El)) = [l.Balises[k]] := by simp [hel]
            rw [e1]
            by_cases hc : atE e s B l.Balises[k] ≤ en <;> simp [hc, hp, lkOf]
          · rw [if_neg hp, if_neg hp, if_neg (fun h => hp h.1)]; rfl
        refine Is.ite (p := passB e.Kind s = true ∧ atE e s B l.Balises[k] ≤ en) (by simp) (fun hc => ?_) (fun hc => ?_)
        · rw [if_pos hc] at hpart
          obtain ⟨r, r1, r2, r3⟩ := put_eq (T_api_Linked.mk l.Balises[k].Id (atE e s B l.Balises[k])) (by omega : z.length ≤ 10000) hzs
          rw [r1]
          simp only [Option.bind_some]
          refine Is.val ⟨r, rfl, ?_, r3⟩
          rw [hpart, ← List.append_assoc]
          refine r2.trans ((List.Perm.cons _ hz).trans ?_)
          exact (List.perm_append_comm (l₁ := [lkOf e s B l.Balises[k]]) (l₂ := out0 ++ part k))
        · rw [if_neg hc, List.append_nil] at hpart
          exact Is.val ⟨z, rfl, by rw [hpart]; exact hz, hzs⟩
      · have hpart : part (k + 1) = part k := by
          show (if passB e.Kind s = true then stepE en e s B ((l.Balises.take (k + 1)).filter fun b => decide (b.El = s.El)) else []) = (if passB e.Kind s = true then stepE en e s B ((l.Balises.take k).filter fun b => decide (b.El = s.El)) else [])
          rw [take_get hb, List.filter_append]
          have e1 : ([l.Balises[k]].filter fun b => decide (b.El = s.El)) = [] := by simp [hel]
          rw [e1, List.append_nil]
        have hq : ∃ q, d_ref32_place e s l.Balises[k] = some q := by
          unfold d_ref32_place
          cases decide (s.In = 1) <;> exact ⟨_, rfl⟩
        obtain ⟨q, hq⟩ := hq
        rw [hq]
        simp only [Option.bind_some, decide_eq_false hel, Bool.false_and, cond_false]
        exact Is.val ⟨z, rfl, by rw [hpart]; exact hz, hzs⟩
    · obtain ⟨z', hz', hz2⟩ := hv'
      cases hz'
      exact Is.val ⟨v, by rw [w64n (by omega)], hz2⟩
  · rintro z ⟨hz, hzs⟩
    unfold d_ref32_Of_1
    refine Is.oub (Is.val ⟨z, rfl, ?_, hzs⟩)
    rw [hst]
    have : part l.Balises.length = if passB e.Kind s = true then stepE en e s B (balsAt l s.El) else [] := by
      show (if passB e.Kind s = true then stepE en e s B ((l.Balises.take l.Balises.length).filter fun b => decide (b.El = s.El)) else []) = _
      rw [List.take_length]; rfl
    rw [← this]; exact hz
theorem ref32_Of_is {l : T_api_Layout} (h : Sm l) (hO : OkL l) {way : List T_api_Step} (hv : ValidP l way) {o : Int} (ho : -1073741824 ≤ o ∧ o ≤ 1073741824) (en : Int) :
    ∃ M, d_ref32_Of l way o en = some M ∧ M.Perm (linksS l en o way) ∧ M.Pairwise leL := by
  have hw := hv.2.1
  have hbl : l.Balises.length ≤ 24 := by have := hO.counts; unfold CountsP at this; omega
  obtain ⟨r, hr, hri⟩ := ref09_Valid_is l way h.jo (by omega)
  unfold d_ref32_Of
  rw [hr, hri.2 hv]
  simp only [Option.bind_some, Bool.not_true, cond_false]
  suffices Is (loopO (d_ref32_Of_0 l way en) (o, 0, ([] : List T_api_Linked))) fun q => ∃ M, q = .inl M ∧ M.Perm (linksS l en o way) ∧ M.Pairwise leL by
    obtain ⟨q, hq, M, rfl, h1, h2⟩ := this
    exact ⟨M, by rw [hq]; rfl, h1, h2⟩
  refine Is.loop (mk := fun (i : Nat) (x : Int × List T_api_Linked) => (x.1, (i : Int), x.2)) way.length (fun i x => x.1 = o + sumL l (way.take i) ∧ x.2.Perm (linksS l en o (way.take i)) ∧ x.2.Pairwise leL) (o, []) ⟨by simp [sumL], by simp [linksS], List.Pairwise.nil⟩ ?_ ?_
  · rintro i ⟨B, out⟩ hi ⟨hB, hp, hps⟩
    simp only at hB hp hps
    have hs : way[i]? = some way[i] := List.getElem?_eq_getElem hi
    obtain ⟨e, e1, e2, e3, e4, e5, e6⟩ := step_el hO hv hs
    have hsum := sumL_bound hO hv i (by omega)
    have hlen := e5.2.1
    have hol : out.length ≤ 5000 := by
      rw [hp.length_eq]
      refine Nat.le_trans (linksS_len l en (way.take i) o) ?_
      have : (way.take i).length * l.Balises.length ≤ 64 * 24 := Nat.mul_le_mul (by simp; omega) hbl
      omega
    have hnB : o + sumL l (way.take (i + 1)) = B + e.Length := by
      rw [take_snoc hs, sumL_append]
      simp only [sumL, Int.add_zero, e4]; omega
    obtain ⟨out', q1, q2, q3⟩ := ref32_Of_in hO hv en B (by omega) hs e2 e5 e6 out hol hps
    unfold d_ref32_Of_0
    refine Is.inb hi (Is.at hs ?_)
    rw [e1]
    simp only [Option.bind_some]
    rw [q1]
    simp only [onInl, onOut, Option.bind_some]
    refine Is.val ⟨(w64 (B + e.Length), out'), by rw [w64n (by omega)], ?_, ?_, q3⟩
    · show w64 (B + e.Length) = _
      rw [w64_of (by omega) (by omega), hnB]
    · show out'.Perm _
      rw [take_snoc hs, linksS_snoc, ← hB]
      exact q2.trans (hp.append_right _)
  · rintro ⟨B, out⟩ ⟨hB, hp, hps⟩
    unfold d_ref32_Of_0
    refine Is.oub (Is.val ⟨out, rfl, ?_, hps⟩)
    rw [List.take_length] at hp
    exact hp
theorem linking_Of_any {l : T_api_Layout} (h : Sm l) (hO : OkL l) {way : List T_api_Step} (hw : way.length ≤ 80) {o : Int} (ho : -1073741824 ≤ o ∧ o ≤ 1073741824) (en : Int) :
    ∃ M, d_linking_Of l way o en = some M ∧ d_ref32_Of l way o en = some M ∧ ((ValidP l way ∧ M.Perm (linksS l en o way) ∧ M.Pairwise leL) ∨ (¬ ValidP l way ∧ M = [])) := by
  by_cases hv : ValidP l way
  · obtain ⟨M, m1, m2, m3⟩ := linking_Of_is h hO hv ho en
    obtain ⟨M', n1, n2, n3⟩ := ref32_Of_is h hO hv ho en
    have : M' = M := perm_sorted_eq (n2.trans m2.symm) n3 m3
    subst this
    exact ⟨M', m1, n1, .inl ⟨hv, m2, m3⟩⟩
  · refine ⟨[], linking_Of_not h (by omega) hv o en, ?_, .inr ⟨hv, rfl⟩⟩
    obtain ⟨r, hr, hri⟩ := ref09_Valid_is l way h.jo (by omega)
    unfold d_ref32_Of
    cases r with
    | true => exact absurd (hri.1 rfl) hv
    | false => rw [hr]; rfl
theorem link_range {l : T_api_Layout} (hO : OkL l) {way : List T_api_Step} (hv : ValidP l way) {en o : Int} {x : T_api_Linked} (hx : x ∈ linksS l en o way) : o ≤ x.At ∧ x.At ≤ en := by
  obtain ⟨i, s, hs, hxs⟩ := mem_linksS hx
  obtain ⟨e, b, he, _, hb, hbe, rfl, hle⟩ := mem_stepL hxs
  obtain ⟨e', _, e2, _, _, e5, _⟩ := step_el hO hv hs
  rw [he] at e2; cases e2
  obtain ⟨_, _, _, k1, k2⟩ := hO.bal b hb
  rw [hbe] at k2
  unfold elLen at k2
  rw [he] at k2
  simp only [Option.map_some, Option.getD_some] at k2
  have := (sumL_bound hO hv i (by have := lt_of_get hs; omega)).1
  refine ⟨?_, hle⟩
  show o ≤ atE e s _ b
  unfold atE
  split <;> omega
end PM
