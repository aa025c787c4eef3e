/-
  PLAIN, LINKING C: the reference's list of the balises of a way; the laws of Of, Order and Reverse.
-/
import Derived.Test.YtnnhdhijidpfkaaDoorLnkB
namespace PM
open Go Go.RowKit

theorem perm_sorted_eq : ∀ {A B : List T_api_Linked}, A.Perm B → A.Pairwise leL → B.Pairwise leL → A = B
  | [], B, h, _, _ => (List.Perm.nil_eq h)
  | a :: A, [], h, _, _ => by have := h.length_eq; simp at this
  | a :: A, b :: B, h, hA, hB => by
    rw [List.pairwise_cons] at hA hB
    have e : a = b := by
      have h1 : a ∈ b :: B := h.subset (by simp)
      have h2 : b ∈ a :: A := h.symm.subset (by simp)
      rcases List.mem_cons.1 h1 with e | h1
      · exact e
      · rcases List.mem_cons.1 h2 with e | h2
        · exact e.symm
        · exact leL_antisymm (hA.1 b h2) (hB.1 a h1)
    subst e
    rw [perm_sorted_eq (List.Perm.cons_inv h) hA.2 hB.2]
theorem before_eq (x y : T_api_Linked) : d_ref32_before x y = some (decide (ltL x y)) := by
  unfold d_ref32_before
  congr 1
  rw [Bool.eq_iff_iff, decide_eq_true_iff]
  unfold ltL
  simp
theorem put_eq {L : List T_api_Linked} (x : T_api_Linked) (hL : L.length ≤ 10000) (hs : L.Pairwise leL) : ∃ r, d_ref32_put L x = some r ∧ r.Perm (x :: L) ∧ r.Pairwise leL := by
  suffices Is (d_ref32_put L x) fun r => r.Perm (x :: L) ∧ r.Pairwise leL by obtain ⟨r, h1, h2⟩ := this; exact ⟨r, h1, h2⟩
  unfold d_ref32_put
  refine Is.onInl (θ := fun o => ∃ out d, o = .inl (out, d) ∧ ((d = false ∧ out = L ∧ ∀ y ∈ L, leL y x) ∨ (d = true ∧ out.Perm (x :: L) ∧ out.Pairwise leL)) ∧ out.length ≤ 10001) ?_ ?_ (fun b hb => by obtain ⟨_, _, hb, _⟩ := hb; cases hb)
  · refine Is.loop (mk := fun (i : Nat) (z : Bool × List T_api_Linked) => (z.1, (i : Int), z.2)) L.length
      (fun i z => (z.1 = false ∧ z.2 = L.take i ∧ ∀ y ∈ L.take i, leL y x) ∨ (z.1 = true ∧ ∃ k, k < i ∧ z.2 = L.take k ++ x :: (L.take i).drop k ∧ (∀ y ∈ L.take k, leL y x) ∧ ∃ y, L[k]? = some y ∧ ltL x y)) (false, []) (.inl ⟨rfl, rfl, by simp⟩) ?_ ?_
    · rintro i ⟨d, out⟩ hi hI
      have hy : L[i]? = some L[i] := List.getElem?_eq_getElem hi
      have holen : out.length ≤ i + 1 := by
        rcases hI with ⟨_, rfl, _⟩ | ⟨_, k, k1, rfl, _⟩
        · simp; omega
        · simp; omega
      unfold d_ref32_put_0
      refine Is.inb hi ?_
      refine Is.onInl (θ := fun o => ∃ out' d', o = .inl (out', d') ∧ out'.length ≤ i + 2 ∧ ((d' = false ∧ out' ++ [L[i]] = L.take (i + 1) ∧ ∀ y ∈ L.take (i + 1), leL y x) ∨ (d' = true ∧ ∃ k, k < i + 1 ∧ out' ++ [L[i]] = L.take k ++ x :: (L.take (i + 1)).drop k ∧ (∀ y ∈ L.take k, leL y x) ∧ ∃ y, L[k]? = some y ∧ ltL x y))) ?_ ?_ (fun b hb => by obtain ⟨_, _, hb, _⟩ := hb; cases hb)
      · rw [ixO_nat hy]
        simp only [Option.bind_some, before_eq, cond_some', Bool.cond_false_right]
        rcases hI with ⟨hd, ho, hl⟩ | ⟨hd, k, k1, ho, k3, k4⟩
        · simp only at hd ho
          subst hd; subst ho
          refine Is.ite (p := ltL x L[i]) (by simp) (fun hc => ?_) (fun hc => ?_)
          · refine Is.bind (Is.app ?_) fun M hM => Is.val ⟨M, true, rfl, ?_, .inr ⟨rfl, i, by omega, ?_, hl, L[i], hy, hc⟩⟩
            · simp only [List.length_cons, List.length_nil, List.length_take, sizeMax, Enc.b]; omega
            · rw [hM]; simp; omega
            · rw [hM, take_get hy, List.drop_append_of_le_length (by simp; omega), List.drop_of_length_le (by rw [List.length_take]; omega)]
              simp
          · refine Is.val ⟨L.take i, false, rfl, by simp; omega, .inl ⟨rfl, (take_get hy).symm, fun y hyy => ?_⟩⟩
            rw [take_get hy] at hyy
            rcases List.mem_append.1 hyy with q | q
            · exact hl y q
            · simp at q; subst q; exact hc
        · simp only at hd ho
          subst hd
          simp only [Bool.not_true, Bool.false_and, cond_false]
          refine Is.val ⟨out, true, rfl, by omega, .inr ⟨rfl, k, by omega, ?_, k3, k4⟩⟩
          rw [ho, take_get hy, List.drop_append_of_le_length (by simp; omega)]
          simp
      · rintro ⟨v1, v2⟩ ⟨out', d', hv, hlen, hcase⟩
        cases hv
        refine Is.at hy (Is.bind (Is.app ?_) fun M hM => ?_)
        · simp only [List.length_cons, List.length_nil, sizeMax, Enc.b]; omega
        · refine Is.val ⟨(v2, M), by rw [w64n (by omega)], ?_⟩
          rw [hM]
          exact hcase
    · rintro ⟨d, out⟩ hI
      unfold d_ref32_put_0
      refine Is.oub (Is.val ⟨out, d, rfl, ?_, ?_⟩)
      · rcases hI with ⟨hd, ho, hl⟩ | ⟨hd, k, k1, ho, k3, y, k4, k5⟩
        · rw [List.take_length] at ho hl
          exact .inl ⟨hd, ho, hl⟩
        · rw [List.take_length] at ho
          simp only at ho
          refine .inr ⟨hd, ?_, ?_⟩
          · rw [ho]
            refine List.perm_middle.trans ?_
            rw [List.take_append_drop]
          · have hs' := hs
            rw [← List.take_append_drop k L, List.pairwise_append] at hs'
            rw [ho, List.pairwise_append, List.pairwise_cons]
            refine ⟨hs'.1, ⟨fun z hz => ?_, hs'.2.1⟩, fun a ha b hb => ?_⟩
            · obtain ⟨j, j1, j2⟩ := mem_drop' hz
              exact leL_trans (leL_of_lt k5) (sorted_at hs j1 k4 j2)
            · rcases List.mem_cons.1 hb with rfl | hb
              · exact k3 a ha
              · exact hs'.2.2 a ha b hb
      · rcases hI with ⟨_, ho, _⟩ | ⟨_, k, k1, ho, _⟩
        · simp only at ho; rw [ho]; simp; omega
        · simp only at ho; rw [ho]; simp; omega
  · rintro ⟨v1, v2⟩ ⟨out, d, hv, hcase, hlen⟩
    cases hv
    rcases hcase with ⟨hd, rfl, hl⟩ | ⟨hd, h1, h2⟩
    · subst hd
      simp only [Bool.not_false, cond_true]
      refine Is.onInl (θ := fun o => o = .inl (v1 ++ [x])) (Is.bind (Is.app ?_) fun M hM => Is.val (by rw [hM])) (fun v hv => ?_) (fun b hb => by cases hb)
      · simp only [List.length_cons, List.length_nil, sizeMax, Enc.b]; omega
      · cases hv
        refine Is.val ⟨?_, ?_⟩
        · simp
        · rw [List.pairwise_append]
          exact ⟨hs, by simp, fun a ha b hb => by simp at hb; subst hb; exact hl a ha⟩
    · subst hd
      simp only [Bool.not_true, cond_false, onInl, onOut, Option.bind_some]
      exact Is.val ⟨h1, h2⟩
theorem ref32_Of_in {l : T_api_Layout} (hO : OkL l) {way : List T_api_Step} (hv : ValidP l way) (en B : Int) (hB : -2147483648 ≤ B ∧ B ≤ 2147483648) {i : Nat} {s : T_api_Step} (hs : way[i]? = some s) {e : T_api_Element} (he : l.Elements[s.El.toNat]? = some e) (hr : RightP l e) (hn : (needS e.Kind s.In s.Out).2 = true) (out0 : List T_api_Linked) (h0 : out0.length ≤ 5000) (hs0 : out0.Pairwise leL) :
    ∃ out, loopO (d_ref32_Of_1 l way en B (i : Int) e) (out0, 0) = some (.inl out) ∧ out.Perm (out0 ++ stepL l en B s) ∧ out.Pairwise leL := by
  have hbl : l.Balises.length ≤ 24 := by have := hO.counts; unfold CountsP at this; omega
  have hlen := hr.2.1
  suffices Is (loopO (d_ref32_Of_1 l way en B (i : Int) e) (out0, 0)) fun o => ∃ out, o = .inl out ∧ out.Perm (out0 ++ stepL l en B s) ∧ out.Pairwise leL by
    obtain ⟨o, h, out, rfl, h1, h2⟩ := this; exact ⟨out, h, h1, h2⟩
  have hst : stepL l en B s = if passB e.Kind s = true then stepE en e s B (balsAt l s.El) else [] := by unfold stepL; rw [he]
  let part := fun k : Nat => if passB e.Kind s = true then stepE en e s B ((l.Balises.take k).filter fun b => decide (b.El = s.El)) else []
  have hpl : ∀ k, (part k).length ≤ 24 := fun k => by
    show (if passB e.Kind s = true then stepE en e s B ((l.Balises.take k).filter fun b => decide (b.El = s.El)) else []).length ≤ 24
    split
    · refine Nat.le_trans (stepE_len _ _ _ _ _) (Nat.le_trans (List.length_filter_le _ _) ?_)
      simp; omega
    · simp
  refine Is.loop (mk := fun (k : Nat) (z : List T_api_Linked) => (z, (k : Int))) l.Balises.length (fun k z => z.Perm (out0 ++ part k) ∧ z.Pairwise leL) out0 ⟨?_, hs0⟩ ?_ ?_
  · have : part 0 = [] := by
      show (if passB e.Kind s = true then stepE en e s B (([] : List T_api_Balise).filter fun b => decide (b.El = s.El)) else []) = []
      split <;> simp [stepE]
    rw [this, List.append_nil]
  · rintro k z hk ⟨hz, hzs⟩
    have hb : l.Balises[k]? = some l.Balises[k] := List.getElem?_eq_getElem hk
    obtain ⟨_, _, _, k1, k2⟩ := hO.bal _ (List.getElem_mem hk)
    unfold d_ref32_Of_1
    refine Is.inb hk ?_
    have hzl : z.length ≤ 6000 := by rw [hz.length_eq, List.length_append]; have := hpl k; omega
    refine Is.onInl (θ := fun o => ∃ z', o = .inl z' ∧ z'.Perm (out0 ++ part (k + 1)) ∧ z'.Pairwise leL) ?_ (fun v hv' => ?_) (fun b hb => by obtain ⟨_, hb, _⟩ := hb; cases hb)
    · refine Is.at hb ?_
      rw [ixO_nat hs]
      simp only [Option.bind_some, ref32_passes_eq hn, cond_some', Bool.cond_false_right]
      by_cases hel : l.Balises[k].El = s.El
      · rw [hel] at k2
        unfold elLen at k2
        rw [he] at k2
        simp only [Option.map_some, Option.getD_some] at k2
        have hpl2 : ∃ q, d_ref32_place e s l.Balises[k] = some q ∧ w64 (B + q) = atE e s B l.Balises[k] := by
          unfold d_ref32_place atE
          by_cases h1 : s.In = 1
          · refine ⟨_, by rw [decide_eq_true h1]; rfl, ?_⟩
            rw [if_pos h1, w64_of (n := e.Length - l.Balises[k].Offset) (by omega) (by omega), w64_of (by omega) (by omega)]; omega
          · refine ⟨_, by rw [decide_eq_false h1]; rfl, ?_⟩
            rw [if_neg h1, w64_of (by omega) (by omega)]
        obtain ⟨q, hq, hat⟩ := hpl2
        rw [hq]
        simp only [Option.bind_some, hat, decide_eq_true hel, Bool.true_and]
        have hpart : part (k + 1) = part k ++ (if passB e.Kind s = true ∧ atE e s B l.Balises[k] ≤ en then [lkOf e s B l.Balises[k]] else []) := by
          show (if passB e.Kind s = true then stepE en e s B ((l.Balises.take (k + 1)).filter fun b => decide (b.El = s.El)) else []) = (if passB e.Kind s = true then stepE en e s B ((l.Balises.take k).filter fun b => decide (b.El = s.El)) else []) ++ _
          by_cases hp : passB e.Kind s = true
          · rw [if_pos hp, if_pos hp, take_get hb, List.filter_append]
            unfold stepE
            rw [List.map_append, List.filter_append]
            congr 1
            have e1 : ([l.Balises[k]].filter fun b => decide (b.El = s.El)) = [l.Balises[k]] := by simp [hel]
            rw [e1]
            by_cases hc : atE e s B l.Balises[k] ≤ en <;> simp [hc, hp, lkOf]
          · rw [if_neg hp, if_neg hp, if_neg (fun h => hp h.1)]; rfl
        refine Is.ite (p := passB e.Kind s = true ∧ atE e s B l.Balises[k] ≤ en) (by simp) (fun hc => ?_) (fun hc => ?_)
        · rw [if_pos hc] at hpart
          obtain ⟨r, r1, r2, r3⟩ := put_eq (T_api_Linked.mk l.Balises[k].Id (atE e s B l.Balises[k])) (by omega : z.length ≤ 10000) hzs
          rw [r1]
          simp only [Option.bind_some]
          refine Is.val ⟨r, rfl, ?_, r3⟩
          rw [hpart, ← List.append_assoc]
          refine r2.trans ((List.Perm.cons _ hz).trans ?_)
          exact (List.perm_append_comm (l₁ := [lkOf e s B l.Balises[k]]) (l₂ := out0 ++ part k))
        · rw [if_neg hc, List.append_nil] at hpart
          exact Is.val ⟨z, rfl, by rw [hpart]; exact hz, hzs⟩
      · have hpart : part (k + 1) = part k := by
          show (if passB e.Kind s = true then stepE en e s B ((l.Balises.take (k + 1)).filter fun b => decide (b.El = s.El)) else []) = (if passB e.Kind s = true then stepE en e s B ((l.Balises.take k).filter fun b => decide (b.El = s.El)) else [])
          rw [take_get hb, List.filter_append]
          have e1 : ([l.Balises[k]].filter fun b => decide (b.El = s.El)) = [] := by simp [hel]
          rw [e1, List.append_nil]
        have hq : ∃ q, d_ref32_place e s l.Balises[k] = some q := by
          unfold d_ref32_place
          cases decide (s.In = 1) <;> exact ⟨_, rfl⟩
        obtain ⟨q, hq⟩ := hq
        rw [hq]
        simp only [Option.bind_some, decide_eq_false hel, Bool.false_and, cond_false]
        exact Is.val ⟨z, rfl, by rw [hpart]; exact hz, hzs⟩
    · obtain ⟨z', hz', hz2⟩ := hv'
      cases hz'
      exact Is.val ⟨v, by rw [w64n (by omega)], hz2⟩
  · rintro z ⟨hz, hzs⟩
    unfold d_ref32_Of_1
    refine Is.oub (Is.val ⟨z, rfl, ?_, hzs⟩)
    rw [hst]
    have : part l.Balises.length = if passB e.Kind s = true then stepE en e s B (balsAt l s.El) else [] := by
      show (if passB e.Kind s = true then stepE en e s B ((l.Balises.take l.Balises.length).filter fun b => decide (b.El = s.El)) else []) = _
      rw [List.take_length]; rfl
    rw [← this]; exact hz
theorem ref32_Of_is {l : T_api_Layout} (h : Sm l) (hO : OkL l) {way : List T_api_Step} (hv : ValidP l way) {o : Int} (ho : -1073741824 ≤ o ∧ o ≤ 1073741824) (en : Int) :
    ∃ M, d_ref32_Of l way o en = some M ∧ M.Perm (linksS l en o way) ∧ M.Pairwise leL := by
  have hw := hv.2.1
  have hbl : l.Balises.length ≤ 24 := by have := hO.counts; unfold CountsP at this; omega
  obtain ⟨r, hr, hri⟩ := ref09_Valid_is l way h.jo (by omega)
  unfold d_ref32_Of
  rw [hr, hri.2 hv]
  simp only [Option.bind_some, Bool.not_true, cond_false]
  suffices Is (loopO (d_ref32_Of_0 l way en) (o, 0, ([] : List T_api_Linked))) fun q => ∃ M, q = .inl M ∧ M.Perm (linksS l en o way) ∧ M.Pairwise leL by
    obtain ⟨q, hq, M, rfl, h1, h2⟩ := this
    exact ⟨M, by rw [hq]; rfl, h1, h2⟩
  refine Is.loop (mk := fun (i : Nat) (x : Int × List T_api_Linked) => (x.1, (i : Int), x.2)) way.length (fun i x => x.1 = o + sumL l (way.take i) ∧ x.2.Perm (linksS l en o (way.take i)) ∧ x.2.Pairwise leL) (o, []) ⟨by simp [sumL], by simp [linksS], List.Pairwise.nil⟩ ?_ ?_
  · rintro i ⟨B, out⟩ hi ⟨hB, hp, hps⟩
    simp only at hB hp hps
    have hs : way[i]? = some way[i] := List.getElem?_eq_getElem hi
    obtain ⟨e, e1, e2, e3, e4, e5, e6⟩ := step_el hO hv hs
    have hsum := sumL_bound hO hv i (by omega)
    have hlen := e5.2.1
    have hol : out.length ≤ 5000 := by
      rw [hp.length_eq]
      refine Nat.le_trans (linksS_len l en (way.take i) o) ?_
      have : (way.take i).length * l.Balises.length ≤ 64 * 24 := Nat.mul_le_mul (by simp; omega) hbl
      omega
    have hnB : o + sumL l (way.take (i + 1)) = B + e.Length := by
      rw [take_snoc hs, sumL_append]
      simp only [sumL, Int.add_zero, e4]; omega
    obtain ⟨out', q1, q2, q3⟩ := ref32_Of_in hO hv en B (by omega) hs e2 e5 e6 out hol hps
    unfold d_ref32_Of_0
    refine Is.inb hi (Is.at hs ?_)
    rw [e1]
    simp only [Option.bind_some]
    rw [q1]
    simp only [onInl, onOut, Option.bind_some]
    refine Is.val ⟨(w64 (B + e.Length), out'), by rw [w64n (by omega)], ?_, ?_, q3⟩
    · show w64 (B + e.Length) = _
      rw [w64_of (by omega) (by omega), hnB]
    · show out'.Perm _
      rw [take_snoc hs, linksS_snoc, ← hB]
      exact q2.trans (hp.append_right _)
  · rintro ⟨B, out⟩ ⟨hB, hp, hps⟩
    unfold d_ref32_Of_0
    refine Is.oub (Is.val ⟨out, rfl, ?_, hps⟩)
    rw [List.take_length] at hp
    exact hp
theorem few_is {l : T_api_Layout} (h : Sm l) (way : List T_api_Step) (o : Int) : ∃ b, d_law32_few l way o = some b ∧ (b = true → OkL l ∧ way.length ≤ 80 ∧ -1073741824 ≤ o ∧ o ≤ 1073741824) := by
  unfold d_law32_few
  rw [ref07_Check_eq h]
  simp only [Option.bind_some, cond_some', Bool.cond_false_right]
  refine ⟨_, rfl, fun hb => ?_⟩
  simp only [Bool.and_eq_true, decide_eq_true_eq] at hb
  exact ⟨(chk_ok l).1 hb.2, by omega, by omega, by omega⟩
theorem linking_Of_any {l : T_api_Layout} (h : Sm l) (hO : OkL l) {way : List T_api_Step} (hw : way.length ≤ 80) {o : Int} (ho : -1073741824 ≤ o ∧ o ≤ 1073741824) (en : Int) :
    ∃ M, d_linking_Of l way o en = some M ∧ d_ref32_Of l way o en = some M ∧ ((ValidP l way ∧ M.Perm (linksS l en o way) ∧ M.Pairwise leL) ∨ (¬ ValidP l way ∧ M = [])) := by
  by_cases hv : ValidP l way
  · obtain ⟨M, m1, m2, m3⟩ := linking_Of_is h hO hv ho en
    obtain ⟨M', n1, n2, n3⟩ := ref32_Of_is h hO hv ho en
    have : M' = M := perm_sorted_eq (n2.trans m2.symm) n3 m3
    subst this
    exact ⟨M', m1, n1, .inl ⟨hv, m2, m3⟩⟩
  · refine ⟨[], linking_Of_not h (by omega) hv o en, ?_, .inr ⟨hv, rfl⟩⟩
    obtain ⟨r, hr, hri⟩ := ref09_Valid_is l way h.jo (by omega)
    unfold d_ref32_Of
    cases r with
    | true => exact absurd (hri.1 rfl) hv
    | false => rw [hr]; rfl
theorem linkingOf_law {l : T_api_Layout} (h : Sm l) (way : List T_api_Step) (o en : Int) : d_law32_LinkingOf l way o en = some true := by
  unfold d_law32_LinkingOf
  obtain ⟨b, hb, hf⟩ := few_is h way o
  rw [hb]
  cases b with
  | false => simp only [Option.bind_some, Bool.not_false, cond_true, law32_alive_eq]
  | true =>
    obtain ⟨hO, hw, ho⟩ := hf rfl
    obtain ⟨M, m1, m2, _⟩ := linking_Of_any h hO hw ho en
    have hM : M.length ≤ 1048576 := by
      obtain ⟨M', m1', _, hc⟩ := linking_Of_any h hO hw ho en
      rw [m1] at m1'; cases m1'
      rcases hc with ⟨hv, hp, _⟩ | ⟨_, rfl⟩
      · rw [hp.length_eq]; have := linksS_few hO hv en o; omega
      · simp
    obtain ⟨r, hr, hri⟩ := ref32_Same_is (p := M) (q := M) hM
    simp only [Option.bind_some, Bool.not_true, cond_false, m1, m2, hr, hri.2 rfl, cond_true, law32_alive_eq]
theorem find_here {M : List T_api_Linked} {i : Nat} {x : T_api_Linked} (hx : M[i]? = some x) : d_linking_find M (i : Int) x.Id = some (i : Int) := by
  have hi := lt_of_get hx
  unfold d_linking_find
  rw [loop_done (r := .inr (i : Int)) (by simp only [d_linking_find_0, decide_eq_true (show ((i : Nat) : Int) < ((M.length : Nat) : Int) by omega), cond_true, ixO_nat hx, Option.bind_some, decide_true])]
  rfl
theorem LVal_of {l : T_api_Layout} (hO : OkL l) {way : List T_api_Step} (hv : ValidP l way) {en o : Int} {M : List T_api_Linked} (hp : M.Perm (linksS l en o way)) (hs : M.Pairwise leL) : LVal M := by
  have hn : (M.map (·.Id)).Nodup := (hp.map (·.Id)).nodup_iff.2 (linksS_ids hO.bald en way o hv.els)
  refine ⟨by rw [hp.length_eq]; exact linksS_few hO hv en o, fun i x hx => ⟨fun y h0 hy => ?_, fun y hy e => ?_⟩⟩
  · have := sorted_at hs (by omega) hy hx
    unfold leL ltL at this; omega
  · obtain ⟨j, j1, j2⟩ := mem_take' hy
    have h1 : (M.map (·.Id))[j]? = some x.Id := by rw [List.getElem?_map, j2]; simp [e]
    have h2 : (M.map (·.Id))[i]? = some x.Id := by rw [List.getElem?_map, hx]; rfl
    obtain ⟨q1, q2⟩ := List.getElem?_eq_some_iff.1 h1
    obtain ⟨p1, p2⟩ := List.getElem?_eq_some_iff.1 h2
    rw [List.nodup_iff_pairwise_ne, List.pairwise_iff_getElem] at hn
    exact hn j i q1 p1 j1 (q2.trans p2.symm)
theorem link_range {l : T_api_Layout} (hO : OkL l) {way : List T_api_Step} (hv : ValidP l way) {en o : Int} {x : T_api_Linked} (hx : x ∈ linksS l en o way) : o ≤ x.At ∧ x.At ≤ en := by
  obtain ⟨i, s, hs, hxs⟩ := mem_linksS hx
  obtain ⟨e, b, he, _, hb, hbe, rfl, hle⟩ := mem_stepL hxs
  obtain ⟨e', _, e2, _, _, e5, _⟩ := step_el hO hv hs
  rw [he] at e2; cases e2
  obtain ⟨_, _, _, k1, k2⟩ := hO.bal b hb
  rw [hbe] at k2
  unfold elLen at k2
  rw [he] at k2
  simp only [Option.map_some, Option.getD_some] at k2
  have := (sumL_bound hO hv i (by have := lt_of_get hs; omega)).1
  refine ⟨?_, hle⟩
  show o ≤ atE e s _ b
  unfold atE
  split <;> omega
theorem linkingOrder_law {l : T_api_Layout} (h : Sm l) (way : List T_api_Step) (o en : Int) : d_law32_LinkingOrder l way o en = some true := by
  suffices Is (d_law32_LinkingOrder l way o en) fun r => r = true by obtain ⟨r, h, rfl⟩ := this; exact h
  unfold d_law32_LinkingOrder
  obtain ⟨b, hb, hf⟩ := few_is h way o
  rw [hb]
  cases b with
  | false => simp only [Option.bind_some, Bool.not_false, cond_true, law32_alive_eq]; exact Is.val rfl
  | true =>
    obtain ⟨hO, hw, ho⟩ := hf rfl
    obtain ⟨M, m1, _, hc⟩ := linking_Of_any h hO hw ho en
    have hV : LVal M ∧ ∀ x ∈ M, o ≤ x.At ∧ x.At ≤ en := by
      rcases hc with ⟨hv, hp, hs⟩ | ⟨_, rfl⟩
      · exact ⟨LVal_of hO hv hp hs, fun x hx => link_range hO hv (hp.subset hx)⟩
      · exact ⟨⟨by simp, fun i x hx => by simp at hx⟩, fun x hx => by cases hx⟩
    obtain ⟨r, hr, hri⟩ := linking_Valid_is M
    simp only [Option.bind_some, Bool.not_true, cond_false, m1, hr, hri.2 hV.1]
    have hM := hV.1.1
    refine Is.onInl (θ := fun o => o = .inl ()) ?_ (fun _ _ => by rw [law32_alive_eq]; exact Is.val rfl) (fun b hb => by cases hb)
    refine Is.loop (mk := fun (i : Nat) (z : Int) => (z, (i : Int))) M.length (fun i z => z = (i : Int)) 0 rfl ?_ ?_
    · rintro i z hi rfl
      have hx : M[i]? = some M[i] := List.getElem?_eq_getElem hi
      obtain ⟨q1, q2⟩ := hV.2 _ (List.getElem_mem hi)
      unfold d_law32_LinkingOrder_0
      refine Is.inb hi (Is.at hx ?_)
      have hrd : d_linking_Read M (i : Int) M[i].Id = some (w64 ((i : Int) + 1), 1) := by
        unfold d_linking_Read d_num_Clamp
        have hcl : max (0 : Int) (min (i : Int) ((M.length : Nat) : Int)) = (i : Int) := by omega
        simp only [Option.bind_some, hcl, find_here hx, decide_eq_false (show ¬ (i : Int) < 0 by omega), cond_false, decide_true, cond_true]
      rw [hrd, ixO_nat hx]
      simp only [Option.bind_some, decide_true, Bool.not_true, Bool.or_self, cond_false, decide_eq_false (show ¬ en < M[i].At by omega), decide_eq_false (show ¬ M[i].At < o by omega)]
      exact Is.val ⟨((i + 1 : Nat) : Int), by rw [w64n (by omega)], rfl⟩
    · rintro z rfl
      unfold d_law32_LinkingOrder_0
      exact Is.oub (Is.val rfl)
theorem passB_flip (k : Int) (s : T_api_Step) : passB k (flipS s) = passB k s := by
  unfold passB flipS
  rw [Bool.eq_iff_iff]
  simp only [Bool.or_eq_true, Bool.and_eq_true, decide_eq_true_eq]
  omega
theorem sumL_take_rev (l : T_api_Layout) (way : List T_api_Step) {i : Nat} {s : T_api_Step} (hs : way[i]? = some s) : sumL l ((revS way).take (way.length - 1 - i)) = sumL l way - sumL l (way.take i) - lenOf l s := by
  have hi := lt_of_get hs
  have e1 : (revS way).take (way.length - 1 - i) = revS (way.drop (i + 1)) := by
    rw [revS_eq, revS_eq, ← List.map_take, List.take_reverse]
    congr 3
    omega
  have e2 : way = way.take i ++ s :: way.drop (i + 1) := by
    conv => lhs; rw [← List.take_append_drop i way]
    congr 1
    rw [List.drop_eq_getElem_cons hi]
    congr 1
    rw [List.getElem?_eq_getElem hi] at hs
    exact Option.some.inj hs
  rw [e1, sumL_rev]
  have := congrArg (sumL l) e2
  rw [sumL_append] at this
  simp only [sumL] at this
  omega
theorem mirror {l : T_api_Layout} (hO : OkL l) {way : List T_api_Step} (hv : ValidP l way) {x : T_api_Linked} (hx : x ∈ linksS l (sumL l way) 0 way) : (⟨x.Id, sumL l way - x.At⟩ : T_api_Linked) ∈ linksS l (sumL l way) 0 (revS way) := by
  have hge := (link_range hO hv hx).1
  obtain ⟨i, s, hs, hxs⟩ := mem_linksS hx
  obtain ⟨e, b, he, hp, hb, hbe, rfl, hle⟩ := mem_stepL hxs
  obtain ⟨e', _, e2, _, e4, e5, e6⟩ := step_el hO hv hs
  rw [he] at e2; cases e2
  have hi := lt_of_get hs
  have hrs : (revS way)[way.length - 1 - i]? = some (flipS s) := by
    rw [revS_get way (by omega), show way.length - 1 - (way.length - 1 - i) = i by omega, hs]; rfl
  refine linksS_mem hrs ?_
  have hst : stepL l (sumL l way) (0 + sumL l ((revS way).take (way.length - 1 - i))) (flipS s) = stepE (sumL l way) e (flipS s) (0 + sumL l ((revS way).take (way.length - 1 - i))) (balsAt l s.El) := by
    unfold stepL
    rw [show (flipS s).El = s.El from rfl, he]
    simp only [passB_flip, hp, if_true]
  rw [hst, sumL_take_rev l way hs, e4]
  unfold stepE
  refine List.mem_filter.2 ⟨List.mem_map.2 ⟨b, List.mem_filter.2 ⟨hb, by simpa using hbe⟩, ?_⟩, ?_⟩
  · unfold lkOf
    congr 1
    show atE e (flipS s) (0 + (sumL l way - sumL l (way.take i) - e.Length)) b = sumL l way - atE e s (0 + sumL l (way.take i)) b
    unfold atE flipS
    unfold passB at hp
    simp only [Bool.or_eq_true, Bool.and_eq_true, decide_eq_true_eq] at hp
    have hc := needS_cases e6
    by_cases h1 : s.In = 1
    · have h2 : s.Out ≠ 1 := by omega
      rw [if_pos h1, if_neg h2]; omega
    · have h2 : s.Out = 1 := by omega
      rw [if_neg h1, if_pos h2]; omega
  · simp only [decide_eq_true_eq]
    show sumL l way - _ ≤ sumL l way
    have : (0 : Int) ≤ (lkOf e s (0 + sumL l (way.take i)) b).At := hge
    omega
theorem exists_loop {r6 r8 : List T_api_Linked} (n : Int) {i : Nat} {x : T_api_Linked} (hx : r6[i]? = some x) (h8 : r8.length ≤ 1000) (hy : ∃ y ∈ r8, y.Id = x.Id ∧ y.At = w64 (n - x.At)) : loopO (d_law32_LinkingReverse_1 n r6 r8 (i : Int)) (false, 0) = some (.inl true) := by
  suffices Is (loopO (d_law32_LinkingReverse_1 n r6 r8 (i : Int)) (false, 0)) fun o => o = .inl true by obtain ⟨o, h, rfl⟩ := this; exact h
  refine Is.loop (mk := fun (k : Nat) (z : Bool) => (z, (k : Int))) r8.length (fun k z => z = true ↔ ∃ y ∈ r8.take k, y.Id = x.Id ∧ y.At = w64 (n - x.At)) false (by simp) ?_ ?_
  · rintro k z hk hz
    have hb : r8[k]? = some r8[k] := List.getElem?_eq_getElem hk
    unfold d_law32_LinkingReverse_1
    refine Is.inb hk ?_
    rw [ixO_nat hb, ixO_nat hx]
    simp only [Option.bind_some, cond_some', Bool.cond_false_right, Bool.cond_true_left]
    refine Is.val ⟨z || (decide (r8[k].Id = x.Id) && decide (r8[k].At = w64 (n - x.At))), by rw [w64n (by omega)], ?_⟩
    rw [take_get hb, Bool.or_eq_true, hz, Bool.and_eq_true, decide_eq_true_iff, decide_eq_true_iff]
    constructor
    · rintro (⟨y, h1, h2⟩ | h)
      · exact ⟨y, List.mem_append_left _ h1, h2⟩
      · exact ⟨r8[k], List.mem_append_right _ (by simp), h⟩
    · rintro ⟨y, h1, h2⟩
      rcases List.mem_append.1 h1 with h1 | h1
      · exact .inl ⟨y, h1, h2⟩
      · simp at h1; subst h1; exact .inr h2
  · rintro z hz
    unfold d_law32_LinkingReverse_1
    refine Is.oub (Is.val ?_)
    rw [List.take_length] at hz
    rw [hz.2 hy]
theorem linkingReverse_law {l : T_api_Layout} (h : Sm l) (way : List T_api_Step) : d_law32_LinkingReverse l way = some true := by
  suffices Is (d_law32_LinkingReverse l way) fun r => r = true by obtain ⟨r, h, rfl⟩ := this; exact h
  unfold d_law32_LinkingReverse
  obtain ⟨b, hb, hf⟩ := few_is h way 0
  rw [hb]
  cases b with
  | false => simp only [Option.bind_some, Bool.not_false, cond_true, law32_alive_eq]; exact Is.val rfl
  | true =>
    obtain ⟨hO, hw, _⟩ := hf rfl
    obtain ⟨r, hr, hri⟩ := ref09_Valid_is l way h.jo (by omega)
    rw [hr]
    by_cases hv : ValidP l way
    · rw [hri.2 hv]
      simp only [Option.bind_some, Bool.not_true, cond_false]
      have hJ : JoinsOk l := by
        have h1 := ref07_Check_is h
        rw [ref07_Check_eq h] at h1
        exact h1.get rfl ((chk_ok l).2 hO)
      have hvr := hv.rev hJ
      have hb1 := sumL_bound hO hv way.length (Nat.le_refl _)
      rw [List.take_length] at hb1
      have hwl := hv.2.1
      have hn : w64 (sumL l way) = sumL l way := w64_of (by omega) (by omega)
      rw [ref09_Length_eq l way (by omega), hn, ref09_Reverse_eq way (by omega)]
      simp only [Option.bind_some]
      obtain ⟨A, a1, a2, a3⟩ := linking_Of_is h hO hv (o := 0) (by omega) (sumL l way)
      obtain ⟨B, b1, b2, b3⟩ := linking_Of_is h hO hvr (o := 0) (by omega) (sumL l way)
      rw [a1, b1]
      simp only [Option.bind_some]
      have hAl : A.length ≤ 24 := by rw [a2.length_eq]; exact linksS_few hO hv _ _
      have hBl : B.length ≤ 24 := by rw [b2.length_eq]; exact linksS_few hO hvr _ _
      have hm1 : ∀ x ∈ A, (⟨x.Id, sumL l way - x.At⟩ : T_api_Linked) ∈ B := fun x hx => b2.symm.subset (mirror hO hv (a2.subset hx))
      have hm2 : ∀ x ∈ B, (⟨x.Id, sumL l way - x.At⟩ : T_api_Linked) ∈ A := fun x hx => by
        have hx' := b2.subset hx
        rw [← sumL_rev l way] at hx'
        have := mirror hO hvr hx'
        rw [revS_revS, sumL_rev] at this
        exact a2.symm.subset this
      have hlen : A.length = B.length := by
        have := same_len (a := A.map (·.Id)) (b := B.map (·.Id)) ((a2.map (·.Id)).nodup_iff.2 (linksS_ids hO.bald _ way _ hv.els)) ((b2.map (·.Id)).nodup_iff.2 (linksS_ids hO.bald _ (revS way) _ hvr.els)) (fun k => by
          constructor
          · intro hk
            obtain ⟨x, hx, rfl⟩ := List.mem_map.1 hk
            exact List.mem_map.2 ⟨_, hm1 x hx, rfl⟩
          · intro hk
            obtain ⟨x, hx, rfl⟩ := List.mem_map.1 hk
            exact List.mem_map.2 ⟨_, hm2 x hx, rfl⟩)
        simpa using this
      rw [decide_eq_true (show ((A.length : Nat) : Int) = ((B.length : Nat) : Int) by omega)]
      simp only [Bool.not_true, cond_false]
      refine Is.all (L := A) (fun _ _ => True) () (by omega) (fun i x hx hi _ => ?_) (by simp [d_law32_LinkingReverse_0]) (fun _ => by rw [law32_alive_eq]; exact Is.val rfl)
      unfold d_law32_LinkingReverse_0
      refine Is.inb hi ?_
      have hxm := List.mem_of_getElem? hx
      have hrg := link_range hO hv (a2.subset hxm)
      rw [exists_loop (sumL l way) hx (by omega) ⟨_, hm1 x hxm, rfl, by rw [w64_of (by omega) (by omega)]⟩]
      simp only [onInl, onOut, Option.bind_some, Bool.not_true, cond_false]
      exact Is.val ⟨rfl, trivial⟩
    · have hrf : r = false := by
        cases r with
        | true => exact absurd (hri.1 rfl) hv
        | false => rfl
      rw [hrf]
      simp only [Option.bind_some, Bool.not_true, cond_false, Bool.not_false, cond_true, law32_alive_eq]
      exact Is.val rfl
end PM
