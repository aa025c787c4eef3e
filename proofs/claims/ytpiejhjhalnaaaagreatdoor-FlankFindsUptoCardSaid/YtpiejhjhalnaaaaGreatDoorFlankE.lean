/-
  PLAIN, FLANK E: the reference's Find; the statement FlankFinds.
-/
import Derived.Test.YtpiejhjhalnaaaaGreatDoorFlankC
import Derived.Test.YtpiejhjhalnaaaaGreatDoorRefB
namespace PM
open Go Go.RowKit

/-! ### Settings, ascending by element -/
def AscE (l : List T_api_Setting) : Prop := l.Pairwise fun x y => x.El < y.El
theorem AscE.one {a b : List T_api_Setting} (ha : AscE a) (hb : AscE b) (h : ∀ x, x ∈ a ↔ x ∈ b) : a = b :=
  strict_unique (lt := fun x y => decide (x.El < y.El)) (fun x => by simp) (fun x y z h1 h2 => by simp at h1 h2 ⊢; omega) a b (ha.imp fun h => decide_eq_true h) (hb.imp fun h => decide_eq_true h) h
theorem AscE.at {L : List T_api_Setting} (h : AscE L) {i j : Nat} {x y : T_api_Setting} (hx : L[i]? = some x) (hy : L[j]? = some y) (hij : i < j) : x.El < y.El := by
  have h1 := lt_of_get hx
  have h2 := lt_of_get hy
  rw [List.getElem?_eq_getElem h1] at hx; cases hx
  rw [List.getElem?_eq_getElem h2] at hy; cases hy
  exact (List.pairwise_iff_getElem.1 h) i j h1 h2 hij
theorem AscE.asc {L : List T_api_Setting} (h : AscE L) : Asc L := h.imp fun {x y} hxy => by rw [ltS_eq, decide_eq_true_iff]; exact .inl hxy
structure InsE (L : List T_api_Setting) (x : T_api_Setting) (i : Nat) (d : Bool) (o : List T_api_Setting) : Prop where
  asc : AscE o
  mem : ∀ y, y ∈ o ↔ y ∈ L.take i ∨ (d = true ∧ y = x)
  len : o.length ≤ i + 1
  no : d = false → ∀ y ∈ L.take i, y.El < x.El
  yes : d = true → ∀ (j : Nat) y, i ≤ j → L[j]? = some y → x.El < y.El
theorem takeE_lt {L : List T_api_Setting} (h : AscE L) {i : Nat} {y z : T_api_Setting} (hy : L[i]? = some y) (hz : z ∈ L.take i) : z.El < y.El := by
  obtain ⟨j, hj⟩ := List.mem_iff_getElem?.1 hz
  have h1 := lt_of_get hj
  rw [List.length_take] at h1
  rw [List.getElem?_take] at hj
  split at hj
  · exact h.at hj hy (by omega)
  · cases hj
theorem ref14_put_is (L : List T_api_Setting) (x : T_api_Setting) (hL : AscE L) (hne : x ∈ L ∨ ∀ y ∈ L, y.El ≠ x.El) (h : L.length ≤ 1000000) : Is (d_ref14_put L x) fun M => AscE M ∧ (∀ y, y ∈ M ↔ y ∈ L ∨ y = x) ∧ M.length ≤ L.length + 1 := by
  unfold d_ref14_put
  rw [ref14_has_eq L x (by omega), Option.bind_some]
  refine Is.ite (p := x ∈ L) (show hasB L x = true ↔ x ∈ L from dec_iff) (fun hx => Is.val ⟨hL, fun y => ⟨.inl, ?_⟩, by omega⟩) (fun hx => ?_)
  · rintro (h | rfl)
    · exact h
    · exact hx
  have hne : ∀ y ∈ L, y.El ≠ x.El := hne.resolve_left hx
  refine Is.onInl (θ := fun o => ∃ r, o = .inl r ∧ InsE L x L.length r.2 r.1) ?_ ?_ (fun b hb => by obtain ⟨_, hb, _⟩ := hb; cases hb)
  · refine Is.loop (mk := fun (i : Nat) (s : Bool × List T_api_Setting) => (s.1, (i : Int), s.2)) L.length (fun i s => InsE L x i s.1 s.2) (false, []) ⟨List.Pairwise.nil, fun y => by simp, by simp, fun _ y hy => by simp at hy, fun h => by cases h⟩ ?_ ?_
    · rintro i ⟨d, o⟩ hi hI
      unfold d_ref14_put_0
      simp only at hI
      obtain ⟨y, hy⟩ : ∃ y, L[i]? = some y := ⟨_, List.getElem?_eq_getElem hi⟩
      have hlen := hI.len
      have hmem : y ∈ L := List.mem_of_getElem? hy
      have e0 : decide ((i : Int) < ((L.length : Nat) : Int)) = true := decide_eq_true (by omega)
      simp only [ixO_nat hy, e0, cond_true, Option.bind_some, cond_some, Bool.cond_false_right]
      refine Is.onInl (θ := fun v => ∃ r, v = .inl r ∧ r.1.length ≤ i + 2 - 1 + 1 - 1 + 1 ∧ InsE L x (i + 1) r.2 (r.1 ++ [y])) ?_ ?_ (fun b hb => by obtain ⟨_, hb, _⟩ := hb; cases hb)
      · refine Is.cond (fun hc => ?_) (fun hc => ?_)
        · simp only [Bool.and_eq_true, Bool.not_eq_true', decide_eq_true_eq] at hc
          obtain ⟨rfl, hc⟩ := hc
          have hol : o.length ≤ i := by
            have e : o = L.take i := hI.asc.one (hL.sublist (List.take_sublist i L)) (fun z => by rw [hI.mem]; simp)
            rw [e, List.length_take]; omega
          refine Is.bind (Is.app (by simp only [List.length_cons, List.length_nil, sizeMax, Enc.b]; omega)) fun M hM => ?_
          subst hM
          refine Is.val ⟨_, rfl, by simp; omega, ?_⟩
          refine ⟨?_, fun z => ?_, by simp; omega, fun h => (by cases h), fun _ j z hj hz => ?_⟩
          · unfold AscE
            rw [List.append_assoc, List.pairwise_append]
            refine ⟨hI.asc, by simp [hc], fun a ha b hb => ?_⟩
            have h1 : a ∈ L.take i := by
              have := (hI.mem a).1 ha
              rcases this with h | ⟨h, _⟩
              · exact h
              · cases h
            have h2 := hI.no rfl a h1
            simp at hb
            rcases hb with rfl | rfl <;> omega
          · rw [take_snoc hy]
            simp only [List.mem_append, List.mem_singleton, hI.mem, Bool.false_eq_true, false_and, or_false, true_and]
            exact or_right_comm
          · by_cases e : j = i
            · subst e; rw [hy] at hz; cases hz; exact hc
            · exact Int.lt_trans hc (hL.at hy hz (by omega))
        · have hol : o.length ≤ i + 1 := hI.len
          refine Is.val ⟨_, rfl, by simp; omega, ?_⟩
          have hd : d = false → y.El < x.El := by
            rintro rfl
            simp only [Bool.not_false, Bool.true_and, decide_eq_false_iff_not] at hc
            have := hne y hmem
            omega
          refine ⟨?_, fun z => ?_, ?_, fun h z hz => ?_, fun h j z hj hz => hI.yes h j z (by omega) hz⟩
          · unfold AscE
            rw [List.pairwise_append]
            refine ⟨hI.asc, by simp, fun a ha b hb => ?_⟩
            simp at hb; subst hb
            rcases (hI.mem a).1 ha with h | ⟨h, rfl⟩
            · exact takeE_lt hL hy h
            · exact hI.yes h i _ (Nat.le_refl _) hy
          · rw [take_snoc hy]
            simp only [List.mem_append, List.mem_singleton, hI.mem]
            exact or_right_comm
          · simp; omega
          · rw [take_snoc hy] at hz
            rcases List.mem_append.1 hz with hz | hz
            · exact hI.no h z hz
            · simp at hz; subst hz; exact hd h
      · rintro ⟨o', d'⟩ ⟨r, hr, hl, hI'⟩
        cases hr
        refine Is.bind (Is.app (by simp only [List.length_cons, List.length_nil, sizeMax, Enc.b]; simp only at hl; omega)) fun M hM => ?_
        subst hM
        exact Is.val ⟨(d', o' ++ [y]), by rw [w64n (by omega)], hI'⟩
    · rintro ⟨d, o⟩ hI
      unfold d_ref14_put_0
      have e0 : decide (((L.length : Nat) : Int) < ((L.length : Nat) : Int)) = false := decide_eq_false (by omega)
      simp only [e0, cond_false]
      exact Is.val ⟨_, rfl, hI⟩
  · rintro ⟨o, d⟩ ⟨r, hr, hI⟩
    cases hr
    simp only at hI
    have hlen := hI.len
    refine Is.onInl (θ := fun v => ∃ M, v = .inl M ∧ AscE M ∧ (∀ y, y ∈ M ↔ y ∈ L ∨ y = x) ∧ M.length ≤ L.length + 1) ?_ (fun v hv => ?_) (fun b hb => by obtain ⟨_, hb, _⟩ := hb; cases hb)
    · cases d with
      | true =>
        simp only [Bool.not_true, cond_false]
        exact Is.val ⟨_, rfl, hI.asc, fun y => by rw [hI.mem]; simp, hlen⟩
      | false =>
        have hol : o = L := hI.asc.one hL (fun z => by rw [hI.mem]; simp)
        subst hol
        simp only [Bool.not_false, cond_true]
        refine Is.bind (Is.app (by simp only [List.length_cons, List.length_nil, sizeMax, Enc.b]; omega)) fun M hM => ?_
        subst hM
        refine Is.val ⟨_, rfl, ?_, fun y => by simp, by simp⟩
        unfold AscE
        rw [List.pairwise_append]
        refine ⟨hL, by simp, fun a ha b hb => ?_⟩
        simp at hb; subst hb
        exact hI.no rfl a (by rw [List.take_length]; exact ha)
    · obtain ⟨M, rfl | _, h1, h2, h3⟩ := hv
      exact Is.val ⟨h1, h2, h3⟩
theorem ref02_Union_is (L : List Int) (g : Int) (hL : AscI L) (h : L.length ≤ 900000) : Is (d_ref02_Union L [g]) fun M => AscI M ∧ (∀ y, y ∈ M ↔ y ∈ L ∨ y = g) := by
  unfold d_ref02_Union
  refine Is.bind (ref02_Make_is L (by omega)) fun M hM => ?_
  have hML : M = L := hM.1.one hL hM.2
  subst hML
  obtain ⟨K, q1, q2, q3, -⟩ := ref02_insert_is M g hL (by omega)
  have s0 : d_ref02_Union_0 [g] (M, 0) = some (.inl (K, 1)) := by
    unfold d_ref02_Union_0
    dsimp only
    rw [show decide ((0 : Int) < ((([g] : List Int).length : Nat) : Int)) = true from rfl]
    simp only [cond_true, show ixO [g] 0 = some g from ixO_nat (i := 0) rfl, Option.bind_some, q1, show w64 (0 + 1) = 1 by decide]
  have s1 : d_ref02_Union_0 [g] (K, 1) = some (.inr (.inl K)) := by
    unfold d_ref02_Union_0
    dsimp only
    rw [show decide ((1 : Int) < ((([g] : List Int).length : Nat) : Int)) = false from rfl]; rfl
  rw [loop_more s0, loop_done s1]
  exact Is.val ⟨q2, q3⟩
theorem srch_fail (l : T_api_Layout) (P : Int → Bool) (N : T_api_Setting → Bool) : ∀ (n : Nat) (e : T_api_End), ((srch l P N n e).2.2 = false → srch l P N n e = (z0, -1, false)) ∧ (0 ≤ (srch l P N n e).2.1 → (srch l P N n e).1 = z0)
  | 0, e => ⟨fun _ => rfl, fun _ => rfl⟩
  | n + 1, e => by
    unfold srch
    split
    · exact ⟨(fun h => by cases h), fun _ => rfl⟩
    · split
      · exact ⟨(fun h => by cases h), fun _ => rfl⟩
      · split
        · exact ⟨(fun h => by cases h), fun _ => rfl⟩
        · split
          · split
            · exact ⟨fun _ => rfl, fun _ => rfl⟩
            · split
              · exact ⟨fun _ => rfl, fun _ => rfl⟩
              · exact ⟨(fun h => by cases h), (fun h => by simp at h)⟩
          · exact srch_fail l P N n _
/-- What the reference has found, and what the program has. -/
structure RfOk (y : FG) (n : Nat) (F : List T_api_Setting) (G : List Int) (X : List T_api_End) : Prop where
  asc : AscE F
  mem : ∀ z, z ∈ F ↔ z ∈ y.flank
  ascg : AscI G
  memg : ∀ z, z ∈ G ↔ z ∈ y.guards
  gaps : X = y.gaps
  lenF : F.length ≤ n
section
variable {l : T_api_Layout} (hs : Sm l) (hl : OkL l) {r : T_api_Route} (hr : FewF r)
include hs hl hr
theorem ref_find (E : List T_api_End) (hE : E.length ≤ 900) :
    Is (loopO (d_ref14_Find_0 l r E) (0, ([] : List T_api_Setting), ([] : List Int), ([] : List T_api_End))) fun o => ∃ F G X, o = .inl (F, G, X) ∧ RfOk (ffold l (passB r) (pts0 r) E fg0) E.length F G X := by
  refine Is.loop (mk := fun (i : Nat) (m : List T_api_Setting × List Int × List T_api_End) => ((i : Int), m.1, m.2.1, m.2.2)) E.length (fun i m => RfOk (ffold l (passB r) (pts0 r) (E.take i) fg0) i m.1 m.2.1 m.2.2) ([], [], []) ⟨List.Pairwise.nil, fun z => by simp [ffold, fg0], List.Pairwise.nil, fun z => by simp [ffold, fg0], by simp [ffold, fg0], by simp⟩ ?_ ?_
  · rintro i ⟨F, G, X⟩ hi hI
    obtain ⟨e, he⟩ : ∃ e, E[i]? = some e := ⟨_, List.getElem?_eq_getElem hi⟩
    have e0 : decide ((i : Int) < ((E.length : Nat) : Int)) = true := decide_eq_true (by omega)
    have hy := ffold_len l (passB r) (pts0 r) (E.take i) fg0 0 ⟨by simp [fg0], by simp [fg0], by simp [fg0]⟩
    have hok := ffold_ok hl (passB r) (pts0 r) (E.take i) fg0 ⟨by simp [fg0], by simp [fg0], by simp [fg0]⟩
    rw [List.length_take] at hy
    rw [take_snoc he, ffold_append]
    generalize ffold l (passB r) (pts0 r) (E.take i) fg0 = y at hy hok hI ⊢
    obtain ⟨a1, a2, a3, a4, a5, a6⟩ := hI
    simp only at a1 a2 a3 a4 a5 a6
    subst a5
    have hGl : G.length ≤ y.guards.length := sub_len (a3.imp fun {x y} h => by omega) fun x hx => (a4 x).1 hx
    have hg1 := hy.guards
    have hx1 := hy.gaps
    have hS := ref14_Search_eq hs hl (routeF_few hr (x := ⟨F, G, y.gaps⟩) ⟨by simp only; omega, by simp only; omega, by simp only; omega⟩) e
    rw [need_route] at hS
    have hneed : needF (pts0 r) ⟨F, G, y.gaps⟩ = needF (pts0 r) y := by
      funext z
      simp only [needF, hasB]
      congr 1
      exact decide_eq_decide.2 (a2 z)
    rw [hneed] at hS
    have hpass : passB (routeF r ⟨F, G, y.gaps⟩) = passB r := rfl
    rw [hpass] at hS
    simp only [routeF] at hS
    unfold d_ref14_Find_0
    simp only [e0, cond_true, ixO_nat he, Option.bind_some, hS]
    simp only [ffold]
    have hsr := srch_ok hl (passB r) (needF (pts0 r) y) 4 e
    have hfa := srch_fail l (passB r) (needF (pts0 r) y) 4 e
    have hnew := fstep_ok hok e hsr
    generalize srch l (passB r) (needF (pts0 r) y) 4 e = t at hsr hfa hnew
    refine Is.onInl (θ := fun o => ∃ F' G' X', o = .inl (F', G', X') ∧ RfOk (fstep y e t) (i + 1) F' G' X') ?_ (fun v hv => ?_) (fun b hb => by obtain ⟨_, _, _, hb, _⟩ := hb; cases hb)
    · cases h1 : t.2.2 with
      | false =>
        have ht := hfa.1 h1
        subst ht
        simp only [Bool.not_false, cond_true]
        refine Is.onInl (θ := fun o => o = .inl (y.gaps ++ [e])) ?_ (fun v hv => ?_) (fun b hb => by cases hb)
        · refine Is.bind (Is.app (by simp only [List.length_cons, List.length_nil, sizeMax, Enc.b]; omega)) fun M hM => ?_
          subst hM; exact Is.val rfl
        cases hv
        simp only [z0, decide_true, Bool.not_true, cond_false, onInl, onOut, Option.bind_some, show decide ((0 : Int) ≤ -1) = false from rfl]
        refine Is.val ⟨_, _, _, rfl, ?_⟩
        unfold fstep
        simp only [if_true]
        exact ⟨a1, a2, a3, a4, rfl, by omega⟩
      | true =>
        simp only [Bool.not_true, cond_false, onInl, onOut, Option.bind_some]
        by_cases h2 : 0 ≤ t.2.1
        · have hz := hfa.2 h2
          have hp0 : decide (t.1.Pos = 0) = true := by rw [hz]; rfl
          obtain ⟨M, q1, q2, q3⟩ := ref02_Union_is G t.2.1 a3 (by omega)
          simp only [hp0, Bool.not_true, cond_false, Option.bind_some, decide_eq_true h2, cond_true, q1]
          refine Is.val ⟨_, _, _, rfl, ?_⟩
          unfold fstep
          simp only [h1, Bool.true_eq_false, if_false, h2, if_true]
          exact ⟨a1, a2, q2, fun z => by rw [q3, a4]; simp, rfl, by omega⟩
        · have hd2 : decide (0 ≤ t.2.1) = false := decide_eq_false h2
          by_cases h3 : t.1 = z0
          · have hp0 : decide (t.1.Pos = 0) = true := by rw [h3]; rfl
            simp only [hp0, Bool.not_true, cond_false, Option.bind_some, hd2]
            refine Is.val ⟨_, _, _, rfl, ?_⟩
            unfold fstep
            simp only [h1, Bool.true_eq_false, if_false, h2, h3, if_true]
            exact ⟨a1, a2, a3, a4, rfl, by omega⟩
          · have hset := hsr.set h3
            have hp0 : decide (t.1.Pos = 0) = false := decide_eq_false (by have := hset.2.2.1; omega)
            have hst : fstep y e t = ⟨y.flank ++ [t.1], y.guards, y.gaps⟩ := by
              unfold fstep
              simp only [h1, Bool.true_eq_false, if_false, h2, h3]
            rw [hst] at hnew ⊢
            have hne : t.1 ∈ F ∨ ∀ z ∈ F, z.El ≠ t.1.El := by
              by_cases hin : t.1 ∈ F
              · exact .inl hin
              · refine .inr fun z hz ez => hin ?_
                have := hnew.one z (by simp [(a2 z).1 hz]) t.1 (by simp) ez
                rw [← this]; exact hz
            obtain ⟨M, q1, q2, q3, q4⟩ := ref14_put_is F t.1 a1 hne (by omega)
            simp only [hp0, Bool.not_false, cond_true, q1, Option.bind_some, hd2, cond_false]
            refine Is.val ⟨_, _, _, rfl, ?_⟩
            exact ⟨q2, fun z => by rw [q3, a2]; simp, a3, a4, rfl, by omega⟩
    · obtain ⟨F', G', X', hv, hR⟩ := hv
      cases hv
      exact Is.val ⟨(F', G', X'), by rw [w64n (by omega)], hR⟩
  · rintro ⟨F, G, X⟩ hI
    unfold d_ref14_Find_0
    have e0 : decide (((E.length : Nat) : Int) < ((E.length : Nat) : Int)) = false := decide_eq_false (by omega)
    simp only [e0, cond_false]
    rw [List.take_length] at hI
    exact Is.val ⟨F, G, X, rfl, hI⟩
theorem ref14_Find_eq (hp : r.Path.length ≤ 40) (ho : r.Over.length ≤ 40) : d_ref14_Find l r = some (findF l r) := by
  have hel : (endsS l (r.Path ++ r.Over)).length ≤ 900 := by
    have := endsS_len l (r.Path ++ r.Over)
    rw [List.length_append] at this; omega
  obtain ⟨o, q1, F, G, X, rfl, hR⟩ := ref_find hs hl hr (endsS l (r.Path ++ r.Over)) hel
  have hS := ref14_Sides_eq hl (routeF_few hr (x := fg0) ⟨by simp [fg0], by simp [fg0], by simp [fg0]⟩)
  simp only [routeF, fg0] at hS
  unfold d_ref14_Find
  rw [hS, Option.bind_some, q1]
  simp only [onInl, onOut, Option.bind_some]
  have hF : F = sF (allF l r).flank := hR.asc.asc.one (sF_asc _) fun z => by rw [sF_mem]; exact hR.mem z
  have hG : G = sG (allF l r).guards := hR.ascg.one (sG_asc _) fun z => by rw [sG_mem]; exact hR.memg z
  rw [hF, hG, hR.gaps]
  rfl
end
theorem flankFinds_law {l : T_api_Layout} (h : Sm l) (r : T_api_Route) : d_law14_FlankFinds l r = some true := by
  unfold d_law14_FlankFinds
  obtain ⟨b, h1, h2⟩ := few14_is h r
  rw [h1, Option.bind_some]
  cases b with
  | false => simp [alive14]
  | true =>
    obtain ⟨hl, hr, hp, ho⟩ := h2 rfl
    have hS := Same_fewF (findF_few l hr hp ho)
    simp only [Bool.not_true, cond_false, flank_Find_eq h hl hr hp ho, ref14_Find_eq h hl hr hp ho, Option.bind_some, hS, cond_true, d_flank_Protected, d_ref14_Protected, beq_self_eq_true, alive14]
end PM
