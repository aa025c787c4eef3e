/-
  PLAIN, FLANK D: the statements FlankAgrees and FlankStops.
-/
import Derived.Test.YtpiejhjhalnaaaaDoorFlankC
namespace PM
open Go Go.RowKit

theorem setS_el {l : T_api_Layout} {way : List T_api_Step} {y : T_api_Setting} (h : y ∈ setS l way) : ∃ s ∈ way, s.El = y.El := by
  rw [setS_mem] at h
  obtain ⟨s, hs, e⟩ := (rawS_mem l way y).1 h
  refine ⟨s, hs, ?_⟩
  unfold setOf at e
  cases hc : (posS l s).2 && !decide ((posS l s).1 = 0) with
  | false => rw [hc] at e; cases e
  | true => rw [hc] at e; cases e; rfl
def setR (l : T_api_Layout) (r : T_api_Route) : T_api_Route := ⟨r.Name, r.Entry, r.Exit, r.Path, setS l r.Path, r.Sections, r.Approach, r.Length, r.Over, setS l r.Over, r.OverSections, r.Flank, r.Guards, r.Gaps⟩
theorem flankAgrees_law {l : T_api_Layout} (h : Sm l) (r : T_api_Route) : d_law14_FlankAgrees l r = some true := by
  unfold d_law14_FlankAgrees
  obtain ⟨b, h1, h2⟩ := few14_is h r
  rw [h1, Option.bind_some]
  cases b with
  | false => simp [alive14]
  | true =>
    obtain ⟨hl, hr, hp, ho⟩ := h2 rfl
    have l1 := setS_len l r.Path
    have l2 := setS_len l r.Over
    have hr' : FewF (setR l r) := ⟨hr.path, hr.over, by simp only [setR]; omega, by simp only [setR]; omega, hr.flank, hr.secs, hr.osecs, hr.guards, hr.gaps⟩
    have hF := flank_Find_eq h hl hr' hp ho
    have hok := allF_ok hl (setR l r)
    have hfl := (findF_few l hr' hp ho).flank
    have hFl : (findF l (setR l r)).Flank = sF (allF l (setR l r)).flank := rfl
    suffices Is _ fun b => b = true by obtain ⟨b, q, rfl⟩ := this; exact q
    simp only [Bool.not_true, cond_false, ref09_Settings_eq l r.Path (by omega), ref09_Settings_eq l r.Over (by omega), Option.bind_some]
    rw [show (T_api_Route.mk r.Name r.Entry r.Exit r.Path (setS l r.Path) r.Sections r.Approach r.Length r.Over (setS l r.Over) r.OverSections r.Flank r.Guards r.Gaps) = setR l r from rfl, hF, Option.bind_some]
    refine Is.all (L := (findF l (setR l r)).Flank) (fun _ _ => True) () (by omega) (fun i x hx hi hI => ?_) ?_ (fun hn => ?_)
    · unfold d_law14_FlankAgrees_0
      have hm : x ∈ (allF l (setR l r)).flank := (sF_mem _ x).1 (by rw [← hFl]; exact List.mem_of_getElem? hx)
      have hP := (hok.flank x hm).2.2.2
      simp only [passB, Bool.or_eq_false_iff, ovB, decide_eq_false_iff_not] at hP
      refine Is.inb hi ?_
      refine Is.all (L := setS l r.Path) (fun _ _ => True) () (by omega) (fun j y hy hj _ => ?_) ?_ (fun _ => ?_)
      · unfold d_law14_FlankAgrees_1
        refine Is.inb hj (Is.at hy ?_)
        rw [ixO_nat hx, Option.bind_some]
        have : ¬ y.El = x.El := fun e => by
          obtain ⟨s, q1, q2⟩ := setS_el (List.mem_of_getElem? hy)
          exact hP.1 ⟨s, q1, q2.trans e⟩
        rw [decide_eq_false this]
        exact Is.val ⟨rfl, trivial⟩
      · simp [d_law14_FlankAgrees_1]
      refine Is.all (L := setS l r.Over) (fun _ _ => True) () (by omega) (fun j y hy hj _ => ?_) ?_ (fun _ => ?_)
      · unfold d_law14_FlankAgrees_2
        refine Is.inb hj (Is.at hy ?_)
        rw [ixO_nat hx, Option.bind_some]
        have : ¬ y.El = x.El := fun e => by
          obtain ⟨s, q1, q2⟩ := setS_el (List.mem_of_getElem? hy)
          exact hP.2 ⟨s, q1, q2.trans e⟩
        rw [decide_eq_false this]
        exact Is.val ⟨rfl, trivial⟩
      · simp [d_law14_FlankAgrees_2]
      exact Is.val ⟨rfl, trivial⟩
    · simp [d_law14_FlankAgrees_0]
    rw [alive14]
    exact Is.val rfl
/-! ### Ways that lead to a side -/
theorem across_in {k a b : Int} (h : (needS k a b).2 = true) (h2 : k ≠ 2) : acrossS k b = a := by
  unfold needS at h
  cases hf : tab_rail_passages.find? (fun x => decide (x.kind_ = k) && decide (x.in_ = a) && decide (x.out_ = b)) with
  | none => rw [hf] at h; cases h
  | some y =>
    have h1 := List.find?_some hf
    simp only [Bool.and_eq_true, decide_eq_true_eq] at h1
    obtain ⟨⟨rfl, rfl⟩, rfl⟩ := h1
    have h3 : ∀ y ∈ tab_rail_passages, y.kind_ ≠ 2 → acrossS y.kind_ y.out_ = y.in_ := by decide
    exact h3 y (List.mem_of_find?_eq_some hf) h2
theorem need_out {a b : Int} (h : (needS 2 a b).2 = true) (h2 : b ≠ 0) : (needS 2 a b).1 = b ∧ (b = 1 ∨ b = 2) := by
  unfold needS at h ⊢
  cases hf : tab_rail_passages.find? (fun x => decide (x.kind_ = 2) && decide (x.in_ = a) && decide (x.out_ = b)) with
  | none => rw [hf] at h; cases h
  | some y =>
    have h1 := List.find?_some hf
    simp only [Bool.and_eq_true, decide_eq_true_eq] at h1
    obtain ⟨⟨e, rfl⟩, rfl⟩ := h1
    have h3 : ∀ y ∈ tab_rail_passages, y.kind_ = 2 → y.out_ ≠ 0 → y.need_ = y.out_ ∧ (y.out_ = 1 ∨ y.out_ = 2) := by decide
    exact h3 y (List.mem_of_find?_eq_some hf) e h2
theorem way_has {l : T_api_Layout} {way : List T_api_Step} (hv : ValidP l way) {i : Nat} {s : T_api_Step} (hs : way[i]? = some s) : (posS l s).2 = true ∧ ∃ x, ixO l.Elements s.El = some x ∧ posS l s = needS x.Kind s.In s.Out ∧ kindF l s.El = x.Kind := by
  obtain ⟨t, h1, h2, -⟩ := hv.2.2 i (lt_of_get hs)
  rw [hs] at h1; cases h1
  have hh := pos_has h2
  obtain ⟨x, h3, h4⟩ := hasEl_get hh
  exact ⟨h2, x, h3, by simp [posS, hh, h4], by simp [kindF, h4]⟩
theorem srch_stops {l : T_api_Layout} (hl : OkL l) {way : List T_api_Step} (hv : ValidP l way) (P : Int → Bool) (N : T_api_Setting → Bool) (hS : ∀ s ∈ way, sigF l.Signals ⟨s.El, s.Out⟩ < 0 ∧ P s.El = false) :
    ∀ (n j : Nat) (s : T_api_Step) (e : T_api_End), way[j]? = some s → n ≤ j + 1 → joinS l e = (⟨s.El, s.Out⟩, true) →
      (srch l P N n e).2.2 = false ∨ ∃ t ∈ way, srch l P N n e = (⟨t.El, 3 - t.Out⟩, -1, true) ∧ (posS l t).1 = t.Out ∧ (t.Out = 1 ∨ t.Out = 2)
  | 0, _, _, _, _, _, _ => .inl rfl
  | n + 1, j, s, e, hs, hn, hj => by
    have hm := List.mem_of_getElem? hs
    obtain ⟨h1, h2⟩ := hS s hm
    obtain ⟨q1, x, q2, q3, q4⟩ := way_has hv hs
    unfold srch
    rw [hj]
    simp only [Bool.true_eq_false, if_false, if_neg (show ¬ 0 ≤ sigF l.Signals ⟨s.El, s.Out⟩ by omega), h2, Bool.false_eq_true]
    by_cases hk : kindF l s.El = 2
    · rw [if_pos hk]
      by_cases h0 : s.Out = 0
      · rw [if_pos h0]; exact .inl rfl
      · rw [if_neg h0]
        split
        · exact .inl rfl
        · rw [q4] at hk
          rw [q3, hk] at q1
          have := need_out q1 h0
          refine .inr ⟨s, hm, rfl, ?_, this.2⟩
          rw [q3, hk]; exact this.1
    · rw [if_neg hk]
      rw [q4] at hk ⊢
      rw [q3] at q1
      rw [across_in q1 hk]
      match n, hn with
      | 0, _ => exact .inl rfl
      | m + 1, hn =>
        have hj1 : j - 1 < way.length := by have := lt_of_get hs; omega
        obtain ⟨p, hp⟩ : ∃ p, way[j - 1]? = some p := ⟨_, List.getElem?_eq_getElem hj1⟩
        obtain ⟨t, g1, _, _, g4⟩ := hv.2.2 j (lt_of_get hs)
        rw [hs] at g1; cases g1
        have hpj := g4 p (by omega) hp
        exact srch_stops hl hv P N hS (m + 1) (j - 1) p ⟨s.El, s.In⟩ hp (by omega) (joinS_symm hl.joins hpj)
theorem leads_is {l : T_api_Layout} (hs : Sm l) {f : T_api_Route} (hf : FewF f) {way : List T_api_Step} (hv : ValidP l way) : Is (d_law14_leads l f way) fun b => b = true → ∀ s ∈ way, sigF l.Signals ⟨s.El, s.Out⟩ < 0 ∧ passB f s.El = false ∧ ∀ y ∈ f.Flank, y.El = s.El → y.Pos = (posS l s).1 := by
  have f1 := hf.path
  have f2 := hf.over
  have f3 := hf.flank
  have h64 := hv.2.1
  unfold d_law14_leads
  refine Is.all (L := way) (fun _ s => sigF l.Signals ⟨s.El, s.Out⟩ < 0 ∧ passB f s.El = false ∧ ∀ y ∈ f.Flank, y.El = s.El → y.Pos = (posS l s).1) () (by omega) (fun i s hx hi hI => ?_) ?_ (fun hn => ?_)
  · unfold d_law14_leads_0
    obtain ⟨q1, x, q2, q3, q4⟩ := way_has hv hx
    refine Is.inb hi (Is.at hx ?_)
    rw [ref07_Signal_eq hs.sg, Option.bind_some]
    refine Is.cond (fun _ => Is.val (fun e => by cases e)) (fun hg => ?_)
    have hg' := of_decide_eq_false hg
    refine Is.all (L := f.Path) (fun _ p => ¬ p.El = s.El) () (by omega) (fun j y hy hj _ => ?_) ?_ (fun n1 => ?_)
    · unfold d_law14_leads_1
      refine Is.inb hj (Is.at hy ?_)
      exact Is.cond (fun _ => Is.val (fun e => by cases e)) (fun hc => Is.val ⟨rfl, of_decide_eq_false hc⟩)
    · simp [d_law14_leads_1]
    refine Is.all (L := f.Over) (fun _ p => ¬ p.El = s.El) () (by omega) (fun j y hy hj _ => ?_) ?_ (fun n2 => ?_)
    · unfold d_law14_leads_2
      refine Is.inb hj (Is.at hy ?_)
      exact Is.cond (fun _ => Is.val (fun e => by cases e)) (fun hc => Is.val ⟨rfl, of_decide_eq_false hc⟩)
    · simp [d_law14_leads_2]
    rw [q2, Option.bind_some, d_ref06_Need_eq, Option.bind_some, ← q3]
    refine Is.all (L := f.Flank) (fun _ y => y.El = s.El → y.Pos = (posS l s).1) () (by omega) (fun j y hy hj _ => ?_) ?_ (fun n3 => ?_)
    · unfold d_law14_leads_3
      refine Is.inb hj (Is.at hy ?_)
      refine Is.bind (φ := fun b => b = false → (y.El = s.El → y.Pos = (posS l s).1)) ?_ fun b hb => ?_
      · refine Is.cond (fun hc => ?_) (fun hc => Is.val fun _ e => absurd e (of_decide_eq_false hc))
        rw [ixO_nat hy, Option.bind_some]
        exact Is.val fun e _ => by simpa using e
      · exact Is.cond (fun _ => Is.val (fun e => by cases e)) (fun hc => Is.val ⟨rfl, hb hc⟩)
    · simp [d_law14_leads_3]
    refine Is.val ⟨rfl, by omega, ?_, mem_iff_get.1 n3⟩
    simp only [passB, Bool.or_eq_false_iff, ovB, decide_eq_false_iff_not]
    exact ⟨fun ⟨p, p1, p2⟩ => (mem_iff_get.1 n1) p p1 p2, fun ⟨p, p1, p2⟩ => (mem_iff_get.1 n2) p p1 p2⟩
  · simp [d_law14_leads_0]
  · exact Is.val fun _ => mem_iff_get.1 hn
theorem flankStops_law {l : T_api_Layout} (h : Sm l) (r : T_api_Route) (way : List T_api_Step) : d_law14_FlankStops l r way = some true := by
  unfold d_law14_FlankStops
  obtain ⟨b, h1, h2⟩ := few14_is h r
  rw [h1, Option.bind_some]
  cases b with
  | false => simp [alive14]
  | true =>
    obtain ⟨hl, hr, hp, ho⟩ := h2 rfl
    suffices Is _ fun b => b = true by obtain ⟨b, q, rfl⟩ := this; exact q
    simp only [Bool.not_true, cond_false, Option.bind_some, condSo, Bool.cond_true_left]
    refine Is.bind (φ := fun b => b = false → 4 ≤ way.length ∧ ValidP l way) ?_ fun b4 hb4 => ?_
    · refine Is.cond (fun _ => Is.val (fun e => by cases e)) (fun hc => ?_)
      simp only [Bool.or_eq_false_iff, decide_eq_false_iff_not] at hc
      refine Is.bind (ref09_Valid_is l way h.jo (by omega)) fun v hv => Is.val fun e => ⟨by omega, hv.1 (by simpa using e)⟩
    refine Is.cond (fun _ => by rw [alive14]; exact Is.val rfl) (fun hc => ?_)
    obtain ⟨h4, hv⟩ := hb4 hc
    have h64 := hv.2.1
    obtain ⟨p, hp1⟩ : ∃ p, way[way.length - 1]? = some p := ⟨_, List.getElem?_eq_getElem (by omega)⟩
    have ew : w64 (((way.length : Nat) : Int) - 1) = ((way.length - 1 : Nat) : Int) := by rw [w64_of (by omega) (by omega)]; omega
    have hfew := findF_few l hr hp ho
    have hel : (endsS l (r.Path ++ r.Over)).length ≤ 1000 := by
      have := endsS_len l (r.Path ++ r.Over)
      rw [List.length_append] at this; omega
    rw [flank_Find_eq h hl hr hp ho, Option.bind_some, ew, ixO_nat hp1, Option.bind_some, ref09_Next_eq h.jo, Option.bind_some]
    generalize hj : joinS l ⟨p.El, p.Out⟩ = j
    refine Is.bind (φ := fun b => b = false → j.2 = true ∧ j.1 ∈ endsS l (r.Path ++ r.Over)) ?_ fun b10 hb10 => ?_
    · refine Is.cond (fun _ => Is.val (fun e => by cases e)) (fun hc => ?_)
      rw [ref14_Sides_eq hl hr, Option.bind_some, HasEnd_eq _ _ (by omega), Option.bind_some]
      exact Is.val fun e => ⟨by simpa using hc, by simpa using e⟩
    refine Is.bind (φ := fun b => b = false → b10 = false ∧ ∀ s ∈ way, sigF l.Signals ⟨s.El, s.Out⟩ < 0 ∧ passB (findF l r) s.El = false ∧ ∀ y ∈ (findF l r).Flank, y.El = s.El → y.Pos = (posS l s).1) ?_ fun b13 hb13 => ?_
    · refine Is.cond (fun _ => Is.val (fun e => by cases e)) (fun hc => ?_)
      exact Is.bind (leads_is h hfew hv) fun b hb => Is.val fun e => ⟨hc, hb (by simpa using e)⟩
    refine Is.cond (fun _ => by rw [alive14]; exact Is.val rfl) (fun hc13 => ?_)
    obtain ⟨k1, k2⟩ := hb13 hc13
    obtain ⟨k3, k4⟩ := hb10 k1
    have hgl := hfew.gaps
    rw [HasEnd_eq _ _ (by omega), Option.bind_some]
    have hgap : j.1 ∈ (findF l r).Gaps := by
      show j.1 ∈ (allF l r).gaps
      obtain ⟨y, y1, y2⟩ := ffold_at l (passB r) (pts0 r) j.1 (endsS l (r.Path ++ r.Over)) fg0 k4
      have hjs : joinS l j.1 = (⟨p.El, p.Out⟩, true) := joinS_symm hl.joins (by rw [hj, ← k3])
      rcases srch_stops hl hv (passB r) (needF (pts0 r) y) (fun s hs => ⟨(k2 s hs).1, (k2 s hs).2.1⟩) 4 (way.length - 1) p j.1 hp1 (by omega) hjs with hf | ⟨t, t1, t2, t3, t4⟩
      · refine y2 _ ?_
        unfold fstep
        rw [if_pos hf]; simp
      · exfalso
        have hin : (⟨t.El, 3 - t.Out⟩ : T_api_Setting) ∈ (allF l r).flank := by
          refine y1 _ ?_
          unfold fstep
          rw [t2]
          have : ¬ (⟨t.El, 3 - t.Out⟩ : T_api_Setting) = z0 := by
            intro e
            have := congrArg T_api_Setting.Pos e
            simp only [z0] at this
            omega
          simp [this]
        have := (k2 t t1).2.2 ⟨t.El, 3 - t.Out⟩ ((sF_mem _ _).2 hin) rfl
        simp only at this
        omega
    rw [decide_eq_true hgap]
    simp only [cond_true, alive14, Option.bind_some]
    exact Is.val rfl
end PM
