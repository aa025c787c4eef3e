/-
  PLAIN, FLANK A: what protects an end: the program's search and the reference's.
-/
import Derived.Test.YtpiejhjhalnaaaaDoorLayE
import Derived.Test.YtpiejhjhalnaaaaDoorWalkK
import Derived.Test.YtpiejhjhalnaaaaDoorWalkG
import Derived.Test.YtpiejhjhalnaaaaDoorOverA
namespace PM
open Go Go.RowKit

/-! ### Members -/
def ovB (L : List T_api_Step) (e : Int) : Bool := decide (∃ x ∈ L, x.El = e)
def hasB (L : List T_api_Setting) (x : T_api_Setting) : Bool := decide (x ∈ L)
def passB (r : T_api_Route) (e : Int) : Bool := ovB r.Path e || ovB r.Over e
def needB (r : T_api_Route) (x : T_api_Setting) : Bool := hasB r.Points x || hasB r.OverPoints x || hasB r.Flank x
theorem eqSet_iff (x y : T_api_Setting) : eq_T_api_Setting x y = true ↔ x = y := by
  cases x; cases y; simp [eq_T_api_Setting]
theorem ContainsF_eq (o : List T_api_Step) (e : Int) (h : o.length ≤ 1048576) : d_slices_ContainsFunc_api_Step__flank_passes_c1 o e = some (ovB o e) := by
  have : Is (d_slices_ContainsFunc_api_Step__flank_passes_c1 o e) fun b => b = ovB o e := by
    unfold d_slices_ContainsFunc_api_Step__flank_passes_c1 d_slices_IndexFunc_api_Step__flank_passes_c1
    refine Is.bind (φ := fun i => decide (0 ≤ i) = ovB o e) ?_ fun i hi => Is.val hi
    refine Is.all (L := o) (fun _ x => ¬ x.El = e) () (by omega) (fun i x hx hi hI => ?_) ?_ (fun hn => Is.val ?_)
    · unfold d_slices_IndexFunc_api_Step_0 d_flank_passes_c1
      refine Is.inb hi (Is.at hx ?_)
      rw [Option.bind_some]
      refine Is.ite dec_iff (fun hc => Is.val ?_) (fun hc => Is.val ⟨rfl, hc⟩)
      show decide (0 ≤ (i : Int)) = ovB o e
      rw [decide_eq_true (by omega : 0 ≤ (i : Int))]
      exact (decide_eq_true (⟨x, List.mem_of_getElem? hx, hc⟩ : ∃ x ∈ o, x.El = e)).symm
    · simp [d_slices_IndexFunc_api_Step_0]
    · refine Eq.symm (decide_eq_false ?_)
      rintro ⟨x, hx, hc⟩
      obtain ⟨i, hi⟩ := List.getElem?_of_mem hx
      exact hn i x hi hc
  obtain ⟨b, h1, h2⟩ := this
  rw [h1, h2]
theorem ContainsS_eq (L : List T_api_Setting) (e : T_api_Setting) (h : L.length ≤ 1048576) : d_slices_Contains_api_Setting L e = some (hasB L e) := by
  have : Is (d_slices_Contains_api_Setting L e) fun b => b = hasB L e := by
    unfold d_slices_Contains_api_Setting d_slices_Index_api_Setting
    refine Is.bind (φ := fun i => decide (0 ≤ i) = hasB L e) ?_ fun i hi => Is.val hi
    refine Is.all (L := L) (fun _ x => ¬ e = x) () (by omega) (fun i x hx hi hI => ?_) ?_ (fun hn => Is.val ?_)
    · unfold d_slices_Index_api_Setting_0
      refine Is.inb hi (Is.at hx ?_)
      refine Is.ite (eqSet_iff _ _) (fun hc => Is.val ?_) (fun hc => Is.val ⟨rfl, hc⟩)
      show decide (0 ≤ (i : Int)) = hasB L e
      rw [decide_eq_true (by omega : 0 ≤ (i : Int))]
      exact (decide_eq_true (hc ▸ List.mem_of_getElem? hx : e ∈ L)).symm
    · simp [d_slices_Index_api_Setting_0]
    · refine Eq.symm (decide_eq_false ?_)
      intro hx
      obtain ⟨i, hi⟩ := List.getElem?_of_mem hx
      exact hn i e hi rfl
  obtain ⟨b, h1, h2⟩ := this
  rw [h1, h2]
theorem ref14_over_eq (o : List T_api_Step) (e : Int) (h : o.length ≤ 1048576) : d_ref14_over o e = some (ovB o e) := by
  have : Is (d_ref14_over o e) fun b => b = ovB o e := by
    unfold d_ref14_over
    refine Is.all (L := o) (fun _ x => ¬ x.El = e) () (by omega) (fun i x hx hi hI => ?_) ?_ (fun hn => Is.val ?_)
    · unfold d_ref14_over_0
      refine Is.inb hi (Is.at hx ?_)
      refine Is.ite dec_iff (fun hc => Is.val ?_) (fun hc => Is.val ⟨rfl, hc⟩)
      exact (decide_eq_true (⟨x, List.mem_of_getElem? hx, hc⟩ : ∃ x ∈ o, x.El = e)).symm
    · simp [d_ref14_over_0]
    · refine Eq.symm (decide_eq_false ?_)
      rintro ⟨x, hx, hc⟩
      obtain ⟨i, hi⟩ := List.getElem?_of_mem hx
      exact hn i x hi hc
  obtain ⟨b, h1, h2⟩ := this
  rw [h1, h2]
theorem ref14_has_eq (L : List T_api_Setting) (e : T_api_Setting) (h : L.length ≤ 1048576) : d_ref14_has L e = some (hasB L e) := by
  have : Is (d_ref14_has L e) fun b => b = hasB L e := by
    unfold d_ref14_has
    refine Is.all (L := L) (fun _ x => ¬ x = e) () (by omega) (fun i x hx hi hI => ?_) ?_ (fun hn => Is.val ?_)
    · unfold d_ref14_has_0
      refine Is.inb hi (Is.at hx ?_)
      refine Is.ite (eqSet_iff _ _) (fun hc => Is.val ?_) (fun hc => Is.val ⟨rfl, hc⟩)
      exact (decide_eq_true (hc ▸ List.mem_of_getElem? hx : e ∈ L)).symm
    · simp [d_ref14_has_0]
    · refine Eq.symm (decide_eq_false ?_)
      intro hx
      obtain ⟨i, hi⟩ := List.getElem?_of_mem hx
      exact hn i e hi rfl
  obtain ⟨b, h1, h2⟩ := this
  rw [h1, h2]
/-- Lists of a route are short. -/
structure FewF (r : T_api_Route) : Prop where
  path : r.Path.length ≤ 1000
  over : r.Over.length ≤ 1000
  pts : r.Points.length ≤ 1000
  ops : r.OverPoints.length ≤ 1000
  flank : r.Flank.length ≤ 1000
  secs : r.Sections.length ≤ 1000
  osecs : r.OverSections.length ≤ 1000
  guards : r.Guards.length ≤ 1000
  gaps : r.Gaps.length ≤ 1000
theorem passes_eq {r : T_api_Route} (h : FewF r) (e : Int) : d_flank_passes r e = some (passB r e) := by
  have := h.path; have := h.over
  unfold d_flank_passes
  rw [ContainsF_eq _ _ (by omega), ContainsF_eq _ _ (by omega)]
  simp only [Option.bind_some, condSo, Bool.cond_true_left]; rfl
theorem refover_eq {r : T_api_Route} (h : FewF r) (e : Int) : ((d_ref14_over r.Path e).bind fun r30 => ((bif r30 then some true else ((d_ref14_over r.Over e).bind fun r32 => some r32)) : Option Bool)) = some (passB r e) := by
  have := h.path; have := h.over
  rw [ref14_over_eq _ _ (by omega), ref14_over_eq _ _ (by omega)]
  simp only [Option.bind_some, condSo, Bool.cond_true_left]; rfl
theorem needs_eq {r : T_api_Route} (h : FewF r) (x : T_api_Setting) : d_flank_needs r x = some (needB r x) := by
  have := h.pts; have := h.ops; have := h.flank
  unfold d_flank_needs
  rw [ContainsS_eq _ _ (by omega), ContainsS_eq _ _ (by omega), ContainsS_eq _ _ (by omega)]
  simp only [Option.bind_some, condSo, Bool.cond_true_left]; rfl
theorem ref14_needs_eq {r : T_api_Route} (h : FewF r) (x : T_api_Setting) : d_ref14_needs r x = some (needB r x) := by
  have := h.pts; have := h.ops; have := h.flank
  unfold d_ref14_needs
  rw [ref14_has_eq _ _ (by omega), ref14_has_eq _ _ (by omega), ref14_has_eq _ _ (by omega)]
  simp only [Option.bind_some, condSo, Bool.cond_true_left]; rfl
theorem ref07_Signal_eq {l : T_api_Layout} (h : l.Signals.length ≤ 1048576) (e : T_api_End) : d_ref07_Signal l e = some (sigF l.Signals e) := layout_Signal_eq h e
/-! ### What protects an end -/
def z0 : T_api_Setting := ⟨0, 0⟩
def kindF (l : T_api_Layout) (i : Int) : Int := ((l.Elements[i.toNat]?).map (·.Kind)).getD 0
def acrossS (k a : Int) : Int := (legsS k a).headD 0
/-- P: elements that the route passes; N: positions that it needs. -/
def srch (l : T_api_Layout) (P : Int → Bool) (N : T_api_Setting → Bool) : Nat → T_api_End → T_api_Setting × Int × Bool
  | 0, _ => (z0, -1, false)
  | n + 1, e =>
    if (joinS l e).2 = false then (z0, -1, true) else
    if 0 ≤ sigF l.Signals (joinS l e).1 then (z0, sigF l.Signals (joinS l e).1, true) else
    if P (joinS l e).1.El = true then (z0, -1, true) else
    if kindF l (joinS l e).1.El = 2 then
      (if (joinS l e).1.Side = 0 then (z0, -1, false) else if N ⟨(joinS l e).1.El, (joinS l e).1.Side⟩ = true then (z0, -1, false) else (⟨(joinS l e).1.El, 3 - (joinS l e).1.Side⟩, -1, true))
    else srch l P N n ⟨(joinS l e).1.El, acrossS (kindF l (joinS l e).1.El) (joinS l e).1.Side⟩
/-- An end that exists: its element, its sides. -/
structure EndOk (l : T_api_Layout) (f : T_api_End) (x : T_api_Element) : Prop where
  has : hasEl l f.El = true
  ix : ixO l.Elements f.El = some x
  get : l.Elements[f.El.toNat]? = some x
  kind : kindF l f.El = x.Kind
  kinds : x.Kind = 1 ∧ (f.Side = 0 ∨ f.Side = 1) ∨ x.Kind = 2 ∧ (f.Side = 0 ∨ f.Side = 1 ∨ f.Side = 2) ∨ x.Kind = 3 ∧ (f.Side = 0 ∨ f.Side = 1 ∨ f.Side = 2 ∨ f.Side = 3)
theorem OkL.joins {l : T_api_Layout} (hl : OkL l) : JoinsOk l := ⟨fun j hj => ⟨(hl.joint j hj).1, (hl.joint j hj).2.1⟩, hl.ends⟩
theorem joined_end {l : T_api_Layout} (hl : OkL l) {e : T_api_End} (h : (joinS l e).2 = true) : ∃ x, EndOk l (joinS l e).1 x := by
  have hex : exS l (joinS l e).1 = true := joinS_ok hl.joins (e := e) (f := (joinS l e).1) (by rw [← h])
  have hh := exS_has hex
  obtain ⟨x, h1, h2⟩ := hasEl_get hh
  have hr := hl.elem.1 x (List.mem_of_getElem? h2)
  refine ⟨x, hh, h1, h2, by simp [kindF, h2], ?_⟩
  simp only [exS, h2, Bool.and_eq_true, decide_eq_true_eq] at hex
  obtain ⟨⟨_, hs⟩, ht⟩ := hex
  have hk := hr.1
  unfold sidesS at ht
  rcases (show x.Kind = 1 ∨ x.Kind = 2 ∨ x.Kind = 3 by omega) with e1 | e1 | e1 <;> simp only [e1] at ht ⊢ <;> simp at ht ⊢ <;> omega
theorem legs_across {k a : Int} (h : k = 1 ∧ (a = 0 ∨ a = 1) ∨ k = 3 ∧ (a = 0 ∨ a = 1 ∨ a = 2 ∨ a = 3)) : legsS k a = [acrossS k a] := by
  rcases h with ⟨rfl, rfl | rfl⟩ | ⟨rfl, rfl | rfl | rfl | rfl⟩ <;> rfl
theorem out_across {k a : Int} (h : k = 1 ∧ (a = 0 ∨ a = 1) ∨ k = 3 ∧ (a = 0 ∨ a = 1 ∨ a = 2 ∨ a = 3)) : d_ref06_Out k a 0 = some (acrossS k a, true) := by
  rcases h with ⟨rfl, rfl | rfl⟩ | ⟨rfl, rfl | rfl | rfl | rfl⟩ <;> kernel_rfl
theorem need2 {a : Int} (h : a = 0 ∨ a = 1 ∨ a = 2) : d_rail_Need 2 a 0 = some (if a = 0 then (0, false) else (a, true)) := by
  rcases h with rfl | rfl | rfl <;> kernel_rfl
theorem away_eq {r : T_api_Route} (h : FewF r) {f : T_api_End} (hs : f.Side = 0 ∨ f.Side = 1 ∨ f.Side = 2) :
    d_flank_away r f = some (if f.Side = 0 then none else if needB r ⟨f.El, f.Side⟩ = true then none else some ⟨f.El, 3 - f.Side⟩) := by
  unfold d_flank_away
  rw [need2 hs, Option.bind_some]
  by_cases h0 : f.Side = 0
  · simp [h0, onInl, onOut]
  · have e : w64 (3 - f.Side) = 3 - f.Side := w64_of (by omega) (by omega)
    simp only [h0, if_false, Bool.not_true, cond_false, needs_eq h, Option.bind_some]
    cases hn : needB r ⟨f.El, f.Side⟩ <;> simp [onInl, onOut, e]
theorem leg_eq {r : T_api_Route} (h : FewF r) {f : T_api_End} (hs : f.Side = 1 ∨ f.Side = 2) :
    d_ref14_leg r f = some (if needB r ⟨f.El, f.Side⟩ = true then (z0, -1, false) else (⟨f.El, 3 - f.Side⟩, -1, true)) := by
  unfold d_ref14_leg
  rcases hs with hs | hs
  · simp only [hs, show decide ((1 : Int) = 2) = false from rfl, cond_false, onInl, onOut, Option.bind_some, ref14_needs_eq h]
    cases hn : needB r ⟨f.El, 1⟩ <;> simp [z0]
  · simp only [hs, show decide ((2 : Int) = 2) = true from rfl, cond_true, onInl, onOut, Option.bind_some, ref14_needs_eq h]
    cases hn : needB r ⟨f.El, 2⟩ <;> simp [z0, onOut, hn]
def encP (t : T_api_Setting × Int × Bool) : Option (T_api_Setting × Int) := bif t.2.2 then some (t.1, t.2.1) else none
section
variable {l : T_api_Layout} (hs : Sm l) (hl : OkL l) {r : T_api_Route} (hr : FewF r)
include hs hl hr
theorem prot_loop : ∀ (n i : Nat) (e : T_api_End), i + n = 4 →
    onInl (α := (Int × Int)) (β := (Option (T_api_Setting × Int))) (loopO (d_flank_protection_0 l r) ((i : Int), e.El, e.Side)) (fun _ => some none) = some (encP (srch l (passB r) (needB r) n e)) := by
  intro n
  induction n with
  | zero =>
    intro i e hi
    have : i = 4 := by omega
    subst this
    have hstep : d_flank_protection_0 l r ((4 : Nat), e.El, e.Side) = some (.inr (.inl (e.El, e.Side))) := rfl
    rw [loop_done hstep]; rfl
  | succ n ih =>
    intro i e hi
    have hi4 : decide ((i : Int) < 4) = true := decide_eq_true (by omega)
    unfold srch
    by_cases hj : (joinS l e).2 = false
    · have hstep : d_flank_protection_0 l r ((i : Int), e.El, e.Side) = some (.inr (.inr (some (z0, -1)))) := by
        unfold d_flank_protection_0
        simp only [hi4, cond_true, layout_Joined_eq hs.jo, Option.bind_some, hj, Bool.not_false, cond_true]; rfl
      rw [loop_done hstep, if_pos hj]; rfl
    · have hj' : (joinS l e).2 = true := by simpa using hj
      obtain ⟨x, hx⟩ := joined_end hl hj'
      rw [if_neg hj]
      by_cases hg : 0 ≤ sigF l.Signals (joinS l e).1
      · have hstep : d_flank_protection_0 l r ((i : Int), e.El, e.Side) = some (.inr (.inr (some (z0, sigF l.Signals (joinS l e).1)))) := by
          unfold d_flank_protection_0
          simp only [hi4, cond_true, layout_Joined_eq hs.jo, Option.bind_some, hj', Bool.not_true, cond_false, layout_Signal_eq hs.sg, decide_eq_true hg]; rfl
        rw [loop_done hstep, if_pos hg]; rfl
      · rw [if_neg hg]
        have hg' : decide (0 ≤ sigF l.Signals (joinS l e).1) = false := decide_eq_false hg
        by_cases hp : passB r (joinS l e).1.El = true
        · have hstep : d_flank_protection_0 l r ((i : Int), e.El, e.Side) = some (.inr (.inr (some (z0, -1)))) := by
            unfold d_flank_protection_0
            simp only [hi4, cond_true, layout_Joined_eq hs.jo, Option.bind_some, hj', Bool.not_true, cond_false, layout_Signal_eq hs.sg, hg', passes_eq hr, hp]; rfl
          rw [loop_done hstep, if_pos hp]; rfl
        · rw [if_neg hp]
          have hp' : passB r (joinS l e).1.El = false := by simpa using hp
          have hin := hx.has
          simp only [hasEl, Bool.and_eq_true, decide_eq_true_eq] at hin
          have d1 : decide ((joinS l e).1.El < 0) = false := decide_eq_false (by omega)
          have d2 : decide (((l.Elements.length : Nat) : Int) ≤ (joinS l e).1.El) = false := decide_eq_false (by omega)
          have hk := hx.kinds
          by_cases h2 : kindF l (joinS l e).1.El = 2
          · rw [if_pos h2]
            rw [hx.kind] at h2
            have hsd : (joinS l e).1.Side = 0 ∨ (joinS l e).1.Side = 1 ∨ (joinS l e).1.Side = 2 := by omega
            have hstep : d_flank_protection_0 l r ((i : Int), e.El, e.Side) = some (.inr (.inr (encP (if (joinS l e).1.Side = 0 then (z0, -1, false) else if needB r ⟨(joinS l e).1.El, (joinS l e).1.Side⟩ = true then (z0, -1, false) else (⟨(joinS l e).1.El, 3 - (joinS l e).1.Side⟩, -1, true))))) := by
              unfold d_flank_protection_0
              simp only [hi4, cond_true, layout_Joined_eq hs.jo, Option.bind_some, hj', Bool.not_true, cond_false, layout_Signal_eq hs.sg, hg', passes_eq hr, hp', d1, d2, onInl, onOut, hx.ix, h2, decide_true, away_eq hr hsd, panB]
              by_cases h0 : (joinS l e).1.Side = 0
              · simp [h0, encP]
              · simp only [h0, if_false]
                cases needB r ⟨(joinS l e).1.El, (joinS l e).1.Side⟩ <;> simp [encP]
            rw [loop_done hstep]; rfl
          · rw [if_neg h2]
            rw [hx.kind] at h2 ⊢
            have hka : x.Kind = 1 ∧ ((joinS l e).1.Side = 0 ∨ (joinS l e).1.Side = 1) ∨ x.Kind = 3 ∧ ((joinS l e).1.Side = 0 ∨ (joinS l e).1.Side = 1 ∨ (joinS l e).1.Side = 2 ∨ (joinS l e).1.Side = 3) := by omega
            have hstep : d_flank_protection_0 l r ((i : Int), e.El, e.Side) = some (.inl (((i + 1 : Nat) : Int), (joinS l e).1.El, acrossS x.Kind (joinS l e).1.Side)) := by
              unfold d_flank_protection_0
              simp only [hi4, cond_true, layout_Joined_eq hs.jo, Option.bind_some, hj', Bool.not_true, cond_false, layout_Signal_eq hs.sg, hg', passes_eq hr, hp', d1, d2, onInl, onOut, hx.ix, h2, decide_false, d_rail_Legs_eq, legs_across hka]
              rw [w64n (by omega)]
              rfl
            rw [loop_more hstep]
            exact ih (i + 1) ⟨(joinS l e).1.El, acrossS x.Kind (joinS l e).1.Side⟩ (by omega)
theorem flank_Search_eq (e : T_api_End) : d_flank_Search l r e = some (srch l (passB r) (needB r) 4 e) := by
  have h := prot_loop hs hl hr 4 0 e rfl
  unfold d_flank_Search d_flank_protection
  rw [show onInl (α := (Int × Int)) (β := (Option (T_api_Setting × Int))) (loopO (d_flank_protection_0 l r) (0, e.El, e.Side)) (fun (_, _) => some none) = some (encP (srch l (passB r) (needB r) 4 e)) from h]
  have key : ∀ n e, (srch l (passB r) (needB r) n e).2.2 = false → srch l (passB r) (needB r) n e = (z0, -1, false) := by
    intro n
    induction n with
    | zero => intro e _; rfl
    | succ n ih =>
      intro e h
      unfold srch at h ⊢
      split at h
      · cases h
      · split at h
        · cases h
        · split at h
          · cases h
          · split at h
            · split at h
              · rename_i h1 h2 h3 h4 h5
                rw [if_neg h1, if_neg h2, if_neg h3, if_pos h4, if_pos h5]
              · split at h
                · rename_i h1 h2 h3 h4 h5 h6
                  rw [if_neg h1, if_neg h2, if_neg h3, if_pos h4, if_neg h5, if_pos h6]
                · cases h
            · rename_i h1 h2 h3 h4
              rw [if_neg h1, if_neg h2, if_neg h3, if_neg h4]
              exact ih _ h
  cases hc : (srch l (passB r) (needB r) 4 e).2.2 with
  | true =>
    simp only [panB, Option.bind_some, encP, hc, cond_true]
    generalize srch l (passB r) (needB r) 4 e = t at hc ⊢
    obtain ⟨a, b, c⟩ := t
    simp only at hc
    rw [hc]
  | false =>
    rw [key 4 e hc]
    rfl
theorem ref14_loop : ∀ (n i : Nat) (e : T_api_End), i + n = 4 →
    onInl (α := Unit) (β := (T_api_Setting × Int × Bool)) (loopO (d_ref14_Search_0 l r) ((i : Int), e.El, e.Side)) (fun _ => some (z0, -1, false)) = some (srch l (passB r) (needB r) n e) := by
  intro n
  induction n with
  | zero =>
    intro i e hi
    have : i = 4 := by omega
    subst this
    have hstep : d_ref14_Search_0 l r ((4 : Nat), e.El, e.Side) = some (.inr (.inl ())) := rfl
    rw [loop_done hstep]; rfl
  | succ n ih =>
    intro i e hi
    have hi4 : decide ((i : Int) < 4) = true := decide_eq_true (by omega)
    have hov := refover_eq hr (joinS l e).1.El
    unfold srch
    by_cases hj : (joinS l e).2 = false
    · have hstep : d_ref14_Search_0 l r ((i : Int), e.El, e.Side) = some (.inr (.inr (z0, -1, true))) := by
        unfold d_ref14_Search_0
        simp only [hi4, cond_true, ref07_Joined_eq hs.jo, Option.bind_some, hj, Bool.not_false, cond_true]; rfl
      rw [loop_done hstep, if_pos hj]; rfl
    · have hj' : (joinS l e).2 = true := by simpa using hj
      obtain ⟨x, hx⟩ := joined_end hl hj'
      rw [if_neg hj]
      by_cases hg : 0 ≤ sigF l.Signals (joinS l e).1
      · have hstep : d_ref14_Search_0 l r ((i : Int), e.El, e.Side) = some (.inr (.inr (z0, sigF l.Signals (joinS l e).1, true))) := by
          unfold d_ref14_Search_0
          simp only [hi4, cond_true, ref07_Joined_eq hs.jo, Option.bind_some, hj', Bool.not_true, cond_false, ref07_Signal_eq hs.sg, decide_eq_true hg]; rfl
        rw [loop_done hstep, if_pos hg]; rfl
      · rw [if_neg hg]
        have hg' : decide (0 ≤ sigF l.Signals (joinS l e).1) = false := decide_eq_false hg
        have hpa := hr.path
        have hpo := hr.over
        have o1 := ref14_over_eq r.Path (joinS l e).1.El (by omega)
        have o2 := ref14_over_eq r.Over (joinS l e).1.El (by omega)
        by_cases hp : passB r (joinS l e).1.El = true
        · have hstep : d_ref14_Search_0 l r ((i : Int), e.El, e.Side) = some (.inr (.inr (z0, -1, true))) := by
            unfold d_ref14_Search_0
            simp only [passB] at hp
            simp only [hi4, cond_true, ref07_Joined_eq hs.jo, Option.bind_some, hj', Bool.not_true, cond_false, ref07_Signal_eq hs.sg, hg', o1, o2, condSo, Bool.cond_true_left, hp]; rfl
          rw [loop_done hstep, if_pos hp]; rfl
        · rw [if_neg hp]
          have hp' : (ovB r.Path (joinS l e).1.El || ovB r.Over (joinS l e).1.El) = false := by simpa [passB] using hp
          have hin := hx.has
          simp only [hasEl, Bool.and_eq_true, decide_eq_true_eq] at hin
          have d1 : decide ((joinS l e).1.El < 0) = false := decide_eq_false (by omega)
          have d2 : decide (((l.Elements.length : Nat) : Int) ≤ (joinS l e).1.El) = false := decide_eq_false (by omega)
          have hk := hx.kinds
          by_cases h2 : kindF l (joinS l e).1.El = 2
          · rw [if_pos h2]
            rw [hx.kind] at h2
            by_cases h0 : (joinS l e).1.Side = 0
            · have hstep : d_ref14_Search_0 l r ((i : Int), e.El, e.Side) = some (.inr (.inr (z0, -1, false))) := by
                unfold d_ref14_Search_0
                simp only [hi4, cond_true, ref07_Joined_eq hs.jo, Option.bind_some, hj', Bool.not_true, cond_false, ref07_Signal_eq hs.sg, hg', o1, o2, condSo, Bool.cond_true_left, hp', d1, d2, Bool.false_or, hx.ix, h2, h0, decide_true, Bool.and_self]; rfl
              rw [loop_done hstep, if_pos h0]; rfl
            · have hsd : (joinS l e).1.Side = 1 ∨ (joinS l e).1.Side = 2 := by omega
              rw [if_neg h0]
              have hstep : d_ref14_Search_0 l r ((i : Int), e.El, e.Side) = some (.inr (.inr (if needB r ⟨(joinS l e).1.El, (joinS l e).1.Side⟩ = true then (z0, -1, false) else (⟨(joinS l e).1.El, 3 - (joinS l e).1.Side⟩, -1, true)))) := by
                unfold d_ref14_Search_0
                simp only [hi4, cond_true, ref07_Joined_eq hs.jo, Option.bind_some, hj', Bool.not_true, cond_false, ref07_Signal_eq hs.sg, hg', o1, o2, condSo, Bool.cond_true_left, hp', d1, d2, Bool.false_or, hx.ix, h2, h0, decide_true, decide_false, Bool.and_false, leg_eq hr hsd]
              rw [loop_done hstep]; rfl
          · rw [if_neg h2]
            rw [hx.kind] at h2 ⊢
            have hka : x.Kind = 1 ∧ ((joinS l e).1.Side = 0 ∨ (joinS l e).1.Side = 1) ∨ x.Kind = 3 ∧ ((joinS l e).1.Side = 0 ∨ (joinS l e).1.Side = 1 ∨ (joinS l e).1.Side = 2 ∨ (joinS l e).1.Side = 3) := by omega
            have hstep : d_ref14_Search_0 l r ((i : Int), e.El, e.Side) = some (.inl (((i + 1 : Nat) : Int), (joinS l e).1.El, acrossS x.Kind (joinS l e).1.Side)) := by
              unfold d_ref14_Search_0
              simp only [hi4, cond_true, ref07_Joined_eq hs.jo, Option.bind_some, hj', Bool.not_true, cond_false, ref07_Signal_eq hs.sg, hg', o1, o2, condSo, Bool.cond_true_left, hp', d1, d2, Bool.false_or, hx.ix, h2, decide_false, Bool.false_and, out_across hka]
              rw [w64n (by omega)]
            rw [loop_more hstep]
            exact ih (i + 1) ⟨(joinS l e).1.El, acrossS x.Kind (joinS l e).1.Side⟩ (by omega)
theorem ref14_Search_eq (e : T_api_End) : d_ref14_Search l r e = some (srch l (passB r) (needB r) 4 e) := ref14_loop hs hl hr 4 0 e rfl
end
theorem few14_is {l : T_api_Layout} (h : Sm l) (r : T_api_Route) : Is (d_law14_few l r) fun b => b = true → OkL l ∧ FewF r ∧ r.Path.length ≤ 40 ∧ r.Over.length ≤ 40 := by
  unfold d_law14_few
  simp only [condSo, Option.bind_some, Bool.cond_false_right, Bool.cond_true_left, ref07_Check_eq h]
  refine Is.val fun h => ?_
  have key : ∀ {b c : Bool}, (bif b then false else c) = true → b = false ∧ c = true := by intro b c; cases b <;> simp
  obtain ⟨h1, h2⟩ := key h
  simp only [Bool.or_eq_false_iff, Bool.not_eq_false', decide_eq_true_eq] at h1
  simp only [Bool.and_eq_true, decide_eq_true_eq] at h2
  obtain ⟨⟨⟨⟨⟨⟨⟨⟨⟨g1, g2⟩, g3⟩, g4⟩, g5⟩, g6⟩, g7⟩, g8⟩, g9⟩, g10⟩ := h2
  exact ⟨(chk_ok l).1 h1.2, ⟨by omega, by omega, by omega, by omega, by omega, by omega, by omega, by omega, by omega⟩, by omega, by omega⟩
end PM
