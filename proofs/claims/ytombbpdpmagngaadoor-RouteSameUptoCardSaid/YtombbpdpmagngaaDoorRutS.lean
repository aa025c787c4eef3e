/-
  PLAIN, ROUTES S: when two routes are the same (chapter 12).
-/
import Derived.Test.YtombbpdpmagngaaDoorLnkA
namespace PM
open Go Go.RowKit

theorem rsEnd (x y : T_api_End) : eq_T_api_End x y = true ↔ x = y := by cases x; cases y; simp [eq_T_api_End]
theorem rsSet (x y : T_api_Setting) : eq_T_api_Setting x y = true ↔ x = y := by cases x; cases y; simp [eq_T_api_Setting]
theorem rsStp (x y : T_api_Step) : eq_T_api_Step x y = true ↔ x = y := by cases x; cases y; simp [eq_T_api_Step]
/-- All lists of a route are short. -/
structure FewS (r : T_api_Route) : Prop where
  path : r.Path.length ≤ 1048576
  pts : r.Points.length ≤ 1048576
  secs : r.Sections.length ≤ 1048576
  over : r.Over.length ≤ 1048576
  ops : r.OverPoints.length ≤ 1048576
  osecs : r.OverSections.length ≤ 1048576
  flank : r.Flank.length ≤ 1048576
  guards : r.Guards.length ≤ 1048576
  gaps : r.Gaps.length ≤ 1048576
theorem rSteps {a b : List T_api_Step} (h : a.length ≤ 1048576) : Is (d_ref09_SameSteps a b) fun r => r = true ↔ a = b := eqLoop rsStp h fun _ => rfl
theorem rSets {a b : List T_api_Setting} (h : a.length ≤ 1048576) : Is (d_ref09_SameSettings a b) fun r => r = true ↔ a = b := eqLoop rsSet h fun _ => rfl
theorem rInts {a b : List Int} (h : a.length ≤ 1048576) : Is (d_ref09_SameInts a b) fun r => r = true ↔ a = b := eqLoop (eqf := fun x y => decide (x = y)) (fun _ _ => dec_iff) h fun _ => rfl
theorem rEnds {a b : List T_api_End} (h : a.length ≤ 1048576) : Is (d_ref12_sameEnds a b) fun r => r = true ↔ a = b := eqLoop rsEnd h fun _ => rfl
theorem andE {b : Bool} {y : Option Bool} {p q : Prop} (hb : b = true ↔ p) (hy : Is y fun c => c = true ↔ q) : Is (bif b then y else some false) fun c => c = true ↔ p ∧ q :=
  Is.cond (fun h => hy.mono fun _ hc => hc.trans ⟨fun e => ⟨hb.1 h, e⟩, fun e => e.2⟩) fun h => Is.val ⟨fun e => (by cases e), fun e => by rw [hb.2 e.1] at h; cases h⟩
theorem orN {b : Bool} {y : Option Bool} {p q : Prop} (hb : b = true ↔ ¬ p) (hy : Is y fun c => c = true ↔ q) : Is (bif b then some true else y.bind fun r => some (!r)) fun c => c = true ↔ ¬ (p ∧ q) :=
  Is.cond (fun h => Is.val ⟨fun _ e => hb.1 h e.1, fun _ => rfl⟩) fun h => hy.bind fun c hc => Is.val (by
    have hp : p := Classical.byContradiction fun n => by rw [hb.2 n] at h; cases h
    cases c with
    | true => exact ⟨fun e => (by cases e), fun e => absurd ⟨hp, hc.1 rfl⟩ e⟩
    | false => exact ⟨fun _ e => Bool.false_ne_true (hc.2 e.2), fun _ => rfl⟩)
theorem notN {y : Option Bool} {q : Prop} (hy : Is y fun c => c = true ↔ q) : Is (y.bind fun r => some (!r)) fun c => c = true ↔ ¬ q :=
  hy.bind fun c hc => Is.val (by cases c with
    | true => exact ⟨fun e => (by cases e), fun e => absurd (hc.1 rfl) e⟩
    | false => exact ⟨fun _ e => Bool.false_ne_true (hc.2 e), fun _ => rfl⟩)
theorem same12_is {a b : T_api_Route} (h : FewS a) : Is (d_ref12_Same a b) fun r => r = true ↔ a = b := by
  unfold d_ref12_Same d_ref12_SameSteps d_ref12_SameSettings d_ref12_SameInts
  simp only [bindId]
  refine Is.cond (fun h0 => Is.val ⟨fun e => (by cases e), fun e => ?_⟩) fun h0 => ?_
  · subst e; simp at h0
  simp only [Bool.or_eq_false_iff, Bool.not_eq_false', decide_eq_true_eq] at h0
  refine (rSteps h.path).bind fun r1 h1 => ?_
  refine (orN (p := a.Path = b.Path) (b := !r1) (by rw [← h1]; simp) (rSets h.pts)).bind fun b2 h2 => ?_
  refine (orN h2 (rInts h.secs)).bind fun b4 h4 => ?_
  refine Is.cond (fun hb => Is.val ⟨fun e => (by cases e), fun e => absurd ⟨⟨by rw [e], by rw [e]⟩, by rw [e]⟩ (h4.1 hb)⟩) fun hb4 => ?_
  have k4 : (a.Path = b.Path ∧ a.Points = b.Points) ∧ a.Sections = b.Sections := Classical.byContradiction fun n => by rw [h4.2 n] at hb4; cases hb4
  refine (rSteps h.over).bind fun r6 h6 => ?_
  refine (andE h6 (rSets h.ops)).bind fun b7 h7 => ?_
  refine (andE h7 (rInts h.osecs)).bind fun b9 h9 => ?_
  refine (andE h9 (rSets h.flank)).bind fun b11 h11 => ?_
  refine (andE h11 (rInts h.guards)).bind fun b13 h13 => ?_
  refine (andE h13 (rEnds h.gaps)).mono fun b15 h15 => h15.trans ?_
  cases a; cases b
  simp only at h0 k4
  simp only [T_api_Route.mk.injEq, h0, k4, true_and]
  constructor
  · rintro ⟨⟨⟨⟨⟨k1, k2⟩, k3⟩, k5⟩, k6⟩, k7⟩; exact ⟨k1, k2, k3, k5, k6, k7⟩
  · rintro ⟨k1, k2, k3, k5, k6, k7⟩; exact ⟨⟨⟨⟨⟨k1, k2⟩, k3⟩, k5⟩, k6⟩, k7⟩
theorem qSteps {a b : List T_api_Step} (h : a.length ≤ 1048576) : Is (d_slices_Equal_api_Step a b) fun r => r = true ↔ a = b := eqLoop rsStp h fun _ => rfl
theorem qSets {a b : List T_api_Setting} (h : a.length ≤ 1048576) : Is (d_slices_Equal_api_Setting a b) fun r => r = true ↔ a = b := eqLoop rsSet h fun _ => rfl
theorem qInts {a b : List Int} (h : a.length ≤ 1048576) : Is (d_slices_Equal_int a b) fun r => r = true ↔ a = b := eqLoop (eqf := fun x y => decide (x = y)) (fun _ _ => dec_iff) h fun _ => rfl
theorem qEnds {a b : List T_api_End} (h : a.length ≤ 1048576) : Is (d_slices_Equal_api_End a b) fun r => r = true ↔ a = b := eqLoop rsEnd h fun _ => rfl
theorem sameR_is {a b : T_api_Route} (h : FewS a) : Is (d_route_Same a b) fun r => r = true ↔ a = b := by
  unfold d_route_Same
  simp only [bindId]
  refine (andE (p := (((a.Name = b.Name ∧ a.Entry = b.Entry) ∧ a.Exit = b.Exit) ∧ a.Approach = b.Approach) ∧ a.Length = b.Length) (by simp only [Bool.and_eq_true, decide_eq_true_eq]) (qSteps h.path)).bind fun b1 h1 => ?_
  refine (andE h1 (qSets h.pts)).bind fun b3 h3 => ?_
  refine (andE h3 (qInts h.secs)).bind fun b5 h5 => ?_
  refine (andE h5 (qSteps h.over)).bind fun b7 h7 => ?_
  refine (andE h7 (qSets h.ops)).bind fun b9 h9 => ?_
  refine (andE h9 (qInts h.osecs)).bind fun b11 h11 => ?_
  refine (andE h11 (qSets h.flank)).bind fun b13 h13 => ?_
  refine (andE h13 (qInts h.guards)).bind fun b15 h15 => ?_
  refine (andE h15 (qEnds h.gaps)).mono fun b17 h17 => h17.trans ?_
  cases a; cases b
  simp only [T_api_Route.mk.injEq]
  constructor
  · rintro ⟨⟨⟨⟨⟨⟨⟨⟨⟨⟨⟨⟨⟨k1, k2⟩, k3⟩, k4⟩, k5⟩, k6⟩, k7⟩, k8⟩, k9⟩, k10⟩, k11⟩, k12⟩, k13⟩, k14⟩; exact ⟨k1, k2, k3, k6, k7, k8, k4, k5, k9, k10, k11, k12, k13, k14⟩
  · rintro ⟨k1, k2, k3, k6, k7, k8, k4, k5, k9, k10, k11, k12, k13, k14⟩; exact ⟨⟨⟨⟨⟨⟨⟨⟨⟨⟨⟨⟨⟨k1, k2⟩, k3⟩, k4⟩, k5⟩, k6⟩, k7⟩, k8⟩, k9⟩, k10⟩, k11⟩, k12⟩, k13⟩, k14⟩
theorem alive12_eq : d_law12_alive = some true := by kernel_rfl
theorem routeSame_law {a b : T_api_Route} (ha : FewS a) : d_law12_RouteSame a b = some true := by
  have : Is (d_law12_RouteSame a b) fun r => r = true := by
    unfold d_law12_RouteSame d_law12_small
    simp only [Option.bind_some, alive12_eq]
    refine Is.bind (φ := fun _ => True) (Is.cond (fun _ => Is.val trivial) fun _ => Is.val trivial) fun b2 _ => Is.cond (fun _ => Is.val rfl) fun _ => ?_
    refine (sameR_is ha).bind fun r5 h5 => (same12_is ha).bind fun r6 h6 => ?_
    have e : (r5 == r6) = true := by rw [beq_iff_eq, Bool.eq_iff_iff, h5, h6]
    rw [e, cond_true]
    refine Is.bind (φ := fun c => c = true) ((sameR_is ha).bind fun r8 h8 => Is.val (h8.2 rfl)) fun b7 h7 => ?_
    subst h7; exact Is.val rfl
  obtain ⟨r, h1, h2⟩ := this
  rw [h1, h2]
end PM
