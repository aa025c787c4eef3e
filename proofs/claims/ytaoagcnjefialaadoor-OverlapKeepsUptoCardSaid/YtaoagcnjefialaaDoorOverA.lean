/-
  PLAIN, OVERLAPS: the statements OverlapFinds, OverlapMeasures and OverlapKeeps.
-/
import Derived.Test.YtaoagcnjefialaaDoorWalkJ
import Derived.Test.YtaoagcnjefialaaDoorPlC
namespace PM
open Go Go.RowKit

theorem alive13 : d_law13_alive = some true := by kernel_rfl

theorem condSo {α : Type} {b : Bool} {x y : α} : (bif b then some x else some y) = some (bif b then x else y) := by cases b <;> rfl
/-- Two loops over the same states that go the same way. -/
theorem two_loops {S A B C : Type} {f : S → Option (S ⊕ (A ⊕ B))} {g : S → Option (S ⊕ (A ⊕ C))} (I : S → Prop) (m : S → Nat) (θ : A → Prop)
    (h : ∀ s, I s → (∃ s', f s = some (.inl s') ∧ g s = some (.inl s') ∧ m s' < m s ∧ I s') ∨ (∃ v, f s = some (.inr (.inl v)) ∧ g s = some (.inr (.inl v)) ∧ θ v)) :
    ∀ (n : Nat) (s : S), m s ≤ n → I s → ∃ v, loopO f s = some (.inl v) ∧ loopO g s = some (.inl v) ∧ θ v := by
  intro n
  induction n with
  | zero =>
    intro s hm hI
    rcases h s hI with ⟨s', -, -, h3, -⟩ | ⟨v, h1, h2, h3⟩
    · omega
    · exact ⟨v, loop_done h1, loop_done h2, h3⟩
  | succ n ih =>
    intro s hm hI
    rcases h s hI with ⟨s', h1, h2, h3, h4⟩ | ⟨v, h1, h2, h3⟩
    · rw [loop_more h1, loop_more h2]
      exact ih s' (by omega) h4
    · exact ⟨v, loop_done h1, loop_done h2, h3⟩

def secZ (l : T_api_Layout) (i : Int) : Int := bif hasEl l i then ((l.Elements[i.toNat]?).map (·.Section)).getD (-1) else -1
theorem layout_Section_z (l : T_api_Layout) (i : Int) : d_layout_Section l i = some (secZ l i) := by
  unfold d_layout_Section secZ
  simp only [condSo, Option.bind_some, Bool.cond_true_left]
  have e : (decide (i < 0) || decide (((l.Elements.length : Nat) : Int) ≤ i)) = !hasEl l i := by
    unfold hasEl; rw [Bool.eq_iff_iff]; simp
  rw [e]
  cases h : hasEl l i with
  | false => rfl
  | true =>
    obtain ⟨x, h2, h3⟩ := hasEl_get h
    simp [h2, h3]
theorem ref07_Section_z (l : T_api_Layout) (i : Int) : d_ref07_Section l i = some (secZ l i) := by
  unfold d_ref07_Section secZ
  simp only [condSo, Option.bind_some, Bool.cond_true_left]
  have e : (decide (i < 0) || decide (((l.Elements.length : Nat) : Int) ≤ i)) = !hasEl l i := by
    unfold hasEl; rw [Bool.eq_iff_iff]; simp
  rw [e]
  cases h : hasEl l i with
  | false => rfl
  | true =>
    obtain ⟨x, h2, h3⟩ := hasEl_get h
    simp [h2, h3]

def exitS (l : T_api_Layout) (r : T_api_Route) : T_api_Signal × Bool :=
  bif decide (r.Exit < 0) || decide (((l.Signals.length : Nat) : Int) ≤ r.Exit) then (T_api_Signal.mk ByteArray.empty (T_api_End.mk 0 0) 0, false)
  else ((l.Signals[r.Exit.toNat]?).getD (T_api_Signal.mk ByteArray.empty (T_api_End.mk 0 0) 0), true)
theorem overlap_exit_eq (l : T_api_Layout) (r : T_api_Route) : d_overlap_exitSignal l r = some (exitS l r) := by
  unfold d_overlap_exitSignal exitS
  simp only [condSo, Option.bind_some, Bool.cond_true_left]
  cases h : (decide (r.Exit < 0) || decide (((l.Signals.length : Nat) : Int) ≤ r.Exit)) with
  | true => rfl
  | false =>
    simp only [Bool.or_eq_false_iff, decide_eq_false_iff_not] at h
    obtain ⟨x, h2, h3⟩ := Is.ix (L := l.Signals) (i := r.Exit) (by omega) (by omega)
    simp [h2, h3]
theorem ref13_exit_eq (l : T_api_Layout) (r : T_api_Route) : d_ref13_exit l r = some (exitS l r) := by
  unfold d_ref13_exit exitS
  simp only [condSo, Option.bind_some, Bool.cond_true_left]
  cases h : (decide (r.Exit < 0) || decide (((l.Signals.length : Nat) : Int) ≤ r.Exit)) with
  | true => rfl
  | false =>
    simp only [Bool.or_eq_false_iff, decide_eq_false_iff_not] at h
    obtain ⟨x, h2, h3⟩ := Is.ix (L := l.Signals) (i := r.Exit) (by omega) (by omega)
    simp [h2, h3]

def covS (o : List T_api_Step) (e : Int) : Bool := decide (∃ x ∈ o, x.El = e)
def inS (L : List Int) (e : Int) : Bool := decide (e ∈ L)
theorem not_false_of {b : Bool} {p : Prop} (h : b = true ↔ p) (hp : ¬ p) : b = false := by
  cases b
  · rfl
  · exact absurd (h.1 rfl) hp
theorem covers_eq (o : List T_api_Step) (e : Int) (h : o.length ≤ 1048576) : d_overlap_covers o e = some (covS o e) := by
  have : Is (d_overlap_covers o e) fun b => b = covS o e := by
    unfold d_overlap_covers d_slices_ContainsFunc_api_Step__overlap_covers_1 d_slices_IndexFunc_api_Step__overlap_covers_1
    refine Is.bind (φ := fun b => b = covS o e) (Is.bind (φ := fun i => decide (0 ≤ i) = covS o e) ?_ fun i hi => Is.val hi) fun b hb => Is.val hb
    refine Is.all (L := o) (fun _ x => ¬ x.El = e) () (by omega) (fun i x hx hi hI => ?_) ?_ (fun hn => Is.val ?_)
    · unfold d_slices_IndexFunc_api_Step_0 d_overlap_covers_1
      refine Is.inb hi (Is.at hx ?_)
      rw [Option.bind_some]
      refine Is.ite dec_iff (fun hc => Is.val ?_) (fun hc => Is.val ⟨rfl, hc⟩)
      show decide (0 ≤ (i : Int)) = covS o e
      rw [decide_eq_true (by omega : 0 ≤ (i : Int))]
      exact (decide_eq_true (⟨x, List.mem_of_getElem? hx, hc⟩ : ∃ x ∈ o, x.El = e)).symm
    · simp [d_slices_IndexFunc_api_Step_0]
    · refine Eq.symm (decide_eq_false ?_)
      rintro ⟨x, hx, hc⟩
      obtain ⟨i, hi⟩ := List.getElem?_of_mem hx
      exact hn i x hi hc
  obtain ⟨b, h1, h2⟩ := this
  rw [h1, h2]
theorem Contains_eq (L : List Int) (e : Int) (h : L.length ≤ 1048576) : d_slices_Contains_int L e = some (inS L e) := by
  have : Is (d_slices_Contains_int L e) fun b => b = inS L e := by
    unfold d_slices_Contains_int d_slices_Index_int
    refine Is.bind (φ := fun i => decide (0 ≤ i) = inS L e) ?_ fun i hi => Is.val hi
    refine Is.all (L := L) (fun _ x => ¬ e = x) () (by omega) (fun i x hx hi hI => ?_) ?_ (fun hn => Is.val ?_)
    · unfold d_slices_Index_int_0
      refine Is.inb hi (Is.at hx ?_)
      refine Is.ite dec_iff (fun hc => Is.val ?_) (fun hc => Is.val ⟨rfl, hc⟩)
      show decide (0 ≤ (i : Int)) = inS L e
      rw [decide_eq_true (by omega : 0 ≤ (i : Int))]
      exact (decide_eq_true (hc ▸ List.mem_of_getElem? hx : e ∈ L)).symm
    · simp [d_slices_Index_int_0]
    · refine Eq.symm (decide_eq_false ?_)
      intro hx
      obtain ⟨i, hi⟩ := List.getElem?_of_mem hx
      exact hn i e hi rfl
  obtain ⟨b, h1, h2⟩ := this
  rw [h1, h2]
theorem obstructed_eq (e : Int) (L : List Int) (h : L.length ≤ 1048576) : d_overlap_obstructed e L = some (inS L e) := by
  unfold d_overlap_obstructed
  rw [Contains_eq L e h]; rfl
theorem Blocked_eq (l : T_api_Layout) (r : T_api_Route) (o : List T_api_Step) (e : Int) (h : o.length ≤ 1048576) (hr : r.Sections.length ≤ 1048576) :
    d_ref13_Blocked l r o e = some (covS o e || inS r.Sections (secZ l e)) := by
  have : Is (d_ref13_Blocked l r o e) fun b => b = (covS o e || inS r.Sections (secZ l e)) := by
    unfold d_ref13_Blocked
    refine Is.all (L := o) (fun _ x => ¬ x.El = e) () (by omega) (fun i x hx hi hI => ?_) ?_ (fun hn => ?_)
    · unfold d_ref13_Blocked_0
      refine Is.inb hi (Is.at hx ?_)
      refine Is.ite dec_iff (fun hc => Is.val ?_) (fun hc => Is.val ⟨rfl, hc⟩)
      show true = _
      rw [show covS o e = true from decide_eq_true ⟨x, List.mem_of_getElem? hx, hc⟩, Bool.true_or]
    · simp [d_ref13_Blocked_0]
    have hc : covS o e = false := decide_eq_false (by
      rintro ⟨x, hx, hc⟩
      obtain ⟨i, hi⟩ := List.getElem?_of_mem hx
      exact hn i x hi hc)
    rw [hc, Bool.false_or]
    refine Is.all (L := r.Sections) (fun _ x => ¬ x = secZ l e) () (by omega) (fun i x hx hi hI => ?_) ?_ (fun hn => Is.val ?_)
    · unfold d_ref13_Blocked_1
      refine Is.inb hi (Is.at hx ?_)
      rw [ref07_Section_z, Option.bind_some]
      refine Is.ite dec_iff (fun hc => Is.val ?_) (fun hc => Is.val ⟨rfl, hc⟩)
      exact (decide_eq_true (hc ▸ List.mem_of_getElem? hx : secZ l e ∈ r.Sections)).symm
    · simp [d_ref13_Blocked_1]
    · refine Eq.symm (decide_eq_false ?_)
      intro hx
      obtain ⟨i, hi⟩ := List.getElem?_of_mem hx
      exact hn i _ hi rfl
  obtain ⟨b, h1, h2⟩ := this
  rw [h1, h2]

theorem app_eq {α : Type} [Enc α] {L ys : List α} (h : (L.length + ys.length) * Enc.b α ≤ sizeMax ∧ L.length + ys.length ≤ sizeMax) : appO L ys = some (L ++ ys) := by
  unfold appO; rw [if_pos h]

/-- What one round comes to: on with the loop, or the end of it. -/
def goS (l : T_api_Layout) (r : T_api_Route) (lim : Int) (b : Bool) (e : T_api_End) (o : List T_api_Step) : Bool :=
  b && decide (w64 (sumL l o) < lim) && decide (((o.length : Nat) : Int) < 12) && !(covS o e.El || inS r.Sections (secZ l e.El)) && !decide ((((branS l e).length : Nat) : Int) = 0)
theorem rounds (l : T_api_Layout) (hj : l.Joints.length ≤ 1048576) (r : T_api_Route) (hr : r.Sections.length ≤ 1048576) (x : T_api_Signal × Bool) (s : Bool × T_api_End × List T_api_Step) (ho : s.2.2.length ≤ 12) :
    (∃ s', d_overlap_steps_0 l r x s = some (.inl s') ∧ d_ref13_Find_0 l r x s = some (.inl s') ∧ 12 - s'.2.2.length < 12 - s.2.2.length ∧ s'.2.2.length ≤ 12)
    ∨ (∃ v, d_overlap_steps_0 l r x s = some (.inr (.inl v)) ∧ d_ref13_Find_0 l r x s = some (.inr (.inl v)) ∧ v.length ≤ 12) := by
  obtain ⟨b, e, o⟩ := s
  have ho : o.length ≤ 12 := ho
  unfold d_overlap_steps_0 d_ref13_Find_0
  simp only [walk_Length_eq l o (by omega), ref09_Length_eq l o (by omega), covers_eq o e.El (by omega), layout_Section_z, obstructed_eq _ r.Sections hr, Blocked_eq l _ o e.El (by omega) (show (T_api_Route.mk r.Name r.Entry r.Exit r.Path r.Points r.Sections r.Approach r.Length o [] [] r.Flank r.Guards r.Gaps).Sections.length ≤ 1048576 from hr), walk_Branches_eq, ref09_Branches_eq, walk_Next_eq hj, ref09_Next_eq hj, Option.bind_some, condSo]
  cases hb : (bif (bif b then decide (w64 (sumL l o) < x.1.Overlap) else false) then decide (((o.length : Nat) : Int) < 12) else false) with
  | false => exact .inr ⟨o, by simp, by simp, ho⟩
  | true =>
    have h12 : o.length < 12 := by
      cases h1 : (bif b then decide (w64 (sumL l o) < x.1.Overlap) else false) with
      | false => rw [h1] at hb; simp at hb
      | true => rw [h1] at hb; simp at hb; omega
    cases hk : (covS o e.El || inS r.Sections (secZ l e.El)) with
    | true =>
      refine .inr ⟨o, ?_, ?_, ho⟩
      · simp [Bool.cond_true_left, hk]
      · simp [hk]
    | false =>
      cases hL : branS l e with
      | nil => exact .inr ⟨o, by simp [Bool.cond_true_left, hk], by simp [hk], ho⟩
      | cons y ys =>
        have ha : appO o [y] = some (o ++ [y]) := app_eq (by simp [Enc.b, sizeMax]; omega)
        have hx : ixO (y :: ys) 0 = some y := rfl
        have h0 : decide ((ys.length : Int) + 1 = 0) = false := decide_eq_false (by omega)
        refine .inl ⟨((joinS l ⟨y.El, y.Out⟩).2, (joinS l ⟨y.El, y.Out⟩).1, o ++ [y]), ?_, ?_, ?_, ?_⟩
        · simp [Bool.cond_true_left, hk, ha, hx, h0]
        · simp [ha, hx, h0]
        · simp; omega
        · simp; omega
theorem loops (l : T_api_Layout) (hj : l.Joints.length ≤ 1048576) (r : T_api_Route) (hr : r.Sections.length ≤ 1048576) (x : T_api_Signal × Bool) (b : Bool) (e : T_api_End) :
    ∃ v, loopO (d_overlap_steps_0 l r x) (b, e, []) = some (.inl v) ∧ loopO (d_ref13_Find_0 l r x) (b, e, []) = some (.inl v) ∧ v.length ≤ 12 :=
  two_loops (S := Bool × T_api_End × List T_api_Step) (A := List T_api_Step) (fun s => s.2.2.length ≤ 12) (fun s => 12 - s.2.2.length) (fun v => v.length ≤ 12) (fun s hs => rounds l hj r hr x s hs) 12 (b, e, []) (by simp) (by simp)

/-- A route with another overlap. -/
def ovR (r : T_api_Route) (o : List T_api_Step) (p : List T_api_Setting) (s : List Int) : T_api_Route :=
  T_api_Route.mk r.Name r.Entry r.Exit r.Path r.Points r.Sections r.Approach r.Length o p s r.Flank r.Guards r.Gaps
structure FewR (r : T_api_Route) : Prop where
  pa : r.Path.length ≤ 60
  ov : r.Over.length ≤ 60
  se : r.Sections.length ≤ 60
  os : r.OverSections.length ≤ 60
  po : r.Points.length ≤ 60
  op : r.OverPoints.length ≤ 60
  fl : r.Flank.length ≤ 60
  gu : r.Guards.length ≤ 60
  ga : r.Gaps.length ≤ 60
theorem setS_nil (l : T_api_Layout) : setS l [] = [] := by
  have h := setS_len l []
  exact List.eq_nil_of_length_eq_zero (by simpa using h)
theorem clone_eq {α : Type} [Enc α] {L : List α} (h : L.length * Enc.b α ≤ sizeMax ∧ L.length ≤ sizeMax) : appO ([] : List α) L = some L := by
  unfold appO; rw [if_pos (by simpa using h)]; rfl
/-- The overlap found, by both; it does not hang on the old overlap. -/
theorem finds (l : T_api_Layout) (hj : l.Joints.length ≤ 1048576) (r : T_api_Route) (h1 : r.Path.length ≤ 1000) (h2 : r.Sections.length ≤ 1000) (h3 : r.Points.length ≤ 1000) (h4 : r.Flank.length ≤ 1000) (h5 : r.Guards.length ≤ 1000) (h6 : r.Gaps.length ≤ 1000) :
    ∃ o : List T_api_Step, o.length ≤ 12 ∧ (∀ a b c, d_overlap_Find l (ovR r a b c) = some (ovR r o (setS l o) (secS l o))) ∧ d_ref13_Find l r = some (ovR r o (setS l o) (secS l o)) := by
  have key : ∃ o : List T_api_Step, o.length ≤ 12 ∧ d_overlap_steps l r = some o ∧ d_ref13_Find l r = some (ovR r o (setS l o) (secS l o)) := by
    unfold d_overlap_steps d_ref13_Find
    have e0 : ∀ a b c, d_ref13_exit l (T_api_Route.mk r.Name r.Entry r.Exit r.Path r.Points r.Sections r.Approach r.Length a b c r.Flank r.Guards r.Gaps) = some (exitS l r) := fun a b c => ref13_exit_eq l (ovR r a b c)
    rw [overlap_exit_eq, e0, Option.bind_some, Option.bind_some]
    cases hx : (exitS l r).2 with
    | false => refine ⟨[], by simp, by simp, ?_⟩; rw [setS_nil]; rfl
    | true =>
      obtain ⟨v, v1, v2, v3⟩ := loops l hj r (by omega) (exitS l r) (joinS l (exitS l r).1.At).2 (joinS l (exitS l r).1.At).1
      refine ⟨v, v3, ?_, ?_⟩
      · simp [layout_Joined_eq hj, v1, onInl, onOut]
      · simp [ref07_Joined_eq hj, v2, onInl, onOut, ref09_Settings_eq l v (by omega), ref09_Sections_eq l v (by omega), ovR]
  obtain ⟨o, o1, o2, o3⟩ := key
  refine ⟨o, o1, fun a b c => ?_, o3⟩
  have o2 : d_overlap_steps l (ovR r a b c) = some o := o2
  unfold d_overlap_Find d_slices_Clone_api_Step d_slices_Clone_api_Setting d_slices_Clone_int d_slices_Clone_api_End
  rw [o2]
  simp only [ovR, Option.bind_some, walk_Settings_eq l o (by omega), walk_Sections_eq l o (by omega),
    clone_eq (L := r.Path) (by simp [Enc.b, sizeMax]; omega), clone_eq (L := r.Points) (by simp [Enc.b, sizeMax]; omega), clone_eq (L := r.Sections) (by simp [Enc.b, sizeMax]; omega),
    clone_eq (L := r.Flank) (by simp [Enc.b, sizeMax]; omega), clone_eq (L := r.Guards) (by simp [Enc.b, sizeMax]; omega), clone_eq (L := r.Gaps) (by simp [Enc.b, sizeMax]; omega)]
theorem sameEnds_refl (L : List T_api_End) (h : L.length ≤ 1048576) : d_ref12_sameEnds L L = some true := by
  unfold d_ref12_sameEnds
  have : Is (loopO (d_ref12_sameEnds_0 L L) 0) fun o => o = .inl () := by
    refine Is.loop (mk := fun (i : Nat) (_ : Unit) => (i : Int)) L.length (fun _ _ => True) () trivial ?_ ?_
    · rintro i m hi -
      unfold d_ref12_sameEnds_0
      refine Is.cond (fun _ => ?_) (fun hb => by simp at hb; omega)
      refine Is.bind (Is.ixn hi) fun x hx => Is.bind (Is.ixn hi) fun y hy => ?_
      rw [hx] at hy; cases hy
      rw [(eqEnd_iff x x).2 rfl]
      exact Is.val ⟨(), by rw [w64n (by omega)], trivial⟩
    · rintro m -
      unfold d_ref12_sameEnds_0
      exact Is.cond (fun hb => by simp at hb) (fun _ => Is.val rfl)
  obtain ⟨o, h1, rfl⟩ := this
  simp [h1, onInl, onOut]
theorem Same_refl (r : T_api_Route) (h1 : r.Path.length ≤ 1000) (h2 : r.Sections.length ≤ 1000) (h3 : r.Points.length ≤ 1000) (h4 : r.Flank.length ≤ 1000) (h5 : r.Guards.length ≤ 1000) (h6 : r.Gaps.length ≤ 1000)
    (h7 : r.Over.length ≤ 1000) (h8 : r.OverPoints.length ≤ 1000) (h9 : r.OverSections.length ≤ 1000) : d_ref12_Same r r = some true := by
  unfold d_ref12_Same d_ref12_SameSteps d_ref12_SameSettings d_ref12_SameInts
  simp only [SameSteps_refl r.Path (by omega), SameSteps_refl r.Over (by omega), SameSettings_refl r.Points (by omega), SameSettings_refl r.OverPoints (by omega), SameSettings_refl r.Flank (by omega),
    SameInts_refl r.Sections (by omega), SameInts_refl r.OverSections (by omega), SameInts_refl r.Guards (by omega), sameEnds_refl r.Gaps (by omega), Option.bind_some, decide_true, Bool.not_true, Bool.or_self, cond_false, cond_true]

theorem good_is {l : T_api_Layout} (h : Sm l) : Is (d_law13_good l) fun _ => True := by
  unfold d_law13_good d_law07_Few
  simp only [condSo, Option.bind_some]
  exact Is.bind (φ := fun _ => True) (Is.cond (fun _ => Is.bind (ref07_Check_is h) fun r _ => Is.val trivial) (fun _ => Is.val trivial)) fun b _ => Is.val trivial
theorem few_is (r : T_api_Route) : Is (d_law13_few r) fun b => b = true → FewR r := by
  unfold d_law13_few
  simp only [condSo, Option.bind_some]
  refine Is.val fun h => ?_
  have key : ∀ (a c : Bool), (bif a then c else false) = true → a = true ∧ c = true := fun a c => by cases a <;> cases c <;> simp
  obtain ⟨h, g9⟩ := key _ _ h
  obtain ⟨h, g8⟩ := key _ _ h
  obtain ⟨h, g7⟩ := key _ _ h
  obtain ⟨h, g6⟩ := key _ _ h
  obtain ⟨h, g5⟩ := key _ _ h
  obtain ⟨h, g4⟩ := key _ _ h
  obtain ⟨h, g3⟩ := key _ _ h
  obtain ⟨g1, g2⟩ := key _ _ h
  simp only [decide_eq_true_eq] at g1 g2 g3 g4 g5 g6 g7 g8 g9
  constructor <;> omega
theorem Same_few (r : T_api_Route) (h : FewR r) : d_ref12_Same r r = some true := by
  obtain ⟨a, b, c, d, e, f, g, i, j⟩ := h
  exact Same_refl r (by omega) (by omega) (by omega) (by omega) (by omega) (by omega) (by omega) (by omega) (by omega)
theorem fewOv {l : T_api_Layout} {r : T_api_Route} (h : FewR r) {o : List T_api_Step} (ho : o.length ≤ 12) : FewR (ovR r o (setS l o) (secS l o)) := by
  have := setS_len l o
  have := secS_len l o
  exact ⟨h.pa, show o.length ≤ 60 by omega, h.se, show (secS l o).length ≤ 60 by omega, h.po, show (setS l o).length ≤ 60 by omega, h.fl, h.gu, h.ga⟩
theorem findsF (l : T_api_Layout) (hj : l.Joints.length ≤ 1048576) (r : T_api_Route) (h : FewR r) :
    ∃ o : List T_api_Step, o.length ≤ 12 ∧ (∀ a b c, d_overlap_Find l (ovR r a b c) = some (ovR r o (setS l o) (secS l o))) ∧ d_ref13_Find l r = some (ovR r o (setS l o) (secS l o)) := by
  obtain ⟨a, b, c, d, e, f, g, i, j⟩ := h
  exact finds l hj r (by omega) (by omega) (by omega) (by omega) (by omega) (by omega)

theorem overlapFinds_law {l : T_api_Layout} (h : Sm l) (r : T_api_Route) : d_law13_OverlapFinds l r = some true := by
  unfold d_law13_OverlapFinds
  obtain ⟨g, g1, -⟩ := good_is h
  obtain ⟨f, f1, f2⟩ := few_is r
  rw [g1, f1, alive13]
  cases g with
  | false => rfl
  | true =>
    cases f with
    | false => rfl
    | true =>
      obtain ⟨o, o1, o2, o3⟩ := findsF l h.jo r (f2 rfl)
      have e : d_overlap_Find l r = some (ovR r o (setS l o) (secS l o)) := o2 r.Over r.OverPoints r.OverSections
      simp [e, o3, Same_few _ (fewOv (f2 rfl) o1)]
theorem measures_eq (l : T_api_Layout) (r : T_api_Route) (h : r.Over.length ≤ 1048576) : d_overlap_Length l r = some (w64 (sumL l r.Over)) ∧ d_ref13_Length l r = some (w64 (sumL l r.Over)) := by
  unfold d_overlap_Length d_ref13_Length
  rw [walk_Length_eq l _ h, ref09_Length_eq l _ h]
  exact ⟨rfl, rfl⟩
theorem wholes (l : T_api_Layout) (r : T_api_Route) (h : r.Over.length ≤ 1048576) : ∃ b, d_overlap_Whole l r = some b ∧ d_ref13_Whole l r = some b := by
  unfold d_overlap_Whole d_ref13_Whole
  simp only [overlap_exit_eq, ref13_exit_eq, (measures_eq l r h).1, (measures_eq l r h).2, Option.bind_some, condSo]
  exact ⟨_, rfl, rfl⟩
theorem overlapMeasures_law {l : T_api_Layout} (h : Sm l) (r : T_api_Route) : d_law13_OverlapMeasures l r = some true := by
  unfold d_law13_OverlapMeasures
  obtain ⟨g, g1, -⟩ := good_is h
  obtain ⟨f, f1, f2⟩ := few_is r
  rw [g1, f1, alive13]
  cases g with
  | false => rfl
  | true =>
    cases f with
    | false => rfl
    | true =>
      have hf := f2 rfl
      obtain ⟨b, b1, b2⟩ := wholes l r (by have := hf.ov; omega)
      simp [(measures_eq l r (by have := hf.ov; omega)).1, (measures_eq l r (by have := hf.ov; omega)).2, b1, b2]
theorem overlapKeeps_law {l : T_api_Layout} (h : Sm l) (r : T_api_Route) : d_law13_OverlapKeeps l r = some true := by
  unfold d_law13_OverlapKeeps
  obtain ⟨g, g1, -⟩ := good_is h
  obtain ⟨f, f1, f2⟩ := few_is r
  rw [g1, f1, alive13]
  cases g with
  | false => rfl
  | true =>
    cases f with
    | false => rfl
    | true =>
      have hf := f2 rfl
      obtain ⟨o, o1, o2, -⟩ := findsF l h.jo r hf
      have e1 : d_overlap_Find l r = some (ovR r o (setS l o) (secS l o)) := o2 r.Over r.OverPoints r.OverSections
      have e2 : d_overlap_Find l (ovR r o (setS l o) (secS l o)) = some (ovR r o (setS l o) (secS l o)) := o2 _ _ _
      have e3 : d_overlap_Find l (T_api_Route.mk r.Name r.Entry r.Exit r.Path r.Points r.Sections r.Approach r.Length [] [] [] r.Flank r.Guards r.Gaps) = some (ovR r o (setS l o) (secS l o)) := o2 _ _ _
      have s1 : d_ref12_Same (T_api_Route.mk (ovR r o (setS l o) (secS l o)).Name (ovR r o (setS l o) (secS l o)).Entry (ovR r o (setS l o) (secS l o)).Exit (ovR r o (setS l o) (secS l o)).Path (ovR r o (setS l o) (secS l o)).Points (ovR r o (setS l o) (secS l o)).Sections (ovR r o (setS l o) (secS l o)).Approach (ovR r o (setS l o) (secS l o)).Length r.Over r.OverPoints r.OverSections (ovR r o (setS l o) (secS l o)).Flank (ovR r o (setS l o) (secS l o)).Guards (ovR r o (setS l o) (secS l o)).Gaps) r = some true := Same_few r hf
      have s2 := Same_few _ (fewOv (l := l) hf o1)
      simp [e1, e2, e3, s1, s2]
end PM
