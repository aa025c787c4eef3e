/-
  PLAIN, OVERLAPS: the statements OverlapFinds, OverlapMeasures and OverlapKeeps.
-/
import Derived.Test.YtoadiglkifiofaaDoorWalkJ
import Derived.Test.YtoadiglkifiofaaDoorPlA
namespace PM
open Go Go.RowKit

theorem alive13 : d_law13_alive = some true := by kernel_rfl

theorem condSo {α : Type} {b : Bool} {x y : α} : (bif b then some x else some y) = some (bif b then x else y) := by cases b <;> rfl
def secZ (l : T_api_Layout) (i : Int) : Int := bif hasEl l i then ((l.Elements[i.toNat]?).map (·.Section)).getD (-1) else -1
theorem layout_Section_z (l : T_api_Layout) (i : Int) : d_layout_Section l i = some (secZ l i) := by
  unfold d_layout_Section secZ
  simp only [condSo, Option.bind_some, Bool.cond_true_left]
  have e : (decide (i < 0) || decide (((l.Elements.length : Nat) : Int) ≤ i)) = !hasEl l i := by
    unfold hasEl; rw [Bool.eq_iff_iff]; simp
  rw [e]
  cases h : hasEl l i with
  | false => rfl
  | true =>
    obtain ⟨x, h2, h3⟩ := hasEl_get h
    simp [h2, h3]
theorem ref07_Section_z (l : T_api_Layout) (i : Int) : d_ref07_Section l i = some (secZ l i) := by
  unfold d_ref07_Section secZ
  simp only [condSo, Option.bind_some, Bool.cond_true_left]
  have e : (decide (i < 0) || decide (((l.Elements.length : Nat) : Int) ≤ i)) = !hasEl l i := by
    unfold hasEl; rw [Bool.eq_iff_iff]; simp
  rw [e]
  cases h : hasEl l i with
  | false => rfl
  | true =>
    obtain ⟨x, h2, h3⟩ := hasEl_get h
    simp [h2, h3]

def exitS (l : T_api_Layout) (r : T_api_Route) : T_api_Signal × Bool :=
  bif decide (r.Exit < 0) || decide (((l.Signals.length : Nat) : Int) ≤ r.Exit) then (T_api_Signal.mk ByteArray.empty (T_api_End.mk 0 0) 0, false)
  else ((l.Signals[r.Exit.toNat]?).getD (T_api_Signal.mk ByteArray.empty (T_api_End.mk 0 0) 0), true)
theorem overlap_exit_eq (l : T_api_Layout) (r : T_api_Route) : d_overlap_exitSignal l r = some (exitS l r) := by
  unfold d_overlap_exitSignal exitS
  simp only [condSo, Option.bind_some, Bool.cond_true_left]
  cases h : (decide (r.Exit < 0) || decide (((l.Signals.length : Nat) : Int) ≤ r.Exit)) with
  | true => rfl
  | false =>
    simp only [Bool.or_eq_false_iff, decide_eq_false_iff_not] at h
    obtain ⟨x, h2, h3⟩ := Is.ix (L := l.Signals) (i := r.Exit) (by omega) (by omega)
    simp [h2, h3]
def covS (o : List T_api_Step) (e : Int) : Bool := decide (∃ x ∈ o, x.El = e)
def inS (L : List Int) (e : Int) : Bool := decide (e ∈ L)
theorem covers_eq (o : List T_api_Step) (e : Int) (h : o.length ≤ 1048576) : d_overlap_covers o e = some (covS o e) := by
  have : Is (d_overlap_covers o e) fun b => b = covS o e := by
    unfold d_overlap_covers d_slices_ContainsFunc_api_Step__overlap_covers_1 d_slices_IndexFunc_api_Step__overlap_covers_1
    refine Is.bind (φ := fun b => b = covS o e) (Is.bind (φ := fun i => decide (0 ≤ i) = covS o e) ?_ fun i hi => Is.val hi) fun b hb => Is.val hb
    refine Is.all (L := o) (fun _ x => ¬ x.El = e) () (by omega) (fun i x hx hi hI => ?_) ?_ (fun hn => Is.val ?_)
    · unfold d_slices_IndexFunc_api_Step_0 d_overlap_covers_1
      refine Is.inb hi (Is.at hx ?_)
      rw [Option.bind_some]
      refine Is.ite dec_iff (fun hc => Is.val ?_) (fun hc => Is.val ⟨rfl, hc⟩)
      show decide (0 ≤ (i : Int)) = covS o e
      rw [decide_eq_true (by omega : 0 ≤ (i : Int))]
      exact (decide_eq_true (⟨x, List.mem_of_getElem? hx, hc⟩ : ∃ x ∈ o, x.El = e)).symm
    · simp [d_slices_IndexFunc_api_Step_0]
    · refine Eq.symm (decide_eq_false ?_)
      rintro ⟨x, hx, hc⟩
      obtain ⟨i, hi⟩ := List.getElem?_of_mem hx
      exact hn i x hi hc
  obtain ⟨b, h1, h2⟩ := this
  rw [h1, h2]
theorem Contains_eq (L : List Int) (e : Int) (h : L.length ≤ 1048576) : d_slices_Contains_int L e = some (inS L e) := by
  have : Is (d_slices_Contains_int L e) fun b => b = inS L e := by
    unfold d_slices_Contains_int d_slices_Index_int
    refine Is.bind (φ := fun i => decide (0 ≤ i) = inS L e) ?_ fun i hi => Is.val hi
    refine Is.all (L := L) (fun _ x => ¬ e = x) () (by omega) (fun i x hx hi hI => ?_) ?_ (fun hn => Is.val ?_)
    · unfold d_slices_Index_int_0
      refine Is.inb hi (Is.at hx ?_)
      refine Is.ite dec_iff (fun hc => Is.val ?_) (fun hc => Is.val ⟨rfl, hc⟩)
      show decide (0 ≤ (i : Int)) = inS L e
      rw [decide_eq_true (by omega : 0 ≤ (i : Int))]
      exact (decide_eq_true (hc ▸ List.mem_of_getElem? hx : e ∈ L)).symm
    · simp [d_slices_Index_int_0]
    · refine Eq.symm (decide_eq_false ?_)
      intro hx
      obtain ⟨i, hi⟩ := List.getElem?_of_mem hx
      exact hn i e hi rfl
  obtain ⟨b, h1, h2⟩ := this
  rw [h1, h2]
theorem obstructed_eq (e : Int) (L : List Int) (h : L.length ≤ 1048576) : d_overlap_obstructed e L = some (inS L e) := by
  unfold d_overlap_obstructed
  rw [Contains_eq L e h]; rfl
theorem Blocked_eq (l : T_api_Layout) (r : T_api_Route) (o : List T_api_Step) (e : Int) (h : o.length ≤ 1048576) (hr : r.Sections.length ≤ 1048576) :
    d_ref13_Blocked l r o e = some (covS o e || inS r.Sections (secZ l e)) := by
  have : Is (d_ref13_Blocked l r o e) fun b => b = (covS o e || inS r.Sections (secZ l e)) := by
    unfold d_ref13_Blocked
    refine Is.all (L := o) (fun _ x => ¬ x.El = e) () (by omega) (fun i x hx hi hI => ?_) ?_ (fun hn => ?_)
    · unfold d_ref13_Blocked_0
      refine Is.inb hi (Is.at hx ?_)
      refine Is.ite dec_iff (fun hc => Is.val ?_) (fun hc => Is.val ⟨rfl, hc⟩)
      show true = _
      rw [show covS o e = true from decide_eq_true ⟨x, List.mem_of_getElem? hx, hc⟩, Bool.true_or]
    · simp [d_ref13_Blocked_0]
    have hc : covS o e = false := decide_eq_false (by
      rintro ⟨x, hx, hc⟩
      obtain ⟨i, hi⟩ := List.getElem?_of_mem hx
      exact hn i x hi hc)
    rw [hc, Bool.false_or]
    refine Is.all (L := r.Sections) (fun _ x => ¬ x = secZ l e) () (by omega) (fun i x hx hi hI => ?_) ?_ (fun hn => Is.val ?_)
    · unfold d_ref13_Blocked_1
      refine Is.inb hi (Is.at hx ?_)
      rw [ref07_Section_z, Option.bind_some]
      refine Is.ite dec_iff (fun hc => Is.val ?_) (fun hc => Is.val ⟨rfl, hc⟩)
      exact (decide_eq_true (hc ▸ List.mem_of_getElem? hx : secZ l e ∈ r.Sections)).symm
    · simp [d_ref13_Blocked_1]
    · refine Eq.symm (decide_eq_false ?_)
      intro hx
      obtain ⟨i, hi⟩ := List.getElem?_of_mem hx
      exact hn i _ hi rfl
  obtain ⟨b, h1, h2⟩ := this
  rw [h1, h2]

theorem app_eq {α : Type} [Enc α] {L ys : List α} (h : (L.length + ys.length) * Enc.b α ≤ sizeMax ∧ L.length + ys.length ≤ sizeMax) : appO L ys = some (L ++ ys) := by
  unfold appO; rw [if_pos h]

def ovR (r : T_api_Route) (o : List T_api_Step) (p : List T_api_Setting) (s : List Int) : T_api_Route :=
  T_api_Route.mk r.Name r.Entry r.Exit r.Path r.Points r.Sections r.Approach r.Length o p s r.Flank r.Guards r.Gaps
structure FewR (r : T_api_Route) : Prop where
  pa : r.Path.length ≤ 60
  ov : r.Over.length ≤ 60
  se : r.Sections.length ≤ 60
  os : r.OverSections.length ≤ 60
  po : r.Points.length ≤ 60
  op : r.OverPoints.length ≤ 60
  fl : r.Flank.length ≤ 60
  gu : r.Guards.length ≤ 60
  ga : r.Gaps.length ≤ 60
theorem setS_nil (l : T_api_Layout) : setS l [] = [] := by
  have h := setS_len l []
  exact List.eq_nil_of_length_eq_zero (by simpa using h)
theorem clone_eq {α : Type} [Enc α] {L : List α} (h : L.length * Enc.b α ≤ sizeMax ∧ L.length ≤ sizeMax) : appO ([] : List α) L = some L := by
  unfold appO; rw [if_pos (by simpa using h)]; rfl
end PM
