/-
  PLAIN, OVERLAPS: what an overlap is; the statements OverlapApart and OverlapGrows.
-/
import Derived.Test.YtoadiglkifiofaaDoorRutB
namespace PM
open Go Go.RowKit

def stO (l : T_api_Layout) (a : T_api_End × Bool) (o : List T_api_Step) : T_api_End × Bool := match o.getLast? with | some s => joinS l ⟨s.El, s.Out⟩ | none => a
theorem stO_snoc (l : T_api_Layout) (a : T_api_End × Bool) (o : List T_api_Step) (s : T_api_Step) : stO l a (o ++ [s]) = joinS l ⟨s.El, s.Out⟩ := by unfold stO; simp
def canGo (l : T_api_Layout) (S : List Int) (lim : Int) (a : T_api_End × Bool) (o : List T_api_Step) : Bool :=
  (stO l a o).2 && decide (w64 (sumL l o) < lim) && decide (o.length < 12) && !(covS o (stO l a o).1.El || inS S (secZ l (stO l a o).1.El)) && !(branS l (stO l a o).1).isEmpty
def OvI (l : T_api_Layout) (S : List Int) (lim : Int) (a : T_api_End × Bool) (o : List T_api_Step) : Prop :=
  ∀ i s, o[i]? = some s → canGo l S lim a (o.take i) = true ∧ (branS l (stO l a (o.take i)).1).head? = some s
structure Ov (l : T_api_Layout) (S : List Int) (lim : Int) (a : T_api_End × Bool) (o : List T_api_Step) : Prop where
  step : OvI l S lim a o
  stop : canGo l S lim a o = false
theorem OvI.snoc {l : T_api_Layout} {S : List Int} {lim : Int} {a : T_api_End × Bool} {o : List T_api_Step} {s : T_api_Step} (h : OvI l S lim a o) (h1 : canGo l S lim a o = true) (h2 : (branS l (stO l a o).1).head? = some s) : OvI l S lim a (o ++ [s]) := by
  intro i t ht
  by_cases hi : i < o.length
  · rw [List.getElem?_append_left hi] at ht
    rw [List.take_append_of_le_length (by omega)]
    exact h i t ht
  · have hi2 : i = o.length := by
      have := lt_of_get ht
      rw [List.length_append, List.length_singleton] at this
      omega
    subst hi2
    rw [List.getElem?_append_right (Nat.le_refl _), Nat.sub_self] at ht
    cases ht
    rw [List.take_append_of_le_length (Nat.le_refl _), List.take_length]
    exact ⟨h1, h2⟩
theorem OvI.len {l : T_api_Layout} {S : List Int} {lim : Int} {a : T_api_End × Bool} {o : List T_api_Step} (h : OvI l S lim a o) : o.length ≤ 12 := by
  by_cases h0 : o.length = 0
  · omega
  · have hg := List.getElem?_eq_getElem (l := o) (i := o.length - 1) (by omega)
    have h1 := (h _ _ hg).1
    simp only [canGo, Bool.and_eq_true, decide_eq_true_eq, List.length_take] at h1
    omega
theorem canGo_mono {l : T_api_Layout} {S : List Int} {lim lim' : Int} {a : T_api_End × Bool} {o : List T_api_Step} (hl : lim ≤ lim') (h : canGo l S lim a o = true) : canGo l S lim' a o = true := by
  simp only [canGo, Bool.and_eq_true, decide_eq_true_eq] at h ⊢
  obtain ⟨⟨⟨⟨h1, h2⟩, h3⟩, h4⟩, h5⟩ := h
  exact ⟨⟨⟨⟨h1, by omega⟩, h3⟩, h4⟩, h5⟩
theorem Ov.grows {l : T_api_Layout} {S : List Int} {lim lim' : Int} {a : T_api_End × Bool} {o o' : List T_api_Step} (h : Ov l S lim a o) (h' : Ov l S lim' a o') (hl : lim ≤ lim') : o.length ≤ o'.length ∧ o'.take o.length = o := by
  have key : ∀ i, i ≤ o.length → i ≤ o'.length ∧ o'.take i = o.take i := by
    intro i
    induction i with
    | zero => intro _; exact ⟨Nat.zero_le _, rfl⟩
    | succ i ih =>
      intro hi
      obtain ⟨h1, h2⟩ := ih (by omega)
      have hg := List.getElem?_eq_getElem (l := o) (i := i) (by omega)
      obtain ⟨c1, c2⟩ := h.step _ _ hg
      have hlt : i < o'.length := by
        by_cases e : i < o'.length
        · exact e
        · have e1 : o'.take i = o' := List.take_of_length_le (by omega)
          have := canGo_mono hl c1
          rw [← h2, e1, h'.stop] at this
          cases this
      have hg' := List.getElem?_eq_getElem (l := o') (i := i) hlt
      obtain ⟨c3, c4⟩ := h'.step _ _ hg'
      rw [h2, c2] at c4
      have c4 : o[i] = o'[i] := Option.some.inj c4
      refine ⟨by omega, ?_⟩
      rw [List.take_add_one, List.take_add_one, hg, hg', h2, c4]
  obtain ⟨h1, h2⟩ := key o.length (Nat.le_refl _)
  exact ⟨h1, by rw [h2, List.take_length]⟩
theorem Ov.one {l : T_api_Layout} {S : List Int} {lim : Int} {a : T_api_End × Bool} {o o' : List T_api_Step} (h : Ov l S lim a o) (h' : Ov l S lim a o') : o = o' := by
  obtain ⟨h1, h2⟩ := h.grows h' (Int.le_refl _)
  obtain ⟨h3, -⟩ := h'.grows h (Int.le_refl _)
  rw [← h2]
  exact List.take_of_length_le (by omega)

theorem run_loop {S R : Type} {f : S → Option (S ⊕ R)} (I : S → Prop) (m : S → Nat) (θ : R → Prop) (h : ∀ s, I s → (∃ s', f s = some (.inl s') ∧ m s' < m s ∧ I s') ∨ (∃ v, f s = some (.inr v) ∧ θ v)) :
    ∀ (n : Nat) (s : S), m s ≤ n → I s → ∃ v, loopO f s = some v ∧ θ v := by
  intro n
  induction n with
  | zero =>
    intro s hm hI
    rcases h s hI with ⟨s', -, h3, -⟩ | ⟨v, h1, h3⟩
    · omega
    · exact ⟨v, loop_done h1, h3⟩
  | succ n ih =>
    intro s hm hI
    rcases h s hI with ⟨s', h1, h3, h4⟩ | ⟨v, h1, h3⟩
    · rw [loop_more h1]
      exact ih s' (by omega) h4
    · exact ⟨v, loop_done h1, h3⟩
def limS (l : T_api_Layout) (r : T_api_Route) : Int := (exitS l r).1.Overlap
def begS (l : T_api_Layout) (r : T_api_Route) : T_api_End × Bool := joinS l (exitS l r).1.At
theorem steps_round (l : T_api_Layout) (hj : l.Joints.length ≤ 1048576) (r : T_api_Route) (hr : r.Sections.length ≤ 1048576) (a : T_api_End × Bool) (s : Bool × T_api_End × List T_api_Step) (h1 : s.1 = (stO l a s.2.2).2) (h2 : s.2.1 = (stO l a s.2.2).1) (h3 : OvI l r.Sections (limS l r) a s.2.2) :
    (∃ s', d_overlap_steps_0 l r (exitS l r) s = some (.inl s') ∧ 12 - s'.2.2.length < 12 - s.2.2.length ∧ s'.1 = (stO l a s'.2.2).2 ∧ s'.2.1 = (stO l a s'.2.2).1 ∧ OvI l r.Sections (limS l r) a s'.2.2)
    ∨ (∃ v, d_overlap_steps_0 l r (exitS l r) s = some (.inr v) ∧ ∃ o, v = .inl o ∧ Ov l r.Sections (limS l r) a o) := by
  obtain ⟨b, e, o⟩ := s
  have h1 : b = (stO l a o).2 := h1
  have h2 : e = (stO l a o).1 := h2
  have ho : o.length ≤ 12 := h3.len
  unfold d_overlap_steps_0
  simp only [walk_Length_eq l o (by omega), covers_eq o e.El (by omega), layout_Section_z, obstructed_eq _ r.Sections hr, walk_Branches_eq, walk_Next_eq hj, Option.bind_some, condSo]
  have hcg : canGo l r.Sections (limS l r) a o = (b && decide (w64 (sumL l o) < (exitS l r).1.Overlap) && decide (o.length < 12) && !(covS o e.El || inS r.Sections (secZ l e.El)) && !(branS l e).isEmpty) := by
    unfold canGo limS; rw [h1, h2]
  have hdec : decide (((o.length : Nat) : Int) < 12) = decide (o.length < 12) := by
    rw [Bool.eq_iff_iff, decide_eq_true_iff, decide_eq_true_iff]; omega
  rw [hdec]
  simp only [Bool.cond_true_left, Bool.cond_false_right]
  cases hb : (b && decide (w64 (sumL l o) < (exitS l r).1.Overlap) && decide (o.length < 12)) with
  | false =>
    refine .inr ⟨.inl o, by simp, o, rfl, h3, ?_⟩
    rw [hcg, hb]; simp
  | true =>
    have h12 : o.length < 12 := by
      simp only [Bool.and_eq_true, decide_eq_true_eq] at hb
      exact hb.2
    simp only [cond_true]
    cases hk : (covS o e.El || inS r.Sections (secZ l e.El)) with
    | true =>
      refine .inr ⟨.inl o, by simp, o, rfl, h3, ?_⟩
      rw [hcg, hb, hk]; simp
    | false =>
      simp only [cond_false]
      cases hL : branS l e with
      | nil =>
        refine .inr ⟨.inl o, by simp, o, rfl, h3, ?_⟩
        rw [hcg, hb, hk, hL]; simp
      | cons y ys =>
        have ha : appO o [y] = some (o ++ [y]) := app_eq (by simp [Enc.b, sizeMax]; omega)
        have hx : ixO (y :: ys) 0 = some y := rfl
        have h0 : decide ((((y :: ys).length : Nat) : Int) = 0) = false := decide_eq_false (by rw [List.length_cons]; omega)
        refine .inl ⟨((joinS l ⟨y.El, y.Out⟩).2, (joinS l ⟨y.El, y.Out⟩).1, o ++ [y]), ?_, ?_, ?_, ?_, ?_⟩
        · rw [h0, cond_false, hx, Option.bind_some, ha, Option.bind_some, Option.bind_some]
        · simp; omega
        · rw [stO_snoc]
        · rw [stO_snoc]
        · refine h3.snoc ?_ (by rw [← h2, hL]; rfl)
          rw [hcg, hb, hk, hL]; simp
theorem overlap_steps_is {l : T_api_Layout} (hj : l.Joints.length ≤ 1048576) (r : T_api_Route) (hr : r.Sections.length ≤ 1048576) : Is (d_overlap_steps l r) fun o => o.length ≤ 12 ∧ ((exitS l r).2 = false → o = []) ∧ ((exitS l r).2 = true → Ov l r.Sections (limS l r) (begS l r) o) := by
  unfold d_overlap_steps
  rw [overlap_exit_eq, Option.bind_some]
  cases hx : (exitS l r).2 with
  | false => exact Is.val ⟨by simp, (fun _ => rfl), (fun e => Bool.noConfusion e)⟩
  | true =>
    simp only [Bool.not_true, cond_false]
    rw [layout_Joined_eq hj, Option.bind_some]
    obtain ⟨v, e1, o, rfl, e3⟩ := run_loop (f := d_overlap_steps_0 l r (exitS l r)) (fun s => s.1 = (stO l (begS l r) s.2.2).2 ∧ s.2.1 = (stO l (begS l r) s.2.2).1 ∧ OvI l r.Sections (limS l r) (begS l r) s.2.2) (fun s => 12 - s.2.2.length) (fun v => ∃ o, v = .inl o ∧ Ov l r.Sections (limS l r) (begS l r) o)
      (fun s hs => steps_round l hj r hr (begS l r) s hs.1 hs.2.1 hs.2.2) 12 ((begS l r).2, (begS l r).1, []) (by simp) ⟨rfl, rfl, fun i s hs => by simp at hs⟩
    show Is (PM.onInl (loopO (d_overlap_steps_0 l r (exitS l r)) ((begS l r).2, (begS l r).1, [])) _) _
    rw [e1]
    exact Is.val ⟨e3.step.len, (fun e => Bool.noConfusion e), fun _ => e3⟩
theorem Find_is {l : T_api_Layout} (hj : l.Joints.length ≤ 1048576) (r : T_api_Route) (h1 : r.Path.length ≤ 1000) (h2 : r.Sections.length ≤ 1000) (h3 : r.Points.length ≤ 1000) (h4 : r.Flank.length ≤ 1000) (h5 : r.Guards.length ≤ 1000) (h6 : r.Gaps.length ≤ 1000) :
    Is (d_overlap_Find l r) fun r' => ∃ o, r' = ovR r o (setS l o) (secS l o) ∧ o.length ≤ 12 ∧ ((exitS l r).2 = false → o = []) ∧ ((exitS l r).2 = true → Ov l r.Sections (limS l r) (begS l r) o) := by
  unfold d_overlap_Find d_slices_Clone_api_Step d_slices_Clone_api_Setting d_slices_Clone_int d_slices_Clone_api_End
  refine (overlap_steps_is hj r (by omega)).bind fun o ho => ?_
  simp only [Option.bind_some, walk_Settings_eq l o (by omega), walk_Sections_eq l o (by omega),
    clone_eq (L := r.Path) (by simp [Enc.b, sizeMax]; omega), clone_eq (L := r.Points) (by simp [Enc.b, sizeMax]; omega), clone_eq (L := r.Sections) (by simp [Enc.b, sizeMax]; omega),
    clone_eq (L := r.Flank) (by simp [Enc.b, sizeMax]; omega), clone_eq (L := r.Guards) (by simp [Enc.b, sizeMax]; omega), clone_eq (L := r.Gaps) (by simp [Enc.b, sizeMax]; omega)]
  exact Is.val ⟨o, rfl, ho⟩
theorem Whole_eq (l : T_api_Layout) (r : T_api_Route) (h : r.Over.length ≤ 1048576) : d_overlap_Whole l r = some (!(exitS l r).2 || decide ((exitS l r).1.Overlap ≤ w64 (sumL l r.Over))) := by
  unfold d_overlap_Whole d_overlap_Length
  simp only [overlap_exit_eq, walk_Length_eq l _ h, Option.bind_some, condSo, Bool.cond_true_left]

structure RtOK (l : T_api_Layout) (r : T_api_Route) : Prop where
  ex : r.Exit = -1 ∨ (0 ≤ r.Exit ∧ r.Exit < (l.Signals.length : Nat))
  p0 : 0 < r.Path.length
  p1 : r.Path.length ≤ 12
  se : r.Sections = secS l r.Path
  po : r.Points = setS l r.Path
  fl : r.Flank = []
  gu : r.Guards = []
  ga : r.Gaps = []
theorem rtOK_of {l : T_api_Layout} {r : T_api_Route} (h : r ∈ allS l) : RtOK l r := by
  unfold allS at h
  rw [List.mem_flatMap] at h
  obtain ⟨i, hi, h⟩ := h
  unfold fromS at h
  split at h
  · split at h
    · rw [List.mem_map] at h
      obtain ⟨k, hk, rfl⟩ := h
      rw [List.mem_range] at hk
      have hg := pathK_get hk
      obtain ⟨⟨s, hs, _⟩, h2, _⟩ := pathsN_fits (List.mem_of_getElem? hg)
      exact ⟨sigF_rng _ _, lt_of_get hs, h2, rfl, rfl, rfl, rfl, rfl⟩
    · cases h
  · cases h
theorem RtOK.find {l m : T_api_Layout} {r : T_api_Route} (h : RtOK l r) (hj : m.Joints.length ≤ 1048576) : Is (d_overlap_Find m r) fun r' => ∃ o, r' = ovR r o (setS m o) (secS m o) ∧ o.length ≤ 12 ∧ ((exitS m r).2 = false → o = []) ∧ ((exitS m r).2 = true → Ov m r.Sections (limS m r) (begS m r) o) := by
  have h1 := secS_len l r.Path
  have h2 := setS_len l r.Path
  have := h.p1
  exact Find_is hj r (by omega) (by rw [h.se]; omega) (by rw [h.po]; omega) (by rw [h.fl]; simp) (by rw [h.gu]; simp) (by rw [h.ga]; simp)
theorem good_ok {l : T_api_Layout} (h : Sm l) : Is (d_law13_good l) fun b => b = true → OkL l := by
  unfold d_law13_good
  obtain ⟨b, hb⟩ := Few_is l
  rw [hb, Option.bind_some, ref07_Check_eq h]
  cases b with
  | false => exact Is.val fun e => by cases e
  | true => exact Is.val fun e => (chk_ok l).1 (of_decide_eq_true e)
theorem exitS_some {l : T_api_Layout} {r : T_api_Route} {x : T_api_Signal} (h0 : 0 ≤ r.Exit) (h : l.Signals[r.Exit.toNat]? = some x) : exitS l r = (x, true) := by
  have := lt_of_get h
  unfold exitS
  have e : (decide (r.Exit < 0) || decide (((l.Signals.length : Nat) : Int) ≤ r.Exit)) = false := by
    simp only [Bool.or_eq_false_iff, decide_eq_false_iff_not]; omega
  rw [e, cond_false, h]; rfl
theorem exitS_none {l : T_api_Layout} {r : T_api_Route} (h0 : r.Exit < 0) : (exitS l r).2 = false := by
  unfold exitS
  rw [decide_eq_true h0, Bool.true_or, cond_true]
theorem stO_take {l : T_api_Layout} {a : T_api_End × Bool} {o : List T_api_Step} {i : Nat} {s : T_api_Step} (h : o[i]? = some s) : stO l a (o.take (i + 1)) = joinS l ⟨s.El, s.Out⟩ := by
  rw [take_snoc h, stO_snoc]
structure OvStep (l : T_api_Layout) (S : List Int) (lim : Int) (a : T_api_End × Bool) (o : List T_api_Step) (i : Nat) (s : T_api_Step) : Prop where
  on : (stO l a (o.take i)).2 = true
  el : s.El = (stO l a (o.take i)).1.El
  si : s.In = (stO l a (o.take i)).1.Side
  po : (posS l s).2 = true
  hd : (branS l (stO l a (o.take i)).1).head? = some s
  lt : w64 (sumL l (o.take i)) < lim
  cov : ∀ k t, k < i → o[k]? = some t → t.El ≠ s.El
  sec : secZ l s.El ∉ S
theorem OvI.at {l : T_api_Layout} {S : List Int} {lim : Int} {a : T_api_End × Bool} {o : List T_api_Step} (h : OvI l S lim a o) {i : Nat} {s : T_api_Step} (hs : o[i]? = some s) : OvStep l S lim a o i s := by
  obtain ⟨h1, h2⟩ := h i s hs
  have hm : s ∈ branS l (stO l a (o.take i)).1 := List.mem_of_mem_head? (by rw [h2]; rfl)
  obtain ⟨p1, p2, p3⟩ := branS_pos hm
  simp only [canGo, Bool.and_eq_true, decide_eq_true_eq, Bool.not_eq_true', Bool.or_eq_false_iff] at h1
  obtain ⟨⟨⟨⟨c1, c2⟩, c3⟩, c4, c5⟩, -⟩ := h1
  rw [← p1] at c4 c5
  refine ⟨c1, p1, p2, p3, h2, c2, fun k t hk ht he => ?_, fun hc => ?_⟩
  · have : covS (o.take i) s.El = true := decide_eq_true ⟨t, List.mem_of_getElem? (i := k) (by rw [List.getElem?_take, if_pos hk]; exact ht), he⟩
    rw [this] at c4; cases c4
  · have : inS S (secZ l s.El) = true := decide_eq_true hc
    rw [this] at c5; cases c5
theorem OvI.valid {l : T_api_Layout} {S : List Int} {lim : Int} {a : T_api_End × Bool} {o : List T_api_Step} (h : OvI l S lim a o) (h0 : 0 < o.length) : ValidP l o := by
  refine ⟨by omega, by have := h.len; omega, fun i hi => ?_⟩
  have hg := List.getElem?_eq_getElem hi
  have hp := h.at hg
  refine ⟨_, hg, hp.po, hp.cov, fun p hi0 hpr => ?_⟩
  have hp1 := hp.on; have hp2 := hp.el; have hp3 := hp.si
  have e : stO l a (o.take i) = joinS l ⟨p.El, p.Out⟩ := by
    have := stO_take (l := l) (a := a) hpr
    rwa [show i - 1 + 1 = i by omega] at this
  rw [e] at hp1 hp2 hp3
  rw [hp2, hp3, ← hp1]
theorem secZ_of {l : T_api_Layout} {s : T_api_Step} (h : hasEl l s.El = true) : secOf l s = some (secZ l s.El) := by
  obtain ⟨x, h1, h2⟩ := hasEl_get h
  unfold secOf secZ
  rw [h, h2]; rfl
theorem among_eq (L : List Int) (n : Int) (h : L.length ≤ 1048576) : d_law13_among L n = some (inS L n) := by
  have : Is (d_law13_among L n) fun b => b = inS L n := by
    unfold d_law13_among
    refine Is.all (L := L) (fun _ x => ¬ x = n) () (by omega) (fun i x hx hi hI => ?_) ?_ (fun hn => Is.val ?_)
    · unfold d_law13_among_0
      refine Is.inb hi (Is.at hx ?_)
      refine Is.ite dec_iff (fun hc => Is.val ?_) (fun hc => Is.val ⟨rfl, hc⟩)
      exact (decide_eq_true (hc ▸ List.mem_of_getElem? hx : n ∈ L)).symm
    · simp [d_law13_among_0]
    · refine Eq.symm (decide_eq_false ?_)
      intro hx
      obtain ⟨i, hi⟩ := List.getElem?_of_mem hx
      exact hn i n hi rfl
  obtain ⟨b, h1, h2⟩ := this
  rw [h1, h2]
theorem leg_point {l : T_api_Layout} {a : T_api_End} {s : T_api_Step} {x : T_api_Element} (h : (branS l a).head? = some s) (hx : l.Elements[s.El.toNat]? = some x) (hk : x.Kind = 2) (hi : s.In = 0) : s.Out = 1 := by
  have hm : s ∈ branS l a := List.mem_of_mem_head? (by rw [h]; rfl)
  obtain ⟨p1, p2, p3⟩ := branS_pos hm
  unfold branS at h
  rw [← p1, pos_has p3, cond_true, hx] at h
  simp only at h
  rw [hk, ← p2, hi] at h
  exact (congrArg T_api_Step.Out (Option.some.inj h)).symm
theorem apart_is {l : T_api_Layout} (hs : Sm l) {r : T_api_Route} (hr : RtOK l r) {x : T_api_Signal} (h0 : 0 ≤ r.Exit) (hx : l.Signals[r.Exit.toNat]? = some x) {o : List T_api_Step} (ho : Ov l r.Sections x.Overlap (joinS l x.At) o) : d_law13_apart l (ovR r o (setS l o) (secS l o)) = some true := by
  have hol := ho.step.len
  have hp1 := hr.p1
  have hsl := secS_len l r.Path
  have hsl2 := secS_len l o
  have : Is (d_law13_apart l (ovR r o (setS l o) (secS l o))) fun b => b = true := by
    unfold d_law13_apart
    refine Is.onInl (θ := fun v => v = .inl (r.Path.map (·.El))) ?_ (fun v hv => ?_) (fun b hb => by cases hb)
    · refine Is.loop (mk := fun i (m : List Int) => ((i : Int), m)) r.Path.length (fun i m => m = (r.Path.take i).map (·.El)) [] rfl (fun i m hi hI => ?_) (fun m hI => ?_)
      · simp only [d_law13_apart_0]
        have hg := List.getElem?_eq_getElem hi
        show Is (bif decide ((i : Int) < ((r.Path.length : Nat) : Int)) then _ else _) _
        refine Is.inb hi (Is.at hg ?_)
        refine (Is.app (by simp only [hI, List.length_map, List.length_take, List.length_cons, List.length_nil, sizeMax, Enc.b]; omega)).bind fun M hM => Is.val ⟨_, by rw [w64n (by omega)], ?_⟩
        rw [hM, hI, take_snoc hg, List.map_append]; rfl
      · simp only [d_law13_apart_0]
        show Is (bif decide (((r.Path.length : Nat) : Int) < ((r.Path.length : Nat) : Int)) then _ else _) _
        rw [decide_eq_false (by omega), cond_false]
        exact Is.val (by rw [hI, List.take_length])
    cases hv
    have hxx : ixO l.Signals (ovR r o (setS l o) (secS l o)).Exit = some x := by
      obtain ⟨z, z1, z2⟩ := Is.ix (L := l.Signals) (i := r.Exit) h0 (by have := lt_of_get hx; omega)
      rw [hx] at z2; cases z2; exact z1
    rw [hxx, Option.bind_some, ref07_Joined_eq hs.jo, Option.bind_some]
    refine Is.onInl (θ := fun v => v = .inl ()) ?_ (fun v hv => ?_) (fun b hb => by cases hb)
    · refine Is.loop (mk := fun i (s : Bool × T_api_End × List Int) => (s.1, (i : Int), s.2.1, s.2.2)) o.length (fun i s => s.1 = (stO l (joinS l x.At) (o.take i)).2 ∧ s.2.1 = (stO l (joinS l x.At) (o.take i)).1 ∧ s.2.2 = (r.Path ++ o.take i).map (·.El)) ((joinS l x.At).2, (joinS l x.At).1, r.Path.map (·.El)) ⟨rfl, rfl, by simp⟩ (fun i s hi hI => ?_) (fun s hI => ?_)
      · obtain ⟨b, e, m⟩ := s
        obtain ⟨i1, i2, i3⟩ := hI
        simp only at i1 i2 i3
        have hg := List.getElem?_eq_getElem hi
        have hst := ho.step.at hg
        have hhas := pos_has hst.po
        obtain ⟨y, y1, y2⟩ := hasEl_get hhas
        simp only [d_law13_apart_1]
        show Is (bif decide ((i : Int) < ((o.length : Nat) : Int)) then (ixO o (i : Int)).bind _ else _) _
        refine Is.inb hi (Is.at hg ?_)
        have hml : m.length ≤ 24 := by
          rw [i3, List.length_map, List.length_append, List.length_take]; omega
        have e1 : b = true := by rw [i1, hst.on]
        have e2 : decide (o[i].El = e.El) = true := decide_eq_true (by rw [i2, hst.el])
        have e3 : decide (o[i].In = e.Side) = true := decide_eq_true (by rw [i2, hst.si])
        have e4 : inS m o[i].El = false := decide_eq_false (by
          rw [i3, List.mem_map]
          rintro ⟨p, hp, he⟩
          rcases List.mem_append.1 hp with hp | hp
          · refine hst.sec ?_
            rw [hr.se, secS_mem]
            refine ⟨p, hp, ?_⟩
            rw [secZ_of (by rw [he]; exact hhas), he]
          · obtain ⟨k, hk⟩ := List.getElem?_of_mem hp
            rw [List.getElem?_take] at hk
            split at hk
            · rename_i hki; exact hst.cov k p hki hk he
            · cases hk)
        have e5 : inS (ovR r o (setS l o) (secS l o)).Sections (secZ l o[i].El) = false := decide_eq_false hst.sec
        have e6 : inS (ovR r o (setS l o) (secS l o)).OverSections (secZ l o[i].El) = true := decide_eq_true (by
          show _ ∈ secS l o
          rw [secS_mem]
          exact ⟨_, List.mem_of_getElem? hg, secZ_of hhas⟩)
        have hl1 : (ovR r o (setS l o) (secS l o)).Sections.length ≤ 1048576 := by show r.Sections.length ≤ _; rw [hr.se]; omega
        have hl2 : (ovR r o (setS l o) (secS l o)).OverSections.length ≤ 1048576 := by show (secS l o).length ≤ _; omega
        rw [e1, e2, e3]
        simp only [Bool.not_true, Bool.or_self, cond_false]
        rw [among_eq m _ (by omega), Option.bind_some, e4, Option.bind_some]
        simp only [cond_false]
        rw [ref07_Section_z, Option.bind_some, among_eq _ _ hl1, Option.bind_some, e5, Option.bind_some]
        simp only [cond_false]
        rw [Option.bind_some, among_eq _ _ hl2, Option.bind_some, e6, Bool.not_true, Option.bind_some]
        simp only [cond_false]
        rw [y1, Option.bind_some]
        have e7 : ((decide (y.Kind = 2) && decide (o[i].In = 0)) && !decide (o[i].Out = 1)) = false := by
          rw [← Bool.not_eq_true]
          simp only [Bool.and_eq_true, decide_eq_true_eq, Bool.not_eq_true', decide_eq_false_iff_not]
          rintro ⟨⟨k1, k2⟩, k3⟩
          exact k3 (leg_point hst.hd y2 k1 k2)
        rw [e7, cond_false]
        refine (Is.app (by simp only [List.length_cons, List.length_nil, sizeMax, Enc.b]; omega)).bind fun M hM => ?_
        rw [ref09_Next_eq hs.jo, Option.bind_some]
        have hst2 := stO_take (l := l) (a := joinS l x.At) hg
        refine Is.val ⟨((joinS l ⟨o[i].El, o[i].Out⟩).2, (joinS l ⟨o[i].El, o[i].Out⟩).1, M), by rw [w64n (by omega)], ?_, ?_, ?_⟩
        · rw [hst2]
        · rw [hst2]
        · show M = _
          rw [hM, i3, take_snoc hg, List.map_append, List.map_append, List.map_append, List.append_assoc]; rfl
      · obtain ⟨b, e, m⟩ := s
        simp only [d_law13_apart_1]
        show Is (bif decide (((o.length : Nat) : Int) < ((o.length : Nat) : Int)) then _ else _) _
        rw [decide_eq_false (by omega), cond_false]
        exact Is.val rfl
    · show Is ((bif decide (((o.length : Nat) : Int) = 0) then some true else (d_ref09_Valid l o).bind fun r56 => some r56).bind _) _
      by_cases he : o.length = 0
      · rw [decide_eq_true (by omega)]; exact Is.val rfl
      · rw [decide_eq_false (by omega), cond_false]
        obtain ⟨v, v1, v2⟩ := ref09_Valid_is l o hs.jo (by omega)
        rw [v1, v2.2 (ho.step.valid (by omega))]
        exact Is.val rfl
  obtain ⟨b, h1, rfl⟩ := this
  exact h1
theorem w64_diff (a b : Int) : w64 (w64 (a + b) - b) = w64 a := by
  show IntKind.i64.wrap (IntKind.i64.wrap (a + b) - b) = IntKind.i64.wrap a
  simp only [IntKind.wrap_i64]; omega
theorem sumL_last {l : T_api_Layout} {o : List T_api_Step} {s : T_api_Step} (h : o[o.length - 1]? = some s) : sumL l o = sumL l (o.take (o.length - 1)) + lenOf l s := by
  have h0 := lt_of_get h
  have := take_snoc h
  rw [show o.length - 1 + 1 = o.length by omega, List.take_length] at this
  conv => lhs; rw [this, sumL_append]
  simp [sumL]
theorem bran_join {l : T_api_Layout} (hl : OkL l) {e : T_api_End} (h : (joinS l e).2 = true) : (branS l (joinS l e).1).isEmpty = false := by
  have hJ : JoinsOk l := ⟨fun j hj => ⟨(hl.joint j hj).1, (hl.joint j hj).2.1⟩, hl.ends⟩
  have := branS_some (joinS_ok hJ (e := e) (f := (joinS l e).1) (by rw [← h]))
  cases hL : branS l (joinS l e).1 with
  | nil => exact absurd hL this
  | cons y ys => rfl
theorem blocked_val (l : T_api_Layout) (r : T_api_Route) (o : List T_api_Step) (e : Int) (h : o.length ≤ 1048576) (hr : r.Sections.length ≤ 1048576) : d_ref13_Blocked l r o e = some (covS o e || inS r.Sections (secZ l e)) := Blocked_eq l r o e h hr
theorem stO_last {l : T_api_Layout} {a : T_api_End × Bool} {o : List T_api_Step} {s : T_api_Step} (h : o[o.length - 1]? = some s) : stO l a o = joinS l ⟨s.El, s.Out⟩ := by
  unfold stO
  rw [List.getLast?_eq_getElem?, h]
theorem apart_round {l : T_api_Layout} (hs : Sm l) (hl : OkL l) {R : List T_api_Route} (hR : ∀ r ∈ R, RtOK l r) (i : Nat) (hi : i < R.length) : d_law13_OverlapApart_0 l (R, 0) (i : Int) = some (.inl (w64 ((i : Int) + 1))) := by
  have : Is (d_law13_OverlapApart_0 l (R, 0) (i : Int)) fun v => v = .inl (w64 ((i : Int) + 1)) := by
    unfold d_law13_OverlapApart_0
    have hg := List.getElem?_eq_getElem hi
    have hr := hR _ (List.mem_of_getElem? hg)
    rw [show (decide ((i : Int) < ((R.length : Nat) : Int)) && decide ((0 : Int) = 0)) = true by rw [decide_eq_true (by omega)]; rfl, cond_true]
    refine Is.onInl (θ := fun v => v = .inl ()) ?_ (fun v hv => Is.val rfl) (fun b hb => by cases hb)
    refine Is.at hg ?_
    generalize R[i] = r at hr
    refine (hr.find hs.jo).bind fun r' hr' => ?_
    obtain ⟨o, rfl, ho1, ho2, ho3⟩ := hr'
    have hwh := Whole_eq l (ovR r o (setS l o) (secS l o)) (show o.length ≤ 1048576 by omega)
    rw [show exitS l (ovR r o (setS l o) (secS l o)) = exitS l r from rfl] at hwh
    show Is (bif decide (r.Exit < 0) then _ else _) _
    rcases hr.ex with hex | ⟨hx0, hx1⟩
    · rw [decide_eq_true (by omega), cond_true, hwh, Option.bind_some]
      have hn := exitS_none (l := l) (r := r) (by omega)
      have := ho2 hn
      subst this
      rw [hn, setS_nil]
      exact Is.val rfl
    · rw [decide_eq_false (by omega), cond_false]
      have hx := List.getElem?_eq_getElem (l := l.Signals) (i := r.Exit.toNat) (by omega)
      have hes := exitS_some hx0 hx
      have hov := ho3 (by rw [hes])
      unfold limS begS at hov
      rw [hes] at hov hwh
      simp only at hov hwh
      generalize l.Signals[r.Exit.toNat] = x at hx hes hov hwh
      have hxx : ixO l.Signals r.Exit = some x := by
        obtain ⟨z, z1, z2⟩ := Is.ix (L := l.Signals) (i := r.Exit) hx0 hx1
        rw [hx] at z2; cases z2; exact z1
      rw [apart_is hs hr hx0 hx hov, Option.bind_some]
      simp only [Bool.not_true, cond_false]
      have hLn : d_overlap_Length l (ovR r o (setS l o) (secS l o)) = some (w64 (sumL l o)) := by
        unfold d_overlap_Length
        rw [walk_Length_eq l (ovR r o (setS l o) (secS l o)).Over (show o.length ≤ 1048576 by omega)]; rfl
      rw [hLn, Option.bind_some]
      show Is ((ixO l.Signals r.Exit).bind _) _
      rw [hxx, Option.bind_some, ref07_Joined_eq hs.jo, Option.bind_some]
      refine Is.onInl (θ := fun v => v = .inl ((stO l (joinS l x.At) o).2, (stO l (joinS l x.At) o).1.El, (stO l (joinS l x.At) o).1.Side)) ?_ (fun v hv => ?_) (fun b hb => by cases hb)
      · show Is (bif decide (0 < ((o.length : Nat) : Int)) then _ else _) _
        by_cases h0 : o.length = 0
        · have : o = [] := List.eq_nil_of_length_eq_zero h0
          subst this
          exact Is.val rfl
        · rw [decide_eq_true (by omega), cond_true]
          have hgl := List.getElem?_eq_getElem (l := o) (i := o.length - 1) (by omega)
          have hw : w64 (((o.length : Nat) : Int) - 1) = ((o.length - 1 : Nat) : Int) := by rw [w64_of (by omega) (by omega)]; omega
          show Is ((ixO o (w64 (((o.length : Nat) : Int) - 1))).bind _) _
          rw [hw]
          refine Is.at hgl ?_
          have hst := hov.step.at hgl
          have hsl := sumL_last (l := l) hgl
          have hso := stO_last (l := l) (a := joinS l x.At) hgl
          generalize o[o.length - 1] = s at hgl hst hsl hso
          have hhas := pos_has hst.po
          obtain ⟨y, y1, y2⟩ := hasEl_get hhas
          rw [ref09_Next_eq hs.jo, Option.bind_some, y1, Option.bind_some]
          show Is ((ixO l.Signals r.Exit).bind _) _
          rw [hxx, Option.bind_some]
          have hly : lenOf l s = y.Length := by unfold lenOf; rw [hhas, y2]; rfl
          have := hst.lt
          rw [hsl, hly, w64_diff, decide_eq_false (by omega), cond_false]
          exact Is.val (by rw [hso])
      · cases hv
        show Is ((ixO l.Signals r.Exit).bind _) _
        rw [hxx, Option.bind_some, hwh, Option.bind_some]
        have hstop := hov.stop
        rw [blocked_val l (ovR r o (setS l o) (secS l o)) (ovR r o (setS l o) (secS l o)).Over ((stO l (joinS l x.At) o).2, (stO l (joinS l x.At) o).1.El, (stO l (joinS l x.At) o).1.Side).2.1 (show o.length ≤ 1048576 by omega) (show r.Sections.length ≤ 1048576 by have := secS_len l r.Path; have := hr.p1; rw [hr.se]; omega)]
        show Is ((bif decide (w64 (sumL l o) < x.Overlap) then (bif !true || decide (x.Overlap ≤ w64 (sumL l o)) then some true else ((bif (stO l (joinS l x.At) o).2 then some (decide (((o.length : Nat) : Int) < 12)) else some false : Option Bool).bind fun b158 => (bif b158 then ((some (covS o (stO l (joinS l x.At) o).1.El || inS r.Sections (secZ l (stO l (joinS l x.At) o).1.El)) : Option Bool).bind fun r160 => some (!r160)) else some false : Option Bool).bind fun b159 => some b159) : Option Bool).bind fun b157 => some b157 else some false : Option Bool).bind _) _
        have hdec : decide (((o.length : Nat) : Int) < 12) = decide (o.length < 12) := by
          rw [Bool.eq_iff_iff, decide_eq_true_iff, decide_eq_true_iff]; omega
        rw [hdec]
        have hbr : (stO l (joinS l x.At) o).2 = true → (branS l (stO l (joinS l x.At) o).1).isEmpty = false := by
          intro hb
          unfold stO at hb ⊢
          cases hlast : o.getLast? with
          | none => rw [hlast] at hb; exact bran_join hl hb
          | some s => rw [hlast] at hb; exact bran_join hl hb
        unfold canGo at hstop
        by_cases hw : w64 (sumL l o) < x.Overlap
        · rw [decide_eq_true hw, decide_eq_false (show ¬ x.Overlap ≤ w64 (sumL l o) by omega)]
          rw [decide_eq_true hw] at hstop
          cases hb : (stO l (joinS l x.At) o).2 with
          | false => exact Is.val rfl
          | true =>
            rw [hb, hbr hb] at hstop
            cases hd : decide (o.length < 12) with
            | false => exact Is.val rfl
            | true =>
              rw [hd] at hstop
              have : (covS o (stO l (joinS l x.At) o).1.El || inS r.Sections (secZ l (stO l (joinS l x.At) o).1.El)) = true := by
                cases hc : (covS o (stO l (joinS l x.At) o).1.El || inS r.Sections (secZ l (stO l (joinS l x.At) o).1.El)) with
                | true => rfl
                | false => rw [hc] at hstop; cases hstop
              rw [this]
              exact Is.val rfl
        · rw [decide_eq_false hw]
          exact Is.val rfl
  obtain ⟨b, h1, rfl⟩ := this
  exact h1
theorem overlapApart_law {l : T_api_Layout} (h : Sm l) : d_law13_OverlapApart l = some true := by
  have : Is (d_law13_OverlapApart l) fun b => b = true := by
    unfold d_law13_OverlapApart
    obtain ⟨g, g1, g2⟩ := good_ok h
    rw [g1, Option.bind_some, alive13]
    cases g with
    | false => exact Is.val rfl
    | true =>
      simp only [Bool.not_true, cond_false]
      have hl := g2 rfl
      rw [All_eq h, Option.bind_some, if_pos ((chk_ok l).2 hl)]
      split
      · rw [loop_done (r := .inl ()) (by simp [d_law13_OverlapApart_0])]; exact Is.val rfl
      · rename_i hlen
        refine Is.all (L := allS l) (fun _ _ => True) () (by omega) (fun i x hx hi hI => ?_) (by simp [d_law13_OverlapApart_0]) (fun _ => Is.val rfl)
        rw [apart_round h hl (fun r hr => rtOK_of hr) i hi]
        exact Is.val ⟨rfl, trivial⟩
  obtain ⟨b, h1, rfl⟩ := this
  exact h1
theorem sumL_congr {l m : T_api_Layout} (h : m.Elements = l.Elements) : ∀ o, sumL m o = sumL l o
  | [] => rfl
  | s :: o => by
    unfold sumL
    rw [sumL_congr h o]
    unfold lenOf hasEl
    rw [h]
theorem Ov.congr {l m : T_api_Layout} (h : m.Elements = l.Elements) (hj : m.Joints = l.Joints) {S : List Int} {lim : Int} {a : T_api_End × Bool} {o : List T_api_Step} (ho : Ov m S lim a o) : Ov l S lim a o := by
  have e1 : ∀ x, joinS m x = joinS l x := fun x => by unfold joinS; rw [hj]
  have e2 : ∀ x, hasEl m x = hasEl l x := fun x => by unfold hasEl; rw [h]
  have e3 : ∀ x, branS m x = branS l x := fun x => by unfold branS; rw [e2, h]
  have e4 : ∀ x, secZ m x = secZ l x := fun x => by unfold secZ; rw [e2, h]
  have e5 : ∀ o, stO m a o = stO l a o := fun o => by unfold stO; simp only [e1]
  have e6 : ∀ o, canGo m S lim a o = canGo l S lim a o := fun o => by unfold canGo; rw [e5, e4, e3, sumL_congr h]
  refine ⟨fun i s hs => ?_, by rw [← e6]; exact ho.stop⟩
  have := ho.step i s hs
  rw [e6, e5, e3] at this
  exact this
theorem tmod_in {a n : Int} (h0 : 0 ≤ a) (hn : 0 < n) : 0 ≤ a.tmod n ∧ a.tmod n < n := ⟨Int.tmod_nonneg _ h0, Int.tmod_lt_of_pos _ hn⟩
theorem grows_round {l m : T_api_Layout} (hs : Sm l) {R : List T_api_Route} (hR : ∀ r ∈ R, RtOK l r) (a2 x4 : Int) (x5 : List T_api_Signal) (x6 : T_api_Signal) (j7 : Nat) (x8 : T_api_Signal)
    (hm : m = T_api_Layout.mk l.Name l.Sections l.Elements l.Joints (x5.set j7 (T_api_Signal.mk x8.Name x8.At (min (w64 (x6.Overlap + (w64 a2))) 1000000))) l.Balises)
    (hex : ∀ r : T_api_Route, RtOK l r → (exitS m r).2 = (exitS l r).2 ∧ (exitS m r).1.At = (exitS l r).1.At ∧ (exitS l r).1.Overlap ≤ (exitS m r).1.Overlap ∧ (r.Exit ≠ x4 → (exitS m r).1.Overlap = (exitS l r).1.Overlap))
    (i : Nat) (hi : i < R.length) : d_law13_OverlapGrows_0 l a2 x4 x5 x6 j7 x8 (R, 0) (i : Int) = some (.inl (w64 ((i : Int) + 1))) := by
  have : Is (d_law13_OverlapGrows_0 l a2 x4 x5 x6 j7 x8 (R, 0) (i : Int)) fun v => v = .inl (w64 ((i : Int) + 1)) := by
    unfold d_law13_OverlapGrows_0
    have hg := List.getElem?_eq_getElem hi
    have hr := hR _ (List.mem_of_getElem? hg)
    have hgx := ixO_nat hg
    rw [show (decide ((i : Int) < ((R.length : Nat) : Int)) && decide ((0 : Int) = 0)) = true by rw [decide_eq_true (by omega)]; rfl, cond_true]
    rw [← hm]
    simp only [hgx, Option.bind_some]
    generalize R[i] = r at hr
    obtain ⟨h1, h2, h3, h4⟩ := hex r hr
    have hmj : m.Joints = l.Joints := by rw [hm]
    have hme : m.Elements = l.Elements := by rw [hm]
    refine (hr.find hs.jo).bind fun r1 hr1 => ?_
    obtain ⟨o, rfl, ho1, ho2, ho3⟩ := hr1
    refine (hr.find (m := m) (by rw [hmj]; exact hs.jo)).bind fun r2 hr2 => ?_
    obtain ⟨o', rfl, ho1', ho2', ho3'⟩ := hr2
    have hbeg : begS m r = begS l r := by unfold begS; rw [h2]; unfold joinS; rw [hmj]
    have key : o.length ≤ o'.length ∧ o'.take o.length = o ∧ (r.Exit ≠ x4 → o = o') := by
      cases hb : (exitS l r).2 with
      | false =>
        have e1 := ho2 hb
        have e2 := ho2' (by rw [h1, hb])
        subst e1; subst e2
        exact ⟨Nat.le_refl _, rfl, fun _ => rfl⟩
      | true =>
        have c1 := ho3 hb
        have c2 := (ho3' (by rw [h1, hb])).congr hme hmj
        rw [hbeg] at c2
        obtain ⟨g1, g2⟩ := c1.grows c2 h3
        refine ⟨g1, g2, fun hne => ?_⟩
        have : limS m r = limS l r := h4 hne
        rw [this] at c2
        exact c1.one c2
    obtain ⟨k1, k2, k3⟩ := key
    show Is ((bif decide (((o'.length : Nat) : Int) < ((o.length : Nat) : Int)) then some true else ((slO o' none (some ((o.length : Nat) : Int)) none).bind fun x36 => (d_ref12_SameSteps x36 o).bind fun r37 => some (!r37)) : Option Bool).bind _) _
    have hsame : d_ref12_SameSteps o o = some true := by
      unfold d_ref12_SameSteps
      rw [SameSteps_refl o (by omega)]; rfl
    rw [decide_eq_false (by omega), cond_false, slO_hi k1, Option.bind_some, k2, hsame]
    show Is ((bif false then some true else ((bif !(decide (r.Exit = x4)) then some (decide (((o.length : Nat) : Int) < ((o'.length : Nat) : Int))) else some false : Option Bool).bind fun b40 => some b40) : Option Bool).bind _) _
    by_cases he : r.Exit = x4
    · rw [decide_eq_true he]; exact Is.val rfl
    · rw [decide_eq_false he, ← k3 he]
      simp only [Bool.not_false, cond_true, cond_false, Option.bind_some]
      rw [decide_eq_false (by omega)]
      exact Is.val rfl
  obtain ⟨b, h1, rfl⟩ := this
  exact h1
theorem overlapGrows_law {l : T_api_Layout} (h : Sm l) {a1 a2 : Int} (h1 : 0 ≤ a1 ∧ a1 ≤ 255) (h2 : 0 ≤ a2 ∧ a2 ≤ 65535) : d_law13_OverlapGrows l a1 a2 = some true := by
  have : Is (d_law13_OverlapGrows l a1 a2) fun b => b = true := by
    unfold d_law13_OverlapGrows
    obtain ⟨g, g1, g2⟩ := good_ok h
    rw [g1, Option.bind_some, alive13]
    cases g with
    | false => exact Is.val rfl
    | true =>
      have hl := g2 rfl
      have hsg := hl.counts.2.2.2.2.1
      simp only [Bool.not_true, cond_false, Option.bind_some]
      refine Is.cond (fun _ => Is.val rfl) fun h0 => ?_
      have h0 := of_decide_eq_false h0
      have hw1 : w64 a1 = a1 := w64_of (by omega) (by omega)
      have hw2 : w64 a2 = a2 := w64_of (by omega) (by omega)
      have hrem : remO (w64 a1) ((l.Signals.length : Nat) : Int) = some (a1.tmod ((l.Signals.length : Nat) : Int)) := by unfold remO; rw [if_neg h0, hw1]
      obtain ⟨t1, t2⟩ := tmod_in (n := ((l.Signals.length : Nat) : Int)) h1.1 (by omega)
      rw [hrem, Option.bind_some]
      generalize a1.tmod ((l.Signals.length : Nat) : Int) = t at t1 t2
      refine (Is.app (by simp only [List.length_nil, sizeMax, Enc.b]; omega)).bind fun M hM => ?_
      rw [List.nil_append] at hM
      subst hM
      refine (Is.ix t1 t2).bind fun x hx => ?_
      obtain ⟨n, rfl⟩ : ∃ n : Nat, t = (n : Int) := ⟨t.toNat, by omega⟩
      simp only [Int.toNat_natCast] at hx
      have hn := lt_of_get hx
      rw [xixO_nat 0 (by rw [List.length_map]; exact hn), Option.bind_some, Nat.zero_add, xldO_eq (by rw [List.length_map]), hx, Option.bind_some, All_eq h, Option.bind_some, if_pos ((chk_ok l).2 hl)]
      have hov := hl.sig x (List.mem_of_getElem? hx)
      have hmin : min (w64 (x.Overlap + w64 a2)) 1000000 = min (x.Overlap + a2) 1000000 := by rw [hw2, w64_of (by omega) (by omega)]
      split
      · rw [loop_done (r := .inl ()) (by simp [d_law13_OverlapGrows_0])]; exact Is.val rfl
      · rename_i hlen
        refine Is.all (L := allS l) (fun _ _ => True) () (by omega) (fun i y hy hi hI => ?_) (by simp [d_law13_OverlapGrows_0]) (fun _ => Is.val rfl)
        rw [grows_round h (fun r hr => rtOK_of hr) a2 (n : Int) l.Signals x n x rfl (fun r hr => ?_) i hi]
        · exact Is.val ⟨rfl, trivial⟩
        · rcases hr.ex with he | ⟨he0, he1⟩
          · have d1 : ∀ m : T_api_Layout, exitS m r = (T_api_Signal.mk ByteArray.empty (T_api_End.mk 0 0) 0, false) := fun m => by
              unfold exitS
              rw [decide_eq_true (by omega), Bool.true_or, cond_true]
            rw [d1, d1]
            exact ⟨rfl, rfl, Int.le_refl _, fun _ => rfl⟩
          · have hy := List.getElem?_eq_getElem (l := l.Signals) (i := r.Exit.toNat) (by omega)
            have es := exitS_some he0 hy
            rw [es]
            by_cases hen : r.Exit.toNat = n
            · have hye : l.Signals[r.Exit.toNat] = x := Option.some.inj (hy.symm.trans (by rw [hen]; exact hx))
              rw [exitS_some (l := T_api_Layout.mk l.Name l.Sections l.Elements l.Joints _ l.Balises) he0 (by rw [hen]; exact List.getElem?_set_self hn)]
              rw [hye, hmin]
              refine ⟨rfl, rfl, ?_, fun hne => absurd (by omega) hne⟩
              show x.Overlap ≤ min (x.Overlap + a2) 1000000
              omega
            · rw [exitS_some (l := T_api_Layout.mk l.Name l.Sections l.Elements l.Joints _ l.Balises) he0 (by rw [List.getElem?_set_ne (Ne.symm hen)]; exact hy)]
              exact ⟨rfl, rfl, Int.le_refl _, fun _ => rfl⟩
  obtain ⟨b, h1, rfl⟩ := this
  exact h1
end PM
