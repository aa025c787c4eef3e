/-
  PLAIN, FLANK B: the ends beside a route; the settings, guards and gaps that are found.
-/
import Derived.Test.YtpiejhjhalnaaaaDoorFlankA
namespace PM
open Go Go.RowKit

/-! ### The ends beside a step -/
def besS (l : T_api_Layout) (s : T_api_Step) : List T_api_End :=
  bif (posS l s).2 then ((List.range (sidesS (kindF l s.El)).toNat).filter fun (i : Nat) => !decide ((i : Int) = s.In) && !decide ((i : Int) = s.Out)).map fun (i : Nat) => (⟨s.El, (i : Int)⟩ : T_api_End) else []
theorem sides_le (k : Int) : 0 ≤ sidesS k ∧ sidesS k ≤ 4 := by
  unfold sidesS; split
  · omega
  · split
    · omega
    · split <;> omega
theorem besS_len (l : T_api_Layout) (s : T_api_Step) : (besS l s).length ≤ 4 := by
  unfold besS
  cases (posS l s).2 with
  | false => simp
  | true =>
    have := sides_le (kindF l s.El)
    simp only [cond_true, List.length_map]
    exact Nat.le_trans (List.length_filter_le _ _) (by simp; omega)
theorem rail_Sides_is {k : Int} (h : k = 1 ∨ k = 2 ∨ k = 3) : d_rail_Sides k = some (sidesS k) := by
  rcases h with rfl | rfl | rfl <;> kernel_rfl
theorem needS_kind {k a b : Int} (h : (needS k a b).2 = true) : k = 1 ∨ k = 2 ∨ k = 3 := by
  unfold needS at h
  cases hf : tab_rail_passages.find? (fun x => decide (x.kind_ = k) && decide (x.in_ = a) && decide (x.out_ = b)) with
  | none => rw [hf] at h; cases h
  | some y =>
    have h1 := List.find?_some hf
    simp only [Bool.and_eq_true, decide_eq_true_eq] at h1
    have h2 : ∀ y ∈ tab_rail_passages, y.kind_ = 1 ∨ y.kind_ = 2 ∨ y.kind_ = 3 := by decide
    have := h2 y (List.mem_of_find?_eq_some hf)
    omega
theorem flank_beside_eq (l : T_api_Layout) (s : T_api_Step) : d_flank_beside l s = some (besS l s) := by
  unfold d_flank_beside besS
  simp only [condSo, Option.bind_some, Bool.cond_true_left]
  have e : (decide (s.El < 0) || decide (((l.Elements.length : Nat) : Int) ≤ s.El)) = !hasEl l s.El := by
    unfold hasEl; rw [Bool.eq_iff_iff]; simp
  rw [e]
  cases h : hasEl l s.El with
  | false => simp [posS, h]
  | true =>
    obtain ⟨x, h1, h2⟩ := hasEl_get h
    have hk : kindF l s.El = x.Kind := by simp [kindF, h2]
    have hp : posS l s = needS x.Kind s.In s.Out := by simp [posS, h, h2]
    simp only [Bool.not_true, cond_false, h1, Option.bind_some, d_rail_Need_eq, hp, hk]
    cases hn : (needS x.Kind s.In s.Out).2 with
    | false => simp
    | true =>
      have h4 := sides_le x.Kind
      simp only [Bool.not_true, cond_false, cond_true, rail_Sides_is (needS_kind hn), Option.bind_some]
      obtain ⟨m, hm⟩ : ∃ m : Nat, sidesS x.Kind = (m : Int) := ⟨(sidesS x.Kind).toNat, by omega⟩
      rw [hm]
      simp only [Int.toNat_natCast]
      have : Is (loopO (d_flank_beside_0 s (m : Int)) (0, ([] : List T_api_End))) fun o => o = .inl (((List.range m).filter fun (i : Nat) => !decide ((i : Int) = s.In) && !decide ((i : Int) = s.Out)).map fun (i : Nat) => (⟨s.El, (i : Int)⟩ : T_api_End)) := by
        refine Is.loop (mk := fun (i : Nat) (o : List T_api_End) => ((i : Int), o)) m (fun i o => o = ((List.range i).filter fun (i : Nat) => !decide ((i : Int) = s.In) && !decide ((i : Int) = s.Out)).map fun (i : Nat) => (⟨s.El, (i : Int)⟩ : T_api_End)) [] (by simp) ?_ ?_
        · rintro i o hi rfl
          unfold d_flank_beside_0
          have e0 : decide ((i : Int) < ((m : Nat) : Int)) = true := decide_eq_true (by omega)
          simp only [e0, cond_true]
          refine Is.onInl (θ := fun o => o = .inl (((List.range (i + 1)).filter fun (i : Nat) => !decide ((i : Int) = s.In) && !decide ((i : Int) = s.Out)).map fun (i : Nat) => (⟨s.El, (i : Int)⟩ : T_api_End))) ?_ (fun v hv => ?_) (fun b hb => by cases hb)
          · rw [List.range_succ, List.filter_append, List.map_append]
            refine Is.cond (fun hc => ?_) (fun hc => ?_)
            · have hlen : (((List.range i).filter fun (i : Nat) => !decide ((i : Int) = s.In) && !decide ((i : Int) = s.Out)).map fun (i : Nat) => (⟨s.El, (i : Int)⟩ : T_api_End)).length ≤ 4 := by
                rw [List.length_map]; exact Nat.le_trans (List.length_filter_le _ _) (by simp; omega)
              refine Is.bind (Is.app (by simp only [List.length_cons, List.length_nil, sizeMax, Enc.b]; omega)) fun M hM => ?_
              subst hM
              exact Is.val (by simp [hc])
            · exact Is.val (by simp [hc])
          · cases hv
            exact Is.val ⟨_, by rw [w64n (by omega)], rfl⟩
        · rintro o rfl
          unfold d_flank_beside_0
          have e0 : decide (((m : Nat) : Int) < ((m : Nat) : Int)) = false := decide_eq_false (by omega)
          simp only [e0, cond_false]
          exact Is.val rfl
      obtain ⟨o, q1, rfl⟩ := this
      simp [q1, onInl, onOut]
theorem ref14_Beside_eq (l : T_api_Layout) (s : T_api_Step) (hkk : ∀ x, l.Elements[s.El.toNat]? = some x → x.Kind = 1 ∨ x.Kind = 2 ∨ x.Kind = 3) : d_ref14_Beside l s = some (besS l s) := by
  unfold d_ref14_Beside besS
  simp only [condSo, Option.bind_some, Bool.cond_true_left]
  have e : (decide (s.El < 0) || decide (((l.Elements.length : Nat) : Int) ≤ s.El)) = !hasEl l s.El := by
    unfold hasEl; rw [Bool.eq_iff_iff]; simp
  rw [e]
  cases h : hasEl l s.El with
  | false => simp [posS, h]
  | true =>
    obtain ⟨x, h1, h2⟩ := hasEl_get h
    have hk : kindF l s.El = x.Kind := by simp [kindF, h2]
    have hp : posS l s = needS x.Kind s.In s.Out := by simp [posS, h, h2]
    simp only [Bool.not_true, cond_false, h1, Option.bind_some, d_ref06_Need_eq, hp, hk]
    have h4 := sides_le x.Kind
    obtain ⟨m, hm⟩ : ∃ m : Nat, sidesS x.Kind = (m : Int) := ⟨(sidesS x.Kind).toNat, by omega⟩
    rw [hm]
    simp only [Int.toNat_natCast]
    have : Is (loopO (d_ref14_Beside_0 s x (needS x.Kind s.In s.Out)) (0, ([] : List T_api_End))) fun o => o = .inl (bif (needS x.Kind s.In s.Out).2 then (((List.range m).filter fun (i : Nat) => !decide ((i : Int) = s.In) && !decide ((i : Int) = s.Out)).map fun (i : Nat) => (⟨s.El, (i : Int)⟩ : T_api_End)) else []) := by
      refine Is.loop (mk := fun (i : Nat) (o : List T_api_End) => ((i : Int), o)) m (fun i o => o = bif (needS x.Kind s.In s.Out).2 then (((List.range i).filter fun (i : Nat) => !decide ((i : Int) = s.In) && !decide ((i : Int) = s.Out)).map fun (i : Nat) => (⟨s.El, (i : Int)⟩ : T_api_End)) else []) [] (by cases (needS x.Kind s.In s.Out).2 <;> simp) ?_ ?_
      · rintro i o hi rfl
        unfold d_ref14_Beside_0
        have e0 : decide ((i : Int) < ((m : Nat) : Int)) = true := decide_eq_true (by omega)
        simp only [ref06_Sides_eq, hm, Option.bind_some, e0, cond_true]
        refine Is.onInl (θ := fun o => o = .inl (bif (needS x.Kind s.In s.Out).2 then (((List.range (i + 1)).filter fun (i : Nat) => !decide ((i : Int) = s.In) && !decide ((i : Int) = s.Out)).map fun (i : Nat) => (⟨s.El, (i : Int)⟩ : T_api_End)) else [])) ?_ (fun v hv => ?_) (fun b hb => by cases hb)
        · cases hn : (needS x.Kind s.In s.Out).2 with
          | false => simp only [Bool.false_and, cond_false]; exact Is.val rfl
          | true =>
            simp only [Bool.true_and, cond_true]
            rw [List.range_succ, List.filter_append, List.map_append]
            refine Is.cond (fun hc => ?_) (fun hc => ?_)
            · have hlen : (((List.range i).filter fun (i : Nat) => !decide ((i : Int) = s.In) && !decide ((i : Int) = s.Out)).map fun (i : Nat) => (⟨s.El, (i : Int)⟩ : T_api_End)).length ≤ 4 := by
                rw [List.length_map]; exact Nat.le_trans (List.length_filter_le _ _) (by simp; omega)
              refine Is.bind (Is.app (by simp only [List.length_cons, List.length_nil, sizeMax, Enc.b]; omega)) fun M hM => ?_
              subst hM
              exact Is.val (by simp [hc])
            · exact Is.val (by simp [hc])
        · cases hv
          exact Is.val ⟨_, by rw [w64n (by omega)], rfl⟩
      · rintro o rfl
        unfold d_ref14_Beside_0
        have e0 : decide (((m : Nat) : Int) < ((m : Nat) : Int)) = false := decide_eq_false (by omega)
        simp only [ref06_Sides_eq, hm, Option.bind_some, e0, cond_false]
        exact Is.val rfl
    obtain ⟨o, q1, rfl⟩ := this
    simp [q1, onInl, onOut]
def endsS (l : T_api_Layout) (L : List T_api_Step) : List T_api_End := L.flatMap (besS l)
theorem endsS_append (l : T_api_Layout) (A B : List T_api_Step) : endsS l (A ++ B) = endsS l A ++ endsS l B := by simp [endsS]
theorem endsS_len (l : T_api_Layout) : ∀ L : List T_api_Step, (endsS l L).length ≤ 4 * L.length
  | [] => by simp [endsS]
  | s :: r => by
    have h1 := besS_len l s
    have h2 := endsS_len l r
    simp only [endsS, List.flatMap_cons, List.length_append, List.length_cons] at h2 ⊢; omega
theorem kinds_ok {l : T_api_Layout} (hl : OkL l) (s : T_api_Step) (x : T_api_Element) (h : l.Elements[s.El.toNat]? = some x) : x.Kind = 1 ∨ x.Kind = 2 ∨ x.Kind = 3 := by
  have := (hl.elem.1 x (List.mem_of_getElem? h)).1; omega
theorem ref14_Sides_eq {l : T_api_Layout} (hl : OkL l) {r : T_api_Route} (h : FewF r) : d_ref14_Sides l r = some (endsS l (r.Path ++ r.Over)) := by
  have hp := h.path
  have ho := h.over
  have h1 : Is (loopO (d_ref14_Sides_0 l r) (0, ([] : List T_api_End))) fun o => o = .inl (endsS l r.Path) := by
    refine Is.loop (mk := fun (i : Nat) (o : List T_api_End) => ((i : Int), o)) r.Path.length (fun i o => o = endsS l (r.Path.take i)) [] (by simp [endsS]) ?_ ?_
    · rintro i o hi rfl
      unfold d_ref14_Sides_0
      obtain ⟨s, hs⟩ : ∃ y, r.Path[i]? = some y := ⟨_, List.getElem?_eq_getElem hi⟩
      have e0 : decide ((i : Int) < ((r.Path.length : Nat) : Int)) = true := decide_eq_true (by omega)
      have hlen := endsS_len l (r.Path.take i)
      have hb := besS_len l s
      rw [List.length_take] at hlen
      simp only [ixO_nat hs, e0, cond_true, Option.bind_some, ref14_Beside_eq l s (kinds_ok hl s)]
      refine Is.bind (Is.app (by simp only [sizeMax, Enc.b]; omega)) fun M hM => ?_
      subst hM
      refine Is.val ⟨_, by rw [w64n (by omega)], ?_⟩
      rw [take_snoc hs, endsS_append]; simp [endsS]
    · rintro o rfl
      unfold d_ref14_Sides_0
      have e0 : decide (((r.Path.length : Nat) : Int) < ((r.Path.length : Nat) : Int)) = false := decide_eq_false (by omega)
      simp only [e0, cond_false]
      exact Is.val (by rw [List.take_length])
  have h2 : Is (loopO (d_ref14_Sides_1 l r) (endsS l r.Path, 0)) fun o => o = .inl (endsS l r.Path ++ endsS l r.Over) := by
    have hpl := endsS_len l r.Path
    refine Is.loop (mk := fun (i : Nat) (o : List T_api_End) => (o, (i : Int))) r.Over.length (fun i o => o = endsS l r.Path ++ endsS l (r.Over.take i)) (endsS l r.Path) (by simp [endsS]) ?_ ?_
    · rintro i o hi rfl
      unfold d_ref14_Sides_1
      obtain ⟨s, hs⟩ : ∃ y, r.Over[i]? = some y := ⟨_, List.getElem?_eq_getElem hi⟩
      have e0 : decide ((i : Int) < ((r.Over.length : Nat) : Int)) = true := decide_eq_true (by omega)
      have hlen := endsS_len l (r.Over.take i)
      have hb := besS_len l s
      rw [List.length_take] at hlen
      simp only [ixO_nat hs, e0, cond_true, Option.bind_some, ref14_Beside_eq l s (kinds_ok hl s)]
      refine Is.bind (Is.app (by simp only [sizeMax, Enc.b, List.length_append]; omega)) fun M hM => ?_
      subst hM
      refine Is.val ⟨_, by rw [w64n (by omega)], ?_⟩
      rw [take_snoc hs, endsS_append, List.append_assoc]; simp [endsS]
    · rintro o rfl
      unfold d_ref14_Sides_1
      have e0 : decide (((r.Over.length : Nat) : Int) < ((r.Over.length : Nat) : Int)) = false := decide_eq_false (by omega)
      simp only [e0, cond_false]
      exact Is.val (by rw [List.take_length])
  obtain ⟨o1, q1, rfl⟩ := h1
  obtain ⟨o2, q2, rfl⟩ := h2
  unfold d_ref14_Sides
  rw [q1]
  simp only [onInl, onOut, Option.bind_some, q2, endsS_append]
theorem HasEnd_eq (L : List T_api_End) (e : T_api_End) (h : L.length ≤ 1048576) : d_ref14_HasEnd L e = some (decide (e ∈ L)) := by
  have : Is (d_ref14_HasEnd L e) fun b => b = decide (e ∈ L) := by
    unfold d_ref14_HasEnd
    refine Is.all (L := L) (fun _ x => ¬ x = e) () (by omega) (fun i x hx hi hI => ?_) ?_ (fun hn => Is.val ?_)
    · unfold d_ref14_HasEnd_0
      refine Is.inb hi (Is.at hx ?_)
      refine Is.ite (eqEnd_iff _ _) (fun hc => Is.val ?_) (fun hc => Is.val ⟨rfl, hc⟩)
      exact (decide_eq_true (hc ▸ List.mem_of_getElem? hx : e ∈ L)).symm
    · simp [d_ref14_HasEnd_0]
    · refine Eq.symm (decide_eq_false ?_)
      intro hx
      obtain ⟨i, hi⟩ := List.getElem?_of_mem hx
      exact hn i e hi rfl
  obtain ⟨b, h1, h2⟩ := this
  rw [h1, h2]
/-! ### All ends -/
structure FG where
  flank : List T_api_Setting
  guards : List Int
  gaps : List T_api_End
def fstep (x : FG) (e : T_api_End) (s : T_api_Setting × Int × Bool) : FG :=
  if s.2.2 = false then ⟨x.flank, x.guards, x.gaps ++ [e]⟩ else
  if 0 ≤ s.2.1 then ⟨x.flank, x.guards ++ [s.2.1], x.gaps⟩ else
  if s.1 = z0 then x else ⟨x.flank ++ [s.1], x.guards, x.gaps⟩
def needF (N : T_api_Setting → Bool) (x : FG) (s : T_api_Setting) : Bool := N s || hasB x.flank s
def ffold (l : T_api_Layout) (P : Int → Bool) (N : T_api_Setting → Bool) : List T_api_End → FG → FG
  | [], x => x
  | e :: r, x => ffold l P N r (fstep x e (srch l P (needF N x) 4 e))
theorem ffold_append (l : T_api_Layout) (P : Int → Bool) (N : T_api_Setting → Bool) : ∀ (A B : List T_api_End) (x : FG), ffold l P N (A ++ B) x = ffold l P N B (ffold l P N A x)
  | [], _, _ => rfl
  | e :: A, B, x => ffold_append l P N A B _
structure FLen (x : FG) (n : Nat) : Prop where
  flank : x.flank.length ≤ n
  guards : x.guards.length ≤ n
  gaps : x.gaps.length ≤ n
theorem fstep_len {x : FG} {n : Nat} (h : FLen x n) (e : T_api_End) (s : T_api_Setting × Int × Bool) : FLen (fstep x e s) (n + 1) := by
  have h1 := h.flank
  have h2 := h.guards
  have h3 := h.gaps
  unfold fstep
  split
  · exact ⟨by simp only; omega, by simp only; omega, by simp; omega⟩
  · split
    · exact ⟨by simp only; omega, by simp; omega, by simp only; omega⟩
    · split
      · exact ⟨by omega, by omega, by omega⟩
      · exact ⟨by simp; omega, by simp only; omega, by simp only; omega⟩
theorem ffold_len (l : T_api_Layout) (P : Int → Bool) (N : T_api_Setting → Bool) : ∀ (A : List T_api_End) (x : FG) (n : Nat), FLen x n → FLen (ffold l P N A x) (n + A.length)
  | [], x, n, h => h
  | e :: A, x, n, h => by
    have := ffold_len l P N A _ (n + 1) (fstep_len h e (srch l P (needF N x) 4 e))
    rw [List.length_cons, show n + (A.length + 1) = n + 1 + A.length by omega]
    exact this
def pts0 (r : T_api_Route) (s : T_api_Setting) : Bool := hasB r.Points s || hasB r.OverPoints s
def fg0 : FG := ⟨[], [], []⟩
def allF (l : T_api_Layout) (r : T_api_Route) : FG := ffold l (passB r) (pts0 r) (endsS l (r.Path ++ r.Over)) fg0
def routeF (r : T_api_Route) (x : FG) : T_api_Route := ⟨r.Name, r.Entry, r.Exit, r.Path, r.Points, r.Sections, r.Approach, r.Length, r.Over, r.OverPoints, r.OverSections, x.flank, x.guards, x.gaps⟩
theorem routeF_few {r : T_api_Route} (h : FewF r) {x : FG} (hx : FLen x 1000) : FewF (routeF r x) := ⟨h.path, h.over, h.pts, h.ops, hx.flank, h.secs, h.osecs, hx.guards, hx.gaps⟩
theorem need_route (r : T_api_Route) (x : FG) : needB (routeF r x) = needF (pts0 r) x := rfl
section
variable {l : T_api_Layout} (hs : Sm l) (hl : OkL l) {r : T_api_Route} (hr : FewF r)
include hs hl hr
theorem find_inner (E : List T_api_End) (hE : E.length ≤ 4) (x : FG) (hx : FLen x 900) :
    Is (loopO (d_flank_Find_1 l r r.Path r.Points r.Sections r.Over r.OverPoints r.OverSections E) (0, x.gaps, x.flank, x.guards)) fun o => o = .inl ((ffold l (passB r) (pts0 r) E x).flank, (ffold l (passB r) (pts0 r) E x).guards, (ffold l (passB r) (pts0 r) E x).gaps) := by
  refine Is.loop (mk := fun (i : Nat) (y : FG) => ((i : Int), y.gaps, y.flank, y.guards)) E.length (fun i y => y = ffold l (passB r) (pts0 r) (E.take i) x) x (by simp [ffold]) ?_ ?_
  · rintro i y hi rfl
    obtain ⟨e, he⟩ : ∃ e, E[i]? = some e := ⟨_, List.getElem?_eq_getElem hi⟩
    have e0 : decide ((i : Int) < ((E.length : Nat) : Int)) = true := decide_eq_true (by omega)
    have hy := ffold_len l (passB r) (pts0 r) (E.take i) x 900 hx
    rw [take_snoc he, ffold_append]
    generalize ffold l (passB r) (pts0 r) (E.take i) x = y at hy ⊢
    have hlen : (E.take i).length ≤ 4 := by rw [List.length_take]; omega
    have hy1 : FLen y 904 := ⟨by have := hy.flank; omega, by have := hy.guards; omega, by have := hy.gaps; omega⟩
    have hS := flank_Search_eq hs hl (routeF_few hr (x := y) ⟨by have := hy1.flank; omega, by have := hy1.guards; omega, by have := hy1.gaps; omega⟩) e
    rw [need_route] at hS
    simp only [routeF] at hS
    unfold d_flank_Find_1
    simp only [e0, cond_true, ixO_nat he, Option.bind_some, hS]
    show Is _ _
    have hpass : passB (routeF r y) = passB r := rfl
    simp only [routeF] at hpass
    rw [hpass]
    simp only [ffold]
    generalize srch l (passB r) (needF (pts0 r) y) 4 e = t
    have g1 := hy1.flank
    have g2 := hy1.guards
    have g3 := hy1.gaps
    refine Is.onInl (θ := fun o => o = .inl ((fstep y e t).flank, (fstep y e t).guards, (fstep y e t).gaps)) ?_ (fun v hv => ?_) (fun b hb => by cases hb)
    · unfold fstep
      cases h1 : t.2.2 with
      | false =>
        simp only [Bool.not_false, cond_true, if_true]
        refine Is.bind (Is.app (by simp only [List.length_cons, List.length_nil, sizeMax, Enc.b]; omega)) fun M hM => ?_
        subst hM; exact Is.val rfl
      | true =>
        simp only [Bool.not_true, cond_false, Bool.true_eq_false, if_false]
        by_cases h2 : 0 ≤ t.2.1
        · simp only [h2, decide_true, cond_true, if_true]
          refine Is.bind (Is.app (by simp only [List.length_cons, List.length_nil, sizeMax, Enc.b]; omega)) fun M hM => ?_
          subst hM; exact Is.val rfl
        · simp only [h2, decide_false, cond_false, if_false]
          by_cases h3 : t.1 = z0
          · have : eq_T_api_Setting t.1 ⟨0, 0⟩ = true := (eqSet_iff _ _).2 h3
            simp only [this, Bool.not_true, cond_false, h3, if_true]
            exact Is.val rfl
          · have : eq_T_api_Setting t.1 ⟨0, 0⟩ = false := by
              cases hc : eq_T_api_Setting t.1 ⟨0, 0⟩ with
              | false => rfl
              | true => exact absurd ((eqSet_iff _ _).1 hc) h3
            simp only [this, Bool.not_false, cond_true, h3, if_false]
            refine Is.bind (Is.app (by simp only [List.length_cons, List.length_nil, sizeMax, Enc.b]; omega)) fun M hM => ?_
            subst hM; exact Is.val rfl
    · cases hv
      exact Is.val ⟨fstep y e t, by rw [w64n (by omega)], rfl⟩
  · rintro y rfl
    unfold d_flank_Find_1
    have e0 : decide (((E.length : Nat) : Int) < ((E.length : Nat) : Int)) = false := decide_eq_false (by omega)
    simp only [e0, cond_false]
    exact Is.val (by rw [List.take_length])
theorem find_outer (C : List T_api_Step) (hC : C.length ≤ 200) :
    Is (loopO (d_flank_Find_0 l r r.Path r.Points r.Sections r.Over r.OverPoints r.OverSections C) (0, ([] : List T_api_End), ([] : List T_api_Setting), ([] : List Int))) fun o => o = .inl ((ffold l (passB r) (pts0 r) (endsS l C) fg0).flank, (ffold l (passB r) (pts0 r) (endsS l C) fg0).guards, (ffold l (passB r) (pts0 r) (endsS l C) fg0).gaps) := by
  refine Is.loop (mk := fun (i : Nat) (y : FG) => ((i : Int), y.gaps, y.flank, y.guards)) C.length (fun i y => y = ffold l (passB r) (pts0 r) (endsS l (C.take i)) fg0) fg0 (by simp [ffold, endsS]) ?_ ?_
  · rintro i y hi rfl
    obtain ⟨s, hs'⟩ : ∃ e, C[i]? = some e := ⟨_, List.getElem?_eq_getElem hi⟩
    have e0 : decide ((i : Int) < ((C.length : Nat) : Int)) = true := decide_eq_true (by omega)
    have hy := ffold_len l (passB r) (pts0 r) (endsS l (C.take i)) fg0 0 ⟨by simp [fg0], by simp [fg0], by simp [fg0]⟩
    have hel := endsS_len l (C.take i)
    rw [List.length_take] at hel
    rw [take_snoc hs', endsS_append, ffold_append]
    generalize ffold l (passB r) (pts0 r) (endsS l (C.take i)) fg0 = y at hy ⊢
    have hy1 : FLen y 900 := ⟨by have := hy.flank; omega, by have := hy.guards; omega, by have := hy.gaps; omega⟩
    obtain ⟨o, q1, rfl⟩ := find_inner hs hl hr (besS l s) (besS_len l s) y hy1
    unfold d_flank_Find_0
    simp only [e0, cond_true, ixO_nat hs', Option.bind_some, flank_beside_eq, q1, onInl, onOut]
    have : endsS l [s] = besS l s := by simp [endsS]
    rw [this]
    exact Is.val ⟨_, by rw [w64n (by omega)], rfl⟩
  · rintro y rfl
    unfold d_flank_Find_0
    have e0 : decide (((C.length : Nat) : Int) < ((C.length : Nat) : Int)) = false := decide_eq_false (by omega)
    simp only [e0, cond_false]
    exact Is.val (by rw [List.take_length])
end
end PM
