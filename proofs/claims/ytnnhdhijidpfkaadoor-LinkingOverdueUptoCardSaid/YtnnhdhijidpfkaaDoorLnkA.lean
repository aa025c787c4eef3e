/-
  PLAIN, LINKING A: linked balises: Valid, Overdue, equal lists.
-/
import Derived.Test.YtnnhdhijidpfkaaDoorDen
namespace PM
open Go Go.RowKit

/-! ### Loops -/
theorem LoopN.congr {σ ρ : Type} {f g : σ → Option (σ ⊕ ρ)} {I : σ → Prop} (h : ∀ s, I s → f s = g s ∧ ∀ t, f s = some (.inl t) → I t) {n : Nat} {s : σ} {r : ρ} (hl : LoopN f n s r) (hI : I s) : LoopN g n s r := by
  induction hl with
  | done e => exact .done ((h _ hI).1 ▸ e)
  | more e _ ih => exact .more ((h _ hI).1 ▸ e) (ih ((h _ hI).2 _ e))
theorem loopO_congr {σ ρ : Type} {f g : σ → Option (σ ⊕ ρ)} {I : σ → Prop} (h : ∀ s, I s → f s = g s ∧ ∀ t, f s = some (.inl t) → I t) {s : σ} (hI : I s) : loopO f s = loopO g s := by
  apply Option.ext
  intro r
  rw [loopO_some, loopO_some]
  refine ⟨fun ⟨n, hn⟩ => ⟨n, hn.congr h hI⟩, fun ⟨n, hn⟩ => ⟨n, hn.congr (f := g) (g := f) (fun s hs => ⟨(h s hs).1.symm, fun t ht => (h s hs).2 t ((h s hs).1.trans ht)⟩) hI⟩⟩
theorem Is.wf {S ρ : Type} {step : S → Option (S ⊕ ρ)} (I : S → Prop) (μ : S → Nat) {θ : ρ → Prop} (hs : ∀ s, I s → Is (step s) fun o => match o with | .inl t => I t ∧ μ t < μ s | .inr r => θ r) :
    ∀ (n : Nat) (s : S), μ s ≤ n → I s → Is (loopO step s) θ := by
  intro n
  induction n with
  | zero =>
    intro s hn hI
    obtain ⟨o, h1, h2⟩ := hs s hI
    cases o with
    | inl t => exact absurd h2.2 (by omega)
    | inr r => exact ⟨r, loop_done h1, h2⟩
  | succ n ih =>
    intro s hn hI
    obtain ⟨o, h1, h2⟩ := hs s hI
    cases o with
    | inl t =>
      obtain ⟨r, h3, h4⟩ := ih t (by omega) h2.1
      exact ⟨r, by rw [loop_more h1]; exact h3, h4⟩
    | inr r => exact ⟨r, loop_done h1, h2⟩
theorem prev_is {α : Type} {L : List α} {i : Nat} (hi : i < L.length) (hL : L.length ≤ 1048576) {f : α → Bool} {q : α → Prop} (hf : ∀ y, f y = true ↔ ¬ q y) :
    Is (bif decide (0 < (i : Int)) then (ixO L (w64 ((i : Int) - 1))).bind fun y => some (f y) else some false) fun b => b = true ↔ ¬ ∀ y, 0 < i → L[i - 1]? = some y → q y := by
  by_cases h0 : 0 < i
  · have hg : L[i - 1]? = some L[i - 1] := List.getElem?_eq_getElem (by omega)
    rw [decide_eq_true (by omega), cond_true, w64_of (by omega) (by omega), show (i : Int) - 1 = ((i - 1 : Nat) : Int) by omega, ixO_nat hg]
    simp only [Option.bind_some]
    refine Is.val ?_
    rw [hf]
    exact ⟨fun h q => h (q _ h0 hg), fun h q => h fun y _ hy => by rw [hg] at hy; cases hy; exact q⟩
  · rw [decide_eq_false (by omega), cond_false]
    exact Is.val (iff_of_false Bool.false_ne_true fun h => h fun y h1 => absurd h1 h0)
theorem cond_some' {α : Type} {b : Bool} {x y : α} : (bif b then some x else some y) = some (bif b then x else y) := by cases b <;> rfl

theorem bindId {x : Option Bool} : (x.bind fun r => some r) = x := by cases x <;> rfl
theorem eqLoop {α : Type} {eqf : α → α → Bool} (heq : ∀ x y, eqf x y = true ↔ x = y) {L M : List α} (h : L.length ≤ 1048576) {step : Int → Option (Int ⊕ (Unit ⊕ Bool))}
    (hs : ∀ x3, step x3 = bif decide (x3 < ((L.length : Nat) : Int)) then ((ixO L x3).bind fun x6 => (ixO M x3).bind fun x7 => bif (!(eqf x6 x7)) then some (.inr (.inr false)) else some (.inl (w64 (x3 + 1)))) else some (.inr (.inl ()))) :
    Is (bif (!(decide (((L.length : Nat) : Int) = ((M.length : Nat) : Int)))) then some false else onInl (α := Unit) (β := Bool) (loopO step 0) fun _ => some true) fun b => b = true ↔ L = M := by
  refine Is.ifn (p := L.length = M.length) (by rw [decide_eq_true_iff]; omega) (fun hl => Is.val (iff_of_false Bool.false_ne_true fun e => hl (congrArg _ e))) (fun hl => ?_)
  refine Is.all (L := L) (fun i x => M[i]? = some x) () (by omega) (fun i x hx hi _ => ?_) (by rw [hs]; simp) (fun hn => Is.val (iff_of_true rfl ?_))
  · rw [hs]
    have hg : M[i]? = some M[i] := List.getElem?_eq_getElem (by omega)
    refine Is.inb hi (Is.at hx (Is.at hg ?_))
    refine Is.ifn (heq _ _) (fun hb => Is.val (iff_of_false Bool.false_ne_true fun e => ?_)) (fun hb => Is.val ⟨rfl, by rw [hg, hb]⟩)
    subst e; rw [hg] at hx; cases hx; exact hb rfl
  · apply List.ext_getElem?
    intro i
    cases hx : L[i]? with
    | some x => exact (hn i x hx).symm
    | none => exact (List.getElem?_eq_none (by have := List.getElem?_eq_none_iff.1 hx; omega)).symm
theorem eqLinked (x y : T_api_Linked) : eq_T_api_Linked x y = true ↔ x = y := by cases x; cases y; simp [eq_T_api_Linked]
/-! ### Linked balises -/
def LinkP (l : List T_api_Linked) (i : Nat) (x : T_api_Linked) : Prop := (∀ y, 0 < i → l[i - 1]? = some y → y.At ≤ x.At) ∧ ∀ y ∈ l.take i, y.Id ≠ x.Id
def LVal (l : List T_api_Linked) : Prop := l.length ≤ 24 ∧ ∀ i x, l[i]? = some x → LinkP l i x
theorem linking_find_is {l : List T_api_Linked} (h : l.length ≤ 1048576) (id : Int) : Is (d_linking_find l 0 id) fun r => 0 ≤ r ↔ ∃ y ∈ l, y.Id = id := by
  unfold d_linking_find
  refine Is.all (L := l) (fun _ x => ¬ x.Id = id) () (by omega) (fun i x hx hi _ => ?_) (by simp [d_linking_find_0]) (fun hn => Is.val ?_)
  · unfold d_linking_find_0
    refine Is.inb hi (Is.at hx ?_)
    refine Is.ite (p := x.Id = id) dec_iff (fun hb => Is.val (iff_of_true (by omega) ⟨x, List.mem_of_getElem? hx, hb⟩)) (fun hb => Is.val ⟨rfl, hb⟩)
  · refine iff_of_false (by omega) fun ⟨y, hy, e⟩ => ?_
    exact mem_iff_get.1 hn y hy e
theorem linking_Valid_is (l : List T_api_Linked) : Is (d_linking_Valid l) fun b => b = true ↔ LVal l := by
  unfold d_linking_Valid
  refine Is.ite (p := 24 < l.length) (by rw [decide_eq_true_iff]; omega) (fun h => Is.val (iff_of_false Bool.false_ne_true fun q => absurd q.1 (by omega))) (fun h => ?_)
  refine Is.all (L := l) (fun i x => LinkP l i x) () (by omega) (fun i x hx hi _ => ?_) (by simp [d_linking_Valid_0]) (fun hn => Is.val (iff_of_true rfl ⟨by omega, hn⟩))
  unfold d_linking_Valid_0
  refine Is.inb hi (Is.at hx ?_)
  refine Is.bind (prev_is hi (by omega) (f := fun y => decide (x.At < y.At)) (q := fun y => y.At ≤ x.At) fun y => by simp) fun b hb => ?_
  refine Is.bind (Is.or (q := ∃ y ∈ l.take i, y.Id = x.Id) hb fun _ => ?_) fun c hc => ?_
  · refine Is.to (slO_hi (by omega)) ?_
    exact (linking_find_is (by simp; omega) x.Id).bind fun r hr => Is.dec hr
  · have e : (¬ (∀ y, 0 < i → l[i - 1]? = some y → y.At ≤ x.At) ∨ ∃ y ∈ l.take i, y.Id = x.Id) ↔ ¬ LinkP l i x := by
      unfold LinkP
      rw [Classical.not_and_iff_not_or_not]
      simp
    refine Is.ite (hc.trans e) (fun hn => Is.val (iff_of_false Bool.false_ne_true fun q => hn (q.2 i x hx))) (fun hn => Is.val ⟨rfl, Classical.not_not.1 hn⟩)
theorem ref32_Valid_is (l : List T_api_Linked) : Is (d_ref32_Valid l) fun b => b = true ↔ LVal l := by
  unfold d_ref32_Valid
  by_cases h : l.length ≤ 24
  · refine Is.all (L := l) (fun i x => LinkP l i x) () (by omega) (fun i x hx hi _ => ?_) (by simp [d_ref32_Valid_0]) (fun hn => Is.val (by rw [decide_eq_true_iff]; exact iff_of_true (by omega) ⟨h, hn⟩))
    unfold d_ref32_Valid_0
    have e1 : decide (((i : Nat) : Int) < ((l.length : Nat) : Int)) = true := decide_eq_true (by omega)
    have e2 : decide (((l.length : Nat) : Int) ≤ 24) = true := decide_eq_true (by omega)
    simp only [e1, e2, cond_true, Option.bind_some]
    refine Is.bind (φ := fun b => b = true ↔ ¬ ∀ y, 0 < i → l[i - 1]? = some y → y.At ≤ x.At) ?_ fun b hb => Is.ite hb (fun hc => Is.val (iff_of_false Bool.false_ne_true fun q => hc (q.2 i x hx).1)) (fun hc => ?_)
    · rw [ixO_nat hx]
      simp only [Option.bind_some]
      exact prev_is hi (by omega) (f := fun y => decide (x.At < y.At)) (q := fun y => y.At ≤ x.At) fun y => by simp
    · have hlt : (l.take i).length = i := by simp; omega
      refine Is.all (L := l.take i) (fun _ y => y.Id ≠ x.Id) () (by omega) (fun k y hy hk _ => ?_) (by simp [d_ref32_Valid_1, hlt]) (fun hn => Is.val ⟨rfl, Classical.not_not.1 hc, mem_iff_get.1 hn⟩)
      have hy' : l[k]? = some y := by rw [List.getElem?_take, if_pos (by omega)] at hy; exact hy
      unfold d_ref32_Valid_1
      rw [show decide ((k : Int) < (i : Int)) = true from decide_eq_true (by omega), cond_true, ixO_nat hy', ixO_nat hx]
      simp only [Option.bind_some]
      refine Is.ite (p := y.Id = x.Id) dec_iff (fun hb => Is.val (iff_of_false Bool.false_ne_true fun q => (q.2 i x hx).2 y (List.mem_of_getElem? hy) hb)) (fun hb => Is.val ⟨rfl, hb⟩)
  · have e1 : decide ((0 : Int) < ((l.length : Nat) : Int)) = true := decide_eq_true (by omega)
    have e2 : decide (((l.length : Nat) : Int) ≤ 24) = false := decide_eq_false (by omega)
    have : loopO (d_ref32_Valid_0 l) 0 = some (.inl ()) := loop_done (by simp [d_ref32_Valid_0, e1, e2])
    rw [this]
    simp only [onInl, onOut, Option.bind_some, e2]
    exact Is.val (iff_of_false Bool.false_ne_true fun q => h q.1)

theorem ref32_Same_is {p q : List T_api_Linked} (h : p.length ≤ 1048576) : Is (d_ref32_Same p q) fun b => b = true ↔ p = q := eqLoop eqLinked h fun _ => rfl
/-! ### The laws of Valid and Overdue -/
theorem law32_alive_eq : d_law32_alive = some true := by kernel_rfl
theorem linkingValid_law (a : List T_api_Linked) : d_law32_LinkingValid a = some true := by
  suffices Is (d_law32_LinkingValid a) fun r => r = true by obtain ⟨r, h, rfl⟩ := this; exact h
  unfold d_law32_LinkingValid
  rw [bindId]
  refine Is.cond (fun _ => Is.val rfl) fun _ => ?_
  obtain ⟨r1, e1, k1⟩ := linking_Valid_is a
  obtain ⟨r2, e2, k2⟩ := ref32_Valid_is a
  have : r2 = r1 := Bool.eq_iff_iff.2 (k2.trans k1.symm)
  subst this
  rw [e1, e2, law32_alive_eq]
  simp only [Option.bind_some, beq_self_eq_true, cond_true]
  exact Is.val rfl
/-- From place i on: the first balise that is not overdue. -/
theorem overdue_is {l : List T_api_Linked} (h : l.length ≤ 1048576) (e : T_api_Estimate) : ∀ (n i : Nat), l.length - i ≤ n → i ≤ l.length → Is (loopO (d_linking_Overdue_0 l e) (i : Int)) fun o => (∃ k : Nat, i ≤ k ∧ k ≤ l.length ∧ (o = .inr (k : Int) ∨ (o = .inl () ∧ k = l.length)) ∧ loopO (d_ref32_Overdue_0 l e) (i : Int) = some (.inl (k : Int)) ∧ (∀ x, l[k]? = some x → e.Min ≤ w64 (x.At + 500))) := by
  intro n
  induction n with
  | zero =>
    intro i hn hi
    have : i = l.length := by omega
    subst this
    have e1 : decide (((l.length : Nat) : Int) < ((l.length : Nat) : Int)) = false := decide_eq_false (by omega)
    rw [loop_done (r := .inl ()) (by simp only [d_linking_Overdue_0, e1, cond_false])]
    exact Is.val ⟨l.length, Nat.le_refl _, Nat.le_refl _, .inr ⟨rfl, rfl⟩, loop_done (by simp only [d_ref32_Overdue_0, e1, cond_false, Option.bind_some]), fun x hx => by rw [List.getElem?_eq_none (Nat.le_refl _)] at hx; cases hx⟩
  | succ n ih =>
    intro i hn hi
    by_cases hil : i < l.length
    · have hx : l[i]? = some l[i] := List.getElem?_eq_getElem hil
      have e1 : decide (((i : Nat) : Int) < ((l.length : Nat) : Int)) = true := decide_eq_true (by omega)
      by_cases hc : e.Min ≤ w64 (l[i].At + 500)
      · rw [loop_done (r := .inr (i : Int)) (by simp only [d_linking_Overdue_0, e1, cond_true, ixO_nat hx, Option.bind_some, decide_eq_true hc])]
        refine Is.val ⟨i, Nat.le_refl _, by omega, .inl rfl, loop_done ?_, fun x hx' => by rw [hx] at hx'; cases hx'; exact hc⟩
        simp only [d_ref32_Overdue_0, e1, cond_true, ixO_nat hx, Option.bind_some, decide_eq_false (show ¬ w64 (l[i].At + 500) < e.Min by omega), cond_false]
      · obtain ⟨o, ho, k, k1, k2, k3, k4, k5⟩ := ih (i + 1) (by omega) (by omega)
        have hw : w64 ((i : Int) + 1) = ((i + 1 : Nat) : Int) := w64n (by omega)
        refine ⟨o, ?_, k, by omega, k2, k3, ?_, k5⟩
        · rw [loop_more (s' := ((i + 1 : Nat) : Int)) (by simp only [d_linking_Overdue_0, e1, cond_true, ixO_nat hx, Option.bind_some, decide_eq_false hc, cond_false, hw])]
          exact ho
        · rw [loop_more (s' := ((i + 1 : Nat) : Int)) (by simp only [d_ref32_Overdue_0, e1, cond_true, ixO_nat hx, Option.bind_some, decide_eq_true (show w64 (l[i].At + 500) < e.Min by omega), hw])]
          exact k4
    · have : i = l.length := by omega
      subst this
      exact (ih l.length (by omega) (Nat.le_refl _))
theorem clamp_nat (a : Int) (n : Nat) : ∃ i : Nat, i ≤ n ∧ max 0 (min a (n : Int)) = (i : Int) := ⟨(max 0 (min a (n : Int))).toNat, by omega, by omega⟩
theorem overdue_both {l : List T_api_Linked} (h : l.length ≤ 1048576) (a : Int) (e : T_api_Estimate) : ∃ k : Nat, k ≤ l.length ∧ d_linking_Overdue l a e = some (k : Int) ∧ d_ref32_Overdue l a e = some (k : Int) ∧ d_linking_Overdue l (k : Int) e = some (k : Int) := by
  have main : ∀ i : Nat, i ≤ l.length → ∃ k : Nat, i ≤ k ∧ k ≤ l.length ∧ (∀ a, max 0 (min a ((l.length : Nat) : Int)) = (i : Int) → d_linking_Overdue l a e = some (k : Int) ∧ d_ref32_Overdue l a e = some (k : Int)) ∧ (∀ x, l[k]? = some x → e.Min ≤ w64 (x.At + 500)) := by
    intro i hi
    obtain ⟨o, ho, k, k1, k2, k3, k4, k5⟩ := overdue_is h e l.length i (by omega) hi
    refine ⟨k, k1, k2, fun a ha => ?_, k5⟩
    unfold d_linking_Overdue d_ref32_Overdue
    simp only [d_num_Clamp, d_ref32_clamped, Option.bind_some, ha, ho, k4]
    rcases k3 with rfl | ⟨rfl, rfl⟩ <;> exact ⟨rfl, rfl⟩
  obtain ⟨i, hi, hia⟩ := clamp_nat a l.length
  obtain ⟨k, k1, k2, k3, k4⟩ := main i hi
  refine ⟨k, k2, (k3 a hia).1, (k3 a hia).2, ?_⟩
  obtain ⟨k', q1, q2, q3, q4⟩ := main k k2
  have hk : max 0 (min (k : Int) ((l.length : Nat) : Int)) = (k : Int) := by omega
  rw [(q3 k hk).1]
  -- from a place that is not overdue, the place itself
  by_cases hkl : k < l.length
  · have hx : l[k]? = some l[k] := List.getElem?_eq_getElem hkl
    have := (q3 k hk).1
    unfold d_linking_Overdue at this
    simp only [d_num_Clamp, Option.bind_some, hk] at this
    rw [loop_done (r := .inr (k : Int)) (by simp only [d_linking_Overdue_0, decide_eq_true (show ((k : Nat) : Int) < ((l.length : Nat) : Int) by omega), cond_true, ixO_nat hx, Option.bind_some, decide_eq_true (k4 _ hx)])] at this
    exact this.symm
  · have : k' = k := by omega
    rw [this]
theorem linkingOverdue_law (a : List T_api_Linked) (b : Int) (e : T_api_Estimate) : d_law32_LinkingOverdue a b e = some true := by
  suffices Is (d_law32_LinkingOverdue a b e) fun r => r = true by obtain ⟨r, h, rfl⟩ := this; exact h
  unfold d_law32_LinkingOverdue
  refine Is.ite (p := (100 < a.length ∨ e.Min < -2147483648) ∨ 2147483648 < e.Min) (by simp only [Bool.or_eq_true, decide_eq_true_eq]; omega) (fun _ => by rw [law32_alive_eq]; exact Is.val rfl) fun hn => ?_
  refine Is.all (L := a) (fun _ _ => True) () (by omega) (fun i x hx hi _ => ?_) (by simp [d_law32_LinkingOverdue_0]) (fun _ => ?_)
  · unfold d_law32_LinkingOverdue_0
    refine Is.inb hi (Is.at hx ?_)
    rw [ixO_nat hx]
    simp only [Option.bind_some, cond_some', law32_alive_eq]
    cases (bif decide (x.At < -2147483648) then true else decide (2147483648 < x.At))
    · exact Is.val ⟨rfl, trivial⟩
    · exact Is.val rfl
  · obtain ⟨k, _, k1, k2, k3⟩ := overdue_both (l := a) (by omega) b e
    rw [k1, k2, law32_alive_eq]
    simp only [Option.bind_some, decide_true, cond_true, k3]
    exact Is.val rfl
end PM
