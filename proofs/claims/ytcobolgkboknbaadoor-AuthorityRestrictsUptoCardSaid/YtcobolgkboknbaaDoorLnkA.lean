/-
  PLAIN, LINKING A: linked balises: Valid, Overdue, equal lists.
-/
import Derived.Test.YtcobolgkboknbaaDoorDen
namespace PM
open Go Go.RowKit

theorem Is.wf {S ρ : Type} {step : S → Option (S ⊕ ρ)} (I : S → Prop) (μ : S → Nat) {θ : ρ → Prop} (hs : ∀ s, I s → Is (step s) fun o => match o with | .inl t => I t ∧ μ t < μ s | .inr r => θ r) :
    ∀ (n : Nat) (s : S), μ s ≤ n → I s → Is (loopO step s) θ := by
  intro n
  induction n with
  | zero =>
    intro s hn hI
    obtain ⟨o, h1, h2⟩ := hs s hI
    cases o with
    | inl t => exact absurd h2.2 (by omega)
    | inr r => exact ⟨r, loop_done h1, h2⟩
  | succ n ih =>
    intro s hn hI
    obtain ⟨o, h1, h2⟩ := hs s hI
    cases o with
    | inl t =>
      obtain ⟨r, h3, h4⟩ := ih t (by omega) h2.1
      exact ⟨r, by rw [loop_more h1]; exact h3, h4⟩
    | inr r => exact ⟨r, loop_done h1, h2⟩
theorem prev_is {α : Type} {L : List α} {i : Nat} (hi : i < L.length) (hL : L.length ≤ 1048576) {f : α → Bool} {q : α → Prop} (hf : ∀ y, f y = true ↔ ¬ q y) :
    Is (bif decide (0 < (i : Int)) then (ixO L (w64 ((i : Int) - 1))).bind fun y => some (f y) else some false) fun b => b = true ↔ ¬ ∀ y, 0 < i → L[i - 1]? = some y → q y := by
  by_cases h0 : 0 < i
  · have hg : L[i - 1]? = some L[i - 1] := List.getElem?_eq_getElem (by omega)
    rw [decide_eq_true (by omega), cond_true, w64_of (by omega) (by omega), show (i : Int) - 1 = ((i - 1 : Nat) : Int) by omega, ixO_nat hg]
    simp only [Option.bind_some]
    refine Is.val ?_
    rw [hf]
    exact ⟨fun h q => h (q _ h0 hg), fun h q => h fun y _ hy => by rw [hg] at hy; cases hy; exact q⟩
  · rw [decide_eq_false (by omega), cond_false]
    exact Is.val (iff_of_false Bool.false_ne_true fun h => h fun y h1 => absurd h1 h0)
theorem cond_some' {α : Type} {b : Bool} {x y : α} : (bif b then some x else some y) = some (bif b then x else y) := by cases b <;> rfl

theorem bindId {x : Option Bool} : (x.bind fun r => some r) = x := by cases x <;> rfl
theorem eqLoop {α : Type} {eqf : α → α → Bool} (heq : ∀ x y, eqf x y = true ↔ x = y) {L M : List α} (h : L.length ≤ 1048576) {step : Int → Option (Int ⊕ (Unit ⊕ Bool))}
    (hs : ∀ x3, step x3 = bif decide (x3 < ((L.length : Nat) : Int)) then ((ixO L x3).bind fun x6 => (ixO M x3).bind fun x7 => bif (!(eqf x6 x7)) then some (.inr (.inr false)) else some (.inl (w64 (x3 + 1)))) else some (.inr (.inl ()))) :
    Is (bif (!(decide (((L.length : Nat) : Int) = ((M.length : Nat) : Int)))) then some false else onInl (α := Unit) (β := Bool) (loopO step 0) fun _ => some true) fun b => b = true ↔ L = M := by
  refine Is.ifn (p := L.length = M.length) (by rw [decide_eq_true_iff]; omega) (fun hl => Is.val (iff_of_false Bool.false_ne_true fun e => hl (congrArg _ e))) (fun hl => ?_)
  refine Is.all (L := L) (fun i x => M[i]? = some x) () (by omega) (fun i x hx hi _ => ?_) (by rw [hs]; simp) (fun hn => Is.val (iff_of_true rfl ?_))
  · rw [hs]
    have hg : M[i]? = some M[i] := List.getElem?_eq_getElem (by omega)
    refine Is.inb hi (Is.at hx (Is.at hg ?_))
    refine Is.ifn (heq _ _) (fun hb => Is.val (iff_of_false Bool.false_ne_true fun e => ?_)) (fun hb => Is.val ⟨rfl, by rw [hg, hb]⟩)
    subst e; rw [hg] at hx; cases hx; exact hb rfl
  · apply List.ext_getElem?
    intro i
    cases hx : L[i]? with
    | some x => exact (hn i x hx).symm
    | none => exact (List.getElem?_eq_none (by have := List.getElem?_eq_none_iff.1 hx; omega)).symm
theorem eqLinked (x y : T_api_Linked) : eq_T_api_Linked x y = true ↔ x = y := by cases x; cases y; simp [eq_T_api_Linked]
def LinkP (l : List T_api_Linked) (i : Nat) (x : T_api_Linked) : Prop := (∀ y, 0 < i → l[i - 1]? = some y → y.At ≤ x.At) ∧ ∀ y ∈ l.take i, y.Id ≠ x.Id
def LVal (l : List T_api_Linked) : Prop := l.length ≤ 24 ∧ ∀ i x, l[i]? = some x → LinkP l i x
theorem linking_find_is {l : List T_api_Linked} (h : l.length ≤ 1048576) (id : Int) : Is (d_linking_find l 0 id) fun r => 0 ≤ r ↔ ∃ y ∈ l, y.Id = id := by
  unfold d_linking_find
  refine Is.all (L := l) (fun _ x => ¬ x.Id = id) () (by omega) (fun i x hx hi _ => ?_) (by simp [d_linking_find_0]) (fun hn => Is.val ?_)
  · unfold d_linking_find_0
    refine Is.inb hi (Is.at hx ?_)
    refine Is.ite (p := x.Id = id) dec_iff (fun hb => Is.val (iff_of_true (by omega) ⟨x, List.mem_of_getElem? hx, hb⟩)) (fun hb => Is.val ⟨rfl, hb⟩)
  · refine iff_of_false (by omega) fun ⟨y, hy, e⟩ => ?_
    exact mem_iff_get.1 hn y hy e
theorem linking_Valid_is (l : List T_api_Linked) : Is (d_linking_Valid l) fun b => b = true ↔ LVal l := by
  unfold d_linking_Valid
  refine Is.ite (p := 24 < l.length) (by rw [decide_eq_true_iff]; omega) (fun h => Is.val (iff_of_false Bool.false_ne_true fun q => absurd q.1 (by omega))) (fun h => ?_)
  refine Is.all (L := l) (fun i x => LinkP l i x) () (by omega) (fun i x hx hi _ => ?_) (by simp [d_linking_Valid_0]) (fun hn => Is.val (iff_of_true rfl ⟨by omega, hn⟩))
  unfold d_linking_Valid_0
  refine Is.inb hi (Is.at hx ?_)
  refine Is.bind (prev_is hi (by omega) (f := fun y => decide (x.At < y.At)) (q := fun y => y.At ≤ x.At) fun y => by simp) fun b hb => ?_
  refine Is.bind (Is.or (q := ∃ y ∈ l.take i, y.Id = x.Id) hb fun _ => ?_) fun c hc => ?_
  · refine Is.to (slO_hi (by omega)) ?_
    exact (linking_find_is (by simp; omega) x.Id).bind fun r hr => Is.dec hr
  · have e : (¬ (∀ y, 0 < i → l[i - 1]? = some y → y.At ≤ x.At) ∨ ∃ y ∈ l.take i, y.Id = x.Id) ↔ ¬ LinkP l i x := by
      unfold LinkP
      rw [Classical.not_and_iff_not_or_not]
      simp
    refine Is.ite (hc.trans e) (fun hn => Is.val (iff_of_false Bool.false_ne_true fun q => hn (q.2 i x hx))) (fun hn => Is.val ⟨rfl, Classical.not_not.1 hn⟩)
theorem ref32_Valid_is (l : List T_api_Linked) : Is (d_ref32_Valid l) fun b => b = true ↔ LVal l := by
  unfold d_ref32_Valid
  by_cases h : l.length ≤ 24
  · refine Is.all (L := l) (fun i x => LinkP l i x) () (by omega) (fun i x hx hi _ => ?_) (by simp [d_ref32_Valid_0]) (fun hn => Is.val (by rw [decide_eq_true_iff]; exact iff_of_true (by omega) ⟨h, hn⟩))
    unfold d_ref32_Valid_0
    have e1 : decide (((i : Nat) : Int) < ((l.length : Nat) : Int)) = true := decide_eq_true (by omega)
    have e2 : decide (((l.length : Nat) : Int) ≤ 24) = true := decide_eq_true (by omega)
    simp only [e1, e2, cond_true, Option.bind_some]
    refine Is.bind (φ := fun b => b = true ↔ ¬ ∀ y, 0 < i → l[i - 1]? = some y → y.At ≤ x.At) ?_ fun b hb => Is.ite hb (fun hc => Is.val (iff_of_false Bool.false_ne_true fun q => hc (q.2 i x hx).1)) (fun hc => ?_)
    · rw [ixO_nat hx]
      simp only [Option.bind_some]
      exact prev_is hi (by omega) (f := fun y => decide (x.At < y.At)) (q := fun y => y.At ≤ x.At) fun y => by simp
    · have hlt : (l.take i).length = i := by simp; omega
      refine Is.all (L := l.take i) (fun _ y => y.Id ≠ x.Id) () (by omega) (fun k y hy hk _ => ?_) (by simp [d_ref32_Valid_1, hlt]) (fun hn => Is.val ⟨rfl, Classical.not_not.1 hc, mem_iff_get.1 hn⟩)
      have hy' : l[k]? = some y := by rw [List.getElem?_take, if_pos (by omega)] at hy; exact hy
      unfold d_ref32_Valid_1
      rw [show decide ((k : Int) < (i : Int)) = true from decide_eq_true (by omega), cond_true, ixO_nat hy', ixO_nat hx]
      simp only [Option.bind_some]
      refine Is.ite (p := y.Id = x.Id) dec_iff (fun hb => Is.val (iff_of_false Bool.false_ne_true fun q => (q.2 i x hx).2 y (List.mem_of_getElem? hy) hb)) (fun hb => Is.val ⟨rfl, hb⟩)
  · have e1 : decide ((0 : Int) < ((l.length : Nat) : Int)) = true := decide_eq_true (by omega)
    have e2 : decide (((l.length : Nat) : Int) ≤ 24) = false := decide_eq_false (by omega)
    have : loopO (d_ref32_Valid_0 l) 0 = some (.inl ()) := loop_done (by simp [d_ref32_Valid_0, e1, e2])
    rw [this]
    simp only [onInl, onOut, Option.bind_some, e2]
    exact Is.val (iff_of_false Bool.false_ne_true fun q => h q.1)

theorem ref32_Same_is {p q : List T_api_Linked} (h : p.length ≤ 1048576) : Is (d_ref32_Same p q) fun b => b = true ↔ p = q := eqLoop eqLinked h fun _ => rfl
end PM
