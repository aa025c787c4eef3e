/-
  PLAIN, AUTHORITY A: profiles, linked balises, authorities: Valid, At, Same, Extends, as the program and the reference have them.
-/
import Derived.Test.YtdnbdimfianapaaDoorDen
namespace PM
open Go Go.RowKit

theorem LoopN.congr {σ ρ : Type} {f g : σ → Option (σ ⊕ ρ)} {I : σ → Prop} (h : ∀ s, I s → f s = g s ∧ ∀ t, f s = some (.inl t) → I t) {n : Nat} {s : σ} {r : ρ} (hl : LoopN f n s r) (hI : I s) : LoopN g n s r := by
  induction hl with
  | done e => exact .done ((h _ hI).1 ▸ e)
  | more e _ ih => exact .more ((h _ hI).1 ▸ e) (ih ((h _ hI).2 _ e))
theorem loopO_congr {σ ρ : Type} {f g : σ → Option (σ ⊕ ρ)} {I : σ → Prop} (h : ∀ s, I s → f s = g s ∧ ∀ t, f s = some (.inl t) → I t) {s : σ} (hI : I s) : loopO f s = loopO g s := by
  apply Option.ext
  intro r
  rw [loopO_some, loopO_some]
  refine ⟨fun ⟨n, hn⟩ => ⟨n, hn.congr h hI⟩, fun ⟨n, hn⟩ => ⟨n, hn.congr (f := g) (g := f) (fun s hs => ⟨(h s hs).1.symm, fun t ht => (h s hs).2 t ((h s hs).1.trans ht)⟩) hI⟩⟩
theorem Is.wf {S ρ : Type} {step : S → Option (S ⊕ ρ)} (I : S → Prop) (μ : S → Nat) {θ : ρ → Prop} (hs : ∀ s, I s → Is (step s) fun o => match o with | .inl t => I t ∧ μ t < μ s | .inr r => θ r) :
    ∀ (n : Nat) (s : S), μ s ≤ n → I s → Is (loopO step s) θ := by
  intro n
  induction n with
  | zero =>
    intro s hn hI
    obtain ⟨o, h1, h2⟩ := hs s hI
    cases o with
    | inl t => exact absurd h2.2 (by omega)
    | inr r => exact ⟨r, loop_done h1, h2⟩
  | succ n ih =>
    intro s hn hI
    obtain ⟨o, h1, h2⟩ := hs s hI
    cases o with
    | inl t =>
      obtain ⟨r, h3, h4⟩ := ih t (by omega) h2.1
      exact ⟨r, by rw [loop_more h1]; exact h3, h4⟩
    | inr r => exact ⟨r, loop_done h1, h2⟩
theorem prev_is {α : Type} {L : List α} {i : Nat} (hi : i < L.length) (hL : L.length ≤ 1048576) {f : α → Bool} {q : α → Prop} (hf : ∀ y, f y = true ↔ ¬ q y) :
    Is (bif decide (0 < (i : Int)) then (ixO L (w64 ((i : Int) - 1))).bind fun y => some (f y) else some false) fun b => b = true ↔ ¬ ∀ y, 0 < i → L[i - 1]? = some y → q y := by
  by_cases h0 : 0 < i
  · have hg : L[i - 1]? = some L[i - 1] := List.getElem?_eq_getElem (by omega)
    rw [decide_eq_true (by omega), cond_true, w64_of (by omega) (by omega), show (i : Int) - 1 = ((i - 1 : Nat) : Int) by omega, ixO_nat hg]
    simp only [Option.bind_some]
    refine Is.val ?_
    rw [hf]
    exact ⟨fun h q => h (q _ h0 hg), fun h q => h fun y _ hy => by rw [hg] at hy; cases hy; exact q⟩
  · rw [decide_eq_false (by omega), cond_false]
    exact Is.val (iff_of_false Bool.false_ne_true fun h => h fun y h1 => absurd h1 h0)
theorem cond_some' {α : Type} {b : Bool} {x y : α} : (bif b then some x else some y) = some (bif b then x else y) := by cases b <;> rfl

def SegOK (x : T_api_Segment) : Prop := -1073741824 ≤ x.From ∧ x.From < x.To ∧ x.To ≤ 1073741824 ∧ -50 ≤ x.Grade ∧ x.Grade ≤ 50 ∧ 1 ≤ x.Speed ∧ x.Speed ≤ 10000
def SegP (p : List T_api_Segment) (i : Nat) (x : T_api_Segment) : Prop := SegOK x ∧ ∀ y, 0 < i → p[i - 1]? = some y → x.From = y.To
def PVal (p : List T_api_Segment) : Prop := p.length ≤ 128 ∧ ∀ i x, p[i]? = some x → SegP p i x
theorem profile_Valid_is (p : List T_api_Segment) : Is (d_profile_Valid p) fun b => b = true ↔ PVal p := by
  unfold d_profile_Valid
  refine Is.ite (p := 128 < p.length) (by rw [decide_eq_true_iff]; omega) (fun h => Is.val (iff_of_false Bool.false_ne_true fun q => absurd q.1 (by omega))) (fun h => ?_)
  refine Is.all (L := p) (fun i x => SegP p i x) () (by omega) (fun i x hx hi _ => ?_) (by simp [d_profile_Valid_0]) (fun hn => Is.val (iff_of_true rfl ⟨by omega, hn⟩))
  unfold d_profile_Valid_0
  refine Is.inb hi (Is.at hx ?_)
  simp only [d_profile_coordinate, Option.bind_some, cond_some', Bool.cond_true_left]
  refine Is.ite (p := ¬ SegOK x) (by unfold SegOK; simp only [Bool.or_eq_true, Bool.not_eq_true', Bool.and_eq_false_iff, decide_eq_false_iff_not, decide_eq_true_eq]; omega) (fun hb => Is.val (iff_of_false Bool.false_ne_true fun q => hb (q.2 i x hx).1)) (fun hb => ?_)
  refine Is.bind (prev_is hi (by omega) (f := fun y => !(decide (x.From = y.To))) (q := fun y => x.From = y.To) fun y => by simp) fun b hb2 => ?_
  rw [← cond_some']
  refine Is.ite hb2 (fun hc => ?_) (fun hc => ?_)
  · exact Is.val (iff_of_false Bool.false_ne_true fun q => hc (q.2 i x hx).2)
  · exact Is.val ⟨rfl, Classical.not_not.1 hb, Classical.not_not.1 hc⟩
theorem ref10_Valid_is {p : List T_api_Segment} (h : p.length ≤ 1048576) : Is (d_ref10_Valid p) fun b => b = true ↔ PVal p := by
  unfold d_ref10_Valid
  refine Is.all (L := p) (fun i x => SegP p i x) () (by omega) (fun i x hx hi _ => ?_) (by simp [d_ref10_Valid_0]) (fun hn => Is.val ?_)
  · unfold d_ref10_Valid_0
    refine Is.inb hi (Is.at hx ?_)
    refine Is.bind (φ := fun b => b = true ↔ ¬ SegP p i x) ?_ fun b hb => Is.ite hb (fun hc => Is.val (iff_of_false Bool.false_ne_true fun q => hc (q.2 i x hx))) (fun hc => Is.val ⟨rfl, Classical.not_not.1 hc⟩)
    refine (Is.or (p := ¬ SegOK x) (q := ¬ ∀ y, 0 < i → p[i - 1]? = some y → x.From = y.To) (by unfold SegOK; simp only [Bool.or_eq_true, decide_eq_true_eq]; omega) fun _ => ?_).iff ?_
    · refine Is.bind (prev_is hi h (f := fun y => !(decide (y.To = x.From))) (q := fun y => x.From = y.To) fun y => by simp only [Bool.not_eq_true', decide_eq_false_iff_not]; exact not_congr eq_comm) fun b hb => Is.val hb
    · unfold SegP; rw [Classical.not_and_iff_not_or_not]
  · rw [decide_eq_true_iff]
    exact ⟨fun q => ⟨by omega, hn⟩, fun q => by have := q.1; omega⟩

def LinkP (l : List T_api_Linked) (i : Nat) (x : T_api_Linked) : Prop := (∀ y, 0 < i → l[i - 1]? = some y → y.At ≤ x.At) ∧ ∀ y ∈ l.take i, y.Id ≠ x.Id
def LVal (l : List T_api_Linked) : Prop := l.length ≤ 24 ∧ ∀ i x, l[i]? = some x → LinkP l i x
theorem linking_find_is {l : List T_api_Linked} (h : l.length ≤ 1048576) (id : Int) : Is (d_linking_find l 0 id) fun r => 0 ≤ r ↔ ∃ y ∈ l, y.Id = id := by
  unfold d_linking_find
  refine Is.all (L := l) (fun _ x => ¬ x.Id = id) () (by omega) (fun i x hx hi _ => ?_) (by simp [d_linking_find_0]) (fun hn => Is.val ?_)
  · unfold d_linking_find_0
    refine Is.inb hi (Is.at hx ?_)
    refine Is.ite (p := x.Id = id) dec_iff (fun hb => Is.val (iff_of_true (by omega) ⟨x, List.mem_of_getElem? hx, hb⟩)) (fun hb => Is.val ⟨rfl, hb⟩)
  · refine iff_of_false (by omega) fun ⟨y, hy, e⟩ => ?_
    exact mem_iff_get.1 hn y hy e
theorem linking_Valid_is (l : List T_api_Linked) : Is (d_linking_Valid l) fun b => b = true ↔ LVal l := by
  unfold d_linking_Valid
  refine Is.ite (p := 24 < l.length) (by rw [decide_eq_true_iff]; omega) (fun h => Is.val (iff_of_false Bool.false_ne_true fun q => absurd q.1 (by omega))) (fun h => ?_)
  refine Is.all (L := l) (fun i x => LinkP l i x) () (by omega) (fun i x hx hi _ => ?_) (by simp [d_linking_Valid_0]) (fun hn => Is.val (iff_of_true rfl ⟨by omega, hn⟩))
  unfold d_linking_Valid_0
  refine Is.inb hi (Is.at hx ?_)
  refine Is.bind (prev_is hi (by omega) (f := fun y => decide (x.At < y.At)) (q := fun y => y.At ≤ x.At) fun y => by simp) fun b hb => ?_
  refine Is.bind (Is.or (q := ∃ y ∈ l.take i, y.Id = x.Id) hb fun _ => ?_) fun c hc => ?_
  · refine Is.to (slO_hi (by omega)) ?_
    exact (linking_find_is (by simp; omega) x.Id).bind fun r hr => Is.dec hr
  · have e : (¬ (∀ y, 0 < i → l[i - 1]? = some y → y.At ≤ x.At) ∨ ∃ y ∈ l.take i, y.Id = x.Id) ↔ ¬ LinkP l i x := by
      unfold LinkP
      rw [Classical.not_and_iff_not_or_not]
      simp
    refine Is.ite (hc.trans e) (fun hn => Is.val (iff_of_false Bool.false_ne_true fun q => hn (q.2 i x hx))) (fun hn => Is.val ⟨rfl, Classical.not_not.1 hn⟩)
theorem ref32_Valid_is (l : List T_api_Linked) : Is (d_ref32_Valid l) fun b => b = true ↔ LVal l := by
  unfold d_ref32_Valid
  by_cases h : l.length ≤ 24
  · refine Is.all (L := l) (fun i x => LinkP l i x) () (by omega) (fun i x hx hi _ => ?_) (by simp [d_ref32_Valid_0]) (fun hn => Is.val (by rw [decide_eq_true_iff]; exact iff_of_true (by omega) ⟨h, hn⟩))
    unfold d_ref32_Valid_0
    have e1 : decide (((i : Nat) : Int) < ((l.length : Nat) : Int)) = true := decide_eq_true (by omega)
    have e2 : decide (((l.length : Nat) : Int) ≤ 24) = true := decide_eq_true (by omega)
    simp only [e1, e2, cond_true, Option.bind_some]
    refine Is.bind (φ := fun b => b = true ↔ ¬ ∀ y, 0 < i → l[i - 1]? = some y → y.At ≤ x.At) ?_ fun b hb => Is.ite hb (fun hc => Is.val (iff_of_false Bool.false_ne_true fun q => hc (q.2 i x hx).1)) (fun hc => ?_)
    · rw [ixO_nat hx]
      simp only [Option.bind_some]
      exact prev_is hi (by omega) (f := fun y => decide (x.At < y.At)) (q := fun y => y.At ≤ x.At) fun y => by simp
    · have hlt : (l.take i).length = i := by simp; omega
      refine Is.all (L := l.take i) (fun _ y => y.Id ≠ x.Id) () (by omega) (fun k y hy hk _ => ?_) (by simp [d_ref32_Valid_1, hlt]) (fun hn => Is.val ⟨rfl, Classical.not_not.1 hc, mem_iff_get.1 hn⟩)
      have hy' : l[k]? = some y := by rw [List.getElem?_take, if_pos (by omega)] at hy; exact hy
      unfold d_ref32_Valid_1
      rw [show decide ((k : Int) < (i : Int)) = true from decide_eq_true (by omega), cond_true, ixO_nat hy', ixO_nat hx]
      simp only [Option.bind_some]
      refine Is.ite (p := y.Id = x.Id) dec_iff (fun hb => Is.val (iff_of_false Bool.false_ne_true fun q => (q.2 i x hx).2 y (List.mem_of_getElem? hy) hb)) (fun hb => Is.val ⟨rfl, hb⟩)
  · have e1 : decide ((0 : Int) < ((l.length : Nat) : Int)) = true := decide_eq_true (by omega)
    have e2 : decide (((l.length : Nat) : Int) ≤ 24) = false := decide_eq_false (by omega)
    have : loopO (d_ref32_Valid_0 l) 0 = some (.inl ()) := loop_done (by simp [d_ref32_Valid_0, e1, e2])
    rw [this]
    simp only [onInl, onOut, Option.bind_some, e2]
    exact Is.val (iff_of_false Bool.false_ne_true fun q => h q.1)

def AVal (a : T_api_Authority) : Prop := ((1 ≤ a.Seq ∧ a.Seq ≤ 1073741824) ∧ PVal a.Profile) ∧ (∃ y, a.Profile[a.Profile.length - 1]? = some y ∧ y.To = a.End) ∧ LVal a.Links
theorem last_is {a : T_api_Authority} (h : a.Profile.length ≤ 1048576) {b : Bool} {p : Prop} (hb : b = true ↔ p) :
    Is (bif (b && (decide (0 < ((a.Profile.length : Nat) : Int)))) then (ixO a.Profile (w64 (((a.Profile.length : Nat) : Int) - 1))).bind fun x4 => some (decide (x4.To = a.End)) else some false) fun c => c = true ↔ p ∧ ∃ y, a.Profile[a.Profile.length - 1]? = some y ∧ y.To = a.End := by
  refine (Is.and (p := p ∧ 0 < a.Profile.length) (q := ∃ y, a.Profile[a.Profile.length - 1]? = some y ∧ y.To = a.End) (by rw [Bool.and_eq_true, hb, decide_eq_true_iff]; exact and_congr_right fun _ => by omega) fun hp => ?_).iff ?_
  · have hg : a.Profile[a.Profile.length - 1]? = some a.Profile[a.Profile.length - 1] := List.getElem?_eq_getElem (by omega)
    rw [w64_of (by omega) (by omega), show ((a.Profile.length : Nat) : Int) - 1 = ((a.Profile.length - 1 : Nat) : Int) by omega, ixO_nat hg]
    refine Is.dec ⟨fun e => ⟨_, hg, e⟩, fun ⟨y, hy, e⟩ => by rw [hg] at hy; cases hy; exact e⟩
  · refine ⟨fun q => ⟨q.1.1, q.2⟩, fun q => ⟨⟨q.1, ?_⟩, q.2⟩⟩
    obtain ⟨y, hy, _⟩ := q.2
    have := (List.getElem?_eq_some_iff.1 hy).1; omega
theorem bindId {x : Option Bool} : (x.bind fun r => some r) = x := by cases x <;> rfl
theorem authority_Valid_is {a : T_api_Authority} (h : a.Profile.length ≤ 1048576) : Is (d_authority_Valid a) fun b => b = true ↔ AVal a := by
  unfold d_authority_Valid
  simp only [bindId]
  refine Is.bind (Is.and (p := 1 ≤ a.Seq ∧ a.Seq ≤ 1073741824) (q := PVal a.Profile) (by simp) fun _ => profile_Valid_is _) fun b hb => ?_
  refine Is.bind (last_is h hb) fun c hc => ?_
  exact (Is.and hc fun _ => linking_Valid_is a.Links).iff ⟨fun q => ⟨q.1.1, q.1.2, q.2⟩, fun q => ⟨⟨q.1, q.2.1⟩, q.2.2⟩⟩
theorem ref45_Valid_is {a : T_api_Authority} (h : a.Profile.length ≤ 1048576) : Is (d_ref45_Valid a) fun b => b = true ↔ AVal a := by
  unfold d_ref45_Valid
  simp only [bindId]
  refine Is.bind (Is.and (p := 1 ≤ a.Seq ∧ a.Seq ≤ 1073741824) (q := PVal a.Profile) (by simp) fun _ => ref10_Valid_is h) fun b hb => ?_
  refine Is.bind (last_is h hb) fun c hc => ?_
  exact (Is.and hc fun _ => ref32_Valid_is a.Links).iff ⟨fun q => ⟨q.1.1, q.1.2, q.2⟩, fun q => ⟨⟨q.1, q.2.1⟩, q.2.2⟩⟩

theorem eqLoop {α : Type} {eqf : α → α → Bool} (heq : ∀ x y, eqf x y = true ↔ x = y) {L M : List α} (h : L.length ≤ 1048576) {step : Int → Option (Int ⊕ (Unit ⊕ Bool))}
    (hs : ∀ x3, step x3 = bif decide (x3 < ((L.length : Nat) : Int)) then ((ixO L x3).bind fun x6 => (ixO M x3).bind fun x7 => bif (!(eqf x6 x7)) then some (.inr (.inr false)) else some (.inl (w64 (x3 + 1)))) else some (.inr (.inl ()))) :
    Is (bif (!(decide (((L.length : Nat) : Int) = ((M.length : Nat) : Int)))) then some false else onInl (α := Unit) (β := Bool) (loopO step 0) fun _ => some true) fun b => b = true ↔ L = M := by
  refine Is.ifn (p := L.length = M.length) (by rw [decide_eq_true_iff]; omega) (fun hl => Is.val (iff_of_false Bool.false_ne_true fun e => hl (congrArg _ e))) (fun hl => ?_)
  refine Is.all (L := L) (fun i x => M[i]? = some x) () (by omega) (fun i x hx hi _ => ?_) (by rw [hs]; simp) (fun hn => Is.val (iff_of_true rfl ?_))
  · rw [hs]
    have hg : M[i]? = some M[i] := List.getElem?_eq_getElem (by omega)
    refine Is.inb hi (Is.at hx (Is.at hg ?_))
    refine Is.ifn (heq _ _) (fun hb => Is.val (iff_of_false Bool.false_ne_true fun e => ?_)) (fun hb => Is.val ⟨rfl, by rw [hg, hb]⟩)
    subst e; rw [hg] at hx; cases hx; exact hb rfl
  · apply List.ext_getElem?
    intro i
    cases hx : L[i]? with
    | some x => exact (hn i x hx).symm
    | none => exact (List.getElem?_eq_none (by have := List.getElem?_eq_none_iff.1 hx; omega)).symm
theorem eqSeg (x y : T_api_Segment) : eq_T_api_Segment x y = true ↔ x = y := by cases x; cases y; simp [eq_T_api_Segment]
theorem eqLinked (x y : T_api_Linked) : eq_T_api_Linked x y = true ↔ x = y := by cases x; cases y; simp [eq_T_api_Linked]
theorem ref10_Same_is {p q : List T_api_Segment} (h : p.length ≤ 1048576) : Is (d_ref10_Same p q) fun b => b = true ↔ p = q := eqLoop eqSeg h fun _ => rfl
theorem Equal_Seg_is {p q : List T_api_Segment} (h : p.length ≤ 1048576) : Is (d_slices_Equal_api_Segment p q) fun b => b = true ↔ p = q := eqLoop eqSeg h fun _ => rfl
theorem ref32_Same_is {p q : List T_api_Linked} (h : p.length ≤ 1048576) : Is (d_ref32_Same p q) fun b => b = true ↔ p = q := eqLoop eqLinked h fun _ => rfl
theorem Equal_Linked_is {p q : List T_api_Linked} (h : p.length ≤ 1048576) : Is (d_slices_Equal_api_Linked p q) fun b => b = true ↔ p = q := eqLoop eqLinked h fun _ => rfl
theorem autEq (a b : T_api_Authority) : (((a.Seq = b.Seq ∧ a.End = b.End) ∧ a.Profile = b.Profile) ∧ a.Links = b.Links) ↔ a = b := by
  cases a; cases b; simp [and_assoc]
theorem authority_Same_is {a b : T_api_Authority} (h : a.Profile.length ≤ 1048576) (h2 : a.Links.length ≤ 1048576) : Is (d_authority_Same a b) fun r => r = true ↔ a = b := by
  unfold d_authority_Same
  simp only [bindId]
  refine Is.bind (Is.and (p := a.Seq = b.Seq ∧ a.End = b.End) (by simp) fun _ => Equal_Seg_is h) fun c hc => ?_
  exact (Is.and hc fun _ => Equal_Linked_is h2).iff (autEq a b)
theorem ref45_Same_is {a b : T_api_Authority} (h : a.Profile.length ≤ 1048576) (h2 : a.Links.length ≤ 1048576) : Is (d_ref45_Same a b) fun r => r = true ↔ a = b := by
  unfold d_ref45_Same
  simp only [bindId]
  refine Is.bind (Is.and (p := a.Seq = b.Seq ∧ a.End = b.End) (by simp) fun _ => ref10_Same_is h) fun c hc => ?_
  exact (Is.and hc fun _ => ref32_Same_is h2).iff (autEq a b)

def atB (x : Int) (s : T_api_Segment) : Bool := decide (s.From ≤ x) && decide (x < s.To)
def AtS (p : List T_api_Segment) (x : Int) : T_api_Segment × Bool := match p.find? (atB x) with | some s => (s, true) | none => (⟨0, 0, 0, 0⟩, false)
theorem profile_At_eq {p : List T_api_Segment} (h : PVal p) (x : Int) : d_profile_At p x = some (AtS p x) := by
  unfold d_profile_At AtS
  obtain ⟨b, h1, h2⟩ := profile_Valid_is p
  rw [h1, h2.2 h]
  simp only [Option.bind_some, Bool.not_true, cond_false]
  have := h.1
  rw [loop_find (atB x) (fun s => .inr (s, true)) (.inl ()) p (by omega)]
  · cases p.find? (atB x) <;> rfl
  · intro i y hy
    have hi := lt_of_get hy
    simp only [d_profile_At_0, ixO_nat hy, show decide ((i : Int) < ((p.length : Nat) : Int)) = true by simp; omega, cond_true, Option.bind_some]
    rfl
  · simp [d_profile_At_0]
theorem ref10_At_eq {p : List T_api_Segment} (h : PVal p) (x : Int) : d_ref10_At p x = some (AtS p x) := by
  unfold d_ref10_At AtS
  have hl := h.1
  obtain ⟨b, h1, h2⟩ := ref10_Valid_is (p := p) (by omega)
  rw [h1, h2.2 h]
  simp only [Option.bind_some, Bool.not_true, cond_false]
  rw [loop_find (atB x) (fun s => .inr (s, true)) (.inl ()) p (by omega)]
  · cases p.find? (atB x) <;> rfl
  · intro i y hy
    have hi := lt_of_get hy
    simp only [d_ref10_At_0, ixO_nat hy, show decide ((i : Int) < ((p.length : Nat) : Int)) = true by simp; omega, cond_true, Option.bind_some]
    rfl
  · simp [d_ref10_At_0]
theorem PVal.step {p : List T_api_Segment} (h : PVal p) {i : Nat} {x y : T_api_Segment} (hx : p[i]? = some x) (hy : p[i + 1]? = some y) : y.From = x.To := (h.2 (i + 1) y hy).2 x (by omega) (by simpa using hx)
theorem PVal.ok {p : List T_api_Segment} (h : PVal p) {i : Nat} {x : T_api_Segment} (hx : p[i]? = some x) : SegOK x := (h.2 i x hx).1
theorem PVal.before {p : List T_api_Segment} (h : PVal p) {i : Nat} {x : T_api_Segment} (hx : p[i]? = some x) : ∀ {j : Nat} {y : T_api_Segment}, p[j]? = some y → i < j → x.To ≤ y.From := by
  intro j
  induction j with
  | zero => intro y _ hij; omega
  | succ j ih =>
    intro y hy hij
    have hj : j < p.length := by have := lt_of_get hy; omega
    have hz : p[j]? = some p[j] := List.getElem?_eq_getElem hj
    have e := h.step hz hy
    by_cases hji : i = j
    · subst hji; rw [hx] at hz; cases hz; omega
    · have := ih hz (by omega); have := (h.ok hz).2.1; omega
theorem PVal.at {p : List T_api_Segment} (h : PVal p) {s : T_api_Segment} (hs : s ∈ p) {x : Int} (h1 : s.From ≤ x) (h2 : x < s.To) : AtS p x = (s, true) := by
  unfold AtS
  have hb : atB x s = true := by simp [atB, h1, h2]
  cases hf : p.find? (atB x) with
  | none => exact absurd hb (by have := List.find?_eq_none.1 hf s hs; simpa using this)
  | some t =>
    have ht := List.find?_some hf
    have hm := List.mem_of_find?_eq_some hf
    obtain ⟨i, hi⟩ := List.getElem?_of_mem hs
    obtain ⟨j, hj⟩ := List.getElem?_of_mem hm
    simp only [atB, Bool.and_eq_true, decide_eq_true_eq] at ht
    have : i = j := by
      rcases Nat.lt_trichotomy i j with q | q | q
      · have := h.before hi hj q; omega
      · exact q
      · have := h.before hj hi q; omega
    subst this; rw [hi] at hj; cases hj; rfl
theorem PVal.ex {p : List T_api_Segment} (h : PVal p) {f l : T_api_Segment} (hf : p[0]? = some f) (hl : p[p.length - 1]? = some l) {x : Int} (h1 : f.From ≤ x) (h2 : x < l.To) : ∃ s ∈ p, s.From ≤ x ∧ x < s.To := by
  suffices ∀ (i : Nat) y, p[i]? = some y → x < y.To → ∃ s ∈ p, s.From ≤ x ∧ x < s.To from this _ l hl h2
  intro i
  induction i with
  | zero => intro y hy hlt; rw [hf] at hy; cases hy; exact ⟨f, List.mem_of_getElem? hf, h1, hlt⟩
  | succ i ih =>
    intro y hy hlt
    by_cases hc : y.From ≤ x
    · exact ⟨y, List.mem_of_getElem? hy, hc, hlt⟩
    · have hi : i < p.length := by have := lt_of_get hy; omega
      have hz : p[i]? = some p[i] := List.getElem?_eq_getElem hi
      exact ih p[i] hz (by have := h.step hz hy; omega)

theorem AVal.first {a : T_api_Authority} (h : AVal a) : ∃ f l, a.Profile[0]? = some f ∧ a.Profile[a.Profile.length - 1]? = some l ∧ l.To = a.End ∧ 0 < a.Profile.length := by
  obtain ⟨_, ⟨y, hy, e⟩, _⟩ := h
  have := lt_of_get hy
  exact ⟨_, y, List.getElem?_eq_getElem (by omega), hy, e, by omega⟩
def extStep (a b : T_api_Authority) (x : Int) : Option (Int ⊕ (Unit ⊕ Bool)) :=
  bif decide (x < a.End) then (
    let s := (AtS a.Profile x).1; let t := (AtS b.Profile x).1
    bif !(decide (s.Grade = t.Grade)) || !(decide (s.Speed = t.Speed)) then some (.inr (.inr false)) else some (.inl (min s.To t.To)))
  else some (.inr (.inl ()))
theorem ext_at {a b : T_api_Authority} (ha : AVal a) (hb : AVal b) (he : a.End ≤ b.End) {f g : T_api_Segment} (hf : a.Profile[0]? = some f) (hg : b.Profile[0]? = some g) {x : Int} (hx : max f.From g.From ≤ x) (hlt : x < a.End) :
    ∃ s ∈ a.Profile, ∃ t ∈ b.Profile, AtS a.Profile x = (s, true) ∧ AtS b.Profile x = (t, true) ∧ (s.From ≤ x ∧ x < s.To) ∧ (t.From ≤ x ∧ x < t.To) := by
  obtain ⟨f', l, h1, h2, h3, _⟩ := ha.first
  rw [hf] at h1; cases h1
  obtain ⟨g', m, k1, k2, k3, _⟩ := hb.first
  rw [hg] at k1; cases k1
  obtain ⟨s, s1, s2⟩ := ha.1.2.ex hf h2 (x := x) (by omega) (by omega)
  obtain ⟨t, t1, t2⟩ := hb.1.2.ex hg k2 (x := x) (by omega) (by omega)
  exact ⟨s, s1, t, t1, ha.1.2.at s1 s2.1 s2.2, hb.1.2.at t1 t2.1 t2.2, s2, t2⟩
noncomputable def extV (a b : T_api_Authority) (x : Int) : Option Bool := onInl (α := Unit) (β := Bool) (loopO (extStep a b) x) fun _ => some true
theorem ext_congr {a b : T_api_Authority} (ha : AVal a) (hb : AVal b) (he : a.End ≤ b.End) {f g : T_api_Segment} (hf : a.Profile[0]? = some f) (hg : b.Profile[0]? = some g) :
    loopO (d_authority_Extends_0 a b) (max f.From g.From) = loopO (extStep a b) (max f.From g.From) ∧ loopO (d_ref45_Extends_0 a b) (max f.From g.From) = loopO (extStep a b) (max f.From g.From) := by
  have key : ∀ x, max f.From g.From ≤ x → (d_authority_Extends_0 a b x = extStep a b x ∧ d_ref45_Extends_0 a b x = extStep a b x) ∧ ∀ t, extStep a b x = some (.inl t) → max f.From g.From ≤ t := by
    intro x hx
    unfold d_authority_Extends_0 d_ref45_Extends_0 extStep
    by_cases hlt : x < a.End
    · obtain ⟨s, s1, t, t1, e1, e2, e3, e4⟩ := ext_at ha hb he hf hg hx hlt
      rw [profile_At_eq ha.1.2, profile_At_eq hb.1.2, ref10_At_eq ha.1.2, ref10_At_eq hb.1.2, e1, e2, decide_eq_true hlt]
      simp only [Option.bind_some, cond_true, Bool.not_true, Bool.false_or]
      have : decide (min s.To t.To ≤ x) = false := decide_eq_false (by omega)
      rw [this]
      refine ⟨by simp, fun y hy => ?_⟩
      cases hc : (!(decide (s.Grade = t.Grade)) || !(decide (s.Speed = t.Speed))) <;> rw [hc] at hy <;> simp at hy
      omega
    · rw [decide_eq_false hlt]
      exact ⟨⟨rfl, rfl⟩, fun t ht => by simp at ht⟩
  exact ⟨loopO_congr (I := fun x => max f.From g.From ≤ x) (fun x hx => ⟨(key x hx).1.1, fun t ht => (key x hx).2 t ((key x hx).1.1 ▸ ht)⟩) (Int.le_refl _),
    loopO_congr (I := fun x => max f.From g.From ≤ x) (fun x hx => ⟨(key x hx).1.2, fun t ht => (key x hx).2 t ((key x hx).1.2 ▸ ht)⟩) (Int.le_refl _)⟩
theorem authority_Extends_of {a b : T_api_Authority} (h1 : a.Profile.length ≤ 1048576) (h2 : b.Profile.length ≤ 1048576) :
    (¬ (AVal a ∧ AVal b ∧ a.End ≤ b.End) ∧ d_authority_Extends a b = some false ∧ d_ref45_Extends a b = some false) ∨
    ∃ f g, AVal a ∧ AVal b ∧ a.End ≤ b.End ∧ a.Profile[0]? = some f ∧ b.Profile[0]? = some g ∧ d_authority_Extends a b = extV a b (max f.From g.From) ∧ d_ref45_Extends a b = extV a b (max f.From g.From) := by
  unfold d_authority_Extends d_ref45_Extends
  obtain ⟨r1, e1, k1⟩ := authority_Valid_is h1
  obtain ⟨r2, e2, k2⟩ := authority_Valid_is h2
  obtain ⟨r3, e3, k3⟩ := ref45_Valid_is h1
  obtain ⟨r4, e4, k4⟩ := ref45_Valid_is h2
  have : r3 = r1 := Bool.eq_iff_iff.2 (k3.trans k1.symm)
  subst this
  have : r4 = r2 := Bool.eq_iff_iff.2 (k4.trans k2.symm)
  subst this
  rw [e1, e2, e3, e4]
  simp only [Option.bind_some]
  cases hr3 : r3 with
  | false => exact .inl ⟨fun q => (by have := k3.2 q.1; rw [hr3] at this; cases this), rfl, rfl⟩
  | true =>
    cases hr4 : r4 with
    | false => exact .inl ⟨fun q => (by have := k4.2 q.2.1; rw [hr4] at this; cases this), rfl, rfl⟩
    | true =>
      simp only [Bool.not_true, cond_false, Option.bind_some, Bool.false_or]
      by_cases hc : b.End < a.End
      · rw [decide_eq_true hc]
        exact .inl ⟨fun q => by omega, rfl, rfl⟩
      · rw [decide_eq_false hc]
        have ha := k3.1 hr3; have hb := k4.1 hr4
        obtain ⟨f, _, hf, _⟩ := ha.first
        obtain ⟨g, _, hg, _⟩ := hb.first
        refine .inr ⟨f, g, ha, hb, by omega, hf, hg, ?_⟩
        have i1 : ixO a.Profile 0 = some f := ixO_nat hf
        have i2 : ixO b.Profile 0 = some g := ixO_nat hg
        rw [i1, i2]
        simp only [cond_false, Option.bind_some]
        obtain ⟨c1, c2⟩ := ext_congr ha hb (by omega) hf hg
        rw [c1, c2]
        exact ⟨rfl, rfl⟩
theorem extV_is {a b : T_api_Authority} (ha : AVal a) (hb : AVal b) (he : a.End ≤ b.End) {f g : T_api_Segment} (hf : a.Profile[0]? = some f) (hg : b.Profile[0]? = some g) :
    Is (extV a b (max f.From g.From)) fun r => r = true ↔ ∀ x, max f.From g.From ≤ x → x < a.End → (AtS a.Profile x).1.Grade = (AtS b.Profile x).1.Grade ∧ (AtS a.Profile x).1.Speed = (AtS b.Profile x).1.Speed := by
  unfold extV
  refine Is.onInl (θ := fun o => match o with | .inl _ => (∀ x, max f.From g.From ≤ x → x < a.End → (AtS a.Profile x).1.Grade = (AtS b.Profile x).1.Grade ∧ (AtS a.Profile x).1.Speed = (AtS b.Profile x).1.Speed) | .inr r => r = false ∧ ¬ (∀ x, max f.From g.From ≤ x → x < a.End → (AtS a.Profile x).1.Grade = (AtS b.Profile x).1.Grade ∧ (AtS a.Profile x).1.Speed = (AtS b.Profile x).1.Speed)) ?_ (fun _ hv => Is.val (iff_of_true rfl hv)) (fun r hr => iff_of_false (by rw [hr.1]; exact Bool.false_ne_true) hr.2)
  refine Is.wf (fun x => max f.From g.From ≤ x ∧ ∀ y, max f.From g.From ≤ y → y < x → y < a.End → (AtS a.Profile y).1.Grade = (AtS b.Profile y).1.Grade ∧ (AtS a.Profile y).1.Speed = (AtS b.Profile y).1.Speed) (fun x => (a.End - x).toNat) (fun x hx => ?_) _ _ (Nat.le_refl _) ⟨Int.le_refl _, fun y h1 h2 => by omega⟩
  unfold extStep
  by_cases hlt : x < a.End
  · obtain ⟨s, s1, t, t1, e1, e2, e3, e4⟩ := ext_at ha hb he hf hg hx.1 hlt
    rw [decide_eq_true hlt, cond_true, e1, e2]
    dsimp only
    refine Is.ite (p := ¬ (s.Grade = t.Grade ∧ s.Speed = t.Speed)) (by simp only [Bool.or_eq_true, Bool.not_eq_true', decide_eq_false_iff_not]; rw [Classical.not_and_iff_not_or_not]) (fun hn => Is.val ⟨rfl, fun q => hn ?_⟩) (fun hn => Is.val ?_)
    · have := q x hx.1 hlt
      rw [e1, e2] at this; exact this
    · have hn := Classical.not_not.1 hn
      refine ⟨⟨by omega, fun y h1 h2 h3 => ?_⟩, by omega⟩
      by_cases hyx : y < x
      · exact hx.2 y h1 hyx h3
      · rw [ha.1.2.at s1 (x := y) (by omega) (by omega), hb.1.2.at t1 (x := y) (by omega) (by omega)]; exact hn
  · rw [decide_eq_false hlt, cond_false]
    exact Is.val fun y h1 h2 => hx.2 y h1 (by omega) h2

theorem law45_alive_eq : d_law45_alive = some true := by kernel_rfl
theorem law45_short_is (a : T_api_Authority) : Is (d_law45_short a) fun b => b = true ↔ a.Profile.length ≤ 300 ∧ a.Links.length ≤ 300 := by
  unfold d_law45_short
  rw [bindId]
  exact Is.and (by rw [decide_eq_true_iff]; omega) fun _ => Is.dec (by omega)
theorem authority_Extends_self {a : T_api_Authority} (h1 : a.Profile.length ≤ 1048576) : Is (d_authority_Extends a a) fun r => r = true ↔ AVal a := by
  rcases authority_Extends_of h1 h1 with ⟨hn, e, _⟩ | ⟨f, g, ha, _, he, hf, hg, e, _⟩
  · rw [e]; exact Is.val (iff_of_false Bool.false_ne_true fun q => hn ⟨q, q, Int.le_refl _⟩)
  · rw [e]; exact (extV_is ha ha he hf hg).mono fun r hr => iff_of_true (hr.2 fun _ _ _ => ⟨rfl, rfl⟩) ha
theorem authorityCompares_law (a b : T_api_Authority) : d_law45_AuthorityCompares a b = some true := by
  suffices Is (d_law45_AuthorityCompares a b) fun r => r = true by obtain ⟨r, h, rfl⟩ := this; exact h
  unfold d_law45_AuthorityCompares
  refine Is.bind (law45_short_is a) fun r1 h1 => Is.bind (φ := fun c => c = false → (a.Profile.length ≤ 300 ∧ a.Links.length ≤ 300) ∧ b.Profile.length ≤ 300 ∧ b.Links.length ≤ 300) ?_ fun c hc => ?_
  · refine Is.ifn h1 (fun _ => Is.val fun e => by cases e) fun hs => ?_
    exact (law45_short_is b).bind fun r hr => Is.val fun e => ⟨hs, hr.1 (by simpa using e)⟩
  · refine Is.cond (fun _ => by rw [law45_alive_eq]; exact Is.val rfl) fun hcf => ?_
    obtain ⟨⟨p1, p2⟩, p3, p4⟩ := hc hcf
    refine Is.bind (authority_Valid_is (a := a) (by omega)) fun r5 h5 => Is.bind (ref45_Valid_is (a := a) (by omega)) fun r6 h6 => ?_
    have : r6 = r5 := Bool.eq_iff_iff.2 (h6.trans h5.symm)
    subst this
    have hE : ∃ r, d_authority_Extends a b = some r ∧ d_ref45_Extends a b = some r := by
      rcases authority_Extends_of (a := a) (b := b) (by omega) (by omega) with ⟨_, e1, e2⟩ | ⟨f, g, ha, hb, he, hf, hg, e1, e2⟩
      · exact ⟨_, e1, e2⟩
      · obtain ⟨r, hr, _⟩ := extV_is ha hb he hf hg
        exact ⟨r, e1.trans hr, e2.trans hr⟩
    obtain ⟨r, x1, x2⟩ := hE
    obtain ⟨r11, y1, y2⟩ := authority_Same_is (a := a) (b := b) (by omega) (by omega)
    obtain ⟨r12, y3, y4⟩ := ref45_Same_is (a := a) (b := b) (by omega) (by omega)
    have : r12 = r11 := Bool.eq_iff_iff.2 (y4.trans y2.symm)
    subst this
    obtain ⟨r14, z1, z2⟩ := authority_Extends_self (a := a) (by omega)
    have : r14 = r6 := Bool.eq_iff_iff.2 (z2.trans h5.symm)
    subst this
    obtain ⟨r16, u1, u2⟩ := authority_Same_is (a := a) (b := a) (by omega) (by omega)
    have : r16 = true := u2.2 rfl
    subst this
    rw [x1, x2, y1, y3, z1, u1, law45_alive_eq]
    simp only [Option.bind_some, beq_self_eq_true, cond_true]
    exact Is.val rfl
end PM
