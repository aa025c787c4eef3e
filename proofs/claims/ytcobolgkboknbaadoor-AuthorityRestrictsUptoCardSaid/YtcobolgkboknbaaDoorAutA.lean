/-
  PLAIN, AUTHORITY A: profiles, linked balises, authorities: Valid, At, Same, Extends, as the program and the reference have them.
-/
import Derived.Test.YtcobolgkboknbaaDoorLnkA
namespace PM
open Go Go.RowKit

def SegOK (x : T_api_Segment) : Prop := -1073741824 ≤ x.From ∧ x.From < x.To ∧ x.To ≤ 1073741824 ∧ -50 ≤ x.Grade ∧ x.Grade ≤ 50 ∧ 1 ≤ x.Speed ∧ x.Speed ≤ 10000
def SegP (p : List T_api_Segment) (i : Nat) (x : T_api_Segment) : Prop := SegOK x ∧ ∀ y, 0 < i → p[i - 1]? = some y → x.From = y.To
def PVal (p : List T_api_Segment) : Prop := p.length ≤ 128 ∧ ∀ i x, p[i]? = some x → SegP p i x
theorem profile_Valid_is (p : List T_api_Segment) : Is (d_profile_Valid p) fun b => b = true ↔ PVal p := by
  unfold d_profile_Valid
  refine Is.ite (p := 128 < p.length) (by rw [decide_eq_true_iff]; omega) (fun h => Is.val (iff_of_false Bool.false_ne_true fun q => absurd q.1 (by omega))) (fun h => ?_)
  refine Is.all (L := p) (fun i x => SegP p i x) () (by omega) (fun i x hx hi _ => ?_) (by simp [d_profile_Valid_0]) (fun hn => Is.val (iff_of_true rfl ⟨by omega, hn⟩))
  unfold d_profile_Valid_0
  refine Is.inb hi (Is.at hx ?_)
  simp only [d_profile_coordinate, Option.bind_some, cond_some', Bool.cond_true_left]
  refine Is.ite (p := ¬ SegOK x) (by unfold SegOK; simp only [Bool.or_eq_true, Bool.not_eq_true', Bool.and_eq_false_iff, decide_eq_false_iff_not, decide_eq_true_eq]; omega) (fun hb => Is.val (iff_of_false Bool.false_ne_true fun q => hb (q.2 i x hx).1)) (fun hb => ?_)
  refine Is.bind (prev_is hi (by omega) (f := fun y => !(decide (x.From = y.To))) (q := fun y => x.From = y.To) fun y => by simp) fun b hb2 => ?_
  rw [← cond_some']
  refine Is.ite hb2 (fun hc => ?_) (fun hc => ?_)
  · exact Is.val (iff_of_false Bool.false_ne_true fun q => hc (q.2 i x hx).2)
  · exact Is.val ⟨rfl, Classical.not_not.1 hb, Classical.not_not.1 hc⟩
theorem ref10_Valid_is {p : List T_api_Segment} (h : p.length ≤ 1048576) : Is (d_ref10_Valid p) fun b => b = true ↔ PVal p := by
  unfold d_ref10_Valid
  refine Is.all (L := p) (fun i x => SegP p i x) () (by omega) (fun i x hx hi _ => ?_) (by simp [d_ref10_Valid_0]) (fun hn => Is.val ?_)
  · unfold d_ref10_Valid_0
    refine Is.inb hi (Is.at hx ?_)
    refine Is.bind (φ := fun b => b = true ↔ ¬ SegP p i x) ?_ fun b hb => Is.ite hb (fun hc => Is.val (iff_of_false Bool.false_ne_true fun q => hc (q.2 i x hx))) (fun hc => Is.val ⟨rfl, Classical.not_not.1 hc⟩)
    refine (Is.or (p := ¬ SegOK x) (q := ¬ ∀ y, 0 < i → p[i - 1]? = some y → x.From = y.To) (by unfold SegOK; simp only [Bool.or_eq_true, decide_eq_true_eq]; omega) fun _ => ?_).iff ?_
    · refine Is.bind (prev_is hi h (f := fun y => !(decide (y.To = x.From))) (q := fun y => x.From = y.To) fun y => by simp only [Bool.not_eq_true', decide_eq_false_iff_not]; exact not_congr eq_comm) fun b hb => Is.val hb
    · unfold SegP; rw [Classical.not_and_iff_not_or_not]
  · rw [decide_eq_true_iff]
    exact ⟨fun q => ⟨by omega, hn⟩, fun q => by have := q.1; omega⟩

def AVal (a : T_api_Authority) : Prop := ((1 ≤ a.Seq ∧ a.Seq ≤ 1073741824) ∧ PVal a.Profile) ∧ (∃ y, a.Profile[a.Profile.length - 1]? = some y ∧ y.To = a.End) ∧ LVal a.Links
theorem last_is {a : T_api_Authority} (h : a.Profile.length ≤ 1048576) {b : Bool} {p : Prop} (hb : b = true ↔ p) :
    Is (bif (b && (decide (0 < ((a.Profile.length : Nat) : Int)))) then (ixO a.Profile (w64 (((a.Profile.length : Nat) : Int) - 1))).bind fun x4 => some (decide (x4.To = a.End)) else some false) fun c => c = true ↔ p ∧ ∃ y, a.Profile[a.Profile.length - 1]? = some y ∧ y.To = a.End := by
  refine (Is.and (p := p ∧ 0 < a.Profile.length) (q := ∃ y, a.Profile[a.Profile.length - 1]? = some y ∧ y.To = a.End) (by rw [Bool.and_eq_true, hb, decide_eq_true_iff]; exact and_congr_right fun _ => by omega) fun hp => ?_).iff ?_
  · have hg : a.Profile[a.Profile.length - 1]? = some a.Profile[a.Profile.length - 1] := List.getElem?_eq_getElem (by omega)
    rw [w64_of (by omega) (by omega), show ((a.Profile.length : Nat) : Int) - 1 = ((a.Profile.length - 1 : Nat) : Int) by omega, ixO_nat hg]
    refine Is.dec ⟨fun e => ⟨_, hg, e⟩, fun ⟨y, hy, e⟩ => by rw [hg] at hy; cases hy; exact e⟩
  · refine ⟨fun q => ⟨q.1.1, q.2⟩, fun q => ⟨⟨q.1, ?_⟩, q.2⟩⟩
    obtain ⟨y, hy, _⟩ := q.2
    have := (List.getElem?_eq_some_iff.1 hy).1; omega
theorem authority_Valid_is {a : T_api_Authority} (h : a.Profile.length ≤ 1048576) : Is (d_authority_Valid a) fun b => b = true ↔ AVal a := by
  unfold d_authority_Valid
  simp only [bindId]
  refine Is.bind (Is.and (p := 1 ≤ a.Seq ∧ a.Seq ≤ 1073741824) (q := PVal a.Profile) (by simp) fun _ => profile_Valid_is _) fun b hb => ?_
  refine Is.bind (last_is h hb) fun c hc => ?_
  exact (Is.and hc fun _ => linking_Valid_is a.Links).iff ⟨fun q => ⟨q.1.1, q.1.2, q.2⟩, fun q => ⟨⟨q.1, q.2.1⟩, q.2.2⟩⟩
theorem ref45_Valid_is {a : T_api_Authority} (h : a.Profile.length ≤ 1048576) : Is (d_ref45_Valid a) fun b => b = true ↔ AVal a := by
  unfold d_ref45_Valid
  simp only [bindId]
  refine Is.bind (Is.and (p := 1 ≤ a.Seq ∧ a.Seq ≤ 1073741824) (q := PVal a.Profile) (by simp) fun _ => ref10_Valid_is h) fun b hb => ?_
  refine Is.bind (last_is h hb) fun c hc => ?_
  exact (Is.and hc fun _ => ref32_Valid_is a.Links).iff ⟨fun q => ⟨q.1.1, q.1.2, q.2⟩, fun q => ⟨⟨q.1, q.2.1⟩, q.2.2⟩⟩

theorem eqSeg (x y : T_api_Segment) : eq_T_api_Segment x y = true ↔ x = y := by cases x; cases y; simp [eq_T_api_Segment]
theorem ref10_Same_is {p q : List T_api_Segment} (h : p.length ≤ 1048576) : Is (d_ref10_Same p q) fun b => b = true ↔ p = q := eqLoop eqSeg h fun _ => rfl
theorem autEq (a b : T_api_Authority) : (((a.Seq = b.Seq ∧ a.End = b.End) ∧ a.Profile = b.Profile) ∧ a.Links = b.Links) ↔ a = b := by
  cases a; cases b; simp [and_assoc]
theorem ref45_Same_is {a b : T_api_Authority} (h : a.Profile.length ≤ 1048576) (h2 : a.Links.length ≤ 1048576) : Is (d_ref45_Same a b) fun r => r = true ↔ a = b := by
  unfold d_ref45_Same
  simp only [bindId]
  refine Is.bind (Is.and (p := a.Seq = b.Seq ∧ a.End = b.End) (by simp) fun _ => ref10_Same_is h) fun c hc => ?_
  exact (Is.and hc fun _ => ref32_Same_is h2).iff (autEq a b)

def atB (x : Int) (s : T_api_Segment) : Bool := decide (s.From ≤ x) && decide (x < s.To)
def AtS (p : List T_api_Segment) (x : Int) : T_api_Segment × Bool := match p.find? (atB x) with | some s => (s, true) | none => (⟨0, 0, 0, 0⟩, false)
theorem profile_At_eq {p : List T_api_Segment} (h : PVal p) (x : Int) : d_profile_At p x = some (AtS p x) := by
  unfold d_profile_At AtS
  obtain ⟨b, h1, h2⟩ := profile_Valid_is p
  rw [h1, h2.2 h]
  simp only [Option.bind_some, Bool.not_true, cond_false]
  have := h.1
  rw [loop_find (atB x) (fun s => .inr (s, true)) (.inl ()) p (by omega)]
  · cases p.find? (atB x) <;> rfl
  · intro i y hy
    have hi := lt_of_get hy
    simp only [d_profile_At_0, ixO_nat hy, show decide ((i : Int) < ((p.length : Nat) : Int)) = true by simp; omega, cond_true, Option.bind_some]
    rfl
  · simp [d_profile_At_0]
theorem PVal.step {p : List T_api_Segment} (h : PVal p) {i : Nat} {x y : T_api_Segment} (hx : p[i]? = some x) (hy : p[i + 1]? = some y) : y.From = x.To := (h.2 (i + 1) y hy).2 x (by omega) (by simpa using hx)
theorem PVal.ok {p : List T_api_Segment} (h : PVal p) {i : Nat} {x : T_api_Segment} (hx : p[i]? = some x) : SegOK x := (h.2 i x hx).1
theorem PVal.before {p : List T_api_Segment} (h : PVal p) {i : Nat} {x : T_api_Segment} (hx : p[i]? = some x) : ∀ {j : Nat} {y : T_api_Segment}, p[j]? = some y → i < j → x.To ≤ y.From := by
  intro j
  induction j with
  | zero => intro y _ hij; omega
  | succ j ih =>
    intro y hy hij
    have hj : j < p.length := by have := lt_of_get hy; omega
    have hz : p[j]? = some p[j] := List.getElem?_eq_getElem hj
    have e := h.step hz hy
    by_cases hji : i = j
    · subst hji; rw [hx] at hz; cases hz; omega
    · have := ih hz (by omega); have := (h.ok hz).2.1; omega
theorem PVal.at {p : List T_api_Segment} (h : PVal p) {s : T_api_Segment} (hs : s ∈ p) {x : Int} (h1 : s.From ≤ x) (h2 : x < s.To) : AtS p x = (s, true) := by
  unfold AtS
  have hb : atB x s = true := by simp [atB, h1, h2]
  cases hf : p.find? (atB x) with
  | none => exact absurd hb (by have := List.find?_eq_none.1 hf s hs; simpa using this)
  | some t =>
    have ht := List.find?_some hf
    have hm := List.mem_of_find?_eq_some hf
    obtain ⟨i, hi⟩ := List.getElem?_of_mem hs
    obtain ⟨j, hj⟩ := List.getElem?_of_mem hm
    simp only [atB, Bool.and_eq_true, decide_eq_true_eq] at ht
    have : i = j := by
      rcases Nat.lt_trichotomy i j with q | q | q
      · have := h.before hi hj q; omega
      · exact q
      · have := h.before hj hi q; omega
    subst this; rw [hi] at hj; cases hj; rfl
theorem PVal.ex {p : List T_api_Segment} (h : PVal p) {f l : T_api_Segment} (hf : p[0]? = some f) (hl : p[p.length - 1]? = some l) {x : Int} (h1 : f.From ≤ x) (h2 : x < l.To) : ∃ s ∈ p, s.From ≤ x ∧ x < s.To := by
  suffices ∀ (i : Nat) y, p[i]? = some y → x < y.To → ∃ s ∈ p, s.From ≤ x ∧ x < s.To from this _ l hl h2
  intro i
  induction i with
  | zero => intro y hy hlt; rw [hf] at hy; cases hy; exact ⟨f, List.mem_of_getElem? hf, h1, hlt⟩
  | succ i ih =>
    intro y hy hlt
    by_cases hc : y.From ≤ x
    · exact ⟨y, List.mem_of_getElem? hy, hc, hlt⟩
    · have hi : i < p.length := by have := lt_of_get hy; omega
      have hz : p[i]? = some p[i] := List.getElem?_eq_getElem hi
      exact ih p[i] hz (by have := h.step hz hy; omega)

theorem AVal.first {a : T_api_Authority} (h : AVal a) : ∃ f l, a.Profile[0]? = some f ∧ a.Profile[a.Profile.length - 1]? = some l ∧ l.To = a.End ∧ 0 < a.Profile.length := by
  obtain ⟨_, ⟨y, hy, e⟩, _⟩ := h
  have := lt_of_get hy
  exact ⟨_, y, List.getElem?_eq_getElem (by omega), hy, e, by omega⟩
theorem law45_alive_eq : d_law45_alive = some true := by kernel_rfl
end PM
