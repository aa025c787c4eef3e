/-
  PLAIN, AUTHORITY B: a profile that is cut, and the law of parts.
-/
import Derived.Test.YtcobolgkboknbaaDoorAutA
namespace PM
open Go Go.RowKit

def Cont : Int → List T_api_Segment → Int → Prop
  | a, [], b => a = b
  | a, s :: p, b => s.From = a ∧ SegOK s ∧ Cont s.To p b
theorem Cont.get : ∀ {p : List T_api_Segment} {a b : Int}, Cont a p b → ∀ {i : Nat} {x : T_api_Segment}, p[i]? = some x → SegP p i x
  | [], _, _, _, i, x, h => by simp at h
  | s :: p, a, b, hc, 0, x, h => by
    simp at h; subst h
    exact ⟨hc.2.1, fun y h0 => by omega⟩
  | s :: p, a, b, hc, i + 1, x, h => by
    have h' : p[i]? = some x := by simpa using h
    obtain ⟨h1, h2⟩ := Cont.get hc.2.2 h'
    refine ⟨h1, fun y _ hy => ?_⟩
    rw [Nat.add_sub_cancel] at hy
    cases i with
    | zero =>
      simp at hy; subst hy
      cases p with
      | nil => simp at h'
      | cons u p => simp at h'; subst h'; exact hc.2.2.1
    | succ i => exact h2 y (by omega) (by simpa using hy)
theorem Cont.first {p : List T_api_Segment} {a b : Int} (hc : Cont a p b) {f : T_api_Segment} (hf : p[0]? = some f) : f.From = a := by
  cases p with
  | nil => simp at hf
  | cons s p => simp at hf; subst hf; exact hc.1
theorem Cont.last : ∀ {p : List T_api_Segment} {a b : Int}, Cont a p b → ∀ {l : T_api_Segment}, p[p.length - 1]? = some l → l.To = b
  | [], _, _, _, l, h => by simp at h
  | [s], a, b, hc, l, h => by simp at h; subst h; exact hc.2.2
  | s :: u :: p, a, b, hc, l, h => Cont.last hc.2.2 (l := l) (by simpa using h)
theorem cont_of : ∀ {p : List T_api_Segment}, (∀ i x, p[i]? = some x → SegP p i x) → ∀ {f l : T_api_Segment}, p[0]? = some f → p[p.length - 1]? = some l → Cont f.From p l.To
  | [], _, f, l, hf, _ => by simp at hf
  | [s], h, f, l, hf, hl => by
    simp at hf hl; subst hf; subst hl
    exact ⟨rfl, (h 0 _ rfl).1, rfl⟩
  | s :: u :: p, h, f, l, hf, hl => by
    simp at hf; subst hf
    have h1 := (h 1 u rfl).2 s (by omega) rfl
    have ih := cont_of (p := u :: p) (fun i x hx => by
      obtain ⟨q1, q2⟩ := h (i + 1) x (by simpa using hx)
      refine ⟨q1, fun y h0 hy => q2 y (by omega) ?_⟩
      rw [Nat.add_sub_cancel]
      obtain ⟨j, rfl⟩ := Nat.exists_eq_succ_of_ne_zero (Nat.pos_iff_ne_zero.1 h0)
      simpa using hy) (f := u) (l := l) rfl (by simpa using hl)
    exact ⟨rfl, (h 0 s rfl).1, by rw [← h1]; exact ih⟩
def clipS (f t : Int) (s : T_api_Segment) : T_api_Segment := ⟨max s.From f, min s.To t, s.Grade, s.Speed⟩
def cutS (p : List T_api_Segment) (f t : Int) : List T_api_Segment := (p.filter fun s => decide (max s.From f < min s.To t)).map (clipS f t)
theorem profile_Cut_eq {p : List T_api_Segment} (h : PVal p) (f t : Int) : d_profile_Cut p f t = some (cutS p f t) := by
  suffices Is (d_profile_Cut p f t) fun r => r = cutS p f t by obtain ⟨r, h, rfl⟩ := this; exact h
  unfold d_profile_Cut
  obtain ⟨b, h1, h2⟩ := profile_Valid_is p
  rw [h1, h2.2 h]
  have hl := h.1
  have hlen : ∀ i, (cutS (p.take i) f t).length ≤ i := fun i => by
    unfold cutS
    rw [List.length_map]
    exact Nat.le_trans (List.length_filter_le _ _) (by simp; omega)
  simp only [Option.bind_some, Bool.not_true, cond_false]
  refine Is.fold (L := p) (mk := fun i (m : List T_api_Segment) => (i, m)) (fun i m => m = cutS (p.take i) f t) [] (by omega) rfl (fun i x m hx hi hI => ?_) (fun m hI => ?_)
  · subst hI
    unfold d_profile_Cut_0
    refine Is.inb hi ?_
    refine Is.onInl (θ := fun o => o = .inl (cutS (p.take (i + 1)) f t)) (Is.at hx ?_) (fun v hv => Is.val ⟨cutS (p.take (i + 1)) f t, by cases hv; rfl, rfl⟩) (fun b hb => by cases hb)
    have ht : cutS (p.take (i + 1)) f t = cutS (p.take i) f t ++ (if max x.From f < min x.To t then [clipS f t x] else []) := by
      rw [take_get hx]
      unfold cutS
      rw [List.filter_append, List.map_append]
      congr 1
      by_cases hc : max x.From f < min x.To t <;> simp [hc]
    simp only [d_profile_span_part, Option.bind_some]
    refine Is.ite (p := max x.From f < min x.To t) dec_iff (fun hb => ?_) (fun hb => Is.val ?_)
    · rw [if_pos hb] at ht
      refine Is.bind (Is.app ?_) fun M hM => Is.val ?_
      · have := hlen i
        simp only [List.length_cons, List.length_nil, sizeMax, Enc.b]; omega
      · rw [hM, ht]; rfl
    · rw [ht, if_neg hb, List.append_nil]
  · subst hI
    unfold d_profile_Cut_0
    refine Is.oub (Is.val ?_)
    rw [List.take_length]
    exact Is.val rfl
theorem Cont.cut0 {f t : Int} : ∀ {p : List T_api_Segment} {a b : Int}, Cont a p b → t ≤ a → cutS p f t = []
  | [], _, _, _, _ => rfl
  | s :: p, a, b, hc, ht => by
    have h1 := hc.1; have h2 := hc.2.1.2.1
    have ih := Cont.cut0 (f := f) (t := t) hc.2.2 (by omega)
    unfold cutS at ih ⊢
    rw [List.filter_cons, if_neg (show ¬ (decide (max s.From f < min s.To t) = true) by rw [decide_eq_true_iff]; omega)]
    exact ih
theorem Cont.cut {f t : Int} : ∀ {p : List T_api_Segment} {a b : Int}, Cont a p b → f ≤ a → a < t → t ≤ b → Cont a (cutS p f t) t
  | [], a, b, hc, _, h1, h2 => by
    have : a = b := hc
    omega
  | s :: p, a, b, hc, hf, h1, h2 => by
    obtain ⟨e, ok, hr⟩ := hc
    have ok' := ok
    unfold SegOK at ok'
    have hk : decide (max s.From f < min s.To t) = true := decide_eq_true (by omega)
    have hcut : cutS (s :: p) f t = clipS f t s :: cutS p f t := by
      unfold cutS; rw [List.filter_cons, if_pos hk]; rfl
    rw [hcut]
    by_cases ht : t ≤ s.To
    · rw [hr.cut0 ht]
      refine ⟨by simp only [clipS]; omega, by unfold SegOK; simp only [clipS]; omega, ?_⟩
      show (clipS f t s).To = t
      simp only [clipS]; omega
    · refine ⟨by simp only [clipS]; omega, by unfold SegOK; simp only [clipS]; omega, ?_⟩
      have e2 : (clipS f t s).To = s.To := by simp only [clipS]; omega
      rw [e2]
      exact Cont.cut hr (by omega) (by omega) h2
theorem below_true {p q : List T_api_Segment} (hp : PVal p) (hq : PVal q) {f l : T_api_Segment} (hf : p[0]? = some f) (hl : p[p.length - 1]? = some l)
    (hag : ∀ x, f.From ≤ x → x < l.To → ∃ s t, AtS p x = (s, true) ∧ AtS q x = (t, true) ∧ x < s.To ∧ x < t.To ∧ s.Grade = t.Grade ∧ s.Speed ≤ t.Speed) : d_law45_below p q = some true := by
  suffices Is (d_law45_below p q) fun r => r = true by obtain ⟨r, h, rfl⟩ := this; exact h
  unfold d_law45_below
  have h1 := hp.1; have h2 := hq.1; have h0 := lt_of_get hf
  rw [decide_eq_false (show ¬ (((p.length : Nat) : Int) = 0) by omega), decide_eq_false (show ¬ (300 : Int) < ((p.length : Nat) : Int) by omega), decide_eq_false (show ¬ (300 : Int) < ((q.length : Nat) : Int) by omega)]
  simp only [cond_false, Option.bind_some]
  rw [w64_of (by omega) (by omega), show ((p.length : Nat) : Int) - 1 = ((p.length - 1 : Nat) : Int) by omega, ixO_nat hl, show ixO p 0 = some f from ixO_nat hf]
  simp only [Option.bind_some]
  refine Is.onInl (θ := fun o => o = .inl ()) ?_ (fun _ _ => Is.val rfl) (fun b hb => by cases hb)
  refine Is.wf (fun x => f.From ≤ x) (fun x => (l.To - x).toNat) (fun x hx => ?_) _ _ (Nat.le_refl _) (Int.le_refl _)
  unfold d_law45_below_0
  by_cases hlt : x < l.To
  · obtain ⟨s, t, e1, e2, e3, e4, e5, e6⟩ := hag x hx hlt
    rw [decide_eq_true hlt, cond_true, profile_At_eq hp, profile_At_eq hq, e1, e2]
    simp only [Option.bind_some, e5, decide_true, Bool.not_true, Bool.false_or]
    rw [decide_eq_false (show ¬ t.Speed < s.Speed by omega), decide_eq_false (show ¬ min s.To t.To ≤ x by omega)]
    simp only [Bool.or_self, cond_false]
    exact Is.val ⟨by omega, by omega⟩
  · rw [decide_eq_false hlt, cond_false]
    exact Is.val rfl
end PM
