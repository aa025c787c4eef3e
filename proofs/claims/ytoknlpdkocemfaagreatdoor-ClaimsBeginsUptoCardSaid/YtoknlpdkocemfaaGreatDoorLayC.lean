/-
  PLAIN, LAYOUT C: elements, joints, signals, balises: the program's check returns the first error.
-/
import Derived.Test.YtoknlpdkocemfaaGreatDoorLayB
namespace PM
open Go Go.RowKit

instance (priority := 1) endDec : DecidableEq T_api_End := fun x y => decidable_of_iff _ (eqEnd_iff x y)

theorem right_within (l : T_api_Layout) (x : T_api_Element) (h : l.Sections.length ≤ 1048576) :
    (RightP l x ↔ ((((1 ≤ x.Kind ∧ x.Kind ≤ 3) ∧ (500 ≤ x.Length ∧ x.Length ≤ 1000000)) ∧ (-50 ≤ x.Grade ∧ x.Grade ≤ 50)) ∧ (100 ≤ x.Speed ∧ x.Speed ≤ 10000)) ∧ (0 ≤ x.Section ∧ x.Section ≤ w64 (((l.Sections.length : Nat) : Int) - 1)) ∧
      ¬ ((x.Kind = 2 ∧ ¬ (100 ≤ x.Slow ∧ x.Slow ≤ x.Speed)) ∨ (x.Kind ≠ 2 ∧ x.Slow ≠ 0))) := by
  rw [w64_of (by omega) (by omega)]
  unfold RightP
  by_cases h2 : x.Kind = 2 <;> simp [h2] <;> omega
theorem elementsFit_is {l : T_api_Layout} (h : Sm l) : Is (d_layout_elementsFit l) fun b => b = true ↔ ∀ x ∈ l.Elements, RightP l x := by
  unfold d_layout_elementsFit
  have g1 := h.sec; have g2 := h.el
  refine Is.all (L := l.Elements) (fun _ x => RightP l x) () (by omega) (fun i x hx hi _ => ?_) ?_ (fun hn => ?_)
  · unfold d_layout_elementsFit_0
    have hm := List.mem_of_getElem? hx
    refine Is.inb hi (Is.at hx ?_)
    simp only [lwithin_eq, Option.bind_some, cond_some, Bool.cond_true_left, Bool.cond_false_right]
    have e := right_within l x g1
    refine Is.ite (p := ¬ ((((1 ≤ x.Kind ∧ x.Kind ≤ 3) ∧ (500 ≤ x.Length ∧ x.Length ≤ 1000000)) ∧ (-50 ≤ x.Grade ∧ x.Grade ≤ 50)) ∧ (100 ≤ x.Speed ∧ x.Speed ≤ 10000)) ∨ ¬ (0 ≤ x.Section ∧ x.Section ≤ w64 (((l.Sections.length : Nat) : Int) - 1)))
      (by simp only [Bool.or_eq_true, Bool.not_eq_true', decide_eq_false_iff_not]; omega) (fun hb => Is.val ?_) (fun hb => ?_)
    · refine iff_of_false Bool.false_ne_true fun q => ?_
      have := e.1 (q x hm); omega
    · refine Is.ite (p := (x.Kind = 2 ∧ ¬ (100 ≤ x.Slow ∧ x.Slow ≤ x.Speed)) ∨ (x.Kind ≠ 2 ∧ x.Slow ≠ 0)) (by simp only [Bool.or_eq_true, Bool.and_eq_true, Bool.not_eq_true', decide_eq_false_iff_not, decide_eq_true_eq, ne_eq]) (fun hc => Is.val ?_) (fun hc => Is.val ⟨rfl, ?_⟩)
      · refine iff_of_false Bool.false_ne_true fun q => ?_
        exact (e.1 (q x hm)).2.2 hc
      · exact e.2 ⟨by omega, by omega, hc⟩
  · simp [d_layout_elementsFit_0]
  · exact Is.val (iff_of_true rfl (mem_iff_get.1 hn))
def memS (s : Int) (L : List T_api_Element) : Nat → List Int
  | 0 => []
  | n + 1 => memS s L n ++ (match L[n]? with | some x => if x.Section = s then [(n : Int)] else [] | none => [])
theorem memS_len (s : Int) (L : List T_api_Element) : ∀ n, (memS s L n).length ≤ n
  | 0 => Nat.le_refl _
  | n + 1 => by
    have ih := memS_len s L n
    simp only [memS, List.length_append]
    split
    · split <;> simp <;> omega
    · simp; omega
theorem memS_mem {s : Int} {L : List T_api_Element} {k : Int} : ∀ {n}, k ∈ memS s L n ↔ ∃ i x, i < n ∧ L[i]? = some x ∧ x.Section = s ∧ k = (i : Nat)
  | 0 => by simp [memS]
  | n + 1 => by
    simp only [memS, List.mem_append, memS_mem (n := n)]
    constructor
    · rintro (⟨i, x, h1, h2⟩ | h)
      · exact ⟨i, x, by omega, h2⟩
      · split at h
        · rename_i x hx
          split at h
          · rename_i hs
            exact ⟨n, x, by omega, hx, hs, by simpa using h⟩
          · cases h
        · cases h
    · rintro ⟨i, x, h1, h2, h3, h4⟩
      by_cases e : i = n
      · subst e
        right
        rw [h2]
        simp [h3, h4]
      · exact .inl ⟨i, x, by omega, h2, h3, h4⟩
theorem memS_nil {s : Int} {L : List T_api_Element} : (memS s L L.length).length = 0 ↔ ¬ ∃ x ∈ L, x.Section = s := by
  rw [List.length_eq_zero_iff, List.eq_nil_iff_forall_not_mem]
  constructor
  · rintro h ⟨x, hx, e⟩
    obtain ⟨i, hi⟩ := List.getElem?_of_mem hx
    exact h i (memS_mem.2 ⟨i, x, lt_of_get hi, hi, e, rfl⟩)
  · rintro h k hk
    obtain ⟨i, x, _, h2, h3, _⟩ := memS_mem.1 hk
    exact h ⟨x, List.mem_of_getElem? h2, h3⟩
def membersS (l : T_api_Layout) (s : Int) : List Int := if 0 ≤ s ∧ s < (l.Sections.length : Nat) then memS s l.Elements l.Elements.length else []
theorem layout_Members_eq {l : T_api_Layout} (h : l.Elements.length ≤ 1048576) (s : Int) : d_layout_Members l s = some (membersS l s) := by
  suffices hs : Is (d_layout_Members l s) fun r => r = membersS l s by
    obtain ⟨r, h1, h2⟩ := hs; rw [h1, h2]
  unfold d_layout_Members
  simp only [cond_some, Option.bind_some, Bool.cond_true_left]
  refine Is.ite (p := ¬ (0 ≤ s ∧ s < (l.Sections.length : Nat))) (by simp; omega) (fun hb => Is.val (by rw [membersS, if_neg hb])) (fun hb => ?_)
  rw [membersS, if_pos (Classical.not_not.1 hb)]
  refine Is.fold (L := l.Elements) (mk := fun i m => (i, m)) (fun i m => m = memS s l.Elements i) [] (by omega) rfl (fun i x m hx hi hI => ?_) (fun m hI => ?_)
  · subst hI
    unfold d_layout_Members_0
    refine Is.inb hi ?_
    refine Is.onInl (θ := fun o => o = .inl (memS s l.Elements (i + 1))) (Is.at hx (Is.ite dec_iff (fun hc => ?_) (fun hc => Is.val ?_))) (fun v hv => ?_) (fun b hb => by cases hb)
    · have := memS_len s l.Elements i
      refine Is.bind (Is.app (by simp only [List.length_cons, List.length_nil, sizeMax, Enc.b]; omega)) fun M hM => Is.val ?_
      rw [hM]; simp [memS, hx, hc]
    · simp [memS, hx, hc]
    · cases hv; exact Is.val ⟨_, rfl, rfl⟩
  · subst hI
    unfold d_layout_Members_0
    exact Is.oub (Is.val (Is.val rfl))
theorem ref07_Members_eq {l : T_api_Layout} (h : l.Elements.length ≤ 1048576) (s : Int) : d_ref07_Members l s = some (membersS l s) := by
  suffices hs : Is (d_ref07_Members l s) fun r => r = membersS l s by
    obtain ⟨r, h1, h2⟩ := hs; rw [h1, h2]
  unfold d_ref07_Members
  refine Is.fold (L := l.Elements) (mk := fun i m => (i, m)) (fun i m => m = if 0 ≤ s ∧ s < (l.Sections.length : Nat) then memS s l.Elements i else []) [] (by omega) (by simp [memS]) (fun i x m hx hi hI => ?_) (fun m hI => ?_)
  · unfold d_ref07_Members_0
    refine Is.inb hi ?_
    refine Is.onInl (θ := fun o => o = .inl (if 0 ≤ s ∧ s < (l.Sections.length : Nat) then memS s l.Elements (i + 1) else [])) (Is.at hx ?_) (fun v hv => ?_) (fun b hb => by cases hb)
    · simp only [cond_some, Option.bind_some, Bool.cond_false_right]
      refine Is.ite (p := x.Section = s ∧ 0 ≤ s ∧ s < (l.Sections.length : Nat)) (by simp; omega) (fun hc => ?_) (fun hc => Is.val ?_)
      · rw [if_pos hc.2] at hI ⊢
        have := memS_len s l.Elements i
        refine Is.bind (Is.app (by subst hI; simp only [List.length_cons, List.length_nil, sizeMax, Enc.b]; omega)) fun M hM => Is.val ?_
        rw [hM, hI]; simp [memS, hx, hc.1]
      · subst hI
        by_cases hr : 0 ≤ s ∧ s < (l.Sections.length : Nat)
        · have : ¬ x.Section = s := fun e => hc ⟨e, hr⟩
          rw [if_pos hr, if_pos hr]; simp [memS, hx, this]
        · rw [if_neg hr, if_neg hr]
    · cases hv; exact Is.val ⟨_, rfl, rfl⟩
  · unfold d_ref07_Members_0
    exact Is.oub (Is.val (Is.val hI))
theorem members_used {l : T_api_Layout} {s : Nat} (h : s < l.Sections.length) : (((membersS l (s : Int)).length : Nat) : Int) = 0 ↔ ¬ ∃ x ∈ l.Elements, x.Section = (s : Nat) := by
  rw [membersS, if_pos (by omega)]
  rw [← memS_nil]; omega
theorem sectionsUsed_is {l : T_api_Layout} (h : Sm l) : Is (d_layout_sectionsUsed l) fun b => b = true ↔ UsedP l := by
  unfold d_layout_sectionsUsed
  have g1 := h.sec
  refine Is.all (L := l.Sections) (fun i _ => ∃ x ∈ l.Elements, x.Section = (i : Nat)) () (by omega) (fun i x hx hi _ => ?_) ?_ (fun hn => ?_)
  · unfold d_layout_sectionsUsed_0
    refine Is.inb hi (Is.to (layout_Members_eq h.el _) ?_)
    refine Is.ite (dec_iff.trans (members_used hi)) (fun hb => Is.val (iff_of_false Bool.false_ne_true fun q => hb (q i hi))) (fun hb => Is.val ⟨rfl, Classical.not_not.1 hb⟩)
  · simp [d_layout_sectionsUsed_0]
  · exact Is.val (iff_of_true rfl fun s hs => hn s l.Sections[s] (List.getElem?_eq_getElem hs))
theorem rail_Sides_eq (a : Int) : d_rail_Sides a = some (sidesS a) := by
  unfold d_rail_Sides sidesS
  by_cases h : a < 0 ∨ 4 ≤ a
  · have e : (decide (a < 0) || decide (4 ≤ a)) = true := by simpa using h
    rw [e, cond_true]
    rw [if_neg (by omega), if_neg (by omega), if_neg (by omega)]
  · have e : (decide (a < 0) || decide (4 ≤ a)) = false := by simpa using h
    rw [e, cond_false]
    have : a = 0 ∨ a = 1 ∨ a = 2 ∨ a = 3 := by omega
    rcases this with rfl | rfl | rfl | rfl <;> rfl
theorem sidesS_le (a : Int) : 0 ≤ sidesS a ∧ sidesS a ≤ 4 := by
  unfold sidesS; (repeat' split) <;> omega
theorem layout_exists_eq {l : T_api_Layout} (h : l.Elements.length ≤ 1048576) (e : T_api_End) : d_layout_exists l e = some (exS l e) := by
  unfold d_layout_exists exS
  have h1 : decide (0 ≤ e.El ∧ e.El ≤ w64 (((l.Elements.length : Nat) : Int) - 1)) = hasEl l e.El := by
    rw [w64_of (by omega) (by omega)]
    unfold hasEl
    rw [Bool.eq_iff_iff]; simp; omega
  simp only [lwithin_eq, Option.bind_some, h1]
  cases hh : hasEl l e.El with
  | false => rfl
  | true =>
    obtain ⟨x, h2, h3⟩ := hasEl_get hh
    have := sidesS_le x.Kind
    simp only [cond_true, h2, h3, rail_Sides_eq, Option.bind_some, w64_of (n := sidesS x.Kind - 1) (by omega) (by omega)]
    rw [Option.some.injEq, Bool.eq_iff_iff]; simp; omega
def jf (L : List T_api_Joint) (e : T_api_End) : Option T_api_End := (L.find? fun j => eq_T_api_End j.A e || eq_T_api_End j.B e).map fun j => bif eq_T_api_End j.A e then j.B else j.A
theorem jf_join (l : T_api_Layout) (e : T_api_End) : joinS l e = match jf l.Joints e with | some f => (f, true) | none => (⟨0, 0⟩, false) := by
  unfold joinS jf
  cases l.Joints.find? fun j => eq_T_api_End j.A e || eq_T_api_End j.B e <;> rfl
theorem jf_snoc (L : List T_api_Joint) (j : T_api_Joint) (e : T_api_End) : jf (L ++ [j]) e = (jf L e).or (jf [j] e) := by
  unfold jf
  rw [List.find?_append]
  cases L.find? fun j => eq_T_api_End j.A e || eq_T_api_End j.B e <;> simp
theorem jf_isSome {L : List T_api_Joint} {e : T_api_End} : (jf L e).isSome = true ↔ e ∈ endsOf L := by
  unfold jf
  rw [Option.isSome_map, List.find?_isSome]
  simp only [Bool.or_eq_true, eqEnd_iff, endsOf, List.mem_flatMap, List.mem_cons, List.not_mem_nil, or_false]
  exact ⟨fun ⟨x, h1, h2⟩ => ⟨x, h1, h2.imp Eq.symm Eq.symm⟩, fun ⟨x, h1, h2⟩ => ⟨x, h1, h2.imp Eq.symm Eq.symm⟩⟩
theorem endSelf (e : T_api_End) : eq_T_api_End e e = true := (eqEnd_iff e e).2 rfl
theorem eqEnd_ne {e f : T_api_End} (h : e ≠ f) : eq_T_api_End e f = false := by
  cases q : eq_T_api_End e f
  · rfl
  · exact absurd ((eqEnd_iff e f).1 q) h
theorem jf_one (j : T_api_Joint) (h : j.A ≠ j.B) (e : T_api_End) : jf [j] e = if e = j.B then some j.A else if e = j.A then some j.B else none := by
  by_cases h1 : e = j.B
  · subst h1
    simp [jf, endSelf, eqEnd_ne h]
  · rw [if_neg h1]
    by_cases h2 : e = j.A
    · subst h2
      simp [jf, endSelf]
    · simp [jf, eqEnd_ne (Ne.symm h1), eqEnd_ne (Ne.symm h2), h2]
theorem joinEnds_is {l : T_api_Layout} (h : Sm l) : Is (d_layout_joinEnds l) fun r => (¬ JointP l ∧ r.2 = 1) ∨ (JointP l ∧ ¬ (endsOf l.Joints).Nodup ∧ r.2 = 8) ∨ (JointP l ∧ (endsOf l.Joints).Nodup ∧ r.2 = 0 ∧ ∀ e, mget r.1 e = jf l.Joints e) := by
  unfold d_layout_joinEnds
  have g3 := h.jo
  refine Is.all (L := l.Joints) (fun _ j => exS l j.A = true ∧ exS l j.B = true ∧ j.A ≠ j.B) () (by omega) (fun i x hx hi _ => ?_) ?_ (fun hJ => ?_)
  · unfold d_layout_joinEnds_0
    refine Is.inb hi (Is.at hx ?_)
    simp only [layout_exists_eq h.el, Option.bind_some, cond_some, Bool.cond_true_left]
    refine Is.ite (p := ¬ (exS l x.A = true ∧ exS l x.B = true ∧ x.A ≠ x.B)) (by simp only [Bool.or_eq_true, Bool.not_eq_true', eqEnd_iff]; cases exS l x.A <;> cases exS l x.B <;> simp) (fun hb => Is.val (.inl ⟨fun q => hb (q x (List.mem_of_getElem? hx)), rfl⟩)) (fun hb => Is.val ⟨rfl, Classical.not_not.1 hb⟩)
  · simp [d_layout_joinEnds_0]
  have hJ : JointP l := mem_iff_get.1 hJ
  refine Is.fold (L := l.Joints) (mk := fun i m => (i, m)) (fun i m => (∀ e, mget m e = jf (l.Joints.take i) e) ∧ (endsOf (l.Joints.take i)).Nodup) [] (by omega) ⟨fun e => by simp [mget_nil, jf], by simp [endsOf]⟩ (fun i x m hx hi hI => ?_) (fun m hI => ?_)
  · unfold d_layout_joinEnds_1
    refine Is.inb hi (Is.at hx ?_)
    have hx' := hJ x (List.mem_of_getElem? hx)
    rw [hI.1, hI.1]
    have e1 : endsOf (l.Joints.take (i + 1)) = endsOf (l.Joints.take i) ++ [x.A, x.B] := by rw [take_get hx, endsOf_snoc]
    refine Is.ite (p := x.A ∈ endsOf (l.Joints.take i) ∨ x.B ∈ endsOf (l.Joints.take i)) (or_iff_of jf_isSome jf_isSome) (fun hb => Is.val (.inr (.inl ⟨hJ, fun hn => ?_, rfl⟩))) (fun hb => Is.val ⟨_, rfl, ?_, ?_⟩)
    · have h2 : (endsOf (l.Joints.take (i + 1))).Nodup := by
        have : endsOf l.Joints = endsOf (l.Joints.take (i + 1)) ++ endsOf (l.Joints.drop (i + 1)) := by
          unfold endsOf
          rw [← List.flatMap_append, List.take_append_drop]
        rw [this, List.nodup_append] at hn
        exact hn.1
      rw [e1, List.nodup_append] at h2
      rcases hb with hb | hb
      · exact h2.2.2 _ hb x.A (by simp) rfl
      · exact h2.2.2 _ hb x.B (by simp) rfl
    · intro e
      rw [take_get hx, jf_snoc, mgetS, mgetS, hI.1, jf_one x hx'.2.2]
      have hA : jf (l.Joints.take i) x.A = none := by
        rw [← Option.not_isSome_iff_eq_none, jf_isSome]; exact fun q => hb (.inl q)
      have hB : jf (l.Joints.take i) x.B = none := by
        rw [← Option.not_isSome_iff_eq_none, jf_isSome]; exact fun q => hb (.inr q)
      by_cases q1 : e = x.B
      · subst q1; simp [hB]
      · by_cases q2 : e = x.A
        · subst q2; simp [hA, q1]
        · simp [q1, q2]
    · rw [e1, List.nodup_append]
      refine ⟨hI.2, by simpa using hx'.2.2, fun a ha b hb2 e => ?_⟩
      subst e
      simp only [List.mem_cons, List.not_mem_nil, or_false] at hb2
      rcases hb2 with e | e
      · exact hb (.inl (e ▸ ha))
      · exact hb (.inr (e ▸ ha))
  · unfold d_layout_joinEnds_1
    rw [List.take_length] at hI
    exact Is.oub (Is.val (Is.val (.inr (.inr ⟨hJ, hI.2, rfl, hI.1⟩))))
def sigF (L : List T_api_Signal) (e : T_api_End) : Int := match L.findIdx? fun s => eq_T_api_End s.At e with | some i => (i : Nat) | none => -1
theorem sigF_some {L : List T_api_Signal} {e : T_api_End} {i : Nat} {x : T_api_Signal} (hx : L[i]? = some x) (hi : x.At = e) (hp : ∀ j y, j < i → L[j]? = some y → y.At ≠ e) : sigF L e = (i : Nat) := by
  have : L.findIdx? (fun s => eq_T_api_End s.At e) = some i := by
    obtain ⟨h1, h2⟩ := List.getElem?_eq_some_iff.1 hx
    rw [List.findIdx?_eq_some_iff_getElem]
    refine ⟨h1, by rw [h2, hi]; exact endSelf e, fun j hj => ?_⟩
    rw [eqEnd_ne (hp j L[j] hj (List.getElem?_eq_getElem (by omega)))]; simp
  rw [sigF, this]
theorem sigF_none {L : List T_api_Signal} {e : T_api_End} (h : ∀ s ∈ L, s.At ≠ e) : sigF L e = -1 := by
  have : L.findIdx? (fun s => eq_T_api_End s.At e) = none := by
    rw [List.findIdx?_eq_none_iff]
    exact fun s hs => eqEnd_ne (h s hs)
  rw [sigF, this]
theorem layout_Signal_eq {l : T_api_Layout} (h : l.Signals.length ≤ 1048576) (e : T_api_End) : d_layout_Signal l e = some (sigF l.Signals e) := by
  suffices hs : Is (d_layout_Signal l e) fun r => r = sigF l.Signals e by
    obtain ⟨r, h1, h2⟩ := hs; rw [h1, h2]
  unfold d_layout_Signal
  refine Is.all (L := l.Signals) (fun _ s => s.At ≠ e) () (by omega) (fun i x hx hi hp => ?_) ?_ (fun hn => ?_)
  · unfold d_layout_Signal_0
    refine Is.inb hi (Is.at hx (Is.ite (eqEnd_iff _ _) (fun hc => Is.val (sigF_some hx hc hp).symm) (fun hc => Is.val ⟨rfl, hc⟩)))
  · simp [d_layout_Signal_0]
  · exact Is.val (sigF_none (mem_iff_get.1 hn)).symm
theorem sigF_nodup {L : List T_api_Signal} : (∀ (i : Nat) x, L[i]? = some x → sigF L x.At = (i : Nat)) ↔ (L.map (·.At)).Nodup := by
  constructor
  · intro h
    rw [List.Nodup, List.pairwise_map, List.pairwise_iff_getElem]
    intro i j hi hj hij e
    have h1 := h i L[i] (List.getElem?_eq_getElem hi)
    have h2 := h j L[j] (List.getElem?_eq_getElem hj)
    rw [e] at h1; omega
  · intro h i x hx
    refine sigF_some hx rfl fun j y hj hy e => ?_
    rw [List.Nodup, List.pairwise_map, List.pairwise_iff_getElem] at h
    obtain ⟨h1, h2⟩ := List.getElem?_eq_some_iff.1 hx
    obtain ⟨h3, h4⟩ := List.getElem?_eq_some_iff.1 hy
    exact h j i h3 h1 hj (by rw [h2, h4]; exact e)
theorem layout_Section_eq (l : T_api_Layout) (i : Int) : d_layout_Section l i = some (secE l i) := by
  unfold d_layout_Section secE
  simp only [cond_some, Option.bind_some, Bool.cond_true_left]
  have e : (decide (i < 0) || decide (((l.Elements.length : Nat) : Int) ≤ i)) = !hasEl l i := by
    unfold hasEl; rw [Bool.eq_iff_iff]; simp
  rw [e]
  cases h : hasEl l i with
  | false => rfl
  | true =>
    obtain ⟨x, h2, h3⟩ := hasEl_get h
    simp [h2, h3]
theorem checkSignals_is {l : T_api_Layout} (h : Sm l) {m : List (T_api_End × T_api_End)} (hm : ∀ e, mget m e = jf l.Joints e) : Is (d_layout_checkSignals l m) fun e =>
    (¬ SigP l ∧ e = 1) ∨ (SigP l ∧ ¬ (l.Signals.map (·.At)).Nodup ∧ e = 8) ∨ (SigP l ∧ (l.Signals.map (·.At)).Nodup ∧ ¬ SafeP l ∧ e = 14) ∨ (SigP l ∧ (l.Signals.map (·.At)).Nodup ∧ SafeP l ∧ e = 0) := by
  unfold d_layout_checkSignals
  have g3 := h.sg
  refine Is.all (L := l.Signals) (fun _ s => exS l s.At = true ∧ 0 ≤ s.Overlap ∧ s.Overlap ≤ 1000000) () (by omega) (fun i x hx hi _ => ?_) ?_ (fun h1 => ?_)
  · unfold d_layout_checkSignals_0
    refine Is.inb hi (Is.at hx ?_)
    simp only [layout_exists_eq h.el, lwithin_eq, Option.bind_some, cond_some, Bool.cond_true_left]
    refine Is.ite (p := ¬ (exS l x.At = true ∧ 0 ≤ x.Overlap ∧ x.Overlap ≤ 1000000)) (by cases exS l x.At <;> simp <;> omega) (fun hb => Is.val (.inl ⟨fun q => hb (q x (List.mem_of_getElem? hx)), rfl⟩)) (fun hb => Is.val ⟨rfl, Classical.not_not.1 hb⟩)
  · simp [d_layout_checkSignals_0]
  have h1 : SigP l := mem_iff_get.1 h1
  refine Is.all (L := l.Signals) (fun i s => sigF l.Signals s.At = (i : Nat)) () (by omega) (fun i x hx hi _ => ?_) ?_ (fun h2 => ?_)
  · unfold d_layout_checkSignals_1
    refine Is.inb hi (Is.at hx (Is.to (layout_Signal_eq g3 _) ?_))
    exact Is.ifn dec_iff (fun hc => Is.val (.inr (.inl ⟨h1, fun q => hc (sigF_nodup.2 q i x hx), rfl⟩))) (fun hc => Is.val ⟨rfl, hc⟩)
  · simp [d_layout_checkSignals_1]
  have h2 := sigF_nodup.1 h2
  refine Is.all (L := l.Signals) (fun _ s => (joinS l s.At).2 = true ∧ secE l (joinS l s.At).1.El ≠ secE l s.At.El) () (by omega) (fun i x hx hi _ => ?_) ?_ (fun h3 => ?_)
  · unfold d_layout_checkSignals_2
    refine Is.inb hi (Is.at hx ?_)
    simp only [layout_Section_eq, Option.bind_some, cond_some, Bool.cond_true_left, hm]
    refine Is.ite (p := ¬ ((joinS l x.At).2 = true ∧ secE l (joinS l x.At).1.El ≠ secE l x.At.El)) ?_ (fun hb => Is.val (.inr (.inr (.inl ⟨h1, h2, fun q => hb (q x (List.mem_of_getElem? hx)), rfl⟩)))) (fun hb => Is.val ⟨rfl, Classical.not_not.1 hb⟩)
    rw [jf_join]
    cases jf l.Joints x.At <;> simp
  · simp [d_layout_checkSignals_2]
  exact Is.val (.inr (.inr (.inr ⟨h1, h2, mem_iff_get.1 h3, rfl⟩)))
theorem hasEl_iff {l : T_api_Layout} {i : Int} (h : l.Elements.length ≤ 1048576) : (0 ≤ i ∧ i ≤ w64 (((l.Elements.length : Nat) : Int) - 1)) ↔ hasEl l i = true := by
  rw [w64_of (by omega) (by omega)]; simp [hasEl]; omega
theorem checkBalises_is {l : T_api_Layout} (h : Sm l) : Is (d_layout_checkBalises l) fun e => (¬ BalP l ∧ e = 1) ∨ (BalP l ∧ ¬ (l.Balises.map (·.Id)).Nodup ∧ e = 8) ∨ (BalP l ∧ (l.Balises.map (·.Id)).Nodup ∧ e = 0) := by
  unfold d_layout_checkBalises
  have g3 := h.ba
  refine Is.all (L := l.Balises) (fun _ b => 1 ≤ b.Id ∧ b.Id ≤ 1073741824 ∧ hasEl l b.El = true ∧ 0 ≤ b.Offset ∧ b.Offset ≤ elLen l b.El) () (by omega) (fun i x hx hi _ => ?_) ?_ (fun h1 => ?_)
  · unfold d_layout_checkBalises_0
    refine Is.inb hi (Is.at hx ?_)
    simp only [lwithin_eq, Option.bind_some, cond_some, Bool.cond_true_left]
    refine Is.bind (Is.or (p := ¬ (1 ≤ x.Id ∧ x.Id ≤ 1073741824) ∨ ¬ hasEl l x.El = true) (q := ¬ (0 ≤ x.Offset ∧ x.Offset ≤ elLen l x.El)) (by simp only [Bool.or_eq_true, Bool.not_eq_true', decide_eq_false_iff_not, hasEl_iff h.el]) fun hp => ?_) fun b hb => ?_
    · have hh : hasEl l x.El = true := Classical.not_not.1 fun q => hp (.inr q)
      obtain ⟨y, h2, h3⟩ := hasEl_get hh
      rw [h2]
      exact Is.val (by simp [elLen, h3]; omega)
    · refine Is.ite hb (fun hc => Is.val (.inl ⟨fun q => ?_, rfl⟩)) (fun hc => Is.val ⟨rfl, ?_⟩)
      · have q1 := q x (List.mem_of_getElem? hx)
        rcases hc with (hc | hc) | hc
        · exact hc ⟨q1.1, q1.2.1⟩
        · exact hc q1.2.2.1
        · exact hc q1.2.2.2
      · have q1 : 1 ≤ x.Id ∧ x.Id ≤ 1073741824 := Classical.not_not.1 fun q => hc (.inl (.inl q))
        exact ⟨q1.1, q1.2, Classical.not_not.1 fun q => hc (.inl (.inr q)), Classical.not_not.1 fun q => hc (.inr q)⟩
  · simp [d_layout_checkBalises_0]
  have h1 : BalP l := mem_iff_get.1 h1
  refine Is.fold (L := l.Balises) (mk := fun i m => (i, m)) (fun i m => (∀ k, (mget m k).getD false = true ↔ k ∈ (l.Balises.take i).map (·.Id)) ∧ ((l.Balises.take i).map (·.Id)).Nodup) [] (by omega) ⟨fun k => by simp [mget_nil], by simp⟩ (fun i x m hx hi hI => ?_) (fun m hI => ?_)
  · unfold d_layout_checkBalises_1
    refine Is.inb hi (Is.at hx ?_)
    have e1 : (l.Balises.take (i + 1)).map (·.Id) = (l.Balises.take i).map (·.Id) ++ [x.Id] := by rw [take_get hx]; simp
    refine Is.ite (hI.1 x.Id) (fun hb => Is.val (.inr (.inl ⟨h1, fun hn => ?_, rfl⟩))) (fun hb => Is.val ⟨_, rfl, ?_, ?_⟩)
    · have : (l.Balises.map (·.Id)) = (l.Balises.take (i + 1)).map (·.Id) ++ (l.Balises.drop (i + 1)).map (·.Id) := by rw [← List.map_append, List.take_append_drop]
      rw [this, e1, List.nodup_append, nodup_snoc'] at hn
      exact hn.1.2 hb
    · rw [e1]; exact seen_snoc hI.1 x.Id
    · rw [e1, nodup_snoc']; exact ⟨hI.2, hb⟩
  · unfold d_layout_checkBalises_1
    rw [List.take_length] at hI
    exact Is.oub (Is.val (Is.val (.inr (.inr ⟨h1, hI.2, rfl⟩))))
theorem layout_Check_is {l : T_api_Layout} (h : Sm l) : Is (d_layout_Check l) fun e => e = chk l := by
  unfold d_layout_Check
  refine Is.bind (countsFit_is l) fun b hb => Is.ifn hb (fun hc => Is.val (by simp [chk, hc])) (fun hc => ?_)
  refine Is.bind (checkNames_is h) fun e he => ?_
  rcases he with ⟨h1, rfl⟩ | ⟨h1, h2, rfl⟩ | ⟨h1, h2, rfl⟩
  · exact Is.val (by simp [chk, hc, h1])
  · exact Is.val (by simp [chk, hc, h1, h2])
  show Is ((d_layout_elementsFit l).bind _) _
  refine Is.bind (elementsFit_is h) fun b hb => ?_
  refine Is.bind (φ := fun c => c = true ↔ ¬ ElemP l) ((Is.or (not_iff_of hb) fun hp => Is.not (sectionsUsed_is h)).mono fun c hc => hc.trans ?_) fun c hc3 => ?_
  · unfold ElemP
    by_cases q : ∀ x ∈ l.Elements, RightP l x <;> by_cases q2 : UsedP l <;> simp [q, q2]
  refine Is.ite hc3 (fun h3 => Is.val (by simp [chk, hc, h1, h2, h3])) (fun h3 => ?_)
  have h3 : ElemP l := Classical.not_not.1 h3
  refine Is.bind (joinEnds_is h) fun r hr => ?_
  rcases hr with ⟨h4, e⟩ | ⟨h4, h5, e⟩ | ⟨h4, h5, e, hm⟩
  · rw [e]; exact Is.val (by simp [chk, hc, h1, h2, h3, h4])
  · rw [e]; exact Is.val (by simp [chk, hc, h1, h2, h3, h4, h5])
  rw [e]
  show Is ((d_layout_checkSignals l r.1).bind _) _
  refine Is.bind (checkSignals_is h hm) fun e he => ?_
  rcases he with ⟨h6, rfl⟩ | ⟨h6, h7, rfl⟩ | ⟨h6, h7, h8, rfl⟩ | ⟨h6, h7, h8, rfl⟩
  · exact Is.val (by simp [chk, hc, h1, h2, h3, h4, h5, h6])
  · exact Is.val (by simp [chk, hc, h1, h2, h3, h4, h5, h6, h7])
  · exact Is.val (by simp [chk, hc, h1, h2, h3, h4, h5, h6, h7, h8])
  show Is ((d_layout_checkBalises l).bind _) _
  refine Is.bind (checkBalises_is h) fun e he => ?_
  rcases he with ⟨h9, rfl⟩ | ⟨h9, h10, rfl⟩ | ⟨h9, h10, rfl⟩
  · exact Is.val (by simp [chk, hc, h1, h2, h3, h4, h5, h6, h7, h8, h9])
  · exact Is.val (by simp [chk, hc, h1, h2, h3, h4, h5, h6, h7, h8, h9, h10])
  · exact Is.val (by simp [chk, hc, h1, h2, h3, h4, h5, h6, h7, h8, h9, h10])
end PM
