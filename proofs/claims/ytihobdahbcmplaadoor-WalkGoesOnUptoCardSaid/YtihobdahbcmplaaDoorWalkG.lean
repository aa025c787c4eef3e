/-
  THE PLAIN LAWS OF CHAPTER 9: WalkSteps, WalkParts, WalkGoesOn.
-/
import Derived.Test.YtihobdahbcmplaaDoorWalkE
namespace PM
open Go Go.RowKit

theorem eqEnd_self (e : T_api_End) : eq_T_api_End e e = true := (eqEnd_iff e e).2 rfl
theorem walkSteps_law {l : T_api_Layout} (h : Sm l) (s : T_api_Step) (a : T_api_End) : d_law09_WalkSteps l s a = some true := by
  unfold d_law09_WalkSteps
  obtain ⟨b, h1, _⟩ := law09_sound_is h []
  have hb := branS_len l a
  cases b <;> simp [h1, alive_eq, walk_Next_eq h.jo, ref09_Next_eq h.jo, eqEnd_self, walk_Branches_eq, ref09_Branches_eq, SameSteps_refl _ (show (branS l a).length ≤ 1048576 by omega)]
theorem w64_three (a b c : Int) : w64 (w64 (w64 a + w64 b) + w64 c) = w64 (a + b + c) := by
  show IntKind.i64.wrap (IntKind.i64.wrap (IntKind.i64.wrap a + IntKind.i64.wrap b) + IntKind.i64.wrap c) = IntKind.i64.wrap (a + b + c)
  simp only [IntKind.wrap_i64]; omega
theorem valid_part {l : T_api_Layout} {way : List T_api_Step} (h : ValidP l way) {f t : Nat} (h1 : f < t) (h2 : t ≤ way.length) : ValidP l ((way.take t).drop f) := by
  have hlen : ((way.take t).drop f).length = t - f := by rw [List.length_drop, List.length_take, Nat.min_eq_left h2]
  have hget : ∀ i, i < t - f → ((way.take t).drop f)[i]? = way[f + i]? := fun i hi => by rw [List.getElem?_drop, List.getElem?_take, if_pos (by omega)]
  refine ⟨by omega, by have := h.2.1; omega, fun i hi => ?_⟩
  rw [hlen] at hi
  obtain ⟨s, g1, g2, g3, g4⟩ := h.2.2 (f + i) (by omega)
  refine ⟨s, by rw [hget i hi]; exact g1, g2, fun k u hk hu => ?_, fun p hp hu => ?_⟩
  · rw [hget k (by omega)] at hu
    exact g3 (f + k) u (by omega) hu
  · rw [hget (i - 1) (by omega)] at hu
    exact g4 p (by omega) (by rwa [show f + i - 1 = f + (i - 1) by omega])
theorem walkParts_law {l : T_api_Layout} (h : Sm l) (way : List T_api_Step) (hw : way.length ≤ 1048576) (a b : Int) : d_law09_WalkParts l way a b = some true := by
  unfold d_law09_WalkParts
  obtain ⟨r, h1, _⟩ := law09_sound_is h way
  rw [h1]
  simp only [Option.bind_some]
  have : ∃ r2, ((bif (((!r) || (decide (a < 0))) || (decide (b < a))) then some true else (some (decide (((way.length : Nat) : Int) < b)))) : Option Bool) = some r2 ∧ (r2 = false → 0 ≤ a ∧ a ≤ b ∧ b ≤ (way.length : Nat)) := by
    cases hc : (((!r) || (decide (a < 0))) || (decide (b < a)))
    · refine ⟨_, rfl, fun e => ?_⟩
      simp at hc e; omega
    · exact ⟨true, rfl, fun e => by cases e⟩
  obtain ⟨r2, h2, h3⟩ := this
  rw [h2]
  simp only [Option.bind_some]
  cases r2 with
  | true => simp [alive_eq]
  | false =>
    obtain ⟨ha, hab, hb⟩ := h3 rfl
    obtain ⟨f, rfl⟩ := Int.eq_ofNat_of_zero_le ha
    obtain ⟨t, rfl⟩ := Int.eq_ofNat_of_zero_le (Int.le_trans ha hab)
    have hft : f ≤ t := by omega
    have htl : t ≤ way.length := by omega
    have e1 := slO_hi (L := way) (h := f) (by omega)
    have e2 := slO_eq (L := way) hft htl
    have e3 := slO_lo (L := way) (l := t) htl
    have l1 : d_walk_Length l (way.take f) = some (w64 (sumL l (way.take f))) := walk_Length_eq l _ (by rw [List.length_take]; omega)
    have l2 : d_walk_Length l ((way.take t).drop f) = some (w64 (sumL l ((way.take t).drop f))) := walk_Length_eq l _ (by rw [List.length_drop, List.length_take]; omega)
    have l3 : d_walk_Length l (way.drop t) = some (w64 (sumL l (way.drop t))) := walk_Length_eq l _ (by rw [List.length_drop]; omega)
    have l4 : d_walk_Length l way = some (w64 (sumL l way)) := walk_Length_eq l _ hw
    have hsum : sumL l way = sumL l (way.take f) + sumL l ((way.take t).drop f) + sumL l (way.drop t) := by
      have p1 : way = way.take t ++ way.drop t := (List.take_append_drop t way).symm
      have p2 : way.take t = way.take f ++ (way.take t).drop f := by
        have := (List.take_append_drop f (way.take t)).symm
        rwa [List.take_take, Nat.min_eq_left hft] at this
      conv => lhs; rw [p1, sumL_append, p2, sumL_append]
    obtain ⟨v, v1, v2⟩ := walk_Valid_is l way h.jo hw
    obtain ⟨u, u1, u2⟩ := walk_Valid_is l ((way.take t).drop f) h.jo (by rw [List.length_drop, List.length_take]; omega)
    simp only [e1, e2, e3, l1, l2, l3, l4, v1, u1, Option.bind_some, w64_three, ← hsum, decide_true, Bool.not_true, cond_false, alive_eq]
    cases v with
    | false => simp
    | true =>
      by_cases hef : (f : Int) = (t : Int)
      · simp [hef]
      · have hu : u = true := u2.2 (valid_part (v2.1 rfl) (by omega) htl)
        subst hu
        simp [hef]
theorem legsS_need (k i o : Int) (h : o ∈ legsS k i) : (needS k i o).2 = true := by
  rcases kinds k with rfl | rfl | rfl | ⟨h1, h2, h3, h4, h5, h6⟩ <;> rcases sides4 i with rfl | rfl | rfl | rfl | ⟨g0, g1, g2, g3, g4, g5, g6, g7⟩ <;> simp [legsS, *] at h <;>
    first | (subst h; simp [needS, tab_rail_passages]) | (rcases h with rfl | rfl <;> simp [needS, tab_rail_passages])
theorem legsS_some (k i : Int) (h0 : 0 ≤ i) (h1 : i < sidesS k) : legsS k i ≠ [] := by
  unfold sidesS at h1
  split at h1
  · rename_i e; subst e
    have : i = 0 ∨ i = 1 := by omega
    rcases this with rfl | rfl <;> simp [legsS]
  · split at h1
    · rename_i e; subst e
      have : i = 0 ∨ i = 1 ∨ i = 2 := by omega
      rcases this with rfl | rfl | rfl <;> simp [legsS]
    · split at h1
      · rename_i e; subst e
        have : i = 0 ∨ i = 1 ∨ i = 2 ∨ i = 3 := by omega
        rcases this with rfl | rfl | rfl | rfl <;> simp [legsS]
      · omega
theorem branS_pos {l : T_api_Layout} {a : T_api_End} {s : T_api_Step} (h : s ∈ branS l a) : s.El = a.El ∧ s.In = a.Side ∧ (posS l s).2 = true := by
  unfold branS at h
  cases hc : hasEl l a.El with
  | false => rw [hc] at h; simp at h
  | true =>
    rw [hc] at h
    simp only [cond_true] at h
    split at h
    · rename_i x hx
      obtain ⟨o, ho, rfl⟩ := List.mem_map.1 h
      refine ⟨rfl, rfl, ?_⟩
      simp [posS, hc, hx, legsS_need _ _ _ ho]
    · cases h
theorem branS_some {l : T_api_Layout} {a : T_api_End} (h : exS l a = true) : branS l a ≠ [] := by
  have hc := exS_has h
  unfold exS at h
  simp only [Bool.and_eq_true] at h
  obtain ⟨⟨_, h0⟩, h1⟩ := h
  have h0 : 0 ≤ a.Side := of_decide_eq_true h0
  split at h1
  · rename_i x hx
    have h1 : a.Side < sidesS x.Kind := of_decide_eq_true h1
    unfold branS
    rw [hc]
    simp only [cond_true, hx]
    intro e
    exact legsS_some x.Kind a.Side h0 h1 (by simpa using e)
  · cases h1
/-- A way and one step more. -/
theorem valid_more {l : T_api_Layout} {way : List T_api_Step} (h : ValidP l way) (h64 : way.length < 64) {p s : T_api_Step} (hp : way[way.length - 1]? = some p) {a : T_api_End} (ha : joinS l ⟨p.El, p.Out⟩ = (a, true)) (hs : s ∈ branS l a) :
    ValidP l (way ++ [s]) ↔ ∀ t ∈ way, t.El ≠ a.El := by
  obtain ⟨b1, b2, b3⟩ := branS_pos hs
  have hlen := h.1
  constructor
  · rintro ⟨_, _, h3⟩ t ht
    obtain ⟨u, g1, _, g3, _⟩ := h3 way.length (by simp)
    have : u = s := by simpa using g1.symm
    subst this
    obtain ⟨k, hk⟩ := List.getElem?_of_mem ht
    have hkl := (List.getElem?_eq_some_iff.1 hk).1
    have := g3 k t hkl (by rw [List.getElem?_append_left hkl]; exact hk)
    rwa [b1] at this
  · intro hn
    refine ⟨by simp, by simp; omega, fun i hi => ?_⟩
    by_cases e : i < way.length
    · obtain ⟨u, g1, g2, g3, g4⟩ := h.2.2 i e
      refine ⟨u, by rw [List.getElem?_append_left e]; exact g1, g2, fun k t hk ht => g3 k t hk (by rwa [List.getElem?_append_left (by omega)] at ht), fun q hq hu => g4 q hq (by rwa [List.getElem?_append_left (by omega)] at hu)⟩
    · have : i = way.length := by simp at hi; omega
      subst this
      refine ⟨s, by simp, b3, fun k t hk ht => ?_, fun q hq hu => ?_⟩
      · rw [List.getElem?_append_left hk] at ht
        rw [b1]; exact hn t (List.mem_of_getElem? ht)
      · rw [List.getElem?_append_left (by omega), hp] at hu
        cases hu
        rw [ha]
        cases a
        simp only at b1 b2
        rw [b1, b2]
theorem walkGoesOn_law {l : T_api_Layout} (h : Sm l) (way : List T_api_Step) (hw : way.length ≤ 1048576) : d_law09_WalkGoesOn l way = some true := by
  unfold d_law09_WalkGoesOn
  obtain ⟨r, h1, hr⟩ := law09_sound_is h way
  obtain ⟨v, v1, v2⟩ := walk_Valid_is l way h.jo hw
  rw [h1, v1]
  simp only [Option.bind_some]
  have : ∃ r2, ((bif (!r) then some true else (some (decide (64 ≤ ((way.length : Nat) : Int))))) : Option Bool) = some r2 ∧ (r2 = false → r = true ∧ way.length < 64) := by
    cases r
    · exact ⟨true, rfl, fun e => by cases e⟩
    · exact ⟨_, rfl, fun e => ⟨rfl, by have := of_decide_eq_false e; omega⟩⟩
  obtain ⟨r2, h2, h3⟩ := this
  rw [h2]
  simp only [Option.bind_some]
  cases r2 with
  | true => simp [alive_eq]
  | false =>
    obtain ⟨hrt, h64⟩ := h3 rfl
    obtain ⟨hJ, _⟩ := hr hrt
    cases v with
    | false => simp [alive_eq]
    | true =>
      have hv := v2.1 rfl
      have hpos := hv.1
      have hp : way[way.length - 1]? = some way[way.length - 1] := List.getElem?_eq_getElem (by omega)
      generalize hpe : way[way.length - 1] = p at hp
      have e0 : w64 (((way.length : Nat) : Int) - 1) = ((way.length - 1 : Nat) : Int) := by rw [w64_of (by omega) (by omega)]; omega
      have e1 : ixO way (((way.length - 1 : Nat)) : Int) = some p := ixO_nat hp
      have n0 : ¬ ((way.length : Nat) : Int) = 0 := by omega
      simp only [cond_false, Bool.not_true, Option.bind_some, e0, e1, n0, decide_false, walk_Next_eq h.jo, layout_Joined_eq h.jo, beq_self_eq_true, eqEnd_self, Bool.or_false]
      cases hj : joinS l ⟨p.El, p.Out⟩ with
      | mk a ok =>
        cases ok with
        | false => simp [alive_eq]
        | true =>
          simp only [Bool.not_true, cond_false]
          have hin : Is (loopO (d_law09_WalkGoesOn_0 way (a, true)) (false, 0)) fun o => ∃ b, o = .inl b ∧ (b = true ↔ ∃ t ∈ way, t.El = a.El) := by
            refine Is.loop (mk := fun (i : Nat) (b : Bool) => (b, (i : Int))) way.length (fun i b => b = true ↔ ∃ t ∈ way.take i, t.El = a.El) false (by simp) ?_ ?_
            · rintro i b hi hb
              unfold d_law09_WalkGoesOn_0
              refine Is.cond (fun _ => ?_) (fun hc => by simp at hc; omega)
              refine Is.bind (Is.ixn hi) fun t ht => Is.val ⟨_, by rw [w64n (by omega)], ?_⟩
              rw [List.take_add_one, ht]
              simp only [Bool.or_eq_true, decide_eq_true_eq, hb, Option.toList_some, List.mem_append, List.mem_singleton]
              constructor
              · rintro (⟨u, hu, e⟩ | e)
                · exact ⟨u, .inl hu, e⟩
                · exact ⟨t, .inr rfl, e⟩
              · rintro ⟨u, hu | rfl, e⟩
                · exact .inl ⟨u, hu, e⟩
                · exact .inr e
            · rintro b hb
              unfold d_law09_WalkGoesOn_0
              refine Is.cond (fun hc => by simp at hc) (fun _ => Is.val ⟨b, rfl, ?_⟩)
              rw [List.take_length] at hb; exact hb
          obtain ⟨o, o1, b, rfl, hb⟩ := hin
          rw [o1]
          simp only [onInl, Option.bind_some, onOut, walk_Branches_eq]
          have hbr := branS_len l a
          have hloop : Is (loopO (d_law09_WalkGoesOn_1 l way b (branS l a)) 0) fun o => o = .inl () := by
            refine Is.loop (mk := fun (i : Nat) (_ : Unit) => (i : Int)) (branS l a).length (fun _ _ => True) () trivial ?_ ?_
            · rintro i m hi -
              unfold d_law09_WalkGoesOn_1
              refine Is.cond (fun _ => ?_) (fun hc => by simp at hc; omega)
              refine Is.bind (Is.ixn hi) fun s hs => ?_
              refine Is.bind (Is.app (by simp only [List.length_nil, sizeMax, Enc.b]; omega)) fun x29 hx29 => ?_
              rw [List.nil_append] at hx29
              rw [hx29]
              refine Is.bind (Is.app (by simp only [List.length_cons, List.length_nil, sizeMax, Enc.b]; omega)) fun x30 hx30 => ?_
              subst hx30
              obtain ⟨q, q1, q2⟩ := walk_Valid_is l (way ++ [s]) h.jo (by simp; omega)
              refine Is.bind (Is.eq q1) fun c hc => ?_
              subst hc
              have hm := valid_more hv h64 hp hj (List.mem_of_getElem? hs)
              have hne : (c == b) = false := by
                cases c <;> cases b <;> simp at hb q2 <;> first | rfl | skip
                · exact (q2 (hm.2 fun t ht => hb t ht)).elim
                · obtain ⟨t, ht, e⟩ := hb
                  exact absurd e (hm.1 q2 t ht)
              rw [hne]
              exact Is.val ⟨(), by rw [w64n (by omega)], trivial⟩
            · rintro m -
              unfold d_law09_WalkGoesOn_1
              exact Is.cond (fun hc => by simp at hc) (fun _ => Is.val rfl)
          obtain ⟨o, o2, rfl⟩ := hloop
          rw [o2]
          have hne : 0 < (branS l a).length := List.length_pos_iff.2 (branS_some (joinS_ok hJ hj))
          simp [hne, alive_eq, onOut]
end PM
