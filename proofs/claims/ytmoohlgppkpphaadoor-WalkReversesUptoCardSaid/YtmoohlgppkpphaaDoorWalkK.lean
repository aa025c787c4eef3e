/-
  PLAIN, WALK K: the laws of chapter 9 about measures, reverses and settings.
-/
import Derived.Test.YtmoohlgppkpphaaDoorWalkJ
namespace PM
open Go Go.RowKit

/-! ### Joints are symmetric -/
theorem endsOf_mem {L : List T_api_Joint} {j : T_api_Joint} (h : j ∈ L) : j.A ∈ endsOf L ∧ j.B ∈ endsOf L := by
  simp only [endsOf, List.mem_flatMap]
  exact ⟨⟨j, h, by simp⟩, ⟨j, h, by simp⟩⟩
theorem endsOf_one : ∀ {L : List T_api_Joint}, (endsOf L).Nodup → ∀ {j k : T_api_Joint} {x : T_api_End}, j ∈ L → k ∈ L → (j.A = x ∨ j.B = x) → (k.A = x ∨ k.B = x) → j = k
  | [], _, _, _, _, hj, _, _, _ => by cases hj
  | a :: L, hn, j, k, x, hj, hk, ej, ek => by
    have hn' : (a.A :: a.B :: endsOf L).Nodup := hn
    rw [List.nodup_cons, List.nodup_cons] at hn'
    obtain ⟨h1, h2, h3⟩ := hn'
    have out : ∀ {m : T_api_Joint}, m ∈ L → (m.A = x ∨ m.B = x) → ¬ (a.A = x ∨ a.B = x) := by
      intro m hm em ea
      have hx : x ∈ endsOf L := by
        rcases em with e | e
        · exact e ▸ (endsOf_mem hm).1
        · exact e ▸ (endsOf_mem hm).2
      rcases ea with e | e
      · exact h1 (by rw [e]; exact List.mem_cons_of_mem _ hx)
      · exact h2 (by rw [e]; exact hx)
    rcases List.mem_cons.1 hj with e1 | hj' <;> rcases List.mem_cons.1 hk with e2 | hk'
    · rw [e1, e2]
    · exact absurd (e1 ▸ ej) (out hk' ek)
    · exact absurd (e2 ▸ ek) (out hj' ej)
    · exact endsOf_one h3 hj' hk' ej ek
theorem endsOf_ne : ∀ {L : List T_api_Joint}, (endsOf L).Nodup → ∀ {j : T_api_Joint}, j ∈ L → j.A ≠ j.B
  | [], _, _, hj => by cases hj
  | a :: L, hn, j, hj => by
    have hn' : (a.A :: a.B :: endsOf L).Nodup := hn
    rw [List.nodup_cons, List.nodup_cons] at hn'
    rcases List.mem_cons.1 hj with e | hj'
    · subst e; exact fun e => hn'.1 (by rw [e]; exact List.mem_cons_self)
    · exact endsOf_ne hn'.2.2 hj'
theorem joinS_symm {l : T_api_Layout} (hJ : JoinsOk l) {e f : T_api_End} (h : joinS l e = (f, true)) : joinS l f = (e, true) := by
  obtain ⟨j, hj, hc⟩ : ∃ j, j ∈ l.Joints ∧ ((j.A = e ∧ j.B = f) ∨ (j.B = e ∧ j.A = f)) := by
    unfold joinS at h
    cases hf : l.Joints.find? fun j => eq_T_api_End j.A e || eq_T_api_End j.B e with
    | none => rw [hf] at h; simp at h
    | some j =>
      rw [hf] at h
      simp only at h
      have hp := List.find?_some hf
      have hm := List.mem_of_find?_eq_some hf
      refine ⟨j, hm, ?_⟩
      cases hA : eq_T_api_End j.A e with
      | true =>
        rw [hA] at h; simp at h
        exact .inl ⟨(eqEnd_iff _ _).1 hA, h⟩
      | false =>
        rw [hA] at h hp; simp at h hp
        exact .inr ⟨(eqEnd_iff _ _).1 hp, h⟩
  have hfj : j.A = f ∨ j.B = f := by
    rcases hc with ⟨_, e⟩ | ⟨_, e⟩
    · exact .inr e
    · exact .inl e
  unfold joinS
  cases hf : l.Joints.find? fun j => eq_T_api_End j.A f || eq_T_api_End j.B f with
  | none =>
    have := List.find?_eq_none.1 hf j hj
    simp only [Bool.or_eq_true, eqEnd_iff] at this
    exact absurd hfj this
  | some k =>
    have hp := List.find?_some hf
    have hm := List.mem_of_find?_eq_some hf
    simp only [Bool.or_eq_true, eqEnd_iff] at hp
    have : k = j := endsOf_one hJ.2 hm hj hp hfj
    subst this
    have hne := endsOf_ne hJ.2 hm
    simp only
    rcases hc with ⟨e1, e2⟩ | ⟨e1, e2⟩
    · have : eq_T_api_End k.A f = false := by
        cases hq : eq_T_api_End k.A f with
        | false => rfl
        | true => exact absurd ((eqEnd_iff _ _).1 hq) (e2 ▸ hne)
      rw [this, e1]; rfl
    · rw [(eqEnd_iff k.A f).2 e2, e1]; rfl
/-! ### The reverse of a way -/
def flipS (s : T_api_Step) : T_api_Step := ⟨s.El, s.Out, s.In⟩
theorem flip_flip (s : T_api_Step) : flipS (flipS s) = s := rfl
theorem revS_eq (way : List T_api_Step) : revS way = way.reverse.map flipS := rfl
theorem revS_revS (way : List T_api_Step) : revS (revS way) = way := by
  rw [revS_eq, revS_eq, ← List.map_reverse, List.reverse_reverse, List.map_map]
  have : (flipS ∘ flipS) = id := funext flip_flip
  rw [this, List.map_id]
theorem revS_len (way : List T_api_Step) : (revS way).length = way.length := by simp [revS]
theorem revS_mem (way : List T_api_Step) (s : T_api_Step) : s ∈ revS way ↔ flipS s ∈ way := by
  rw [revS_eq, List.mem_map]
  constructor
  · rintro ⟨t, ht, rfl⟩; rw [flip_flip]; exact List.mem_reverse.1 ht
  · intro h; exact ⟨flipS s, List.mem_reverse.2 h, flip_flip s⟩
theorem revS_get (way : List T_api_Step) {i : Nat} (hi : i < way.length) : (revS way)[i]? = (way[way.length - 1 - i]?).map flipS := by
  rw [revS_eq, List.getElem?_map, List.getElem?_reverse hi]
theorem needS_symm (k a b : Int) : needS k a b = needS k b a := by
  unfold needS
  rcases kinds k with rfl | rfl | rfl | ⟨h1, h2, h3, h4, h5, h6⟩
  · simp [tab_rail_passages]
    rcases sides4 a with rfl | rfl | rfl | rfl | ⟨g0, g1, g2, g3, g4, g5, g6, g7⟩ <;> rcases sides4 b with rfl | rfl | rfl | rfl | ⟨e0, e1, e2, e3, e4, e5, e6, e7⟩ <;> simp [*]
  · simp [tab_rail_passages]
    rcases sides4 a with rfl | rfl | rfl | rfl | ⟨g0, g1, g2, g3, g4, g5, g6, g7⟩ <;> rcases sides4 b with rfl | rfl | rfl | rfl | ⟨e0, e1, e2, e3, e4, e5, e6, e7⟩ <;> simp [*]
  · simp [tab_rail_passages]
    rcases sides4 a with rfl | rfl | rfl | rfl | ⟨g0, g1, g2, g3, g4, g5, g6, g7⟩ <;> rcases sides4 b with rfl | rfl | rfl | rfl | ⟨e0, e1, e2, e3, e4, e5, e6, e7⟩ <;> simp [*]
  · simp [tab_rail_passages, *]
theorem posS_flip (l : T_api_Layout) (s : T_api_Step) : posS l (flipS s) = posS l s := by
  unfold posS flipS
  simp only
  cases hasEl l s.El with
  | false => rfl
  | true =>
    cases l.Elements[s.El.toNat]? with
    | none => rfl
    | some x => exact needS_symm _ _ _
theorem ValidP.apart {l : T_api_Layout} {way : List T_api_Step} (h : ValidP l way) {i k : Nat} {s t : T_api_Step} (hs : way[i]? = some s) (ht : way[k]? = some t) (e : s.El = t.El) : i = k := by
  have key : ∀ {i k : Nat} {s t : T_api_Step}, way[i]? = some s → way[k]? = some t → s.El = t.El → ¬ i < k := by
    intro i k s t hs ht e hik
    obtain ⟨t', h1, _, h3, _⟩ := h.2.2 k (lt_of_get ht)
    rw [ht] at h1; cases h1
    exact h3 i s hik hs e
  have h1 := key hs ht e
  have h2 := key ht hs e.symm
  omega
theorem ValidP.rev {l : T_api_Layout} (hJ : JoinsOk l) {way : List T_api_Step} (h : ValidP l way) : ValidP l (revS way) := by
  refine ⟨by rw [revS_len]; exact h.1, by rw [revS_len]; exact h.2.1, fun i hi => ?_⟩
  rw [revS_len] at hi
  obtain ⟨s, hs⟩ : ∃ s, way[way.length - 1 - i]? = some s := ⟨_, List.getElem?_eq_getElem (by omega)⟩
  obtain ⟨s', h1, h2, h3, h4⟩ := h.2.2 (way.length - 1 - i) (by omega)
  rw [hs] at h1; cases h1
  refine ⟨flipS s, by rw [revS_get way hi, hs]; rfl, by rw [posS_flip]; exact h2, fun k t hk ht e => ?_, fun p hp hpt => ?_⟩
  · rw [revS_get way (by omega)] at ht
    cases hq : way[way.length - 1 - k]? with
    | none => rw [hq] at ht; cases ht
    | some u =>
      rw [hq] at ht; cases ht
      have := h.apart hq hs e
      omega
  · rw [revS_get way (by omega)] at hpt
    cases hq : way[way.length - 1 - (i - 1)]? with
    | none => rw [hq] at hpt; cases hpt
    | some u =>
      rw [hq] at hpt; cases hpt
      obtain ⟨u', g1, _, _, g4⟩ := h.2.2 (way.length - 1 - (i - 1)) (by omega)
      rw [hq] at g1; cases g1
      have := g4 s (by omega) (by rw [show way.length - 1 - (i - 1) - 1 = way.length - 1 - i by omega]; exact hs)
      exact joinS_symm hJ this
theorem ValidP.rev_iff {l : T_api_Layout} (hJ : JoinsOk l) (way : List T_api_Step) : ValidP l (revS way) ↔ ValidP l way :=
  ⟨fun h => by have := h.rev hJ; rwa [revS_revS] at this, fun h => h.rev hJ⟩
theorem sumL_rev (l : T_api_Layout) : ∀ way : List T_api_Step, sumL l (revS way) = sumL l way
  | [] => rfl
  | s :: r => by
    have : revS (s :: r) = revS r ++ [flipS s] := by simp [revS_eq]
    rw [this, sumL_append, sumL_rev l r]
    have : lenOf l (flipS s) = lenOf l s := rfl
    simp only [sumL, this]; omega
theorem secS_mem (l : T_api_Layout) (way : List T_api_Step) (x : Int) : x ∈ secS l way ↔ ∃ s ∈ way, secOf l s = some x := by
  rw [secS, uniqI_mem, List.mem_filterMap]
theorem secS_rev_mem (l : T_api_Layout) (way : List T_api_Step) (x : Int) : x ∈ secS l (revS way) ↔ x ∈ secS l way := by
  rw [secS_mem, secS_mem]
  constructor
  · rintro ⟨s, hs, e⟩; exact ⟨flipS s, (revS_mem _ _).1 hs, e⟩
  · rintro ⟨s, hs, e⟩; exact ⟨flipS s, (revS_mem _ _).2 hs, e⟩
theorem secS_nodup (l : T_api_Layout) (way : List T_api_Step) : (secS l way).Nodup := uniqI_nodup _
theorem sub_len {α : Type} [DecidableEq α] : ∀ {a b : List α}, a.Nodup → (∀ x ∈ a, x ∈ b) → a.length ≤ b.length
  | [], _, _, _ => Nat.zero_le _
  | x :: r, b, ha, h => by
    rw [List.nodup_cons] at ha
    have hx := h x List.mem_cons_self
    have := sub_len (b := b.erase x) ha.2 fun y hy => (List.mem_erase_of_ne (fun e : y = x => ha.1 (e ▸ hy))).2 (h y (List.mem_cons_of_mem _ hy))
    rw [List.length_erase_of_mem hx] at this
    have hp := List.length_pos_of_mem hx
    simp only [List.length_cons]; omega
theorem same_len {α : Type} [DecidableEq α] {a b : List α} (ha : a.Nodup) (hb : b.Nodup) (h : ∀ x, x ∈ a ↔ x ∈ b) : a.length = b.length := by
  have h1 := sub_len ha fun x hx => (h x).1 hx
  have h2 := sub_len hb fun x hx => (h x).2 hx
  omega
theorem setOf_flip (l : T_api_Layout) (s : T_api_Step) : setOf l (flipS s) = setOf l s := by
  unfold setOf; rw [posS_flip]; rfl
theorem rawS_mem (l : T_api_Layout) (way : List T_api_Step) (x : T_api_Setting) : x ∈ rawS l way ↔ ∃ s ∈ way, setOf l s = some x := by
  rw [rawS, List.mem_filterMap]
theorem setS_rev (l : T_api_Layout) (way : List T_api_Step) : setS l (revS way) = setS l way := by
  refine Asc.one (setS_asc _ _) (setS_asc _ _) fun x => ?_
  rw [setS_mem, setS_mem, rawS_mem, rawS_mem]
  constructor
  · rintro ⟨s, hs, e⟩; exact ⟨flipS s, (revS_mem _ _).1 hs, by rw [setOf_flip]; exact e⟩
  · rintro ⟨s, hs, e⟩; exact ⟨flipS s, (revS_mem _ _).2 hs, by rw [setOf_flip]; exact e⟩
theorem within_eq (a b : List Int) (ha : a.length ≤ 1048576) (hb : b.length ≤ 1048576) (h : ∀ x ∈ a, x ∈ b) : d_law09_within a b = some true := by
  unfold d_law09_within
  have : Is (loopO (d_law09_within_0 a b) 0) fun o => o = .inl () := by
    refine Is.loop (mk := fun (i : Nat) (_ : Unit) => (i : Int)) a.length (fun _ _ => True) () trivial ?_ ?_
    · rintro i m hi -
      unfold d_law09_within_0
      refine Is.cond (fun _ => ?_) (fun hb => by simp at hb; omega)
      refine Is.bind (Is.ixn hi) fun x hx => ?_
      refine Is.onInl (θ := fun o => o = .inl true) ?_ ?_ (fun b hb => by cases hb)
      · refine Is.loop (mk := fun (i : Nat) (f : Bool) => (f, (i : Int))) b.length (fun i f => f = decide (x ∈ b.take i)) false (by simp) ?_ ?_
        · rintro j f hj rfl
          unfold d_law09_within_1
          refine Is.cond (fun _ => ?_) (fun hb => by simp at hb; omega)
          refine Is.bind (Is.ixn hj) fun y hy => Is.val ⟨_, by rw [w64n (by omega)], ?_⟩
          rw [take_snoc hy, Bool.eq_iff_iff]
          simp
        · rintro f rfl
          unfold d_law09_within_1
          refine Is.cond (fun hb => by simp at hb) (fun _ => Is.val ?_)
          rw [List.take_length, decide_eq_true (h x (List.mem_of_getElem? hx))]
      · rintro v hv
        cases hv
        exact Is.val ⟨(), by rw [w64n (by omega)], trivial⟩
    · rintro m -
      unfold d_law09_within_0
      exact Is.cond (fun hb => by simp at hb) (fun _ => Is.val rfl)
  obtain ⟨o, h1, rfl⟩ := this
  simp [h1, onInl, onOut]
/-! ### The laws -/
theorem walkMeasures_law {l : T_api_Layout} (h : Sm l) (way : List T_api_Step) : d_law09_WalkMeasures l way = some true := by
  unfold d_law09_WalkMeasures
  obtain ⟨b, e1, hb⟩ := law09_sound_is h way
  rw [e1, Option.bind_some]
  cases b with
  | false => simp [alive_eq]
  | true =>
    obtain ⟨hJ, hw⟩ := hb rfl
    obtain ⟨b1, v1, v2⟩ := walk_Valid_is l way h.jo (by omega)
    obtain ⟨b2, u1, u2⟩ := ref09_Valid_is l way h.jo (by omega)
    have hbb : b1 = b2 := by rw [Bool.eq_iff_iff, v2, u2]
    subst hbb
    have hs := secS_len l way
    have ht := setS_len l way
    have hr := revS_len way
    simp [v1, u1, walk_Length_eq l way (by omega), ref09_Length_eq l way (by omega), walk_Sections_eq l way (by omega), ref09_Sections_eq l way (by omega), SameInts_refl (secS l way) (by omega), walk_Settings_eq l way (by omega), ref09_Settings_eq l way (by omega), SameSettings_refl (setS l way) (by omega), walk_Reverse_eq way (by omega), ref09_Reverse_eq way (by omega), SameSteps_refl (revS way) (by omega), alive_eq]
theorem walkReverses_law {l : T_api_Layout} (h : Sm l) (way : List T_api_Step) : d_law09_WalkReverses l way = some true := by
  unfold d_law09_WalkReverses
  obtain ⟨b, e1, hb⟩ := law09_sound_is h way
  rw [e1, Option.bind_some]
  cases b with
  | false => simp [alive_eq]
  | true =>
    obtain ⟨hJ, hw⟩ := hb rfl
    have hr := revS_len way
    obtain ⟨b1, v1, v2⟩ := walk_Valid_is l way h.jo (by omega)
    obtain ⟨b2, u1, u2⟩ := walk_Valid_is l (revS way) h.jo (by omega)
    have hbb : b1 = b2 := by rw [Bool.eq_iff_iff, v2, u2, ValidP.rev_iff hJ]
    subst hbb
    have hs := secS_len l way
    have hs' := secS_len l (revS way)
    have ht := setS_len l way
    have hl := same_len (secS_nodup l way) (secS_nodup l (revS way)) fun x => (secS_rev_mem l way x).symm
    simp [v1, u1, walk_Reverse_eq way (by omega), walk_Reverse_eq (revS way) (by omega), revS_revS, walk_Sections_eq l way (by omega), walk_Sections_eq l (revS way) (by omega), SameSteps_refl way (by omega), walk_Length_eq l way (by omega), walk_Length_eq l (revS way) (by omega), sumL_rev, hl.symm, within_eq (secS l way) (secS l (revS way)) (by omega) (by omega) (fun x hx => (secS_rev_mem l way x).2 hx), within_eq (secS l (revS way)) (secS l way) (by omega) (by omega) (fun x hx => (secS_rev_mem l way x).1 hx), walk_Settings_eq l way (by omega), walk_Settings_eq l (revS way) (by omega), setS_rev, SameSettings_refl (setS l way) (by omega), alive_eq]
theorem rail_Out_eq (a0 a1 a2 : Int) : d_rail_Out a0 a1 a2 = some (match tab_rail_passages.find? (fun x => (decide (x.kind_ = a0) && decide (x.in_ = a1)) && (decide (x.need_ = 0) || decide (x.need_ = a2))) with | some x => (x.out_, true) | none => (0, false)) := by
  unfold d_rail_Out
  rw [loop_find (fun x => (decide (x.kind_ = a0) && decide (x.in_ = a1)) && (decide (x.need_ = 0) || decide (x.need_ = a2))) (fun x => .inr (x.out_, true)) (.inl ()) tab_rail_passages (by decide)]
  · cases tab_rail_passages.find? (fun x => (decide (x.kind_ = a0) && decide (x.in_ = a1)) && (decide (x.need_ = 0) || decide (x.need_ = a2))) <;> rfl
  · intro i x h
    have hi : i < 10 := lt_of_get h
    simp only [d_rail_Out_0, ixO_nat h, show decide ((i : Int) < 10) = true by simp; omega, cond_true, Option.bind_some]
  · simp [d_rail_Out_0, tab_rail_passages]
theorem out_need {k a b p : Int} (h : needS k a b = (p, true)) : d_rail_Out k a p = some (b, true) := by
  unfold needS at h
  cases hf : tab_rail_passages.find? (fun y => decide (y.kind_ = k) && decide (y.in_ = a) && decide (y.out_ = b)) with
  | none => rw [hf] at h; cases h
  | some y =>
    rw [hf] at h
    have h1 := List.find?_some hf
    simp only [Bool.and_eq_true, decide_eq_true_eq] at h1
    obtain ⟨⟨rfl, rfl⟩, rfl⟩ := h1
    cases h
    rw [rail_Out_eq]
    have h2 : ∀ y ∈ tab_rail_passages, (match tab_rail_passages.find? (fun x => (decide (x.kind_ = y.kind_) && decide (x.in_ = y.in_)) && (decide (x.need_ = 0) || decide (x.need_ = y.need_))) with | some x => (x.out_, true) | none => (0, false)) = (y.out_, true) := by decide
    rw [h2 y (List.mem_of_find?_eq_some hf)]
theorem rawS_nodup {l : T_api_Layout} {way : List T_api_Step} (h : ValidP l way) : (rawS l way).Nodup := by
  have hd : way.Pairwise fun s t => s.El ≠ t.El := by
    rw [List.pairwise_iff_getElem]
    intro i j hi hj hij e
    have := h.apart (List.getElem?_eq_getElem hi) (List.getElem?_eq_getElem hj) e
    omega
  unfold rawS
  rw [List.Nodup, List.pairwise_filterMap]
  refine hd.imp fun {s t} hst x hx y hy e => ?_
  have key : ∀ {s : T_api_Step} {x : T_api_Setting}, setOf l s = some x → x.El = s.El := by
    intro s x hx
    unfold setOf at hx
    cases hc : (posS l s).2 && !decide ((posS l s).1 = 0) with
    | false => rw [hc] at hx; cases hx
    | true => rw [hc] at hx; cases hx; rfl
  subst e
  exact hst ((key hx).symm.trans (key hy))
theorem Settles_in (r : List T_api_Setting) (s : T_api_Step) (p : Int) (hr : r.length ≤ 1048576) (h1 : ∀ x ∈ r, x.El = s.El → x.Pos = p) (h2 : p ≠ 0 → ∃ x ∈ r, x.El = s.El) : loopO (d_law09_WalkSettles_1 r s) (0, 0) = some (.inl p) := by
  have : Is (loopO (d_law09_WalkSettles_1 r s) (0, 0)) fun o => o = .inl p := by
    refine Is.loop (mk := fun (i : Nat) (q : Int) => (q, (i : Int))) r.length (fun i q => (q = p ∨ (q = 0 ∧ ∀ x ∈ r.take i, x.El ≠ s.El))) 0 (.inr ⟨rfl, fun x hx => by simp at hx⟩) ?_ ?_
    · rintro i q hi hI
      unfold d_law09_WalkSettles_1
      refine Is.cond (fun _ => ?_) (fun hb => by simp at hb; omega)
      refine Is.onInl (θ := fun o => match o with | .inl q => (q = p ∨ (q = 0 ∧ ∀ x ∈ r.take (i + 1), x.El ≠ s.El)) | .inr _ => False) ?_ ?_ (fun b hb => hb.elim)
      · refine Is.bind (Is.ixn hi) fun x hx => ?_
        refine Is.cond (fun hc => Is.val ?_) (fun hc => Is.val ?_)
        · exact .inl (h1 x (List.mem_of_getElem? hx) (of_decide_eq_true hc))
        · rcases hI with e | ⟨e, hI⟩
          · exact .inl e
          · refine .inr ⟨e, fun y hy => ?_⟩
            rw [take_snoc hx] at hy
            rcases List.mem_append.1 hy with hy | hy
            · exact hI y hy
            · simp at hy; subst hy; exact of_decide_eq_false hc
      · rintro v hv
        exact Is.val ⟨v, by rw [w64n (by omega)], hv⟩
    · rintro q hI
      unfold d_law09_WalkSettles_1
      refine Is.cond (fun hb => by simp at hb) (fun _ => Is.val ?_)
      rcases hI with rfl | ⟨rfl, hI⟩
      · rfl
      · rw [List.take_length] at hI
        by_cases e : p = 0
        · rw [e]
        · obtain ⟨x, hx, hq⟩ := h2 e
          exact absurd hq (hI x hx)
  obtain ⟨o, h, rfl⟩ := this
  exact h
theorem walkSettles_law {l : T_api_Layout} (h : Sm l) (way : List T_api_Step) : d_law09_WalkSettles l way = some true := by
  unfold d_law09_WalkSettles
  obtain ⟨b, e1, hb⟩ := law09_sound_is h way
  rw [e1, Option.bind_some]
  cases b with
  | false => simp [alive_eq]
  | true =>
    obtain ⟨hJ, hw⟩ := hb rfl
    obtain ⟨b1, v1, v2⟩ := walk_Valid_is l way h.jo (by omega)
    simp only [Bool.not_true, cond_false, v1, Option.bind_some]
    cases b1 with
    | false => simp [alive_eq]
    | true =>
      have hv := v2.1 rfl
      have ht := setS_len l way
      simp only [Bool.not_true, cond_false, walk_Settings_eq l way (by omega), Option.bind_some]
      have hlen : (setS l way).length = (rawS l way).length := same_len ((setS_asc l way).imp fun {a b} hab e => by subst e; rw [ltS_irr] at hab; cases hab) (rawS_nodup hv) (setS_mem l way)
      have hloop : Is (loopO (d_law09_WalkSettles_0 l way (setS l way)) (0, 0)) fun o => o = .inl (((rawS l way).length : Nat) : Int) := by
        refine Is.loop (mk := fun (i : Nat) (q : Int) => (q, (i : Int))) way.length (fun i q => q = (((rawS l (way.take i)).length : Nat) : Int)) 0 rfl ?_ ?_
        · rintro i q hi rfl
          unfold d_law09_WalkSettles_0
          refine Is.cond (fun _ => ?_) (fun hb => by simp at hb; omega)
          refine Is.bind (Is.ixn hi) fun s hs => ?_
          obtain ⟨s', g1, g2, g3, g4⟩ := hv.2.2 i hi
          rw [hs] at g1; cases g1
          have hE := pos_has g2
          obtain ⟨x, h1, h2⟩ := hasEl_get hE
          have hE' := hE
          simp only [hasEl, Bool.and_eq_true, decide_eq_true_eq] at hE'
          have hn : decide (s.El < 0) = false := decide_eq_false (by omega)
          have hn2 : decide (((l.Elements.length : Nat) : Int) ≤ s.El) = false := decide_eq_false (by omega)
          simp only [hn, hn2, cond_false, Option.bind_some]
          have hp : loopO (d_law09_WalkSettles_1 (setS l way) s) (0, 0) = some (.inl (posS l s).1) := by
            refine Settles_in _ s _ (by omega) (fun y hy e => ?_) (fun hp => ?_)
            · rw [setS_mem, rawS_mem] at hy
              obtain ⟨t, hm, ht'⟩ := hy
              unfold setOf at ht'
              cases hc : (posS l t).2 && !decide ((posS l t).1 = 0) with
              | false => rw [hc] at ht'; cases ht'
              | true =>
                rw [hc] at ht'; cases ht'
                obtain ⟨k, hk⟩ := List.getElem?_of_mem hm
                have := hv.apart hk hs e
                subst this
                rw [hk] at hs; cases hs; rfl
            · refine ⟨⟨s.El, (posS l s).1⟩, ?_, rfl⟩
              rw [setS_mem, rawS_mem]
              refine ⟨s, List.mem_of_getElem? hs, ?_⟩
              unfold setOf
              simp [g2, hp]
          rw [hp]
          have hlen' : (rawS l (way.take i)).length ≤ i := Nat.le_trans (rawS_len _ _) (by simp; omega)
          have hcount : (rawS l (way.take (i + 1))).length = (rawS l (way.take i)).length + (if x.Kind = 2 then 1 else 0) := by
            rw [take_snoc hs, rawS_snoc, List.length_append]
            congr 1
            unfold setOf
            have hk := kind_pos h2 g2
            by_cases e : x.Kind = 2
            · simp [g2, hk.1 e, e]
            · have : (posS l s).1 = 0 := by
                by_cases q : (posS l s).1 = 0
                · exact q
                · exact absurd (hk.2 q) e
              simp [e, this]
          have hout : d_rail_Out x.Kind s.In (posS l s).1 = some (s.Out, true) := by
            refine out_need ?_
            have : posS l s = needS x.Kind s.In s.Out := by unfold posS; rw [hE, h2]; rfl
            rw [this] at g2 ⊢
            exact Prod.ext rfl g2
          refine Is.onInl (θ := fun o => o = .inl (posS l s).1) (Is.val rfl) ?_ (fun b hb => by cases hb)
          rintro v hv'
          cases hv'
          refine Is.onInl (θ := fun o => o = .inl (((rawS l (way.take (i + 1))).length : Nat) : Int)) ?_ ?_ (fun b hb => by cases hb)
          · rw [h1]
            refine Is.bind (Is.eq rfl) fun y hy => ?_
            subst hy
            rw [hcount]
            refine Is.cond (fun hc => Is.val ?_) (fun hc => Is.val ?_)
            · rw [if_pos (of_decide_eq_true hc), w64n (by omega)]
            · rw [if_neg (of_decide_eq_false hc)]; rfl
          · rintro v hv'
            cases hv'
            rw [h1]
            refine Is.bind (Is.eq rfl) fun y hy => ?_
            subst hy
            rw [hout]
            refine Is.bind (Is.eq rfl) fun z hz => ?_
            subst hz
            simp only [Bool.not_true, decide_true, Bool.false_or, cond_false]
            exact Is.val ⟨_, by rw [w64n (by omega)], rfl⟩
        · rintro q rfl
          unfold d_law09_WalkSettles_0
          exact Is.cond (fun hb => by simp at hb) (fun _ => Is.val (by rw [List.take_length]))
      obtain ⟨o, o1, rfl⟩ := hloop
      rw [o1]
      simp [onInl, onOut, hlen, alive_eq]
end PM
