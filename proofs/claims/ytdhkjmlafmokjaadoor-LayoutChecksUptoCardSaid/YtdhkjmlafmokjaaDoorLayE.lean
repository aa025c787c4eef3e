/-
  PLAIN, LAYOUT E: what a valid layout is; the statements LayoutChecks and LayoutJoins.
-/
import Derived.Test.YtdhkjmlafmokjaaDoorLayD
namespace PM
open Go Go.RowKit

structure OkL (l : T_api_Layout) : Prop where
  counts : CountsP l
  names : NamesP l
  dist : DistP l
  elem : ElemP l
  joint : JointP l
  ends : (endsOf l.Joints).Nodup
  sig : SigP l
  sigd : (l.Signals.map (·.At)).Nodup
  safe : SafeP l
  bal : BalP l
  bald : (l.Balises.map (·.Id)).Nodup
theorem chk_ok (l : T_api_Layout) : chk l = 0 ↔ OkL l := by
  constructor
  · intro h
    unfold chk at h
    by_cases h1 : CountsP l
    · by_cases h2 : NamesP l
      · by_cases h3 : DistP l
        · by_cases h4 : ElemP l
          · by_cases h5 : JointP l
            · by_cases h6 : (endsOf l.Joints).Nodup
              · by_cases h7 : SigP l
                · by_cases h8 : (l.Signals.map (·.At)).Nodup
                  · by_cases h9 : SafeP l
                    · by_cases h10 : BalP l
                      · by_cases h11 : (l.Balises.map (·.Id)).Nodup
                        · exact ⟨h1, h2, h3, h4, h5, h6, h7, h8, h9, h10, h11⟩
                        · simp [h1, h2, h3, h4, h5, h6, h7, h8, h9, h10, h11] at h
                      · simp [h1, h2, h3, h4, h5, h6, h7, h8, h9, h10] at h
                    · simp [h1, h2, h3, h4, h5, h6, h7, h8, h9] at h
                  · simp [h1, h2, h3, h4, h5, h6, h7, h8] at h
                · simp [h1, h2, h3, h4, h5, h6, h7] at h
              · simp [h1, h2, h3, h4, h5, h6] at h
            · simp [h1, h2, h3, h4, h5] at h
          · simp [h1, h2, h3, h4] at h
        · simp [h1, h2, h3] at h
      · simp [h1, h2] at h
    · simp [h1] at h
  · rintro ⟨h1, h2, h3, h4, h5, h6, h7, h8, h9, h10, h11⟩
    simp [chk, h1, h2, h3, h4, h5, h6, h7, h8, h9, h10, h11]
theorem layout_Check_eq {l : T_api_Layout} (h : Sm l) : d_layout_Check l = some (chk l) := by
  obtain ⟨r, h1, rfl⟩ := layout_Check_is h; exact h1
theorem ref07_Check_eq {l : T_api_Layout} (h : Sm l) : d_ref07_Check l = some (chk l) := by
  obtain ⟨r, h1, rfl⟩ := ref07_Check_val h; exact h1
theorem alive7_eq : d_law07_alive = some true := by kernel_rfl
theorem Few_is (l : T_api_Layout) : ∃ b, d_law07_Few l = some b := by
  unfold d_law07_Few
  simp only [Option.bind_some, cond_some, Bool.cond_false_right]
  exact ⟨_, rfl⟩
theorem layoutChecks_law {l : T_api_Layout} (h : Sm l) : d_law07_LayoutChecks l = some true := by
  unfold d_law07_LayoutChecks
  obtain ⟨b, hb⟩ := Few_is l
  cases b <;> simp [hb, layout_Check_eq h, ref07_Check_eq h, alive7_eq]
/-- A loop over the numbers below n. -/
theorem Is.cnt {A β : Type} {step : Int → Option (Int ⊕ (A ⊕ β))} {K : A → Option β} {ψ : β → Prop} (n : Nat) (P : Nat → Prop) (v : A) (hn : n < 9223372036854775807)
    (hs : ∀ (i : Nat), i < n → (∀ j, j < i → P j) → Is (step (i : Int)) fun o => match o with | .inl t => t = w64 ((i : Int) + 1) ∧ P i | .inr (.inl _) => False | .inr (.inr b) => ψ b)
    (he : step (n : Int) = some (.inr (.inl v)))
    (hk : (∀ i, i < n → P i) → Is (K v) ψ) : Is (PM.onInl (loopO step 0) K) ψ := by
  refine Is.all (L := List.range n) (fun i _ => P i) v (by simpa using hn) (fun i x hx hi hp => ?_) (by simpa using he) (fun h => hk fun i hi => h i i (by rw [List.getElem?_range hi]))
  have hi : i < n := by simpa using hi
  refine (hs i hi fun j hj => hp j j hj (by rw [List.getElem?_range (by omega)])).mono fun o ho => ?_
  rcases o with t | t | b
  · exact ho
  · exact ho
  · exact ho
theorem Is.ub {α : Type} {x y : Option α} {φ : α → Prop} {i n : Int} (h : i < n) (hx : Is x φ) : Is (bif decide (i < n) then x else y) φ := by
  rw [decide_eq_true h]; exact hx
/-! ### Joined ends -/
theorem jf_cons (j : T_api_Joint) (L : List T_api_Joint) (e : T_api_End) : jf (j :: L) e = if e = j.A then some j.B else if e = j.B then some j.A else jf L e := by
  unfold jf
  by_cases h1 : e = j.A
  · subst h1; simp [eqEnd_self]
  · by_cases h2 : e = j.B
    · subst h2; simp [eqEnd_self, eqEnd_ne (Ne.symm h1), h1]
    · simp [eqEnd_ne (Ne.symm h1), eqEnd_ne (Ne.symm h2), h1, h2]
theorem jf_sym : ∀ {L : List T_api_Joint}, (endsOf L).Nodup → ∀ {e f : T_api_End}, jf L e = some f → jf L f = some e ∧ f ≠ e
  | [], _, e, f, h => by simp [jf] at h
  | j :: L, hn, e, f, h => by
    have hs : endsOf (j :: L) = j.A :: j.B :: endsOf L := by simp [endsOf]
    rw [hs, List.nodup_cons, List.nodup_cons] at hn
    obtain ⟨h1, h2, h3⟩ := hn
    have hab : j.A ≠ j.B := fun q => h1 (by rw [q]; simp)
    rw [jf_cons] at h
    by_cases g1 : e = j.A
    · rw [if_pos g1] at h
      have : j.B = f := by simpa using h
      subst this; subst g1
      rw [jf_cons, if_neg (Ne.symm hab), if_pos rfl]
      exact ⟨rfl, Ne.symm hab⟩
    · rw [if_neg g1] at h
      by_cases g2 : e = j.B
      · rw [if_pos g2] at h
        have : j.A = f := by simpa using h
        subst this; subst g2
        rw [jf_cons, if_pos rfl]
        exact ⟨rfl, hab⟩
      · rw [if_neg g2] at h
        obtain ⟨h4, h5⟩ := jf_sym h3 h
        have hm : f ∈ endsOf L := jf_isSome.1 (by rw [h4]; rfl)
        rw [jf_cons, if_neg (fun q => h1 (by rw [← q]; exact List.mem_cons_of_mem _ hm)), if_neg (fun q => h2 (by rw [← q]; exact hm))]
        exact ⟨h4, h5⟩
theorem joinS_sym {l : T_api_Layout} (hn : (endsOf l.Joints).Nodup) {e : T_api_End} (h : (joinS l e).2 = true) : joinS l (joinS l e).1 = (e, true) ∧ (joinS l e).1 ≠ e := by
  rw [jf_join l e] at h ⊢
  cases hj : jf l.Joints e with
  | none => rw [hj] at h; cases h
  | some f =>
    obtain ⟨h1, h2⟩ := jf_sym hn hj
    simp only
    rw [jf_join l f, h1]
    exact ⟨rfl, h2⟩
theorem sigF_nonneg {L : List T_api_Signal} {e : T_api_End} (h : 0 ≤ sigF L e) : ∃ s ∈ L, s.At = e := by
  refine Classical.byContradiction fun hn => ?_
  have := sigF_none (L := L) (e := e) fun s hs q => hn ⟨s, hs, q⟩
  omega
theorem layoutJoins_law {l : T_api_Layout} (h : Sm l) : d_law07_LayoutJoins l = some true := by
  suffices hs : Is (d_law07_LayoutJoins l) fun b => b = true by
    obtain ⟨b, h1, rfl⟩ := hs; exact h1
  unfold d_law07_LayoutJoins
  obtain ⟨b, hb⟩ := Few_is l
  simp only [hb, layout_Check_eq h, alive7_eq, Option.bind_some, cond_some, Bool.cond_true_left]
  refine Is.cond (fun _ => Is.val rfl) (fun hc => ?_)
  have hO : OkL l := (chk_ok l).1 (by simp at hc; exact hc.2)
  refine Is.all (L := l.Elements) (fun _ _ => True) () (by have := h.el; omega) (fun i x hx hi _ => ?_) (by simp [d_law07_LayoutJoins_0]) (fun _ => Is.val rfl)
  unfold d_law07_LayoutJoins_0
  refine Is.inb hi (Is.at hx ?_)
  have hk := sidesS_le x.Kind
  refine Is.cnt (sidesS x.Kind).toNat (fun _ => True) () (by omega) (fun k hk2 _ => ?_) ?_ (fun _ => Is.val ⟨rfl, trivial⟩)
  · unfold d_law07_LayoutJoins_1
    rw [ref06_Sides_eq, Option.bind_some]
    refine Is.ub (by omega) ?_
    rw [layout_Joined_eq h.jo, Option.bind_some, layout_Joined_eq h.jo, Option.bind_some]
    refine Is.cond (fun hc => ?_) (fun _ => ?_)
    · exfalso
      simp only [Bool.and_eq_true, Bool.or_eq_true, Bool.not_eq_true'] at hc
      obtain ⟨h1, h2⟩ := hc
      obtain ⟨h3, h4⟩ := joinS_sym hO.ends h1
      rw [h3] at h2
      rcases h2 with (h2 | h2) | h2
      · cases h2
      · rw [eqEnd_self] at h2; cases h2
      · exact h4 ((eqEnd_iff _ _).1 h2)
    · rw [layout_Signal_eq h.sg, Option.bind_some]
      simp only [layout_Section_eq, Option.bind_some, cond_some, Bool.cond_true_left, Bool.cond_false_right]
      refine Is.cond (fun hc => ?_) (fun _ => Is.val ⟨rfl, trivial⟩)
      exfalso
      simp only [Bool.and_eq_true, Bool.or_eq_true, Bool.not_eq_true', decide_eq_true_eq] at hc
      obtain ⟨h1, h2⟩ := hc
      obtain ⟨s, hs, he⟩ := sigF_nonneg h1
      have := hO.safe s hs
      rw [he] at this
      rcases h2 with h2 | h2
      · rw [this.1] at h2; cases h2
      · exact this.2 h2
  · unfold d_law07_LayoutJoins_1
    rw [ref06_Sides_eq, Option.bind_some]
    rw [decide_eq_false (by omega)]; rfl
end PM
