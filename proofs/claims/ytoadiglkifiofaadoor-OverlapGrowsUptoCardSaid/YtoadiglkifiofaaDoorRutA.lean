/-
  PLAIN, ROUTES A: what the reference's routes are (chapter 12), exactly.
-/
import Derived.Test.YtoadiglkifiofaaDoorOverA
import Derived.Test.YtoadiglkifiofaaDoorLayE
import Derived.Test.YtoadiglkifiofaaDoorWalkK
import Derived.Test.YtoadiglkifiofaaDoorWalkG
import Derived.Test.YtoadiglkifiofaaDoorPlA
namespace PM
open Go Go.RowKit

def zAt (l : T_api_Layout) (way : List T_api_Step) (i : Nat) : Int := secZ l (((way[i]?).map (·.El)).getD 0)
theorem zAt_get {l : T_api_Layout} {way : List T_api_Step} {i : Nat} {s : T_api_Step} (h : way[i]? = some s) : zAt l way i = secZ l s.El := by
  unfold zAt; rw [h]; rfl
def chgN (l : T_api_Layout) (way : List T_api_Step) : Nat → Nat
  | 0 => 1
  | n + 1 => if zAt l way (n + 1) = zAt l way n then chgN l way n else chgN l way n + 1
theorem chgN_succ (l : T_api_Layout) (way : List T_api_Step) (n : Nat) : chgN l way (n + 1) = if zAt l way (n + 1) = zAt l way n then chgN l way n else chgN l way n + 1 := rfl
theorem chgN_le (l : T_api_Layout) (way : List T_api_Step) : ∀ n, chgN l way n ≤ n + 1
  | 0 => Nat.le_refl _
  | n + 1 => by
    have := chgN_le l way n
    unfold chgN
    split <;> omega
def FitP (l : T_api_Layout) (e : T_api_End) (way : List T_api_Step) : Prop :=
  (∃ s, way[0]? = some s ∧ s.El = e.El ∧ s.In = e.Side) ∧ way.length ≤ 12 ∧ ValidP l way ∧ chgN l way (way.length - 1) = (secS l way).length
theorem Fits_loopE (l : T_api_Layout) (way : List T_api_Step) (h0 : 0 < way.length) (h : way.length ≤ 1000) : Is (loopO (d_ref12_Fits_0 l way) (1, 1)) fun o => o = .inl ((chgN l way (way.length - 1) : Nat) : Int) := by
  refine Is.loop (mk := fun i (s : Int) => (s, ((i + 1 : Nat) : Int))) (way.length - 1) (fun i s => s = ((chgN l way i : Nat) : Int)) (1 : Int) rfl (fun i s hi hI => ?_) (fun s hI => ?_)
  · have h1 : i + 1 < way.length := by omega
    have hc := chgN_le l way i
    simp only [d_ref12_Fits_0]
    rw [decide_eq_true (by omega), cond_true]
    refine Is.onInl (θ := fun o => o = .inl ((chgN l way (i + 1) : Nat) : Int)) ?_ ?_ (fun b hb => by cases hb)
    · refine Is.at (List.getElem?_eq_getElem h1) ?_
      rw [ref07_Section_z, Option.bind_some]
      have hw : w64 (((i + 1 : Nat) : Int) - 1) = (i : Int) := by rw [w64_of (by omega) (by omega)]; omega
      rw [hw]
      refine Is.at (List.getElem?_eq_getElem (show i < way.length by omega)) ?_
      rw [ref07_Section_z, Option.bind_some]
      have e1 := zAt_get (l := l) (List.getElem?_eq_getElem h1)
      have e2 := zAt_get (l := l) (List.getElem?_eq_getElem (show i < way.length by omega))
      rw [← e1, ← e2]
      subst hI
      refine Is.ifn dec_iff (fun hn => Is.val ?_) (fun hn => Is.val ?_)
      · rw [chgN_succ, if_neg hn, w64n (by omega)]
      · rw [chgN_succ, if_pos hn]
    · rintro v hv
      cases hv
      refine Is.val ⟨_, ?_, rfl⟩
      have hw : w64 (((i + 1 : Nat) : Int) + 1) = ((i + 1 + 1 : Nat) : Int) := by rw [w64_of (by omega) (by omega)]; omega
      rw [hw]
  · simp only [d_ref12_Fits_0]
    rw [decide_eq_false (by omega), cond_false]
    exact Is.val (by rw [hI])
theorem Fits_iff (l : T_api_Layout) (hj : l.Joints.length ≤ 1048576) (e : T_api_End) (way : List T_api_Step) (h : way.length ≤ 1000) : Is (d_ref12_Fits l e way) fun b => b = true ↔ FitP l e way := by
  unfold d_ref12_Fits
  refine Is.bind (Is.or dec_iff fun _ => Is.val dec_iff) fun b1 hb1 => ?_
  refine Is.bind (φ := fun b => b = true ↔ (¬ (0 < way.length ∧ way.length ≤ 12)) ∨ ∃ s, way[0]? = some s ∧ s.El ≠ e.El) (Is.ite hb1 (fun hp => Is.val ?_) fun hp => ?_) fun b2 hb2 => ?_
  · exact ⟨fun _ => .inl (by omega), fun _ => rfl⟩
  · have h0 : 0 < way.length := by omega
    refine Is.at (i := 0) (List.getElem?_eq_getElem h0) (Is.val ?_)
    rw [Bool.not_eq_true', decide_eq_false_iff_not]
    constructor
    · exact fun hn => .inr ⟨_, List.getElem?_eq_getElem h0, hn⟩
    · rintro (hn | ⟨s, hs, hn⟩)
      · omega
      · rw [List.getElem?_eq_getElem h0] at hs; cases hs; exact hn
  refine Is.bind (φ := fun b => b = true ↔ ((¬ (0 < way.length ∧ way.length ≤ 12)) ∨ ∃ s, way[0]? = some s ∧ s.El ≠ e.El) ∨ ∃ s, way[0]? = some s ∧ s.In ≠ e.Side) (Is.ite hb2 (fun hp => Is.val ?_) fun hp => ?_) fun b4 hb4 => ?_
  · exact ⟨fun _ => .inl hp, fun _ => rfl⟩
  · have h0 : 0 < way.length := by
      by_cases hh : 0 < way.length
      · exact hh
      · exact absurd (.inl fun q => hh q.1) hp
    refine Is.at (i := 0) (List.getElem?_eq_getElem h0) (Is.val ?_)
    rw [Bool.not_eq_true', decide_eq_false_iff_not]
    constructor
    · exact fun hn => .inr ⟨_, List.getElem?_eq_getElem h0, hn⟩
    · rintro (hn | ⟨s, hs, hn⟩)
      · exact absurd hn hp
      · rw [List.getElem?_eq_getElem h0] at hs; cases hs; exact hn
  refine Is.bind (Is.or (q := ¬ ValidP l way) hb4 fun _ => ?_) fun b6 hb6 => ?_
  · exact (ref09_Valid_is l way hj (by omega)).bind fun r hr => Is.val (not_iff_of hr)
  refine Is.ite hb6 (fun hp => Is.val ?_) fun hp => ?_
  · simp only [Bool.false_eq_true, false_iff]
    rintro ⟨⟨s, hs, h1, h2⟩, h3, h4, h5⟩
    have h0 := lt_of_get hs
    rcases hp with ((hp | ⟨t, ht, hp⟩) | ⟨t, ht, hp⟩) | hp
    · omega
    · rw [hs] at ht; cases ht; exact hp h1
    · rw [hs] at ht; cases ht; exact hp h2
    · exact hp h4
  · have h0 : 0 < way.length ∧ way.length ≤ 12 := by
      by_cases hh : 0 < way.length ∧ way.length ≤ 12
      · exact hh
      · exact absurd (.inl (.inl (.inl hh))) hp
    refine Is.onInl (Fits_loopE l way h0.1 h) (fun v hv => ?_) (fun b hb => by cases hb)
    cases hv
    rw [ref09_Sections_eq l way (by omega), Option.bind_some]
    refine Is.val ?_
    rw [decide_eq_true_iff]
    have hg := List.getElem?_eq_getElem h0.1
    constructor
    · intro hc
      refine ⟨⟨_, hg, ?_, ?_⟩, h0.2, ?_, by omega⟩
      · by_cases hh : (way[0]'h0.1).El = e.El
        · exact hh
        · exact absurd (.inl (.inl (.inr ⟨_, hg, hh⟩))) hp
      · by_cases hh : (way[0]'h0.1).In = e.Side
        · exact hh
        · exact absurd (.inl (.inr ⟨_, hg, hh⟩)) hp
      · by_cases hh : ValidP l way
        · exact hh
        · exact absurd (.inr hh) hp
    · rintro ⟨_, _, _, hc⟩
      omega

theorem r07_Signal_eq {l : T_api_Layout} (h : l.Signals.length ≤ 1048576) (e : T_api_End) : d_ref07_Signal l e = some (sigF l.Signals e) := by
  have : Is (d_ref07_Signal l e) fun r => r = sigF l.Signals e := by
    unfold d_ref07_Signal
    refine Is.all (L := l.Signals) (fun _ x => x.At ≠ e) () (by omega) (fun i x hx hi hI => ?_) ?_ (fun hn => ?_)
    · unfold d_ref07_Signal_0
      refine Is.inb hi (Is.at hx (Is.ite (eqEnd_iff _ _) (fun hc => Is.val ?_) fun hc => Is.val ⟨rfl, hc⟩))
      exact (sigF_some hx hc hI).symm
    · simp [d_ref07_Signal_0]
    · refine Is.val (sigF_none fun s hs => ?_).symm
      obtain ⟨i, hi⟩ := List.getElem?_of_mem hs
      exact hn i s hi
  obtain ⟨r, h1, rfl⟩ := this
  exact h1
def endZ (l : T_api_Layout) (b : T_api_Step) : Bool := decide (0 ≤ sigF l.Signals ⟨b.El, b.Out⟩) || !(joinS l ⟨b.El, b.Out⟩).2
theorem Ends_eq {l : T_api_Layout} (h : Sm l) (b : T_api_Step) : d_ref12_Ends l b = some (sigF l.Signals ⟨b.El, b.Out⟩, endZ l b) := by
  unfold d_ref12_Ends endZ
  rw [r07_Signal_eq h.sg, Option.bind_some, ref09_Next_eq h.jo, Option.bind_some]
theorem sigF_rng (L : List T_api_Signal) (e : T_api_End) : sigF L e = -1 ∨ (0 ≤ sigF L e ∧ sigF L e < (L.length : Nat)) := by
  unfold sigF
  cases h : L.findIdx? (fun s => eq_T_api_End s.At e) with
  | none => exact .inl rfl
  | some i =>
    have := (List.findIdx?_eq_some_iff_findIdx_eq.1 h).1
    exact .inr ⟨by simp, by simp; omega⟩

open Classical in
noncomputable def fitB (l : T_api_Layout) (e : T_api_End) (way : List T_api_Step) : Bool := decide (FitP l e way)
theorem fitB_iff {l : T_api_Layout} {e : T_api_End} {way : List T_api_Step} : fitB l e way = true ↔ FitP l e way := by simp [fitB]
theorem Fits_eq {l : T_api_Layout} (hj : l.Joints.length ≤ 1048576) (e : T_api_End) {way : List T_api_Step} (h : way.length ≤ 1000) : d_ref12_Fits l e way = some (fitB l e way) := by
  obtain ⟨b, h1, h2⟩ := Fits_iff l hj e way h
  rw [h1]
  congr 1
  rw [Bool.eq_iff_iff, h2, fitB_iff]
noncomputable def growS (l : T_api_Layout) (e : T_api_End) (way : List T_api_Step) (rest : T_api_End → List T_api_Step → List (List T_api_Step)) (b : T_api_Step) : List (List T_api_Step) :=
  bif fitB l e (way ++ [b]) then (bif endZ l b then [way ++ [b]] else rest (joinS l ⟨b.El, b.Out⟩).1 (way ++ [b])) else []
noncomputable def pathsN (l : T_api_Layout) (e : T_api_End) : Nat → T_api_End → List T_api_Step → List (List T_api_Step)
  | 0, _, _ => []
  | n + 1, a, way => (branS l a).flatMap (growS l e way (pathsN l e n))
theorem pathsN_succ (l : T_api_Layout) (e : T_api_End) (n : Nat) (a : T_api_End) (way : List T_api_Step) : pathsN l e (n + 1) a way = (branS l a).flatMap (growS l e way (pathsN l e n)) := rfl
theorem pathsN_fits {l : T_api_Layout} {e : T_api_End} : ∀ {n : Nat} {a : T_api_End} {way p : List T_api_Step}, p ∈ pathsN l e n a way → FitP l e p
  | 0, _, _, p, h => by simp [pathsN] at h
  | n + 1, a, way, p, h => by
    rw [pathsN_succ, List.mem_flatMap] at h
    obtain ⟨b, _, h⟩ := h
    unfold growS at h
    cases hf : fitB l e (way ++ [b]) with
    | false => rw [hf] at h; cases h
    | true =>
      rw [hf, cond_true] at h
      cases hz : endZ l b with
      | true => rw [hz, cond_true, List.mem_singleton] at h; subst h; exact fitB_iff.1 hf
      | false => rw [hz, cond_false] at h; exact pathsN_fits h
theorem flatMap_len {α β : Type} (f : α → List β) (k : Nat) : ∀ (L : List α), (∀ x ∈ L, (f x).length ≤ k) → (L.flatMap f).length ≤ L.length * k
  | [], _ => by simp
  | x :: L, h => by
    have h1 := h x (by simp)
    have h2 := flatMap_len f k L fun y hy => h y (by simp [hy])
    rw [List.flatMap_cons, List.length_append, List.length_cons, Nat.succ_mul]; omega
theorem growS_len (l : T_api_Layout) (e : T_api_End) (way : List T_api_Step) (n : Nat) (rest : T_api_End → List T_api_Step → List (List T_api_Step)) (h : ∀ a w, (rest a w).length ≤ 2 ^ n) (b : T_api_Step) : (growS l e way rest b).length ≤ 2 ^ n := by
  have hp : 1 ≤ 2 ^ n := Nat.one_le_two_pow
  unfold growS
  cases fitB l e (way ++ [b]) with
  | false => simp
  | true =>
    cases endZ l b with
    | true => simpa using hp
    | false => exact h _ _
theorem pathsN_len (l : T_api_Layout) (e : T_api_End) : ∀ (n : Nat) (a : T_api_End) (way : List T_api_Step), (pathsN l e n a way).length ≤ 2 ^ n
  | 0, _, _ => by simp [pathsN]
  | n + 1, a, way => by
    have h1 := flatMap_len (growS l e way (pathsN l e n)) (2 ^ n) (branS l a) fun b _ => growS_len l e way n _ (pathsN_len l e n) b
    rw [pathsN_succ]
    refine Nat.le_trans h1 ?_
    rw [Nat.pow_succ, Nat.mul_comm]
    exact Nat.mul_le_mul_left _ (branS_len l a)
theorem search_eq {l : T_api_Layout} (hs : Sm l) (e : T_api_End) : ∀ (n : Nat) (a0 : T_signallingref12_Paths) (a : T_api_End) (way : List T_api_Step), way.length ≤ 12 → 13 ≤ n + way.length → a0.L.length + 2 ^ (13 - way.length) ≤ 1099511627776 →
    Is (d_ref12_Paths_search_N n a0 l e a way) fun r => r.L = a0.L ++ pathsN l e (13 - way.length) a way
  | 0, _, _, way, h1, h2, _ => by omega
  | n + 1, a0, a, way, h1, h2, h3 => by
    show Is (d_ref12_Paths_search_F (d_ref12_Paths_search_N n) a0 l e a way) _
    unfold d_ref12_Paths_search_F
    rw [ref09_Branches_eq, Option.bind_some]
    have hb := branS_len l a
    have hp : 2 ^ (13 - way.length) = 2 * 2 ^ (12 - way.length) := by
      rw [show 13 - way.length = (12 - way.length) + 1 by omega, Nat.pow_succ]; omega
    have hq : 1 ≤ 2 ^ (12 - way.length) := Nat.one_le_two_pow
    rw [show 13 - way.length = (12 - way.length) + 1 by omega, pathsN_succ]
    generalize hg : growS l e way (pathsN l e (12 - way.length)) = g
    have hlen : ∀ b, (g b).length ≤ 2 ^ (12 - way.length) := fun b => by rw [← hg]; exact growS_len l e way _ _ (pathsN_len l e _) b
    refine Is.onInl (θ := fun o => o = .inl (a0.L ++ (branS l a).flatMap g)) ?_ (fun v hv => ?_) (fun b hb => by cases hb)
    · refine Is.loop (mk := fun i (s : List (List T_api_Step)) => ((i : Int), s)) (branS l a).length (fun i s => s = a0.L ++ ((branS l a).take i).flatMap g) a0.L (by simp) (fun i s hi hI => ?_) (fun s hI => ?_)
      · have hi3 : (i + 1) * 2 ^ (12 - way.length) = i * 2 ^ (12 - way.length) + 2 ^ (12 - way.length) := Nat.succ_mul _ _
        have hi2 : i * 2 ^ (12 - way.length) ≤ 1 * 2 ^ (12 - way.length) := Nat.mul_le_mul_right _ (by omega)
        have hsl : s.length ≤ a0.L.length + i * 2 ^ (12 - way.length) := by
          have h4 := flatMap_len g (2 ^ (12 - way.length)) ((branS l a).take i) fun b _ => hlen b
          rw [List.length_take, Nat.min_eq_left (by omega)] at h4
          rw [hI, List.length_append]; omega
        have hx := List.getElem?_eq_getElem hi
        have htk : ((branS l a).take (i + 1)).flatMap g = ((branS l a).take i).flatMap g ++ g (branS l a)[i] := by
          rw [List.take_add_one, hx, Option.toList_some, List.flatMap_append]; simp
        simp only [d_ref12_Paths_search_0]
        rw [decide_eq_true (by omega), cond_true]
        refine Is.onInl (θ := fun o => o = .inl (a0.L ++ ((branS l a).take (i + 1)).flatMap g)) ?_ (fun v hv => ?_) (fun b hb => by cases hb)
        · refine Is.bind (Is.app (by simp only [List.length_nil, sizeMax, Enc.b]; omega)) fun M hM => ?_
          rw [hM, List.nil_append]
          refine Is.at hx ?_
          refine Is.bind (Is.app (by simp only [List.length_cons, List.length_nil, sizeMax, Enc.b]; omega)) fun M hM => ?_
          subst hM
          have hlen2 : (way ++ [(branS l a)[i]]).length = way.length + 1 := by simp
          rw [htk, ← List.append_assoc, ← hI, ← hg]
          unfold growS
          rw [Fits_eq hs.jo e (by omega), Option.bind_some]
          cases hft : fitB l e (way ++ [(branS l a)[i]]) with
          | false => exact Is.val (by rw [cond_false, List.append_nil])
          | true =>
            simp only [Bool.not_true, cond_false, cond_true]
            refine Is.at hx ?_
            rw [Ends_eq hs, Option.bind_some]
            show Is (bif endZ l (branS l a)[i] then _ else _) _
            cases hend : endZ l (branS l a)[i] with
            | true =>
              simp only [cond_true]
              refine Is.bind (Is.app (by simp only [List.length_cons, List.length_nil, sizeMax, Enc.b]; omega)) fun M hM => ?_
              subst hM
              exact Is.val rfl
            | false =>
              simp only [cond_false]
              refine Is.at hx ?_
              rw [ref09_Next_eq hs.jo, Option.bind_some]
              have f2 := (fitB_iff.1 hft).2.1
              refine (search_eq hs e n ⟨s⟩ _ _ f2 (by omega) (by show s.length + _ ≤ _; rw [hlen2, show 13 - (way.length + 1) = 12 - way.length by omega]; omega)).bind fun r hr => ?_
              rw [hlen2, show 13 - (way.length + 1) = 12 - way.length by omega] at hr
              exact Is.val (by rw [hr])
        · cases hv
          exact Is.val ⟨_, by rw [w64_of (by omega) (by omega)]; rfl, rfl⟩
      · simp only [d_ref12_Paths_search_0]
        rw [decide_eq_false (by omega), cond_false]
        exact Is.val (by rw [hI, List.take_length])
    · cases hv
      exact Is.val rfl
end PM
