/-
  PLAIN: slices.Compact at numbers.
-/
import Derived.Test.YtpiejhjhalnaaaaDoorWalkJ
namespace PM
open Go Go.RowKit

theorem CompactI_in (L : List Int) (h : L.length ≤ 1000000) {i : Nat} (hi0 : 0 < i) (hi : i < L.length) (hd : ddS (L.take (i + 1)) = L.take i) :
    Is (loopO (d_slices_Compact_int_1 L (i, L.length)) ((i : Int), 1, L)) fun o => match o with
      | .inl r => ∃ k : Nat, r.2 = (k : Int) ∧ k ≤ L.length ∧ r.1.length = L.length ∧ r.1.take k = ddS L
      | .inr _ => False := by
  refine Is.loop (S := Int × Int × List Int) (mk := fun (j : Nat) (m : Nat × List Int) => (((m.1 : Nat) : Int), ((j + 1 : Nat) : Int), m.2)) (L.length - i - 1)
    (fun j m => m.2.length = L.length ∧ m.1 ≤ i + j ∧ m.2.take m.1 = ddS (L.take (i + j + 1)) ∧ ∀ t, m.1 ≤ t → m.2[t]? = L[t]?) (i, L) ⟨rfl, Nat.le_refl _, hd.symm, fun _ _ => rfl⟩ ?_ ?_
  · rintro j ⟨k, c⟩ hj ⟨hc, hk, ht, hs⟩
    simp only at hc hk ht hs
    unfold d_slices_Compact_int_1
    refine Is.cond (fun _ => ?_) (fun hb => by simp at hb; omega)
    have hL : ((L : List Int).map cellsOf).length = L.length := List.length_map _
    have e1 : w64 (((j + 1 : Nat) : Int) - 1) = ((j : Nat) : Int) := by rw [w64_of (by omega) (by omega)]; omega
    simp only [hL, e1, Nat.zero_add, xixO_nat i (show j + 1 < L.length - i by omega), xixO_nat i (show j < L.length - i by omega), Option.bind_some, xldO_eq hc]
    have hx : c[i + (j + 1)]? = L[i + (j + 1)]? := hs _ (by omega)
    have hy : c[i + j]? = L[i + j]? := hs _ (by omega)
    obtain ⟨x, ex⟩ : ∃ x, L[i + (j + 1)]? = some x := ⟨_, List.getElem?_eq_getElem (by omega)⟩
    obtain ⟨y, ey⟩ : ∃ y, L[i + j]? = some y := ⟨_, List.getElem?_eq_getElem (by omega)⟩
    rw [hx, ex, hy, ey]
    simp only [Option.bind_some]
    by_cases exy : x = y
    · simp only [exy, decide_true, Bool.not_true, cond_false]
      refine Is.val ⟨(k, c), ?_, hc, by simp only; omega, ?_, hs⟩
      · rw [w64n (by omega)]
      · simp only
        rw [ht]
        subst exy
        exact (ddS_same (by omega) ex (by rw [show i + (j + 1) - 1 = i + j by omega]; exact ey)).symm
    · simp only [exy, decide_false, Bool.not_false, cond_true]
      have hkn : k < L.length := by omega
      rw [show xixO 0 L.length ((k : Nat) : Int) = some (0 + k) from xixO_nat 0 hkn]
      have hck : c[k]? = some (c[k]'(by omega)) := List.getElem?_eq_getElem (by omega)
      simp only [Option.bind_some, Nat.zero_add, hck]
      refine Is.val ⟨(k + 1, c.set k x), ?_, by simpa using hc, by simp only; omega, ?_, fun t ht' => ?_⟩
      · rw [w64n (by omega), w64n (by omega)]
      · simp only
        rw [show i + (j + 1) + 1 = (i + (j + 1)) + 1 from rfl, ddS_other (by omega) ex (by rw [show i + (j + 1) - 1 = i + j by omega]; exact ey) exy, show i + (j + 1) = i + j + 1 by omega, ← ht]
        rw [take_snoc (x := x) (by rw [List.getElem?_set_self (by omega)]), List.take_set_of_le (Nat.le_refl _)]
      · rw [List.getElem?_set_ne (by simp only at ht'; omega)]
        exact hs t (by simp only at ht'; omega)
  · rintro ⟨k, c⟩ ⟨hc, hk, ht, hs⟩
    simp only at hc hk ht hs
    unfold d_slices_Compact_int_1
    refine Is.cond (fun hb => by simp at hb; omega) (fun _ => Is.val ?_)
    refine ⟨k, rfl, by omega, hc, ?_⟩
    rw [show i + (L.length - i - 1) + 1 = L.length by omega, List.take_length] at ht
    exact ht
theorem CompactI_is (L : List Int) (h : L.length ≤ 1000000) : Is (d_slices_Compact_int L) fun r => r.1.take r.2 = ddS L := by
  unfold d_slices_Compact_int
  have hL : ((L : List Int).map cellsOf).length = L.length := List.length_map _
  rw [hL]
  refine Is.cond (fun hb => Is.val ?_) (fun hb => ?_)
  · have hl : L.length < 2 := by have := of_decide_eq_true hb; omega
    simp only [List.take_length]
    match L, hl with
    | [], _ => rfl
    | [x], _ => rfl
  have hl : 2 ≤ L.length := by have := of_decide_eq_false hb; omega
  refine Is.onInl (θ := fun o => match o with | .inl _ => ddS L = L | .inr r => r.1.take r.2 = ddS L) ?_ ?_ (fun b hb => hb)
  · refine Is.loop (S := Int) (mk := fun (i : Nat) (_ : Unit) => ((i + 1 : Nat) : Int)) (L.length - 1) (fun i _ => ddS (L.take (i + 1)) = L.take (i + 1)) () ?_ ?_ ?_
    · match L, hl with
      | x :: r, _ => simp [ddS, ddStep]
    · rintro i m hi hI
      unfold d_slices_Compact_int_0
      rw [hL]
      refine Is.cond (fun _ => ?_) (fun hb => by simp at hb; omega)
      have e1 : w64 (((i + 1 : Nat) : Int) - 1) = ((i : Nat) : Int) := by rw [w64_of (by omega) (by omega)]; omega
      simp only [e1, xixO_nat 0 (show i + 1 < L.length by omega), xixO_nat 0 (show i < L.length by omega), Option.bind_some, Nat.zero_add, xldO_eq (rfl : L.length = L.length)]
      obtain ⟨x, ex⟩ : ∃ x, L[i + 1]? = some x := ⟨_, List.getElem?_eq_getElem (by omega)⟩
      obtain ⟨y, ey⟩ : ∃ y, L[i]? = some y := ⟨_, List.getElem?_eq_getElem (by omega)⟩
      rw [ex, ey]
      simp only [Option.bind_some]
      by_cases exy : x = y
      · subst exy
        simp only [decide_true, cond_true]
        have es : xslO L.length (some ((i + 1 : Nat) : Int)) none = some (i + 1, L.length) := by
          simp only [xslO, bndI]
          rw [if_pos (by omega)]
          simp only [Int.toNat_natCast]
          rw [if_pos (by omega)]
        rw [es]
        simp only [Option.bind_some]
        have hd : ddS (L.take (i + 1 + 1)) = L.take (i + 1) := by rw [ddS_same (by omega) ex (by simpa using ey), hI]
        refine Is.onInl (CompactI_in L h (by omega) (by omega) hd) ?_ (fun b hb => hb.elim)
        rintro ⟨c, kk⟩ ⟨k, hkk, hk, hc, ht⟩
        simp only at hkk hc ht
        subst hkk
        have es : xslO L.length (some ((k : Nat) : Int)) none = some (k, L.length) := by
          simp only [xslO, bndI]
          rw [if_pos (by omega)]
          simp only [Int.toNat_natCast]
          rw [if_pos (by omega)]
        simp only [es, Option.bind_some]
        have ec : xclrO c L.length k (L.length - k) (0 : Int) = some (c.take k ++ List.replicate (L.length - k) (0 : Int) ++ c.drop (k + (L.length - k))) := by
          unfold xclrO
          rw [if_pos ⟨hc, by omega⟩]
        have eh : xslhO L.length ((k : Nat) : Int) = some k := by
          unfold xslhO
          rw [if_pos (by omega)]; rfl
        simp only [ec, eh, Option.bind_some]
        refine Is.val ?_
        show List.take k _ = ddS L
        rw [← ht, List.append_assoc, List.take_append_of_le_length (by simp; omega), List.take_take, Nat.min_self]
      · simp only [exy, decide_false, cond_false]
        refine Is.val ⟨(), by rw [w64n (by omega)], ?_⟩
        rw [ddS_other (by omega) ex (by simpa using ey) exy, hI, take_snoc ex]
    · rintro m hI
      unfold d_slices_Compact_int_0
      rw [hL]
      refine Is.cond (fun hb => by simp at hb; omega) (fun _ => Is.val ?_)
      rw [show L.length - 1 + 1 = L.length by omega, List.take_length] at hI
      exact hI
  · rintro v hv
    refine Is.val ?_
    show List.take L.length L = ddS L
    rw [List.take_length]; exact hv.symm
/-! ### Both lists of settings -/
end PM
