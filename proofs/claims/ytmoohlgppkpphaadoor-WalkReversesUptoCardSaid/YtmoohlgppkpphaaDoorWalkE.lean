/-
  PLAIN, WALK E: the chapter's examples.
-/
import Derived.Test.YtmoohlgppkpphaaDoorWalkD
namespace PM
open Go Go.RowKit

def lineS : T_api_Layout := ⟨ByteArray.mk #[108, 105, 110, 101], [ByteArray.mk #[116, 97], ByteArray.mk #[116, 98], ByteArray.mk #[116, 99]],
  [⟨ByteArray.mk #[97], 1, 20000, 0, 3000, 0, 0⟩, ⟨ByteArray.mk #[98], 1, 20000, 0, 3000, 0, 1⟩, ⟨ByteArray.mk #[99], 1, 20000, 0, 3000, 0, 2⟩], [⟨⟨0, 1⟩, ⟨1, 0⟩⟩, ⟨⟨1, 1⟩, ⟨2, 0⟩⟩], [], []⟩
theorem line_eq : d_law09_line = some lineS := by
  unfold d_law09_line
  rw [loopO_unroll 4]
  simp [unroll, d_law09_line_0, ixO, appO, Enc.b, sizeMax, onInl, onOut, w64_of, lineS]
theorem reverse_eq : d_walk_Reverse [⟨0, 0, 1⟩, ⟨1, 0, 1⟩] = some [⟨1, 1, 0⟩, ⟨0, 1, 0⟩] := by
  unfold d_walk_Reverse
  have e : mkO T_api_Step (([(⟨0, 0, 1⟩ : T_api_Step), ⟨1, 0, 1⟩].length : Nat) : Int) = some [] := by simp [mkO, Enc.b, sizeMax]
  rw [e]
  simp only [Option.bind_some]
  rw [loopO_unroll 3]
  simp [unroll, d_walk_Reverse_0, ixO, appO, Enc.b, sizeMax, onInl, onOut, w64_of]
theorem sections_eq : d_walk_Sections lineS [⟨0, 0, 1⟩, ⟨1, 0, 1⟩] = some [0, 1] := by
  unfold d_walk_Sections
  rw [loopO_unroll 3]
  simp [unroll, d_walk_Sections_0, walk_exists_eq, hasEl, ixO, appO, Enc.b, sizeMax, onInl, onOut, w64_of, lineS, mget, mset]
theorem sameInts_eq : d_ref09_SameInts [0, 1] [0, 1] = some true := by
  unfold d_ref09_SameInts
  rw [loopO_unroll 3]
  simp [unroll, d_ref09_SameInts_0, ixO, onInl, onOut, w64_of]
theorem valid_line : d_walk_Valid lineS [⟨0, 0, 1⟩, ⟨1, 0, 1⟩] = some true := by
  obtain ⟨b, h1, h2⟩ := walk_Valid_is lineS [⟨0, 0, 1⟩, ⟨1, 0, 1⟩] (by decide) (by decide)
  rw [h1]
  congr 1
  refine h2.2 ⟨by decide, by decide, fun i hi => ?_⟩
  have : i = 0 ∨ i = 1 := by simp at hi; omega
  rcases this with rfl | rfl
  · exact ⟨_, rfl, by simp [posS, hasEl, lineS, needS, tab_rail_passages], fun k t hk => by omega, fun p hp => by omega⟩
  · refine ⟨_, rfl, by simp [posS, hasEl, lineS, needS, tab_rail_passages], fun k t hk ht => ?_, fun p hp h => ?_⟩
    · have : k = 0 := by omega
      subst this
      simp at ht; subst ht; decide
    · simp at h; subst h
      simp [joinS, lineS, eq_T_api_End]
theorem invalid_line : d_walk_Valid lineS [⟨0, 0, 1⟩, ⟨2, 0, 1⟩] = some false := by
  obtain ⟨b, h1, h2⟩ := walk_Valid_is lineS [⟨0, 0, 1⟩, ⟨2, 0, 1⟩] (by decide) (by decide)
  rw [h1]
  cases b with
  | false => rfl
  | true =>
    exfalso
    obtain ⟨_, _, h3⟩ := h2.1 rfl
    obtain ⟨s, h4, _, _, h5⟩ := h3 1 (by decide)
    simp at h4; subst h4
    have := h5 ⟨0, 0, 1⟩ (by decide) rfl
    simp [joinS, lineS, eq_T_api_End] at this
theorem alive_eq : d_law09_alive = some true := by
  unfold d_law09_alive
  have hl : lineS.Joints.length ≤ 1048576 := by decide
  have e1 : slO [(⟨0, 0, 1⟩ : T_api_Step), ⟨1, 0, 1⟩] (some 1) none none = some [⟨1, 0, 1⟩] := slO_lo (l := 1) (by decide)
  have e2 : branS lineS ⟨1, 0⟩ = [⟨1, 0, 1⟩] := by simp [branS, hasEl, lineS, legsS]
  have e3 : joinS lineS ⟨0, 1⟩ = (⟨1, 0⟩, true) := by simp [joinS, lineS, eq_T_api_End]
  have e4 : joinS lineS ⟨2, 1⟩ = (⟨0, 0⟩, false) := by simp [joinS, lineS, eq_T_api_End]
  have e5 : sumL lineS [⟨0, 0, 1⟩, ⟨1, 0, 1⟩] = 40000 := by simp [sumL, lenOf, hasEl, lineS]
  have e6 : w64 40000 = 40000 := w64_of (by omega) (by omega)
  simp [line_eq, ixO, walk_Next_eq hl, e3, e4, walk_Branches_eq, e2, reverse_eq, e1, SameSteps_refl, valid_line, invalid_line, walk_Length_eq, e5, e6, sections_eq, sameInts_eq, eq_T_api_End, eq_T_api_Step]
end PM
