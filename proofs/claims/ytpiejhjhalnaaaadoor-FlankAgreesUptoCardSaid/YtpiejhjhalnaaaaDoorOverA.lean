/-
  PLAIN, OVERLAPS: the statements OverlapFinds, OverlapMeasures and OverlapKeeps.
-/
import Derived.Test.YtpiejhjhalnaaaaDoorWalkJ
import Derived.Test.YtpiejhjhalnaaaaDoorPlA
namespace PM
open Go Go.RowKit

theorem condSo {α : Type} {b : Bool} {x y : α} : (bif b then some x else some y) = some (bif b then x else y) := by cases b <;> rfl
structure FewR (r : T_api_Route) : Prop where
  pa : r.Path.length ≤ 60
  ov : r.Over.length ≤ 60
  se : r.Sections.length ≤ 60
  os : r.OverSections.length ≤ 60
  po : r.Points.length ≤ 60
  op : r.OverPoints.length ≤ 60
  fl : r.Flank.length ≤ 60
  gu : r.Guards.length ≤ 60
  ga : r.Gaps.length ≤ 60
theorem sameEnds_refl (L : List T_api_End) (h : L.length ≤ 1048576) : d_ref12_sameEnds L L = some true := by
  unfold d_ref12_sameEnds
  have : Is (loopO (d_ref12_sameEnds_0 L L) 0) fun o => o = .inl () := by
    refine Is.loop (mk := fun (i : Nat) (_ : Unit) => (i : Int)) L.length (fun _ _ => True) () trivial ?_ ?_
    · rintro i m hi -
      unfold d_ref12_sameEnds_0
      refine Is.cond (fun _ => ?_) (fun hb => by simp at hb; omega)
      refine Is.bind (Is.ixn hi) fun x hx => Is.bind (Is.ixn hi) fun y hy => ?_
      rw [hx] at hy; cases hy
      rw [(eqEnd_iff x x).2 rfl]
      exact Is.val ⟨(), by rw [w64n (by omega)], trivial⟩
    · rintro m -
      unfold d_ref12_sameEnds_0
      exact Is.cond (fun hb => by simp at hb) (fun _ => Is.val rfl)
  obtain ⟨o, h1, rfl⟩ := this
  simp [h1, onInl, onOut]
theorem Same_refl (r : T_api_Route) (h1 : r.Path.length ≤ 1000) (h2 : r.Sections.length ≤ 1000) (h3 : r.Points.length ≤ 1000) (h4 : r.Flank.length ≤ 1000) (h5 : r.Guards.length ≤ 1000) (h6 : r.Gaps.length ≤ 1000)
    (h7 : r.Over.length ≤ 1000) (h8 : r.OverPoints.length ≤ 1000) (h9 : r.OverSections.length ≤ 1000) : d_ref12_Same r r = some true := by
  unfold d_ref12_Same d_ref12_SameSteps d_ref12_SameSettings d_ref12_SameInts
  simp only [SameSteps_refl r.Path (by omega), SameSteps_refl r.Over (by omega), SameSettings_refl r.Points (by omega), SameSettings_refl r.OverPoints (by omega), SameSettings_refl r.Flank (by omega),
    SameInts_refl r.Sections (by omega), SameInts_refl r.OverSections (by omega), SameInts_refl r.Guards (by omega), sameEnds_refl r.Gaps (by omega), Option.bind_some, decide_true, Bool.not_true, Bool.or_self, cond_false, cond_true]

end PM
