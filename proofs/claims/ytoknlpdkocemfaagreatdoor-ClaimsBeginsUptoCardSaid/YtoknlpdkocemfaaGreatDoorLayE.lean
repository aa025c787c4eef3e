/-
  PLAIN, LAYOUT E: what a valid layout is; the statements LayoutChecks and LayoutJoins.
-/
import Derived.Test.YtoknlpdkocemfaaGreatDoorLayD
namespace PM
open Go Go.RowKit

structure OkL (l : T_api_Layout) : Prop where
  counts : CountsP l
  names : NamesP l
  dist : DistP l
  elem : ElemP l
  joint : JointP l
  ends : (endsOf l.Joints).Nodup
  sig : SigP l
  sigd : (l.Signals.map (·.At)).Nodup
  safe : SafeP l
  bal : BalP l
  bald : (l.Balises.map (·.Id)).Nodup
theorem chk_ok (l : T_api_Layout) : chk l = 0 ↔ OkL l := by
  constructor
  · intro h
    unfold chk at h
    by_cases h1 : CountsP l
    · by_cases h2 : NamesP l
      · by_cases h3 : DistP l
        · by_cases h4 : ElemP l
          · by_cases h5 : JointP l
            · by_cases h6 : (endsOf l.Joints).Nodup
              · by_cases h7 : SigP l
                · by_cases h8 : (l.Signals.map (·.At)).Nodup
                  · by_cases h9 : SafeP l
                    · by_cases h10 : BalP l
                      · by_cases h11 : (l.Balises.map (·.Id)).Nodup
                        · exact ⟨h1, h2, h3, h4, h5, h6, h7, h8, h9, h10, h11⟩
                        · simp [h1, h2, h3, h4, h5, h6, h7, h8, h9, h10, h11] at h
                      · simp [h1, h2, h3, h4, h5, h6, h7, h8, h9, h10] at h
                    · simp [h1, h2, h3, h4, h5, h6, h7, h8, h9] at h
                  · simp [h1, h2, h3, h4, h5, h6, h7, h8] at h
                · simp [h1, h2, h3, h4, h5, h6, h7] at h
              · simp [h1, h2, h3, h4, h5, h6] at h
            · simp [h1, h2, h3, h4, h5] at h
          · simp [h1, h2, h3, h4] at h
        · simp [h1, h2, h3] at h
      · simp [h1, h2] at h
    · simp [h1] at h
  · rintro ⟨h1, h2, h3, h4, h5, h6, h7, h8, h9, h10, h11⟩
    simp [chk, h1, h2, h3, h4, h5, h6, h7, h8, h9, h10, h11]
theorem layout_Check_eq {l : T_api_Layout} (h : Sm l) : d_layout_Check l = some (chk l) := by
  obtain ⟨r, h1, rfl⟩ := layout_Check_is h; exact h1
theorem ref07_Check_eq {l : T_api_Layout} (h : Sm l) : d_ref07_Check l = some (chk l) := by
  obtain ⟨r, h1, rfl⟩ := ref07_Check_val h; exact h1
end PM
