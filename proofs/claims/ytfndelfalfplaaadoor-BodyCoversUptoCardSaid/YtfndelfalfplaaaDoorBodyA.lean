/-
  PLAIN, BODY A: the chapter's examples.
-/
import Derived.Test.YtfndelfalfplaaaDoorWalkI
import Derived.Test.YtfndelfalfplaaaDoorPlA
namespace PM
open Go Go.RowKit

noncomputable def line11 : T_api_Layout := (d_law11_line).getD ⟨ByteArray.empty, [], [], [], [], []⟩
theorem line11_eq : d_law11_line = some line11 := by kernel_rfl
theorem over11_0 : d_law11_over [0] = some [⟨0, 0, 1⟩] := by kernel_rfl
theorem over11_01 : d_law11_over [0, 1] = some [⟨0, 0, 1⟩, ⟨1, 0, 1⟩] := by kernel_rfl
theorem over11_1 : d_law11_over [1] = some [⟨1, 0, 1⟩] := by kernel_rfl
theorem rear11 : d_body_Rear line11 ⟨[⟨0, 0, 1⟩], 15000, 5000⟩ = some (0, 10000) := by kernel_rfl
theorem move11_1 : d_body_Move line11 [] ⟨[⟨0, 0, 1⟩], 15000, 5000⟩ 7000 = some (⟨[⟨0, 0, 1⟩, ⟨1, 0, 1⟩], 2000, 5000⟩, 7000, false) := by kernel_rfl
theorem move11_2 : d_body_Move line11 [] ⟨[⟨0, 0, 1⟩, ⟨1, 0, 1⟩], 2000, 5000⟩ 3000 = some (⟨[⟨1, 0, 1⟩], 5000, 5000⟩, 3000, false) := by kernel_rfl
theorem move11_3 : (d_body_Move line11 [] ⟨[⟨1, 0, 1⟩], 5000, 5000⟩ 60000).map (fun x => (x.2.1, x.2.2)) = some (35000, true) := by kernel_rfl
theorem covers11 : d_body_Covers ⟨[⟨0, 0, 1⟩, ⟨1, 0, 1⟩], 2000, 5000⟩ 1 = some (⟨1, 0, 1⟩, true) := by kernel_rfl
theorem same11_1 : d_ref11_Same ⟨[⟨0, 0, 1⟩, ⟨1, 0, 1⟩], 2000, 5000⟩ ⟨[⟨0, 0, 1⟩, ⟨1, 0, 1⟩], 2000, 5000⟩ = some true := by kernel_rfl
theorem same11_2 : d_ref11_Same ⟨[⟨1, 0, 1⟩], 5000, 5000⟩ ⟨[⟨1, 0, 1⟩], 5000, 5000⟩ = some true := by kernel_rfl
theorem check11_1 : d_body_Check line11 ⟨[⟨0, 0, 1⟩], 15000, 5000⟩ = some 0 := by kernel_rfl
theorem check11_2 : d_body_Check line11 ⟨[⟨0, 0, 1⟩, ⟨1, 0, 1⟩], 5000, 5000⟩ = some 10 := by kernel_rfl
theorem secs11 : d_walk_Sections_X line11 [⟨0, 0, 1⟩, ⟨1, 0, 1⟩] = some [0, 1] := by kernel_rfl
theorem sort11 : d_slices_Sort_int [0, 1] = some [0, 1] := by
  unfold d_slices_Sort_int
  rw [List.mergeSort_of_pairwise (by simp)]
theorem same02_11 : d_ref02_Same [0, 1] [0, 1] = some true := by kernel_rfl
theorem alive11 : d_law11_alive = some true := by
  unfold d_law11_alive d_body_Sections
  obtain ⟨x, h1, h2⟩ := Option.map_eq_some_iff.1 move11_3
  obtain ⟨h3, h4⟩ := Prod.mk.inj h2
  simp only [over11_0, line11_eq, rear11, Option.bind_some, move11_1, move11_2, h1, h3, h4, covers11, over11_01, over11_1, same11_1, same11_2, check11_1, check11_2, secs11, sort11, same02_11]
  rfl
end PM
