/-
  THE PURE MACHINE, U: a table of the library's, as the shelf asks for it; a string as a result.
-/
import Derived.Test.YtmbcgmlgbcookaaDoorPmQt
import Derived.Lib.Walk
import Derived.Shelf.LaysM
import Derived.Lib.AppendIntMem
namespace PM
open Go Go.RowKit
structure U64 where
  n : Int
instance : Enc U64 := ⟨1, 8, fun x => .int .u64 x.n⟩
instance : Inhabited U64 := ⟨⟨0⟩⟩
theorem tabIs_of_rel {P : Program} {S : Cells} {w : World} {name : String} {g : Nat} (hg : P.globalNamed name = some g) {k : IntKind} {z : Int} {zs : List Int} (h : RelTab S w ((z :: zs).map fun x => PV.int k x) g) : Lib.TabIs P w name k (z :: zs) := by
  obtain ⟨h1, _, h3⟩ := h
  have hat := (relCells_iff _ _ _).1 h1
  unfold Lib.TabIs World.var?
  rw [hg, Option.bind_some]
  have h0 := hat 0 _ rfl
  obtain ⟨_, _, v, hv, _⟩ := h0
  unfold World.cell? at hv h3
  dsimp only at hv h3 ⊢
  split at hv
  · rename_i c e sy hh
    rw [hh] at h3 ⊢
    dsimp only at h3 ⊢
    congr 1
    rw [if_neg (by simp)] at h3
    have hsz : c.size = (z :: zs).length := by
      have hge : ¬ (z :: zs).length < c.size := fun hlt => by
        rw [List.length_map, Array.getElem?_eq_getElem hlt] at h3; cases h3
      have hle : (z :: zs).length ≤ c.size := by
        obtain ⟨_, _, u, hu, _⟩ := hat zs.length (.int k ((z :: zs)[zs.length]'(by simp))) (by rw [List.getElem?_map, List.getElem?_eq_getElem (by simp)]; rfl)
        unfold World.cell? at hu
        dsimp only at hu
        rw [hh] at hu
        dsimp only at hu
        rw [if_neg (by simp)] at hu
        have := (Array.getElem?_eq_some_iff.1 hu).1
        simp only [List.length_cons]; omega
      omega
    apply Array.ext_getElem?
    intro i
    by_cases hi : i < (z :: zs).length
    · obtain ⟨_, _, u, hu, hr⟩ := hat i (.int k ((z :: zs)[i])) (by rw [List.getElem?_map, List.getElem?_eq_getElem hi]; rfl)
      unfold World.cell? at hu
      dsimp only at hu
      rw [hh] at hu
      dsimp only at hu
      rw [if_neg (by simp), Nat.zero_add] at hu
      rw [hu]
      simp only [RelD] at hr
      rw [hr]
      simp only [List.getElem?_toArray, List.getElem?_map, List.getElem?_eq_getElem hi, Option.map_some]
    · rw [Array.getElem?_eq_none (by omega)]
      simp only [List.getElem?_toArray, List.getElem?_map]
      rw [List.getElem?_eq_none (by omega)]; rfl
  · cases hv
theorem below_grown (w : World) (k : Nat) (os : Array Obj) : BelowD w.heap.size w (Go.Sort.grow (w.drewN k) os) := by
  refine ⟨⟨rfl, rfl, rfl, ?_, fun i hi => ?_⟩, DR.of_le (Nat.le_add_right _ _)⟩
  · show w.heap.size ≤ (w.heap ++ os).size
    rw [Array.size_append]; omega
  · show (w.heap ++ os)[i]? = w.heap[i]?
    rw [Array.getElem?_append, if_pos hi]
theorem after_str {S : Cells} {w w' : World} (s : ByteArray) (h : BelowD w.heap.size w w') : After S w (.str s) (.string s) ⟨S, w', fun _ => 0, fun _ => undef, fun _ => none, fun _ => none⟩ :=
  ⟨h, fun _ _ q => q, fun _ _ q => .inl q, fun _ => rfl, fun t n k => ⟨(fun e => by cases e), (fun e => by simp [toksV, toksA, toks1] at e)⟩, by simp [Rel, RelA, Rel1, RelD], (fun t n k e => by cases e), (fun t t' B hs => by obtain ⟨_, _, _, _, e, _⟩ := hs; cases e)⟩
end PM
