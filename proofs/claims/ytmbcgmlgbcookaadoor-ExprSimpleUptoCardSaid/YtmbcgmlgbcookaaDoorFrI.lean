/-
  THE FRAME, I: tables of uint64.
-/
import Derived.Test.YtmbcgmlgbcookaaDoorFrA
import Derived.Test.YtmbcgmlgbcookaaDoorPmU
namespace PM
open Go Go.RowKit Go.ChangeShapes Go.WideShapes
instance : Dt U64 := ⟨fun n d => d = .lit (.int .u64 n.n), fun _ => 1, fun n => (Lit.int .u64 n.n).wf = true⟩
theorem ty_u64 {P : Program} {t : TypeId} (h : P.underlying t = some (.int .u64)) (hc : (P.cellsOf t, P.bytesOf t) = (1, 8)) : TyOK P t U64 false where
  cells := (Prod.mk.inj hc).1
  bytes := (Prod.mk.inj hc).2
  pos := by decide
  bpos := by decide
  len := fun _ => rfl
  one := fun _ => rfl
  bulk := fun a d h => by cases h; exact Nat.le_refl _
  inj := fun a b d h1 h2 => by
    have h1 : d = _ := h1
    have h2 : d = _ := h2
    rw [h1] at h2
    cases a; cases b
    simp only [DataW.lit.injEq, Lit.int.injEq, true_and] at h2
    exact congrArg U64.mk h2
  rd := fun _ hr _ _ => by
    obtain ⟨n, rfl, rfl, hwf⟩ := DataW.trod_int h hr
    exact ⟨⟨n⟩, rfl, hwf, all2_one (by show RelD _ _ (.int .u64 n) _; simp only [RelD])⟩
  val := fun {w b v a} hv hr => by
    obtain ⟨n, rfl⟩ := okWide_int h hv
    exact hr.head
end PM
