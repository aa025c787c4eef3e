/-
  PLAIN, FLANK C: what Find returns; the statements FlankSearches, FlankLists, FlankAgrees and FlankStops.
-/
import Derived.Test.YtpiejhjhalnaaaaGreatDoorFlankB
import Derived.Test.YtpiejhjhalnaaaaGreatDoorCompI
namespace PM
open Go Go.RowKit

/-! ### Sorted lists -/
def sF (L : List T_api_Setting) : List T_api_Setting := ddS (L.mergeSort fun x y => !ltS y x)
def sG (L : List Int) : List Int := ddS (L.mergeSort fun x y => decide (x ≤ y))
theorem sF_mem (L : List T_api_Setting) (x : T_api_Setting) : x ∈ sF L ↔ x ∈ L := by rw [sF, ddS_mem, (List.mergeSort_perm _ _).mem_iff]
theorem sG_mem (L : List Int) (x : Int) : x ∈ sG L ↔ x ∈ L := by rw [sG, ddS_mem, (List.mergeSort_perm _ _).mem_iff]
theorem sF_len (L : List T_api_Setting) : (sF L).length ≤ L.length := Nat.le_trans (ddS_len _) (by rw [(List.mergeSort_perm _ _).length_eq]; exact Nat.le_refl _)
theorem sG_len (L : List Int) : (sG L).length ≤ L.length := Nat.le_trans (ddS_len _) (by rw [(List.mergeSort_perm _ _).length_eq]; exact Nat.le_refl _)
theorem sF_asc (L : List T_api_Setting) : Asc (sF L) := by
  refine ddS_strict ltS_tr ltS_tot _ ?_
  have := List.pairwise_mergeSort (le := fun x y => !ltS y x) (fun a b c h1 h2 => ?_) (fun a b => ?_) L
  · exact this.imp fun h => by simpa using h
  · simp only [ltS_eq, Bool.not_eq_true', decide_eq_false_iff_not] at *; omega
  · cases h : ltS b a with
    | false => rfl
    | true =>
      have : ltS a b = false := by rw [ltS_eq, decide_eq_true_iff] at h; rw [ltS_eq, decide_eq_false_iff_not]; omega
      simp [this]
theorem sG_asc (L : List Int) : (sG L).Pairwise fun x y => x < y := by
  have h1 : (sG L).Pairwise fun x y => decide (x < y) = true := by
    refine ddS_strict (lt := fun x y => decide (x < y)) (fun x y z h1 h2 => by simp at h1 h2 ⊢; omega) (fun x y h => by simp at h ⊢; omega) _ ?_
    have := List.pairwise_mergeSort (le := fun (x y : Int) => decide (x ≤ y)) (fun a b c h1 h2 => by simp at h1 h2 ⊢; omega) (fun a b => by simp; omega) L
    exact this.imp fun h => by simp at h ⊢; omega
  exact h1.imp fun h => by simpa using h
/-! ### Find -/
theorem app_ok {α : Type} [Enc α] {L ys : List α} (h : (L.length + ys.length) * Enc.b α ≤ sizeMax ∧ L.length + ys.length ≤ sizeMax) : appO L ys = some (L ++ ys) := by unfold appO; rw [if_pos h]
theorem Concat2 (A B : List T_api_Step) (hA : A.length ≤ 1000) (hB : B.length ≤ 1000) : d_slices_Concat_api_Step [A, B] = some (A ++ B) := by
  have i0 : ixO [A, B] 0 = some A := ixO_nat (i := 0) rfl
  have i1 : ixO [A, B] 1 = some B := ixO_nat (i := 1) rfl
  have w1 : w64 (0 + 1) = 1 := by decide
  have w2 : w64 (1 + 1) = 2 := by decide
  have a1 : w64 (0 + ((A.length : Nat) : Int)) = ((A.length : Nat) : Int) := by rw [w64_of (by omega) (by omega)]; omega
  have a2 : w64 (((A.length : Nat) : Int) + ((B.length : Nat) : Int)) = ((A.length + B.length : Nat) : Int) := by rw [w64_of (by omega) (by omega)]; omega
  have s0 : d_slices_Concat_api_Step_0 [A, B] (0, 0) = some (.inl (((A.length : Nat) : Int), 1)) := by
    unfold d_slices_Concat_api_Step_0
    dsimp only
    rw [show decide ((0 : Int) < ((([A, B] : List (List T_api_Step)).length : Nat) : Int)) = true from rfl]
    simp only [cond_true, i0, Option.bind_some, a1, w1, show decide (((A.length : Nat) : Int) < 0) = false from decide_eq_false (by omega), cond_false, onInl, onOut]
  have s1 : d_slices_Concat_api_Step_0 [A, B] (((A.length : Nat) : Int), 1) = some (.inl (((A.length + B.length : Nat) : Int), 2)) := by
    unfold d_slices_Concat_api_Step_0
    dsimp only
    rw [show decide ((1 : Int) < ((([A, B] : List (List T_api_Step)).length : Nat) : Int)) = true from rfl]
    simp only [cond_true, i1, Option.bind_some, a2, w2, show decide (((A.length + B.length : Nat) : Int) < 0) = false from decide_eq_false (by omega), cond_false, onInl, onOut]
  have s2 : d_slices_Concat_api_Step_0 [A, B] (((A.length + B.length : Nat) : Int), 2) = some (.inr (.inl ((A.length + B.length : Nat) : Int))) := by
    unfold d_slices_Concat_api_Step_0
    dsimp only
    rw [show decide ((2 : Int) < ((([A, B] : List (List T_api_Step)).length : Nat) : Int)) = false from rfl]; rfl
  have p1 : appO ([] : List T_api_Step) A = some A := by rw [app_ok (by simp only [List.length_nil, sizeMax, Enc.b]; omega)]; rfl
  have p2 : appO A B = some (A ++ B) := app_ok (by simp only [sizeMax, Enc.b]; omega)
  have t0 : d_slices_Concat_api_Step_1 [A, B] ([], 0) = some (.inl (A, 1)) := by
    unfold d_slices_Concat_api_Step_1
    dsimp only
    rw [show decide ((0 : Int) < ((([A, B] : List (List T_api_Step)).length : Nat) : Int)) = true from rfl]
    simp only [cond_true, i0, Option.bind_some, p1, w1]
  have t1 : d_slices_Concat_api_Step_1 [A, B] (A, 1) = some (.inl (A ++ B, 2)) := by
    unfold d_slices_Concat_api_Step_1
    dsimp only
    rw [show decide ((1 : Int) < ((([A, B] : List (List T_api_Step)).length : Nat) : Int)) = true from rfl]
    simp only [cond_true, i1, Option.bind_some, p2, w2]
  have t2 : d_slices_Concat_api_Step_1 [A, B] (A ++ B, 2) = some (.inr (.inl (A ++ B))) := by
    unfold d_slices_Concat_api_Step_1
    dsimp only
    rw [show decide ((2 : Int) < ((([A, B] : List (List T_api_Step)).length : Nat) : Int)) = false from rfl]; rfl
  have g : d_slices_Grow_api_Step [] ((A.length + B.length : Nat) : Int) = some [] := by
    unfold d_slices_Grow_api_Step
    rw [if_pos (by omega)]
  unfold d_slices_Concat_api_Step
  rw [loop_more s0, loop_more s1, loop_done s2]
  simp only [onInl, onOut, Option.bind_some, g]
  rw [loop_more t0, loop_more t1, loop_done t2]
  rfl
def findF (l : T_api_Layout) (r : T_api_Route) : T_api_Route := routeF r ⟨sF (allF l r).flank, sG (allF l r).guards, (allF l r).gaps⟩
theorem find_by {l : T_api_Layout} {r : T_api_Route} (hr : FewF r) {F : List T_api_Setting} {G : List Int} {X : List T_api_End} (hF : F.length ≤ 1000) (hG : G.length ≤ 1000)
    (h : loopO (d_flank_Find_0 l r r.Path r.Points r.Sections r.Over r.OverPoints r.OverSections (r.Path ++ r.Over)) (0, ([] : List T_api_End), ([] : List T_api_Setting), ([] : List Int)) = some (.inl (F, G, X))) : d_flank_Find l r = some (routeF r ⟨sF F, sG G, X⟩) := by
  have c1 : ∀ L : List T_api_Step, L.length ≤ 1000 → d_slices_Clone_api_Step L = some L := fun L hL => by
    unfold d_slices_Clone_api_Step; rw [app_ok (by simp only [List.length_nil, sizeMax, Enc.b]; omega)]; rfl
  have c2 : ∀ L : List T_api_Setting, L.length ≤ 1000 → d_slices_Clone_api_Setting L = some L := fun L hL => by
    unfold d_slices_Clone_api_Setting; rw [app_ok (by simp only [List.length_nil, sizeMax, Enc.b]; omega)]; rfl
  have c3 : ∀ L : List Int, L.length ≤ 1000 → d_slices_Clone_int L = some L := fun L hL => by
    unfold d_slices_Clone_int; rw [app_ok (by simp only [List.length_nil, sizeMax, Enc.b]; omega)]; rfl
  unfold d_flank_Find
  rw [c1 _ hr.path, c2 _ hr.pts, c3 _ hr.secs, c1 _ hr.over, c2 _ hr.ops, c3 _ hr.osecs]
  simp only [Option.bind_some, Concat2 _ _ hr.path hr.over, h, onInl, onOut]
  unfold d_slices_SortFunc_api_Setting__flank_Find_c1 d_slices_Sort_int
  rw [show Go.Proofs.ltOf cf_d_flank_Find_c1 = ltS from funext fun x => funext fun y => lt_d_flank_Find_c1 x y]
  obtain ⟨a, q1, q2⟩ := Compact_is (F.mergeSort fun x y => !ltS y x) (by rw [(List.mergeSort_perm _ _).length_eq]; omega)
  obtain ⟨b, q3, q4⟩ := CompactI_is (G.mergeSort fun x y => decide (x ≤ y)) (by rw [(List.mergeSort_perm _ _).length_eq]; omega)
  simp only [Option.bind_some, q1, q2, q3, q4]
  rfl
theorem allF_len (l : T_api_Layout) {r : T_api_Route} (hp : r.Path.length ≤ 40) (ho : r.Over.length ≤ 40) : FLen (allF l r) 400 := by
  have h := ffold_len l (passB r) (pts0 r) (endsS l (r.Path ++ r.Over)) fg0 0 ⟨by simp [fg0], by simp [fg0], by simp [fg0]⟩
  have h2 := endsS_len l (r.Path ++ r.Over)
  rw [List.length_append] at h2
  exact ⟨by have := h.flank; unfold allF; omega, by have := h.guards; unfold allF; omega, by have := h.gaps; unfold allF; omega⟩
theorem flank_Find_eq {l : T_api_Layout} (hs : Sm l) (hl : OkL l) {r : T_api_Route} (hr : FewF r) (hp : r.Path.length ≤ 40) (ho : r.Over.length ≤ 40) : d_flank_Find l r = some (findF l r) := by
  have hL := allF_len l hp ho
  obtain ⟨o, q1, rfl⟩ := find_outer hs hl hr (r.Path ++ r.Over) (by rw [List.length_append]; omega)
  exact find_by hr (Nat.le_trans hL.flank (by omega)) (Nat.le_trans hL.guards (by omega)) q1
theorem findF_few (l : T_api_Layout) {r : T_api_Route} (hr : FewF r) (hp : r.Path.length ≤ 40) (ho : r.Over.length ≤ 40) : FewF (findF l r) := by
  have hL := allF_len l hp ho
  refine routeF_few hr ⟨?_, ?_, by have := hL.gaps; simp only; omega⟩
  · have := sF_len (allF l r).flank; have := hL.flank; simp only; omega
  · have := sG_len (allF l r).guards; have := hL.guards; simp only; omega
/-! ### The examples -/
noncomputable def loop14 : T_api_Layout := (d_law14_loop).getD ⟨ByteArray.empty, [], [], [], [], []⟩
theorem loop14_eq : d_law14_loop = some loop14 := by kernel_rfl
def rt1 : T_api_Route := ⟨ByteArray.empty, 0, 0, [⟨1, 0, 1⟩, ⟨2, 0, 1⟩], [], [], 0, 0, [], [], [], [], [], []⟩
def rt2 : T_api_Route := ⟨ByteArray.empty, 0, 0, [⟨4, 1, 0⟩, ⟨5, 0, 1⟩], [], [], 0, 0, [], [], [], [], [], []⟩
def rt3 : T_api_Route := ⟨ByteArray.empty, 0, 0, [], [], [], 0, 0, [], [], [], [], [], []⟩
theorem few_rt1 : FewF rt1 := by constructor <;> decide
theorem few_rt2 : FewF rt2 := by constructor <;> decide
theorem loopF1 : loopO (d_flank_Find_0 loop14 rt1 rt1.Path rt1.Points rt1.Sections rt1.Over rt1.OverPoints rt1.OverSections (rt1.Path ++ rt1.Over)) (0, ([] : List T_api_End), ([] : List T_api_Setting), ([] : List Int)) = some (.inl ([⟨4, 1⟩], [], [])) := by kernel_rfl
theorem loopF2 : loopO (d_flank_Find_0 loop14 rt2 rt2.Path rt2.Points rt2.Sections rt2.Over rt2.OverPoints rt2.OverSections (rt2.Path ++ rt2.Over)) (0, ([] : List T_api_End), ([] : List T_api_Setting), ([] : List Int)) = some (.inl ([], [2], [])) := by kernel_rfl
theorem srch14 : d_flank_Search loop14 rt3 ⟨1, 2⟩ = some (⟨4, 1⟩, -1, true) := by kernel_rfl
theorem sF_one (x : T_api_Setting) : sF [x] = [x] := by unfold sF; rw [List.mergeSort_of_pairwise (by simp)]; rfl
theorem sF_nil : sF [] = [] := by unfold sF; rw [List.mergeSort_of_pairwise (by simp)]; rfl
theorem sG_one (x : Int) : sG [x] = [x] := by unfold sG; rw [List.mergeSort_of_pairwise (by simp)]; rfl
theorem sG_nil : sG [] = [] := by unfold sG; rw [List.mergeSort_of_pairwise (by simp)]; rfl
theorem same14_1 : d_ref12_SameSettings [⟨4, 1⟩] [⟨4, 1⟩] = some true := by kernel_rfl
theorem same14_2 : d_ref02_Same [2] [2] = some true := by kernel_rfl
theorem alive14 : d_law14_alive = some true := by
  have f1 := find_by few_rt1 (by decide) (by decide) loopF1
  have f2 := find_by few_rt2 (by decide) (by decide) loopF2
  rw [sF_one, sG_nil] at f1
  rw [sF_nil, sG_one] at f2
  have s3 := srch14
  unfold rt1 at f1
  unfold rt2 at f2
  unfold rt3 at s3
  unfold d_law14_alive
  rw [loop14_eq]
  simp only [Option.bind_some, f1, f2, s3, routeF, same14_1, same14_2, d_flank_Protected]
  rfl
/-! ### What a search finds -/
structure SrOk (l : T_api_Layout) (P : Int → Bool) (N : T_api_Setting → Bool) (t : T_api_Setting × Int × Bool) : Prop where
  guard : 0 ≤ t.2.1 → t.2.1 < (l.Signals.length : Nat)
  set : t.1 ≠ z0 → hasEl l t.1.El = true ∧ kindF l t.1.El = 2 ∧ (t.1.Pos = 1 ∨ t.1.Pos = 2) ∧ P t.1.El = false ∧ N ⟨t.1.El, 3 - t.1.Pos⟩ = false
theorem sigF_lt (L : List T_api_Signal) (e : T_api_End) : sigF L e < (L.length : Nat) := by
  unfold sigF
  split
  · next i h =>
    have := (List.findIdx?_eq_some_iff_getElem.1 h).1
    omega
  · omega
theorem srch_ok {l : T_api_Layout} (hl : OkL l) (P : Int → Bool) (N : T_api_Setting → Bool) : ∀ (n : Nat) (e : T_api_End), SrOk l P N (srch l P N n e)
  | 0, e => ⟨fun h => by simp [srch] at h, fun h => absurd rfl h⟩
  | n + 1, e => by
    unfold srch
    split
    · exact ⟨fun h => by simp at h, fun h => absurd rfl h⟩
    · next hj =>
      obtain ⟨x, hx⟩ := joined_end hl (e := e) (by simpa using hj)
      split
      · exact ⟨fun _ => sigF_lt _ _, fun h => absurd rfl h⟩
      · split
        · exact ⟨fun h => by simp at h, fun h => absurd rfl h⟩
        · next hp =>
          split
          · next hk =>
            split
            · exact ⟨fun h => by simp at h, fun h => absurd rfl h⟩
            · next h0 =>
              split
              · exact ⟨fun h => by simp at h, fun h => absurd rfl h⟩
              · next hN =>
                refine ⟨fun h => by simp at h, fun _ => ⟨hx.has, hk, ?_, by simpa using hp, ?_⟩⟩
                · have := hx.kinds
                  rw [hx.kind] at hk
                  simp only; omega
                · simp only
                  rw [show 3 - (3 - (joinS l e).1.Side) = (joinS l e).1.Side by omega]
                  simpa using hN
          · exact srch_ok hl P N n _
structure FgOk (l : T_api_Layout) (P : Int → Bool) (x : FG) : Prop where
  flank : ∀ y ∈ x.flank, hasEl l y.El = true ∧ kindF l y.El = 2 ∧ (y.Pos = 1 ∨ y.Pos = 2) ∧ P y.El = false
  one : ∀ y ∈ x.flank, ∀ z ∈ x.flank, y.El = z.El → y = z
  guards : ∀ g ∈ x.guards, 0 ≤ g ∧ g < (l.Signals.length : Nat)
theorem fstep_ok {l : T_api_Layout} {P : Int → Bool} {N : T_api_Setting → Bool} {x : FG} (h : FgOk l P x) (e : T_api_End) {t : T_api_Setting × Int × Bool} (ht : SrOk l P (needF N x) t) : FgOk l P (fstep x e t) := by
  unfold fstep
  split
  · exact ⟨h.flank, h.one, h.guards⟩
  · split
    · next h2 =>
      refine ⟨h.flank, h.one, fun g hg => ?_⟩
      rcases List.mem_append.1 hg with hg | hg
      · exact h.guards g hg
      · simp at hg; subst hg; exact ⟨h2, ht.guard h2⟩
    · split
      · exact h
      · next h3 =>
        obtain ⟨g1, g2, g3, g4, g5⟩ := ht.set h3
        have key : ∀ y ∈ x.flank, y.El = t.1.El → y = t.1 := by
          intro y hy ey
          have h1 := (h.flank y hy).2.2.1
          have hn : y ≠ ⟨t.1.El, 3 - t.1.Pos⟩ := by
            rintro rfl
            have : hasB x.flank ⟨t.1.El, 3 - t.1.Pos⟩ = true := decide_eq_true hy
            simp only [needF, this, Bool.or_true] at g5
            cases g5
          obtain ⟨a, b⟩ := y
          generalize t.1 = u at ey g3 hn ⊢
          obtain ⟨c, d⟩ := u
          simp only at ey h1 g3 hn
          subst ey
          have : b = d := by
            rcases h1 with rfl | rfl <;> rcases g3 with rfl | rfl <;> first | rfl | exact absurd rfl hn
          rw [this]
        refine ⟨fun y hy => ?_, fun y hy z hz ez => ?_, h.guards⟩
        · rcases List.mem_append.1 hy with hy | hy
          · exact h.flank y hy
          · simp at hy; subst hy; exact ⟨g1, g2, g3, g4⟩
        · rcases List.mem_append.1 hy with hy | hy <;> rcases List.mem_append.1 hz with hz | hz
          · exact h.one y hy z hz ez
          · simp at hz; subst hz; exact key y hy ez
          · simp at hy; subst hy; exact (key z hz ez.symm).symm
          · simp at hy hz; rw [hy, hz]
theorem ffold_ok {l : T_api_Layout} (hl : OkL l) (P : Int → Bool) (N : T_api_Setting → Bool) : ∀ (A : List T_api_End) (x : FG), FgOk l P x → FgOk l P (ffold l P N A x)
  | [], _, h => h
  | e :: A, x, h => ffold_ok hl P N A _ (fstep_ok h e (srch_ok hl P (needF N x) 4 e))
/-! ### The statements -/
theorem Same_fewF {r : T_api_Route} (h : FewF r) : d_ref12_Same r r = some true := Same_refl r h.path h.secs h.pts h.flank h.guards h.gaps h.over h.ops h.osecs
end PM
