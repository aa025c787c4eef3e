/-
  PLAIN, FLANK C: what Find returns; the statements FlankSearches, FlankLists, FlankAgrees and FlankStops.
-/
import Derived.Test.YtpiejhjhalnaaaaDoorFlankB
import Derived.Test.YtpiejhjhalnaaaaDoorCompI
namespace PM
open Go Go.RowKit

/-! ### Sorted lists -/
def sF (L : List T_api_Setting) : List T_api_Setting := ddS (L.mergeSort fun x y => !ltS y x)
def sG (L : List Int) : List Int := ddS (L.mergeSort fun x y => decide (x ≤ y))
theorem sF_mem (L : List T_api_Setting) (x : T_api_Setting) : x ∈ sF L ↔ x ∈ L := by rw [sF, ddS_mem, (List.mergeSort_perm _ _).mem_iff]
theorem sG_mem (L : List Int) (x : Int) : x ∈ sG L ↔ x ∈ L := by rw [sG, ddS_mem, (List.mergeSort_perm _ _).mem_iff]
theorem sF_len (L : List T_api_Setting) : (sF L).length ≤ L.length := Nat.le_trans (ddS_len _) (by rw [(List.mergeSort_perm _ _).length_eq]; exact Nat.le_refl _)
theorem sG_len (L : List Int) : (sG L).length ≤ L.length := Nat.le_trans (ddS_len _) (by rw [(List.mergeSort_perm _ _).length_eq]; exact Nat.le_refl _)
theorem sF_asc (L : List T_api_Setting) : Asc (sF L) := by
  refine ddS_strict ltS_tr ltS_tot _ ?_
  have := List.pairwise_mergeSort (le := fun x y => !ltS y x) (fun a b c h1 h2 => ?_) (fun a b => ?_) L
  · exact this.imp fun h => by simpa using h
  · simp only [ltS_eq, Bool.not_eq_true', decide_eq_false_iff_not] at *; omega
  · cases h : ltS b a with
    | false => rfl
    | true =>
      have : ltS a b = false := by rw [ltS_eq, decide_eq_true_iff] at h; rw [ltS_eq, decide_eq_false_iff_not]; omega
      simp [this]
theorem sG_asc (L : List Int) : (sG L).Pairwise fun x y => x < y := by
  have h1 : (sG L).Pairwise fun x y => decide (x < y) = true := by
    refine ddS_strict (lt := fun x y => decide (x < y)) (fun x y z h1 h2 => by simp at h1 h2 ⊢; omega) (fun x y h => by simp at h ⊢; omega) _ ?_
    have := List.pairwise_mergeSort (le := fun (x y : Int) => decide (x ≤ y)) (fun a b c h1 h2 => by simp at h1 h2 ⊢; omega) (fun a b => by simp; omega) L
    exact this.imp fun h => by simp at h ⊢; omega
  exact h1.imp fun h => by simpa using h
/-! ### Find -/
theorem app_ok {α : Type} [Enc α] {L ys : List α} (h : (L.length + ys.length) * Enc.b α ≤ sizeMax ∧ L.length + ys.length ≤ sizeMax) : appO L ys = some (L ++ ys) := by unfold appO; rw [if_pos h]
theorem Concat2 (A B : List T_api_Step) (hA : A.length ≤ 1000) (hB : B.length ≤ 1000) : d_slices_Concat_api_Step [A, B] = some (A ++ B) := by
  have i0 : ixO [A, B] 0 = some A := ixO_nat (i := 0) rfl
  have i1 : ixO [A, B] 1 = some B := ixO_nat (i := 1) rfl
  have w1 : w64 (0 + 1) = 1 := by decide
  have w2 : w64 (1 + 1) = 2 := by decide
  have a1 : w64 (0 + ((A.length : Nat) : Int)) = ((A.length : Nat) : Int) := by rw [w64_of (by omega) (by omega)]; omega
  have a2 : w64 (((A.length : Nat) : Int) + ((B.length : Nat) : Int)) = ((A.length + B.length : Nat) : Int) := by rw [w64_of (by omega) (by omega)]; omega
  have s0 : d_slices_Concat_api_Step_0 [A, B] (0, 0) = some (.inl (((A.length : Nat) : Int), 1)) := by
    unfold d_slices_Concat_api_Step_0
    dsimp only
    rw [show decide ((0 : Int) < ((([A, B] : List (List T_api_Step)).length : Nat) : Int)) = true from rfl]
    simp only [cond_true, i0, Option.bind_some, a1, w1, show decide (((A.length : Nat) : Int) < 0) = false from decide_eq_false (by omega), cond_false, onInl, onOut]
  have s1 : d_slices_Concat_api_Step_0 [A, B] (((A.length : Nat) : Int), 1) = some (.inl (((A.length + B.length : Nat) : Int), 2)) := by
    unfold d_slices_Concat_api_Step_0
    dsimp only
    rw [show decide ((1 : Int) < ((([A, B] : List (List T_api_Step)).length : Nat) : Int)) = true from rfl]
    simp only [cond_true, i1, Option.bind_some, a2, w2, show decide (((A.length + B.length : Nat) : Int) < 0) = false from decide_eq_false (by omega), cond_false, onInl, onOut]
  have s2 : d_slices_Concat_api_Step_0 [A, B] (((A.length + B.length : Nat) : Int), 2) = some (.inr (.inl ((A.length + B.length : Nat) : Int))) := by
    unfold d_slices_Concat_api_Step_0
    dsimp only
    rw [show decide ((2 : Int) < ((([A, B] : List (List T_api_Step)).length : Nat) : Int)) = false from rfl]; rfl
  have p1 : appO ([] : List T_api_Step) A = some A := by rw [app_ok (by simp only [List.length_nil, sizeMax, Enc.b]; omega)]; rfl
  have p2 : appO A B = some (A ++ B) := app_ok (by simp only [sizeMax, Enc.b]; omega)
  have t0 : d_slices_Concat_api_Step_1 [A, B] ([], 0) = some (.inl (A, 1)) := by
    unfold d_slices_Concat_api_Step_1
    dsimp only
    rw [show decide ((0 : Int) < ((([A, B] : List (List T_api_Step)).length : Nat) : Int)) = true from rfl]
    simp only [cond_true, i0, Option.bind_some, p1, w1]
  have t1 : d_slices_Concat_api_Step_1 [A, B] (A, 1) = some (.inl (A ++ B, 2)) := by
    unfold d_slices_Concat_api_Step_1
    dsimp only
    rw [show decide ((1 : Int) < ((([A, B] : List (List T_api_Step)).length : Nat) : Int)) = true from rfl]
    simp only [cond_true, i1, Option.bind_some, p2, w2]
  have t2 : d_slices_Concat_api_Step_1 [A, B] (A ++ B, 2) = some (.inr (.inl (A ++ B))) := by
    unfold d_slices_Concat_api_Step_1
    dsimp only
    rw [show decide ((2 : Int) < ((([A, B] : List (List T_api_Step)).length : Nat) : Int)) = false from rfl]; rfl
  have g : d_slices_Grow_api_Step [] ((A.length + B.length : Nat) : Int) = some [] := by
    unfold d_slices_Grow_api_Step
    rw [if_pos (by omega)]
  unfold d_slices_Concat_api_Step
  rw [loop_more s0, loop_more s1, loop_done s2]
  simp only [onInl, onOut, Option.bind_some, g]
  rw [loop_more t0, loop_more t1, loop_done t2]
  rfl
def findF (l : T_api_Layout) (r : T_api_Route) : T_api_Route := routeF r ⟨sF (allF l r).flank, sG (allF l r).guards, (allF l r).gaps⟩
theorem find_by {l : T_api_Layout} {r : T_api_Route} (hr : FewF r) {F : List T_api_Setting} {G : List Int} {X : List T_api_End} (hF : F.length ≤ 1000) (hG : G.length ≤ 1000)
    (h : loopO (d_flank_Find_0 l r r.Path r.Points r.Sections r.Over r.OverPoints r.OverSections (r.Path ++ r.Over)) (0, ([] : List T_api_End), ([] : List T_api_Setting), ([] : List Int)) = some (.inl (F, G, X))) : d_flank_Find l r = some (routeF r ⟨sF F, sG G, X⟩) := by
  have c1 : ∀ L : List T_api_Step, L.length ≤ 1000 → d_slices_Clone_api_Step L = some L := fun L hL => by
    unfold d_slices_Clone_api_Step; rw [app_ok (by simp only [List.length_nil, sizeMax, Enc.b]; omega)]; rfl
  have c2 : ∀ L : List T_api_Setting, L.length ≤ 1000 → d_slices_Clone_api_Setting L = some L := fun L hL => by
    unfold d_slices_Clone_api_Setting; rw [app_ok (by simp only [List.length_nil, sizeMax, Enc.b]; omega)]; rfl
  have c3 : ∀ L : List Int, L.length ≤ 1000 → d_slices_Clone_int L = some L := fun L hL => by
    unfold d_slices_Clone_int; rw [app_ok (by simp only [List.length_nil, sizeMax, Enc.b]; omega)]; rfl
  unfold d_flank_Find
  rw [c1 _ hr.path, c2 _ hr.pts, c3 _ hr.secs, c1 _ hr.over, c2 _ hr.ops, c3 _ hr.osecs]
  simp only [Option.bind_some, Concat2 _ _ hr.path hr.over, h, onInl, onOut]
  unfold d_slices_SortFunc_api_Setting__flank_Find_c1 d_slices_Sort_int
  rw [show Go.Proofs.ltOf cf_d_flank_Find_c1 = ltS from funext fun x => funext fun y => lt_d_flank_Find_c1 x y]
  obtain ⟨a, q1, q2⟩ := Compact_is (F.mergeSort fun x y => !ltS y x) (by rw [(List.mergeSort_perm _ _).length_eq]; omega)
  obtain ⟨b, q3, q4⟩ := CompactI_is (G.mergeSort fun x y => decide (x ≤ y)) (by rw [(List.mergeSort_perm _ _).length_eq]; omega)
  simp only [Option.bind_some, q1, q2, q3, q4]
  rfl
theorem allF_len (l : T_api_Layout) {r : T_api_Route} (hp : r.Path.length ≤ 40) (ho : r.Over.length ≤ 40) : FLen (allF l r) 400 := by
  have h := ffold_len l (passB r) (pts0 r) (endsS l (r.Path ++ r.Over)) fg0 0 ⟨by simp [fg0], by simp [fg0], by simp [fg0]⟩
  have h2 := endsS_len l (r.Path ++ r.Over)
  rw [List.length_append] at h2
  exact ⟨by have := h.flank; unfold allF; omega, by have := h.guards; unfold allF; omega, by have := h.gaps; unfold allF; omega⟩
theorem flank_Find_eq {l : T_api_Layout} (hs : Sm l) (hl : OkL l) {r : T_api_Route} (hr : FewF r) (hp : r.Path.length ≤ 40) (ho : r.Over.length ≤ 40) : d_flank_Find l r = some (findF l r) := by
  have hL := allF_len l hp ho
  obtain ⟨o, q1, rfl⟩ := find_outer hs hl hr (r.Path ++ r.Over) (by rw [List.length_append]; omega)
  exact find_by hr (Nat.le_trans hL.flank (by omega)) (Nat.le_trans hL.guards (by omega)) q1
theorem findF_few (l : T_api_Layout) {r : T_api_Route} (hr : FewF r) (hp : r.Path.length ≤ 40) (ho : r.Over.length ≤ 40) : FewF (findF l r) := by
  have hL := allF_len l hp ho
  refine routeF_few hr ⟨?_, ?_, by have := hL.gaps; simp only; omega⟩
  · have := sF_len (allF l r).flank; have := hL.flank; simp only; omega
  · have := sG_len (allF l r).guards; have := hL.guards; simp only; omega
theorem findF_again (l : T_api_Layout) (r : T_api_Route) : findF l (findF l r) = findF l r := rfl
/-! ### The examples -/
noncomputable def loop14 : T_api_Layout := (d_law14_loop).getD ⟨ByteArray.empty, [], [], [], [], []⟩
theorem loop14_eq : d_law14_loop = some loop14 := by kernel_rfl
def rt1 : T_api_Route := ⟨ByteArray.empty, 0, 0, [⟨1, 0, 1⟩, ⟨2, 0, 1⟩], [], [], 0, 0, [], [], [], [], [], []⟩
def rt2 : T_api_Route := ⟨ByteArray.empty, 0, 0, [⟨4, 1, 0⟩, ⟨5, 0, 1⟩], [], [], 0, 0, [], [], [], [], [], []⟩
def rt3 : T_api_Route := ⟨ByteArray.empty, 0, 0, [], [], [], 0, 0, [], [], [], [], [], []⟩
theorem few_rt1 : FewF rt1 := by constructor <;> decide
theorem few_rt2 : FewF rt2 := by constructor <;> decide
theorem loopF1 : loopO (d_flank_Find_0 loop14 rt1 rt1.Path rt1.Points rt1.Sections rt1.Over rt1.OverPoints rt1.OverSections (rt1.Path ++ rt1.Over)) (0, ([] : List T_api_End), ([] : List T_api_Setting), ([] : List Int)) = some (.inl ([⟨4, 1⟩], [], [])) := by kernel_rfl
theorem loopF2 : loopO (d_flank_Find_0 loop14 rt2 rt2.Path rt2.Points rt2.Sections rt2.Over rt2.OverPoints rt2.OverSections (rt2.Path ++ rt2.Over)) (0, ([] : List T_api_End), ([] : List T_api_Setting), ([] : List Int)) = some (.inl ([], [2], [])) := by kernel_rfl
theorem srch14 : d_flank_Search loop14 rt3 ⟨1, 2⟩ = some (⟨4, 1⟩, -1, true) := by kernel_rfl
theorem sF_one (x : T_api_Setting) : sF [x] = [x] := by unfold sF; rw [List.mergeSort_of_pairwise (by simp)]; rfl
theorem sF_nil : sF [] = [] := by unfold sF; rw [List.mergeSort_of_pairwise (by simp)]; rfl
theorem sG_one (x : Int) : sG [x] = [x] := by unfold sG; rw [List.mergeSort_of_pairwise (by simp)]; rfl
theorem sG_nil : sG [] = [] := by unfold sG; rw [List.mergeSort_of_pairwise (by simp)]; rfl
theorem same14_1 : d_ref12_SameSettings [⟨4, 1⟩] [⟨4, 1⟩] = some true := by kernel_rfl
theorem same14_2 : d_ref02_Same [2] [2] = some true := by kernel_rfl
theorem alive14 : d_law14_alive = some true := by
  have f1 := find_by few_rt1 (by decide) (by decide) loopF1
  have f2 := find_by few_rt2 (by decide) (by decide) loopF2
  rw [sF_one, sG_nil] at f1
  rw [sF_nil, sG_one] at f2
  have s3 := srch14
  unfold rt1 at f1
  unfold rt2 at f2
  unfold rt3 at s3
  unfold d_law14_alive
  rw [loop14_eq]
  simp only [Option.bind_some, f1, f2, s3, routeF, same14_1, same14_2, d_flank_Protected]
  rfl
/-! ### What a search finds -/
structure SrOk (l : T_api_Layout) (P : Int → Bool) (N : T_api_Setting → Bool) (t : T_api_Setting × Int × Bool) : Prop where
  guard : 0 ≤ t.2.1 → t.2.1 < (l.Signals.length : Nat)
  set : t.1 ≠ z0 → hasEl l t.1.El = true ∧ kindF l t.1.El = 2 ∧ (t.1.Pos = 1 ∨ t.1.Pos = 2) ∧ P t.1.El = false ∧ N ⟨t.1.El, 3 - t.1.Pos⟩ = false
theorem sigF_lt (L : List T_api_Signal) (e : T_api_End) : sigF L e < (L.length : Nat) := by
  unfold sigF
  split
  · next i h =>
    have := (List.findIdx?_eq_some_iff_getElem.1 h).1
    omega
  · omega
theorem srch_ok {l : T_api_Layout} (hl : OkL l) (P : Int → Bool) (N : T_api_Setting → Bool) : ∀ (n : Nat) (e : T_api_End), SrOk l P N (srch l P N n e)
  | 0, e => ⟨fun h => by simp [srch] at h, fun h => absurd rfl h⟩
  | n + 1, e => by
    unfold srch
    split
    · exact ⟨fun h => by simp at h, fun h => absurd rfl h⟩
    · next hj =>
      obtain ⟨x, hx⟩ := joined_end hl (e := e) (by simpa using hj)
      split
      · exact ⟨fun _ => sigF_lt _ _, fun h => absurd rfl h⟩
      · split
        · exact ⟨fun h => by simp at h, fun h => absurd rfl h⟩
        · next hp =>
          split
          · next hk =>
            split
            · exact ⟨fun h => by simp at h, fun h => absurd rfl h⟩
            · next h0 =>
              split
              · exact ⟨fun h => by simp at h, fun h => absurd rfl h⟩
              · next hN =>
                refine ⟨fun h => by simp at h, fun _ => ⟨hx.has, hk, ?_, by simpa using hp, ?_⟩⟩
                · have := hx.kinds
                  rw [hx.kind] at hk
                  simp only; omega
                · simp only
                  rw [show 3 - (3 - (joinS l e).1.Side) = (joinS l e).1.Side by omega]
                  simpa using hN
          · exact srch_ok hl P N n _
structure FgOk (l : T_api_Layout) (P : Int → Bool) (x : FG) : Prop where
  flank : ∀ y ∈ x.flank, hasEl l y.El = true ∧ kindF l y.El = 2 ∧ (y.Pos = 1 ∨ y.Pos = 2) ∧ P y.El = false
  one : ∀ y ∈ x.flank, ∀ z ∈ x.flank, y.El = z.El → y = z
  guards : ∀ g ∈ x.guards, 0 ≤ g ∧ g < (l.Signals.length : Nat)
theorem fstep_ok {l : T_api_Layout} {P : Int → Bool} {N : T_api_Setting → Bool} {x : FG} (h : FgOk l P x) (e : T_api_End) {t : T_api_Setting × Int × Bool} (ht : SrOk l P (needF N x) t) : FgOk l P (fstep x e t) := by
  unfold fstep
  split
  · exact ⟨h.flank, h.one, h.guards⟩
  · split
    · next h2 =>
      refine ⟨h.flank, h.one, fun g hg => ?_⟩
      rcases List.mem_append.1 hg with hg | hg
      · exact h.guards g hg
      · simp at hg; subst hg; exact ⟨h2, ht.guard h2⟩
    · split
      · exact h
      · next h3 =>
        obtain ⟨g1, g2, g3, g4, g5⟩ := ht.set h3
        have key : ∀ y ∈ x.flank, y.El = t.1.El → y = t.1 := by
          intro y hy ey
          have h1 := (h.flank y hy).2.2.1
          have hn : y ≠ ⟨t.1.El, 3 - t.1.Pos⟩ := by
            rintro rfl
            have : hasB x.flank ⟨t.1.El, 3 - t.1.Pos⟩ = true := decide_eq_true hy
            simp only [needF, this, Bool.or_true] at g5
            cases g5
          obtain ⟨a, b⟩ := y
          generalize t.1 = u at ey g3 hn ⊢
          obtain ⟨c, d⟩ := u
          simp only at ey h1 g3 hn
          subst ey
          have : b = d := by
            rcases h1 with rfl | rfl <;> rcases g3 with rfl | rfl <;> first | rfl | exact absurd rfl hn
          rw [this]
        refine ⟨fun y hy => ?_, fun y hy z hz ez => ?_, h.guards⟩
        · rcases List.mem_append.1 hy with hy | hy
          · exact h.flank y hy
          · simp at hy; subst hy; exact ⟨g1, g2, g3, g4⟩
        · rcases List.mem_append.1 hy with hy | hy <;> rcases List.mem_append.1 hz with hz | hz
          · exact h.one y hy z hz ez
          · simp at hz; subst hz; exact key y hy ez
          · simp at hy; subst hy; exact (key z hz ez.symm).symm
          · simp at hy hz; rw [hy, hz]
theorem ffold_ok {l : T_api_Layout} (hl : OkL l) (P : Int → Bool) (N : T_api_Setting → Bool) : ∀ (A : List T_api_End) (x : FG), FgOk l P x → FgOk l P (ffold l P N A x)
  | [], _, h => h
  | e :: A, x, h => ffold_ok hl P N A _ (fstep_ok h e (srch_ok hl P (needF N x) 4 e))
theorem allF_ok {l : T_api_Layout} (hl : OkL l) (r : T_api_Route) : FgOk l (passB r) (allF l r) := ffold_ok hl _ _ _ _ ⟨by simp [fg0], by simp [fg0], by simp [fg0]⟩
theorem fstep_sub (x : FG) (e : T_api_End) (t : T_api_Setting × Int × Bool) : (∀ y ∈ x.flank, y ∈ (fstep x e t).flank) ∧ ∀ y ∈ x.gaps, y ∈ (fstep x e t).gaps := by
  unfold fstep
  split
  · exact ⟨fun y h => h, fun y h => by simp [h]⟩
  · split
    · exact ⟨fun y h => h, fun y h => h⟩
    · split
      · exact ⟨fun y h => h, fun y h => h⟩
      · exact ⟨fun y h => by simp [h], fun y h => h⟩
theorem ffold_sub (l : T_api_Layout) (P : Int → Bool) (N : T_api_Setting → Bool) : ∀ (A : List T_api_End) (x : FG), (∀ y ∈ x.flank, y ∈ (ffold l P N A x).flank) ∧ ∀ y ∈ x.gaps, y ∈ (ffold l P N A x).gaps
  | [], _ => ⟨fun _ h => h, fun _ h => h⟩
  | e :: A, x => by
    have h1 := fstep_sub x e (srch l P (needF N x) 4 e)
    have h2 := ffold_sub l P N A (fstep x e (srch l P (needF N x) 4 e))
    exact ⟨fun y h => h2.1 y (h1.1 y h), fun y h => h2.2 y (h1.2 y h)⟩
/-- Each end is searched at some time. -/
theorem ffold_at (l : T_api_Layout) (P : Int → Bool) (N : T_api_Setting → Bool) (e : T_api_End) : ∀ (A : List T_api_End) (x : FG), e ∈ A → ∃ y, (∀ z ∈ (fstep y e (srch l P (needF N y) 4 e)).flank, z ∈ (ffold l P N A x).flank) ∧ ∀ z ∈ (fstep y e (srch l P (needF N y) 4 e)).gaps, z ∈ (ffold l P N A x).gaps
  | a :: A, x, h => by
    rcases List.mem_cons.1 h with rfl | h
    · exact ⟨x, ffold_sub l P N A _⟩
    · exact ffold_at l P N e A _ h
theorem ffold_gaps (l : T_api_Layout) (P : Int → Bool) (N : T_api_Setting → Bool) : ∀ (A : List T_api_End) (x : FG), ∀ y ∈ (ffold l P N A x).gaps, y ∈ x.gaps ∨ y ∈ A
  | [], _, _, h => .inl h
  | e :: A, x, y, h => by
    rcases ffold_gaps l P N A _ y h with h | h
    · have : ∀ t, y ∈ (fstep x e t).gaps → y ∈ x.gaps ∨ y = e := by
        intro t h
        unfold fstep at h
        split at h
        · rcases List.mem_append.1 h with h | h
          · exact .inl h
          · simp at h; exact .inr h
        · split at h
          · exact .inl h
          · split at h <;> exact .inl h
      rcases this _ h with h | h
      · exact .inl h
      · exact .inr (by simp [h])
    · exact .inr (by simp [h])
/-! ### The statements -/
theorem flankSearches_law {l : T_api_Layout} (h : Sm l) (r : T_api_Route) (e : T_api_End) : d_law14_FlankSearches l r e = some true := by
  unfold d_law14_FlankSearches
  obtain ⟨b, h1, h2⟩ := few14_is h r
  rw [h1, Option.bind_some]
  cases b with
  | false => simp [alive14]
  | true =>
    obtain ⟨hl, hr, -, -⟩ := h2 rfl
    rw [flank_Search_eq h hl hr, ref14_Search_eq h hl hr]
    have : eq_T_api_Setting (srch l (passB r) (needB r) 4 e).1 (srch l (passB r) (needB r) 4 e).1 = true := (eqSet_iff _ _).2 rfl
    simp [this, alive14]
theorem Same_fewF {r : T_api_Route} (h : FewF r) : d_ref12_Same r r = some true := Same_refl r h.path h.secs h.pts h.flank h.guards h.gaps h.over h.ops h.osecs
theorem asc_at {L : List T_api_Setting} (h : Asc L) {i j : Nat} {x y : T_api_Setting} (hx : L[i]? = some x) (hy : L[j]? = some y) (hij : i < j) : ltS x y = true := by
  have h1 := lt_of_get hx
  have h2 := lt_of_get hy
  rw [List.getElem?_eq_getElem h1] at hx; cases hx
  rw [List.getElem?_eq_getElem h2] at hy; cases hy
  exact (List.pairwise_iff_getElem.1 h) i j h1 h2 hij
theorem ascG_at {L : List Int} (h : L.Pairwise fun x y => x < y) {i j : Nat} {x y : Int} (hx : L[i]? = some x) (hy : L[j]? = some y) (hij : i < j) : x < y := by
  have h1 := lt_of_get hx
  have h2 := lt_of_get hy
  rw [List.getElem?_eq_getElem h1] at hx; cases hx
  rw [List.getElem?_eq_getElem h2] at hy; cases hy
  exact (List.pairwise_iff_getElem.1 h) i j h1 h2 hij
theorem flankLists_law {l : T_api_Layout} (h : Sm l) (r : T_api_Route) : d_law14_FlankLists l r = some true := by
  unfold d_law14_FlankLists
  obtain ⟨b, h1, h2⟩ := few14_is h r
  rw [h1, Option.bind_some]
  cases b with
  | false => simp [alive14]
  | true =>
    obtain ⟨hl, hr, hp, ho⟩ := h2 rfl
    have hL := allF_len l hp ho
    have hok := allF_ok hl r
    have hF : (findF l r).Flank = sF (allF l r).flank := rfl
    have hG : (findF l r).Guards = sG (allF l r).guards := rfl
    have hX : (findF l r).Gaps = (allF l r).gaps := rfl
    have hfl := findF_few l hr hp ho
    have hf1 := hfl.flank
    have hg1 := hfl.guards
    have hel : (endsS l (r.Path ++ r.Over)).length ≤ 1000 := by
      have := endsS_len l (r.Path ++ r.Over)
      rw [List.length_append] at this; omega
    suffices Is _ fun b => b = true by obtain ⟨b, q, rfl⟩ := this; exact q
    simp only [Bool.not_true, cond_false, flank_Find_eq h hl hr hp ho, Option.bind_some]
    refine Is.all (L := (findF l r).Flank) (fun _ _ => True) () (by have := hfl.flank; omega) (fun i x hx hi hI => ?_) ?_ (fun hn => ?_)
    · unfold d_law14_FlankLists_0
      refine Is.inb hi (Is.at hx ?_)
      have hm : x ∈ (allF l r).flank := (sF_mem _ x).1 (by rw [← hF]; exact List.mem_of_getElem? hx)
      obtain ⟨g1, g2, g3, g4⟩ := hok.flank x hm
      obtain ⟨el, k1, k2⟩ := hasEl_get g1
      have hin := g1
      simp only [hasEl, Bool.and_eq_true, decide_eq_true_eq] at hin
      have hk : el.Kind = 2 := by rw [← g2]; simp [kindF, k2]
      have hpos : ((!(decide (x.Pos = 1))) && (!(decide (x.Pos = 2)))) = false := by
        rcases g3 with e | e <;> simp [e]
      simp only [condSo, Option.bind_some, decide_eq_false (show ¬ x.El < 0 by omega), decide_eq_false (show ¬ ((l.Elements.length : Nat) : Int) ≤ x.El by omega), cond_false, k1, hk, decide_true, Bool.not_true, hpos, Bool.or_self, Bool.cond_self]
      refine Is.bind (φ := fun b => b = false) ?_ fun b hb => by subst hb; exact Is.val ⟨rfl, trivial⟩
      refine Is.bind (φ := fun b => b = false) ?_ fun b hb => Is.val hb
      refine Is.cond (fun hb => ?_) (fun _ => Is.val rfl)
      have h0 : 0 < i := by have : (0 : Int) < i := of_decide_eq_true hb
                            omega
      have ew : w64 ((i : Int) - 1) = ((i - 1 : Nat) : Int) := by rw [w64_of (by omega) (by omega)]; omega
      obtain ⟨y, hy⟩ : ∃ y, (findF l r).Flank[i - 1]? = some y := ⟨_, List.getElem?_eq_getElem (by omega)⟩
      rw [ew, ixO_nat hy, Option.bind_some]
      refine Is.val (decide_eq_false ?_)
      have hlt := asc_at (sF_asc (allF l r).flank) (by rw [← hF]; exact hy) (by rw [← hF]; exact hx) (by omega)
      rw [ltS_eq, decide_eq_true_iff] at hlt
      rcases hlt with hlt | ⟨he, hlt⟩
      · omega
      · have hm2 : y ∈ (allF l r).flank := (sF_mem _ y).1 (by rw [← hF]; exact List.mem_of_getElem? hy)
        have := hok.one y hm2 x hm he
        subst this; omega
    · simp [d_law14_FlankLists_0]
    refine Is.all (L := (findF l r).Guards) (fun _ _ => True) () (by have := hfl.guards; omega) (fun i x hx hi hI => ?_) ?_ (fun hn => ?_)
    · unfold d_law14_FlankLists_1
      refine Is.inb hi (Is.at hx ?_)
      have hm : x ∈ (allF l r).guards := (sG_mem _ x).1 (by rw [← hG]; exact List.mem_of_getElem? hx)
      have hg := hok.guards x hm
      simp only [ixO_nat hx, condSo, Option.bind_some, decide_eq_false (show ¬ x < 0 by omega), decide_eq_false (show ¬ ((l.Signals.length : Nat) : Int) ≤ x by omega), cond_false, Bool.cond_self]
      refine Is.bind (φ := fun b => b = false) ?_ fun b hb => by subst hb; exact Is.val ⟨rfl, trivial⟩
      refine Is.bind (φ := fun b => b = false) ?_ fun b hb => Is.val hb
      refine Is.cond (fun hb => ?_) (fun _ => Is.val rfl)
      have h0 : 0 < i := by have : (0 : Int) < i := of_decide_eq_true hb
                            omega
      have ew : w64 ((i : Int) - 1) = ((i - 1 : Nat) : Int) := by rw [w64_of (by omega) (by omega)]; omega
      obtain ⟨y, hy⟩ : ∃ y, (findF l r).Guards[i - 1]? = some y := ⟨_, List.getElem?_eq_getElem (by omega)⟩
      rw [ew, ixO_nat hy, Option.bind_some]
      refine Is.val (decide_eq_false ?_)
      have hlt := ascG_at (sG_asc (allF l r).guards) (by rw [← hG]; exact hy) (by rw [← hG]; exact hx) (by omega)
      omega
    · simp [d_law14_FlankLists_1]
    simp only [ref14_Sides_eq hl hr, Option.bind_some]
    refine Is.all (L := (findF l r).Gaps) (fun _ _ => True) () (by have := hfl.gaps; omega) (fun i x hx hi hI => ?_) ?_ (fun hn => ?_)
    · unfold d_law14_FlankLists_2
      refine Is.inb hi (Is.at hx ?_)
      have hm : x ∈ (allF l r).gaps := by rw [← hX]; exact List.mem_of_getElem? hx
      have hin : x ∈ endsS l (r.Path ++ r.Over) := by
        rcases ffold_gaps l _ _ _ _ x hm with h | h
        · simp [fg0] at h
        · exact h
      rw [HasEnd_eq _ _ (by omega), Option.bind_some, decide_eq_true hin]
      exact Is.val ⟨rfl, trivial⟩
    · simp [d_law14_FlankLists_2]
    have hsame := Same_fewF hfl
    have hff := flank_Find_eq h hl hfl hp ho
    rw [findF_again] at hff
    have hrr := Same_fewF hr
    have hmk : (T_api_Route.mk (findF l r).Name (findF l r).Entry (findF l r).Exit (findF l r).Path (findF l r).Points (findF l r).Sections (findF l r).Approach (findF l r).Length (findF l r).Over (findF l r).OverPoints (findF l r).OverSections r.Flank r.Guards r.Gaps) = r := rfl
    simp only [d_flank_Protected, Option.bind_some, beq_self_eq_true, Bool.not_true, cond_false, hff, hsame, hmk, hrr, cond_true, alive14]
    exact Is.val rfl
end PM
