/-
  PLAIN, WALK J: settings.
-/
import Derived.Test.YtoadiglkifiofaaDoorWalkI
namespace PM
open Go Go.RowKit

theorem eqSetting_iff (x y : T_api_Setting) : eq_T_api_Setting x y = true ↔ x = y := by
  cases x; cases y; simp [eq_T_api_Setting]
instance : DecidableEq T_api_Setting := fun x y => decidable_of_iff _ (eqSetting_iff x y)
theorem eqSetting_eq (x y : T_api_Setting) : eq_T_api_Setting x y = decide (x = y) := by
  rw [Bool.eq_iff_iff, eqSetting_iff, decide_eq_true_iff]
theorem xixO_nat (o : Nat) {n i : Nat} (h : i < n) : xixO o n (i : Int) = some (o + i) := by
  unfold xixO
  rw [if_pos (by omega)]; rfl
theorem xldO_eq {α : Type} {L : List α} {n j : Nat} (h : L.length = n) : xldO L n j = L[j]? := by
  unfold xldO
  rw [if_pos h]
theorem ddS_same {α : Type} [DecidableEq α] {L : List α} {j : Nat} {x : α} (h0 : 0 < j) (hx : L[j]? = some x) (hp : L[j - 1]? = some x) : ddS (L.take (j + 1)) = ddS (L.take j) := by
  rw [take_snoc hx, ddS_snoc, ddStep, ddS_last]
  have : (L.take j).getLast? = some x := by
    have e : L.take j = L.take (j - 1) ++ [x] := by
      have := take_snoc hp
      rwa [show j - 1 + 1 = j by omega] at this
    rw [e]; simp
  rw [this, if_pos rfl]
theorem ddS_other {α : Type} [DecidableEq α] {L : List α} {j : Nat} {x y : α} (h0 : 0 < j) (hx : L[j]? = some x) (hp : L[j - 1]? = some y) (hn : x ≠ y) : ddS (L.take (j + 1)) = ddS (L.take j) ++ [x] := by
  rw [take_snoc hx, ddS_snoc, ddStep, ddS_last]
  have : (L.take j).getLast? = some y := by
    have e : L.take j = L.take (j - 1) ++ [y] := by
      have := take_snoc hp
      rwa [show j - 1 + 1 = j by omega] at this
    rw [e]; simp
  rw [this, if_neg (fun e => hn (by cases e; rfl))]
theorem Compact_in (L : List T_api_Setting) (h : L.length ≤ 1000000) {i : Nat} (hi0 : 0 < i) (hi : i < L.length) (hd : ddS (L.take (i + 1)) = L.take i) :
    Is (loopO (d_slices_Compact_api_Setting_1 L (i, L.length)) ((i : Int), 1, L)) fun o => match o with
      | .inl r => ∃ k : Nat, r.2 = (k : Int) ∧ k ≤ L.length ∧ r.1.length = L.length ∧ r.1.take k = ddS L
      | .inr _ => False := by
  refine Is.loop (S := Int × Int × List T_api_Setting) (mk := fun (j : Nat) (m : Nat × List T_api_Setting) => (((m.1 : Nat) : Int), ((j + 1 : Nat) : Int), m.2)) (L.length - i - 1)
    (fun j m => m.2.length = L.length ∧ m.1 ≤ i + j ∧ m.2.take m.1 = ddS (L.take (i + j + 1)) ∧ ∀ t, m.1 ≤ t → m.2[t]? = L[t]?) (i, L) ⟨rfl, Nat.le_refl _, hd.symm, fun _ _ => rfl⟩ ?_ ?_
  · rintro j ⟨k, c⟩ hj ⟨hc, hk, ht, hs⟩
    simp only at hc hk ht hs
    unfold d_slices_Compact_api_Setting_1
    refine Is.cond (fun _ => ?_) (fun hb => by simp at hb; omega)
    have hL : ((L : List T_api_Setting).map cellsOf).length = L.length := List.length_map _
    have e1 : w64 (((j + 1 : Nat) : Int) - 1) = ((j : Nat) : Int) := by rw [w64_of (by omega) (by omega)]; omega
    simp only [hL, e1, Nat.zero_add, xixO_nat i (show j + 1 < L.length - i by omega), xixO_nat i (show j < L.length - i by omega), Option.bind_some, xldO_eq hc]
    have hx : c[i + (j + 1)]? = L[i + (j + 1)]? := hs _ (by omega)
    have hy : c[i + j]? = L[i + j]? := hs _ (by omega)
    obtain ⟨x, ex⟩ : ∃ x, L[i + (j + 1)]? = some x := ⟨_, List.getElem?_eq_getElem (by omega)⟩
    obtain ⟨y, ey⟩ : ∃ y, L[i + j]? = some y := ⟨_, List.getElem?_eq_getElem (by omega)⟩
    rw [hx, ex, hy, ey]
    simp only [Option.bind_some, eqSetting_eq]
    by_cases exy : x = y
    · simp only [exy, decide_true, Bool.not_true, cond_false]
      refine Is.val ⟨(k, c), ?_, hc, by simp only; omega, ?_, hs⟩
      · rw [w64n (by omega)]
      · simp only
        rw [ht]
        subst exy
        exact (ddS_same (by omega) ex (by rw [show i + (j + 1) - 1 = i + j by omega]; exact ey)).symm
    · simp only [exy, decide_false, Bool.not_false, cond_true]
      have hkn : k < L.length := by omega
      rw [show xixO 0 L.length ((k : Nat) : Int) = some (0 + k) from xixO_nat 0 hkn]
      have hck : c[k]? = some (c[k]'(by omega)) := List.getElem?_eq_getElem (by omega)
      simp only [Option.bind_some, Nat.zero_add, hck]
      refine Is.val ⟨(k + 1, c.set k x), ?_, by simpa using hc, by simp only; omega, ?_, fun t ht' => ?_⟩
      · rw [w64n (by omega), w64n (by omega)]
      · simp only
        rw [show i + (j + 1) + 1 = (i + (j + 1)) + 1 from rfl, ddS_other (by omega) ex (by rw [show i + (j + 1) - 1 = i + j by omega]; exact ey) exy, show i + (j + 1) = i + j + 1 by omega, ← ht]
        rw [take_snoc (x := x) (by rw [List.getElem?_set_self (by omega)]), List.take_set_of_le (Nat.le_refl _)]
      · rw [List.getElem?_set_ne (by simp only at ht'; omega)]
        exact hs t (by simp only at ht'; omega)
  · rintro ⟨k, c⟩ ⟨hc, hk, ht, hs⟩
    simp only at hc hk ht hs
    unfold d_slices_Compact_api_Setting_1
    refine Is.cond (fun hb => by simp at hb; omega) (fun _ => Is.val ?_)
    refine ⟨k, rfl, by omega, hc, ?_⟩
    rw [show i + (L.length - i - 1) + 1 = L.length by omega, List.take_length] at ht
    exact ht
theorem Compact_is (L : List T_api_Setting) (h : L.length ≤ 1000000) : Is (d_slices_Compact_api_Setting L) fun r => r.1.take r.2 = ddS L := by
  unfold d_slices_Compact_api_Setting
  have hL : ((L : List T_api_Setting).map cellsOf).length = L.length := List.length_map _
  rw [hL]
  refine Is.cond (fun hb => Is.val ?_) (fun hb => ?_)
  · have hl : L.length < 2 := by have := of_decide_eq_true hb; omega
    simp only [List.take_length]
    match L, hl with
    | [], _ => rfl
    | [x], _ => rfl
  have hl : 2 ≤ L.length := by have := of_decide_eq_false hb; omega
  refine Is.onInl (θ := fun o => match o with | .inl _ => ddS L = L | .inr r => r.1.take r.2 = ddS L) ?_ ?_ (fun b hb => hb)
  · refine Is.loop (S := Int) (mk := fun (i : Nat) (_ : Unit) => ((i + 1 : Nat) : Int)) (L.length - 1) (fun i _ => ddS (L.take (i + 1)) = L.take (i + 1)) () ?_ ?_ ?_
    · match L, hl with
      | x :: r, _ => simp [ddS, ddStep]
    · rintro i m hi hI
      unfold d_slices_Compact_api_Setting_0
      rw [hL]
      refine Is.cond (fun _ => ?_) (fun hb => by simp at hb; omega)
      have e1 : w64 (((i + 1 : Nat) : Int) - 1) = ((i : Nat) : Int) := by rw [w64_of (by omega) (by omega)]; omega
      simp only [e1, xixO_nat 0 (show i + 1 < L.length by omega), xixO_nat 0 (show i < L.length by omega), Option.bind_some, Nat.zero_add, xldO_eq (rfl : L.length = L.length)]
      obtain ⟨x, ex⟩ : ∃ x, L[i + 1]? = some x := ⟨_, List.getElem?_eq_getElem (by omega)⟩
      obtain ⟨y, ey⟩ : ∃ y, L[i]? = some y := ⟨_, List.getElem?_eq_getElem (by omega)⟩
      rw [ex, ey]
      simp only [Option.bind_some, eqSetting_eq]
      by_cases exy : x = y
      · subst exy
        simp only [decide_true, cond_true]
        have es : xslO L.length (some ((i + 1 : Nat) : Int)) none = some (i + 1, L.length) := by
          simp only [xslO, bndI]
          rw [if_pos (by omega)]
          simp only [Int.toNat_natCast]
          rw [if_pos (by omega)]
        rw [es]
        simp only [Option.bind_some]
        have hd : ddS (L.take (i + 1 + 1)) = L.take (i + 1) := by rw [ddS_same (by omega) ex (by simpa using ey), hI]
        refine Is.onInl (Compact_in L h (by omega) (by omega) hd) ?_ (fun b hb => hb.elim)
        rintro ⟨c, kk⟩ ⟨k, hkk, hk, hc, ht⟩
        simp only at hkk hc ht
        subst hkk
        have es : xslO L.length (some ((k : Nat) : Int)) none = some (k, L.length) := by
          simp only [xslO, bndI]
          rw [if_pos (by omega)]
          simp only [Int.toNat_natCast]
          rw [if_pos (by omega)]
        simp only [es, Option.bind_some]
        have ec : xclrO c L.length k (L.length - k) ((T_api_Setting.mk 0 0) : T_api_Setting) = some (c.take k ++ List.replicate (L.length - k) ((T_api_Setting.mk 0 0) : T_api_Setting) ++ c.drop (k + (L.length - k))) := by
          unfold xclrO
          rw [if_pos ⟨hc, by omega⟩]
        have eh : xslhO L.length ((k : Nat) : Int) = some k := by
          unfold xslhO
          rw [if_pos (by omega)]; rfl
        simp only [ec, eh, Option.bind_some]
        refine Is.val ?_
        show List.take k _ = ddS L
        rw [← ht, List.append_assoc, List.take_append_of_le_length (by simp; omega), List.take_take, Nat.min_self]
      · simp only [exy, decide_false, cond_false]
        refine Is.val ⟨(), by rw [w64n (by omega)], ?_⟩
        rw [ddS_other (by omega) ex (by simpa using ey) exy, hI, take_snoc ex]
    · rintro m hI
      unfold d_slices_Compact_api_Setting_0
      rw [hL]
      refine Is.cond (fun hb => by simp at hb; omega) (fun _ => Is.val ?_)
      rw [show L.length - 1 + 1 = L.length by omega, List.take_length] at hI
      exact hI
  · rintro v hv
    refine Is.val ?_
    show List.take L.length L = ddS L
    rw [List.take_length]; exact hv.symm
def ltS (x y : T_api_Setting) : Bool := decide (x.El < y.El ∨ (x.El = y.El ∧ x.Pos < y.Pos))
theorem ltS_eq (x y : T_api_Setting) : ltS x y = decide (x.El < y.El ∨ (x.El = y.El ∧ x.Pos < y.Pos)) := rfl
theorem ltS_irr (x : T_api_Setting) : ltS x x = false := by rw [ltS_eq]; simp
theorem ltS_tr (x y z : T_api_Setting) (h1 : ltS x y = true) (h2 : ltS y z = true) : ltS x z = true := by
  rw [ltS_eq, decide_eq_true_iff] at *; omega
theorem ltS_tot (x y : T_api_Setting) (h : ltS y x = false) : x = y ∨ ltS x y = true := by
  rw [ltS_eq] at h ⊢
  simp only [decide_eq_false_iff_not, decide_eq_true_eq] at h ⊢
  obtain ⟨a, b⟩ := x
  obtain ⟨c, d⟩ := y
  simp only [T_api_Setting.mk.injEq] at h ⊢
  omega
def Asc (l : List T_api_Setting) : Prop := l.Pairwise fun x y => ltS x y = true
theorem Asc.one {a b : List T_api_Setting} (ha : Asc a) (hb : Asc b) (h : ∀ x, x ∈ a ↔ x ∈ b) : a = b := strict_unique ltS_irr ltS_tr a b ha hb h
def setOf (l : T_api_Layout) (s : T_api_Step) : Option T_api_Setting := bif (posS l s).2 && !decide ((posS l s).1 = 0) then some ⟨s.El, (posS l s).1⟩ else none
def rawS (l : T_api_Layout) (way : List T_api_Step) : List T_api_Setting := way.filterMap (setOf l)
def setS (l : T_api_Layout) (way : List T_api_Step) : List T_api_Setting := ddS ((rawS l way).mergeSort fun x y => !ltS y x)
theorem rawS_snoc (l : T_api_Layout) (way : List T_api_Step) (s : T_api_Step) : rawS l (way ++ [s]) = rawS l way ++ (setOf l s).toList := by
  unfold rawS
  rw [List.filterMap_append, List.filterMap_cons, List.filterMap_nil]
  cases setOf l s <;> rfl
theorem rawS_len (l : T_api_Layout) (way : List T_api_Step) : (rawS l way).length ≤ way.length := List.length_filterMap_le _ _
theorem setS_mem (l : T_api_Layout) (way : List T_api_Step) (x : T_api_Setting) : x ∈ setS l way ↔ x ∈ rawS l way := by
  rw [setS, ddS_mem, (List.mergeSort_perm _ _).mem_iff]
theorem setS_len (l : T_api_Layout) (way : List T_api_Step) : (setS l way).length ≤ way.length := by
  refine Nat.le_trans (ddS_len _) ?_
  rw [(List.mergeSort_perm _ _).length_eq]
  exact rawS_len l way
theorem setS_asc (l : T_api_Layout) (way : List T_api_Step) : Asc (setS l way) := by
  refine ddS_strict ltS_tr ltS_tot _ ?_
  have := List.pairwise_mergeSort (le := fun x y => !ltS y x) (fun a b c h1 h2 => ?_) (fun a b => ?_) (rawS l way)
  · exact this.imp fun h => by simpa using h
  · simp only [ltS_eq, Bool.not_eq_true', decide_eq_false_iff_not] at *; omega
  · cases h : ltS b a with
    | false => rfl
    | true =>
      have : ltS a b = false := by rw [ltS_eq, decide_eq_true_iff] at h; rw [ltS_eq, decide_eq_false_iff_not]; omega
      simp [this]
theorem kind_pos {l : T_api_Layout} {s : T_api_Step} {x : T_api_Element} (hx : l.Elements[s.El.toNat]? = some x) (h : (posS l s).2 = true) : (x.Kind = 2 ↔ (posS l s).1 ≠ 0) := by
  unfold posS at h ⊢
  cases hE : hasEl l s.El with
  | false => rw [hE] at h; cases h
  | true =>
    rw [hE, hx] at h
    rw [hx]
    simp only [cond_true] at h ⊢
    unfold needS at h ⊢
    cases hf : tab_rail_passages.find? (fun y => decide (y.kind_ = x.Kind) && decide (y.in_ = s.In) && decide (y.out_ = s.Out)) with
    | none => rw [hf] at h; cases h
    | some y =>
      have h1 := List.find?_some hf
      simp only [Bool.and_eq_true, decide_eq_true_eq] at h1
      have h2 : ∀ z ∈ tab_rail_passages, (z.kind_ = 2 ↔ z.need_ ≠ 0) := by decide
      have := h2 y (List.mem_of_find?_eq_some hf)
      rw [h1.1.1] at this
      exact this
theorem pos_has {l : T_api_Layout} {s : T_api_Step} (h : (posS l s).2 = true) : hasEl l s.El = true := by
  cases hE : hasEl l s.El with
  | true => rfl
  | false => unfold posS at h; rw [hE] at h; cases h
theorem walk_Settings_eq (l : T_api_Layout) (way : List T_api_Step) (h : way.length ≤ 1000000) : d_walk_Settings l way = some (setS l way) := by
  unfold d_walk_Settings
  have : Is (loopO (d_walk_Settings_0 l way) (0, [])) fun o => o = .inl (rawS l way) := by
    refine Is.loop (mk := fun (i : Nat) (m : List T_api_Setting) => ((i : Int), m)) way.length (fun i m => m = rawS l (way.take i)) [] rfl ?_ ?_
    · rintro i m hi rfl
      unfold d_walk_Settings_0
      refine Is.cond (fun _ => ?_) (fun hb => by simp at hb; omega)
      have hlen : (rawS l (way.take i)).length ≤ i := Nat.le_trans (rawS_len _ _) (by simp; omega)
      refine Is.onInl (θ := fun o => o = .inl (rawS l (way.take (i + 1)))) ?_ ?_ (fun b hb => by cases hb)
      · refine Is.bind (Is.ixn hi) fun s hs => ?_
        rw [walk_possible_eq, take_snoc hs, rawS_snoc]
        refine Is.bind (Is.eq rfl) fun p hp => ?_
        subst hp
        refine Is.bind (φ := fun b => b = ((posS l s).2 && !decide ((posS l s).1 = 0))) ?_ fun b hb => ?_
        · refine Is.cond (fun hc => ?_) (fun hc => Is.val (by rw [hc]; rfl))
          obtain ⟨x, h1, h2⟩ := hasEl_get (pos_has hc)
          rw [h1]
          refine Is.bind (Is.eq rfl) fun y hy => ?_
          subst hy
          refine Is.val ?_
          rw [hc, Bool.true_and, Bool.eq_iff_iff, decide_eq_true_iff, kind_pos h2 hc]
          simp
        · subst hb
          unfold setOf
          cases (posS l s).2 && !decide ((posS l s).1 = 0) with
          | false => exact Is.val (by simp)
          | true =>
            refine Is.bind (Is.app ?_) fun M hM => ?_
            · simp only [List.length_cons, List.length_nil, sizeMax, Enc.b]; omega
            · subst hM; exact Is.val rfl
      · rintro v hv
        cases hv
        exact Is.val ⟨_, by rw [w64n (by omega)], rfl⟩
    · rintro m rfl
      unfold d_walk_Settings_0
      exact Is.cond (fun hb => by simp at hb) (fun _ => Is.val (by rw [List.take_length]))
  obtain ⟨o, h1, rfl⟩ := this
  have hlen := rawS_len l way
  obtain ⟨r, h2, h3⟩ := Compact_is ((rawS l way).mergeSort fun x y => !ltS y x) (by rw [(List.mergeSort_perm _ _).length_eq]; omega)
  rw [h1]
  simp only [onInl, Option.bind_some, onOut]
  unfold d_slices_SortFunc_api_Setting__walk_Settings_1
  rw [show Go.Proofs.ltOf cf_d_walk_Settings_1 = ltS from funext fun x => funext fun y => lt_d_walk_Settings_1 x y]
  rw [Option.bind_some]
  show ((d_slices_Compact_api_Setting ((rawS l way).mergeSort fun x y => !ltS y x)).bind fun r50 => some (r50.1.take r50.2)) = _
  rw [h2, Option.bind_some, h3]; rfl
theorem ref09_insert_is (L : List T_api_Setting) (x : T_api_Setting) (hL : Asc L) (h : L.length ≤ 1000000) : Is (d_ref09_insert L x) fun M => Asc M ∧ (∀ y, y ∈ M ↔ y ∈ L ∨ y = x) ∧ M.length ≤ L.length + 1 := by
  unfold d_ref09_insert
  refine Is.onInl (θ := fun o => match o with | .inl r => ∃ i : Nat, r.2 = (i : Int) ∧ i ≤ L.length ∧ r.1 = L.take i ∧ (∀ y ∈ L.take i, ltS y x = true) ∧ (∀ y, L[i]? = some y → ltS y x = false) | .inr _ => False) ?_ ?_ (fun b hb => hb.elim)
  · refine Is.loop (mk := fun (i : Nat) (m : List T_api_Setting) => ((i : Int), m)) L.length (fun i m => m = L.take i ∧ ∀ y ∈ L.take i, ltS y x = true) [] ⟨rfl, fun y hy => by simp at hy⟩ ?_ ?_
    · rintro i m hi ⟨rfl, hI⟩
      unfold d_ref09_insert_0
      obtain ⟨y, hy⟩ : ∃ y, L[i]? = some y := ⟨_, List.getElem?_eq_getElem hi⟩
      have e0 : decide ((i : Int) < ((L.length : Nat) : Int)) = true := decide_eq_true (by omega)
      simp only [ixO_nat hy, e0, cond_true, Option.bind_some]
      refine Is.bind (φ := fun b => b = ltS y x) ?_ fun b hb => ?_
      · rw [ltS_eq]
        by_cases h1 : y.El < x.El
        · simp only [h1, decide_true, cond_true, true_or]; exact Is.val rfl
        · by_cases h2 : y.El = x.El
          · simp only [h2, Int.lt_irrefl, decide_false, decide_true, cond_true, cond_false, Option.bind_some, false_or, true_and]; exact Is.val rfl
          · simp only [h1, h2, decide_false, cond_false, Option.bind_some, false_or, false_and]; exact Is.val rfl
      · subst hb
        refine Is.cond (fun hc => ?_) (fun hc => Is.val ⟨i, rfl, by omega, rfl, hI, fun z hz => ?_⟩)
        · refine Is.bind (Is.app ?_) fun M hM => ?_
          · simp only [List.length_take, List.length_cons, List.length_nil, sizeMax, Enc.b]; omega
          · subst hM
            refine Is.val ⟨_, by rw [w64n (by omega)], by rw [take_snoc hy], fun z hz => ?_⟩
            rw [take_snoc hy] at hz
            rcases List.mem_append.1 hz with hz | hz
            · exact hI z hz
            · simp at hz; subst hz; exact hc
        · rw [hy] at hz; cases hz; exact hc
    · rintro m ⟨rfl, hI⟩
      unfold d_ref09_insert_0
      have e0 : decide (((L.length : Nat) : Int) < ((L.length : Nat) : Int)) = false := decide_eq_false (by omega)
      simp only [e0, cond_false, Option.bind_some]
      exact Is.val ⟨L.length, rfl, Nat.le_refl _, rfl, hI, fun y hy => by simp at hy⟩
  · rintro ⟨m, k⟩ ⟨i, hk, hi, hm, hI, hn⟩
    simp only at hk hm
    subst hk hm
    refine Is.onInl (θ := fun o => ∃ M, o = .inl M ∧ Asc (M ++ L.drop i) ∧ (∀ y, y ∈ M ++ L.drop i ↔ y ∈ L ∨ y = x) ∧ M.length ≤ i + 1) ?_ ?_ (fun b hb => by obtain ⟨M, hM, _⟩ := hb; cases hM)
    · have hsplit : L.take i ++ L.drop i = L := List.take_append_drop i L
      have hmem : ∀ y, y ∈ L.take i ++ L.drop i ↔ y ∈ L := fun y => by rw [hsplit]
      have hL' := hL
      unfold Asc at hL'
      rw [← hsplit, List.pairwise_append] at hL'
      refine Is.bind (φ := fun b => b = decide (L[i]? ≠ some x)) ?_ fun b hb => ?_
      · refine Is.cond (fun hc => Is.val ?_) (fun hc => ?_)
        · have : i = L.length := by have := of_decide_eq_true hc; omega
          subst this; simp
        · have : i < L.length := by have := of_decide_eq_false hc; omega
          refine Is.bind (Is.ixn this) fun y hy => Is.val ?_
          rw [hy, eqSetting_eq]
          by_cases e : y = x <;> simp [e]
      subst hb
      by_cases e : L[i]? = some x
      · simp only [e, ne_eq, not_true, decide_false, cond_false]
        refine Is.val ⟨L.take i, rfl, by rw [hsplit]; exact hL, fun y => ?_, by simp; omega⟩
        rw [hmem]
        exact ⟨.inl, fun q => q.elim id fun q => by subst q; exact List.mem_of_getElem? e⟩
      · simp only [e, ne_eq, not_false_eq_true, decide_true, cond_true]
        refine Is.bind (Is.app ?_) fun M hM => ?_
        · simp only [List.length_take, List.length_cons, List.length_nil, sizeMax, Enc.b]; omega
        · subst hM
          refine Is.val ⟨_, rfl, ?_, fun y => ?_, by simp; omega⟩
          · have hxd : ∀ y ∈ L.drop i, ltS x y = true := by
              intro y hy
              cases hd : L[i]? with
              | none =>
                have : L.length ≤ i := by simpa using hd
                rw [List.drop_eq_nil_of_le this] at hy; cases hy
              | some z =>
                have hi' := lt_of_get hd
                have ez : L[i] = z := by rw [List.getElem?_eq_getElem hi'] at hd; exact Option.some.inj hd
                have hxz : ltS x z = true := by
                  rcases ltS_tot x z (hn z hd) with q | q
                  · exact absurd (q ▸ hd) e
                  · exact q
                rw [List.drop_eq_getElem_cons hi', ez] at hy
                have hp := hL'.2.1
                rw [List.drop_eq_getElem_cons hi', ez, List.pairwise_cons] at hp
                rcases List.mem_cons.1 hy with q | q
                · subst q; exact hxz
                · exact ltS_tr x z y hxz (hp.1 y q)
            unfold Asc
            rw [List.append_assoc, List.pairwise_append]
            refine ⟨hL'.1, ?_, fun a ha b hb => ?_⟩
            · rw [List.singleton_append, List.pairwise_cons]
              exact ⟨hxd, hL'.2.1⟩
            · rcases List.mem_append.1 hb with q | q
              · simp at q; subst q; exact hI a ha
              · exact hL'.2.2 a ha b q
          · rw [← hmem]
            simp only [List.mem_append, List.mem_singleton]
            constructor
            · rintro ((q | q) | q)
              · exact .inl (.inl q)
              · exact .inr q
              · exact .inl (.inr q)
            · rintro ((q | q) | q)
              · exact .inl (.inl q)
              · exact .inr q
              · exact .inl (.inr q)
    · rintro M ⟨M', hM', hA, hm, hl⟩
      cases hM'
      rw [slO_lo hi]
      refine Is.bind (Is.eq rfl) fun y hy => ?_
      subst hy
      refine Is.bind (Is.app ?_) fun M' hM' => ?_
      · simp only [List.length_drop, sizeMax, Enc.b]; omega
      · subst hM'
        refine Is.val ⟨hA, hm, ?_⟩
        simp only [List.length_append, List.length_drop]; omega
theorem ref09_Settings_eq (l : T_api_Layout) (way : List T_api_Step) (h : way.length ≤ 1000000) : d_ref09_Settings l way = some (setS l way) := by
  unfold d_ref09_Settings
  have : Is (loopO (d_ref09_Settings_0 l way) (0, [])) fun o => o = .inl (setS l way) := by
    refine Is.loop (mk := fun (i : Nat) (m : List T_api_Setting) => ((i : Int), m)) way.length (fun i m => Asc m ∧ (∀ x, x ∈ m ↔ x ∈ rawS l (way.take i)) ∧ m.length ≤ i) [] ⟨List.Pairwise.nil, fun x => by simp [rawS], Nat.le_refl _⟩ ?_ ?_
    · rintro i m hi ⟨hA, hm, hl⟩
      unfold d_ref09_Settings_0
      refine Is.cond (fun _ => ?_) (fun hb => by simp at hb; omega)
      refine Is.onInl (θ := fun o => match o with | .inl m => Asc m ∧ (∀ x, x ∈ m ↔ x ∈ rawS l (way.take (i + 1))) ∧ m.length ≤ i + 1 | .inr _ => False) ?_ ?_ (fun b hb => hb.elim)
      · refine Is.bind (Is.ixn hi) fun s hs => ?_
        rw [ref09_need_eq, take_snoc hs, rawS_snoc]
        refine Is.bind (Is.eq rfl) fun p hp => ?_
        subst hp
        unfold setOf
        cases (posS l s).2 && !decide ((posS l s).1 = 0) with
        | false => exact Is.val ⟨hA, fun x => by simpa using hm x, by omega⟩
        | true =>
          refine Is.bind (Is.ixn hi) fun s' hs' => ?_
          rw [hs] at hs'; cases hs'
          refine Is.bind (ref09_insert_is m _ hA (by omega)) fun M hM => Is.val ⟨hM.1, fun x => ?_, by have := hM.2.2; omega⟩
          rw [hM.2.1, hm]; simp
      · rintro v hv
        exact Is.val ⟨v, by rw [w64n (by omega)], hv⟩
    · rintro m ⟨hA, hm, -⟩
      unfold d_ref09_Settings_0
      refine Is.cond (fun hb => by simp at hb) (fun _ => Is.val ?_)
      rw [List.take_length] at hm
      rw [Asc.one hA (setS_asc l way) fun x => by rw [hm, setS_mem]]
  obtain ⟨o, h1, rfl⟩ := this
  simp [h1, onInl, onOut]
end PM
