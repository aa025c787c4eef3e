/-
  PLAIN, ROUTES B: the reference's routes that begin at a signal, and all of them, exactly.
-/
import Derived.Test.YtoadiglkifiofaaDoorRutA
namespace PM
open Go Go.RowKit

theorem Is.sadd {a b : ByteArray} (h : a.size + b.size ≤ 9223372036854775807) : Is (saddO a b) fun M => M = a ++ b := ⟨a ++ b, by unfold saddO; rw [if_pos h], rfl⟩
def sgN (l : T_api_Layout) (i : Int) : ByteArray := ((l.Signals[i.toNat]?).map (·.Name)).getD ByteArray.empty
def endT : ByteArray := ByteArray.mk #[45, 101, 110, 100]
def dashT : ByteArray := ByteArray.mk #[45]
def dotT : ByteArray := ByteArray.mk #[46]
def textS (l : T_api_Layout) (i x : Int) : ByteArray := if x < 0 then sgN l i ++ endT else sgN l i ++ dashT ++ sgN l x
theorem sgN_get {l : T_api_Layout} {i : Int} {y : T_api_Signal} (h : l.Signals[i.toNat]? = some y) : sgN l i = y.Name := by unfold sgN; rw [h]; rfl
theorem sgN_size {l : T_api_Layout} (h : Sm l) (i : Int) : (sgN l i).size ≤ 1048576 := by
  unfold sgN
  cases hy : l.Signals[i.toNat]? with
  | none => simp
  | some y => exact h.sgn y (List.mem_of_getElem? hy)
theorem textS_size {l : T_api_Layout} (h : Sm l) (i x : Int) : (textS l i x).size ≤ 3000000 := by
  have h1 := sgN_size h i
  have h2 := sgN_size h x
  have h3 : endT.size = 4 := rfl
  have h4 : dashT.size = 1 := rfl
  unfold textS
  split
  · rw [ByteArray.size_append]; omega
  · rw [ByteArray.size_append, ByteArray.size_append]; omega
theorem text_eq {l : T_api_Layout} (h : Sm l) {i x : Int} (hi : 0 ≤ i ∧ i < (l.Signals.length : Nat)) (hx : x = -1 ∨ (0 ≤ x ∧ x < (l.Signals.length : Nat))) : d_ref12_text l i x = some (textS l i x) := by
  have : Is (d_ref12_text l i x) fun M => M = textS l i x := by
    unfold d_ref12_text textS
    have h1 := sgN_size h i
    have h2 := sgN_size h x
    have h3 : endT.size = 4 := rfl
    have h4 : dashT.size = 1 := rfl
    refine Is.cond (fun h0 => ?_) fun h0 => ?_
    · rw [if_pos (of_decide_eq_true h0)]
      refine (Is.ix hi.1 hi.2).bind fun y hy => ?_
      rw [← sgN_get hy]
      exact (Is.sadd (b := endT) (by rw [h3]; omega)).bind fun M hM => Is.val hM
    · rw [if_neg (of_decide_eq_false h0)]
      have h0 := of_decide_eq_false h0
      refine (Is.ix hi.1 hi.2).bind fun y hy => ?_
      rw [← sgN_get hy]
      refine (Is.sadd (b := dashT) (by rw [h4]; omega)).bind fun M hM => ?_
      have hM1 : M.size = (sgN l i).size + 1 := by rw [hM, ByteArray.size_append, h4]
      refine (Is.ix (by omega) (by omega)).bind fun z hz => ?_
      rw [← sgN_get hz]
      exact (Is.sadd (by omega)).bind fun M' hM' => Is.val (by rw [hM', hM])
  obtain ⟨M, h1, rfl⟩ := this
  exact h1
theorem decimal_is {n : Int} (h0 : 0 ≤ n) (h1 : n < 1000000) : Is (d_ref12_decimal n) fun M => M.size ≤ 6 := by
  unfold d_ref12_decimal
  refine Is.onInl (θ := fun o => ∃ M, o = .inl M ∧ M.size ≤ 6) ?_ (fun v hv => ?_) (fun b hb => by obtain ⟨x, hx, _⟩ := hb; cases hx)
  · refine Is.loop (mk := fun _ (s : Int × ByteArray) => s) 6 (fun i s => 0 ≤ s.1 ∧ s.1 < 10 ^ (6 - i) ∧ s.2.size ≤ i) (n, ByteArray.empty) ⟨h0, h1, Nat.le_refl _⟩ (fun i s hi hI => ?_) (fun s hI => ?_)
    · obtain ⟨x, b⟩ := s
      obtain ⟨g1, g2, g3⟩ := hI
      simp only at g1 g2 g3
      simp only [d_ref12_decimal_0]
      refine Is.cond (fun hx => ?_) fun _ => Is.val ⟨b, rfl, by omega⟩
      have hx := of_decide_eq_true hx
      have hs : ∀ y : Int, (bytesOf [y]).size = 1 := fun y => rfl
      have hp : (10 : Int) ^ (6 - i) = 10 ^ (6 - (i + 1)) * 10 := by rw [show 6 - i = (6 - (i + 1)) + 1 by omega, Int.pow_succ]
      have hle : (10 : Int) ^ (6 - i) ≤ 1000000 := by
        have : i = 0 ∨ i = 1 ∨ i = 2 ∨ i = 3 ∨ i = 4 ∨ i = 5 := by omega
        rcases this with rfl | rfl | rfl | rfl | rfl | rfl <;> decide
      refine (Is.sadd (by rw [hs]; omega)).bind fun M hM => Is.val ⟨(w64 (x.tdiv 10), M), rfl, ?_⟩
      have hd : x.tdiv 10 = x / 10 := Int.tdiv_eq_ediv_of_nonneg g1
      have hw : w64 (x.tdiv 10) = x / 10 := by rw [hd]; exact w64_of (by omega) (by omega)
      refine ⟨by simp only [hw]; omega, by simp only [hw]; omega, ?_⟩
      simp only [hM, ByteArray.size_append, hs]; omega
    · obtain ⟨x, b⟩ := s
      obtain ⟨g1, g2, g3⟩ := hI
      simp only at g1 g2 g3
      simp only [d_ref12_decimal_0]
      rw [decide_eq_false (by simp at g2; omega), cond_false]
      exact Is.val ⟨b, rfl, g3⟩
  · obtain ⟨M, e1, e2⟩ := hv
    cases e1
    exact Is.val e2
noncomputable def decS (n : Nat) : ByteArray := (d_ref12_decimal (n : Int)).getD ByteArray.empty
theorem decimal_eq {n : Nat} (h : n < 1000000) : d_ref12_decimal (n : Int) = some (decS n) ∧ (decS n).size ≤ 6 := by
  obtain ⟨M, h1, h2⟩ := decimal_is (n := (n : Int)) (by omega) (by omega)
  unfold decS
  rw [h1]
  exact ⟨rfl, h2⟩

def lastE (p : List T_api_Step) : T_api_End := match p.getLast? with | some s => ⟨s.El, s.Out⟩ | none => ⟨0, 0⟩
def exitP (l : T_api_Layout) (p : List T_api_Step) : Int := sigF l.Signals (lastE p)
def pathK (P : List (List T_api_Step)) (k : Nat) : List T_api_Step := (P[k]?).getD []
def cntK (l : T_api_Layout) (i : Int) (P : List (List T_api_Step)) (x : Int) : Nat → Nat
  | 0 => 1
  | k + 1 => if textS l i (exitP l (pathK P k)) = textS l i x then cntK l i P x k + 1 else cntK l i P x k
theorem cntK_succ (l : T_api_Layout) (i : Int) (P : List (List T_api_Step)) (x : Int) (k : Nat) : cntK l i P x (k + 1) = if textS l i (exitP l (pathK P k)) = textS l i x then cntK l i P x k + 1 else cntK l i P x k := rfl
theorem cntK_le (l : T_api_Layout) (i : Int) (P : List (List T_api_Step)) (x : Int) : ∀ k, cntK l i P x k ≤ k + 1
  | 0 => Nat.le_refl _
  | k + 1 => by
    have := cntK_le l i P x k
    rw [cntK_succ]
    split <;> omega
noncomputable def nameK (l : T_api_Layout) (i : Int) (P : List (List T_api_Step)) (k : Nat) : ByteArray :=
  if 1 < cntK l i P (exitP l (pathK P k)) k then textS l i (exitP l (pathK P k)) ++ dotT ++ decS (cntK l i P (exitP l (pathK P k)) k) else textS l i (exitP l (pathK P k))
def atS (l : T_api_Layout) (i : Int) : T_api_End := ((l.Signals[i.toNat]?).map (·.At)).getD ⟨0, 0⟩
noncomputable def routeK (l : T_api_Layout) (i : Int) (P : List (List T_api_Step)) (k : Nat) : T_api_Route :=
  T_api_Route.mk (nameK l i P k) i (exitP l (pathK P k)) (pathK P k) (setS l (pathK P k)) (secS l (pathK P k)) (secZ l (atS l i).El) (w64 (sumL l (pathK P k))) [] [] [] [] [] []
noncomputable def pathsS (l : T_api_Layout) (i : Int) : List (List T_api_Step) := pathsN l (joinS l (atS l i)).1 13 (joinS l (atS l i)).1 []
noncomputable def fromS (l : T_api_Layout) (i : Int) : List T_api_Route :=
  if 0 ≤ i ∧ i < (l.Signals.length : Nat) then (if (joinS l (atS l i)).2 = true then (List.range (pathsS l i).length).map (routeK l i (pathsS l i)) else []) else []
theorem pathsS_len (l : T_api_Layout) (i : Int) : (pathsS l i).length ≤ 8192 := pathsN_len l _ 13 _ _
theorem fromS_len (l : T_api_Layout) (i : Int) : (fromS l i).length ≤ 8192 := by
  have := pathsS_len l i
  unfold fromS
  split
  · split
    · simpa using this
    · simp
  · simp
theorem pathK_get {P : List (List T_api_Step)} {k : Nat} (h : k < P.length) : P[k]? = some (pathK P k) := by
  unfold pathK; rw [List.getElem?_eq_getElem h]; rfl
theorem last_ix {p : List T_api_Step} (h : 0 < p.length) (h2 : p.length ≤ 1000) : ∃ s, p.getLast? = some s ∧ ixO p (w64 (((p.length : Nat) : Int) - 1)) = some s := by
  have hw : w64 (((p.length : Nat) : Int) - 1) = ((p.length - 1 : Nat) : Int) := by rw [w64_of (by omega) (by omega)]; omega
  rw [hw, List.getLast?_eq_getElem?]
  have := List.getElem?_eq_getElem (l := p) (i := p.length - 1) (by omega)
  exact ⟨_, this, ixO_nat this⟩
theorem ends_last {l : T_api_Layout} (h : Sm l) {p : List T_api_Step} {s : T_api_Step} (hs : p.getLast? = some s) : d_ref12_Ends l s = some (exitP l p, endZ l s) := by
  rw [Ends_eq h]
  unfold exitP lastE
  rw [hs]
theorem From_cnt {l : T_api_Layout} (h : Sm l) {i : Int} (hi : 0 ≤ i ∧ i < (l.Signals.length : Nat)) {P : List (List T_api_Step)} (hP : ∀ p ∈ P, 0 < p.length ∧ p.length ≤ 12) (r : T_signallingref12_Paths) (hr : r.L = P) (k : Nat) (hk : k < P.length) (hk2 : P.length ≤ 8192) (x : Int) (z : Bool) (hx : x = -1 ∨ (0 ≤ x ∧ x < (l.Signals.length : Nat))) :
    Is (loopO (d_ref12_From_1 l i r (k : Int) (x, z)) (1, 0)) fun o => o = .inl ((cntK l i P x k : Nat) : Int) := by
  refine Is.loop (mk := fun j (s : Int) => (s, (j : Int))) k (fun j s => s = ((cntK l i P x j : Nat) : Int)) (1 : Int) rfl (fun j s hj hI => ?_) (fun s hI => ?_)
  · have hc := cntK_le l i P x j
    have hjP : j < P.length := by omega
    have hN : (((r.L : List (List T_api_Step)).map cellsOf).length) = P.length := by rw [List.length_map, hr]
    simp only [d_ref12_From_1]
    rw [decide_eq_true (by omega), cond_true]
    refine Is.onInl (θ := fun o => o = .inl ((cntK l i P x (j + 1) : Nat) : Int)) ?_ (fun v hv => ?_) (fun b hb => by cases hb)
    · have hg := pathK_get hjP
      have hld : xldO r.L (((r.L : List (List T_api_Step)).map cellsOf).length) j = some (pathK P j) := by rw [xldO_eq (by rw [List.length_map]), hr]; exact hg
      have hxi : xixO 0 (((r.L : List (List T_api_Step)).map cellsOf).length) (j : Int) = some j := by rw [xixO_nat 0 (by rw [hN]; exact hjP), Nat.zero_add]
      have hp := hP _ (List.mem_of_getElem? hg)
      obtain ⟨s1, e1, e2⟩ := last_ix hp.1 (by omega)
      simp only [hxi, hld, Option.bind_some]
      rw [e2, Option.bind_some, ends_last h e1, Option.bind_some]
      have hex : exitP l (pathK P j) = -1 ∨ (0 ≤ exitP l (pathK P j) ∧ exitP l (pathK P j) < (l.Signals.length : Nat)) := sigF_rng l.Signals (lastE (pathK P j))
      show Is ((d_ref12_text l i (exitP l (pathK P j))).bind _) _
      rw [text_eq h hi hex, Option.bind_some]
      show Is ((d_ref12_text l i x).bind _) _
      rw [text_eq h hi hx, Option.bind_some, cntK_succ]
      refine Is.ite dec_iff (fun he => Is.val ?_) (fun he => Is.val ?_)
      · rw [if_pos he, hI, w64n (by omega)]
      · rw [if_neg he, hI]
    · cases hv
      exact Is.val ⟨_, by rw [w64n (by omega)], rfl⟩
  · simp only [d_ref12_From_1]
    rw [decide_eq_false (by omega), cond_false]
    exact Is.val (by rw [hI])
theorem From_eq {l : T_api_Layout} (h : Sm l) (i : Int) : d_ref12_From l i = some (fromS l i) := by
  have : Is (d_ref12_From l i) fun r => r = fromS l i := by
    unfold d_ref12_From
    refine Is.bind (φ := fun b => b = true ↔ (i < 0 ∨ ((l.Signals.length : Nat) : Int) ≤ i)) (Is.or dec_iff fun _ => Is.val dec_iff) fun b hb => ?_
    refine Is.ite hb (fun hp => Is.val ?_) fun hp => ?_
    · unfold fromS; rw [if_neg (by omega)]
    have hi : 0 ≤ i ∧ i < (l.Signals.length : Nat) := by omega
    refine (Is.ix hi.1 hi.2).bind fun y hy => ?_
    have hat : atS l i = y.At := by unfold atS; rw [hy]; rfl
    rw [ref07_Joined_eq h.jo, Option.bind_some, ← hat]
    unfold fromS
    rw [if_pos hi]
    cases hj : (joinS l (atS l i)).2 with
    | false => exact Is.val (by rw [if_neg (by simp)])
    | true =>
      rw [if_pos rfl]
      simp only [Bool.not_true, cond_false]
      have hse := search_eq h (joinS l (atS l i)).1 (recFuel + 1) ⟨[]⟩ (joinS l (atS l i)).1 [] (by simp) (by unfold recFuel; simp) (by simp)
      have hse : Is (d_ref12_Paths_search ⟨[]⟩ l (joinS l (atS l i)).1 (joinS l (atS l i)).1 []) _ := hse
      refine hse.bind fun r hr => ?_
      have hr : r.L = pathsS l i := hr
      have hPl := pathsS_len l i
      have hP : ∀ p ∈ pathsS l i, 0 < p.length ∧ p.length ≤ 12 := fun p hp => by
        obtain ⟨⟨s, hs, _⟩, h2, _⟩ := pathsN_fits hp
        exact ⟨lt_of_get hs, h2⟩
      generalize pathsS l i = P at hr hPl hP
      have hN : (((r.L : List (List T_api_Step)).map cellsOf).length) = P.length := by rw [List.length_map, hr]
      refine Is.onInl (θ := fun o => o = .inl ((List.range P.length).map (routeK l i P))) ?_ (fun v hv => ?_) (fun b hb => by cases hb)
      · refine Is.loop (mk := fun k (s : List T_api_Route) => ((k : Int), s)) P.length (fun k s => s = (List.range k).map (routeK l i P)) [] rfl (fun k s hk hI => ?_) (fun s hI => ?_)
        · have hg := pathK_get hk
          have hsl : s.length = k := by rw [hI]; simp
          have hld : xldO r.L (((r.L : List (List T_api_Step)).map cellsOf).length) k = some (pathK P k) := by rw [xldO_eq (by rw [List.length_map]), hr]; exact hg
          have hxi : xixO 0 (((r.L : List (List T_api_Step)).map cellsOf).length) (k : Int) = some k := by rw [xixO_nat 0 (by rw [hN]; exact hk), Nat.zero_add]
          have hp := hP _ (List.mem_of_getElem? hg)
          obtain ⟨s1, e1, e2⟩ := last_ix hp.1 (by omega)
          have hex : exitP l (pathK P k) = -1 ∨ (0 ≤ exitP l (pathK P k) ∧ exitP l (pathK P k) < (l.Signals.length : Nat)) := sigF_rng l.Signals (lastE (pathK P k))
          have hc := cntK_le l i P (exitP l (pathK P k)) k
          have hts := textS_size h i (exitP l (pathK P k))
          simp only [d_ref12_From_0]
          rw [decide_eq_true (by rw [hN]; omega), cond_true, hxi, Option.bind_some, hld, Option.bind_some, e2, Option.bind_some, ends_last h e1, Option.bind_some]
          show Is ((d_ref12_text l i (exitP l (pathK P k))).bind _) _
          rw [text_eq h hi hex, Option.bind_some, ref09_Settings_eq l _ (by omega), Option.bind_some, ref09_Sections_eq l _ (by omega), Option.bind_some, ref09_Length_eq l _ (by omega), Option.bind_some]
          refine (Is.eq (show ixO l.Signals i = some y from ?_)).bind fun y' hy' => ?_
          · have := Is.ix (L := l.Signals) hi.1 hi.2
            obtain ⟨z, z1, z2⟩ := this
            rw [hy] at z2; cases z2; exact z1
          subst hy'
          rw [ref07_Section_z, Option.bind_some]
          refine Is.onInl (From_cnt h hi hP r hr k hk hPl (exitP l (pathK P k)) _ hex) (fun v hv => ?_) (fun b hb => by cases hb)
          cases hv
          refine Is.onInl (θ := fun o => o = .inl (nameK l i P k)) ?_ (fun v hv => ?_) (fun b hb => by cases hb)
          · unfold nameK
            refine Is.cond (fun h1 => ?_) fun h1 => ?_
            · have h1 := of_decide_eq_true h1
              rw [if_pos (by omega)]
              have h4 : dotT.size = 1 := rfl
              refine (Is.sadd (b := dotT) (by rw [h4]; omega)).bind fun M hM => ?_
              have hM1 : M.size ≤ 3000001 := by rw [hM, ByteArray.size_append, h4]; omega
              obtain ⟨d1, d2⟩ := decimal_eq (n := cntK l i P (exitP l (pathK P k)) k) (by omega)
              rw [d1, Option.bind_some]
              refine (Is.sadd (by omega)).bind fun M' hM' => Is.val ?_
              rw [hM', hM]
            · have h1 := of_decide_eq_false h1
              rw [if_neg (by omega)]
              exact Is.val rfl
          · cases hv
            refine (Is.app (by simp only [List.length_cons, List.length_nil, sizeMax, Enc.b]; omega)).bind fun M hM => ?_
            refine Is.val ⟨_, by rw [w64n (by omega)], ?_⟩
            rw [hM, hI, List.range_succ, List.map_append, ← hat]
            rfl
        · simp only [d_ref12_From_0]
          rw [decide_eq_false (by rw [hN]; omega), cond_false]
          exact Is.val (by rw [hI])
      · cases hv
        exact Is.val rfl
  obtain ⟨r, h1, rfl⟩ := this
  exact h1
noncomputable def allS (l : T_api_Layout) : List T_api_Route := (List.range l.Signals.length).flatMap fun i => fromS l (i : Nat)
theorem All_eq {l : T_api_Layout} (h : Sm l) : d_ref12_All l = some (if chk l = 0 then (if 48 < (allS l).length then ([], 2) else (allS l, 0)) else ([], chk l)) := by
  have : Is (d_ref12_All l) fun r => r = (if chk l = 0 then (if 48 < (allS l).length then ([], 2) else (allS l, 0)) else ([], chk l)) := by
    unfold d_ref12_All
    rw [ref07_Check_eq h, Option.bind_some]
    refine Is.ifn dec_iff (fun h0 => Is.val (by rw [if_neg h0])) fun h0 => ?_
    rw [if_pos h0]
    have hsg := h.sg
    refine Is.onInl (θ := fun o => o = .inl (allS l)) ?_ (fun v hv => ?_) (fun b hb => by cases hb)
    · refine Is.loop (mk := fun k (s : List T_api_Route) => ((k : Int), s)) l.Signals.length (fun k s => s = (List.range k).flatMap fun i => fromS l (i : Nat)) [] rfl (fun k s hk hI => ?_) (fun s hI => ?_)
      · have hsl := flatMap_len (fun i : Nat => fromS l (i : Int)) 8192 (List.range k) fun i _ => fromS_len l _
        rw [← hI, List.length_range] at hsl
        have hf := fromS_len l (k : Int)
        simp only [d_ref12_All_0]
        rw [decide_eq_true (by omega), cond_true, From_eq h, Option.bind_some]
        refine (Is.app (by simp only [sizeMax, Enc.b]; omega)).bind fun M hM => ?_
        refine Is.val ⟨_, by rw [w64n (by omega)], ?_⟩
        rw [hM, hI, List.range_succ, List.flatMap_append]; simp
      · simp only [d_ref12_All_0]
        rw [decide_eq_false (by omega), cond_false]
        exact Is.val (by rw [hI]; rfl)
    · cases hv
      refine Is.cond (fun h1 => Is.val ?_) fun h1 => Is.val ?_
      · have h1 := of_decide_eq_true h1
        rw [if_pos (by omega)]
      · have h1 := of_decide_eq_false h1
        rw [if_neg (by omega)]
  obtain ⟨r, h1, rfl⟩ := this
  exact h1
end PM
