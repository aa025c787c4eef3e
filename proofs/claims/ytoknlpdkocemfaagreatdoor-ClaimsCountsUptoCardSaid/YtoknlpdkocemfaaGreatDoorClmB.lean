/-
  PLAIN, CLAIMS B: which routes are claimed and passed; the statement ClaimsCounts.
-/
import Derived.Test.YtoknlpdkocemfaaGreatDoorClmA
namespace PM
open Go Go.RowKit

def bits (N : Nat) (g : Nat → Bool) : List Bool := (List.range N).map g
theorem bits_len (N : Nat) (g : Nat → Bool) : (bits N g).length = N := by simp [bits]
theorem bits_get {N : Nat} {g : Nat → Bool} {i : Nat} (h : i < N) : (bits N g)[i]? = some (g i) := by simp [bits, h]
theorem bits_congr {N : Nat} {g h : Nat → Bool} (e : ∀ i, i < N → g i = h i) : bits N g = bits N h := by
  unfold bits
  exact List.map_congr_left fun i hi => e i (List.mem_range.1 hi)
theorem bits_set {N : Nat} {g : Nat → Bool} {j : Nat} : (bits N g).set j true = bits N fun i => g i || decide (i = j) := by
  refine List.ext_getElem? fun i => ?_
  rw [List.getElem?_set]
  by_cases hi : i < N
  · rw [bits_get hi, bits_get hi, bits_len]
    by_cases e : j = i
    · rw [if_pos e, if_pos (by omega)]; simp [e]
    · rw [if_neg e, decide_eq_false (show ¬ i = j from fun h => e h.symm), Bool.or_false]
  · rw [List.getElem?_eq_none (by rw [bits_len]; omega), List.getElem?_eq_none (by rw [bits_len]; omega), bits_len]
    split
    · rw [if_neg (by omega)]
    · rfl
theorem bits_rep (N : Nat) : List.replicate N false = bits N fun _ => false := by
  refine List.ext_getElem? fun i => ?_
  rw [List.getElem?_replicate]
  by_cases hi : i < N
  · rw [if_pos hi, bits_get hi]
  · rw [if_neg hi, List.getElem?_eq_none (by rw [bits_len]; omega)]
theorem bits_snoc (N : Nat) (g : Nat → Bool) : bits N g ++ [g N] = bits (N + 1) g := by simp [bits, List.range_succ]
def anyI (rs : List Int) (i : Int) : Bool := rs.any fun r => decide (r = i)
theorem anyI_snoc (a : List Int) (r i : Int) : anyI (a ++ [r]) i = (anyI a i || decide (r = i)) := by simp [anyI]
def anyK (f : T_api_Track → List Int) (l : List T_api_Track) (i : Int) : Bool := l.any fun k => anyI (f k) i
theorem anyK_snoc (f : T_api_Track → List Int) (a : List T_api_Track) (k : T_api_Track) (i : Int) : anyK f (a ++ [k]) i = (anyK f a i || anyI (f k) i) := by simp [anyK]
def cntS (f : T_api_Track → List Int) (l : List T_api_Track) (n : Int) : List Bool := if n < 0 ∨ 48 < n then [] else bits n.toNat fun i => anyK f l (i : Int)
theorem Has_eq {L : List Int} (h : L.length ≤ 1048576) (x : Int) : d_ref40_Has L x = some (anyI L x) := by
  unfold d_ref40_Has
  rw [loop_find (fun r => decide (r = x)) (fun _ => .inr true) (.inl ()) L (by omega)]
  · unfold anyI
    cases hf : L.find? (fun r => decide (r = x)) with
    | none =>
      have : L.any (fun r => decide (r = x)) = false := by
        rw [List.any_eq_false]; intro y hy; have := List.find?_eq_none.1 hf y hy; simpa using this
      rw [this]; rfl
    | some y =>
      have : L.any (fun r => decide (r = x)) = true := List.any_eq_true.2 ⟨y, List.mem_of_find?_eq_some hf, by simpa using List.find?_some hf⟩
      rw [this]; rfl
  · intro i y hy
    have hi := lt_of_get hy
    simp only [d_ref40_Has_0, ixO_nat hy, show decide ((i : Int) < ((L.length : Nat) : Int)) = true by simp; omega, cond_true, Option.bind_some]
  · simp [d_ref40_Has_0]
theorem law40_same_refl {L : List Bool} (h : L.length ≤ 1048576) : d_law40_same L L = some true := by
  suffices Is (d_law40_same L L) fun r => r = true by obtain ⟨r, h, rfl⟩ := this; exact h
  unfold d_law40_same
  rw [decide_eq_true rfl]
  simp only [Bool.not_true, cond_false]
  refine Is.all (L := L) (fun _ _ => True) () (by omega) (fun i x hx hi _ => ?_) (by simp [d_law40_same_0]) (fun _ => Is.val rfl)
  unfold d_law40_same_0
  refine Is.inb hi (Is.at hx (Is.at hx ?_))
  rw [beq_self_eq_true]
  exact Is.val ⟨rfl, trivial⟩

theorem among_inClaimed {N : Nat} {x1 : List Bool} (hx : x1.length = N) {rs : List Int} (h : rs.length ≤ 1048576) (g : Nat → Bool) :
    loopO (d_claims_among_1 (N : Int) x1 rs) (0, bits N g) = some (.inl (bits N fun i => g i || anyI rs (i : Int))) := by
  suffices Is (loopO (d_claims_among_1 (N : Int) x1 rs) (0, bits N g)) fun z => z = .inl (bits N fun i => g i || anyI rs (i : Int)) by obtain ⟨z, h, rfl⟩ := this; exact h
  have hmap : (x1.map cellsOf).length = N := by rw [List.length_map, hx]
  refine Is.loop (mk := fun (k : Nat) (m : List Bool) => ((k : Int), m)) rs.length (fun k m => m = bits N fun i => g i || anyI (rs.take k) (i : Int)) (bits N g) (bits_congr fun i _ => by simp [anyI]) (fun k m hk hI => ?_) (fun m hI => ?_)
  · subst hI
    have hr : rs[k]? = some rs[k] := List.getElem?_eq_getElem hk
    generalize rs[k] = r at hr
    unfold d_claims_among_1
    refine Is.inb hk ?_
    refine Is.onInl (θ := fun z => z = .inl (bits N fun i => g i || anyI (rs.take (k + 1)) (i : Int))) (Is.at hr ?_) (fun v hv => Is.val ⟨_, by cases hv; rw [w64n (by omega)], rfl⟩) (fun b hb => by cases hb)
    rw [hmap]
    refine Is.ite (p := 0 ≤ r ∧ r < (N : Int)) (by simp) (fun hc => ?_) (fun hc => Is.val ?_)
    · have e1 : xixO 0 N r = some r.toNat := by unfold xixO; rw [if_pos hc]; simp
      have hlt : r.toNat < N := by omega
      rw [e1]
      simp only [Option.bind_some]
      have e2 : xldO (bits N fun i => g i || anyI (rs.take k) (i : Int)) N r.toNat = some (g r.toNat || anyI (rs.take k) (r.toNat : Int)) := by unfold xldO; rw [if_pos (bits_len _ _), bits_get hlt]
      rw [e2]
      refine Is.val ?_
      rw [bits_set]
      congr 1
      refine bits_congr fun i _ => ?_
      rw [take_get hr, anyI_snoc, Bool.or_assoc]
      congr 2
      exact decide_eq_decide.2 (by omega)
    · congr 1
      refine bits_congr fun i hi => ?_
      rw [take_get hr, anyI_snoc, decide_eq_false (show ¬ r = (i : Int) by omega), Bool.or_false]
  · subst hI
    unfold d_claims_among_1
    refine Is.oub (Is.val ?_)
    rw [List.take_length]
theorem Claimed_eq {l : List T_api_Track} (hl : l.length ≤ 20) (hk : ∀ k ∈ l, (k.Routes).length ≤ 80) (n : Int) : d_claims_Claimed l n = some (cntS (·.Routes) l n) := by
  suffices Is (d_claims_Claimed l n) fun r => r = cntS (·.Routes) l n by obtain ⟨r, h, rfl⟩ := this; exact h
  unfold d_claims_Claimed d_claims_among__claims_Claimed_c1 cntS
  refine Is.bind (φ := fun r => r = if n < 0 ∨ 48 < n then [] else bits n.toNat fun i => anyK (·.Routes) l (i : Int)) ?_ fun r hr => Is.val hr
  refine Is.ite (p := n < 0 ∨ 48 < n) (by simp) (fun hc => Is.val (by rw [if_pos hc])) (fun hc => ?_)
  rw [if_neg hc]
  obtain ⟨N, rfl⟩ : ∃ N : Nat, n = (N : Int) := ⟨n.toNat, by omega⟩
  have e0 : mkxO (N : Int) (N : Int) 1 (false : Bool) = some (bits N fun _ => false) := by
    unfold mkxO
    rw [if_pos (by simp only [sizeMax]; omega), Int.toNat_natCast, bits_rep]
  rw [e0, Int.toNat_natCast]
  simp only [Option.bind_some]
  refine Is.fold (L := l) (mk := fun i (m : List Bool) => (i, m)) (fun j m => m = bits N fun i => anyK (·.Routes) (l.take j) (i : Int)) (bits N fun _ => false) (by omega) (bits_congr fun i _ => by simp [anyK]) (fun j k m hkj hj hI => ?_) (fun m hI => ?_)
  · subst hI
    unfold d_claims_among_0
    refine Is.inb hj (Is.at hkj ?_)
    simp only [d_claims_Claimed_c1, Option.bind_some]
    have := hk k (List.mem_of_getElem? hkj)
    rw [among_inClaimed (bits_len _ _) (by omega)]
    refine Is.val ⟨_, rfl, ?_⟩
    refine bits_congr fun i _ => ?_
    rw [take_get hkj, anyK_snoc]
  · subst hI
    unfold d_claims_among_0
    refine Is.oub (Is.val ?_)
    rw [List.take_length]
    exact Is.val rfl
theorem refClaimed_in {l : List T_api_Track} (hl : l.length ≤ 20) (hk : ∀ k ∈ l, (k.Routes).length ≤ 80) (x : Int) : loopO (d_ref40_Claimed_1 l x) (false, 0) = some (.inl (anyK (·.Routes) l x)) := by
  suffices Is (loopO (d_ref40_Claimed_1 l x) (false, 0)) fun z => z = .inl (anyK (·.Routes) l x) by obtain ⟨z, h, rfl⟩ := this; exact h
  refine Is.loop (mk := fun (j : Nat) (m : Bool) => (m, (j : Int))) l.length (fun j m => m = anyK (·.Routes) (l.take j) x) false (by simp [anyK]) (fun j m hj hI => ?_) (fun m hI => ?_)
  · subst hI
    have hg : l[j]? = some l[j] := List.getElem?_eq_getElem hj
    generalize l[j] = k at hg
    have := hk k (List.mem_of_getElem? hg)
    unfold d_ref40_Claimed_1
    refine Is.inb hj (Is.at hg ?_)
    rw [Has_eq (by omega)]
    simp only [Option.bind_some, cond_opt, Bool.cond_true_left]
    refine Is.val ⟨_, by rw [w64n (by omega)], ?_⟩
    rw [take_get hg, anyK_snoc]
  · subst hI
    unfold d_ref40_Claimed_1
    refine Is.oub (Is.val ?_)
    rw [List.take_length]
theorem refClaimed_eq {l : List T_api_Track} (hl : l.length ≤ 20) (hk : ∀ k ∈ l, (k.Routes).length ≤ 80) (n : Int) : d_ref40_Claimed l n = some (cntS (·.Routes) l n) := by
  suffices Is (d_ref40_Claimed l n) fun r => r = cntS (·.Routes) l n by obtain ⟨r, h, rfl⟩ := this; exact h
  unfold d_ref40_Claimed cntS
  by_cases hc : n < 0 ∨ 48 < n
  · rw [if_pos hc, loop_done (r := .inl []) (by
      unfold d_ref40_Claimed_0
      simp only
      rw [show (decide ((0 : Int) < n) && decide (n ≤ 48)) = false by simp; omega]; rfl)]
    exact Is.val rfl
  · rw [if_neg hc]
    obtain ⟨N, rfl⟩ : ∃ N : Nat, n = (N : Int) := ⟨n.toNat, by omega⟩
    rw [Int.toNat_natCast]
    refine Is.onInl (θ := fun z => z = .inl (bits N fun i => anyK (·.Routes) l (i : Int))) ?_ (fun v hv => Is.val (by cases hv; rfl)) (fun b hb => by cases hb)
    refine Is.loop (mk := fun (j : Nat) (m : List Bool) => ((j : Int), m)) N (fun j m => m = bits j fun i => anyK (·.Routes) l (i : Int)) [] rfl (fun j m hj hI => ?_) (fun m hI => ?_)
    · subst hI
      unfold d_ref40_Claimed_0
      simp only
      rw [show (decide ((j : Int) < (N : Int)) && decide ((N : Int) ≤ 48)) = true by simp; omega, cond_true]
      rw [refClaimed_in hl hk]
      refine Is.onInl (θ := fun z => z = .inl (anyK (·.Routes) l (j : Int))) ⟨_, rfl, rfl⟩ (fun v hv => ?_) (fun b hb => by cases hb)
      cases hv
      have := bits_len j fun i => anyK (·.Routes) l (i : Int)
      refine Is.bind (Is.app ?_) fun M hM => Is.val ⟨_, by rw [w64n (by omega)], ?_⟩
      · simp only [List.length_cons, List.length_nil, sizeMax, Enc.b]; omega
      · rw [hM, bits_snoc j fun i => anyK (·.Routes) l (i : Int)]
    · subst hI
      unfold d_ref40_Claimed_0
      simp only
      rw [show (decide ((N : Int) < (N : Int)) && decide ((N : Int) ≤ 48)) = false by simp]
      exact Is.val rfl

theorem among_inPassed {N : Nat} {x1 : List Bool} (hx : x1.length = N) {rs : List Int} (h : rs.length ≤ 1048576) (g : Nat → Bool) :
    loopO (d_claims_among__claims_Passed_c1_1 (N : Int) x1 rs) (0, bits N g) = some (.inl (bits N fun i => g i || anyI rs (i : Int))) := by
  suffices Is (loopO (d_claims_among__claims_Passed_c1_1 (N : Int) x1 rs) (0, bits N g)) fun z => z = .inl (bits N fun i => g i || anyI rs (i : Int)) by obtain ⟨z, h, rfl⟩ := this; exact h
  have hmap : (x1.map cellsOf).length = N := by rw [List.length_map, hx]
  refine Is.loop (mk := fun (k : Nat) (m : List Bool) => ((k : Int), m)) rs.length (fun k m => m = bits N fun i => g i || anyI (rs.take k) (i : Int)) (bits N g) (bits_congr fun i _ => by simp [anyI]) (fun k m hk hI => ?_) (fun m hI => ?_)
  · subst hI
    have hr : rs[k]? = some rs[k] := List.getElem?_eq_getElem hk
    generalize rs[k] = r at hr
    unfold d_claims_among__claims_Passed_c1_1
    refine Is.inb hk ?_
    refine Is.onInl (θ := fun z => z = .inl (bits N fun i => g i || anyI (rs.take (k + 1)) (i : Int))) (Is.at hr ?_) (fun v hv => Is.val ⟨_, by cases hv; rw [w64n (by omega)], rfl⟩) (fun b hb => by cases hb)
    rw [hmap]
    refine Is.ite (p := 0 ≤ r ∧ r < (N : Int)) (by simp) (fun hc => ?_) (fun hc => Is.val ?_)
    · have e1 : xixO 0 N r = some r.toNat := by unfold xixO; rw [if_pos hc]; simp
      have hlt : r.toNat < N := by omega
      rw [e1]
      simp only [Option.bind_some]
      have e2 : xldO (bits N fun i => g i || anyI (rs.take k) (i : Int)) N r.toNat = some (g r.toNat || anyI (rs.take k) (r.toNat : Int)) := by unfold xldO; rw [if_pos (bits_len _ _), bits_get hlt]
      rw [e2]
      refine Is.val ?_
      rw [bits_set]
      congr 1
      refine bits_congr fun i _ => ?_
      rw [take_get hr, anyI_snoc, Bool.or_assoc]
      congr 2
      exact decide_eq_decide.2 (by omega)
    · congr 1
      refine bits_congr fun i hi => ?_
      rw [take_get hr, anyI_snoc, decide_eq_false (show ¬ r = (i : Int) by omega), Bool.or_false]
  · subst hI
    unfold d_claims_among__claims_Passed_c1_1
    refine Is.oub (Is.val ?_)
    rw [List.take_length]
theorem Passed_eq {l : List T_api_Track} (hl : l.length ≤ 20) (hk : ∀ k ∈ l, (k.Done).length ≤ 80) (n : Int) : d_claims_Passed l n = some (cntS (·.Done) l n) := by
  suffices Is (d_claims_Passed l n) fun r => r = cntS (·.Done) l n by obtain ⟨r, h, rfl⟩ := this; exact h
  unfold d_claims_Passed d_claims_among__claims_Passed_c1 cntS
  refine Is.bind (φ := fun r => r = if n < 0 ∨ 48 < n then [] else bits n.toNat fun i => anyK (·.Done) l (i : Int)) ?_ fun r hr => Is.val hr
  refine Is.ite (p := n < 0 ∨ 48 < n) (by simp) (fun hc => Is.val (by rw [if_pos hc])) (fun hc => ?_)
  rw [if_neg hc]
  obtain ⟨N, rfl⟩ : ∃ N : Nat, n = (N : Int) := ⟨n.toNat, by omega⟩
  have e0 : mkxO (N : Int) (N : Int) 1 (false : Bool) = some (bits N fun _ => false) := by
    unfold mkxO
    rw [if_pos (by simp only [sizeMax]; omega), Int.toNat_natCast, bits_rep]
  rw [e0, Int.toNat_natCast]
  simp only [Option.bind_some]
  refine Is.fold (L := l) (mk := fun i (m : List Bool) => (i, m)) (fun j m => m = bits N fun i => anyK (·.Done) (l.take j) (i : Int)) (bits N fun _ => false) (by omega) (bits_congr fun i _ => by simp [anyK]) (fun j k m hkj hj hI => ?_) (fun m hI => ?_)
  · subst hI
    unfold d_claims_among__claims_Passed_c1_0
    refine Is.inb hj (Is.at hkj ?_)
    simp only [d_claims_Passed_c1, Option.bind_some]
    have := hk k (List.mem_of_getElem? hkj)
    rw [among_inPassed (bits_len _ _) (by omega)]
    refine Is.val ⟨_, rfl, ?_⟩
    refine bits_congr fun i _ => ?_
    rw [take_get hkj, anyK_snoc]
  · subst hI
    unfold d_claims_among__claims_Passed_c1_0
    refine Is.oub (Is.val ?_)
    rw [List.take_length]
    exact Is.val rfl
theorem refPassed_in {l : List T_api_Track} (hl : l.length ≤ 20) (hk : ∀ k ∈ l, (k.Done).length ≤ 80) (x : Int) : loopO (d_ref40_Passed_1 l x) (false, 0) = some (.inl (anyK (·.Done) l x)) := by
  suffices Is (loopO (d_ref40_Passed_1 l x) (false, 0)) fun z => z = .inl (anyK (·.Done) l x) by obtain ⟨z, h, rfl⟩ := this; exact h
  refine Is.loop (mk := fun (j : Nat) (m : Bool) => (m, (j : Int))) l.length (fun j m => m = anyK (·.Done) (l.take j) x) false (by simp [anyK]) (fun j m hj hI => ?_) (fun m hI => ?_)
  · subst hI
    have hg : l[j]? = some l[j] := List.getElem?_eq_getElem hj
    generalize l[j] = k at hg
    have := hk k (List.mem_of_getElem? hg)
    unfold d_ref40_Passed_1
    refine Is.inb hj (Is.at hg ?_)
    rw [Has_eq (by omega)]
    simp only [Option.bind_some, cond_opt, Bool.cond_true_left]
    refine Is.val ⟨_, by rw [w64n (by omega)], ?_⟩
    rw [take_get hg, anyK_snoc]
  · subst hI
    unfold d_ref40_Passed_1
    refine Is.oub (Is.val ?_)
    rw [List.take_length]
theorem refPassed_eq {l : List T_api_Track} (hl : l.length ≤ 20) (hk : ∀ k ∈ l, (k.Done).length ≤ 80) (n : Int) : d_ref40_Passed l n = some (cntS (·.Done) l n) := by
  suffices Is (d_ref40_Passed l n) fun r => r = cntS (·.Done) l n by obtain ⟨r, h, rfl⟩ := this; exact h
  unfold d_ref40_Passed cntS
  by_cases hc : n < 0 ∨ 48 < n
  · rw [if_pos hc, loop_done (r := .inl []) (by
      unfold d_ref40_Passed_0
      simp only
      rw [show (decide ((0 : Int) < n) && decide (n ≤ 48)) = false by simp; omega]; rfl)]
    exact Is.val rfl
  · rw [if_neg hc]
    obtain ⟨N, rfl⟩ : ∃ N : Nat, n = (N : Int) := ⟨n.toNat, by omega⟩
    rw [Int.toNat_natCast]
    refine Is.onInl (θ := fun z => z = .inl (bits N fun i => anyK (·.Done) l (i : Int))) ?_ (fun v hv => Is.val (by cases hv; rfl)) (fun b hb => by cases hb)
    refine Is.loop (mk := fun (j : Nat) (m : List Bool) => ((j : Int), m)) N (fun j m => m = bits j fun i => anyK (·.Done) l (i : Int)) [] rfl (fun j m hj hI => ?_) (fun m hI => ?_)
    · subst hI
      unfold d_ref40_Passed_0
      simp only
      rw [show (decide ((j : Int) < (N : Int)) && decide ((N : Int) ≤ 48)) = true by simp; omega, cond_true]
      rw [refPassed_in hl hk]
      refine Is.onInl (θ := fun z => z = .inl (anyK (·.Done) l (j : Int))) ⟨_, rfl, rfl⟩ (fun v hv => ?_) (fun b hb => by cases hb)
      cases hv
      have := bits_len j fun i => anyK (·.Done) l (i : Int)
      refine Is.bind (Is.app ?_) fun M hM => Is.val ⟨_, by rw [w64n (by omega)], ?_⟩
      · simp only [List.length_cons, List.length_nil, sizeMax, Enc.b]; omega
      · rw [hM, bits_snoc j fun i => anyK (·.Done) l (i : Int)]
    · subst hI
      unfold d_ref40_Passed_0
      simp only
      rw [show (decide ((N : Int) < (N : Int)) && decide ((N : Int) ≤ 48)) = false by simp]
      exact Is.val rfl

theorem cntS_len (f : T_api_Track → List Int) (l : List T_api_Track) (n : Int) : (cntS f l n).length ≤ 48 := by
  unfold cntS; split
  · simp
  · rw [bits_len]; omega
theorem claimsCounts_law (l : List T_api_Track) (n : Int) : d_law40_ClaimsCounts l n = some true := by
  suffices Is (d_law40_ClaimsCounts l n) fun r => r = true by obtain ⟨r, h, rfl⟩ := this; exact h
  unfold d_law40_ClaimsCounts
  refine Is.ite (p := 20 < l.length) (by rw [decide_eq_true_iff]; omega) (fun _ => by rw [law40_alive_eq]; exact Is.val rfl) fun hl => ?_
  refine Is.all (L := l) (fun _ k => k.Routes.length ≤ 80 ∧ k.Done.length ≤ 80) () (by omega) (fun i k hk hi _ => ?_) (by simp [d_law40_ClaimsCounts_0]) (fun ha => ?_)
  · unfold d_law40_ClaimsCounts_0
    refine Is.inb hi (Is.at hk ?_)
    refine Is.bind (Is.or (p := 80 < k.Routes.length) (q := 80 < k.Done.length) (by rw [decide_eq_true_iff]; omega) fun _ => Is.dec (by omega)) fun b hb => Is.ite hb (fun _ => ?_) (fun hn => Is.val ⟨rfl, by omega⟩)
    rw [law40_alive_eq]; exact Is.val rfl
  · have h1 : ∀ k ∈ l, k.Routes.length ≤ 80 := fun k hk => (mem_iff_get.1 ha k hk).1
    have h2 : ∀ k ∈ l, k.Done.length ≤ 80 := fun k hk => (mem_iff_get.1 ha k hk).2
    have q1 := cntS_len (·.Routes) l n
    have q2 := cntS_len (·.Done) l n
    rw [Claimed_eq (by omega) h1, refClaimed_eq (by omega) h1, Passed_eq (by omega) h2, refPassed_eq (by omega) h2]
    simp only [Option.bind_some, law40_same_refl (show (cntS (·.Routes) l n).length ≤ 1048576 by omega), law40_same_refl (show (cntS (·.Done) l n).length ≤ 1048576 by omega), cond_true, law40_alive_eq]
    exact Is.val rfl
end PM
