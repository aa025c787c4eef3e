/-
  PLAIN, WALK I: the reference's ways, lengths and sections; both sections.
-/
import Derived.Test.YtoadiglkifiofaaDoorWalkH
namespace PM
open Go Go.RowKit

theorem ref09_need_eq (l : T_api_Layout) (s : T_api_Step) : d_ref09_need l s = some (posS l s) := by
  unfold d_ref09_need posS
  rw [ref09_exists_eq]
  simp only [Option.bind_some]
  cases h : hasEl l s.El with
  | false => rfl
  | true =>
    obtain ⟨x, h1, h2⟩ := hasEl_get h
    simp [h1, h2, d_ref06_Need_eq]
theorem ref09_Valid_in (way : List T_api_Step) (h : way.length ≤ 1048576) {i : Nat} {s : T_api_Step} (hs : way[i]? = some s) : Is (loopO (d_ref09_Valid_1 way i) 0) fun o => match o with
    | .inl _ => ∀ k t, k < i → way[k]? = some t → t.El ≠ s.El
    | .inr x => x = .inr (.inr false) ∧ ∃ k t, k < i ∧ way[k]? = some t ∧ t.El = s.El := by
  have hi := lt_of_get hs
  refine Is.loop (mk := fun (i : Nat) (_ : Unit) => (i : Int)) i (fun j _ => ∀ k t, k < j → way[k]? = some t → t.El ≠ s.El) () (fun k t hk => by omega) ?_ ?_
  · rintro j m hj hI
    unfold d_ref09_Valid_1
    refine Is.cond (fun _ => ?_) (fun hb => by simp at hb; omega)
    refine Is.bind (Is.ixn (Nat.lt_trans hj hi)) fun t ht => Is.bind (Is.ixn hi) fun u hu => ?_
    rw [hs] at hu; cases hu
    refine Is.cond (fun hb => ?_) (fun hb => ?_)
    · exact Is.val ⟨rfl, j, t, hj, ht, by simpa using hb⟩
    · refine Is.val ⟨(), by rw [w64n (by omega)], fun k u hk hu => ?_⟩
      by_cases e : k = j
      · subst e; rw [ht] at hu; cases hu; simpa using hb
      · exact hI k u (by omega) hu
  · rintro m hI
    unfold d_ref09_Valid_1
    exact Is.cond (fun hb => by simp at hb) (fun _ => Is.val hI)
theorem ref09_Valid_is (l : T_api_Layout) (way : List T_api_Step) (hl : l.Joints.length ≤ 1048576) (h : way.length ≤ 1048576) : Is (d_ref09_Valid l way) fun b => b = true ↔ ValidP l way := by
  unfold d_ref09_Valid
  refine Is.bind (φ := fun b => b = true ↔ (way.length = 0 ∨ 64 < way.length)) ?_ fun b hb => ?_
  · refine Is.cond (fun hb => Is.val ?_) (fun hb => Is.val ?_)
    · have : ((way.length : Nat) : Int) = 0 := of_decide_eq_true hb
      simp only [true_iff]; omega
    · have : ¬ ((way.length : Nat) : Int) = 0 := of_decide_eq_false hb
      rw [decide_eq_true_iff]; omega
  refine Is.cond (fun hb' => Is.val ?_) (fun hb' => ?_)
  · have := hb.1 hb'
    simp only [Bool.false_eq_true, ValidP, false_iff]
    omega
  · have hlen : ¬ (way.length = 0 ∨ 64 < way.length) := fun e => by rw [hb.2 e] at hb'; cases hb'
    refine Is.onInl (θ := fun o => match o with | .inl _ => ∀ i, i < way.length → goodAt l way i | .inr b => b = false ∧ ∃ i, i < way.length ∧ ¬ goodAt l way i) ?_ ?_ ?_
    · refine Is.loop (mk := fun (i : Nat) (_ : Unit) => (i : Int)) way.length (fun i _ => ∀ j, j < i → goodAt l way j) () (fun j hj => by omega) ?_ ?_
      · rintro i m hi hI
        unfold d_ref09_Valid_0
        refine Is.cond (fun _ => ?_) (fun hb => by simp at hb; omega)
        refine Is.bind (Is.ixn hi) fun s hs => ?_
        rw [ref09_need_eq]
        refine Is.bind (Is.eq rfl) fun r hr => ?_
        subst hr
        refine Is.cond (fun hb => Is.val ⟨rfl, i, hi, ?_⟩) (fun hb => ?_)
        · rintro ⟨s', h1, h2, _⟩
          rw [hs] at h1; cases h1
          rw [h2] at hb; cases hb
        have hpos : (posS l s).2 = true := by simpa using hb
        refine Is.onInl (θ := fun o => match o with | .inl _ => (∀ p, 0 < i → way[i - 1]? = some p → joinS l ⟨p.El, p.Out⟩ = (⟨s.El, s.In⟩, true)) | .inr x => x = .inr (.inr false) ∧ ¬ goodAt l way i) ?_ ?_ ?_
        · refine Is.cond (fun h0 => ?_) (fun h0 => Is.val fun p hp => ?_)
          · have hi0 : 0 < i := by have : (0 : Int) < i := of_decide_eq_true h0
                                   omega
            have e : w64 ((i : Int) - 1) = ((i - 1 : Nat) : Int) := by rw [w64_of (by omega) (by omega)]; omega
            rw [e]
            refine Is.bind (Is.ixn (by omega)) fun p hp => ?_
            rw [ref09_Next_eq hl]
            refine Is.bind (Is.eq rfl) fun r hr => ?_
            subst hr
            refine Is.bind (φ := fun b => b = true ↔ ((joinS l ⟨p.El, p.Out⟩).2 = false ∨ (joinS l ⟨p.El, p.Out⟩).1.El ≠ s.El)) ?_ fun b1 hb1 => ?_
            · refine Is.cond (fun hc => Is.val ?_) (fun hc => ?_)
              · simp at hc; simp [hc]
              · simp at hc
                refine Is.bind (Is.ixn hi) fun u hu => Is.val ?_
                rw [hs] at hu; cases hu
                simp [hc]
            refine Is.bind (φ := fun b => b = true ↔ ((joinS l ⟨p.El, p.Out⟩).2 = false ∨ (joinS l ⟨p.El, p.Out⟩).1.El ≠ s.El ∨ (joinS l ⟨p.El, p.Out⟩).1.Side ≠ s.In)) ?_ fun b2 hb2 => ?_
            · refine Is.cond (fun hc => Is.val ?_) (fun hc => ?_)
              · rcases hb1.1 hc with e | e <;> simp [e]
              · have hc' : ¬ ((joinS l ⟨p.El, p.Out⟩).2 = false ∨ (joinS l ⟨p.El, p.Out⟩).1.El ≠ s.El) := fun e => by rw [hb1.2 e] at hc; cases hc
                refine Is.bind (Is.ixn hi) fun u hu => Is.val ?_
                rw [hs] at hu; cases hu
                have h1 : ¬ (joinS l ⟨p.El, p.Out⟩).2 = false := fun e => hc' (.inl e)
                have h2 : ¬ (joinS l ⟨p.El, p.Out⟩).1.El ≠ s.El := fun e => hc' (.inr e)
                constructor
                · intro e
                  exact .inr (.inr (by simpa using e))
                · rintro (e | e | e)
                  · exact absurd e h1
                  · exact absurd e h2
                  · simpa using e
            refine Is.cond (fun hc => Is.val ⟨rfl, ?_⟩) (fun hc => Is.val fun p' _ hp' => ?_)
            · rintro ⟨s', h1, _, _, h4⟩
              rw [hs] at h1; cases h1
              have := h4 p hi0 hp
              rcases hb2.1 hc with e | e | e
              · rw [this] at e; cases e
              · rw [this] at e; exact e rfl
              · rw [this] at e; exact e rfl
            · rw [hp] at hp'; cases hp'
              have hc' : ¬ ((joinS l ⟨p.El, p.Out⟩).2 = false ∨ (joinS l ⟨p.El, p.Out⟩).1.El ≠ s.El ∨ (joinS l ⟨p.El, p.Out⟩).1.Side ≠ s.In) := fun e => by rw [hb2.2 e] at hc; cases hc
              cases hq : joinS l ⟨p.El, p.Out⟩ with
              | mk e z =>
                cases e
                rw [hq] at hc'
                simp_all
          · have : ¬ (0 : Int) < i := of_decide_eq_false h0
            omega
        · intro v hv
          refine Is.onInl (ref09_Valid_in way h hs) ?_ ?_
          · intro w hw
            refine Is.val ⟨(), by rw [w64n (by omega)], fun j hj => ?_⟩
            by_cases e : j = i
            · subst e; exact ⟨s, hs, hpos, hw, hv⟩
            · exact hI j (by omega)
          · rintro x ⟨rfl, k, t, hk, ht, he⟩
            refine ⟨rfl, i, hi, ?_⟩
            rintro ⟨s', h1, _, h3, _⟩
            rw [hs] at h1; cases h1
            exact h3 k t hk ht he
        · rintro x ⟨rfl, hn⟩
          exact ⟨rfl, i, hi, hn⟩
      · rintro m hI
        unfold d_ref09_Valid_0
        exact Is.cond (fun hb => by simp at hb) (fun _ => Is.val hI)
    · rintro v hv
      refine Is.val ?_
      simp only [true_iff, ValidP]
      exact ⟨by omega, by omega, hv⟩
    · rintro b ⟨rfl, i, hi, hn⟩
      simp only [Bool.false_eq_true, false_iff, ValidP]
      exact fun e => hn (e.2.2 i hi)
theorem ref09_Length_eq (l : T_api_Layout) (way : List T_api_Step) (h : way.length ≤ 1048576) : d_ref09_Length l way = some (w64 (sumL l way)) := by
  unfold d_ref09_Length
  have : Is (loopO (d_ref09_Length_0 l way) (0, 0)) fun o => o = .inl (w64 (sumL l way)) := by
    refine Is.loop (mk := fun (i : Nat) (x : Int) => (x, (i : Int))) way.length (fun i x => x = w64 (sumL l (way.take i))) 0 rfl ?_ ?_
    · rintro i x hi rfl
      unfold d_ref09_Length_0
      refine Is.cond (fun _ => ?_) (fun hb => by simp at hb; omega)
      refine Is.onInl (θ := fun o => o = .inl (w64 (sumL l (way.take (i + 1))))) ?_ ?_ ?_
      · refine Is.bind (Is.ixn hi) fun s hs => ?_
        have e : sumL l (way.take (i + 1)) = sumL l (way.take i) + lenOf l s := by
          rw [take_snoc hs, sumL_append]; simp [sumL]
        rw [ref09_exists_eq]
        refine Is.bind (Is.eq rfl) fun b hb => ?_
        refine Is.cond (fun hb' => ?_) (fun hb' => ?_)
        · subst hb
          refine Is.bind (Is.ixn hi) fun s' hs' => ?_
          rw [hs] at hs'; cases hs'
          obtain ⟨x, h1, h2⟩ := hasEl_get hb'
          refine Is.bind (Is.eq h1) fun y hy => ?_
          subst hy
          refine Is.val ?_
          rw [e, w64_w64]
          simp [lenOf, hb', h2]
        · subst hb
          refine Is.val ?_
          rw [e]
          simp [lenOf, hb']
      · rintro v hv
        cases hv
        exact Is.val ⟨_, by rw [w64n (by omega)], rfl⟩
      · intro b hb; cases hb
    · rintro x rfl
      unfold d_ref09_Length_0
      refine Is.cond (fun hb => by simp at hb) (fun _ => Is.val ?_)
      rw [List.take_length]
  obtain ⟨o, h1, rfl⟩ := this
  simp [h1, onInl, onOut]
def uniqI (L : List Int) : List Int := L.foldl (fun acc x => if x ∈ acc then acc else acc ++ [x]) []
theorem uniqI_snoc (L : List Int) (x : Int) : uniqI (L ++ [x]) = if x ∈ uniqI L then uniqI L else uniqI L ++ [x] := by
  unfold uniqI
  rw [List.foldl_append]
  rfl
theorem uniqI_mem (L : List Int) (y : Int) : y ∈ uniqI L ↔ y ∈ L := by
  induction L using snoc_ind with
  | h0 => simp [uniqI]
  | h1 l x ih =>
    rw [uniqI_snoc]
    split
    · rename_i h
      rw [ih, List.mem_append, List.mem_singleton]
      exact ⟨.inl, fun q => q.elim id fun e => by subst e; exact ih.1 h⟩
    · simp [ih]
theorem uniqI_len (L : List Int) : (uniqI L).length ≤ L.length := by
  induction L using snoc_ind with
  | h0 => simp [uniqI]
  | h1 l x ih =>
    rw [uniqI_snoc]
    split <;> simp <;> omega
def secOf (l : T_api_Layout) (s : T_api_Step) : Option Int := bif hasEl l s.El then (l.Elements[s.El.toNat]?).map (·.Section) else none
def secS (l : T_api_Layout) (way : List T_api_Step) : List Int := uniqI (way.filterMap (secOf l))
theorem secS_snoc (l : T_api_Layout) (way : List T_api_Step) (s : T_api_Step) : secS l (way ++ [s]) = match secOf l s with | some x => if x ∈ secS l way then secS l way else secS l way ++ [x] | none => secS l way := by
  unfold secS
  rw [List.filterMap_append, List.filterMap_cons, List.filterMap_nil]
  cases secOf l s with
  | none => simp
  | some x => rw [uniqI_snoc]
theorem secS_len (l : T_api_Layout) (way : List T_api_Step) : (secS l way).length ≤ way.length := Nat.le_trans (uniqI_len _) (List.length_filterMap_le _ _)
theorem ref09_has_eq (L : List Int) (x : Int) (h : L.length ≤ 1048576) : d_ref09_has L x = some (decide (x ∈ L)) := by
  unfold d_ref09_has
  rw [loop_find (fun y => decide (y = x)) (fun _ => .inr true) (.inl ()) L (by omega)]
  · cases hf : L.find? (fun y => decide (y = x)) with
    | none =>
      have : ¬ x ∈ L := fun hm => by
        have := List.find?_eq_none.1 hf x hm
        simp at this
      simp [this, onInl, onOut]
    | some y =>
      have h1 := List.find?_some hf
      have h2 := List.mem_of_find?_eq_some hf
      simp at h1; subst h1
      simp [h2, onInl, onOut]
  · intro i y hy
    have hi := lt_of_get hy
    simp only [d_ref09_has_0, ixO_nat hy, show decide ((i : Int) < ((L.length : Nat) : Int)) = true by simp; omega, cond_true, Option.bind_some]
  · simp [d_ref09_has_0]
theorem ref09_Sections_eq (l : T_api_Layout) (way : List T_api_Step) (h : way.length ≤ 1000000) : d_ref09_Sections l way = some (secS l way) := by
  unfold d_ref09_Sections
  have : Is (loopO (d_ref09_Sections_0 l way) (0, [])) fun o => o = .inl (secS l way) := by
    refine Is.loop (mk := fun (i : Nat) (m : List Int) => ((i : Int), m)) way.length (fun i m => m = secS l (way.take i)) [] rfl ?_ ?_
    · rintro i m hi rfl
      unfold d_ref09_Sections_0
      refine Is.cond (fun _ => ?_) (fun hb => by simp at hb; omega)
      have hlen : (secS l (way.take i)).length ≤ i := Nat.le_trans (secS_len _ _) (by simp; omega)
      refine Is.onInl (θ := fun o => o = .inl (secS l (way.take (i + 1)))) ?_ ?_ (fun b hb => by cases hb)
      · refine Is.bind (Is.ixn hi) fun s hs => ?_
        rw [ref09_exists_eq, take_snoc hs, secS_snoc]
        refine Is.bind (Is.eq rfl) fun b hb => ?_
        cases hE : hasEl l s.El with
        | false =>
          subst hb
          rw [hE]
          exact Is.val (by simp [secOf, hE])
        | true =>
          subst hb
          rw [hE]
          obtain ⟨x, h1, h2⟩ := hasEl_get hE
          have hso : secOf l s = some x.Section := by simp [secOf, hE, h2]
          rw [hso]
          refine Is.bind (φ := fun b => b = !decide (x.Section ∈ secS l (way.take i))) (Is.cond (fun _ => ?_) (fun e => by cases e)) fun b hb => ?_
          · refine Is.bind (Is.ixn hi) fun s' hs' => ?_
            rw [hs] at hs'; cases hs'
            rw [h1]
            refine Is.bind (Is.eq rfl) fun y hy => ?_
            subst hy
            rw [ref09_has_eq _ _ (by omega)]
            exact Is.val rfl
          · subst hb
            by_cases hm : x.Section ∈ secS l (way.take i)
            · simp only [hm, decide_true, Bool.not_true, cond_false, if_pos]
              exact Is.val rfl
            · simp only [hm, decide_false, Bool.not_false, cond_true, if_false]
              refine Is.bind (Is.ixn hi) fun s' hs' => ?_
              rw [hs] at hs'; cases hs'
              rw [h1]
              refine Is.bind (Is.eq rfl) fun y hy => ?_
              subst hy
              refine Is.bind (Is.app ?_) fun M hM => ?_
              · simp only [List.length_cons, List.length_nil, sizeMax, Enc.b]; omega
              · subst hM; exact Is.val rfl
      · rintro v hv
        cases hv
        exact Is.val ⟨_, by rw [w64n (by omega)], rfl⟩
    · rintro m rfl
      unfold d_ref09_Sections_0
      exact Is.cond (fun hb => by simp at hb) (fun _ => Is.val (by rw [List.take_length]))
  obtain ⟨o, h1, rfl⟩ := this
  simp [h1, onInl, onOut]
theorem mget_mset {κ ν : Type} [Key κ] (m : List (κ × ν)) (k j : κ) (v : ν) : mget (mset k v m) j = if j = k then some v else mget m j := by
  induction m with
  | nil =>
    unfold mset mget
    by_cases e : j = k <;> simp [e]
  | cons x r ih =>
    unfold mset
    split
    · rename_i hk
      subst hk
      unfold mget
      by_cases e : j = x.1 <;> simp [e]
    · rename_i hk
      unfold mget at ih ⊢
      rw [List.find?_cons, List.find?_cons]
      by_cases e : j = x.1
      · simp [e]
        intro q; exact absurd q.symm hk
      · simp only [e, decide_false]
        exact ih
theorem walk_Sections_eq (l : T_api_Layout) (way : List T_api_Step) (h : way.length ≤ 1000000) : d_walk_Sections l way = some (secS l way) := by
  unfold d_walk_Sections
  have : Is (loopO (d_walk_Sections_0 l way) (0, [], [])) fun o => o = .inl (secS l way) := by
    refine Is.loop (mk := fun (i : Nat) (m : List (Int × Bool) × List Int) => ((i : Int), m.1, m.2)) way.length (fun i m => m.2 = secS l (way.take i) ∧ ∀ x, (mget m.1 x).getD false = decide (x ∈ m.2)) ([], []) ⟨rfl, fun x => by simp [mget]⟩ ?_ ?_
    · rintro i ⟨seen, m⟩ hi ⟨hm, hM⟩
      simp only at hm hM
      subst hm
      unfold d_walk_Sections_0
      refine Is.cond (fun _ => ?_) (fun hb => by simp at hb; omega)
      have hlen : (secS l (way.take i)).length ≤ i := Nat.le_trans (secS_len _ _) (by simp; omega)
      refine Is.onInl (θ := fun o => match o with | .inl q => q.1 = secS l (way.take (i + 1)) ∧ ∀ x, (mget q.2 x).getD false = decide (x ∈ q.1) | .inr _ => False) ?_ ?_ (fun b hb => hb.elim)
      · refine Is.bind (Is.ixn hi) fun s hs => ?_
        rw [walk_exists_eq, take_snoc hs, secS_snoc]
        refine Is.bind (Is.eq rfl) fun b hb => ?_
        subst hb
        cases hE : hasEl l s.El with
        | false =>
          refine Is.val ⟨by simp [secOf, hE], hM⟩
        | true =>
          obtain ⟨x, h1, h2⟩ := hasEl_get hE
          have hso : secOf l s = some x.Section := by simp [secOf, hE, h2]
          rw [hso, h1]
          show Is (bif !(mget seen x.Section).getD false then _ else _) _
          simp only [hM]
          by_cases hm : x.Section ∈ secS l (way.take i)
          · simp only [hm, decide_true, Bool.not_true, cond_false, if_pos]
            exact Is.val ⟨rfl, hM⟩
          · simp only [hm, decide_false, Bool.not_false, cond_true, if_false]
            refine Is.bind (Is.app ?_) fun M hM' => ?_
            · simp only [List.length_cons, List.length_nil, sizeMax, Enc.b]; omega
            · subst hM'
              refine Is.val ⟨rfl, fun z => ?_⟩
              rw [mget_mset]
              by_cases e : z = x.Section
              · simp [e]
              · rw [if_neg e, hM]; simp [e]
      · rintro ⟨a, b⟩ ⟨hv, hM'⟩
        exact Is.val ⟨(b, a), by rw [w64n (by omega)], hv, hM'⟩
    · rintro ⟨seen, m⟩ ⟨hm, -⟩
      simp only at hm
      subst hm
      unfold d_walk_Sections_0
      exact Is.cond (fun hb => by simp at hb) (fun _ => Is.val (by rw [List.take_length]))
  obtain ⟨o, h1, rfl⟩ := this
  simp [h1, onInl, onOut]
end PM
