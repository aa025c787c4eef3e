/-
  PLAIN, WALK D: the reference's check of a layout comes to a value; if it is 0, the ends of all joints exist.
-/
import Derived.Test.YtnnhdhijidpfkaaDoorWalkC
namespace PM
open Go Go.RowKit

theorem ref06_Sides_eq (a0 : Int) : d_ref06_Sides a0 = some (sidesS a0) := by
  unfold d_ref06_Sides sidesS
  simp [Bool.cond_eq_ite]
  (repeat' split) <;> simp_all
def exS (l : T_api_Layout) (e : T_api_End) : Bool :=
  hasEl l e.El && decide (0 ≤ e.Side) && (match l.Elements[e.El.toNat]? with | some x => decide (e.Side < sidesS x.Kind) | none => false)
theorem ref07_exists_eq (l : T_api_Layout) (e : T_api_End) : d_ref07_exists l e = some (exS l e) := by
  unfold d_ref07_exists exS
  have h1 : ((bif decide (0 ≤ e.El) then (some (decide (e.El < ((l.Elements.length : Nat) : Int)))) else some false) : Option Bool) = some (hasEl l e.El) := by
    unfold hasEl; cases decide (0 ≤ e.El) <;> simp
  rw [h1]
  simp only [Option.bind_some]
  cases h : hasEl l e.El with
  | false => rfl
  | true =>
    obtain ⟨x, h2, h3⟩ := hasEl_get h
    cases decide (0 ≤ e.Side) with
    | false => rfl
    | true => simp [h2, h3, ref06_Sides_eq]
theorem or_is {b : Bool} {y : Option Bool} (h : Is y fun _ => True) : Is ((bif b then some true else y) : Option Bool) fun _ => True := Is.cond (fun _ => Is.val trivial) (fun _ => h)
theorem and_is {b : Bool} {y : Option Bool} (h : b = true → Is y fun _ => True) : Is ((bif b then y else some false) : Option Bool) fun _ => True := Is.cond h (fun _ => Is.val trivial)
theorem ref05_Name_is (s : ByteArray) (h : s.size ≤ 1048576) : Is (d_ref05_Name s) fun _ => True := by
  unfold d_ref05_Name
  refine Is.onInl (θ := fun _ => True) ?_ (fun _ _ => Is.val trivial) (fun _ _ => trivial)
  refine Is.loop (mk := fun (i : Nat) (_ : Unit) => (i : Int)) s.size (fun _ _ => True) () trivial ?_ ?_
  · rintro i m hi -
    unfold d_ref05_Name_0
    refine Is.cond (fun _ => ?_) (fun hb => by simp at hb; omega)
    refine Is.bind (Is.six hi) fun c _ => ?_
    refine Is.bind (and_is fun _ => Is.bind (Is.six hi) fun _ _ => Is.val trivial) fun b _ => ?_
    refine Is.bind (Is.six hi) fun c _ => ?_
    refine Is.bind (and_is fun _ => Is.bind (Is.six hi) fun _ _ => Is.val trivial) fun b _ => ?_
    refine Is.bind (or_is (Is.bind (Is.six hi) fun _ _ => Is.val trivial)) fun b _ => ?_
    exact Is.cond (fun _ => Is.val trivial) (fun _ => Is.val ⟨(), by rw [w64n (by omega)], trivial⟩)
  · rintro m -
    unfold d_ref05_Name_0
    exact Is.cond (fun hb => by simp at hb) (fun _ => Is.val trivial)
theorem ref07_texts_is (L : List ByteArray) (h : L.length ≤ 4194304) : Is (d_ref07_texts L) fun _ => True := by
  unfold d_ref07_texts
  refine Is.onInl (θ := fun _ => True) ?_ (fun _ _ => Is.val trivial) (fun _ _ => trivial)
  refine Is.loop (mk := fun (i : Nat) (_ : Unit) => (i : Int)) L.length (fun _ _ => True) () trivial ?_ ?_
  · rintro i m hi -
    unfold d_ref07_texts_0
    refine Is.cond (fun _ => ?_) (fun hb => by simp at hb; omega)
    refine Is.onInl (θ := fun o => match o with | .inl _ => True | .inr x => ∃ y, x = .inr y) ?_ (fun _ _ => Is.val ⟨(), by rw [w64n (by omega)], trivial⟩) ?_
    · refine Is.loop (mk := fun (i : Nat) (_ : Unit) => (i : Int)) i (fun _ _ => True) () trivial ?_ ?_
      · rintro k m hk -
        unfold d_ref07_texts_1
        refine Is.cond (fun _ => ?_) (fun hb => by simp at hb; omega)
        refine Is.bind (Is.ixn hi) fun x hx => Is.bind (Is.ixn (Nat.lt_trans hk hi)) fun y hy => ?_
        exact Is.cond (fun _ => Is.val ⟨_, rfl⟩) (fun _ => Is.val ⟨(), by rw [w64n (by omega)], trivial⟩)
      · rintro m -
        unfold d_ref07_texts_1
        exact Is.cond (fun hb => by simp at hb) (fun _ => Is.val trivial)
    · rintro x ⟨y, rfl⟩; trivial
  · rintro m -
    unfold d_ref07_texts_0
    exact Is.cond (fun hb => by simp at hb) (fun _ => Is.val trivial)
theorem nodup_snoc {α : Type} {l : List α} {x : α} : (l ++ [x]).Nodup ↔ l.Nodup ∧ ∀ y ∈ l, y ≠ x := by
  rw [List.nodup_append]
  simp
theorem take_snoc {α : Type} {L : List α} {i : Nat} {x : α} (h : L[i]? = some x) : L.take (i + 1) = L.take i ++ [x] := by rw [List.take_add_one, h]; rfl
theorem ref07_ends_is (L : List T_api_End) (h : L.length ≤ 4194304) : Is (d_ref07_ends L) fun b => b = false ↔ L.Nodup := by
  unfold d_ref07_ends
  refine Is.onInl (θ := fun o => match o with | .inl _ => L.Nodup | .inr b => b = true ∧ ¬ L.Nodup) (ψ := fun b => b = false ↔ L.Nodup) ?_ (fun _ hv => Is.val ⟨fun _ => hv, fun _ => rfl⟩) (fun b hb => show b = false ↔ L.Nodup from ?_)
  · refine Is.loop (mk := fun (i : Nat) (_ : Unit) => (i : Int)) L.length (fun i _ => (L.take i).Nodup) () (by simp) ?_ ?_
    · rintro i m hi hI
      unfold d_ref07_ends_0
      refine Is.cond (fun _ => ?_) (fun hb => by simp at hb; omega)
      refine Is.onInl (θ := fun o => match o with | .inl _ => (L.take (i + 1)).Nodup | .inr x => x = .inr (.inr true) ∧ ¬ L.Nodup) ?_ (fun _ hv => Is.val ⟨(), by rw [w64n (by omega)], hv⟩) ?_
      · refine Is.loop (mk := fun (i : Nat) (_ : Unit) => (i : Int)) i (fun k _ => ∀ j y z, j < k → L[j]? = some y → L[i]? = some z → y ≠ z) () (fun j y z hj => by omega) ?_ ?_
        · rintro k m hk hK
          unfold d_ref07_ends_1
          refine Is.cond (fun _ => ?_) (fun hb => by simp at hb; omega)
          refine Is.bind (Is.ixn hi) fun x hx => Is.bind (Is.ixn (Nat.lt_trans hk hi)) fun y hy => ?_
          refine Is.cond (fun hb => Is.val ⟨rfl, fun hn => ?_⟩) (fun hb => Is.val ⟨(), by rw [w64n (by omega)], fun j u z hj hu hz => ?_⟩)
          · rw [eqEnd_iff] at hb
            subst hb
            obtain ⟨h1, h2⟩ := List.getElem?_eq_some_iff.1 hx
            obtain ⟨h3, h4⟩ := List.getElem?_eq_some_iff.1 hy
            exact List.pairwise_iff_getElem.1 hn k i h3 h1 hk (h4.trans h2.symm)
          · by_cases e : j = k
            · subst e
              rw [hy] at hu; rw [hx] at hz
              injection hu with hu
              injection hz with hz
              intro e
              rw [(eqEnd_iff x y).2 (hz.trans (e.symm.trans hu.symm))] at hb; cases hb
            · exact hK j u z (by omega) hu hz
        · rintro m hK
          unfold d_ref07_ends_1
          refine Is.cond (fun hb => by simp at hb) (fun _ => Is.val ?_)
          obtain ⟨x, hx⟩ : ∃ x, L[i]? = some x := ⟨L[i], List.getElem?_eq_getElem hi⟩
          show (L.take (i + 1)).Nodup
          rw [take_snoc hx, nodup_snoc]
          refine ⟨hI, fun y hy => ?_⟩
          obtain ⟨k, hk⟩ := List.getElem?_of_mem hy
          rw [List.getElem?_take] at hk
          split at hk
          · rename_i hki; exact hK k y x hki hk hx
          · cases hk
      · rintro x ⟨rfl, hn⟩
        exact ⟨rfl, hn⟩
    · rintro m hI
      unfold d_ref07_ends_0
      refine Is.cond (fun hb => by simp at hb) (fun _ => Is.val ?_)
      rw [List.take_length] at hI; exact hI
  · have hb : b = true ∧ ¬ L.Nodup := hb
    exact Iff.intro (fun e => by rw [hb.1] at e; cases e) (fun e => absurd e hb.2)
theorem ref07_numbers_is (L : List Int) (h : L.length ≤ 4194304) : Is (d_ref07_numbers L) fun _ => True := by
  unfold d_ref07_numbers
  refine Is.onInl (θ := fun _ => True) ?_ (fun _ _ => Is.val trivial) (fun _ _ => trivial)
  refine Is.loop (mk := fun (i : Nat) (_ : Unit) => (i : Int)) L.length (fun _ _ => True) () trivial ?_ ?_
  · rintro i m hi -
    unfold d_ref07_numbers_0
    refine Is.cond (fun _ => ?_) (fun hb => by simp at hb; omega)
    refine Is.onInl (θ := fun o => match o with | .inl _ => True | .inr x => ∃ y, x = .inr y) ?_ (fun _ _ => Is.val ⟨(), by rw [w64n (by omega)], trivial⟩) ?_
    · refine Is.loop (mk := fun (i : Nat) (_ : Unit) => (i : Int)) i (fun _ _ => True) () trivial ?_ ?_
      · rintro k m hk -
        unfold d_ref07_numbers_1
        refine Is.cond (fun _ => ?_) (fun hb => by simp at hb; omega)
        refine Is.bind (Is.ixn hi) fun x hx => Is.bind (Is.ixn (Nat.lt_trans hk hi)) fun y hy => ?_
        exact Is.cond (fun _ => Is.val ⟨_, rfl⟩) (fun _ => Is.val ⟨(), by rw [w64n (by omega)], trivial⟩)
      · rintro m -
        unfold d_ref07_numbers_1
        exact Is.cond (fun hb => by simp at hb) (fun _ => Is.val trivial)
    · rintro x ⟨y, rfl⟩; trivial
  · rintro m -
    unfold d_ref07_numbers_0
    exact Is.cond (fun hb => by simp at hb) (fun _ => Is.val trivial)
theorem ref07_names_is {l : T_api_Layout} (h : Sm l) : Is (d_ref07_names l) fun r => r.x0 = l.Sections ∧ r.x1 = l.Elements.map (·.Name) ∧ r.x2 = l.Signals.map (·.Name) := by
  unfold d_ref07_names
  have h1 := h.sec; have h2 := h.el; have h3 := h.sg
  refine Is.bind (Is.app (by simp only [List.length_nil, sizeMax, Enc.b]; omega)) fun x1 hx1 => ?_
  refine Is.onInl (θ := fun o => o = .inl (l.Elements.map (·.Name))) ?_ ?_ (fun b hb => by cases hb)
  · refine Is.loop (mk := fun (i : Nat) (m : List ByteArray) => ((i : Int), m)) l.Elements.length (fun i m => m = (l.Elements.take i).map (·.Name)) [] rfl ?_ ?_
    · rintro i m hi rfl
      unfold d_ref07_names_0
      refine Is.cond (fun _ => ?_) (fun hb => by simp at hb; omega)
      refine Is.bind (Is.ixn hi) fun x hx => ?_
      refine Is.bind (Is.app ?_) fun M hM => ?_
      · simp only [List.length_map, List.length_take, List.length_cons, List.length_nil, sizeMax, Enc.b]; omega
      · subst hM
        exact Is.val ⟨_, by rw [w64n (by omega)], by rw [List.take_add_one, hx]; simp⟩
    · rintro m rfl
      unfold d_ref07_names_0
      exact Is.cond (fun hb => by simp at hb) (fun _ => Is.val (by rw [List.take_length]))
  · rintro v hv
    cases hv
    refine Is.onInl (θ := fun o => o = .inl (l.Signals.map (·.Name))) ?_ ?_ (fun b hb => by cases hb)
    · refine Is.loop (mk := fun (i : Nat) (m : List ByteArray) => ((i : Int), m)) l.Signals.length (fun i m => m = (l.Signals.take i).map (·.Name)) [] rfl ?_ ?_
      · rintro i m hi rfl
        unfold d_ref07_names_1
        refine Is.cond (fun _ => ?_) (fun hb => by simp at hb; omega)
        refine Is.bind (Is.ixn hi) fun x hx => ?_
        refine Is.bind (Is.app ?_) fun M hM => ?_
        · simp only [List.length_map, List.length_take, List.length_cons, List.length_nil, sizeMax, Enc.b]; omega
        · subst hM
          exact Is.val ⟨_, by rw [w64n (by omega)], by rw [List.take_add_one, hx]; simp⟩
      · rintro m rfl
        unfold d_ref07_names_1
        exact Is.cond (fun hb => by simp at hb) (fun _ => Is.val (by rw [List.take_length]))
    · rintro v hv
      cases hv
      exact Is.val ⟨by rw [hx1, List.nil_append], rfl, rfl⟩
theorem ref07_named_is {l : T_api_Layout} (h : Sm l) : Is (d_ref07_named l) fun _ => True := by
  unfold d_ref07_named
  have h1 := h.sec; have h2 := h.el; have h3 := h.sg
  refine Is.bind (or_is (Is.val trivial)) fun b1 _ => ?_
  refine Is.bind (or_is (Is.val trivial)) fun b1 _ => ?_
  refine Is.bind (or_is (Is.val trivial)) fun b1 _ => ?_
  refine Is.bind (or_is (Is.val trivial)) fun b1 _ => ?_
  refine Is.bind (or_is (Is.val trivial)) fun b1 _ => ?_
  refine Is.cond (fun _ => Is.val trivial) (fun _ => ?_)
  refine Is.bind (ref07_names_is h) fun r hr => ?_
  obtain ⟨e0, e1, e2⟩ := hr
  rw [e0, e1, e2]
  refine Is.bind (Is.app (by simp only [List.length_cons, List.length_nil, sizeMax, Enc.b]; omega)) fun x7 hx7 => ?_
  subst hx7
  refine Is.bind (Is.app (by simp only [List.length_append, List.length_map, List.length_cons, List.length_nil, sizeMax, Enc.b]; omega)) fun x8 hx8 => ?_
  subst hx8
  refine Is.bind (Is.app (by simp only [List.length_append, List.length_map, List.length_cons, List.length_nil, sizeMax, Enc.b]; omega)) fun x9 hx9 => ?_
  have hsz : ∀ s ∈ x9, s.size ≤ 1048576 := by
    subst hx9
    intro s hs
    simp only [List.mem_append, List.mem_cons, List.not_mem_nil, or_false, List.mem_map] at hs
    rcases hs with ((rfl | hs) | ⟨x, hx, rfl⟩) | ⟨x, hx, rfl⟩
    · exact h.nm
    · exact h.secn s hs
    · exact h.eln x hx
    · exact h.sgn x hx
  have hlen : x9.length ≤ 4194304 := by
    subst hx9
    simp only [List.length_append, List.length_map, List.length_cons, List.length_nil]; omega
  clear hx9
  refine Is.onInl (θ := fun _ => True) ?_ ?_ (fun _ _ => trivial)
  · refine Is.loop (mk := fun (i : Nat) (_ : Unit) => (i : Int)) x9.length (fun _ _ => True) () trivial ?_ ?_
    · rintro i m hi -
      unfold d_ref07_named_0
      refine Is.cond (fun _ => ?_) (fun hb => by simp at hb; omega)
      refine Is.bind (Is.ixn hi) fun x hx => ?_
      refine Is.bind (ref05_Name_is x (hsz x (List.mem_of_getElem? hx))) fun r _ => ?_
      exact Is.cond (fun _ => Is.val trivial) (fun _ => Is.val ⟨(), by rw [w64n (by omega)], trivial⟩)
    · rintro m -
      unfold d_ref07_named_0
      exact Is.cond (fun hb => by simp at hb) (fun _ => Is.val trivial)
  · intro _ _
    refine Is.bind (ref07_texts_is _ (by omega)) fun r _ => ?_
    refine Is.bind (or_is (Is.bind (ref07_texts_is _ (by simp only [List.length_map]; omega)) fun _ _ => Is.val trivial)) fun b _ => ?_
    refine Is.bind (or_is (Is.bind (ref07_texts_is _ (by simp only [List.length_map]; omega)) fun _ _ => Is.val trivial)) fun b _ => ?_
    exact Is.cond (fun _ => Is.val trivial) (fun _ => Is.val trivial)
theorem ref07_right_is (l : T_api_Layout) (x : T_api_Element) : Is (d_ref07_right l x) fun _ => True := by
  unfold d_ref07_right
  refine Is.bind (or_is (Is.val trivial)) fun b1 _ => ?_
  exact Is.cond (fun _ => Is.val trivial) (fun _ => Is.cond (fun _ => Is.val trivial) (fun _ => Is.val trivial))
theorem ref07_Members_is {l : T_api_Layout} (h : Sm l) (s : Int) : Is (d_ref07_Members l s) fun _ => True := by
  unfold d_ref07_Members
  have h2 := h.el
  refine Is.onInl (θ := fun _ => True) ?_ (fun _ _ => Is.val trivial) (fun _ _ => trivial)
  refine Is.loop (mk := fun (i : Nat) (m : List Int) => ((i : Int), m)) l.Elements.length (fun i m => m.length ≤ i) [] (Nat.le_refl _) ?_ ?_
  · rintro i m hi hm
    unfold d_ref07_Members_0
    refine Is.cond (fun _ => ?_) (fun hb => by simp at hb; omega)
    refine Is.onInl (θ := fun o => match o with | .inl v => v.length ≤ i + 1 | .inr _ => False) ?_ ?_ (fun _ hb => hb.elim)
    · refine Is.bind (Is.ixn hi) fun x hx => ?_
      refine Is.bind (and_is fun _ => Is.val trivial) fun b _ => ?_
      refine Is.cond (fun _ => ?_) (fun _ => Is.val (by simp only; omega))
      refine Is.bind (Is.app (by simp only [List.length_cons, List.length_nil, sizeMax, Enc.b]; omega)) fun M hM => ?_
      subst hM
      exact Is.val (by simp only [List.length_append, List.length_cons, List.length_nil]; omega)
    · intro v hv
      exact Is.val ⟨v, by rw [w64n (by omega)], hv⟩
  · rintro m -
    unfold d_ref07_Members_0
    exact Is.cond (fun hb => by simp at hb) (fun _ => Is.val trivial)
def endsOf (L : List T_api_Joint) : List T_api_End := L.flatMap fun j => [j.A, j.B]
theorem endsOf_snoc (L : List T_api_Joint) (j : T_api_Joint) : endsOf (L ++ [j]) = endsOf L ++ [j.A, j.B] := by simp [endsOf]
def JoinsOk (l : T_api_Layout) : Prop := (∀ j ∈ l.Joints, exS l j.A = true ∧ exS l j.B = true) ∧ (endsOf l.Joints).Nodup
theorem ref07_elements_is {l : T_api_Layout} (h : Sm l) : Is (d_ref07_elements l) fun e => e = 0 → JoinsOk l := by
  unfold d_ref07_elements
  have h1 := h.sec; have h2 := h.el; have h3 := h.jo
  refine Is.onInl (θ := fun o => match o with | .inl _ => True | .inr e => e = 1) ?_ ?_ (fun b hb e => by have : b = 1 := hb; omega)
  · refine Is.loop (mk := fun (i : Nat) (_ : Unit) => (i : Int)) l.Elements.length (fun _ _ => True) () trivial ?_ ?_
    · rintro i m hi -
      unfold d_ref07_elements_0
      refine Is.cond (fun _ => ?_) (fun hb => by simp at hb; omega)
      refine Is.bind (Is.ixn hi) fun x hx => ?_
      refine Is.bind (ref07_right_is l x) fun r _ => ?_
      exact Is.cond (fun _ => Is.val rfl) (fun _ => Is.val ⟨(), by rw [w64n (by omega)], trivial⟩)
    · rintro m -
      unfold d_ref07_elements_0
      exact Is.cond (fun hb => by simp at hb) (fun _ => Is.val trivial)
  intro _ _
  refine Is.onInl (θ := fun o => match o with | .inl _ => True | .inr e => e = 1) ?_ ?_ (fun b hb e => by have : b = 1 := hb; omega)
  · refine Is.loop (mk := fun (i : Nat) (_ : Unit) => (i : Int)) l.Sections.length (fun _ _ => True) () trivial ?_ ?_
    · rintro i m hi -
      unfold d_ref07_elements_1
      refine Is.cond (fun _ => ?_) (fun hb => by simp at hb; omega)
      refine Is.bind (ref07_Members_is h _) fun r _ => ?_
      exact Is.cond (fun _ => Is.val rfl) (fun _ => Is.val ⟨(), by rw [w64n (by omega)], trivial⟩)
    · rintro m -
      unfold d_ref07_elements_1
      exact Is.cond (fun hb => by simp at hb) (fun _ => Is.val trivial)
  intro _ _
  refine Is.onInl (θ := fun o => match o with | .inl v => v.length ≤ 2 * l.Joints.length ∧ v = endsOf l.Joints ∧ (∀ j ∈ l.Joints, exS l j.A = true ∧ exS l j.B = true) | .inr e => e = (1 : Int)) (ψ := fun e : Int => e = 0 → JoinsOk l) ?_ ?_ (fun b hb => by intro e; have hb : b = 1 := hb; omega)
  · refine Is.loop (mk := fun (i : Nat) (m : List T_api_End) => ((i : Int), m)) l.Joints.length (fun i m => m.length ≤ 2 * i ∧ m = endsOf (l.Joints.take i) ∧ ∀ k j, k < i → l.Joints[k]? = some j → exS l j.A = true ∧ exS l j.B = true) [] ⟨Nat.le_refl _, rfl, fun k j hk => by omega⟩ ?_ ?_
    · rintro i m hi ⟨hm, hE, hI⟩
      unfold d_ref07_elements_2
      refine Is.cond (fun _ => ?_) (fun hb => by simp at hb; omega)
      refine Is.bind (Is.ixn hi) fun x hx => ?_
      rw [ref07_exists_eq, ref07_exists_eq]
      refine Is.bind (Is.eq rfl) fun a ha => ?_
      refine Is.bind (φ := fun b => b = false → exS l x.A = true ∧ exS l x.B = true) ?_ fun b hb => ?_
      · subst ha
        refine Is.cond (fun _ => Is.val (fun e => by cases e)) (fun hA => ?_)
        refine Is.bind (Is.eq rfl) fun c hc => Is.val fun e => ?_
        subst hc
        simp at hA e
        exact ⟨hA, e⟩
      · refine Is.cond (fun _ => Is.val rfl) (fun hc => ?_)
        have hb' : b = false := by cases b <;> simp_all
        refine Is.bind (Is.app (by simp only [List.length_cons, List.length_nil, sizeMax, Enc.b]; omega)) fun M hM => ?_
        subst hM
        refine Is.val ⟨_, by rw [w64n (by omega)], by simp only [List.length_append, List.length_cons, List.length_nil]; omega, by rw [take_snoc hx, endsOf_snoc, hE], fun k j hk hj => ?_⟩
        by_cases e : k = i
        · subst e; rw [hx] at hj; cases hj; exact hb hb'
        · exact hI k j (by omega) hj
    · rintro m ⟨hm, hE, hI⟩
      unfold d_ref07_elements_2
      refine Is.cond (fun hb => by simp at hb) (fun _ => Is.val ⟨hm, by rw [hE, List.take_length], fun j hj => ?_⟩)
      obtain ⟨k, hk⟩ := List.getElem?_of_mem hj
      exact hI k j (List.getElem?_eq_some_iff.1 hk).1 hk
  rintro v ⟨hv, hE, hJ⟩
  subst hE
  refine Is.bind (ref07_ends_is _ (by omega)) fun r hr => ?_
  exact Is.cond (fun _ => Is.val fun e => by omega) (fun hc => Is.val fun _ => ⟨hJ, hr.1 hc⟩)
theorem exS_has {l : T_api_Layout} {e : T_api_End} (h : exS l e = true) : hasEl l e.El = true := by
  simp only [exS, Bool.and_eq_true] at h; exact h.1.1
theorem joinS_ok {l : T_api_Layout} (hJ : JoinsOk l) {e f : T_api_End} (h : joinS l e = (f, true)) : exS l f = true := by
  unfold joinS at h
  split at h
  · rename_i j hj
    have hm := hJ.1 j (List.mem_of_find?_eq_some hj)
    cases hA : eq_T_api_End j.A e <;> rw [hA] at h <;> simp at h <;> subst h
    · exact hm.1
    · exact hm.2
  · simp at h
theorem ref07_signals_is {l : T_api_Layout} (h : Sm l) (hJ : JoinsOk l) : Is (d_ref07_signals l) fun _ => True := by
  unfold d_ref07_signals
  have h1 := h.sg; have h3 := h.jo
  refine Is.onInl (θ := fun o => match o with | .inl v => v.length ≤ l.Signals.length ∧ ∀ e ∈ v, exS l e = true | .inr _ => True) ?_ ?_ (fun _ _ => trivial)
  · refine Is.loop (mk := fun (i : Nat) (m : List T_api_End) => ((i : Int), m)) l.Signals.length (fun i m => m.length ≤ i ∧ ∀ e ∈ m, exS l e = true) [] ⟨Nat.le_refl _, fun e he => by cases he⟩ ?_ ?_
    · rintro i m hi ⟨hm, hI⟩
      unfold d_ref07_signals_0
      refine Is.cond (fun _ => ?_) (fun hb => by simp at hb; omega)
      refine Is.bind (Is.ixn hi) fun x hx => ?_
      rw [ref07_exists_eq]
      refine Is.bind (Is.eq rfl) fun a ha => ?_
      subst ha
      refine Is.cond (fun _ => Is.val trivial) (fun hc => ?_)
      refine Is.bind (Is.app (by simp only [List.length_cons, List.length_nil, sizeMax, Enc.b]; omega)) fun M hM => ?_
      subst hM
      refine Is.val ⟨_, by rw [w64n (by omega)], by simp only [List.length_append, List.length_cons, List.length_nil]; omega, fun e he => ?_⟩
      rcases List.mem_append.1 he with he | he
      · exact hI e he
      · have : e = x.At := by simpa using he
        subst this
        simp at hc; exact hc.1.1
    · rintro m ⟨hm, hI⟩
      unfold d_ref07_signals_0
      exact Is.cond (fun hb => by simp at hb) (fun _ => Is.val ⟨hm, hI⟩)
  rintro v ⟨hv, hI⟩
  refine Is.bind (ref07_ends_is v (by omega)) fun r _ => ?_
  refine Is.cond (fun _ => Is.val trivial) (fun _ => ?_)
  refine Is.onInl (θ := fun _ => True) ?_ (fun _ _ => Is.val trivial) (fun _ _ => trivial)
  refine Is.loop (mk := fun (i : Nat) (_ : Unit) => (i : Int)) v.length (fun _ _ => True) () trivial ?_ ?_
  · rintro i m hi -
    unfold d_ref07_signals_1
    refine Is.cond (fun _ => ?_) (fun hb => by simp at hb; omega)
    refine Is.bind (Is.ixn hi) fun e he => ?_
    rw [ref07_Joined_eq h3]
    refine Is.bind (Is.eq rfl) fun r hr => ?_
    refine Is.bind (φ := fun _ => True) (Is.cond (fun _ => Is.val trivial) (fun hc => ?_)) fun b _ => ?_
    · subst hr
      have hc2 : (joinS l e).2 = true := by simpa using hc
      have hf : exS l (joinS l e).1 = true := joinS_ok hJ (e := e) (by rw [← hc2])
      obtain ⟨x, hx, _⟩ := hasEl_get (exS_has hf)
      obtain ⟨y, hy, _⟩ := hasEl_get (exS_has (hI e (List.mem_of_getElem? he)))
      exact Is.bind (Is.eq hx) fun _ _ => Is.bind (Is.eq hy) fun _ _ => Is.val trivial
    · exact Is.cond (fun _ => Is.val trivial) (fun _ => Is.val ⟨(), by rw [w64n (by omega)], trivial⟩)
  · rintro m -
    unfold d_ref07_signals_1
    exact Is.cond (fun hb => by simp at hb) (fun _ => Is.val trivial)
theorem ref07_balises_is {l : T_api_Layout} (h : Sm l) : Is (d_ref07_balises l) fun _ => True := by
  unfold d_ref07_balises
  have h1 := h.ba
  refine Is.onInl (θ := fun o => match o with | .inl v => v.length ≤ l.Balises.length | .inr _ => True) ?_ ?_ (fun _ _ => trivial)
  · refine Is.loop (mk := fun (i : Nat) (m : List Int) => ((i : Int), m)) l.Balises.length (fun i m => m.length ≤ i) [] (Nat.le_refl _) ?_ ?_
    · rintro i m hi hm
      unfold d_ref07_balises_0
      refine Is.cond (fun _ => ?_) (fun hb => by simp at hb; omega)
      refine Is.bind (Is.ixn hi) fun x hx => ?_
      refine Is.bind (φ := fun b => b = false → hasEl l x.El = true) (Is.cond (fun _ => Is.val fun e => by cases e) (fun hc => Is.val fun e => ?_)) fun b hb => ?_
      · simp at hc e
        simp [hasEl]; omega
      refine Is.bind (φ := fun _ => True) (Is.cond (fun _ => Is.val trivial) (fun hc => ?_)) fun b2 _ => ?_
      · have hb' : b = false := by cases b <;> simp_all
        obtain ⟨y, hy, _⟩ := hasEl_get (hb hb')
        exact Is.bind (Is.eq hy) fun _ _ => Is.val trivial
      refine Is.cond (fun _ => Is.val trivial) (fun hc => ?_)
      refine Is.bind (Is.app (by simp only [List.length_cons, List.length_nil, sizeMax, Enc.b]; omega)) fun M hM => ?_
      subst hM
      exact Is.val ⟨_, by rw [w64n (by omega)], by simp only [List.length_append, List.length_cons, List.length_nil]; omega⟩
    · rintro m hm
      unfold d_ref07_balises_0
      exact Is.cond (fun hb => by simp at hb) (fun _ => Is.val hm)
  intro v hv
  have hv : v.length ≤ l.Balises.length := hv
  refine Is.bind (ref07_numbers_is v (by omega)) fun r _ => ?_
  exact Is.cond (fun _ => Is.val trivial) (fun _ => Is.val trivial)
theorem ref07_Check_is {l : T_api_Layout} (h : Sm l) : Is (d_ref07_Check l) fun e => e = 0 → JoinsOk l := by
  unfold d_ref07_Check
  refine Is.bind (ref07_named_is h) fun r1 _ => ?_
  refine Is.cond (fun hc => Is.val fun e => by rw [e] at hc; simp at hc) (fun _ => ?_)
  refine Is.bind (ref07_elements_is h) fun r2 h2 => ?_
  refine Is.cond (fun hc => Is.val fun e => by rw [e] at hc; simp at hc) (fun hc => ?_)
  have hJ : JoinsOk l := h2 (by simpa using hc)
  refine Is.bind (ref07_signals_is h hJ) fun r3 _ => ?_
  refine Is.cond (fun hc => Is.val fun e => by rw [e] at hc; simp at hc) (fun _ => ?_)
  exact Is.bind (ref07_balises_is h) fun r4 _ => Is.val fun _ => hJ
end PM
