/-
  PLAIN, LAYOUT D: the reference's check returns the first error.
-/
import Derived.Test.YtoknlpdkocemfaaGreatDoorLayC
namespace PM
open Go Go.RowKit

theorem dup_is {α : Type} (L : List α) (eqb : α → α → Bool) (heq : ∀ x y, eqb x y = true ↔ x = y) (hL : L.length ≤ 4194304) {s1 : Int → Int → Option (Int ⊕ (Unit ⊕ (Int ⊕ (Unit ⊕ Bool))))} {s0 : Int → Option (Int ⊕ (Unit ⊕ Bool))}
    (h1 : ∀ i k, s1 i k = bif decide (k < i) then ((ixO L i).bind fun x => (ixO L k).bind fun y => bif eqb x y then some (.inr (.inr (.inr (.inr true)))) else some (.inl (w64 (k + 1)))) else some (.inr (.inl ())))
    (h0 : ∀ i, s0 i = bif decide (i < ((L.length : Nat) : Int)) then onInl (loopO (s1 i) 0) (fun _ => some (.inl (w64 (i + 1)))) else some (.inr (.inl ()))) :
    Is (onInl (loopO s0 0) fun _ => some false) fun b => b = true ↔ ¬ L.Nodup := by
  refine Is.all (L := L) (fun i x => ∀ j y, j < i → L[j]? = some y → y ≠ x) () (by omega) (fun i x hx hi _ => ?_) ?_ (fun h => Is.val ?_)
  · rw [h0]
    refine Is.inb hi ?_
    have hlen : (L.take i).length = i := by rw [List.length_take]; omega
    refine Is.all (L := L.take i) (fun _ y => y ≠ x) () (by omega) (fun k y hy hk _ => ?_) ?_ (fun hn => Is.val ⟨rfl, fun j y hj hy => ?_⟩)
    · rw [h1]
      rw [hlen] at hk
      rw [List.getElem?_take, if_pos hk] at hy
      refine Is.inb hk (Is.at hx (Is.at hy (Is.ite (heq x y) (fun hc => Is.val ?_) (fun hc => Is.val ⟨rfl, fun e => hc e.symm⟩))))
      refine iff_of_true rfl fun hn => ?_
      obtain ⟨g1, g2⟩ := List.getElem?_eq_some_iff.1 hx
      obtain ⟨g3, g4⟩ := List.getElem?_eq_some_iff.1 hy
      exact List.pairwise_iff_getElem.1 hn k i g3 g1 hk (by rw [g2, g4, hc])
    · rw [h1, hlen]; simp
    · exact hn j y (by rw [List.getElem?_take, if_pos hj]; exact hy)
  · rw [h0]; simp
  · refine iff_of_false Bool.false_ne_true (fun q => q ?_)
    rw [List.Nodup, List.pairwise_iff_getElem]
    intro i j hi hj hij
    exact h j L[j] (List.getElem?_eq_getElem hj) i L[i] hij (List.getElem?_eq_getElem hi)
theorem ref07_texts_val (L : List ByteArray) (h : L.length ≤ 4194304) : Is (d_ref07_texts L) fun b => b = true ↔ ¬ L.Nodup :=
  dup_is L (fun x y => decide (x = y)) (fun _ _ => dec_iff) h (fun _ _ => rfl) (fun _ => rfl)
theorem ref07_ends_val (L : List T_api_End) (h : L.length ≤ 4194304) : Is (d_ref07_ends L) fun b => b = true ↔ ¬ L.Nodup :=
  dup_is L eq_T_api_End eqEnd_iff h (fun _ _ => rfl) (fun _ => rfl)
theorem ref07_numbers_val (L : List Int) (h : L.length ≤ 4194304) : Is (d_ref07_numbers L) fun b => b = true ↔ ¬ L.Nodup :=
  dup_is L (fun x y => decide (x = y)) (fun _ _ => dec_iff) h (fun _ _ => rfl) (fun _ => rfl)
theorem ref07_named_val {l : T_api_Layout} (h : Sm l) : Is (d_ref07_named l) fun e => (¬ CountsP l ∧ e = 2) ∨ (CountsP l ∧ ¬ NamesP l ∧ e = 3) ∨ (CountsP l ∧ NamesP l ∧ ¬ DistP l ∧ e = 8) ∨ (CountsP l ∧ NamesP l ∧ DistP l ∧ e = 0) := by
  unfold d_ref07_named
  have h1 := h.sec; have h2 := h.el; have h3 := h.sg
  simp only [Option.bind_some, cond_some, Bool.cond_true_left]
  refine Is.ite (p := ¬ CountsP l) (by simp [CountsP]; omega) (fun hc => Is.val (.inl ⟨hc, rfl⟩)) (fun hc => ?_)
  have hc : CountsP l := Classical.not_not.1 hc
  refine Is.bind (ref07_names_is h) fun r hr => ?_
  obtain ⟨e0, e1, e2⟩ := hr
  rw [e0, e1, e2]
  refine Is.bind (Is.app (by simp only [List.length_cons, List.length_nil, sizeMax, Enc.b]; omega)) fun x7 hx7 => ?_
  subst hx7
  refine Is.bind (Is.app (by simp only [List.length_append, List.length_map, List.length_cons, List.length_nil, sizeMax, Enc.b]; omega)) fun x8 hx8 => ?_
  subst hx8
  refine Is.bind (Is.app (by simp only [List.length_append, List.length_map, List.length_cons, List.length_nil, sizeMax, Enc.b]; omega)) fun x9 hx9 => ?_
  have hsz : ∀ s ∈ x9, s.size ≤ 1048576 := by
    subst hx9
    intro s hs
    simp only [List.mem_append, List.mem_cons, List.not_mem_nil, or_false, List.mem_map] at hs
    rcases hs with ((rfl | hs) | ⟨x, hx, rfl⟩) | ⟨x, hx, rfl⟩
    · exact h.nm
    · exact h.secn s hs
    · exact h.eln x hx
    · exact h.sgn x hx
  have hlen : x9.length ≤ 4194304 := by
    subst hx9
    simp only [List.length_append, List.length_map, List.length_cons, List.length_nil]; omega
  have hN : (∀ s ∈ x9, NameP s) ↔ NamesP l := by
    subst hx9
    simp only [NamesP, List.mem_append, List.mem_cons, List.not_mem_nil, or_false]
    exact ⟨fun q => ⟨q _ (.inl (.inl (.inl rfl))), fun s hs => q s (.inl (.inl (.inr hs))), fun s hs => q s (.inl (.inr hs)), fun s hs => q s (.inr hs)⟩,
      fun ⟨q1, q2, q3, q4⟩ s hs => hs.elim (fun hs => hs.elim (fun hs => hs.elim (fun e => e ▸ q1) (q2 s)) (q3 s)) (q4 s)⟩
  clear hx9
  refine Is.all (L := x9) (fun _ s => NameP s) () (by omega) (fun i x hx hi _ => ?_) ?_ (fun hn => ?_)
  · unfold d_ref07_named_0
    refine Is.inb hi (Is.at hx (Is.bind (ref05_Name_val x (hsz x (List.mem_of_getElem? hx))) fun r hr => ?_))
    exact Is.ifn hr (fun hn => Is.val (.inr (.inl ⟨hc, fun e => hn (hN.2 e x (List.mem_of_getElem? hx)), rfl⟩))) (fun hy => Is.val ⟨rfl, hy⟩)
  · simp [d_ref07_named_0]
  have hn : NamesP l := hN.1 (mem_iff_get.1 hn)
  refine Is.bind (ref07_texts_val _ (by omega)) fun r hr => ?_
  refine Is.bind (Is.or hr fun _ => Is.bind (ref07_texts_val _ (by simp only [List.length_map]; omega)) fun b hb => Is.val hb) fun b hb => ?_
  refine Is.bind (Is.or hb fun _ => Is.bind (ref07_texts_val _ (by simp only [List.length_map]; omega)) fun b hb => Is.val hb) fun b2 hb2 => ?_
  refine Is.ite hb2 (fun hd => Is.val (.inr (.inr (.inl ⟨hc, hn, fun q => ?_, rfl⟩)))) (fun hd => Is.val (.inr (.inr (.inr ⟨hc, hn, ?_, rfl⟩))))
  · rcases hd with (hd | hd) | hd
    · exact hd q.1
    · exact hd q.2.1
    · exact hd q.2.2
  · exact ⟨Classical.not_not.1 fun q => hd (.inl (.inl q)), Classical.not_not.1 fun q => hd (.inl (.inr q)), Classical.not_not.1 fun q => hd (.inr q)⟩
theorem ref07_right_val (l : T_api_Layout) (x : T_api_Element) : Is (d_ref07_right l x) fun b => b = true ↔ RightP l x := by
  unfold d_ref07_right
  simp only [Option.bind_some, cond_some, Bool.cond_true_left]
  refine Is.val ?_
  unfold RightP
  by_cases h2 : x.Kind = 2
  · simp [h2, Bool.cond_eq_ite]; omega
  · simp [h2, Bool.cond_eq_ite]; omega
theorem endsOf_len : ∀ L : List T_api_Joint, (endsOf L).length = 2 * L.length
  | [] => rfl
  | j :: L => by
    have := endsOf_len L
    simp only [endsOf, List.flatMap_cons, List.length_append, List.length_cons, List.length_nil] at this ⊢
    omega
theorem ref07_elements_val {l : T_api_Layout} (h : Sm l) : Is (d_ref07_elements l) fun e => (¬ ElemP l ∧ e = 1) ∨ (ElemP l ∧ ¬ JointP l ∧ e = 1) ∨ (ElemP l ∧ JointP l ∧ ¬ (endsOf l.Joints).Nodup ∧ e = 8) ∨ (ElemP l ∧ JointP l ∧ (endsOf l.Joints).Nodup ∧ e = 0) := by
  unfold d_ref07_elements
  have h1 := h.sec; have h2 := h.el; have h3 := h.jo
  refine Is.all (L := l.Elements) (fun _ x => RightP l x) () (by omega) (fun i x hx hi _ => ?_) ?_ (fun ha => ?_)
  · unfold d_ref07_elements_0
    refine Is.inb hi (Is.at hx (Is.bind (ref07_right_val l x) fun r hr => ?_))
    exact Is.ifn hr (fun hn => Is.val (.inl ⟨fun q => hn (q.1 x (List.mem_of_getElem? hx)), rfl⟩)) (fun hy => Is.val ⟨rfl, hy⟩)
  · simp [d_ref07_elements_0]
  refine Is.all (L := l.Sections) (fun i _ => ∃ x ∈ l.Elements, x.Section = (i : Nat)) () (by omega) (fun i x hx hi _ => ?_) ?_ (fun hn => ?_)
  · unfold d_ref07_elements_1
    refine Is.inb hi (Is.to (ref07_Members_eq h.el _) ?_)
    exact Is.ite (dec_iff.trans (members_used hi)) (fun hb => Is.val (.inl ⟨fun q => hb (q.2 i hi), rfl⟩)) (fun hb => Is.val ⟨rfl, Classical.not_not.1 hb⟩)
  · simp [d_ref07_elements_1]
  have hE : ElemP l := ⟨mem_iff_get.1 ha, fun s hs => hn s l.Sections[s] (List.getElem?_eq_getElem hs)⟩
  refine Is.fold (L := l.Joints) (mk := fun i m => (i, m)) (fun i m => m = endsOf (l.Joints.take i) ∧ ∀ j x, j < i → l.Joints[j]? = some x → exS l x.A = true ∧ exS l x.B = true ∧ x.A ≠ x.B) [] (by omega) ⟨rfl, fun j x hj => by omega⟩ (fun i x m hx hi hI => ?_) (fun m hI => ?_)
  · unfold d_ref07_elements_2
    refine Is.inb hi (Is.at hx ?_)
    simp only [ref07_exists_eq, Option.bind_some, cond_some, Bool.cond_true_left]
    refine Is.ite (p := ¬ (exS l x.A = true ∧ exS l x.B = true ∧ x.A ≠ x.B)) (by simp only [Bool.or_eq_true, Bool.not_eq_true', eqEnd_iff]; cases exS l x.A <;> cases exS l x.B <;> simp) (fun hb => Is.val (.inr (.inl ⟨hE, fun q => hb (q x (List.mem_of_getElem? hx)), rfl⟩))) (fun hb => ?_)
    have hlen : m.length ≤ 2 * i := by
      rw [hI.1, endsOf_len, List.length_take]; omega
    refine Is.bind (Is.app (by simp only [List.length_cons, List.length_nil, sizeMax, Enc.b]; omega)) fun M hM => ?_
    subst hM
    refine Is.val ⟨_, rfl, by rw [hI.1, take_get hx, endsOf_snoc], fun j y hj hy => ?_⟩
    by_cases e : j = i
    · subst e; rw [hx] at hy; cases hy; exact Classical.not_not.1 hb
    · exact hI.2 j y (by omega) hy
  unfold d_ref07_elements_2
  refine Is.oub (Is.val ?_)
  obtain ⟨hm, hJ⟩ := hI
  rw [List.take_length] at hm
  have hJ : JointP l := mem_iff_get.1 fun i x hx => hJ i x (lt_of_get hx) hx
  subst hm
  have hlen : (endsOf l.Joints).length ≤ 4194304 := by
    rw [endsOf_len]; omega
  refine Is.bind (ref07_ends_val _ hlen) fun r hr => ?_
  exact Is.ite hr (fun hd => Is.val (.inr (.inr (.inl ⟨hE, hJ, hd, rfl⟩)))) (fun hd => Is.val (.inr (.inr (.inr ⟨hE, hJ, Classical.not_not.1 hd, rfl⟩))))
theorem ref07_signals_val {l : T_api_Layout} (h : Sm l) (hJ : JointP l) (hn : (endsOf l.Joints).Nodup) : Is (d_ref07_signals l) fun e =>
    (¬ SigP l ∧ e = 1) ∨ (SigP l ∧ ¬ (l.Signals.map (·.At)).Nodup ∧ e = 8) ∨ (SigP l ∧ (l.Signals.map (·.At)).Nodup ∧ ¬ SafeP l ∧ e = 14) ∨ (SigP l ∧ (l.Signals.map (·.At)).Nodup ∧ SafeP l ∧ e = 0) := by
  unfold d_ref07_signals
  have g3 := h.sg; have g4 := h.jo
  refine Is.fold (L := l.Signals) (mk := fun i m => (i, m)) (fun i m => m = (l.Signals.take i).map (·.At) ∧ ∀ j s, j < i → l.Signals[j]? = some s → exS l s.At = true ∧ 0 ≤ s.Overlap ∧ s.Overlap ≤ 1000000) [] (by omega) ⟨rfl, fun j x hj => by omega⟩ (fun i x m hx hi hI => ?_) (fun m hI => ?_)
  · unfold d_ref07_signals_0
    refine Is.inb hi (Is.at hx ?_)
    simp only [ref07_exists_eq, Option.bind_some]
    refine Is.ite (p := ¬ (exS l x.At = true ∧ 0 ≤ x.Overlap ∧ x.Overlap ≤ 1000000)) (by cases exS l x.At <;> simp <;> omega) (fun hb => Is.val (.inl ⟨fun q => hb (q x (List.mem_of_getElem? hx)), rfl⟩)) (fun hb => ?_)
    refine Is.bind (Is.app (by rw [hI.1]; simp only [List.length_map, List.length_take, List.length_cons, List.length_nil, sizeMax, Enc.b]; omega)) fun M hM => ?_
    subst hM
    refine Is.val ⟨_, rfl, by rw [hI.1, take_get hx]; simp, fun j y hj hy => ?_⟩
    by_cases e : j = i
    · subst e; rw [hx] at hy; cases hy; exact Classical.not_not.1 hb
    · exact hI.2 j y (by omega) hy
  unfold d_ref07_signals_0
  refine Is.oub (Is.val ?_)
  obtain ⟨hm, h1⟩ := hI
  rw [List.take_length] at hm
  have h1 : SigP l := mem_iff_get.1 fun i x hx => h1 i x (lt_of_get hx) hx
  subst hm
  refine Is.bind (ref07_ends_val _ (by simp only [List.length_map]; omega)) fun r hr => ?_
  refine Is.ite hr (fun hd => Is.val (.inr (.inl ⟨h1, hd, rfl⟩))) (fun hd => ?_)
  have h2 := Classical.not_not.1 hd
  have hJO : JoinsOk l := ⟨fun j hj => ⟨(hJ j hj).1, (hJ j hj).2.1⟩, hn⟩
  refine Is.all (L := l.Signals.map (·.At)) (fun _ e => (joinS l e).2 = true ∧ secE l (joinS l e).1.El ≠ secE l e.El) () (by simp only [List.length_map]; omega) (fun i e hx hi _ => ?_) ?_ (fun h3 => ?_)
  · unfold d_ref07_signals_1
    refine Is.inb hi (Is.at hx (Is.to (ref07_Joined_eq g4 e) ?_))
    obtain ⟨s, hs, rfl⟩ := List.mem_map.1 (List.mem_of_getElem? hx)
    refine Is.bind (Is.or (p := ¬ (joinS l s.At).2 = true) (q := secE l (joinS l s.At).1.El = secE l s.At.El) (not_iff_of Iff.rfl) fun hp => ?_) fun b hb => ?_
    · have hc2 := Classical.not_not.1 hp
      have hf : exS l (joinS l s.At).1 = true := joinS_ok hJO (e := s.At) (by rw [← hc2])
      have e1 := exS_has hf
      have e2 := exS_has (h1 s hs).1
      obtain ⟨x, hx, hx2⟩ := hasEl_get e1
      obtain ⟨y, hy, hy2⟩ := hasEl_get e2
      rw [hx, hy]
      refine Is.val ?_
      simp [secE, e1, e2, hx2, hy2]
    · refine Is.ite hb (fun hc => Is.val (.inr (.inr (.inl ⟨h1, h2, fun q => ?_, rfl⟩)))) (fun hc => Is.val ⟨rfl, Classical.not_not.1 fun q => hc (.inl q), fun q => hc (.inr q)⟩)
      rcases hc with hc | hc
      · exact hc (q s hs).1
      · exact (q s hs).2 hc
  · simp [d_ref07_signals_1]
  · refine Is.val (.inr (.inr (.inr ⟨h1, h2, fun s hs => ?_, rfl⟩)))
    exact mem_iff_get.1 h3 s.At (List.mem_map.2 ⟨s, hs, rfl⟩)
theorem ref07_balises_val {l : T_api_Layout} (h : Sm l) : Is (d_ref07_balises l) fun e => (¬ BalP l ∧ e = 1) ∨ (BalP l ∧ ¬ (l.Balises.map (·.Id)).Nodup ∧ e = 8) ∨ (BalP l ∧ (l.Balises.map (·.Id)).Nodup ∧ e = 0) := by
  unfold d_ref07_balises
  have g3 := h.ba
  refine Is.fold (L := l.Balises) (mk := fun i m => (i, m)) (fun i m => m = (l.Balises.take i).map (·.Id) ∧ ∀ j b, j < i → l.Balises[j]? = some b → 1 ≤ b.Id ∧ b.Id ≤ 1073741824 ∧ hasEl l b.El = true ∧ 0 ≤ b.Offset ∧ b.Offset ≤ elLen l b.El) [] (by omega) ⟨rfl, fun j x hj => by omega⟩ (fun i x m hx hi hI => ?_) (fun m hI => ?_)
  · unfold d_ref07_balises_0
    refine Is.inb hi (Is.at hx ?_)
    simp only [Option.bind_some, cond_some, Bool.cond_true_left]
    refine Is.bind (Is.or (p := ¬ (1 ≤ x.Id ∧ x.Id ≤ 1073741824 ∧ hasEl l x.El = true ∧ 0 ≤ x.Offset)) (q := ¬ x.Offset ≤ elLen l x.El) (by simp [hasEl]; omega) fun hp => ?_) fun b hb => ?_
    · have hp := Classical.not_not.1 hp
      obtain ⟨y, h2, h3⟩ := hasEl_get hp.2.2.1
      rw [h2]
      exact Is.val (by simp [elLen, h3])
    · refine Is.ite hb (fun hc => Is.val (.inl ⟨fun q => ?_, rfl⟩)) (fun hc => ?_)
      · have q1 := q x (List.mem_of_getElem? hx)
        rcases hc with hc | hc
        · exact hc ⟨q1.1, q1.2.1, q1.2.2.1, q1.2.2.2.1⟩
        · exact hc q1.2.2.2.2
      · refine Is.bind (Is.app (by rw [hI.1]; simp only [List.length_map, List.length_take, List.length_cons, List.length_nil, sizeMax, Enc.b]; omega)) fun M hM => ?_
        subst hM
        refine Is.val ⟨_, rfl, by rw [hI.1, take_get hx]; simp, fun j y hj hy => ?_⟩
        by_cases e : j = i
        · subst e; rw [hx] at hy; cases hy
          have q1 : 1 ≤ x.Id ∧ x.Id ≤ 1073741824 ∧ hasEl l x.El = true ∧ 0 ≤ x.Offset := Classical.not_not.1 fun q => hc (.inl q)
          exact ⟨q1.1, q1.2.1, q1.2.2.1, q1.2.2.2, Classical.not_not.1 fun q => hc (.inr q)⟩
        · exact hI.2 j y (by omega) hy
  unfold d_ref07_balises_0
  refine Is.oub (Is.val ?_)
  obtain ⟨hm, h1⟩ := hI
  rw [List.take_length] at hm
  have h1 : BalP l := mem_iff_get.1 fun i x hx => h1 i x (lt_of_get hx) hx
  subst hm
  refine Is.bind (ref07_numbers_val _ (by simp only [List.length_map]; omega)) fun r hr => ?_
  exact Is.ite hr (fun hd => Is.val (.inr (.inl ⟨h1, hd, rfl⟩))) (fun hd => Is.val (.inr (.inr ⟨h1, Classical.not_not.1 hd, rfl⟩)))
theorem ref07_Check_val {l : T_api_Layout} (h : Sm l) : Is (d_ref07_Check l) fun e => e = chk l := by
  unfold d_ref07_Check
  refine Is.bind (ref07_named_val h) fun e he => ?_
  rcases he with ⟨hc, rfl⟩ | ⟨hc, h1, rfl⟩ | ⟨hc, h1, h2, rfl⟩ | ⟨hc, h1, h2, rfl⟩
  · exact Is.val (by simp [chk, hc])
  · exact Is.val (by simp [chk, hc, h1])
  · exact Is.val (by simp [chk, hc, h1, h2])
  show Is ((d_ref07_elements l).bind _) _
  refine Is.bind (ref07_elements_val h) fun e he => ?_
  rcases he with ⟨h3, rfl⟩ | ⟨h3, h4, rfl⟩ | ⟨h3, h4, h5, rfl⟩ | ⟨h3, h4, h5, rfl⟩
  · exact Is.val (by simp [chk, hc, h1, h2, h3])
  · exact Is.val (by simp [chk, hc, h1, h2, h3, h4])
  · exact Is.val (by simp [chk, hc, h1, h2, h3, h4, h5])
  show Is ((d_ref07_signals l).bind _) _
  refine Is.bind (ref07_signals_val h h4 h5) fun e he => ?_
  rcases he with ⟨h6, rfl⟩ | ⟨h6, h7, rfl⟩ | ⟨h6, h7, h8, rfl⟩ | ⟨h6, h7, h8, rfl⟩
  · exact Is.val (by simp [chk, hc, h1, h2, h3, h4, h5, h6])
  · exact Is.val (by simp [chk, hc, h1, h2, h3, h4, h5, h6, h7])
  · exact Is.val (by simp [chk, hc, h1, h2, h3, h4, h5, h6, h7, h8])
  show Is ((d_ref07_balises l).bind _) _
  refine Is.bind (ref07_balises_val h) fun e he => ?_
  rcases he with ⟨h9, rfl⟩ | ⟨h9, h10, rfl⟩ | ⟨h9, h10, rfl⟩
  · exact Is.val (by simp [chk, hc, h1, h2, h3, h4, h5, h6, h7, h8, h9])
  · exact Is.val (by simp [chk, hc, h1, h2, h3, h4, h5, h6, h7, h8, h9, h10])
  · exact Is.val (by simp [chk, hc, h1, h2, h3, h4, h5, h6, h7, h8, h9, h10])
end PM
