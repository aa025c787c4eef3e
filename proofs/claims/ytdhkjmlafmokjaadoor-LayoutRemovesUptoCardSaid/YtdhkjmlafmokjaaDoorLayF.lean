/-
  PLAIN, LAYOUT F: the statements LayoutParts and LayoutRemoves.
-/
import Derived.Test.YtdhkjmlafmokjaaDoorLayE
namespace PM
open Go Go.RowKit

theorem memS_nodup (s : Int) (L : List T_api_Element) : ∀ n, (memS s L n).Nodup
  | 0 => List.nodup_nil
  | n + 1 => by
    rw [memS, List.nodup_append]
    refine ⟨memS_nodup s L n, ?_, ?_⟩
    · split
      · split <;> simp
      · simp
    · intro a ha b hb e
      subst e
      obtain ⟨i, x, h1, _, _, h4⟩ := memS_mem.1 ha
      split at hb
      · split at hb
        · simp at hb; omega
        · cases hb
      · cases hb
theorem sum_set : ∀ {L : List Int} {j : Nat} {y : Int} (v : Int), L[j]? = some y → (L.set j v).sum = L.sum - y + v
  | [], _, _, _, h => by simp at h
  | x :: xs, 0, y, v, h => by
    simp only [List.getElem?_cons_zero, Option.some.injEq] at h
    simp only [List.set_cons_zero, List.sum_cons]; omega
  | x :: xs, j + 1, y, v, h => by
    have := sum_set (L := xs) (j := j) v (by simpa using h)
    simp only [List.set_cons_succ, List.sum_cons]; omega
theorem sum_bound : ∀ {L : List Int}, (∀ x ∈ L, 0 ≤ x ∧ x ≤ 1) → 0 ≤ L.sum ∧ L.sum ≤ L.length
  | [], _ => by simp
  | x :: xs, h => by
    have := sum_bound (L := xs) fun y hy => h y (List.mem_cons_of_mem _ hy)
    have := h x (List.mem_cons_self ..)
    simp only [List.sum_cons, List.length_cons]; omega
theorem if01 {p q : Prop} [Decidable p] [Decidable q] (h : p ↔ q) : (if p then (1 : Int) else 0) = if q then 1 else 0 := by
  by_cases hp : p
  · rw [if_pos hp, if_pos (h.1 hp)]
  · rw [if_neg hp, if_neg fun hq => hp (h.2 hq)]
/-- What was found: the elements of sections below s, and those of B. -/
structure Fnd (l : T_api_Layout) (s : Nat) (B : List Int) (f : List Int) (sum : Int) : Prop where
  len : f.length = l.Elements.length
  at_ : ∀ (k : Nat) x, l.Elements[k]? = some x → f[k]? = some (if x.Section < (s : Int) ∨ (k : Int) ∈ B then 1 else 0)
  tot : sum = f.sum
theorem Fnd.bound {l : T_api_Layout} {s : Nat} {B f : List Int} {sum : Int} (h : Fnd l s B f sum) : 0 ≤ sum ∧ sum ≤ l.Elements.length := by
  rw [h.tot, ← h.len]
  refine sum_bound fun x hx => ?_
  obtain ⟨k, hk⟩ := List.getElem?_of_mem hx
  have hk2 : k < l.Elements.length := by rw [← h.len]; exact lt_of_get hk
  have := h.at_ k l.Elements[k] (List.getElem?_eq_getElem hk2)
  rw [hk] at this
  injection this with this
  rw [this]; split <;> omega
theorem parts_in {l : T_api_Layout} (h : Sm l) {x5 : List Int} (h5 : x5.length = l.Elements.length) {s : Nat} (hs : s < l.Sections.length) {f : List Int} {sum : Int} (hF : Fnd l s [] f sum)
    (K : (List Int × Int) → Option ((Int × Int × (List Int)) ⊕ (((List Int) × Int) ⊕ Bool))) {ψ : (Int × Int × (List Int)) ⊕ (((List Int) × Int) ⊕ Bool) → Prop}
    (hk : ∀ f' sum', Fnd l (s + 1) [] f' sum' → Is (K (f', sum')) ψ) : Is (onInl (loopO (d_law07_LayoutParts_1 l x5 (s : Int) (membersS l s)) (sum, 0, f)) K) ψ := by
  have he := h.el
  have hlen : (membersS l (s : Int)).length ≤ l.Elements.length := by
    unfold membersS; split
    · exact memS_len _ _ _
    · simp
  have hmem : membersS l (s : Int) = memS s l.Elements l.Elements.length := by rw [membersS, if_pos (by omega)]
  refine Is.fold (L := membersS l s) (mk := fun i (st : Int × List Int) => (st.1, i, st.2)) (fun i st => Fnd l s ((membersS l s).take i) st.2 st.1) (sum, f) (by omega) hF (fun i x st hx hi hI => ?_) (fun st hI => ?_)
  · unfold d_law07_LayoutParts_1
    refine Is.inb hi (Is.at hx ?_)
    have hm := List.mem_of_getElem? hx
    rw [hmem, memS_mem] at hm
    obtain ⟨k, e, h1, h2, h3, rfl⟩ := hm
    have hsec : secOf l (k : Int) = (s : Int) := by
      have : hasEl l (k : Int) = true := by simp [hasEl]; omega
      simp [secOf, this, h2, h3]
    rw [layout_Section_eq, Option.bind_some, hsec]
    rw [decide_eq_true rfl, Bool.not_true, cond_false]
    have hN : ((x5 : List Int).map cellsOf).length = l.Elements.length := by rw [List.length_map, h5]
    rw [hN]
    have e1 : (decide ((k : Int) < 0) || decide (((l.Elements.length : Nat) : Int) ≤ (k : Int))) = false := by simp; omega
    rw [e1, cond_false]
    have e2 : xixO 0 l.Elements.length (k : Int) = some k := by unfold xixO; rw [if_pos (by omega)]; simp
    have hnot : ¬ (k : Int) ∈ (membersS l s).take i := by
      intro q
      obtain ⟨j, hj, e3⟩ := List.mem_iff_getElem.1 q
      rw [List.getElem_take] at e3
      have hj2 : j < i := by rw [List.length_take] at hj; omega
      obtain ⟨h5, h6⟩ := List.getElem?_eq_some_iff.1 hx
      have hn : (membersS l (s : Int)).Nodup := by rw [hmem]; exact memS_nodup _ _ _
      exact List.pairwise_iff_getElem.1 hn j i (by omega) h5 hj2 (e3.trans h6.symm)
    have hf := hI.at_ k e h2
    rw [if_neg (by rw [h3]; intro q; rcases q with q | q; exact absurd q (by omega); exact hnot q)] at hf
    have e3 : xldO st.2 l.Elements.length k = some 0 := by unfold xldO; rw [if_pos hI.len, hf]
    simp only [e2, e3, Option.bind_some]
    have hb := hI.bound
    refine Is.val ⟨(st.1 + 1, st.2.set k 1), ?_, ?_⟩
    · rw [w64_of (n := st.1 + 1) (by omega) (by omega), w64_of (n := 0 + 1) (by omega) (by omega)]; rfl
    · refine ⟨by simp [hI.len], fun k' x' hx' => ?_, ?_⟩
      · simp only [take_get hx, List.mem_append, List.mem_singleton]
        by_cases q : k' = k
        · subst q
          rw [List.getElem?_set_self (by rw [hI.len]; exact h1), if_pos (.inr (.inr rfl))]
        · rw [List.getElem?_set_ne (Ne.symm q), hI.at_ k' x' hx']
          have : ¬ (k' : Int) = (k : Int) := by omega
          simp [this]
      · have := hI.tot
        rw [sum_set 1 hf]; simp only; omega
  · unfold d_law07_LayoutParts_1
    refine Is.oub (Is.val (hk _ _ ⟨hI.len, fun k x hx => ?_, hI.tot⟩))
    rw [hI.at_ k x hx, List.take_length, hmem]
    have e1 : (∃ i x, i < l.Elements.length ∧ l.Elements[i]? = some x ∧ x.Section = (s : Int) ∧ (k : Int) = (i : Nat)) ↔ x.Section = (s : Int) := by
      constructor
      · rintro ⟨i, y, _, h2, h3, h4⟩
        have : i = k := by omega
        subst this
        rw [hx] at h2; cases h2; exact h3
      · intro q; exact ⟨k, x, lt_of_get hx, hx, q, rfl⟩
    have e2 : (x.Section < (s : Int) ∨ x.Section = (s : Int)) ↔ (x.Section < ((s + 1 : Nat) : Int) ∨ (k : Int) ∈ ([] : List Int)) := by simp; omega
    exact congrArg some (if01 ((or_congr Iff.rfl (memS_mem.trans e1)).trans e2))
def ptsS (L : List T_api_Element) : Nat → List Int
  | 0 => []
  | n + 1 => ptsS L n ++ (match L[n]? with | some x => if x.Kind = 2 then [(n : Int)] else [] | none => [])
theorem ptsS_len (L : List T_api_Element) : ∀ n, (ptsS L n).length ≤ n
  | 0 => Nat.le_refl _
  | n + 1 => by
    have ih := ptsS_len L n
    simp only [ptsS, List.length_append]
    split
    · split <;> simp <;> omega
    · simp; omega
theorem ptsS_pre (L : List T_api_Element) (i : Nat) : ∀ d, ptsS L i <+: ptsS L (i + d)
  | 0 => List.prefix_refl _
  | d + 1 => (ptsS_pre L i d).trans (by rw [← Nat.add_assoc, ptsS]; exact List.prefix_append _ _)
theorem layout_Points_eq {l : T_api_Layout} (h : l.Elements.length ≤ 1048576) : d_layout_Points l = some (ptsS l.Elements l.Elements.length) := by
  suffices hs : Is (d_layout_Points l) fun r => r = ptsS l.Elements l.Elements.length by
    obtain ⟨r, h1, h2⟩ := hs; rw [h1, h2]
  unfold d_layout_Points
  refine Is.fold (L := l.Elements) (mk := fun i m => (i, m)) (fun i m => m = ptsS l.Elements i) [] (by omega) rfl (fun i x m hx hi hI => ?_) (fun m hI => ?_)
  · subst hI
    unfold d_layout_Points_0
    refine Is.inb hi ?_
    refine Is.onInl (θ := fun o => o = .inl (ptsS l.Elements (i + 1))) (Is.at hx (Is.ite dec_iff (fun hc => ?_) (fun hc => Is.val ?_))) (fun v hv => ?_) (fun b hb => by cases hb)
    · have := ptsS_len l.Elements i
      refine Is.bind (Is.app (by simp only [List.length_cons, List.length_nil, sizeMax, Enc.b]; omega)) fun M hM => Is.val ?_
      rw [hM]; simp [ptsS, hx, hc]
    · simp [ptsS, hx, hc]
    · cases hv; exact Is.val ⟨_, rfl, rfl⟩
  · subst hI
    unfold d_layout_Points_0
    exact Is.oub (Is.val (Is.val rfl))
theorem layout_Element_at {l : T_api_Layout} (h : l.Elements.length ≤ 1048576) (hn : (l.Elements.map (·.Name)).Nodup) {i : Nat} {x : T_api_Element} (hx : l.Elements[i]? = some x) : d_layout_Element l x.Name = some (i : Int) := by
  suffices hs : Is (d_layout_Element l x.Name) fun r => r = (i : Int) by
    obtain ⟨r, h1, h2⟩ := hs; rw [h1, h2]
  unfold d_layout_Element
  refine Is.all (L := l.Elements) (fun _ y => y.Name ≠ x.Name) () (by omega) (fun j y hy hj _ => ?_) (by simp [d_layout_Element_0]) (fun hc => ?_)
  · unfold d_layout_Element_0
    refine Is.inb hj (Is.at hy (Is.ite dec_iff (fun hc => Is.val ?_) (fun hc => Is.val ⟨rfl, hc⟩)))
    obtain ⟨h1, h2⟩ := List.getElem?_eq_some_iff.1 hx
    obtain ⟨h3, h4⟩ := List.getElem?_eq_some_iff.1 hy
    rw [List.Nodup, List.pairwise_map, List.pairwise_iff_getElem] at hn
    by_cases q1 : j < i
    · exact absurd (show l.Elements[j].Name = l.Elements[i].Name by rw [h2, h4, hc]) (hn j i h3 h1 q1)
    · by_cases q2 : i < j
      · exact absurd (show l.Elements[i].Name = l.Elements[j].Name by rw [h2, h4, hc]) (hn i j h1 h3 q2)
      · show (j : Int) = i; omega
  · exact absurd rfl (hc i x hx)
theorem layoutParts_law {l : T_api_Layout} (h : Sm l) : d_law07_LayoutParts l = some true := by
  suffices hs : Is (d_law07_LayoutParts l) fun b => b = true by
    obtain ⟨b, h1, rfl⟩ := hs; exact h1
  unfold d_law07_LayoutParts
  obtain ⟨b, hb⟩ := Few_is l
  have he := h.el; have hse := h.sec
  simp only [hb, layout_Check_eq h, alive7_eq, Option.bind_some, cond_some, Bool.cond_true_left]
  refine Is.cond (fun _ => Is.val rfl) (fun hc => ?_)
  have hO : OkL l := (chk_ok l).1 (by simp at hc; exact hc.2)
  have e1 : mkxO ((l.Elements.length : Nat) : Int) ((l.Elements.length : Nat) : Int) 8 (0 : Int) = some (List.replicate l.Elements.length 0) := by
    unfold mkxO
    rw [if_pos (by simp only [sizeMax]; omega)]; simp
  rw [e1, Option.bind_some]
  have h5 : (List.replicate l.Elements.length (0 : Int)).length = l.Elements.length := by simp
  refine Is.fold (L := l.Sections) (mk := fun i (st : Int × List Int) => (st.1, i, st.2)) (fun i st => Fnd l i [] st.2 st.1) (0, List.replicate l.Elements.length 0) (by omega) ⟨h5, fun k x hx => ?_, by simp⟩ (fun s x st hx hs hI => ?_) (fun st hI => ?_)
  · have hk := lt_of_get hx
    have := (hO.elem.1 x (List.mem_of_getElem? hx)).2.2.2.2.1
    rw [List.getElem?_replicate, if_pos hk, if_neg]
    intro q
    rcases q with q | q
    · have q : x.Section < ((0 : Nat) : Int) := q
      omega
    · cases q
  · unfold d_law07_LayoutParts_0
    refine Is.inb hs ?_
    rw [layout_Members_eq he, Option.bind_some]
    refine parts_in h h5 hs hI _ fun f' sum' hF => ?_
    obtain ⟨y, hy1, hy2⟩ := hO.elem.2 s hs
    refine Is.ite (dec_iff.trans (members_used hs)) (fun hc => absurd ⟨y, hy1, hy2⟩ hc) (fun _ => Is.val ⟨(sum', f'), rfl, hF⟩)
  unfold d_law07_LayoutParts_0
  refine Is.oub (Is.val ?_)
  show Is ((d_layout_Points l).bind _) _
  have hall : ∀ (k : Nat) x, l.Elements[k]? = some x → st.2[k]? = some 1 := fun k x hx => by
    have := (hO.elem.1 x (List.mem_of_getElem? hx)).2.2.2.2.1
    rw [hI.at_ k x hx, if_pos (.inl this.2)]
  have hsum : st.1 = (l.Elements.length : Nat) := by
    have : st.2 = List.replicate l.Elements.length 1 := by
      refine List.ext_getElem? fun k => ?_
      by_cases q : k < l.Elements.length
      · rw [hall k l.Elements[k] (List.getElem?_eq_getElem q), List.getElem?_replicate, if_pos q]
      · rw [List.getElem?_eq_none (by rw [hI.len]; omega), List.getElem?_replicate, if_neg q]
    rw [hI.tot, this]
    have : ∀ n : Nat, (List.replicate n (1 : Int)).sum = n := by
      intro n
      induction n with
      | zero => rfl
      | succ n ih => rw [List.replicate_succ, List.sum_cons, ih]; omega
    exact this _
  rw [layout_Points_eq he, Option.bind_some]
  refine Is.fold (L := l.Elements) (mk := fun i (a : Int) => (a, i)) (fun i a => a = ((ptsS l.Elements i).length : Nat)) 0 (by omega) rfl (fun i x a hx hi hI2 => ?_) (fun a hI2 => ?_)
  · subst hI2
    unfold d_law07_LayoutParts_2
    refine Is.inb hi ?_
    refine Is.onInl (θ := fun o => o = .inl (((ptsS l.Elements (i + 1)).length : Nat) : Int)) (Is.at hx ?_) (fun v hv => ?_) (fun b hb => by cases hb)
    · have hN : ((List.replicate l.Elements.length (0 : Int)).map cellsOf).length = l.Elements.length := by simp
      rw [hN]
      have e2 : xixO 0 l.Elements.length (i : Int) = some i := by unfold xixO; rw [if_pos (by omega)]; simp
      have e3 : xldO st.2 l.Elements.length i = some 1 := by unfold xldO; rw [if_pos hI.len, hall i x hx]
      rw [e2, Option.bind_some, e3, Option.bind_some, layout_Element_at he hO.dist.2.1 hx]
      simp only [Option.bind_some, decide_true, Bool.not_true, cond_false]
      have hr := hO.elem.1 x (List.mem_of_getElem? hx)
      refine Is.ite dec_iff (fun hsl => ?_) (fun hsl => Is.val ?_)
      · have hk : x.Kind = 2 := Classical.byContradiction fun q => by have := hr.2.2.2.2.2.2 q; omega
        have hp : ptsS l.Elements (i + 1) = ptsS l.Elements i ++ [(i : Int)] := by simp [ptsS, hx, hk]
        have hpre := ptsS_pre l.Elements (i + 1) (l.Elements.length - (i + 1))
        rw [show i + 1 + (l.Elements.length - (i + 1)) = l.Elements.length by omega] at hpre
        obtain ⟨t, ht⟩ := hpre
        have hget : (ptsS l.Elements l.Elements.length)[(ptsS l.Elements i).length]? = some (i : Int) := by
          rw [← ht, hp, List.append_assoc, List.getElem?_append_right (Nat.le_refl _), Nat.sub_self]; rfl
        have hlt := lt_of_get hget
        have e4 : decide ((((ptsS l.Elements l.Elements.length).length : Nat) : Int) ≤ (((ptsS l.Elements i).length : Nat) : Int)) = false := by simp; omega
        rw [e4, cond_false, ixO_nat hget]
        simp only [Option.bind_some, decide_true, Bool.not_true, cond_false]
        refine Is.val ?_
        have := ptsS_len l.Elements i
        rw [w64n (by omega), hp]; simp
      · have hk : ¬ x.Kind = 2 := fun q => by have := hr.2.2.2.2.2.1 q; omega
        simp [ptsS, hx, hk]
    · cases hv; exact Is.val ⟨_, rfl, rfl⟩
  · subst hI2
    unfold d_law07_LayoutParts_2
    refine Is.oub (Is.val ?_)
    rw [hsum]
    simp only [decide_true, cond_true]
    exact Is.val rfl
/-! ### Without a part -/
def cut {α : Type} (L : List α) (i : Nat) : List α := L.take i ++ L.drop (i + 1)
theorem cut_sub {α : Type} (L : List α) (i : Nat) : (cut L i).Sublist L := by
  have : L.take i ++ L.drop i = L := List.take_append_drop i L
  conv => rhs; rw [← this]
  refine List.Sublist.append (List.Sublist.refl _) ?_
  rw [← List.drop_drop]; exact List.drop_sublist _ _
theorem cut_len {α : Type} (L : List α) (i : Nat) : (cut L i).length ≤ L.length := (cut_sub L i).length_le
theorem cut_mem {α : Type} {L : List α} {i : Nat} {x : α} (h : x ∈ cut L i) : x ∈ L := (cut_sub L i).subset h
theorem okL_bal {l : T_api_Layout} (h : OkL l) (i : Nat) : OkL ⟨l.Name, l.Sections, l.Elements, l.Joints, l.Signals, cut l.Balises i⟩ :=
  ⟨⟨h.counts.1, h.counts.2.1, h.counts.2.2.1, h.counts.2.2.2.1, h.counts.2.2.2.2.1, Nat.le_trans (cut_len _ _) h.counts.2.2.2.2.2⟩, h.names, h.dist, h.elem, h.joint, h.ends, h.sig, h.sigd, h.safe,
    fun b hb => h.bal b (cut_mem hb), h.bald.sublist ((cut_sub _ _).map _)⟩
theorem okL_sig {l : T_api_Layout} (h : OkL l) (i : Nat) : OkL ⟨l.Name, l.Sections, l.Elements, l.Joints, cut l.Signals i, l.Balises⟩ :=
  ⟨⟨h.counts.1, h.counts.2.1, h.counts.2.2.1, h.counts.2.2.2.1, Nat.le_trans (cut_len _ _) h.counts.2.2.2.2.1, h.counts.2.2.2.2.2⟩, ⟨h.names.1, h.names.2.1, h.names.2.2.1, fun s hs => h.names.2.2.2 s (((cut_sub _ _).map _).subset hs)⟩,
    ⟨h.dist.1, h.dist.2.1, h.dist.2.2.sublist ((cut_sub _ _).map _)⟩, h.elem, h.joint, h.ends, fun s hs => h.sig s (cut_mem hs), h.sigd.sublist ((cut_sub _ _).map _), fun s hs => h.safe s (cut_mem hs), h.bal, h.bald⟩
theorem jf_app (L M : List T_api_Joint) (e : T_api_End) : jf (L ++ M) e = (jf L e).or (jf M e) := by
  unfold jf
  rw [List.find?_append]
  cases L.find? fun j => eq_T_api_End j.A e || eq_T_api_End j.B e <;> simp
theorem jf_cut {L : List T_api_Joint} {i : Nat} {j : T_api_Joint} (hj : L[i]? = some j) {e : T_api_End} (h1 : e ≠ j.A) (h2 : e ≠ j.B) : jf (cut L i) e = jf L e := by
  have hd : L = L.take i ++ j :: L.drop (i + 1) := by
    obtain ⟨h3, h4⟩ := List.getElem?_eq_some_iff.1 hj
    conv => lhs; rw [← List.take_append_drop i L, List.drop_eq_getElem_cons h3, h4]
  conv => rhs; rw [hd]
  rw [cut, jf_app, jf_app, jf_cons, if_neg h1, if_neg h2]
theorem endsOf_sub {L M : List T_api_Joint} (h : L.Sublist M) : (endsOf L).Sublist (endsOf M) := by
  induction h with
  | slnil => exact List.Sublist.refl _
  | cons a _ ih => exact ih.trans (by simp only [endsOf, List.flatMap_cons]; exact List.sublist_append_right _ _)
  | cons_cons a _ ih => simp only [endsOf, List.flatMap_cons]; exact List.Sublist.append (List.Sublist.refl _) ih
theorem okL_jo {l : T_api_Layout} (h : OkL l) {i : Nat} {j : T_api_Joint} (hj : l.Joints[i]? = some j) (hA : ∀ s ∈ l.Signals, s.At ≠ j.A) (hB : ∀ s ∈ l.Signals, s.At ≠ j.B) : OkL ⟨l.Name, l.Sections, l.Elements, cut l.Joints i, l.Signals, l.Balises⟩ := by
  refine ⟨h.counts, h.names, h.dist, h.elem, fun j hj => h.joint j (cut_mem hj), h.ends.sublist (endsOf_sub (cut_sub _ _)), h.sig, h.sigd, fun s hs => ?_, h.bal, h.bald⟩
  have e : joinS ⟨l.Name, l.Sections, l.Elements, cut l.Joints i, l.Signals, l.Balises⟩ s.At = joinS l s.At := by
    rw [jf_join, jf_join]
    show (match jf (cut l.Joints i) s.At with | some f => (f, true) | none => (⟨0, 0⟩, false)) = _
    rw [jf_cut hj (hA s hs) (hB s hs)]
    cases jf l.Joints s.At <;> rfl
  rw [e]
  exact h.safe s hs
theorem sl_cut {α : Type} [Enc α] {L : List α} {i : Nat} (hi : i < L.length) (hL : L.length ≤ 1048576) (hb : Enc.b α ≤ 1000) {β : Type} (K : List α → Option β) :
    (slO L none (some (i : Int)) none).bind (fun x => (appO ([] : List α) x).bind fun y => (slO L (some (w64 ((i : Int) + 1))) none none).bind fun z => (appO y z).bind K) = K (cut L i) := by
  have ha : ∀ {x y : List α}, x.length + y.length ≤ 1048576 → appO x y = some (x ++ y) := by
    intro x y hxy
    unfold appO
    rw [if_pos]
    have := Nat.mul_le_mul hxy hb
    simp only [sizeMax]; omega
  rw [slO_hi (by omega), Option.bind_some, ha (by simp; omega), Option.bind_some, w64n (by omega), slO_lo (by omega), Option.bind_some, ha (by simp; omega), Option.bind_some]
  simp [cut]
theorem rem_nat {a : Int} (h0 : 0 ≤ a) {n : Nat} (hn : 0 < n) (hs : n ≤ 1048576) : ∃ i : Nat, i < n ∧ remO a (n : Int) = some (i : Int) := by
  refine ⟨(a.toNat % n), Nat.mod_lt _ hn, ?_⟩
  unfold remO
  rw [if_neg (by omega)]
  obtain ⟨k, rfl⟩ : ∃ k : Nat, a = (k : Int) := ⟨a.toNat, by omega⟩
  rw [Int.toNat_natCast, ← Int.ofNat_tmod]
theorem sigF_neg {L : List T_api_Signal} {e : T_api_End} (h : ¬ 0 ≤ sigF L e) : ∀ s ∈ L, s.At ≠ e := by
  intro s hs q
  refine h ?_
  unfold sigF
  cases hf : L.findIdx? fun s => eq_T_api_End s.At e with
  | some i => simp
  | none =>
    rw [List.findIdx?_eq_none_iff] at hf
    have := hf s hs
    rw [q, eqEnd_self] at this; cases this
theorem layoutRemoves_law {l : T_api_Layout} (h : Sm l) {n : Int} (h0 : 0 ≤ n) (h1 : n ≤ 255) : d_law07_LayoutRemoves l n = some true := by
  suffices hs : Is (d_law07_LayoutRemoves l n) fun b => b = true by
    obtain ⟨b, h1, rfl⟩ := hs; exact h1
  unfold d_law07_LayoutRemoves
  obtain ⟨b, hb⟩ := Few_is l
  have g1 := h.ba; have g2 := h.sg; have g3 := h.jo
  simp only [hb, layout_Check_eq h, alive7_eq, Option.bind_some, cond_some, Bool.cond_true_left, w64_of (n := n) (by omega) (by omega)]
  refine Is.cond (fun _ => Is.val rfl) (fun hc => ?_)
  have hO : OkL l := (chk_ok l).1 (by simp at hc; exact hc.2)
  refine Is.onInl (θ := fun o => match o with | .inl _ => True | .inr b => b = true) (Is.ite dec_iff (fun hp => ?_) (fun _ => Is.val trivial)) (fun x11 _ => ?_) (fun b hb => hb)
  · obtain ⟨i, hi, hr⟩ := rem_nat h0 (n := l.Balises.length) (by omega) g1
    rw [hr, Option.bind_some, sl_cut hi g1 (by decide)]
    have hm : Sm ⟨l.Name, l.Sections, l.Elements, l.Joints, l.Signals, cut l.Balises i⟩ := ⟨h.sec, h.el, h.jo, h.sg, Nat.le_trans (cut_len _ _) g1, h.nm, h.secn, h.eln, h.sgn⟩
    rw [layout_Check_eq hm, (chk_ok _).2 (okL_bal hO i)]
    exact Is.val trivial
  refine Is.onInl (θ := fun o => match o with | .inl _ => True | .inr b => b = true) (Is.ite dec_iff (fun hp => ?_) (fun _ => Is.val trivial)) (fun x24 _ => ?_) (fun b hb => hb)
  · obtain ⟨i, hi, hr⟩ := rem_nat h0 (n := l.Signals.length) (by omega) g2
    rw [hr, Option.bind_some, sl_cut hi g2 (by decide)]
    have hm : Sm ⟨l.Name, l.Sections, l.Elements, l.Joints, cut l.Signals i, l.Balises⟩ := ⟨h.sec, h.el, h.jo, Nat.le_trans (cut_len _ _) g2, h.ba, h.nm, h.secn, h.eln, fun s hs => h.sgn s (cut_mem hs)⟩
    rw [layout_Check_eq hm, (chk_ok _).2 (okL_sig hO i)]
    exact Is.val trivial
  refine Is.onInl (θ := fun o => match o with | .inl _ => True | .inr b => b = true) (Is.ite dec_iff (fun hp => ?_) (fun _ => Is.val trivial)) (fun _ _ => Is.val rfl) (fun b hb => hb)
  obtain ⟨i, hi, hr⟩ := rem_nat h0 (n := l.Joints.length) (by omega) g3
  have hj := List.getElem?_eq_getElem hi
  rw [hr, Option.bind_some, ixO_nat hj, Option.bind_some, layout_Signal_eq g2, Option.bind_some, Option.bind_some, layout_Signal_eq g2, Option.bind_some]
  simp only [cond_some, Option.bind_some, Bool.cond_true_left]
  refine Is.ite (or_iff_of dec_iff dec_iff) (fun _ => Is.val rfl) (fun hs => ?_)
  rw [sl_cut hi g3 (by decide)]
  have hm : Sm ⟨l.Name, l.Sections, l.Elements, cut l.Joints i, l.Signals, l.Balises⟩ := ⟨h.sec, h.el, Nat.le_trans (cut_len _ _) g3, h.sg, h.ba, h.nm, h.secn, h.eln, h.sgn⟩
  rw [layout_Check_eq hm, (chk_ok _).2 (okL_jo hO hj (sigF_neg fun q => hs (.inl q)) (sigF_neg fun q => hs (.inr q)))]
  exact Is.val trivial
end PM
