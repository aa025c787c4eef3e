import Derived.Test.YtmbcgmlgbcookaaDoorExpE
/-
  EXPR, F: what simplifying is; simplified expressions.
-/
namespace PM
open Go Go.RowKit
open Classical in
noncomputable def kstep (u : Int) (acc : List E) (a : E) : List E := if a.op = u ∨ a ∈ acc then acc else acc ++ [a]
noncomputable def keep (u : Int) (l : List E) : List E := l.foldl (kstep u) []
theorem keep_snoc (u : Int) (l : List E) (a : E) : keep u (l ++ [a]) = kstep u (keep u l) a := by unfold keep; rw [List.foldl_append]; rfl
theorem keep_spec (u : Int) (l : List E) : (∀ a, a ∈ keep u l ↔ a ∈ l ∧ a.op ≠ u) ∧ (keep u l).Nodup ∧ sizes (keep u l) ≤ sizes l ∧ (l.Nodup → (∀ a ∈ l, a.op ≠ u) → keep u l = l) := by
  suffices h : ∀ r : List E, (∀ a, a ∈ keep u r.reverse ↔ a ∈ r.reverse ∧ a.op ≠ u) ∧ (keep u r.reverse).Nodup ∧ sizes (keep u r.reverse) ≤ sizes r.reverse ∧ (r.reverse.Nodup → (∀ a ∈ r.reverse, a.op ≠ u) → keep u r.reverse = r.reverse) by
    have := h l.reverse
    rwa [List.reverse_reverse] at this
  intro r
  induction r with
  | nil => exact ⟨fun a => by simp [keep], by simp [keep], Nat.le_refl _, fun _ _ => rfl⟩
  | cons b r ih =>
    obtain ⟨i1, i2, i3, i4⟩ := ih
    rw [List.reverse_cons, keep_snoc]
    generalize r.reverse = l at *
    have hs := sizes_append l [b]
    unfold kstep
    split
    · rename_i hc
      refine ⟨fun a => ?_, i2, by omega, fun h1 h2 => ?_⟩
      · rw [i1, List.mem_append, List.mem_singleton]
        constructor
        · rintro ⟨h1, h2⟩; exact ⟨.inl h1, h2⟩
        · rintro ⟨h1 | h1, h2⟩
          · exact ⟨h1, h2⟩
          · subst h1
            rcases hc with hc | hc
            · exact absurd hc h2
            · exact (i1 a).1 hc
      · exfalso
        rw [List.nodup_append] at h1
        rcases hc with hc | hc
        · exact h2 b (by simp) hc
        · exact h1.2.2 b ((i1 b).1 hc).1 b (by simp) rfl
    · rename_i hc
      have hc1 : b.op ≠ u := fun h => hc (.inl h)
      have hc2 : b ∉ keep u l := fun h => hc (.inr h)
      refine ⟨fun a => ?_, ?_, ?_, fun h1 h2 => ?_⟩
      · rw [List.mem_append, i1, List.mem_singleton, List.mem_append, List.mem_singleton]
        constructor
        · rintro (⟨h1, h2⟩ | h1)
          · exact ⟨.inl h1, h2⟩
          · subst h1; exact ⟨.inr rfl, hc1⟩
        · rintro ⟨h1 | h1, h2⟩
          · exact .inl ⟨h1, h2⟩
          · exact .inr h1
      · rw [List.nodup_append]
        refine ⟨i2, by simp, fun x hx y hy => ?_⟩
        rw [List.mem_singleton.1 hy]
        rintro rfl; exact hc2 hx
      · rw [sizes_append]; omega
      · rw [List.nodup_append] at h1
        rw [i4 h1.1 fun a ha => h2 a (List.mem_append_left _ ha)]
theorem keep_depths (u : Int) (l : List E) : depths (keep u l) ≤ depths l := depths_le fun a ha => depths_mem (((keep_spec u l).1 a).1 ha).1
/-- Nested ones of the same kind come up. -/
def flat (o : Int) (ys : List E) : List E := ys.flatMap fun s => if s.op = o then s.args else [s]
theorem flat_snoc (o : Int) (l : List E) (a : E) : flat o (l ++ [a]) = flat o l ++ if a.op = o then a.args else [a] := by unfold flat; rw [List.flatMap_append]; simp
theorem mem_flat {o : Int} {ys : List E} {a : E} : a ∈ flat o ys ↔ ∃ s ∈ ys, (s.op = o ∧ a ∈ s.args) ∨ (s.op ≠ o ∧ a = s) := by
  unfold flat
  rw [List.mem_flatMap]
  constructor
  · rintro ⟨s, h1, h2⟩
    refine ⟨s, h1, ?_⟩
    split at h2
    · rename_i h; exact .inl ⟨h, h2⟩
    · rename_i h; exact .inr ⟨h, List.mem_singleton.1 h2⟩
  · rintro ⟨s, h1, h2⟩
    refine ⟨s, h1, ?_⟩
    rcases h2 with ⟨h, h2⟩ | ⟨h, h2⟩
    · rw [if_pos h]; exact h2
    · rw [if_neg h, h2]; simp
theorem size_args (e : E) : e.size = 1 + sizes e.args := by cases e; rw [E.size]; rfl
theorem depth_args (e : E) : e.depth = 1 + depths e.args := by cases e; rw [E.depth]; rfl
theorem sizes_flat (o : Int) : ∀ ys : List E, sizes (flat o ys) ≤ sizes ys
  | [] => Nat.le_refl _
  | a :: ys => by
    have h1 := sizes_flat o ys
    have h2 : flat o (a :: ys) = (if a.op = o then a.args else [a]) ++ flat o ys := by unfold flat; rw [List.flatMap_cons]
    rw [h2, sizes_append]
    have h3 := size_args a
    split
    · simp only [sizes]; omega
    · simp only [sizes]; omega
theorem depths_flat (o : Int) (ys : List E) : depths (flat o ys) ≤ depths ys := depths_le fun a ha => by
  obtain ⟨s, h1, h2⟩ := mem_flat.1 ha
  have := depths_mem h1
  rcases h2 with ⟨_, h2⟩ | ⟨_, h2⟩
  · have := depths_mem h2
    have := depth_args s
    omega
  · rw [h2]; omega
/-- What the kept ones come to. -/
def fin (o u : Int) : List E → E
  | [] => .mk u 0 []
  | [x] => x
  | k => .mk o 0 k
def absorbs (z : Int) (fl k : List E) : Prop := (∃ a ∈ fl, a.op = z) ∨ ∃ b ∈ k, E.mk 4 0 [b] ∈ k
open Classical in
noncomputable def comb (o u z : Int) (ys : List E) : E := if absorbs z (flat o ys) (keep u (flat o ys)) then .mk z 0 [] else fin o u (keep u (flat o ys))
def neg (a : E) : E := if a.op = 1 then .mk 2 0 [] else if a.op = 2 then .mk 1 0 [] else if a.op = 4 then a.args.headD (.mk 1 0 []) else .mk 4 0 [a]
noncomputable def simpF (o v : Int) (ys : List E) : E := if o = 4 then neg (ys.headD (.mk 1 0 [])) else if o = 5 then comb 5 2 1 ys else if o = 6 then comb 6 1 2 ys else .mk o v []
mutual
noncomputable def E.simp : E → E
  | .mk o v xs => simpF o v (simps xs)
noncomputable def simps : List E → List E
  | [] => []
  | a :: xs => a.simp :: simps xs
end
theorem simps_eq : ∀ xs : List E, simps xs = xs.map E.simp
  | [] => rfl
  | a :: xs => by rw [simps, simps_eq xs]; rfl
theorem simp_mk (o v : Int) (xs : List E) : (E.mk o v xs).simp = simpF o v (xs.map E.simp) := by rw [E.simp, simps_eq]
/-! ### Sizes -/
theorem fin_size (o u : Int) (k : List E) : (fin o u k).size ≤ 1 + sizes k ∧ (fin o u k).depth ≤ 1 + depths k := by
  match k with
  | [] => simp [fin, E.size, E.depth]
  | [x] => simp only [fin, sizes, depths]; omega
  | x :: y :: k => simp [fin, E.size, E.depth]
theorem comb_size (o u z : Int) (ys : List E) : (comb o u z ys).size ≤ 1 + sizes ys ∧ (comb o u z ys).depth ≤ 1 + depths ys := by
  unfold comb
  split
  · simp [E.size, E.depth, sizes, depths]
  · have h1 := fin_size o u (keep u (flat o ys))
    have h2 := (keep_spec u (flat o ys)).2.2.1
    have h3 := sizes_flat o ys
    have h4 := keep_depths u (flat o ys)
    have h5 := depths_flat o ys
    omega
theorem neg_size (a : E) : (neg a).size ≤ 1 + a.size ∧ (neg a).depth ≤ 1 + a.depth := by
  unfold neg
  have hs := a.size_pos
  have hd := a.depth_pos
  split
  · simp [E.size, E.depth, sizes, depths]
  · split
    · simp [E.size, E.depth, sizes, depths]
    · split
      · have h1 := size_args a
        have h2 := depth_args a
        cases h : a.args with
        | nil => simp [E.size, E.depth, sizes, depths]
        | cons b l =>
          rw [h] at h1 h2
          simp only [sizes, depths] at h1 h2
          simp only [List.headD_cons]; omega
      · simp [E.size, E.depth, sizes, depths]
theorem maps_le : ∀ xs : List E, (∀ a ∈ xs, a.simp.size ≤ a.size ∧ a.simp.depth ≤ a.depth) → sizes (xs.map E.simp) ≤ sizes xs ∧ depths (xs.map E.simp) ≤ depths xs
  | [], _ => ⟨Nat.le_refl _, Nat.le_refl _⟩
  | a :: xs, h => by
    have h1 := h a (by simp)
    have h2 := maps_le xs fun b hb => h b (List.mem_cons_of_mem _ hb)
    simp only [List.map_cons, sizes, depths]
    omega
theorem simp_size {n : Int} (e : E) : e.wf n → e.simp.size ≤ e.size ∧ e.simp.depth ≤ e.depth := by
  induction e using E.ind with
  | h o v xs ih =>
    intro hw
    rw [wf_mk] at hw
    rw [simp_mk, simpF, E.size, E.depth]
    have hx : (∀ a ∈ xs, a.wf n) → sizes (xs.map E.simp) ≤ sizes xs ∧ depths (xs.map E.simp) ≤ depths xs := fun h => maps_le xs fun a ha => ih a ha (h a ha)
    rcases hw with ⟨h, rfl, rfl⟩ | ⟨rfl, _, _, rfl⟩ | ⟨rfl, rfl, hl, hw⟩ | ⟨h, rfl, hw⟩
    · rw [if_neg (by omega), if_neg (by omega), if_neg (by omega)]
      simp [E.size, E.depth, sizes, depths]
    · simp [E.size, E.depth, sizes, depths]
    · rw [if_pos rfl]
      have h1 := hx hw
      cases xs with
      | nil => cases hl
      | cons a xs =>
        have h2 := neg_size a.simp
        simp only [List.map_cons, sizes, depths] at h1 ⊢
        simp only [List.headD_cons]
        have h3 := ih a (by simp) (hw a (by simp))
        omega
    · have h1 := hx hw
      rcases h with rfl | rfl
      · have h2 := comb_size 5 2 1 (xs.map E.simp)
        simp only [show ¬ (5 : Int) = 4 by decide, if_false, if_true]; omega
      · have h2 := comb_size 6 1 2 (xs.map E.simp)
        simp only [show ¬ (6 : Int) = 4 by decide, show ¬ (6 : Int) = 5 by decide, if_false, if_true]; omega
/-! ### Simplified expressions -/
inductive Sim : E → Prop
  | con (o : Int) (h : o = 1 ∨ o = 2) : Sim (.mk o 0 [])
  | var (v : Int) (h : 0 ≤ v ∧ v < 1073741824) : Sim (.mk 3 v [])
  | not (b : E) (hb : Sim b) (h : b.op = 3 ∨ b.op = 5 ∨ b.op = 6) : Sim (.mk 4 0 [b])
  | join (o : Int) (xs : List E) (h : o = 5 ∨ o = 6) (hl : 2 ≤ xs.length) (hn : xs.Nodup) (hs : ∀ a ∈ xs, Sim a) (ho : ∀ a ∈ xs, a.op ≠ 1 ∧ a.op ≠ 2 ∧ a.op ≠ o) (hc : ∀ a ∈ xs, E.mk 4 0 [a] ∉ xs) : Sim (.mk o 0 xs)
theorem Sim.wf {e : E} (h : Sim e) : e.wf 1073741824 := by
  induction h with
  | con o h => rw [wf_mk]; exact .inl ⟨h, rfl, rfl⟩
  | var v h => rw [wf_mk]; exact .inr (.inl ⟨rfl, h.1, h.2, rfl⟩)
  | not b hb h ih => rw [wf_mk]; exact .inr (.inr (.inl ⟨rfl, rfl, rfl, fun a ha => by rw [List.mem_singleton.1 ha]; exact ih⟩))
  | join o xs h hl hn hs ho hc ih => rw [wf_mk]; exact .inr (.inr (.inr ⟨h, rfl, ih⟩))
theorem wf_ok {n : Int} (hn : n ≤ 2147483647) (e : E) : e.wf n → e.ok := by
  induction e using E.ind with
  | h o v xs ih =>
    intro h
    rw [wf_mk] at h
    rw [E.ok, oks_iff]
    rcases h with ⟨h, rfl, rfl⟩ | ⟨rfl, _, _, rfl⟩ | ⟨rfl, rfl, hl, hw⟩ | ⟨h, rfl, hw⟩
    · exact ⟨by omega, by omega, fun a ha => by cases ha⟩
    · exact ⟨by omega, by omega, fun a ha => by cases ha⟩
    · exact ⟨by omega, by omega, fun a ha => ih a ha (hw a ha)⟩
    · exact ⟨by omega, by omega, fun a ha => ih a ha (hw a ha)⟩
theorem Sim.ok {e : E} (h : Sim e) : e.ok := wf_ok (by omega) e h.wf
theorem Sim.op {e : E} (h : Sim e) : 1 ≤ e.op ∧ e.op ≤ 6 := by
  cases h with
  | con o h => show 1 ≤ o ∧ o ≤ 6; omega
  | var v h => show (1 : Int) ≤ 3 ∧ (3 : Int) ≤ 6; omega
  | not b hb h => show (1 : Int) ≤ 4 ∧ (4 : Int) ≤ 6; omega
  | join o xs h => show 1 ≤ o ∧ o ≤ 6; omega
theorem Sim.four {e : E} (h : Sim e) (h4 : e.op = 4) : ∃ b, e = .mk 4 0 [b] ∧ Sim b ∧ (b.op = 3 ∨ b.op = 5 ∨ b.op = 6) := by
  cases h with
  | con o h => have h4 : o = 4 := h4; omega
  | var v h => have h4 : (3 : Int) = 4 := h4; omega
  | not b hb h => exact ⟨b, rfl, hb, h⟩
  | join o xs h => have h4 : o = 4 := h4; omega
theorem Sim.const {e : E} (h : Sim e) {o : Int} (ho : o = 1 ∨ o = 2) (h4 : e.op = o) : e = .mk o 0 [] := by
  cases h with
  | con o' h => have h4 : o' = o := h4; rw [h4]
  | var v h => have h4 : (3 : Int) = o := h4; omega
  | not b hb h => have h4 : (4 : Int) = o := h4; omega
  | join o' xs h => have h4 : o' = o := h4; omega
theorem Sim.arg {e a : E} (h : Sim e) {o : Int} (ho : o = 5 ∨ o = 6) (h4 : e.op = o) (ha : a ∈ e.args) : Sim a ∧ a.op ≠ 1 ∧ a.op ≠ 2 ∧ a.op ≠ o := by
  cases h with
  | con o' h => have h4 : o' = o := h4; omega
  | var v h => have h4 : (3 : Int) = o := h4; omega
  | not b hb h => have h4 : (4 : Int) = o := h4; omega
  | join o' xs h hl hn hs ho' hc =>
    have h4 : o' = o := h4
    subst h4
    exact ⟨hs a ha, ho' a ha⟩
theorem flat_sim {o : Int} (ho : o = 5 ∨ o = 6) {ys : List E} (h : ∀ a ∈ ys, Sim a) : ∀ a ∈ flat o ys, Sim a ∧ a.op ≠ o := by
  intro a ha
  obtain ⟨s, h1, h2⟩ := mem_flat.1 ha
  rcases h2 with ⟨h2, h3⟩ | ⟨h2, h3⟩
  · have := (h s h1).arg ho h2 h3
    exact ⟨this.1, this.2.2.2⟩
  · rw [h3]; exact ⟨h s h1, h2⟩
def Kind (o u z : Int) : Prop := (o = 5 ∧ u = 2 ∧ z = 1) ∨ (o = 6 ∧ u = 1 ∧ z = 2)
theorem comb_sim {o u z : Int} (hk : Kind o u z) {ys : List E} (h : ∀ a ∈ ys, Sim a) : Sim (comb o u z ys) := by
  have ho : o = 5 ∨ o = 6 := hk.imp (fun h => h.1) fun h => h.1
  have hu : u = 1 ∨ u = 2 := by rcases hk with h | h <;> omega
  have hz : z = 1 ∨ z = 2 := by rcases hk with h | h <;> omega
  have huz : ∀ k : Int, k = 1 ∨ k = 2 → k = u ∨ k = z := by rcases hk with h | h <;> omega
  have hf := flat_sim ho h
  obtain ⟨k1, k2, _, _⟩ := keep_spec u (flat o ys)
  unfold comb
  generalize flat o ys = fl at *
  generalize keep u fl = k at *
  split
  · exact .con z hz
  · rename_i hc
    have hc1 : ∀ a ∈ fl, a.op ≠ z := fun a ha e => hc (.inl ⟨a, ha, e⟩)
    have hc2 : ∀ a ∈ k, E.mk 4 0 [a] ∉ k := fun a ha e => hc (.inr ⟨a, ha, e⟩)
    match k with
    | [] => exact .con u hu
    | [x] => exact (hf x ((k1 x).1 (by simp)).1).1
    | x :: y :: k =>
      refine .join o _ ho (by simp) k2 (fun a ha => (hf a ((k1 a).1 ha).1).1) (fun a ha => ?_) hc2
      obtain ⟨q1, q2⟩ := (k1 a).1 ha
      have q3 := hc1 a q1
      have q4 := (hf a q1).2
      refine ⟨fun e => ?_, fun e => ?_, q4⟩
      · rcases huz a.op (.inl e) with e | e
        · exact q2 e
        · exact q3 e
      · rcases huz a.op (.inr e) with e | e
        · exact q2 e
        · exact q3 e
theorem neg_sim {a : E} (h : Sim a) : Sim (neg a) := by
  unfold neg
  have hop := h.op
  split
  · exact .con 2 (.inr rfl)
  · split
    · exact .con 1 (.inl rfl)
    · split
      · rename_i h4
        obtain ⟨b, rfl, hb, _⟩ := h.four h4
        exact hb
      · exact .not a h (by omega)
theorem simp_sim (e : E) : e.wf 1073741824 → Sim e.simp := by
  induction e using E.ind with
  | h o v xs ih =>
    intro hw
    rw [wf_mk] at hw
    rw [simp_mk, simpF]
    have hx : (∀ a ∈ xs, a.wf 1073741824) → ∀ a ∈ xs.map E.simp, Sim a := fun h a ha => by
      obtain ⟨b, hb, rfl⟩ := List.mem_map.1 ha
      exact ih b hb (h b hb)
    rcases hw with ⟨h, rfl, rfl⟩ | ⟨rfl, h1, h2, rfl⟩ | ⟨rfl, rfl, hl, hw⟩ | ⟨h, rfl, hw⟩
    · rw [if_neg (by omega), if_neg (by omega), if_neg (by omega)]
      exact .con o h
    · exact .var v ⟨h1, h2⟩
    · rw [if_pos rfl]
      cases xs with
      | nil => cases hl
      | cons a xs => exact neg_sim (ih a (by simp) (hw a (by simp)))
    · rcases h with rfl | rfl
      · exact comb_sim (.inl ⟨rfl, rfl, rfl⟩) (hx hw)
      · exact comb_sim (.inr ⟨rfl, rfl, rfl⟩) (hx hw)
theorem flat_self {o : Int} : ∀ {ys : List E}, (∀ a ∈ ys, a.op ≠ o) → flat o ys = ys
  | [], _ => rfl
  | a :: ys, h => by
    have h1 : flat o (a :: ys) = (if a.op = o then a.args else [a]) ++ flat o ys := by unfold flat; rw [List.flatMap_cons]
    rw [h1, if_neg (h a (by simp)), flat_self fun b hb => h b (List.mem_cons_of_mem _ hb)]; rfl
theorem comb_self {o u z : Int} (hk : Kind o u z) {xs : List E} (hl : 2 ≤ xs.length) (hn : xs.Nodup) (ho : ∀ a ∈ xs, a.op ≠ 1 ∧ a.op ≠ 2 ∧ a.op ≠ o) (hc : ∀ a ∈ xs, E.mk 4 0 [a] ∉ xs) : comb o u z xs = .mk o 0 xs := by
  have hu : u = 1 ∨ u = 2 := by rcases hk with h | h <;> omega
  have hz : z = 1 ∨ z = 2 := by rcases hk with h | h <;> omega
  unfold comb
  rw [flat_self fun a ha => (ho a ha).2.2, (keep_spec u xs).2.2.2 hn fun a ha => by have := ho a ha; omega]
  rw [if_neg (by
    rintro (⟨a, ha, e⟩ | ⟨a, ha, e⟩)
    · have := ho a ha; omega
    · exact hc a ha e)]
  match xs, hl with
  | x :: y :: k, _ => rfl
theorem Sim.same {e : E} (h : Sim e) : e.simp = e := by
  induction h with
  | con o h => rw [simp_mk, simpF, if_neg (by omega), if_neg (by omega), if_neg (by omega)]
  | var v h => rw [simp_mk, simpF]; rfl
  | not b hb h ih =>
    rw [simp_mk, simpF, if_pos rfl]
    show neg b.simp = _
    rw [ih, neg, if_neg (by omega), if_neg (by omega), if_neg (by omega)]
  | join o xs h hl hn hs ho hc ih =>
    have hm : xs.map E.simp = xs := by
      conv => rhs; rw [← List.map_id xs]
      exact List.map_congr_left ih
    rw [simp_mk, simpF, hm]
    rcases h with rfl | rfl
    · exact comb_self (.inl ⟨rfl, rfl, rfl⟩) hl hn ho hc
    · exact comb_self (.inr ⟨rfl, rfl, rfl⟩) hl hn ho hc
/-! ### The value -/
/-- The value at which a join needs all its arguments: true for 5, false for 6. -/
def tv (o : Int) : Bool := decide (o = 5)
theorem join_ev {f : Int → Bool} {o : Int} (ho : o = 5 ∨ o = 6) {v : Int} {xs : List E} : (E.mk o v xs).ev f = tv o ↔ ∀ a ∈ xs, a.ev f = tv o := by
  rw [ev_mk]
  rcases ho with rfl | rfl
  · show evall f xs = true ↔ ∀ a ∈ xs, a.ev f = true
    exact evall_iff
  · show evany f xs = false ↔ ∀ a ∈ xs, a.ev f = false
    rw [← Bool.not_eq_true, evany_iff]
    constructor
    · intro h a ha
      cases hv : a.ev f with
      | false => rfl
      | true => exact absurd ⟨a, ha, hv⟩ h
    · rintro h ⟨a, ha, hv⟩
      rw [h a ha] at hv; cases hv
theorem const_ev {f : Int → Bool} {o u z : Int} (hk : Kind o u z) : (E.mk u 0 []).ev f = tv o ∧ (E.mk z 0 []).ev f ≠ tv o := by
  rcases hk with ⟨rfl, rfl, rfl⟩ | ⟨rfl, rfl, rfl⟩ <;> simp [ev_mk, tv]
theorem not_ev {f : Int → Bool} (b : E) (v : Int) (l : List E) : (E.mk 4 v (b :: l)).ev f = !(b.ev f) := by rw [ev_mk]; rfl
theorem flat_ev {f : Int → Bool} {o : Int} (ho : o = 5 ∨ o = 6) (ys : List E) : (∀ a ∈ flat o ys, a.ev f = tv o) ↔ ∀ a ∈ ys, a.ev f = tv o := by
  constructor
  · intro h s hs
    by_cases h1 : s.op = o
    · obtain ⟨o', v, xs⟩ := s
      have h1' : o' = o := h1
      subst h1'
      exact (join_ev ho).2 fun a ha => h a (mem_flat.2 ⟨_, hs, .inl ⟨h1, ha⟩⟩)
    · exact h s (mem_flat.2 ⟨s, hs, .inr ⟨h1, rfl⟩⟩)
  · intro h a ha
    obtain ⟨s, hs, h2⟩ := mem_flat.1 ha
    rcases h2 with ⟨h1, h2⟩ | ⟨h1, h2⟩
    · obtain ⟨o', v, xs⟩ := s
      have h1' : o' = o := h1
      subst h1'
      exact (join_ev ho).1 (h _ hs) a h2
    · rw [h2]; exact h s hs
theorem comb_ev {f : Int → Bool} {o u z : Int} (hk : Kind o u z) {ys : List E} (h : ∀ a ∈ ys, Sim a) : (comb o u z ys).ev f = tv o ↔ ∀ a ∈ ys, a.ev f = tv o := by
  have ho : o = 5 ∨ o = 6 := hk.imp (fun h => h.1) fun h => h.1
  have hu : u = 1 ∨ u = 2 := by rcases hk with h | h <;> omega
  have hz : z = 1 ∨ z = 2 := by rcases hk with h | h <;> omega
  obtain ⟨c1, c2⟩ := const_ev (f := f) hk
  have hf := flat_sim ho h
  rw [← flat_ev ho ys]
  obtain ⟨k1, _, _, _⟩ := keep_spec u (flat o ys)
  unfold comb
  generalize flat o ys = fl at *
  generalize hk' : keep u fl = k at *
  have hkf : (∀ a ∈ k, a.ev f = tv o) ↔ ∀ a ∈ fl, a.ev f = tv o := by
    constructor
    · intro q a ha
      by_cases e : a.op = u
      · rw [(hf a ha).1.const hu e]; exact c1
      · exact q a ((k1 a).2 ⟨ha, e⟩)
    · exact fun q a ha => q a ((k1 a).1 ha).1
  rw [← hkf]
  split
  · rename_i hc
    refine ⟨fun e => absurd e c2, fun q => ?_⟩
    exfalso
    rcases hc with ⟨a, ha, e⟩ | ⟨b, hb, hnb⟩
    · have := hkf.1 q a ha
      rw [(hf a ha).1.const hz e] at this
      exact c2 this
    · have q1 := q b hb
      have q2 := q _ hnb
      rw [not_ev, q1] at q2
      cases htv : tv o <;> rw [htv] at q2 <;> cases q2
  · match k with
    | [] => exact ⟨fun _ a ha => by (cases ha), fun _ => c1⟩
    | [x] => simp [fin]
    | x :: y :: k => exact join_ev ho
theorem neg_ev {f : Int → Bool} {a : E} (h : Sim a) : (neg a).ev f = !(a.ev f) := by
  unfold neg
  split
  · rename_i h1; rw [h.const (.inl rfl) h1]; simp [ev_mk]
  · split
    · rename_i h2; rw [h.const (.inr rfl) h2]; simp [ev_mk]
    · split
      · rename_i h4
        obtain ⟨b, rfl, _, _⟩ := h.four h4
        rw [not_ev, Bool.not_not]; rfl
      · exact not_ev _ _ _
theorem bool_of {a b t : Bool} (h : a = t ↔ b = t) : a = b := by
  cases a <;> cases b <;> cases t <;> simp_all
theorem simp_ev (f : Int → Bool) (e : E) : e.wf 1073741824 → e.simp.ev f = e.ev f := by
  induction e using E.ind with
  | h o v xs ih =>
    intro hw
    rw [wf_mk] at hw
    rw [simp_mk, simpF]
    rcases hw with ⟨h, rfl, rfl⟩ | ⟨rfl, h1, h2, rfl⟩ | ⟨rfl, rfl, hl, hw⟩ | ⟨h, rfl, hw⟩
    · rw [if_neg (by omega), if_neg (by omega), if_neg (by omega)]
    · rfl
    · rw [if_pos rfl]
      cases xs with
      | nil => cases hl
      | cons a xs =>
        show (neg a.simp).ev f = _
        rw [neg_ev (simp_sim a (hw a (by simp))), ih a (by simp) (hw a (by simp)), not_ev]
    · have hs : ∀ a ∈ xs.map E.simp, Sim a := fun a ha => by
        obtain ⟨b, hb, rfl⟩ := List.mem_map.1 ha
        exact simp_sim b (hw b hb)
      have he : ∀ t, (∀ a ∈ xs.map E.simp, a.ev f = t) ↔ ∀ a ∈ xs, a.ev f = t := fun t => by
        constructor
        · intro q a ha
          rw [← ih a ha (hw a ha)]
          exact q _ (List.mem_map_of_mem ha)
        · intro q a ha
          obtain ⟨b, hb, rfl⟩ := List.mem_map.1 ha
          rw [ih b hb (hw b hb)]; exact q b hb
      rcases h with rfl | rfl
      · exact bool_of (t := tv 5) ((comb_ev (.inl ⟨rfl, rfl, rfl⟩) hs).trans ((he _).trans (join_ev (.inl rfl)).symm))
      · exact bool_of (t := tv 6) ((comb_ev (.inr ⟨rfl, rfl, rfl⟩) hs).trans ((he _).trans (join_ev (.inr rfl)).symm))
end PM
