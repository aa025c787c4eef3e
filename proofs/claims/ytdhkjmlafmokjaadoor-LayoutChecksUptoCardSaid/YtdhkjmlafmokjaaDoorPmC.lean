/-
  THE PURE MACHINE, C: a block of the call's own is written; a list grows in place or into a new block; a state is weakened.
-/
import Derived.Test.YtdhkjmlafmokjaaDoorPmB
namespace PM
open Go Go.RowKit

theorem heap_setCells_other (b : Nat) : ∀ (vs : List Value) (o : Nat) (w : World) (k : Nat), k ≠ b → (w.setCells b o vs).heap[k]? = w.heap[k]?
  | [], _, _, _, _ => rfl
  | v :: r, o, w, k, h => by
    rw [World.setCells, heap_setCells_other b r (o + 1) _ k h]
    exact Below.heap_setCell w ⟨b, o, none⟩ v k h
theorem size_setCells (b : Nat) : ∀ (vs : List Value) (o : Nat) (w : World), (w.setCells b o vs).heap.size = w.heap.size
  | [], _, _ => rfl
  | v :: r, o, w => by rw [World.setCells, size_setCells b r (o + 1)]; simp
theorem rest_setCells (b : Nat) : ∀ (vs : List Value) (o : Nat) (w : World), (w.setCells b o vs).os = w.os ∧ (w.setCells b o vs).tape = w.tape ∧ (w.setCells b o vs).output = w.output ∧ (w.setCells b o vs).drawn = w.drawn
  | [], _, _ => ⟨rfl, rfl, rfl, rfl⟩
  | v :: r, o, w => by rw [World.setCells]; exact rest_setCells b r (o + 1) _

/-- w' is w but for block b. -/
structure But (b : Nat) (w w' : World) : Prop where
  os : w'.os = w.os
  tape : w'.tape = w.tape
  output : w'.output = w.output
  size : w'.heap.size = w.heap.size
  block : ∀ k, k ≠ b → w'.heap[k]? = w.heap[k]?
  drawn : w'.drawn = w.drawn
theorem but_setCells (w : World) (b o : Nat) (vs : List Value) : But b w (w.setCells b o vs) :=
  ⟨(rest_setCells b vs o w).1, (rest_setCells b vs o w).2.1, (rest_setCells b vs o w).2.2.1, size_setCells b vs o w, fun k hk => heap_setCells_other b vs o w k hk, (rest_setCells b vs o w).2.2.2⟩
theorem But.below {b : Nat} {E : Nat → Prop} {w0 w w' : World} (h : BelowE E w0 w) (hb : But b w w') (hB : w0.heap.size ≤ b ∨ E b) : BelowE E w0 w' :=
  ⟨hb.os.trans h.os, hb.tape.trans h.tape, hb.output.trans h.output, by rw [hb.size]; exact h.size, fun k hk he => (hb.block k (fun e => hB.elim (fun q => by omega) fun q => he (e ▸ q))).trans (h.block k hk he), by rw [hb.drawn]; exact h.dr⟩
theorem But.cell {b : Nat} {w w' : World} (hb : But b w w') {k o : Nat} (h : k ≠ b) : w'.cell? ⟨k, o, none⟩ = w.cell? ⟨k, o, none⟩ := World.cell?_of_block (w := w) (a := ⟨k, o, none⟩) (hb.block k h)
theorem But.frozen {b : Nat} {w w' : World} (hb : But b w w') {k o : Nat} (h : k ≠ b) : w'.frozen? ⟨k, o, none⟩ = w.frozen? ⟨k, o, none⟩ := World.frozen?_of_block (w := w) (a := ⟨k, o, none⟩) (hb.block k h)

section
variable {Gl : Nat → Option (List PV)} {S0 : Bs} {w0 : World} {s : PSt} {a : Act} {g : GG}

/-- A block of the call's own is written. -/
theorem InvG.setObj (h : InvG Gl S0 w0 s a g) {l : Nat} {ob ob' : PObj} {w' : World} (hl : g.H l = some ob) (hb : But (g.φ l) g.w w')
    (hshape : ∀ cs, ob = .cells cs → ∃ cs', ob' = .cells cs' ∧ cs'.length = cs.length) (hob : ∀ g', GLe g g' → g'.w = w' → ObjOK g' (g.φ l) ob') :
    InvG Gl S0 w0 { s with H := upd s.H l (some ob') } a { g with w := w', H := upd g.H l (some ob') } ∧ GLe g { g with w := w', H := upd g.H l (some ob') } := by
  obtain ⟨o1, o2, o3, o4⟩ := h.objs l ob hl
  have hle : GLe g { g with w := w', H := upd g.H l (some ob') } := by
    refine ⟨fun _ _ h => h, fun B o hBo => hb.cell (fun e => o3 o (e ▸ hBo)), fun B hB => hb.block _ (fun e => o3 0 (e ▸ hB 0)), fun l' ob1 h1 => ⟨rfl, ?_⟩, fun t n k ht => ⟨n, ht, Nat.le_refl _, fun _ => rfl⟩⟩
    by_cases e : l' = l
    · subst e
      rw [hl] at h1; cases h1
      exact ⟨ob', upd_same _ _ _, hshape⟩
    · exact ⟨ob1, by show upd g.H l _ l' = _; rw [upd_other _ _ _ _ e]; exact h1, fun cs e => ⟨cs, e, rfl⟩⟩
  have hsome : ∀ l', ((upd g.H l (some ob')) l').isSome = true → (g.H l').isSome = true := fun l' h1 => by
    by_cases e : l' = l
    · rw [e, hl]; rfl
    · rwa [upd_other _ _ _ _ e] at h1
  refine ⟨{ hH := by rw [← h.hH], hT := h.hT, defers := h.defers, len := h.len, tm := fun i p v hp hv => (h.tm i p v hp hv).mono hle, sub := h.sub, new := h.new, lt := fun B o hBo => by show B < w'.heap.size; rw [hb.size]; exact h.lt B o hBo, below := hb.below h.below o1, objs := fun l' ob1 hob1 => ?_, inj := fun l1 l2 h1 h2 he => h.inj l1 l2 (hsome l1 h1) (hsome l2 h2) he, owns := fun t n k ht => ?_, ownsEx := fun t t' B hs hs' => h.ownsEx t t' B (hs.congr rfl rfl) (hs'.congr rfl rfl), ownsObj := fun t B l' hs hl' => h.ownsObj t B l' (hs.congr rfl rfl) (hsome l' hl'), glob := fun i cs hi => (h.glob i cs hi).mono hle.S hle.cell hle.blk, exs := fun t k b xss hX => (h.exs t k b xss hX).mono hle rfl rfl (Nat.le_of_eq hb.size.symm) fun B off n cap e1 e2 e3 e4 e5 e6 => ⟨fun o => hb.cell fun e => e5 l (by rw [hl]; rfl) e.symm, fun o => hb.frozen fun e => e5 l (by rw [hl]; rfl) e.symm, e4, fun l' hl' => e5 l' (hsome l' hl'), fun t' hs => e6 t' (hs.congr rfl rfl)⟩, exsEx := fun t t' B h1 h2 => h.exsEx t t' B (h1.congr rfl) (h2.congr rfl), fix := fun l' B hF => ⟨(h.fix l' B hF).1, fun hs => (h.fix l' B hF).2 (hsome l' hs)⟩, fixT := h.fixT }, hle⟩
  · by_cases e : l' = l
    · subst e
      have h1 : upd g.H l' (some ob') l' = some ob1 := hob1
      rw [upd_same] at h1; cases h1
      exact ⟨o1, by show g.φ l' < w'.heap.size; rw [hb.size]; exact o2, o3, hob _ hle rfl⟩
    · have h1 : upd g.H l (some ob') l' = some ob1 := hob1
      rw [upd_other _ _ _ _ e] at h1
      obtain ⟨k1, k2, k3, k4⟩ := h.objs l' ob1 h1
      have hne : g.φ l' ≠ g.φ l := fun he => e (h.inj l' l (by rw [h1]; rfl) (by rw [hl]; rfl) he)
      exact ⟨k1, by show g.φ l' < w'.heap.size; rw [hb.size]; exact k2, k3, k4.mono hle (fun o => hb.cell hne) (fun o => hb.frozen hne) (fun arr c hc => by show w'.heap[_]? = _; rw [hb.block _ hne]; exact hc)⟩
  · rcases h.owns t n k ht with hn | ⟨B, off, cap, e1, e2, e3⟩
    · exact .inl hn
    · refine .inr ⟨B, off, cap, e1, e2, fun hlt => ?_⟩
      obtain ⟨f1, f2, f3, f4⟩ := e3 hlt
      have hne : B ≠ g.φ l := fun he => h.ownsObj t B l ⟨n, k, off, cap, ht, e1, hlt⟩ (by rw [hl]; rfl) he.symm
      exact ⟨f1, by show B < w'.heap.size; rw [hb.size]; exact f2, fun j hj => by show (w'.cell? _).isSome = true ∧ w'.frozen? _ = false; rw [hb.cell hne, hb.frozen hne]; exact f3 j hj, f4⟩

/-- A list grows in place: the new cells are written into the spare ones. -/
theorem InvG.tokRoom (h : InvG Gl S0 w0 s a g) {t n k m B off cap : Nat} {vs : List Value} (ht : g.T t = some (n, k)) (hhd : g.hd t = .slice (some ⟨B, off, none⟩) n cap)
    (hm : 0 < m) (hcap : n + m ≤ cap) (hvs : vs.length = m * k) (hk0 : k ≠ 0) (hX : s.X t = none) :
    InvG Gl S0 w0 { s with T := upd s.T t (some (n + m, k)) } a
      { g with w := g.w.setCells B (off + n * k) vs, S := fun b o => g.S b o ∨ (b = B ∧ off + n * k ≤ o ∧ o < off + (n + m) * k), hd := fun x => if x = t then .slice (some ⟨B, off, none⟩) (n + m) cap else g.hd x, T := upd g.T t (some (n + m, k)) } ∧
    GLe g { g with w := g.w.setCells B (off + n * k) vs, S := fun b o => g.S b o ∨ (b = B ∧ off + n * k ≤ o ∧ o < off + (n + m) * k), hd := fun x => if x = t then .slice (some ⟨B, off, none⟩) (n + m) cap else g.hd x, T := upd g.T t (some (n + m, k)) } := by
  have hroom : Room n k cap := .of_lt (by omega)
  have hsp : Spare g t B := ⟨n, k, off, cap, ht, hhd, hroom⟩
  obtain ⟨⟨f1, f1'⟩, f2, f3, f4⟩ : (w0.heap.size ≤ B ∧ off = 0) ∧ B < g.w.heap.size ∧ g.w.there B off (cap * k) ∧ ∀ o, g.S B o → o < off + n * k := by
    rcases h.owns t n k ht with ⟨e, _⟩ | ⟨B', off', cap', e, _, hr⟩
    · rw [e] at hhd; cases hhd
    · rw [e] at hhd; cases hhd; exact ⟨(hr hroom).1 hk0, (hr hroom).2.1, (hr hroom).2.2.1, (hr hroom).2.2.2 hk0⟩
  have hb := but_setCells g.w B (off + n * k) vs
  have hmul : (n + m) * k = n * k + m * k := Nat.add_mul n m k
  have hle : GLe g { g with w := g.w.setCells B (off + n * k) vs, S := fun b o => g.S b o ∨ (b = B ∧ off + n * k ≤ o ∧ o < off + (n + m) * k), hd := fun x => if x = t then .slice (some ⟨B, off, none⟩) (n + m) cap else g.hd x, T := upd g.T t (some (n + m, k)) } := by
    refine ⟨fun _ _ h => .inl h, fun b o hbo => ?_, fun b hbo => hb.block _ fun e => absurd (f4 (off + n * k) (e ▸ hbo (off + n * k))) (Nat.lt_irrefl _), fun l ob h1 => ⟨rfl, ob, h1, fun cs e => ⟨cs, e, rfl⟩⟩, fun t' n' k' h1 => ?_⟩
    · by_cases e : b = B
      · subst e
        exact World.cell?_setCells_out _ _ _ _ _ (fun _ _ => .inl (f4 o hbo))
      · exact hb.cell e
    · by_cases e : t' = t
      · subst e
        rw [ht] at h1; cases h1
        exact ⟨n + m, upd_same _ _ _, by omega, fun e => by omega⟩
      · exact ⟨n', by show upd g.T t _ t' = _; rw [upd_other _ _ _ _ e]; exact h1, Nat.le_refl _, fun _ => if_neg e⟩
  have hspare : ∀ t' b, Spare { g with w := g.w.setCells B (off + n * k) vs, S := fun b o => g.S b o ∨ (b = B ∧ off + n * k ≤ o ∧ o < off + (n + m) * k), hd := fun x => if x = t then .slice (some ⟨B, off, none⟩) (n + m) cap else g.hd x, T := upd g.T t (some (n + m, k)) } t' b → Spare g t' b := by
    rintro t' b ⟨n', k', off', cap', h1, h2, h3⟩
    by_cases e : t' = t
    · subst e
      simp only [if_true] at h2
      cases h2
      exact hsp
    · have h1' : upd g.T t (some (n + m, k)) t' = some (n', k') := h1
      rw [upd_other _ _ _ _ e] at h1'
      simp only [if_neg e] at h2
      exact ⟨n', k', off', cap', h1', h2, h3⟩
  have hxb : ∀ t' b, XB s.X { g with w := g.w.setCells B (off + n * k) vs, S := fun b o => g.S b o ∨ (b = B ∧ off + n * k ≤ o ∧ o < off + (n + m) * k), hd := fun x => if x = t then .slice (some ⟨B, off, none⟩) (n + m) cap else g.hd x, T := upd g.T t (some (n + m, k)) } t' b → XB s.X g t' b := by
    rintro t' b ⟨h1, off', n', cap', h2⟩
    have hne : t' ≠ t := fun e => by rw [e, hX] at h1; cases h1
    simp only [if_neg hne] at h2
    exact ⟨h1, off', n', cap', h2⟩
  refine ⟨{ hH := h.hH, hT := by rw [← h.hT], defers := h.defers, len := h.len, tm := fun i p v hp hv => (h.tm i p v hp hv).mono hle, sub := fun b o hbo => .inl (h.sub b o hbo), new := fun b o hbo => ?_, lt := fun b o hbo => ?_, below := hb.below h.below (.inl f1), objs := fun l ob hob => ?_, inj := h.inj, owns := fun t' n' k' ht' => ?_, ownsEx := fun t1 t2 b h1 h2 => h.ownsEx t1 t2 b (hspare t1 b h1) (hspare t2 b h2), ownsObj := fun t' b l hs hl => h.ownsObj t' b l (hspare t' b hs) hl, glob := fun i cs hi => (h.glob i cs hi).mono hle.S hle.cell hle.blk, exs := fun t' k' b' xss' hx => ?_, exsEx := fun t1 t2 b h1 h2 => h.exsEx t1 t2 b (hxb t1 b h1) (hxb t2 b h2), fix := h.fix, fixT := fun t' v' n' hF => ⟨(h.fixT t' v' n' hF).1, fun n0 e => by
    have e' : upd g.T t (some (n + m, k)) t' = some (n0, 0) := e
    by_cases q : t' = t
    · rw [q, upd_same] at e'; cases e'; exact absurd rfl hk0
    · rw [upd_other _ _ _ _ q] at e'
      simp only [if_neg q]; exact (h.fixT t' v' n' hF).2 n0 e'⟩ }, hle⟩
  rotate_right
  · have hne : t' ≠ t := fun e => by rw [e, hX] at hx; cases hx
    refine (h.exs t' k' b' xss' hx).mono hle (upd_other _ _ _ _ hne) (if_neg hne) (Nat.le_of_eq hb.size.symm) fun B' off' n' cap' e1 e2 e3 e4 e5 e6 => ?_
    have hBB : B' ≠ B := fun e => hne (e6 t (e ▸ hsp)).symm
    exact ⟨fun o => hb.cell hBB, fun o => hb.frozen hBB, fun o ho => ho.elim (e4 o) fun q => hBB q.1, e5, fun t2 hs => e6 t2 (hspare t2 B' hs)⟩
  · rcases hbo with hbo | ⟨rfl, _, _⟩
    · exact h.new b o hbo
    · exact .inr (.inl f1)
  · show b < (g.w.setCells B (off + n * k) vs).heap.size
    rw [hb.size]
    rcases hbo with hbo | ⟨rfl, _, _⟩
    · exact h.lt b o hbo
    · exact f2
  · obtain ⟨k1, k2, k3, k4⟩ := h.objs l ob hob
    have hne : g.φ l ≠ B := h.ownsObj t B l hsp (by rw [show g.H l = some ob from hob]; rfl)
    exact ⟨k1, by show g.φ l < (g.w.setCells B (off + n * k) vs).heap.size; rw [hb.size]; exact k2, fun o ho => ho.elim (k3 o) (fun e => hne e.1), k4.mono hle (fun o => hb.cell hne) (fun o => hb.frozen hne) (fun arr c hc => by show (g.w.setCells B (off + n * k) vs).heap[_]? = _; rw [hb.block _ hne]; exact hc)⟩
  · by_cases e : t' = t
    · subst e
      have h1 : upd g.T t' (some (n + m, k)) t' = some (n', k') := ht'
      rw [upd_same] at h1; cases h1
      refine .inr ⟨B, off, cap, if_pos rfl, hcap, fun hlt => ⟨fun _ => ⟨f1, f1'⟩, by show B < (g.w.setCells B (off + n * k) vs).heap.size; rw [hb.size]; exact f2, World.there_setCells f3 B (off + n * k) vs, fun _ o ho => ?_⟩⟩
      · rcases ho with ho | ⟨_, _, ho⟩
        · have := f4 o ho; rw [hmul]; omega
        · exact ho
    · have h1 : upd g.T t (some (n + m, k)) t' = some (n', k') := ht'
      rw [upd_other _ _ _ _ e] at h1
      unfold OwnOK
      simp only [if_neg e]
      rcases h.owns t' n' k' h1 with hn | ⟨B', off', cap', e1, e2, e3⟩
      · exact .inl hn
      · refine .inr ⟨B', off', cap', e1, e2, fun hlt => ?_⟩
        obtain ⟨q1, q2, q3, q4⟩ := e3 hlt
        have hne : B' ≠ B := fun he => e (h.ownsEx t' t B' ⟨n', k', off', cap', h1, e1, hlt⟩ (by rw [he]; exact hsp))
        exact ⟨q1, by rw [hb.size]; exact q2, fun j hj => by rw [hb.cell hne, hb.frozen hne]; exact q3 j hj, fun hk o ho => ho.elim (q4 hk o) (fun e' => absurd e'.1 hne)⟩

/-- A token gets a longer list, in a block of which no other token has a part. -/
theorem InvG.setTok (h : InvG Gl S0 w0 s a g) {t n k : Nat} {v : Value} (ht : ∀ n0 k0, g.T t = some (n0, k0) → k0 = k ∧ n0 < n) (hk0 : k ≠ 0)
    (hok : ∀ g' : GG, g'.w = g.w → g'.S = g.S → g'.hd t = v → OwnOK g' w0.heap.size t n k)
    (hsp : ∀ B off cap, v = .slice (some ⟨B, off, none⟩) n cap → Room n k cap → (∀ t', ¬ Spare g t' B) ∧ (∀ l, (g.H l).isSome = true → g.φ l ≠ B) ∧ ∀ t', ¬ XB s.X g t' B) (hX : s.X t = none) :
    InvG Gl S0 w0 { s with T := upd s.T t (some (n, k)) } a { g with hd := fun x => if x = t then v else g.hd x, T := upd g.T t (some (n, k)) } ∧ GLe g { g with hd := fun x => if x = t then v else g.hd x, T := upd g.T t (some (n, k)) } := by
  have hle : GLe g { g with hd := fun x => if x = t then v else g.hd x, T := upd g.T t (some (n, k)) } := by
    refine ⟨fun _ _ h => h, fun _ _ _ => rfl, fun _ _ => rfl, fun l ob h1 => ⟨rfl, ob, h1, fun cs e => ⟨cs, e, rfl⟩⟩, fun t' n' k' h1 => ?_⟩
    by_cases e : t' = t
    · subst e
      obtain ⟨rfl, hlt⟩ := ht _ _ h1
      exact ⟨n, upd_same _ _ _, by omega, fun e => by omega⟩
    · exact ⟨n', by show upd g.T t _ t' = _; rw [upd_other _ _ _ _ e]; exact h1, Nat.le_refl _, fun _ => if_neg e⟩
  have hspare : ∀ t' B, Spare { g with hd := fun x => if x = t then v else g.hd x, T := upd g.T t (some (n, k)) } t' B → (t' = t ∧ ∃ off cap, v = .slice (some ⟨B, off, none⟩) n cap ∧ Room n k cap) ∨ (t' ≠ t ∧ Spare g t' B) := by
    rintro t' B ⟨n', k', off, cap, h1, h2, h3⟩
    by_cases e : t' = t
    · subst e
      have h1' : upd g.T t' (some (n, k)) t' = some (n', k') := h1
      rw [upd_same] at h1'
      cases h1'
      simp only [if_true] at h2
      exact .inl ⟨rfl, off, cap, h2, h3⟩
    · have h1' : upd g.T t (some (n, k)) t' = some (n', k') := h1
      rw [upd_other _ _ _ _ e] at h1'
      simp only [if_neg e] at h2
      exact .inr ⟨e, n', k', off, cap, h1', h2, h3⟩
  have hxb : ∀ t' b, XB s.X { g with hd := fun x => if x = t then v else g.hd x, T := upd g.T t (some (n, k)) } t' b → XB s.X g t' b := by
    rintro t' b ⟨h1, off', n', cap', h2⟩
    have hne : t' ≠ t := fun e => by rw [e, hX] at h1; cases h1
    simp only [if_neg hne] at h2
    exact ⟨h1, off', n', cap', h2⟩
  refine ⟨{ hH := h.hH, hT := by rw [← h.hT], defers := h.defers, len := h.len, tm := fun i p v hp hv => (h.tm i p v hp hv).mono hle, sub := h.sub, new := h.new, lt := h.lt, below := h.below, objs := fun l ob hob => ?_, inj := h.inj, owns := fun t' n' k' ht' => ?_, ownsEx := fun t1 t2 B h1 h2 => ?_, ownsObj := fun t' B l hs hl => ?_, glob := h.glob, exs := fun t' k' b' xss' hx => ?_, exsEx := fun t1 t2 b h1 h2 => h.exsEx t1 t2 b (hxb t1 b h1) (hxb t2 b h2), fix := h.fix, fixT := fun t' v' n' hF => ⟨(h.fixT t' v' n' hF).1, fun n0 e => by
    have e' : upd g.T t (some (n, k)) t' = some (n0, 0) := e
    by_cases q : t' = t
    · rw [q, upd_same] at e'; cases e'; exact absurd rfl hk0
    · rw [upd_other _ _ _ _ q] at e'
      simp only [if_neg q]; exact (h.fixT t' v' n' hF).2 n0 e'⟩ }, hle⟩
  rotate_right
  · have hne : t' ≠ t := fun e => by rw [e, hX] at hx; cases hx
    refine (h.exs t' k' b' xss' hx).mono hle (upd_other _ _ _ _ hne) (if_neg hne) (Nat.le_refl _) fun B' off' n' cap' e1 e2 e3 e4 e5 e6 => ⟨fun _ => rfl, fun _ => rfl, e4, e5, fun t2 hs => ?_⟩
    rcases hspare t2 B' hs with ⟨_, off2, cap2, q1, q2⟩ | ⟨_, q⟩
    · exact absurd (show XB s.X g t' B' from ⟨by rw [hx]; rfl, off', n', cap', e1⟩) ((hsp B' off2 cap2 q1 q2).2.2 t')
    · exact e6 t2 q
  · obtain ⟨k1, k2, k3, k4⟩ := h.objs l ob hob
    exact ⟨k1, k2, k3, k4.mono hle (fun _ => rfl) (fun _ => rfl) (fun _ _ h => h)⟩
  · by_cases e : t' = t
    · subst e
      have h1 : upd g.T t' (some (n, k)) t' = some (n', k') := ht'
      rw [upd_same] at h1
      cases h1
      exact hok _ rfl rfl (if_pos rfl)
    · have h1 : upd g.T t (some (n, k)) t' = some (n', k') := ht'
      rw [upd_other _ _ _ _ e] at h1
      have := h.owns t' n' k' h1
      unfold OwnOK at this ⊢
      simp only [if_neg e]
      exact this
  · rcases hspare t1 B h1 with ⟨e1, off, cap, e, hlt⟩ | ⟨e1, h1'⟩ <;> rcases hspare t2 B h2 with ⟨e2, off2, cap2, e', hlt'⟩ | ⟨e2, h2'⟩
    · rw [e1, e2]
    · exact absurd h2' ((hsp B off cap e hlt).1 t2)
    · exact absurd h1' ((hsp B off2 cap2 e' hlt').1 t1)
    · exact h.ownsEx t1 t2 B h1' h2'
  · rcases hspare t' B hs with ⟨e1, off, cap, e, hlt⟩ | ⟨e1, h1'⟩
    · exact (hsp B off cap e hlt).2.1 l hl
    · exact h.ownsObj t' B l h1' hl

theorem InvG.drew (h : InvG Gl S0 w0 s a g) : InvG Gl S0 w0 s a { g with w := g.w.drew } ∧ GLe g { g with w := g.w.drew } :=
  h.grow' ((BelowD.refl _ _).drew)
end

/-! ### Weakening -/
def live0 (H : Nat → Option PObj) : PV → Bool
  | .ref l _ => (H l).isSome
  | _ => true
def live1 (H : Nat → Option PObj) (T : Nat → Option (Nat × Nat)) : PV → Bool
  | .lst (.own t) _ _ _ => (T t).isSome
  | .ex t _ _ _ _ _ | .eref t _ _ _ _ => (T t).isSome
  | .ref l _ | .mp l | .sl l _ _ _ _ => (H l).isSome
  | .fn _ caps => caps.all (live0 H)
  | _ => true
def liveA (H : Nat → Option PObj) (T : Nat → Option (Nat × Nat)) : PV → Bool
  | .agg cs => cs.all (live1 H T)
  | p => live1 H T p
def liveV (H : Nat → Option PObj) (T : Nat → Option (Nat × Nat)) : PV → Bool
  | .tup vs => vs.all (liveA H T)
  | p => liveA H T p
/-- One cell, said less of. -/
inductive Wk1 (H : Nat → Option PObj) (T : Nat → Option (Nat × Nat)) : PV → PV → Prop
  | any (p : PV) : Wk1 H T p .any
  | same (p : PV) (h : live1 H T p = true) : Wk1 H T p p
  | thaw (t k b : Nat) (xss : List (List PV)) : Wk1 H T (.lst (.own t) k b xss) (.lst .frozen k b xss)
  | full (k b : Nat) (xss : List (List PV)) : Wk1 H T (.lst .full k b xss) (.lst .frozen k b xss)
  | nil (o : Own) (k b : Nat) (ho : o = .frozen ∨ o = .full) : Wk1 H T .nil (.lst o k b [])
/-- One cell or an aggregate, said less of. -/
inductive WkA (H : Nat → Option PObj) (T : Nat → Option (Nat × Nat)) : PV → PV → Prop
  | any (p : PV) : WkA H T p .any
  | same (p : PV) (h : liveA H T p = true) (ht : ∀ vs, p ≠ .tup vs) : WkA H T p p
  | thaw (t k b : Nat) (xss : List (List PV)) : WkA H T (.lst (.own t) k b xss) (.lst .frozen k b xss)
  | full (k b : Nat) (xss : List (List PV)) : WkA H T (.lst .full k b xss) (.lst .frozen k b xss)
  | nil (o : Own) (k b : Nat) (ho : o = .frozen ∨ o = .full) : WkA H T .nil (.lst o k b [])
  | agg (cs cs' : List PV) (h : All2 (Wk1 H T) cs cs') : WkA H T (.agg cs) (.agg cs')
inductive WkV (H : Nat → Option PObj) (T : Nat → Option (Nat × Nat)) : PV → PV → Prop
  | any (p : PV) : WkV H T p .any
  | same (p : PV) (h : liveV H T p = true) : WkV H T p p
  | part (p q : PV) (h : WkA H T p q) : WkV H T p q
  | tup (vs vs' : List PV) (h : All2 (WkA H T) vs vs') : WkV H T (.tup vs) (.tup vs')
inductive WkO (H : Nat → Option PObj) (T : Nat → Option (Nat × Nat)) : PObj → PObj → Prop
  | cells (cs cs' : List PV) (h : All2 (Wk1 H T) cs cs') : WkO H T (.cells cs) (.cells cs')
  | map (es : List (PV × PV)) : WkO H T (.map es) (.map es)
  | iter (b : ByteArray) (pos : Nat) : WkO H T (.iter b pos) (.iter b pos)
/-- s' says no more than s. -/
structure Weaker (s s' : PSt) : Prop where
  tm : All2 (WkV s'.H s'.T) s.tm s'.tm
  H : ∀ l ob', s'.H l = some ob' → ∃ ob, s.H l = some ob ∧ WkO s'.H s'.T ob ob'
  T : ∀ t x, s'.T t = some x → s.T t = some x
  X : ∀ t x, s'.X t = some x → s.X t = some x ∧ (s'.T t).isSome = true

section
variable {g : GG} {H' : Nat → Option PObj} {T' : Nat → Option (Nat × Nat)}
/-- What H', T' are to g. -/
structure Cut (g : GG) (H' : Nat → Option PObj) (T' : Nat → Option (Nat × Nat)) : Prop where
  T : ∀ t x, T' t = some x → g.T t = some x
  H : ∀ l cs, g.H l = some (.cells cs) → (H' l).isSome = true → ∃ cs', H' l = some (.cells cs') ∧ cs'.length = cs.length
theorem Rel0.live {p : PV} {v : Value} (h : Rel0 g p v) (hl : live0 H' p = true) : Rel0 { g with H := H', T := T' } p v := by
  cases p <;> simp only [Rel0, live0] at h hl ⊢
  case ref => exact ⟨h.1, hl⟩
  all_goals exact h
theorem Rel1.live (hc : Cut g H' T') {p : PV} {v : Value} (h : Rel1 g p v) (hl : live1 H' T' p = true) : Rel1 { g with H := H', T := T' } p v := by
  cases p
  case lst o k b xss =>
    cases o
    case own t =>
      simp only [Rel1, live1] at h hl ⊢
      obtain ⟨h1, n, h2, h3⟩ := h
      obtain ⟨x, hx⟩ := Option.isSome_iff_exists.1 hl
      have := hc.T t x hx
      rw [h2] at this; cases this
      exact ⟨h1, n, hx, h3⟩
    all_goals exact h
  case ex t k b N o n =>
    simp only [Rel1, live1] at h hl ⊢
    obtain ⟨h1, n, h2, h3⟩ := h
    obtain ⟨x, hx⟩ := Option.isSome_iff_exists.1 hl
    have := hc.T t x hx
    rw [h2] at this; cases this
    exact ⟨h1, n, hx, h3⟩
  case eref t k N j off =>
    simp only [Rel1, live1] at h hl ⊢
    obtain ⟨h1, n, h2, h3⟩ := h
    obtain ⟨x, hx⟩ := Option.isSome_iff_exists.1 hl
    have := hc.T t x hx
    rw [h2] at this; cases this
    exact ⟨h1, n, hx, h3⟩
  case ref l off => exact ⟨h.1, hl⟩
  case mp l => exact ⟨h.1, hl⟩
  case sl l o len k b =>
    simp only [Rel1, live1] at h hl ⊢
    obtain ⟨h1, cs, h2, h3⟩ := h
    obtain ⟨cs', e1, e2⟩ := hc.H l cs h2 hl
    exact ⟨h1, cs', e1, by omega⟩
  case fn f caps =>
    simp only [Rel1, live1] at h hl ⊢
    obtain ⟨arr, h1, h2⟩ := h
    exact ⟨arr, h1, h2.1, fun i x y hx hy => (h2.2 i x y hx hy).live (List.all_eq_true.1 hl x (List.mem_of_getElem? hx))⟩
  all_goals exact h
theorem RelD.unfull {S : Cells} {w : World} {k b : Nat} {xss : List (List PV)} {v : Value} (h : RelD S w (.lst .full k b xss) v) : RelD S w (.lst .frozen k b xss) v := by
  simp only [RelD] at h ⊢
  obtain ⟨h1, h2, h3, h4⟩ := h
  refine ⟨h1, h2, .inl trivial, h4.imp id ?_⟩
  rintro ⟨B, off, cap, e1, e2, e3, e4⟩
  exact ⟨B, off, cap, e1, e2, fun e => (by cases e), e4⟩
theorem RelD.ofNil {S : Cells} {w : World} {o : Own} {v : Value} (k b : Nat) (ho : o = .frozen ∨ o = .full) (h : RelD S w .nil v) : RelD S w (.lst o k b []) v := by
  have hv : v = .slice none 0 0 := by simpa only [RelD] using h
  subst hv
  simp only [RelD]
  exact ⟨by simp, by simp, ho, .inl (by simp)⟩
theorem Rel1.weak (hc : Cut g H' T') {p q : PV} {v : Value} (h : Rel1 g p v) (hw : Wk1 H' T' p q) : Rel1 { g with H := H', T := T' } q v := by
  cases hw with
  | any => trivial
  | same _ hl => exact h.live hc hl
  | thaw t k b xss => exact h.1
  | full k b xss => exact RelD.unfull h
  | nil o k b ho => rcases ho with rfl | rfl <;> exact RelD.ofNil k b (by simp) h
theorem RelC.weak (hc : Cut g H' T') {p q : PV} {v : Value} (h : RelC g p v) (hw : Wk1 H' T' p q) : RelC { g with H := H', T := T' } q v := ⟨h.1.weak hc hw, h.2⟩
theorem All2.comp {α β γ : Type} {R : α → γ → Prop} {W : α → β → Prop} {R' : β → γ → Prop} {xs : List α} {ys : List β} {zs : List γ} (h : All2 R xs zs) (hw : All2 W xs ys) (hr : ∀ x y z, R x z → W x y → R' y z) : All2 R' ys zs :=
  ⟨hw.1.symm.trans h.1, fun i y z hy hz => by
    obtain ⟨x, hx, hxy⟩ := hw.left hy
    exact hr x y z (h.2 i x z hx hz) hxy⟩
theorem RelA.live (hc : Cut g H' T') {p : PV} {v : Value} (h : RelA g p v) (hl : liveA H' T' p = true) : RelA { g with H := H', T := T' } p v := by
  cases p
  case agg cs =>
    simp only [RelA, liveA] at h hl ⊢
    obtain ⟨arr, e1, e2⟩ := h
    exact ⟨arr, e1, e2.1, fun i x y hx hy => ⟨(e2.2 i x y hx hy).1.live hc (List.all_eq_true.1 hl x (List.mem_of_getElem? hx)), (e2.2 i x y hx hy).2⟩⟩
  all_goals (simp only [RelA, liveA] at h hl ⊢; exact h.live hc hl)
theorem Rel.live (hc : Cut g H' T') {p : PV} {v : Value} (h : Rel g p v) (hl : liveV H' T' p = true) : Rel { g with H := H', T := T' } p v := by
  cases p
  case tup vs =>
    simp only [Rel, liveV] at h hl ⊢
    obtain ⟨arr, h1, h2⟩ := h
    exact ⟨arr, h1, h2.1, fun i x y hx hy => (h2.2 i x y hx hy).live hc (List.all_eq_true.1 hl x (List.mem_of_getElem? hx))⟩
  all_goals (simp only [Rel, liveV] at h hl ⊢; exact h.live hc hl)
theorem RelA.weak (hc : Cut g H' T') {p q : PV} {v : Value} (h : RelA g p v) (hw : WkA H' T' p q) : RelA { g with H := H', T := T' } q v := by
  cases hw with
  | any => trivial
  | same _ hl ht => exact h.live hc hl
  | thaw t k b xss => exact h.1
  | full k b xss => exact RelD.unfull h
  | nil o k b ho => rcases ho with rfl | rfl <;> exact RelD.ofNil k b (by simp) h
  | agg cs cs' hw =>
    simp only [RelA] at h ⊢
    obtain ⟨arr, h1, h2⟩ := h
    exact ⟨arr, h1, h2.comp hw fun x y z hx hw => hx.weak hc hw⟩
theorem Rel1.relA' {g : GG} {p : PV} {v : Value} (h : Rel1 g p v) : RelA g p v := by
  cases p <;> first | exact h | exact h.elim
theorem RelA.rel {g : GG} {p : PV} {v : Value} (h : RelA g p v) : Rel g p v := by
  cases p <;> first | exact h | exact h.elim
theorem Rel.weak (hc : Cut g H' T') {p q : PV} {v : Value} (h : Rel g p v) (hw : WkV H' T' p q) : Rel { g with H := H', T := T' } q v := by
  cases hw with
  | any => trivial
  | same _ hl => exact h.live hc hl
  | part _ _ hw =>
    have hp : (∀ vs, p ≠ .tup vs) ∨ q = .any := by
      cases hw with
      | any => exact .inr rfl
      | same _ _ ht => exact .inl ht
      | thaw => exact .inl fun _ e => by cases e
      | full => exact .inl fun _ e => by cases e
      | nil => exact .inl fun _ e => by cases e
      | agg => exact .inl fun _ e => by cases e
    rcases hp with hp | rfl
    · have hA : RelA g p v := by cases p <;> first | exact h | exact absurd rfl (hp _)
      exact (hA.weak hc hw).rel
    · trivial
  | tup vs vs' hw =>
    simp only [Rel] at h ⊢
    obtain ⟨arr, h1, h2⟩ := h
    exact ⟨arr, h1, h2.comp hw fun x y z hx hw => hx.weak hc hw⟩
end

section
variable {Gl : Nat → Option (List PV)} {S0 : Bs} {w0 : World} {s s' : PSt} {a : Act} {g : GG}
theorem Weaker.cut (hw : Weaker s s') (hH : g.H = s.H) (hT : g.T = s.T) : Cut g s'.H s'.T := by
  refine ⟨fun t x h => by rw [hT]; exact hw.T t x h, fun l cs h hl => ?_⟩
  obtain ⟨ob', hob'⟩ := Option.isSome_iff_exists.1 hl
  obtain ⟨ob, h1, h2⟩ := hw.H l ob' hob'
  rw [hH, h1] at h; cases h
  cases h2 with
  | cells _ cs' h3 => exact ⟨cs', hob', h3.1.symm⟩
theorem InvG.weak (h : InvG Gl S0 w0 s a g) (hw : Weaker s s') : InvG Gl S0 w0 s' a { g with H := s'.H, T := s'.T } := by
  have hc := hw.cut h.hH h.hT
  have hlive : ∀ l, (s'.H l).isSome = true → (g.H l).isSome = true := fun l hl => by
    obtain ⟨ob', hob'⟩ := Option.isSome_iff_exists.1 hl
    obtain ⟨ob, h1, _⟩ := hw.H l ob' hob'
    rw [h.hH, h1]; rfl
  have hsp : ∀ t B, Spare { g with H := s'.H, T := s'.T } t B → Spare g t B := by
    rintro t B ⟨n, k, off, cap, h1, h2, h3⟩
    exact ⟨n, k, off, cap, hc.T t _ h1, h2, h3⟩
  have hxs : ∀ t, (s'.X t).isSome = true → (s.X t).isSome = true := fun t ht => by
    obtain ⟨x, hx⟩ := Option.isSome_iff_exists.1 ht
    rw [(hw.X t x hx).1]; rfl
  refine { hH := rfl, hT := rfl, defers := h.defers, len := by rw [← hw.tm.1]; exact h.len, tm := fun i p v hp hv => ?_, sub := h.sub, new := h.new, lt := h.lt, below := h.below, objs := fun l ob' hob' => ?_, inj := fun l l' h1 h2 he => h.inj l l' (hlive l h1) (hlive l' h2) he, owns := fun t n k ht => h.owns t n k (hc.T t _ ht), ownsEx := fun t t' B h1 h2 => h.ownsEx t t' B (hsp t B h1) (hsp t' B h2), ownsObj := fun t B l h1 h2 => h.ownsObj t B l (hsp t B h1) (hlive l h2), glob := h.glob, exs := fun t k b xss hx => ?_, exsEx := fun t t' B h1 h2 => h.exsEx t t' B ⟨hxs t h1.1, h1.2⟩ ⟨hxs t' h2.1, h2.2⟩, fix := fun l B hF => ⟨(h.fix l B hF).1, fun hs => (h.fix l B hF).2 (hlive l hs)⟩, fixT := fun t v n hF => ⟨(h.fixT t v n hF).1, fun n0 e => (h.fixT t v n hF).2 n0 (hc.T t _ e)⟩ }
  rotate_right
  · obtain ⟨x1, x2⟩ := hw.X t _ hx
    obtain ⟨q1, q2, q3, q4, q5, q6⟩ := h.exs t k b xss x1
    obtain ⟨y, hy⟩ := Option.isSome_iff_exists.1 x2
    have hyy := hc.T t y hy
    rw [q1] at hyy; cases hyy
    refine ⟨hy, q2, q3, q4, q5, q6.imp id ?_⟩
    rintro ⟨B, cap, e, hc0, h1, h2, h3, h4, h5, h6, h7, h8⟩
    exact ⟨B, cap, e, hc0, h1, h2, h3, h4, h5, h6, fun l hl => h7 l (hlive l hl), fun t' ht' => h8 t' (hsp t' B ht')⟩
  · obtain ⟨q, hq, hqp⟩ := hw.tm.left hp
    exact (h.tm i q v hq hv).weak hc hqp
  · obtain ⟨ob, h1, h2⟩ := hw.H l ob' hob'
    obtain ⟨k1, k2, k3, k4⟩ := h.objs l ob (by rw [h.hH]; exact h1)
    refine ⟨k1, k2, k3, ?_⟩
    cases h2 with
    | cells cs cs' h3 =>
      obtain ⟨vs, e1, e2, e3⟩ := k4
      exact ⟨vs, e1.comp h3 fun x y z hx hw => hx.weak hc hw, e2, e3⟩
    | map es => exact k4
    | iter b pos => exact k4
theorem Inv.weak {w : World} (h : Inv Gl S0 w0 s a w) (hw : Weaker s s') : Inv Gl S0 w0 s' a w := by
  obtain ⟨g, rfl, hg⟩ := h
  exact ⟨{ g with H := s'.H, T := s'.T }, rfl, hg.weak hw⟩
end
end PM
