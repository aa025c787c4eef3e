/-
  THE PURE MACHINE, Q: lists that only one token holds: contents that change in place, growing, sharing.
-/
import Derived.Test.YtaoagcnjefialaaDoorPmO
namespace PM
open Go Go.RowKit

section
variable {P : Program} {Gl : Nat → Option (List PV)} {S0 : Bs} {w0 : World} {s : PSt} {a : Act} {g : GG}
/-- The list gets another header: it has grown. -/
theorem InvG.exHead (h : InvG Gl S0 w0 s a g) {t k b : Nat} {xss : List (List PV)} {v : Value} (ht : ∀ n0 k0, g.T t = some (n0, k0) → k0 = 0 ∧ n0 < xss.length) (hb9 : g.T t = none → t < 1000000000) (hk0 : k ≠ 0) (hk : ∀ cs ∈ xss, cs.length = k) (hl1 : xss.length * b ≤ 140737488351232) (hl2 : xss.length ≤ 140737488351232)
    (hv : (Nilish v ∧ xss = []) ∨ ∃ B cap, v = .slice (some ⟨B, 0, none⟩) xss.length cap ∧ 0 < cap ∧ ExB g S0.E w0.heap.size t k xss B cap ∧ ∀ t', t' ≠ t → ¬ XB s.X g t' B) :
    InvG Gl S0 w0 { s with T := upd s.T t (some (xss.length, 0)), X := upd s.X t (some (k, b, xss)) } a { g with hd := fun x => if x = t then v else g.hd x, T := upd g.T t (some (xss.length, 0)) } ∧ GLe g { g with hd := fun x => if x = t then v else g.hd x, T := upd g.T t (some (xss.length, 0)) } := by
  have hle : GLe g { g with hd := fun x => if x = t then v else g.hd x, T := upd g.T t (some (xss.length, 0)) } := by
    refine ⟨fun _ _ h => h, fun _ _ _ => rfl, fun _ _ => rfl, fun l ob h1 => ⟨rfl, ob, h1, fun cs e => ⟨cs, e, rfl⟩⟩, fun t' n' k' h1 => ?_⟩
    by_cases e : t' = t
    · subst e
      obtain ⟨rfl, hlt⟩ := ht _ _ h1
      exact ⟨xss.length, upd_same _ _ _, by omega, fun e => by omega⟩
    · exact ⟨n', by show upd g.T t _ t' = _; rw [upd_other _ _ _ _ e]; exact h1, Nat.le_refl _, fun _ => if_neg e⟩
  have hvB : ∀ B off n cap, v = .slice (some ⟨B, off, none⟩) n cap → 0 < cap → off = 0 ∧ n = xss.length ∧ ExB g S0.E w0.heap.size t k xss B cap ∧ ∀ t', t' ≠ t → ¬ XB s.X g t' B := by
    intro B off n cap e hc
    rcases hv with ⟨e1 | ⟨_, _, e1⟩, _⟩ | ⟨B', cap', e1, _, e2⟩
    · rw [e1] at e; cases e
    · rw [e1] at e; cases e; omega
    · rw [e1] at e; cases e; exact ⟨rfl, rfl, e2⟩
  have hspare : ∀ t' B, Spare { g with hd := fun x => if x = t then v else g.hd x, T := upd g.T t (some (xss.length, 0)) } t' B → (t' = t ∧ ∃ off n cap, v = .slice (some ⟨B, off, none⟩) n cap ∧ 0 < cap) ∨ (t' ≠ t ∧ Spare g t' B) := by
    rintro t' B ⟨n', k', off, cap, h1, h2, h3⟩
    by_cases e : t' = t
    · subst e
      simp only [if_true] at h2
      exact .inl ⟨rfl, off, n', cap, h2, h3.pos⟩
    · have h1' : upd g.T t (some (xss.length, 0)) t' = some (n', k') := h1
      rw [upd_other _ _ _ _ e] at h1'
      simp only [if_neg e] at h2
      exact .inr ⟨e, n', k', off, cap, h1', h2, h3⟩
  have hXB : ∀ t' B, XB (upd s.X t (some (k, b, xss))) { g with hd := fun x => if x = t then v else g.hd x, T := upd g.T t (some (xss.length, 0)) } t' B → (t' = t ∧ ∃ off n cap, v = .slice (some ⟨B, off, none⟩) n cap ∧ 0 < cap) ∨ (t' ≠ t ∧ XB s.X g t' B) := by
    rintro t' B ⟨h1, off, n, cap, h2, h3⟩
    by_cases e : t' = t
    · subst e
      simp only [if_true] at h2
      exact .inl ⟨rfl, off, n, cap, h2, h3⟩
    · rw [upd_other _ _ _ _ e] at h1
      simp only [if_neg e] at h2
      exact .inr ⟨e, h1, off, n, cap, h2, h3⟩
  refine ⟨{ hH := h.hH, hT := by rw [← h.hT], defers := h.defers, len := h.len, tm := fun i p v hp hv => (h.tm i p v hp hv).mono hle, sub := h.sub, new := h.new, lt := h.lt, below := h.below, objs := fun l ob hob => ?_, inj := h.inj, owns := fun t' n' k' ht' => ?_, ownsEx := fun t1 t2 B h1 h2 => ?_, ownsObj := fun t' B l hs hl => ?_, glob := h.glob, exs := fun t' k' b' xss' hx => ?_, exsEx := fun t1 t2 B h1 h2 => ?_, fix := h.fix, fixT := fun t' v' n' hF => ⟨(h.fixT t' v' n' hF).1, fun n0 e => by
    have e' : upd g.T t (some (xss.length, 0)) t' = some (n0, 0) := e
    have h9 := (h.fixT t' v' n' hF).1
    by_cases q : t' = t
    · rw [q, upd_same] at e'; cases e'
      cases hTt : g.T t with
      | none => have := hb9 hTt; omega
      | some p =>
        obtain ⟨n1, k1⟩ := p
        obtain ⟨rfl, hlt⟩ := ht n1 k1 hTt
        have := ((h.fixT t' v' n' hF).2 n1 (by rw [q]; exact hTt)).1
        exact ⟨by omega, fun e => by omega⟩
    · rw [upd_other _ _ _ _ q] at e'
      simp only [if_neg q]; exact (h.fixT t' v' n' hF).2 n0 e'⟩ }, hle⟩
  · obtain ⟨k1, k2, k3, k4⟩ := h.objs l ob hob
    exact ⟨k1, k2, k3, k4.mono hle (fun _ => rfl) (fun _ => rfl) (fun _ _ h => h)⟩
  · by_cases e : t' = t
    · subst e
      have h1 : upd g.T t' (some (xss.length, 0)) t' = some (n', k') := ht'
      rw [upd_same] at h1
      cases h1
      rcases hv with ⟨e1 | ⟨B, off, e1⟩, e2⟩ | ⟨B, cap, e1, e2, e3, _⟩
      · exact .inl ⟨(if_pos rfl).trans e1, by rw [e2]; rfl⟩
      · exact .inr ⟨B, off, 0, (if_pos rfl).trans (by rw [e1, e2]; rfl), by rw [e2]; simp, fun hlt => by have := hlt.pos; omega⟩
      · exact .inr ⟨B, 0, cap, (if_pos rfl).trans e1, e3.1, fun _ => ⟨fun q => absurd rfl q, e3.2.2.1, fun j hj => by simp at hj, fun q => absurd rfl q⟩⟩
    · have h1 : upd g.T t (some (xss.length, 0)) t' = some (n', k') := ht'
      rw [upd_other _ _ _ _ e] at h1
      have := h.owns t' n' k' h1
      unfold OwnOK at this ⊢
      simp only [if_neg e]
      exact this
  · rcases hspare t1 B h1 with ⟨e1, off, n, cap, e, hlt⟩ | ⟨e1, h1'⟩ <;> rcases hspare t2 B h2 with ⟨e2, off2, n2, cap2, e', hlt'⟩ | ⟨e2, h2'⟩
    · rw [e1, e2]
    · exact absurd ((hvB B off n cap e hlt).2.2.1.2.2.2.2.2.2.2 t2 h2') e2
    · exact absurd ((hvB B off2 n2 cap2 e' hlt').2.2.1.2.2.2.2.2.2.2 t1 h1') e1
    · exact h.ownsEx t1 t2 B h1' h2'
  · rcases hspare t' B hs with ⟨e1, off, n, cap, e, hlt⟩ | ⟨e1, h1'⟩
    · exact (hvB B off n cap e hlt).2.2.1.2.2.2.2.2.2.1 l hl
    · exact h.ownsObj t' B l h1' hl
  · by_cases e : t' = t
    · subst e
      have h1 : upd s.X t' (some (k, b, xss)) t' = some (k', b', xss') := hx
      rw [upd_same] at h1; cases h1
      refine ⟨upd_same _ _ _, hk0, hk, hl1, hl2, ?_⟩
      rcases hv with ⟨e1, e2⟩ | ⟨B, cap, e1, e2, ⟨f1, f2, f3, f4, f5, f6, f7, f8⟩, _⟩
      · exact .inl ⟨by simp only [if_true]; exact e1, e2⟩
      · refine .inr ⟨B, cap, (if_pos rfl).trans e1, e2, f1, f2, f3, f4, ?_, f6, f7, fun t2 h2 => ?_⟩
        · obtain ⟨us, u1, u2⟩ := f5
          exact ⟨us, u1.mono fun _ _ q => ⟨q.1.mono hle.S hle.cell hle.blk, q.2⟩, u2⟩
        · rcases hspare t2 B h2 with ⟨q, _⟩ | ⟨_, q⟩
          · exact q
          · exact f8 t2 q
    · have h1 : upd s.X t (some (k, b, xss)) t' = some (k', b', xss') := hx
      rw [upd_other _ _ _ _ e] at h1
      refine (h.exs t' k' b' xss' h1).mono hle (upd_other _ _ _ _ e) (if_neg e) (Nat.le_refl _) fun B' off' n' cap' e1 e2 e3 e4 e5 e6 => ⟨fun _ => rfl, fun _ => rfl, e4, e5, fun t2 hs => ?_⟩
      rcases hspare t2 B' hs with ⟨_, off2, n2, cap2, q1, q2⟩ | ⟨_, q⟩
      · exact absurd (show XB s.X g t' B' from ⟨by rw [h1]; rfl, off', n', cap', e1⟩) ((hvB B' off2 n2 cap2 q1 q2).2.2.2 t' e)
      · exact e6 t2 q
  · rcases hXB t1 B h1 with ⟨e1, off, n, cap, e, hlt⟩ | ⟨e1, h1'⟩ <;> rcases hXB t2 B h2 with ⟨e2, off2, n2, cap2, e', hlt'⟩ | ⟨e2, h2'⟩
    · rw [e1, e2]
    · exact absurd h2' ((hvB B off n cap e hlt).2.2.2 t2 e2)
    · exact absurd h1' ((hvB B off2 n2 cap2 e' hlt').2.2.2 t1 e1)
    · exact h.exsEx t1 t2 B h1' h2'
/-- The source of an append. -/
theorem srcOf {w : World} {S : Cells} {e k b' : Nat} {t' : TypeId} {i : TypeInfo} (ht2 : P.underlying t' = some (.slice e)) (k3 : i.size = k) {yss : List (List PV)} {u : Value} (hy : RelD S w (.lst .frozen k b' yss) u) :
    ∃ news : List Value, Src P i.size t' u yss.length news w ∧ news.length = yss.length * k ∧ All2 (fun p v => RelD S w p v ∧ p.one = true) yss.flatten news ∧ (∀ cs ∈ yss, cs.length = k) ∧ ∃ yb yc, u = .slice yb yss.length yc := by
  obtain ⟨ybase, ycap, rfl, y1, y2, y3, news, n1, n2, n3, n4⟩ := lst_values (S := S) (w := w) hy
  refine ⟨news, ?_, n1, n2, y2, ybase, ycap, rfl⟩
  cases ybase with
  | none =>
    obtain ⟨q1, q2⟩ := y3 rfl
    subst q2
    subst q1
    have hn0 : news = [] := List.eq_nil_of_length_eq_zero (by simpa using n1)
    rw [hn0]
    exact Src.ofNil w ht2 0
  | some ad =>
    obtain ⟨B, off, sp⟩ := ad
    have hsp : sp = none := by
      have := hy
      simp only [RelD] at this
      obtain ⟨_, _, _, ⟨q, _⟩ | ⟨_, _, _, q, _⟩⟩ := this <;> cases q
      rfl
    subst hsp
    exact Src.ofSlice w ht2 _ _ _ news (by rw [n1, k3]) (fun j u hu => by rw [Addr.add_mid]; exact (n4 B off rfl).2 j u hu) n3
/-- Is appended to a list that only one token holds. -/
theorem xappend_core (h : InvG Gl S0 w0 s a g) {ty t t' e tk k b : Nat} {xss yss : List (List PV)} {v u : Value} (hk : appK P t = some (e, k, b)) (ht' : sliceT P t' = true) (hx : s.X tk = some (k, b, xss)) (hv : Rel g (.ex tk k b xss.length 0 xss.length) v) {b' : Nat} (hy : RelD g.S g.w (.lst .frozen k b' yss) u)
    (hs1 : (xss.length + yss.length) * b ≤ sizeMax) (hs2 : xss.length + yss.length ≤ sizeMax) :
    ∃ v' g', (Builtin.append_ #[t, t'] ty #[v, u]).run P g.w = .ok v' g'.w ∧ InvG Gl S0 w0 { s with T := upd s.T tk (some (xss.length + yss.length, 0)), X := upd s.X tk (some (k, b, xss ++ yss)) } a g' ∧ GLe g g' ∧ Rel g' (.ex tk k b (xss.length + yss.length) 0 (xss.length + yss.length)) v' := by
  rw [sizeMax_eq] at hs1 hs2
  obtain ⟨i, z, k1, k2, k3, k4, k5, k6, k7⟩ := appK_spec hk
  obtain ⟨e', ht2⟩ := sliceT_spec ht'
  obtain ⟨q1, _, q3, q4, q5, q6⟩ := h.exs tk k b xss hx
  simp only [Rel, RelA, Rel1] at hv
  obtain ⟨_, N', hT', _, hview⟩ := hv
  rw [q1] at hT'; cases hT'
  have hvh : v = g.hd tk := by
    rcases hview rfl with ⟨e1, _⟩ | ⟨B, cap, off, e1, e0, _, _, e2, e3⟩
    · exact e1
    · rw [e1, e2, show off = 0 by omega]; simp
  subst hvh
  obtain ⟨news, hsrc, n1, n2, n3, yb, yc, hu⟩ := srcOf (P := P) ht2 k3 hy
  have hall : ∀ cs ∈ xss ++ yss, cs.length = k := fun cs hcs => (List.mem_append.1 hcs).elim (q3 cs) (n3 cs)
  have hlen : (xss ++ yss).length = xss.length + yss.length := List.length_append
  have hone : ∀ {S : Cells} {w : World} {ps : List PV} {us : List Value}, All2 (fun p v => RelD S w p v ∧ p.one = true) ps us → ∀ u ∈ us, u.oneCell' = true := fun hA u hu => by
    obtain ⟨j, hj⟩ := List.getElem?_of_mem hu
    obtain ⟨p, hp, hr⟩ := hA.left hj
    exact (hr.1.oneCell hr.2).1
  have hTX : yss = [] → ({ s with T := upd s.T tk (some (xss.length + yss.length, 0)), X := upd s.X tk (some (k, b, xss ++ yss)) } : PSt) = s := fun hm => by
    subst hm
    have e1 : upd s.T tk (some (xss.length, 0)) = s.T := by
      funext x
      by_cases hx' : x = tk
      · subst hx'; rw [upd_same, ← h.hT, q1]
      · rw [upd_other _ _ _ _ hx']
    have e2 : upd s.X tk (some (k, b, xss)) = s.X := by
      funext x
      by_cases hx' : x = tk
      · subst hx'; rw [upd_same, hx]
      · rw [upd_other _ _ _ _ hx']
    simp [e1, e2]
  -- a new block
  have grow : ∀ (base : Option Addr) (cap : Nat) (olds : List Value), g.hd tk = .slice base xss.length cap → All2 (fun p v => RelD g.S g.w p v ∧ p.one = true) xss.flatten olds → olds.length = xss.length * k → (Builtin.firstCells i.size xss.length (.slice base xss.length cap)).run P g.w.drew = .ok olds.toArray g.w.drew → cap < xss.length + yss.length →
      ∃ v' g', (Builtin.append_ #[t, t'] ty #[g.hd tk, u]).run P g.w = .ok v' g'.w ∧ InvG Gl S0 w0 { s with T := upd s.T tk (some (xss.length + yss.length, 0)), X := upd s.X tk (some (k, b, xss ++ yss)) } a g' ∧ GLe g g' ∧ Rel g' (.ex tk k b (xss.length + yss.length) 0 (xss.length + yss.length)) v' := by
    intro base cap olds ehd o2 o1 holds hroom
    have hmpos : 0 < yss.length := by
      rcases q6 with ⟨e1 | ⟨_, _, e1⟩, e2⟩ | ⟨B, cap', e1, e2, e3, _⟩
      · rw [e1, e2] at ehd; simp only [Value.slice.injEq] at ehd; rw [e2] at hroom; simp only [List.length_nil] at hroom; omega
      · rw [e1, e2] at ehd; simp only [Value.slice.injEq] at ehd; rw [e2] at hroom; simp only [List.length_nil] at hroom; omega
      · rw [e1] at ehd; simp only [Value.slice.injEq] at ehd; omega
    have hneed : xss.length + yss.length ≤ grownCap g.w (xss.length + yss.length) cap e := grownCap_ge _ _ _ _
    have hrun := run_append_grow_src g.w t t' ty e i z k1 k2 k5 base xss.length cap olds holds u _ news hsrc (by omega) (by omega) (growslice_fits (by omega) (by rw [k4]; omega))
    generalize hC : grownCap g.w (xss.length + yss.length) cap e = C at *
    generalize hA : ((olds ++ news).toArray ++ Builtin.zeroCells z.cells (C - (xss.length + yss.length))) = arr at *
    have h1l : (olds ++ news).length = (xss.length + yss.length) * k := by rw [List.length_append, o1, n1, Nat.add_mul]
    have harr : arr.size = C * k := by
      rw [← hA]
      have h2 : C = (xss.length + yss.length) + (C - (xss.length + yss.length)) := by omega
      rw [Array.size_append, List.size_toArray, size_zeroCells, k6, h1l, ← Nat.add_mul]
      congr 1
      omega
    obtain ⟨h1, g1⟩ := h.drew
    obtain ⟨h2, g2⟩ := h1.grow' (below_alloc g.w.drew (.cells arr e))
    have gle := g1.trans g2
    have c1 : All2 (fun p v => RelD g.S (g.w.drew.alloc (.cells arr e)) p v ∧ p.one = true) (xss ++ yss).flatten (olds ++ news) := by
      rw [List.flatten_append]
      exact (o2.monoD gle.S gle.cell gle.blk).append (n2.monoD gle.S gle.cell gle.blk)
    have c2 : (g.w.drew.alloc (.cells arr e)).rangeAt g.w.heap.size 0 (olds ++ news) := by
      intro j u' hu'
      have := rangeAt_alloc g.w.drew arr e j u' (by
        rw [← hA]
        have hj : j < (olds ++ news).length := (List.getElem?_eq_some_iff.1 hu').1
        simp only [Array.toList_append]
        rw [List.getElem?_append_left hj]
        exact hu')
      simpa using this
    have c3 : (g.w.drew.alloc (.cells arr e)).there g.w.heap.size 0 (C * k) := fun j hj => by
      have := there_alloc g.w.drew arr e j (by rw [harr]; exact hj)
      simpa using this
    obtain ⟨h3, g3⟩ := h2.exHead (t := tk) (k := k) (b := b) (xss := xss ++ yss) (v := .slice (some ⟨g.w.heap.size, 0, none⟩) (xss.length + yss.length) C)
      (fun n0 k0 q => by
        have : g.T tk = some (n0, k0) := q
        rw [q1] at this; cases this
        exact ⟨rfl, by omega⟩) (fun q => by have : g.T tk = none := q; rw [q1] at this; cases this) k7 hall (by rw [hlen]; exact hs1) (by rw [hlen]; exact hs2)
      (.inr ⟨g.w.heap.size, C, by rw [hlen], by omega, ⟨by rw [hlen]; exact hneed, .inl h.below.size, by simp, fun o ho => (by have := h.lt _ _ ho; omega), ⟨olds ++ news, c1, c2⟩, c3, fun l hl => h.phi_lt l hl, fun t2 h2 => (h.spare_lt t2 (h2.congr rfl rfl)).elim⟩, fun t2 _ h2 => h.xb_lt t2 (h2.congr rfl)⟩)
    · rw [hlen] at h3 g3
      refine ⟨.slice (some ⟨g.w.heap.size, 0, none⟩) (xss.length + yss.length) C, _, ?_, h3, gle.trans g3, ?_⟩
      · rw [ehd]; exact hrun
      · simp only [Rel, RelA, Rel1]
        refine ⟨⟨_, _, rfl, hneed, fun _ => ⟨_, _, rfl⟩⟩, _, upd_same _ _ _, Nat.le_refl _, fun _ => .inr ⟨g.w.heap.size, C, 0, by simp, by omega, hneed, by omega, by simp, by simp⟩⟩
  -- nothing appended
  have same : yss = [] → (Builtin.append_ #[t, t'] ty #[g.hd tk, u]).run P g.w = .ok (g.hd tk) g.w → ∃ v' g', (Builtin.append_ #[t, t'] ty #[g.hd tk, u]).run P g.w = .ok v' g'.w ∧ InvG Gl S0 w0 { s with T := upd s.T tk (some (xss.length + yss.length, 0)), X := upd s.X tk (some (k, b, xss ++ yss)) } a g' ∧ GLe g g' ∧ Rel g' (.ex tk k b (xss.length + yss.length) 0 (xss.length + yss.length)) v' := fun hm hrun => by
    refine ⟨_, g, hrun, by rw [hTX hm]; exact h, GLe.refl g, ?_⟩
    subst hm
    simp only [Rel, RelA, Rel1, List.length_nil, Nat.add_zero]
    refine ⟨?_, _, q1, Nat.le_refl _, hview⟩
    rcases q6 with ⟨e1 | ⟨_, _, e1⟩, e2⟩ | ⟨B, cap', e1, e2, e3, _⟩
    · exact ⟨none, 0, by rw [e1, e2]; rfl, by rw [e2]; simp, fun hp => by rw [e2] at hp; simp at hp⟩
    · exact ⟨_, 0, by rw [e1, e2]; rfl, by rw [e2]; simp, fun hp => by rw [e2] at hp; simp at hp⟩
    · exact ⟨_, _, e1, e3, fun _ => ⟨_, _, rfl⟩⟩
  rcases q6 with ⟨enil, exss⟩ | ⟨B, cap, ehd, hcap, r1, r2, r3, r4, ⟨olds, o2, o3⟩, r6, r7, r8⟩
  · have ehd : ∃ base, g.hd tk = .slice base xss.length 0 ∧ (base = none ∨ ∃ B off, base = some ⟨B, off, none⟩) := by
      rcases enil with e1 | ⟨B, off, e1⟩
      · exact ⟨none, by rw [e1, exss]; rfl, .inl rfl⟩
      · exact ⟨_, by rw [e1, exss]; rfl, .inr ⟨B, off, rfl⟩⟩
    obtain ⟨base, ehd, hbase⟩ := ehd
    have hxl : xss.length = 0 := by rw [exss]; rfl
    by_cases hm : yss = []
    · refine same hm ?_
      have hnews : news = [] := List.eq_nil_of_length_eq_zero (by rw [n1, hm]; simp)
      rw [hnews, hm] at hsrc
      rw [ehd, hxl]
      rcases hbase with rfl | ⟨B, off, rfl⟩
      · have hcl := hsrc.cells
        have hcl2 := hsrc.len
        simp only [List.length_nil] at hcl hcl2
        subst hm
        subst hu
        simp only [List.length_nil] at hcl
        simp [Builtin.append_, run_underlying k1, run_underlying ht2, Go.sizeOf, typeInfo, k2, Builtin.lenOf, hcl]
      · have := run_append_room_src g.w t t' ty e i k1 k2 B off 0 0 _ _ [] hsrc (by simp) (by simp) (by simp)
        simpa [World.setCells] using this
    · have hfl : xss.flatten = [] := by rw [exss]; rfl
      refine grow base 0 [] ehd (by rw [hfl]; exact .nil) (by rw [hxl]; simp) ?_ (by have := List.length_pos_iff.2 hm; omega)
      rw [hxl]
      rcases hbase with rfl | ⟨B, off, rfl⟩
      · exact run_firstCells_none g.w.drew _ _ _ _
      · exact run_firstCells_some g.w.drew i.size 0 _ _ _ [] (by simp) (by simp)
  · have o1 : olds.length = xss.length * k := by
      rw [← flat_length q3, o2.1]
    by_cases hroom : xss.length + yss.length ≤ cap
    · by_cases hm : yss = []
      · refine same hm ?_
        have hnews : news = [] := List.eq_nil_of_length_eq_zero (by rw [n1, hm]; simp)
        rw [hnews, hm] at hsrc
        rw [ehd]
        have := run_append_room_src g.w t t' ty e i k1 k2 B 0 xss.length cap _ _ [] hsrc (by simpa using r1) (by simp) (by simp)
        simpa [World.setCells] using this
      · have hmpos : 0 < yss.length := List.length_pos_iff.2 hm
        have hck : cap * k = xss.length * k + (cap - xss.length) * k := by rw [← Nat.add_mul]; congr 1; omega
        have hmk : yss.length * k ≤ (cap - xss.length) * k := Nat.mul_le_mul_right _ (by omega)
        have hthere : ∀ j, j < news.length → (g.w.cell? ⟨B, xss.length * k + j, none⟩).isSome = true ∧ g.w.frozen? ⟨B, xss.length * k + j, none⟩ = false := fun j hj => by
          have := r6 (xss.length * k + j) (by omega)
          rwa [Nat.zero_add] at this
        have hrun := run_append_room_src g.w t t' ty e i k1 k2 B 0 xss.length cap u _ news hsrc hroom (fun j hj => by rw [k3, Nat.zero_add]; exact (hthere j hj).1) (fun j hj => by rw [k3, Nat.zero_add]; exact (hthere j hj).2)
        rw [k3, Nat.zero_add] at hrun
        have hb := but_setCells g.w B (xss.length * k) news
        have hbe : BelowE (· = B) g.w (g.w.setCells B (xss.length * k) news) := ⟨hb.os, hb.tape, hb.output, Nat.le_of_eq hb.size.symm, fun j _ hj => hb.block j hj, Nat.le_of_eq hb.drawn.symm⟩
        obtain ⟨h2, g2⟩ := h.exWorld (S' := g.S) hx ehd hcap hbe (fun _ _ e => e) (fun _ _ e => .inl e) rfl q3 (World.there_setCells r6 _ _ _) (o2.monoD (fun _ _ e => e) (fun B' o ho => hb.cell fun e => r4 o (e ▸ ho)) fun B' ho => hb.block _ fun e => r4 0 (e ▸ ho 0)) (fun j v hj => by
          have hj' : j < olds.length := (List.getElem?_eq_some_iff.1 hj).1
          rw [World.cell?_setCells_out _ _ _ _ _ (fun _ _ => .inl (by show 0 + j < _; omega))]
          exact o3 j v hj)
        have hX2 : ({ s with X := upd s.X tk (some (k, b, xss)) } : PSt) = s := by
          have e2 : upd s.X tk (some (k, b, xss)) = s.X := by
            funext x
            by_cases hx' : x = tk
            · subst hx'; rw [upd_same, hx]
            · rw [upd_other _ _ _ _ hx']
          rw [e2]
        rw [hX2] at h2
        have c1 : All2 (fun p v => RelD g.S (g.w.setCells B (xss.length * k) news) p v ∧ p.one = true) (xss ++ yss).flatten (olds ++ news) := by
          rw [List.flatten_append]
          exact (o2.monoD g2.S g2.cell g2.blk).append (n2.monoD g2.S g2.cell g2.blk)
        have c2 : (g.w.setCells B (xss.length * k) news).rangeAt B 0 (olds ++ news) := by
          intro j u' hu'
          rw [Nat.zero_add]
          rw [List.getElem?_append] at hu'
          by_cases hj : j < olds.length
          · rw [if_pos hj] at hu'
            rw [World.cell?_setCells_out _ _ _ _ _ (fun _ _ => .inl (by show j < _; omega))]
            have := o3 j u' hu'
            rwa [Nat.zero_add] at this
          · rw [if_neg hj] at hu'
            have hj2 : j - olds.length < news.length := (List.getElem?_eq_some_iff.1 hu').1
            have := World.cell?_setCells_in B news (xss.length * k) g.w (fun i hi => (hthere i hi).1) (j - olds.length) hj2
            rw [show xss.length * k + (j - olds.length) = j by omega] at this
            rw [this, ← hu', List.getElem?_eq_getElem hj2]
        obtain ⟨h3, g3⟩ := h2.exHead (t := tk) (k := k) (b := b) (xss := xss ++ yss) (v := .slice (some ⟨B, 0, none⟩) (xss.length + yss.length) cap)
          (fun n0 k0 q => by
            have : g.T tk = some (n0, k0) := q
            rw [q1] at this; cases this
            exact ⟨rfl, by omega⟩) (fun q => by have : g.T tk = none := q; rw [q1] at this; cases this) k7 hall (by rw [hlen]; exact hs1) (by rw [hlen]; exact hs2)
          (.inr ⟨B, cap, by rw [hlen], hcap, ⟨by rw [hlen]; exact hroom, r2, by rw [hb.size]; exact r3, r4, ⟨olds ++ news, c1, c2⟩, World.there_setCells r6 _ _ _, r7, fun t2 h2 => r8 t2 (h2.congr rfl rfl)⟩, fun t2 hne h2 => hne (h.exsEx t2 tk B (h2.congr rfl) ⟨by rw [hx]; rfl, 0, _, cap, ehd, hcap⟩)⟩)
        · rw [hlen] at h3 g3
          refine ⟨.slice (some ⟨B, 0, none⟩) (xss.length + yss.length) cap, _, ?_, h3, g2.trans g3, ?_⟩
          · rw [ehd]; exact hrun
          · simp only [Rel, RelA, Rel1]
            refine ⟨⟨_, _, rfl, hroom, fun _ => ⟨_, _, rfl⟩⟩, _, upd_same _ _ _, Nat.le_refl _, fun _ => .inr ⟨B, cap, 0, by simp, hcap, hroom, by omega, by simp, by simp⟩⟩
    · refine grow _ cap olds ehd o2 o1 ?_ (by omega)
      exact run_firstCells_some g.w.drew i.size xss.length _ _ _ olds (by rw [o1, k3]) (fun j u hu => by rw [Addr.add_mid]; simpa using o3 j u hu)
end
end PM
