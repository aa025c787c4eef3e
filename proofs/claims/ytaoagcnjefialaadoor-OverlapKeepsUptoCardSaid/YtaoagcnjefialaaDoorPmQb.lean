/-
  THE PURE MACHINE, Qb: lists that only one token holds: birth, sharing, append.
-/
import Derived.Test.YtaoagcnjefialaaDoorPmQ
namespace PM
open Go Go.RowKit

section
variable {P : Program} {Gl : Nat → Option (List PV)} {S0 : Bs} {w0 : World} {s : PSt} {a : Act} {g : GG}
theorem upd_upd {α : Type} (f : Nat → Option α) (i : Nat) (a b : Option α) : upd (upd f i a) i b = upd f i b := by
  funext x; simp only [upd]; split <;> rfl
/-- The list becomes data. -/
theorem InvG.exShare (h : InvG Gl S0 w0 s a g) {t k b : Nat} {xss : List (List PV)} (hx : s.X t = some (k, b, xss)) :
    ∃ S', InvG Gl S0 w0 { s with X := upd s.X t none } a { g with S := S' } ∧ GLe g { g with S := S' } ∧ ∀ o n v, o + n ≤ xss.length → View (g.hd t) xss.length k o n v → RelD S' g.w (.lst .frozen k b ((xss.take (o + n)).drop o)) v := by
  obtain ⟨q1, q2, q3, q4, q5, q6⟩ := h.exs t k b xss hx
  have hXB : ∀ {S' : Cells} t' B', XB (upd s.X t none) { g with S := S' } t' B' → t' ≠ t ∧ XB s.X g t' B' := by
    rintro S' t' B' ⟨e1, e2⟩
    by_cases e : t' = t
    · rw [e, upd_same] at e1; cases e1
    · exact ⟨e, by rwa [upd_other _ _ _ _ e] at e1, e2⟩
  have htl : ∀ o n, o + n ≤ xss.length → ((xss.take (o + n)).drop o).length = n := fun o n hn => by rw [List.length_drop, List.length_take]; omega
  have lim : ∀ o n, o + n ≤ xss.length → ((xss.take (o + n)).drop o).length * b ≤ 140737488351232 ∧ ((xss.take (o + n)).drop o).length ≤ 140737488351232 := fun o n hn => by
    rw [htl o n hn]
    exact ⟨Nat.le_trans (Nat.mul_le_mul_right _ (by omega)) q4, by omega⟩
  rcases q6 with ⟨e1, e2⟩ | ⟨B, cap, e1, hc, r1, r2, r3, r4, ⟨vs, v1, v2⟩, r6, r7, r8⟩
  · refine ⟨g.S, ⟨{ h with exs := fun t' k' b' xss' hx' => ?_, exsEx := fun t1 t2 B h1 h2 => h.exsEx t1 t2 B (hXB t1 B h1).2 (hXB t2 B h2).2 }, GLe.refl g, fun o n v hn hv => ?_⟩⟩
    · by_cases e : t' = t
      · have : upd s.X t none t' = some (k', b', xss') := hx'
        rw [e, upd_same] at this; cases this
      · have : upd s.X t none t' = some (k', b', xss') := hx'
        rw [upd_other _ _ _ _ e] at this
        exact h.exs t' k' b' xss' this
    · subst e2
      have hv' : v = g.hd t := by
        rcases hv with ⟨q, _⟩ | ⟨B, cap, off, q, hq, _⟩
        · exact q
        · rcases e1 with e1 | ⟨_, _, e1⟩
          · rw [e1] at q; cases q
          · rw [e1] at q; simp only [Value.slice.injEq] at q; omega
      simp only [RelD, List.take_nil, List.drop_nil, List.length_nil]
      refine ⟨by omega, by omega, by simp, ?_⟩
      rcases e1 with e1 | ⟨B, off, e1⟩
      · exact .inl ⟨by rw [hv', e1], trivial⟩
      · exact .inr ⟨B, off, 0, by rw [hv', e1], Nat.le_refl _, by simp, trivial⟩
  · have hle : GLe g { g with S := fun B' o => g.S B' o ∨ (B' = B ∧ o < xss.length * k) } := ⟨fun _ _ e => .inl e, fun _ _ _ => rfl, fun _ _ => rfl, fun l ob e => ⟨rfl, ob, e, fun cs e => ⟨cs, e, rfl⟩⟩, fun t n k e => ⟨n, e, Nat.le_refl _, fun _ => rfl⟩⟩
    refine ⟨fun B' o => g.S B' o ∨ (B' = B ∧ o < xss.length * k), { hH := h.hH, hT := h.hT, defers := h.defers, len := h.len, tm := fun i p v hp hv => (h.tm i p v hp hv).mono hle, sub := fun B' o e => .inl (h.sub B' o e), new := fun B' o e => ?_, lt := fun B' o e => ?_, below := h.below, objs := fun l ob hob => ?_, inj := h.inj, owns := fun t' n' k' ht' => ?_, ownsEx := fun t1 t2 B' h1 h2 => h.ownsEx t1 t2 B' (h1.congr rfl rfl) (h2.congr rfl rfl), ownsObj := fun t' B' l h1 h2 => h.ownsObj t' B' l (h1.congr rfl rfl) h2, glob := fun i cs hi => (h.glob i cs hi).mono hle.S hle.cell hle.blk, exs := fun t' k' b' xss' hx' => ?_, exsEx := fun t1 t2 B h1 h2 => h.exsEx t1 t2 B (hXB t1 B h1).2 (hXB t2 B h2).2, fix := h.fix, fixT := h.fixT }, hle, fun o n v hn hv => ?_⟩
    · rcases e with e | ⟨rfl, _⟩
      · exact h.new B' o e
      · exact .inr r2
    · rcases e with e | ⟨rfl, _⟩
      · exact h.lt B' o e
      · exact r3
    · obtain ⟨k1, k2, k3, k4⟩ := h.objs l ob hob
      have hne : g.φ l ≠ B := r7 l (by rw [show g.H l = some ob from hob]; rfl)
      exact ⟨k1, k2, fun o e => e.elim (k3 o) fun q => hne q.1, k4.mono hle (fun _ => rfl) (fun _ => rfl) (fun _ _ e => e)⟩
    · rcases h.owns t' n' k' ht' with hn | ⟨B', off', cap', f1, f2, f3⟩
      · exact .inl hn
      · refine .inr ⟨B', off', cap', f1, f2, fun hlt => ?_⟩
        obtain ⟨p1, p2, p3, p4⟩ := f3 hlt
        refine ⟨p1, p2, p3, fun hk o e => e.elim (p4 hk o) fun q => ?_⟩
        have ht : t' = t := r8 t' ⟨n', k', off', cap', ht', by rw [← q.1]; exact f1, hlt⟩
        subst ht
        have hT : g.T t' = some (n', k') := ht'
        rw [q1] at hT; cases hT
        exact absurd rfl hk
    · have hx2 : upd s.X t none t' = some (k', b', xss') := hx'
      by_cases e : t' = t
      · rw [e, upd_same] at hx2; cases hx2
      · rw [upd_other _ _ _ _ e] at hx2
        refine (h.exs t' k' b' xss' hx2).mono hle rfl rfl (Nat.le_refl _) fun B' off n cap' f1 f2 f3 f4 f5 f6 => ⟨fun _ => rfl, fun _ => rfl, fun o ho => ho.elim (f4 o) fun q => ?_, f5, fun t2 h2 => f6 t2 (h2.congr rfl rfl)⟩
        exact e (h.exsEx t' t B ⟨by rw [hx2]; rfl, off, n, cap', by rw [← q.1]; exact f1⟩ ⟨by rw [hx]; rfl, 0, _, cap, e1, hc⟩)
    · have hels : RelEls (fun B' o => g.S B' o ∨ (B' = B ∧ o < xss.length * k)) g.w k xss B 0 := relEls_of_values q3 (v1.mono fun _ _ q => ⟨q.1.mono hle.S hle.cell hle.blk, q.2⟩) v2 (fun j hj => .inr ⟨rfl, by rw [← flat_length q3, v1.1, Nat.zero_add]; exact hj⟩)
      obtain ⟨l1, l2⟩ := lim o n hn
      have hl := htl o n hn
      simp only [RelD]
      refine ⟨l1, l2, by simp, ?_⟩
      rw [hl]
      rcases hv with ⟨f1, f2, f3, f4⟩ | ⟨B', cap', off, f1, _, f2, f3, f4, f5⟩
      · subst f4; subst f3
        have hnil : (xss.take (0 + 0)).drop 0 = [] := by simp
        exact .inr ⟨B, 0, cap, by rw [f1, e1, f2], Nat.zero_le _, by simp, by rw [hnil]; simp only [RelEls]⟩
      · rw [e1] at f1; cases f1
        refine .inr ⟨B, off, cap - o, f4, by omega, by simp, ?_⟩
        rcases f5 with rfl | f5
        · have := hels.slice o (o + n)
          rwa [Nat.zero_add] at this
        · have hnil : (xss.take (o + n)).drop o = [] := List.eq_nil_of_length_eq_zero (by rw [hl]; omega)
          rw [hnil]; simp only [RelEls]
/-- A nil list, or an empty one without room, becomes one that only token t holds. -/
theorem InvG.exBorn (h : InvG Gl S0 w0 s a g) {t k b : Nat} {p : PV} {v : Value} (hv : Rel g p v) (hp : p = .nil ∨ ∃ k' b', p = .lst .full k' b' []) (hT : s.T t = none) (ht : t < 1000000000) (hk : k ≠ 0) :
    ∃ g', InvG Gl S0 w0 { s with T := upd s.T t (some (0, 0)), X := upd s.X t (some (k, b, [])) } a g' ∧ GLe g g' ∧ g'.w = g.w ∧ g'.S = g.S ∧ Rel g' (.ex t k b 0 0 0) v := by
  have hN : Nilish v := by
    rcases hp with rfl | ⟨k', b', rfl⟩
    · have : v = .slice none 0 0 := by simpa [Rel, RelA, Rel1, RelD] using hv
      exact .inl this
    · have hD : RelD g.S g.w (.lst .full k' b' []) v := hv
      simp only [RelD, List.length_nil] at hD
      obtain ⟨_, _, _, ⟨rfl, _⟩ | ⟨B, off, cap, rfl, _, h0, _⟩⟩ := hD
      · exact .inl rfl
      · rw [h0 trivial]; exact .inr ⟨B, off, rfl⟩
  have hgT : g.T t = none := by rw [h.hT]; exact hT
  obtain ⟨h1, h2⟩ := h.exHead (t := t) (k := k) (b := b) (xss := []) (v := v) (fun n0 k0 e => by rw [hgT] at e; cases e) (fun _ => ht) hk (by simp) (by simp) (by simp) (.inl ⟨hN, rfl⟩)
  refine ⟨_, h1, h2, rfl, rfl, ?_⟩
  simp only [Rel, RelA, Rel1]
  refine ⟨?_, 0, upd_same _ _ _, Nat.le_refl _, fun _ => .inl ⟨by simp, rfl, rfl, rfl⟩⟩
  rcases hN with rfl | ⟨B, off, rfl⟩
  · exact ⟨_, _, rfl, Nat.le_refl _, fun q => by omega⟩
  · exact ⟨_, _, rfl, Nat.le_refl _, fun q => by omega⟩
theorem wkr_nilX (i t k b : Nat) (hs : s.get i = .nil) (hT : ((s.T t).isNone && decide (t < 1000000000) && (k != 0)) = true) : Wkr s (({ s with T := upd s.T t (some (0, 0)), X := upd s.X t (some (k, b, [])) } : PSt).put (some i) (.ex t k b 0 0 0)) := fun Gl S0 w0 a w hi => by
  obtain ⟨g, rfl, h⟩ := hi
  simp only [Bool.and_eq_true, decide_eq_true_eq] at hT
  have hv := h.get i
  obtain ⟨g', h1, h2, h3, _, h4⟩ := h.exBorn (t := t) (k := k) (b := b) hv (.inl hs) (by simpa using hT.1.1) hT.1.2 (by simpa using hT.2)
  exact ⟨g', h3, h1.reput i h4⟩
def nilHX (s : PSt) (l off t k b : Nat) (cs : List PV) : PSt := { s with T := upd s.T t (some (0, 0)), X := upd s.X t (some (k, b, [])), H := upd s.H l (some (.cells (cs.set off (.ex t k b 0 0 0)))) }
/-- Cells of a variable are said otherwise. -/
theorem InvG.recells (h : InvG Gl S0 w0 s a g) {l off : Nat} {cs : List PV} {p : PV} (hl : s.H l = some (.cells cs)) (hp : ∀ q v, cs[off]? = some q → RelC g q v → RelC g p v) :
    ∃ g', InvG Gl S0 w0 { s with H := upd s.H l (some (.cells (cs.set off p))) } a g' ∧ GLe g g' ∧ g'.w = g.w ∧ g'.S = g.S ∧ g'.hd = g.hd ∧ g'.T = g.T := by
  have hgl : g.H l = some (.cells cs) := by rw [h.hH]; exact hl
  obtain ⟨o1, o2, o3, vs, v1, v2, v3⟩ := h.objs l (.cells cs) hgl
  obtain ⟨h2, e2⟩ := h.setObj (l := l) (ob' := .cells (cs.set off p)) (w' := g.w) hgl ⟨rfl, rfl, rfl, rfl, fun _ _ => rfl, rfl⟩ (fun cs' e => by cases e; exact ⟨_, rfl, by simp⟩)
    (fun g' hg' hw' => by
      refine ⟨vs, ⟨by rw [List.length_set]; exact v1.1, fun i q v hq hv => ?_⟩, by rw [hw']; exact v2, by rw [hw']; exact v3⟩
      rw [List.getElem?_set] at hq
      by_cases hi : off = i
      · subst hi
        rw [if_pos rfl] at hq
        split at hq
        · rename_i hlt
          cases hq
          have hr := v1.2 off _ v (List.getElem?_eq_getElem hlt) hv
          exact (hp _ v (List.getElem?_eq_getElem hlt) hr).mono hg'
        · cases hq
      · rw [if_neg hi] at hq
        exact (v1.2 i q v hq hv).mono hg')
  exact ⟨_, h2, e2, rfl, rfl, rfl, rfl⟩
theorem wkr_nilHX (l off t k b : Nat) {cs : List PV} (hl : s.H l = some (.cells cs)) (hs : cs[off]? = some .nil) (hT : ((s.T t).isNone && decide (t < 1000000000) && (k != 0)) = true) : Wkr s (nilHX s l off t k b cs) := fun Gl S0 w0 a w hi => by
  obtain ⟨g, rfl, h⟩ := hi
  simp only [Bool.and_eq_true, decide_eq_true_eq] at hT
  have hv0 : Rel g .nil (.slice none 0 0) := by simp [Rel, RelA, Rel1, RelD]
  obtain ⟨g1, h1, h2, h3, _, h4⟩ := h.exBorn (t := t) (k := k) (b := b) hv0 (.inl rfl) (by simpa using hT.1.1) hT.1.2 (by simpa using hT.2)
  obtain ⟨g2, k1, k2, k3, _⟩ := h1.recells (l := l) (off := off) (cs := cs) (p := .ex t k b 0 0 0) hl (fun q v hq hr => by
    rw [hs] at hq; cases hq
    have hv : v = .slice none 0 0 := by have := hr.1; simpa [Rel1, RelD] using this
    rw [hv]
    exact ⟨h4, rfl⟩)
  exact ⟨g2, k3.trans h3, k1⟩
/-! ### Sharing -/
def shTm (v : PV) : List Nat → PSt → PSt
  | [], s => s
  | i :: r, s => shTm v r { s with tm := s.tm.set i v }
def shH (v : PV) : List (Nat × Nat) → PSt → PSt
  | [], s => s
  | x :: r, s => shH v r (match s.H x.1 with | some (.cells cs) => { s with H := upd s.H x.1 (some (.cells (cs.set x.2 v))) } | _ => s)
def hcell (s : PSt) (x : Nat × Nat) : Option PV := match s.H x.1 with | some (.cells cs) => cs[x.2]? | _ => none
theorem InvG.shTm {v : PV} : ∀ (ws : List Nat) {s : PSt} {g : GG}, InvG Gl S0 w0 s a g → (∀ i ∈ ws, Rel g v (vget a S0 i)) → InvG Gl S0 w0 (shTm v ws s) a g
  | [], _, _, h, _ => h
  | i :: r, _, _, h, hr => InvG.shTm r (h.rput i (hr i (by simp))) fun j hj => hr j (by simp [hj])
theorem InvG.shH {v : PV} (p0 : PV) (hp0 : p0 ≠ v) : ∀ (hs : List (Nat × Nat)) {s : PSt} {g : GG}, InvG Gl S0 w0 s a g → (∀ g' u, GLe g g' → g'.w = g.w → g'.T = g.T → g'.hd = g.hd → RelC g' p0 u → RelC g' v u) → (∀ x ∈ hs, hcell s x = some p0 ∨ hcell s x = some v) → ∃ g', InvG Gl S0 w0 (shH v hs s) a g' ∧ g'.w = g.w
  | [], _, g, h, _, _ => ⟨g, h, rfl⟩
  | x :: r, s, g, h, hr, hc => by
    obtain ⟨l, off⟩ := x
    simp only [PM.shH]
    cases hl : s.H l with
    | none => exact InvG.shH p0 hp0 r h hr fun y hy => hc y (by simp [hy])
    | some ob =>
      cases ob with
      | map es => exact InvG.shH p0 hp0 r h hr fun y hy => hc y (by simp [hy])
      | iter b pos => exact InvG.shH p0 hp0 r h hr fun y hy => hc y (by simp [hy])
      | cells cs =>
        obtain ⟨g1, k1, k2, k3, _, k5, k6⟩ := h.recells (l := l) (off := off) (cs := cs) (p := v) hl (fun q u hq hrel => by
          rcases hc (l, off) (by simp) with e | e <;> (simp only [hcell, hl] at e; rw [hq] at e; cases e)
          · exact hr g u (GLe.refl g) rfl rfl rfl hrel
          · exact hrel)
        obtain ⟨g2, m1, m2⟩ := InvG.shH p0 hp0 r k1 (fun g' u q1 q2 q3 q4 q5 => hr g' u (k2.trans q1) (q2.trans k3) (q3.trans k6) (q4.trans k5) q5) (fun y hy => by
          have hy' := hc y (by simp [hy])
          obtain ⟨l', off'⟩ := y
          by_cases e : l' = l
          · subst e
            simp only [hcell, hl, upd_same] at hy' ⊢
            rw [List.getElem?_set]
            by_cases e2 : off = off'
            · subst e2
              rw [if_pos rfl]
              have hlt : off < cs.length := by
                rcases hy' with e | e <;> exact (List.getElem?_eq_some_iff.1 e).1
              rw [if_pos hlt]; exact .inr rfl
            · rw [if_neg e2]; exact hy'
          · simp only [hcell, upd_other _ _ _ _ e] at hy' ⊢
            exact hy')
        exact ⟨g2, m1, m2.trans k3⟩
/-- The list becomes data, wherever it stands whole in these slots and cells. -/
theorem wkr_share (t k b N : Nat) (ws : List Nat) (hs : List (Nat × Nat)) {xss : List (List PV)} (hx : s.X t = some (k, b, xss)) (hT : s.T t = some (N, 0)) (h1 : (ws.map fun i => s.tm.getD i .any) = ws.map fun _ => .ex t k b N 0 N) (h2 : hs.map (hcell s) = hs.map fun _ => some (.ex t k b N 0 N)) :
    Wkr s (shH (.lst .frozen k b xss) hs (shTm (.lst .frozen k b xss) ws { s with X := upd s.X t none })) := fun Gl S0 w0 a w hi => by
  obtain ⟨g, rfl, h⟩ := hi
  obtain ⟨S', j1, j2, j3⟩ := h.exShare hx
  have hN : N = xss.length := by
    have := (h.exs t k b xss hx).1
    rw [h.hT, hT] at this; cases this; rfl
  subst hN
  have key : ∀ v, View (g.hd t) xss.length k 0 xss.length v → RelD S' g.w (.lst .frozen k b xss) v := fun v hv => by
    have := j3 0 xss.length v (by omega) hv
    simpa using this
  have hrel : ∀ v, Rel g (.ex t k b xss.length 0 xss.length) v → View (g.hd t) xss.length k 0 xss.length v := fun v hv => by
    simp only [Rel, RelA, Rel1] at hv
    obtain ⟨_, N', e1, e2, e3⟩ := hv
    rw [h.hT, hT] at e1; cases e1
    exact e3 rfl
  have k1 := InvG.shTm (v := .lst .frozen k b xss) ws j1 (fun i hi => by
    have hg := h.rget i
    have : s.tm.getD i .any = .ex t k b xss.length 0 xss.length := by
      have hm := List.map_inj_left.1 h1 i hi
      exact hm
    rw [this] at hg
    exact Rel.of1 (Rel1.of_data (key _ (hrel _ hg)) rfl))
  have htmH : ∀ (ws : List Nat) (s : PSt), (PM.shTm (.lst .frozen k b xss) ws s).H = s.H := fun ws => by
    induction ws with
    | nil => intro s; rfl
    | cons i r ih => intro s; exact ih _
  have hT2 : ({ g with S := S' } : GG).T t = some (xss.length, 0) := by rw [← hT, ← h.hT]
  obtain ⟨g2, k2, k3⟩ := InvG.shH (v := .lst .frozen k b xss) (.ex t k b xss.length 0 xss.length) (by simp) hs k1 (fun g' u q1 q2 qT qh q3 => by
    have q3' := q3.1
    simp only [Rel1] at q3'
    obtain ⟨_, N', f1, f2, f3⟩ := q3'
    rw [qT, hT2] at f1; cases f1
    refine ⟨?_, q3.2⟩
    have hv := f3 rfl
    rw [qh] at hv
    exact Rel1.of_data ((key u hv).mono q1.S (fun B o ho => by rw [q2]) (fun B _ => by rw [q2])) rfl) (fun x hx => by
    left
    simp only [hcell, htmH]
    exact List.map_inj_left.1 h2 x hx)
  exact ⟨g2, k3, k2⟩
end
end PM
