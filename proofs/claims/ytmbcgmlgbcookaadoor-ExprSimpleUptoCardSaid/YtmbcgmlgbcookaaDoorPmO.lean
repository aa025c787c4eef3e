import Derived.Test.YtmbcgmlgbcookaaDoorPmQh
/-
  THE PURE MACHINE, O: calls that change a variable of the caller, and lists that nobody else holds (OCall). No project text. Nothing here is trusted.
-/
namespace PM
open Go Go.RowKit

abbrev XL := Nat × Nat × List (List PV)
section
variable {P : Program} {Gl : Nat → Option (List PV)} {S0 : Bs} {w0 : World} {s : PSt} {a : Act} {g : GG}
def owT (nx : Nat → Option (Value × XL)) (T : Nat → Option (Nat × Nat)) (t : Nat) : Option (Nat × Nat) := match nx t with | some (_, x) => some (x.2.2.length, 0) | none => T t
def owX (nx : Nat → Option (Value × XL)) (ts : List Nat) (X : XT) (t : Nat) : Option XL := match nx t with | some (_, x) => some x | none => if t ∈ ts then none else X t
def owHd (nx : Nat → Option (Value × XL)) (hd : Nat → Value) (t : Nat) : Value := match nx t with | some (v, _) => v | none => hd t
def owH (lc : Option Nat) (ob' : PObj) (H : Nat → Option PObj) : Nat → Option PObj := match lc with | some l => upd H l (some ob') | none => H
/-- What a call leaves that changes a variable and lists. -/
theorem InvG.callWorld (h : InvG Gl S0 w0 s a g) {lc : Option Nat} {ob' : PObj} {ts : List Nat} {nx : Nat → Option (Value × XL)} {w' : World} {S' : Cells}
    (hts : ∀ t, t ∈ ts → ∃ x, s.X t = some x)
    (hw : BelowE (fun b => (∃ l, lc = some l ∧ b = g.φ l) ∨ ∃ t, t ∈ ts ∧ HB (g.hd t) b) g.w w')
    (hS1 : ∀ B o, g.S B o → S' B o) (hS2 : ∀ B o, S' B o → B < w'.heap.size ∧ (g.S B o ∨ g.w.heap.size ≤ B ∨ ∃ t, t ∈ ts ∧ HB (g.hd t) B))
    (hnx : ∀ t hv x, nx t = some (hv, x) → t ∈ ts ∧ XIn S' w' x.1 x.2.1 x.2.2 hv ∧ (∃ x0, s.X t = some x0 ∧ x0.2.2.length ≤ x.2.2.length ∧ (x.2.2.length = x0.2.2.length → hv = g.hd t)) ∧ ∀ b, HB hv b → HB (g.hd t) b ∨ g.w.heap.size ≤ b)
    (hdist : ∀ t t' hv x hv' x' b, nx t = some (hv, x) → nx t' = some (hv', x') → HB hv b → HB hv' b → t = t')
    (hlc : ∀ l, lc = some l → ∃ ob, g.H l = some ob ∧ (∀ cs, ob = .cells cs → ∃ cs', ob' = .cells cs' ∧ cs'.length = cs.length) ∧ (∀ o, ¬ S' (g.φ l) o) ∧ ∀ g', GLe g g' → g'.S = S' → g'.w = w' → (∀ t hv x, nx t = some (hv, x) → g'.hd t = hv ∧ g'.T t = some (x.2.2.length, 0)) → ObjOK g' (g.φ l) ob') :
    InvG Gl S0 w0 { s with H := owH lc ob' s.H, T := owT nx s.T, X := owX nx ts s.X } a { g with S := S', w := w', hd := owHd nx g.hd, T := owT nx s.T, H := owH lc ob' s.H } ∧
      GLe g { g with S := S', w := w', hd := owHd nx g.hd, T := owT nx s.T, H := owH lc ob' s.H } := by
  have hsz := hw.size
  have tb : ∀ t, t ∈ ts → ∀ b, HB (g.hd t) b → b < g.w.heap.size ∧ (w0.heap.size ≤ b ∨ S0.E b) ∧ (∀ o, ¬ g.S b o) ∧ (∀ l, (g.H l).isSome = true → g.φ l ≠ b) ∧ (∀ t', Spare g t' b → t' = t) := fun t ht b hb => by
    obtain ⟨x, hx⟩ := hts t ht
    exact XB.lt h ⟨by rw [hx]; rfl, hb⟩
  have xu : ∀ t, t ∈ ts → ∀ t' b, HB (g.hd t) b → XB s.X g t' b → t' = t := fun t ht t' b hb hx' => by
    obtain ⟨x, hx⟩ := hts t ht
    exact h.exsEx t' t b hx' ⟨by rw [hx]; rfl, hb⟩
  have lcs : ∀ l, lc = some l → (g.H l).isSome = true := fun l e => by
    obtain ⟨ob, h1, _⟩ := hlc l e
    rw [h1]; rfl
  have hblk : ∀ b, b < g.w.heap.size → (∀ l, lc = some l → b ≠ g.φ l) → (∀ t, t ∈ ts → ¬ HB (g.hd t) b) → w'.heap[b]? = g.w.heap[b]? := fun b h1 h2 h3 =>
    hw.block b h1 fun e => e.elim (fun ⟨l, q1, q2⟩ => h2 l q1 q2) fun ⟨t, q1, q2⟩ => h3 t q1 q2
  have hSb : ∀ b o, g.S b o → w'.heap[b]? = g.w.heap[b]? := fun b o ho => hblk b (h.lt b o ho) (fun l e q => by
    obtain ⟨ob, h1, _⟩ := hlc l e
    exact (h.objs l ob h1).2.2.1 o (q ▸ ho)) fun t ht q => (tb t ht b q).2.2.1 o ho
  have hHs : ∀ l, (owH lc ob' s.H l).isSome = true → (g.H l).isSome = true := fun l e => by
    unfold owH at e
    split at e
    · rename_i l0
      by_cases q : l = l0
      · exact q ▸ lcs l0 rfl
      · rw [upd_other _ _ _ _ q] at e; rw [h.hH]; exact e
    · rw [h.hH]; exact e
  have x0T : ∀ t x0, s.X t = some x0 → g.T t = some (x0.2.2.length, 0) := fun t x0 e => (h.exs t x0.1 x0.2.1 x0.2.2 e).1
  have hle : GLe g { g with S := S', w := w', hd := owHd nx g.hd, T := owT nx s.T, H := owH lc ob' s.H } := by
    refine ⟨hS1, fun B o ho => cellAt_of (hSb B o ho) o, fun B ho => hSb B 0 (ho 0), fun l ob e => ⟨rfl, ?_⟩, fun t n k e => ?_⟩
    · show ∃ ob'_1, owH lc ob' s.H l = some ob'_1 ∧ _
      unfold owH
      split
      · rename_i l0
        by_cases q : l = l0
        · subst q
          obtain ⟨ob0, h1, h2, _⟩ := hlc l rfl
          rw [h1] at e; cases e
          exact ⟨ob', upd_same _ _ _, h2⟩
        · exact ⟨ob, by rw [upd_other _ _ _ _ q, ← h.hH]; exact e, fun cs e => ⟨cs, e, rfl⟩⟩
      · exact ⟨ob, by rw [← h.hH]; exact e, fun cs e => ⟨cs, e, rfl⟩⟩
    · show ∃ n', owT nx s.T t = some (n', k) ∧ n ≤ n' ∧ (n' = n → owHd nx g.hd t = g.hd t)
      unfold owT owHd
      cases hn : nx t with
      | none => exact ⟨n, by rw [← h.hT]; exact e, Nat.le_refl _, fun _ => rfl⟩
      | some y =>
        obtain ⟨hv, x⟩ := y
        obtain ⟨_, _, ⟨x0, q1, q2, q3⟩, _⟩ := hnx t hv x hn
        rw [x0T t x0 q1] at e; cases e
        exact ⟨x.2.2.length, rfl, q2, fun e => q3 e⟩
  have hSp : ∀ t b, Spare { g with S := S', w := w', hd := owHd nx g.hd, T := owT nx s.T, H := owH lc ob' s.H } t b → (∃ hv x, nx t = some (hv, x) ∧ HB hv b) ∨ (nx t = none ∧ Spare g t b) := by
    rintro t b ⟨n, k, off, cap, h1, h2, h3⟩
    change owT nx s.T t = some (n, k) at h1
    change owHd nx g.hd t = _ at h2
    unfold owT at h1
    unfold owHd at h2
    cases hn : nx t with
    | none => simp only [hn] at h1 h2; exact .inr ⟨rfl, n, k, off, cap, by rw [h.hT]; exact h1, h2, h3⟩
    | some y =>
      obtain ⟨hv, x⟩ := y
      simp only [hn] at h1 h2
      exact .inl ⟨hv, x, rfl, off, n, cap, h2, h3.pos⟩
  have hXb : ∀ t b, XB (owX nx ts s.X) { g with S := S', w := w', hd := owHd nx g.hd, T := owT nx s.T, H := owH lc ob' s.H } t b → (∃ hv x, nx t = some (hv, x) ∧ HB hv b) ∨ (nx t = none ∧ t ∉ ts ∧ XB s.X g t b) := by
    rintro t b ⟨h1, off, n, cap, h2, h3⟩
    change owHd nx g.hd t = _ at h2
    unfold owX at h1
    unfold owHd at h2
    cases hn : nx t with
    | none =>
      simp only [hn] at h1 h2
      by_cases q : t ∈ ts
      · rw [if_pos q] at h1; cases h1
      · rw [if_neg q] at h1; exact .inr ⟨rfl, q, h1, off, n, cap, h2, h3⟩
    | some y =>
      obtain ⟨hv, x⟩ := y
      simp only [hn] at h1 h2
      exact .inl ⟨hv, x, rfl, off, n, cap, h2, h3⟩
  have spEx : ∀ t1 t2 b, Spare { g with S := S', w := w', hd := owHd nx g.hd, T := owT nx s.T, H := owH lc ob' s.H } t1 b → ∀ hv x, nx t2 = some (hv, x) → HB hv b → t1 = t2 := fun t1 t2 b h1 hv x e1 e2 => by
    rcases hSp t1 b h1 with ⟨hv1, x1, q1, q2⟩ | ⟨q1, q2⟩
    · exact hdist t1 t2 hv1 x1 hv x b q1 e1 q2 e2
    · obtain ⟨r1, _, _, r4⟩ := hnx t2 hv x e1
      rcases r4 b e2 with r | r
      · exact (tb t2 r1 b r).2.2.2.2 t1 q2
      · have := q2.lt h; omega
  have newNe : ∀ t hv x, nx t = some (hv, x) → ∀ b, HB hv b → ∀ l, (g.H l).isSome = true → g.φ l ≠ b := fun t hv x e b hb l hl => by
    obtain ⟨r1, _, _, r4⟩ := hnx t hv x e
    rcases r4 b hb with r | r
    · exact (tb t r1 b r).2.2.2.1 l hl
    · obtain ⟨ob, hob⟩ := Option.isSome_iff_exists.1 hl
      have := (h.objs l ob hob).2.1
      omega
  refine ⟨{ hH := rfl, hT := rfl, defers := h.defers, len := h.len, tm := fun i p v hp hv => (h.tm i p v hp hv).mono hle, sub := fun B o ho => hS1 _ _ (h.sub B o ho), new := fun B o ho => ?_, lt := fun B o ho => (hS2 B o ho).1, below := ?_, objs := fun l ob hob => ?_, inj := fun l l' h1 h2 e => h.inj l l' (hHs l h1) (hHs l' h2) e, owns := fun t n k ht => ?_, ownsEx := fun t1 t2 b h1 h2 => ?_, ownsObj := fun t b l h1 h2 => ?_, glob := fun i cs hi => (h.glob i cs hi).mono hle.S hle.cell hle.blk, exs := fun t k b xss hx => ?_, exsEx := fun t1 t2 b h1 h2 => ?_, fix := fun l B hF => ⟨(h.fix l B hF).1, fun hs => (h.fix l B hF).2 (hHs l hs)⟩, fixT := fun t v n hF => ⟨(h.fixT t v n hF).1, fun n0 e => ?_⟩ }, hle⟩
  · rcases (hS2 B o ho).2 with e | e | ⟨t, e1, e2⟩
    · exact h.new B o e
    · exact .inr (.inl (Nat.le_trans h.below.size e))
    · exact .inr (tb t e1 B e2).2.1
  · refine ⟨hw.os.trans h.below.os, hw.tape.trans h.below.tape, hw.output.trans h.below.output, Nat.le_trans h.below.size hsz, fun i hi he => (hblk i (Nat.lt_of_lt_of_le hi h.below.size) (fun l e q => ?_) fun t ht q => ?_).trans (h.below.block i hi he), h.below.dr.trans hw.dr⟩
    · obtain ⟨ob, h1, _⟩ := hlc l e
      exact (h.objs l ob h1).1.elim (fun r => by omega) fun r => he (q ▸ r)
    · exact (tb t ht i q).2.1.elim (fun r => by omega) fun r => he r
  · change owH lc ob' s.H l = some ob at hob
    have hold : g.H l = some ob → (∀ l0, lc = some l0 → l ≠ l0) → (w0.heap.size ≤ g.φ l ∨ S0.E (g.φ l)) ∧ g.φ l < w'.heap.size ∧ (∀ o, ¬ S' (g.φ l) o) ∧ ObjOK { g with S := S', w := w', hd := owHd nx g.hd, T := owT nx s.T, H := owH lc ob' s.H } (g.φ l) ob := fun e hne => by
      have hs : (g.H l).isSome = true := by rw [e]; rfl
      obtain ⟨k1, k2, k3, k4⟩ := h.objs l ob e
      have hb := hblk (g.φ l) k2 (fun l0 e0 q => hne l0 e0 (h.inj l l0 hs (lcs l0 e0) q)) fun t ht q => (tb t ht _ q).2.2.2.1 l hs rfl
      refine ⟨k1, Nat.lt_of_lt_of_le k2 hsz, fun o ho => ?_, k4.mono hle (fun o => cellAt_of hb o) (fun o => frozenAt_of hb o) fun x _ hc => hb.trans hc⟩
      rcases (hS2 _ o ho).2 with q | q | ⟨t, q1, q2⟩
      · exact k3 o q
      · omega
      · exact (tb t q1 _ q2).2.2.2.1 l hs rfl
    unfold owH at hob
    split at hob
    · rename_i l0
      by_cases q : l = l0
      · subst q
        rw [upd_same] at hob; cases hob
        obtain ⟨ob0, h1, _, h3, h4⟩ := hlc l rfl
        obtain ⟨k1, k2, _, _⟩ := h.objs l ob0 h1
        exact ⟨k1, Nat.lt_of_lt_of_le k2 hsz, h3, h4 _ hle rfl rfl fun t hv x e => by simp [owHd, owT, e]⟩
      · rw [upd_other _ _ _ _ q] at hob
        exact hold (by rw [h.hH]; exact hob) fun l1 e1 => by cases e1; exact q
    · exact hold (by rw [h.hH]; exact hob) fun l1 e1 => by cases e1
  · change owT nx s.T t = some (n, k) at ht
    unfold owT at ht
    unfold OwnOK
    cases hn : nx t with
    | some y =>
      obtain ⟨hv, x⟩ := y
      simp only [hn] at ht; cases ht
      obtain ⟨_, r2, _, _⟩ := hnx t hv x hn
      have ehd : owHd nx g.hd t = hv := by simp [owHd, hn]
      show (Nilish (owHd nx g.hd t) ∧ _) ∨ ∃ B off cap, owHd nx g.hd t = _ ∧ _
      rw [ehd]
      rcases r2.lies with ⟨q1, q2⟩ | ⟨B, cap, q1, q2, q3, q4, _, _, q7⟩
      · exact .inl ⟨q1, by rw [q2]; rfl⟩
      · exact .inr ⟨B, 0, cap, q1, q3, fun _ => ⟨fun q => absurd rfl q, q4, fun j hj => by simp at hj, fun q => absurd rfl q⟩⟩
    | none =>
      simp only [hn] at ht
      have ht' : g.T t = some (n, k) := by rw [h.hT]; exact ht
      have ehd : owHd nx g.hd t = g.hd t := by simp [owHd, hn]
      show (Nilish (owHd nx g.hd t) ∧ _) ∨ ∃ B off cap, owHd nx g.hd t = _ ∧ _
      rw [ehd]
      rcases h.owns t n k ht' with q | ⟨B, off, cap, e1, e2, e3⟩
      · exact .inl q
      · refine .inr ⟨B, off, cap, e1, e2, fun hlt => ?_⟩
        obtain ⟨f1, f2, f3, f4⟩ := e3 hlt
        have hsp : Spare g t B := ⟨n, k, off, cap, ht', e1, hlt⟩
        by_cases hk : k = 0
        · subst hk
          exact ⟨fun q => absurd rfl q, Nat.lt_of_lt_of_le f2 hsz, fun j hj => by simp at hj, fun q => absurd rfl q⟩
        · have hno : ∀ t0, t0 ∈ ts → ¬ HB (g.hd t0) B := fun t0 h0 hb => by
            have e0 := (tb t0 h0 B hb).2.2.2.2 t hsp
            subst e0
            obtain ⟨x, hx⟩ := hts t h0
            rw [x0T t x hx] at ht'; cases ht'
            exact hk rfl
          have hb := hblk B f2 (fun l e q => h.ownsObj t B l hsp (lcs l e) q.symm) hno
          refine ⟨f1, Nat.lt_of_lt_of_le f2 hsz, fun j hj => ?_, fun _ o ho => ?_⟩
          · show (w'.cell? _).isSome = true ∧ w'.frozen? _ = false
            rw [cellAt_of hb, frozenAt_of hb]; exact f3 j hj
          · rcases (hS2 B o ho).2 with q | q | ⟨t0, q1, q2⟩
            · exact f4 hk o q
            · omega
            · exact absurd q2 (hno t0 q1)
  · rcases hSp t2 b h2 with ⟨hv, x, e1, e2⟩ | ⟨e1, e2⟩
    · exact spEx t1 t2 b h1 hv x e1 e2
    · rcases hSp t1 b h1 with ⟨hv, x, q1, q2⟩ | ⟨q1, q2⟩
      · exact (spEx t2 t1 b h2 hv x q1 q2).symm
      · exact h.ownsEx t1 t2 b q2 e2
  · rcases hSp t b h1 with ⟨hv, x, q1, q2⟩ | ⟨q1, q2⟩
    · exact newNe t hv x q1 b q2 l (hHs l h2)
    · exact h.ownsObj t b l q2 (hHs l h2)
  · change owX nx ts s.X t = some (k, b, xss) at hx
    unfold owX at hx
    cases hn : nx t with
    | some y =>
      obtain ⟨hv, x⟩ := y
      simp only [hn] at hx; cases hx
      obtain ⟨r1, r2, _, r4⟩ := hnx t hv (k, b, xss) hn
      have ehd : owHd nx g.hd t = hv := by simp [owHd, hn]
      have eT : owT nx s.T t = some (xss.length, 0) := by simp [owT, hn]
      refine ⟨eT, r2.k0, r2.ks, r2.l1, r2.l2, ?_⟩
      show (Nilish (owHd nx g.hd t) ∧ _) ∨ ∃ B cap, owHd nx g.hd t = _ ∧ _
      rw [ehd]
      rcases r2.lies with q | ⟨B, cap, q1, q2, q3, q4, q5, q6, q7⟩
      · exact .inl q
      · have hB : HB hv B := ⟨0, _, cap, q1, q2⟩
        refine .inr ⟨B, cap, q1, q2, q3, ?_, q4, q5, q6, q7, fun l hl => newNe t hv _ hn B hB l (hHs l hl), fun t' hs => spEx t' t B hs hv _ hn hB⟩
        rcases r4 B hB with q | q
        · exact (tb t r1 B q).2.1
        · exact .inl (Nat.le_trans h.below.size q)
    | none =>
      simp only [hn] at hx
      by_cases q : t ∈ ts
      · rw [if_pos q] at hx; cases hx
      · rw [if_neg q] at hx
        have ehd : owHd nx g.hd t = g.hd t := by simp [owHd, hn]
        have eT : owT nx s.T t = g.T t := by simp [owT, hn, h.hT]
        refine (h.exs t k b xss hx).mono hle eT ehd hsz fun B off n cap e1 e2 e3 e4 e5 e6 => ?_
        have hxb : XB s.X g t B := ⟨by rw [hx]; rfl, off, n, cap, e1⟩
        have hno : ∀ t0, t0 ∈ ts → ¬ HB (g.hd t0) B := fun t0 h0 hb => q (by rw [xu t0 h0 t B hb hxb]; exact h0)
        have hb := hblk B e3 (fun l e q => e5 l (lcs l e) q.symm) hno
        refine ⟨fun o => cellAt_of hb o, fun o => frozenAt_of hb o, fun o ho => ?_, fun l hl => e5 l (hHs l hl), fun t' hs => ?_⟩
        · rcases (hS2 B o ho).2 with r | r | ⟨t0, r1, r2⟩
          · exact e4 o r
          · omega
          · exact hno t0 r1 r2
        · rcases hSp t' B hs with ⟨hv, x, r1, r2⟩ | ⟨_, r2⟩
          · obtain ⟨m1, _, _, m4⟩ := hnx t' hv x r1
            rcases m4 B r2 with m | m
            · exact absurd m (hno t' m1)
            · omega
          · exact e6 t' r2
  · rcases hXb t1 b h1 with ⟨hv, x, e1, e2⟩ | ⟨e1, e2, e3⟩ <;> rcases hXb t2 b h2 with ⟨hv', x', q1, q2⟩ | ⟨q1, q2, q3⟩
    · exact hdist t1 t2 hv x hv' x' b e1 q1 e2 q2
    · obtain ⟨m1, _, _, m4⟩ := hnx t1 hv x e1
      rcases m4 b e2 with m | m
      · exact (xu t1 m1 t2 b m q3).symm
      · have := (XB.lt h q3).1; omega
    · obtain ⟨m1, _, _, m4⟩ := hnx t2 hv' x' q1
      rcases m4 b q2 with m | m
      · exact xu t2 m1 t1 b m e3
      · have := (XB.lt h e3).1; omega
    · exact h.exsEx t1 t2 b e3 q3
  · change owT nx s.T t = some (n0, 0) at e
    show n ≤ n0 ∧ (n0 = n → owHd nx g.hd t = v) ∧ ∀ B, HB (owHd nx g.hd t) B → HB v B ∨ w0.heap.size ≤ B
    unfold owT at e
    unfold owHd
    cases hn : nx t with
    | none => simp only [hn] at e ⊢; exact (h.fixT t v n hF).2 n0 (by rw [h.hT]; exact e)
    | some y =>
      obtain ⟨hv, x⟩ := y
      simp only [hn] at e ⊢; cases e
      obtain ⟨_, _, ⟨x0, q1, q2, q3⟩, q4⟩ := hnx t hv x hn
      obtain ⟨k1, k2, k3⟩ := (h.fixT t v n hF).2 _ (x0T t x0 q1)
      refine ⟨by omega, fun e => by rw [q3 (by omega)]; exact k2 (by omega), fun B hB => ?_⟩
      rcases q4 B hB with r | r
      · exact k3 B r
      · exact .inr (Nat.le_trans h.below.size r)
end
end PM
/-
  THE PURE MACHINE, Ob: the contract, and whole functions.
-/
namespace PM
open Go Go.RowKit

def L0 : Nat := 1000000
def tX (xs : List XL) (t : Nat) : Option XL := match decide (T0 ≤ t) with | true => xs[t - T0]? | false => none
def tT (xs : List XL) (t : Nat) : Option (Nat × Nat) := (tX xs t).map fun x => (x.2.2.length, 0)
def tH (ob : Option PObj) (l : Nat) : Option PObj := match l == L0 with | true => ob | false => none
/-- What a call's values are held against: the variable lies in block B, the lists' headers are hvs. -/
def gO (S : Cells) (w : World) (B : Nat) (hvs : List Value) (ob : Option PObj) (xs : List XL) : GG := ⟨S, w, fun _ => B, fun t => hvs.getD (t - T0) undef, tH ob, tT xs⟩
def gN (S : Cells) (w : World) : GG := ⟨S, w, fun _ => 0, fun _ => undef, fun _ => none, fun _ => none⟩
def ArgR (g : GG) : PV → Value → Prop
  | .ref l o, v => Rel1 g (.ref l o) v
  | .mp l, v => Rel1 g (.mp l) v
  | .ex t k b N o n, v => Rel1 g (.ex t k b N o n) v
  | p, v => RelD g.S g.w p v
structure OIn (S : Cells) (w : World) (B : Nat) (hvs : List Value) (ob : Option PObj) (xs : List XL) : Prop where
  len : hvs.length = xs.length
  obj : ∀ o, ob = some o → B < w.heap.size ∧ (∀ o', ¬ S B o') ∧ ObjOK (gO S w B hvs ob xs) B o
  lists : ∀ (i : Nat) (x : XL) (hv : Value), xs[i]? = some x → hvs[i]? = some hv → XIn S w x.1 x.2.1 x.2.2 hv ∧ (ob.isSome = true → ¬ HB hv B)
  dist : ∀ (i j : Nat) (hv hv' : Value) (b : Nat), hvs[i]? = some hv → hvs[j]? = some hv' → HB hv b → HB hv' b → i = j
structure OAfter (S : Cells) (w : World) (B : Nat) (hvs : List Value) (ob : Option PObj) (xs : List XL) (r : PV) (ob' : Option PObj) (xs' : List XL) (w' : World) (v : Value) (S' : Cells) (hvs' : List Value) : Prop where
  below : BelowE (fun b => (ob.isSome = true ∧ b = B) ∨ ∃ (i : Nat) (hv : Value), hvs[i]? = some hv ∧ HB hv b) w w'
  sub : ∀ b o, S b o → S' b o
  new : ∀ b o, S' b o → b < w'.heap.size ∧ (S b o ∨ w.heap.size ≤ b ∨ ∃ (i : Nat) (hv : Value), hvs[i]? = some hv ∧ HB hv b)
  inn : OIn S' w' B hvs' ob' xs'
  grow : ∀ (i : Nat) (x x' : XL) (hv hv' : Value), xs[i]? = some x → xs'[i]? = some x' → hvs[i]? = some hv → hvs'[i]? = some hv' → x.2.2.length ≤ x'.2.2.length ∧ (x'.2.2.length = x.2.2.length → hv' = hv) ∧ ∀ b, HB hv' b → HB hv b ∨ w.heap.size ≤ b
  res : Rel (gN S' w') r v
def oshape : Option PObj → Option (Option Nat)
  | none => none
  | some (.cells cs) => some (some cs.length)
  | some _ => some none
/-- A CONTRACT: called with (the address of) a variable that holds ob, with lists xs that nobody else holds, and with data: ob' and xs' (the first lists) are left, r is returned. -/
def OCall (P : Program) (Gl : Nat → Option (List PV)) (f : FuncId) (ob : Option PObj) (xs : List XL) (args : List PV) (r : PV) (ob' : Option PObj) (xs' : List XL) : Prop :=
  FnOK P f ∧ (oshape ob = oshape ob' ∧ xs'.length ≤ xs.length) ∧ ∀ (S : Cells) (w : World) (B : Nat) (hvs : List Value) (vs : Array Value), (∀ B o, S B o → B < w.heap.size) → (∀ i cs, Gl i = some cs → RelTab S w cs i) → OIn S w B hvs ob xs → All2 (ArgR (gO S w B hvs ob xs)) args vs.toList →
    Calls P f vs w fun e w' => ∃ v S' hvs', e = .returned v ∧ OAfter S w B hvs ob xs r ob' xs' w' v S' hvs'
def seenX (s : PSt) : List XL → Nat → List (Option XL × Option (Nat × Nat))
  | [], _ => []
  | _ :: r, t => (s.X t, s.T t) :: seenX s r (t + 1)
def toldX (xs : List XL) : List (Option XL × Option (Nat × Nat)) := xs.map fun x => (some x, some (x.2.2.length, 0))
theorem seenX_get {s : PSt} : ∀ {xs : List XL} {t : Nat}, seenX s xs t = toldX xs → ∀ (i : Nat) (x : XL), xs[i]? = some x → s.X (t + i) = some x ∧ s.T (t + i) = some (x.2.2.length, 0)
  | [], _, _, i, x, hx => by simp at hx
  | y :: r, t, h, i, x, hx => by
    simp only [seenX, toldX, List.map_cons, List.cons.injEq, Prod.mk.injEq] at h
    cases i with
    | zero => simp at hx; subst hx; exact h.1
    | succ i =>
      have := seenX_get (xs := r) (t := t + 1) h.2 i x (by simpa using hx)
      rwa [show t + 1 + i = t + (i + 1) by omega] at this
def ost0 (ob : Option PObj) (xs : List XL) (args : List PV) (n : Nat) : PSt := ⟨args ++ List.replicate (n - args.length) .any, tH ob, tT xs, tX xs, 0⟩
def ofinal (P : Program) (Gl : Nat → Option (List PV)) (rs : List ResultVar) (r : PV) (ob' : Option PObj) (xs' : List XL) (s : PSt) : Prop :=
  (s.H L0, seenX s xs' T0) = (ob', toldX xs') ∧ ∃ vs pv, resPV P Gl s rs = some vs ∧ onePV vs = some pv ∧ WkV (fun _ => none) (fun _ => none) pv r
def obodyQ (P : Program) (Gl : Nat → Option (List PV)) (rs : List ResultVar) (r : PV) (ob' : Option PObj) (xs' : List XL) : Exit → PSt → Prop
  | .normal, s => ∃ s1, Wkr s s1 ∧ ofinal P Gl rs r ob' xs' s1
  | .ret, s => ∃ s1, Wkr s s1 ∧ ofinal P Gl rs r ob' xs' s1
  | _, _ => False
section
variable {P : Program} {Gl : Nat → Option (List PV)} {S0 : Bs} {w0 : World} {s : PSt} {a : Act} {g : GG}
theorem ArgR.rel {p : PV} {v : Value} (h : ArgR g p v) (hf : flatArg p = true) : Rel g p v := by
  cases p
  case ref => exact Rel.of1 h
  case mp => exact Rel.of1 h
  case ex => exact Rel.of1 h
  all_goals exact Rel.ofData h hf
theorem tX_some {xs : List XL} {t : Nat} {x : XL} (h : tX xs t = some x) : ∃ i, t = T0 + i ∧ xs[i]? = some x := by
  unfold tX at h
  split at h
  · rename_i hd
    have := of_decide_eq_true hd
    exact ⟨t - T0, by omega, h⟩
  · cases h
theorem tX_get {xs : List XL} (i : Nat) : tX xs (T0 + i) = xs[i]? := by
  unfold tX
  rw [show decide (T0 ≤ T0 + i) = true from decide_eq_true (Nat.le_add_right _ _)]
  simp only [Nat.add_sub_cancel_left]
theorem tT_some {xs : List XL} {t n k : Nat} (h : tT xs t = some (n, k)) : ∃ i x, t = T0 + i ∧ xs[i]? = some x ∧ n = x.2.2.length ∧ k = 0 := by
  unfold tT at h
  obtain ⟨x, h1, h2⟩ := Option.map_eq_some_iff.1 h
  obtain ⟨i, e1, e2⟩ := tX_some h1
  simp only [Prod.mk.injEq] at h2
  exact ⟨i, x, e1, e2, h2.1.symm, h2.2.symm⟩
theorem tT_get {xs : List XL} {i : Nat} {x : XL} (h : xs[i]? = some x) : tT xs (T0 + i) = some (x.2.2.length, 0) := by
  unfold tT; rw [tX_get, h]; rfl
theorem tH_some {ob : Option PObj} {l : Nat} {o : PObj} (h : tH ob l = some o) : l = L0 ∧ ob = some o := by
  unfold tH at h
  split at h
  · rename_i hl; exact ⟨by simpa using hl, h⟩
  · cases h
theorem tH_get {ob : Option PObj} : tH ob L0 = ob := by
  unfold tH; rw [show (L0 == L0) = true from beq_self_eq_true _]
theorem gO_hd {S : Cells} {w : World} {B i : Nat} {hvs : List Value} {ob : Option PObj} {xs : List XL} {hv : Value} (h : hvs[i]? = some hv) : (gO S w B hvs ob xs).hd (T0 + i) = hv := by
  show hvs.getD (T0 + i - T0) undef = hv
  rw [Nat.add_sub_cancel_left, List.getD_eq_getElem?_getD, h]; rfl
theorem OIn.both {S : Cells} {w : World} {B : Nat} {hvs : List Value} {ob : Option PObj} {xs : List XL} (h : OIn S w B hvs ob xs) {i : Nat} {x : XL} (hx : xs[i]? = some x) : ∃ hv, hvs[i]? = some hv ∧ XIn S w x.1 x.2.1 x.2.2 hv ∧ (ob.isSome = true → ¬ HB hv B) := by
  have hi : i < hvs.length := by rw [h.len]; exact (List.getElem?_eq_some_iff.1 hx).1
  exact ⟨hvs[i], List.getElem?_eq_getElem hi, h.lists i x _ hx (List.getElem?_eq_getElem hi)⟩
/-- The start of a function. -/
theorem OIn.start {S : Cells} {w : World} {B : Nat} {hvs : List Value} {ob : Option PObj} {xs : List XL} {args : List PV} {vs : Array Value} (n : Nat) (hin : OIn S w B hvs ob xs) (hS : ∀ B o, S B o → B < w.heap.size) (hglob : ∀ i cs, Gl i = some cs → RelTab S w cs i)
    (hargs : All2 (ArgR (gO S w B hvs ob xs)) args vs.toList) (hflat : args.all flatArg = true) :
    InvG Gl ⟨S, fun l b => ob.isSome = true ∧ l = L0 ∧ b = B, fun t v n => ∃ (i : Nat) (x : XL), t = T0 + i ∧ xs[i]? = some x ∧ hvs[i]? = some v ∧ n = x.2.2.length, [], []⟩ w (ost0 ob xs args n) { tmps := vs ++ Array.replicate (n - vs.size) undef, defers := [] } (gO S w B hvs ob xs) := by
  have hsz : args.length = vs.size := by rw [hargs.1]; simp
  have hsp : ∀ t b, Spare (gO S w B hvs ob xs) t b → ∃ i x hv, t = T0 + i ∧ xs[i]? = some x ∧ hvs[i]? = some hv ∧ HB hv b ∧ XIn S w x.1 x.2.1 x.2.2 hv ∧ (ob.isSome = true → ¬ HB hv B) := by
    rintro t b ⟨n', k', off, cap, h1, h2, h3⟩
    obtain ⟨i, x, rfl, e1, _, _⟩ := tT_some h1
    obtain ⟨hv, f1, f2, f3⟩ := hin.both e1
    rw [gO_hd f1] at h2
    exact ⟨i, x, hv, rfl, e1, f1, ⟨off, n', cap, h2, h3.pos⟩, f2, f3⟩
  have hxb : ∀ t b, XB (tX xs) (gO S w B hvs ob xs) t b → ∃ i hv, t = T0 + i ∧ hvs[i]? = some hv ∧ HB hv b := by
    rintro t b ⟨h1, off, n', cap, h2, h3⟩
    obtain ⟨x, hx⟩ := Option.isSome_iff_exists.1 h1
    obtain ⟨i, rfl, e1⟩ := tX_some hx
    obtain ⟨hv, f1, _, _⟩ := hin.both e1
    rw [gO_hd f1] at h2
    exact ⟨i, hv, rfl, f1, off, n', cap, h2, h3⟩
  refine { hH := rfl, hT := rfl, defers := rfl, len := by simp [ost0, hsz], tm := fun i p v hp hv => ?_, sub := fun _ _ h => h, new := fun _ _ h => .inl h, lt := hS, below := BelowE.refl _ _, objs := fun l o e => ?_, inj := fun l l' h1 h2 _ => ?_, owns := fun t n' k' e => ?_, ownsEx := fun t t' b h1 h2 => ?_, ownsObj := fun t b l h1 h2 => ?_, glob := hglob, exs := fun t k b xss e => ?_, exsEx := fun t t' b h1 h2 => ?_, fix := fun l b hF => ?_, fixT := fun t v n' hF => ?_ }
  · simp only [ost0] at hp
    simp only [List.append_nil, Array.getElem?_toList] at hv
    rw [List.getElem?_append] at hp
    by_cases hi : i < args.length
    · rw [if_pos hi] at hp
      rw [Array.getElem?_append_left (by omega)] at hv
      exact ArgR.rel (hargs.2 i p v hp (by simpa using hv)) (List.all_eq_true.1 hflat p (List.mem_of_getElem? hp))
    · rw [if_neg hi, List.getElem?_replicate] at hp
      split at hp
      · cases hp; trivial
      · cases hp
  · obtain ⟨rfl, e2⟩ := tH_some e
    obtain ⟨f1, f2, f3⟩ := hin.obj o e2
    exact ⟨.inr (.inl ⟨L0, by rw [e2]; rfl, rfl, rfl⟩), f1, f2, f3⟩
  · obtain ⟨o, h1⟩ := Option.isSome_iff_exists.1 h1
    obtain ⟨o', h2⟩ := Option.isSome_iff_exists.1 h2
    exact (tH_some h1).1.trans (tH_some h2).1.symm
  · obtain ⟨i, x, rfl, e1, rfl, rfl⟩ := tT_some e
    obtain ⟨hv, f1, f2, _⟩ := hin.both e1
    unfold OwnOK
    rw [gO_hd f1]
    rcases f2.lies with ⟨q1, q2⟩ | ⟨b, cap, q1, q2, q3, q4, _⟩
    · exact .inl ⟨q1, by rw [q2]; rfl⟩
    · exact .inr ⟨b, 0, cap, q1, q3, fun _ => ⟨fun q => absurd rfl q, q4, fun j hj => by simp at hj, fun q => absurd rfl q⟩⟩
  · obtain ⟨i, _, hv, rfl, _, e2, e3, _⟩ := hsp t b h1
    obtain ⟨j, _, hv', rfl, _, f2, f3, _⟩ := hsp t' b h2
    rw [hin.dist i j hv hv' b e2 f2 e3 f3]
  · obtain ⟨_, _, hv, _, _, _, e3, _, e5⟩ := hsp t b h1
    obtain ⟨o, h2⟩ := Option.isSome_iff_exists.1 h2
    have := (tH_some h2).2
    intro q
    exact e5 (by rw [this]; rfl) (by show HB hv B; rw [show B = b from q]; exact e3)
  · obtain ⟨i, rfl, e1⟩ := tX_some e
    obtain ⟨hv, f1, f2, f3⟩ := hin.both e1
    refine ⟨tT_get e1, f2.k0, f2.ks, f2.l1, f2.l2, ?_⟩
    rw [gO_hd f1]
    rcases f2.lies with q | ⟨b', cap, q1, q2, q3, q4, q5, q6, q7⟩
    · exact .inl q
    · have hB : HB hv b' := ⟨0, _, cap, q1, q2⟩
      refine .inr ⟨b', cap, q1, q2, q3, .inr (.inr ⟨T0 + i, hv, _, ⟨i, _, rfl, e1, f1, rfl⟩, hB⟩), q4, q5, q6, q7, fun l hl q => ?_, fun t' hs => ?_⟩
      · obtain ⟨o, hl⟩ := Option.isSome_iff_exists.1 hl
        have := (tH_some hl).2
        exact f3 (by rw [this]; rfl) (by rw [show B = b' from q]; exact hB)
      · obtain ⟨j, _, hv', rfl, _, g2, g3, _⟩ := hsp t' b' hs
        rw [hin.dist j i hv' hv b' g2 f1 g3 hB]
  · obtain ⟨i, hv, rfl, e2, e3⟩ := hxb t b h1
    obtain ⟨j, hv', rfl, f2, f3⟩ := hxb t' b h2
    rw [hin.dist i j hv hv' b e2 f2 e3 f3]
  · obtain ⟨_, rfl, rfl⟩ := hF
    exact ⟨by unfold L0; exact Nat.le_refl _, fun _ => rfl⟩
  · obtain ⟨i, x, rfl, e1, e2, rfl⟩ := hF
    refine ⟨Nat.le_add_right _ _, fun n0 e => ?_⟩
    have e' : tT xs (T0 + i) = some (n0, 0) := e
    rw [tT_get e1] at e'; cases e'
    rw [gO_hd e2]
    exact ⟨Nat.le_refl _, fun _ => rfl, fun b hb => .inl hb⟩
end
end PM
namespace PM
open Go Go.RowKit
section
variable {P : Program} {Gl : Nat → Option (List PV)} {S0 : Bs} {w0 : World} {s : PSt} {a : Act} {g : GG}
theorem OIn.E {S : Cells} {B : Nat} {hvs : List Value} {ob : Option PObj} {xs : List XL} {b : Nat} (h : Bs.E ⟨S, fun l b => ob.isSome = true ∧ l = L0 ∧ b = B, fun t v n => ∃ (i : Nat) (x : XL), t = T0 + i ∧ xs[i]? = some x ∧ hvs[i]? = some v ∧ n = x.2.2.length, [], []⟩ b) :
    (ob.isSome = true ∧ b = B) ∨ ∃ (i : Nat) (hv : Value), hvs[i]? = some hv ∧ HB hv b := by
  rcases h with ⟨_, h1, _, h2⟩ | ⟨_, v, _, ⟨i, _, _, _, h1, _⟩, h2⟩
  · exact .inl ⟨h1, h2⟩
  · exact .inr ⟨i, v, h1, h2⟩
theorem oshape_cells {ob : Option PObj} {cs' : List PV} (h : oshape ob = oshape (some (.cells cs'))) : ∃ cs, ob = some (.cells cs) ∧ cs'.length = cs.length := by
  cases ob with
  | none => simp [oshape] at h
  | some o => cases o <;> simp [oshape] at h ⊢; exact h.symm
theorem oshape_some {ob ob' : Option PObj} (h : oshape ob = oshape ob') : ob.isSome = ob'.isSome := by
  cases ob with
  | none => cases ob' with
    | none => rfl
    | some o' => cases o' <;> simp [oshape] at h
  | some o => cases ob' with
    | none => cases o <;> simp [oshape] at h
    | some o' => rfl
/-- The end of a function. -/
theorem OIn.finish {S : Cells} {w : World} {B : Nat} {hvs : List Value} {ob ob' : Option PObj} {xs xs' : List XL} {r : PV} {v : Value} (hin : OIn S w B hvs ob xs) (hshape : oshape ob = oshape ob')
    (h : InvG Gl ⟨S, fun l b => ob.isSome = true ∧ l = L0 ∧ b = B, fun t v n => ∃ (i : Nat) (x : XL), t = T0 + i ∧ xs[i]? = some x ∧ hvs[i]? = some v ∧ n = x.2.2.length, [], []⟩ w s a g)
    (h1 : s.H L0 = ob') (h2 : seenX s xs' T0 = toldX xs') (hlive : ∀ o, ob' = some o → liveO (tH ob') (tT xs') o = true) (hr : Rel (gN g.S g.w) r v) :
    OAfter S w B hvs ob xs r ob' xs' g.w v g.S ((List.range xs'.length).map fun i => g.hd (T0 + i)) := by
  have hx := seenX_get h2
  have hso := oshape_some hshape
  have hhv : ∀ (i : Nat) (hv : Value), ((List.range xs'.length).map fun i => g.hd (T0 + i))[i]? = some hv → ∃ x, xs'[i]? = some x ∧ hv = g.hd (T0 + i) := fun i hv e => by
    rw [List.getElem?_map] at e
    obtain ⟨j, e1, e2⟩ := Option.map_eq_some_iff.1 e
    obtain ⟨hj, e3⟩ := List.getElem?_eq_some_iff.1 e1
    rw [List.length_range] at hj
    rw [List.getElem_range] at e3
    subst e3
    exact ⟨xs'[i], List.getElem?_eq_getElem hj, e2.symm⟩
  have hgT : ∀ (i : Nat) (x : XL), xs'[i]? = some x → g.T (T0 + i) = some (x.2.2.length, 0) := fun i x e => by rw [h.hT]; exact (hx i x e).2
  have hex : ∀ (i : Nat) (x : XL), xs'[i]? = some x → ExOK g _ w.heap.size (T0 + i) x.1 x.2.1 x.2.2 := fun i x e => h.exs _ _ _ _ (hx i x e).1
  have hXB : ∀ (i : Nat) (x : XL) (b : Nat), xs'[i]? = some x → HB (g.hd (T0 + i)) b → XB s.X g (T0 + i) b := fun i x b e hb => ⟨by rw [(hx i x e).1]; rfl, hb⟩
  have hφ : ob'.isSome = true → (g.H L0).isSome = true ∧ g.φ L0 = B := fun e => by
    have : (g.H L0).isSome = true := by rw [h.hH, h1]; exact e
    exact ⟨this, (h.fix L0 B ⟨by rw [hso]; exact e, rfl, rfl⟩).2 this⟩
  have hobj : ∀ o, ob' = some o → B < g.w.heap.size ∧ (∀ o', ¬ g.S B o') ∧ ObjOK g B o := fun o e => by
    obtain ⟨_, f2⟩ := hφ (by rw [e]; rfl)
    obtain ⟨_, k2, k3, k4⟩ := h.objs L0 o (by rw [h.hH, h1]; exact e)
    rw [f2] at k2 k3 k4
    exact ⟨k2, k3, k4⟩
  refine ⟨h.below.mono fun b => OIn.E, h.sub, fun b o ho => ⟨h.lt b o ho, ?_⟩, ⟨by simp, fun o e => ?_, fun i x hv e1 e2 => ?_, fun i j hv hv' b e1 e2 q1 q2 => ?_⟩, fun i x x' hv hv' e1 e2 e3 e4 => ?_, hr⟩
  · rcases h.new b o ho with q | q | q
    · exact .inl q
    · exact .inr (.inl q)
    · rcases OIn.E q with ⟨q1, rfl⟩ | q
      · rw [hso] at q1
        obtain ⟨o1, q1⟩ := Option.isSome_iff_exists.1 q1
        exact absurd ho ((hobj o1 q1).2.1 o)
      · exact .inr (.inr q)
  · obtain ⟨k2, k3, k4⟩ := hobj o e
    obtain ⟨_, f2⟩ := hφ (by rw [e]; rfl)
    refine ⟨k2, k3, ?_⟩
    have hcut : Cut g (tH ob') (tT xs') := ⟨fun t x q => by
      obtain ⟨n, k⟩ := x
      obtain ⟨i, x, rfl, e1, rfl, rfl⟩ := tT_some q
      exact hgT i x e1, fun l cs q hl => by
      obtain ⟨o1, hl⟩ := Option.isSome_iff_exists.1 hl
      obtain ⟨rfl, _⟩ := tH_some hl
      rw [h.hH, h1] at q
      exact ⟨cs, by rw [tH_get]; exact q, rfl⟩⟩
    have hle : GLe { g with H := tH ob', T := tT xs' } (gO g.S g.w B ((List.range xs'.length).map fun i => g.hd (T0 + i)) ob' xs') := by
      refine ⟨fun _ _ q => q, fun _ _ _ => rfl, fun _ _ => rfl, fun l o1 q => ?_, fun t n k q => ?_⟩
      · obtain ⟨rfl, _⟩ := tH_some q
        exact ⟨f2.symm, o1, q, fun cs q => ⟨cs, q, rfl⟩⟩
      · refine ⟨n, q, Nat.le_refl _, fun _ => ?_⟩
        obtain ⟨i, x, rfl, e1, _, _⟩ := tT_some q
        refine gO_hd ?_
        rw [List.getElem?_map, List.getElem?_range (List.getElem?_eq_some_iff.1 e1).1]; rfl
    have hl := hlive o e
    cases o with
    | cells cs =>
      obtain ⟨us, u1, u2, u3⟩ := k4
      refine ⟨us, ⟨u1.1, fun i p u hp hu => ?_⟩, u2, u3⟩
      have h5 := u1.2 i p u hp hu
      exact RelC.mono hle p u ⟨h5.1.live hcut (List.all_eq_true.1 hl p (List.mem_of_getElem? hp)), h5.2⟩
    | map es => exact k4
    | iter b pos => exact k4
    | miter ks vs left cur => exact k4
    | mapo es k b tk => cases hl
  · obtain ⟨_, _, rfl⟩ := hhv i hv e2
    refine ⟨h.xin (hx i x e1).1, fun q hb => ?_⟩
    obtain ⟨f1, f2⟩ := hφ q
    exact (XB.lt h (hXB i x B e1 hb)).2.2.2.1 L0 f1 f2
  · obtain ⟨x, f1, rfl⟩ := hhv i hv e1
    obtain ⟨x', f2, rfl⟩ := hhv j hv' e2
    have := h.exsEx _ _ b (hXB i x b f1 q1) (hXB j x' b f2 q2)
    omega
  · obtain ⟨_, _, rfl⟩ := hhv i hv' e4
    obtain ⟨f1, f2, f3⟩ := (h.fixT (T0 + i) hv x.2.2.length ⟨i, x, rfl, e1, e3, rfl⟩).2 _ (hgT i x' e2)
    exact ⟨f1, f2, f3⟩
theorem ocall_of_pwp {f : FuncId} {fn : Func} {c : Code} {args : List PV} {r : PV} {ob ob' : Option PObj} {xs xs' : List XL} {n : Nat} {rs : List ResultVar} (hf : P.funcs[f]? = some fn) (hname : (fn.name == "runtime.NumGoroutine") = false) (hb : fn.body = some c)
    (hn : fn.ntmps = n) (hrs : fn.results.toList = rs) (hflat : args.all flatArg = true) (hshape : oshape ob = oshape ob') (hlen : xs'.length ≤ xs.length) (hlive : (ob'.all fun o => liveO (tH ob') (tT xs') o) = true)
    (h : pwp P Gl c (obodyQ P Gl rs r ob' xs') (ost0 ob xs args n)) : OCall P Gl f ob xs args r ob' xs' := by
  refine ⟨⟨fn, hf, hname, by rw [hb]; rfl⟩, ⟨hshape, hlen⟩, fun S w B hvs vs hS hglob hin hargs => ?_⟩
  subst hn; subst hrs
  refine calls_of_wp hf hb ?_
  refine wp_mono (fun e a' w' hq => ?_) (h _ w _ w ⟨_, rfl, hin.start fn.ntmps hS hglob hargs hflat⟩)
  obtain ⟨s0, hq, hi⟩ := hq
  have fin : (∃ s1, Wkr s0 s1 ∧ ofinal P Gl fn.results.toList r ob' xs' s1) → a'.defers = [] ∧ ∃ v, (results fn a'.tmps).run P w' = .ok v w' ∧ ∃ v_1 S' hvs', Ending.returned v = .returned v_1 ∧ OAfter S w B hvs ob xs r ob' xs' w' v_1 S' hvs' := by
    rintro ⟨s', hwk, h0, ps, pv, h1, h2, h3⟩
    obtain ⟨g, rfl, hg⟩ := hwk _ _ _ _ _ hi
    simp only [Prod.mk.injEq] at h0
    refine ⟨hg.defers, ?_⟩
    obtain ⟨us, r1, r2⟩ := run_resPV hg _ _ h1
    have hcut : Cut g (fun _ => none) (fun _ => none) := ⟨fun t x hx => (by cases hx), fun l cs _ e => (by cases e)⟩
    have hrel := (onePV_spec h2 r2).weak hcut h3
    have hle0 : GLe { g with H := fun _ => none, T := fun _ => none } (gN g.S g.w) := ⟨fun _ _ q => q, fun _ _ _ => rfl, fun _ _ => rfl, fun l ob q => (by change none = some ob at q; cases q), fun t n k q => (by change none = some (n, k) at q; cases q)⟩
    refine ⟨_, ?_, _, _, _, rfl, hin.finish hshape hg h0.1 h0.2 (fun o e => by rw [e] at hlive ⊢; exact hlive) (hrel.mono hle0)⟩
    rw [results_eq, Array.mapM_eq_mapM_toList]
    simp only [Sem.run_bind, Sem.run_map, r1, Result.andThen_ok, Sem.run_pure]
  cases e with
  | normal => exact fin hq
  | ret => exact fin hq
  | exit id => exact hq.elim
  | goto l => exact hq.elim
  | panic ch => exact hq.elim
  | outgrown => exact hq.elim
end
end PM
/-
  THE PURE MACHINE, Oc: the call.
-/
namespace PM
open Go Go.RowKit

def idxT : List Nat → Nat → Option Nat
  | [], _ => none
  | x :: r, t => match x == t with | true => some 0 | false => (idxT r t).map (· + 1)
def nodupB : List Nat → Bool
  | [] => true
  | x :: r => (idxT r x).isNone && nodupB r
def canC (ts : List Nat) : PV → Option PV
  | .ex t k b N o n => (idxT ts t).map fun i => .ex (T0 + i) k b N o n
  | p => datum1 p
def canL (ts : List Nat) : List PV → Option (List PV)
  | [] => some []
  | p :: r => match canC ts p, canL ts r with
    | some q, some qs => some (q :: qs)
    | _, _ => none
def canO (ts : List Nat) : PObj → Option PObj
  | .cells cs => (canL ts cs).map .cells
  | .map es => some (.map es)
  | .iter b pos => some (.iter b pos)
  | .miter _ _ _ _ => none
  | .mapo _ _ _ _ => none
/-- tn: a token (cells and bytes of an element) of an empty list, for an argument that is nil. -/
def canArg (lc : Option Nat) (ts : List Nat) (tn : Option (Nat × Nat × Nat)) : PV → Option PV
  | .nil => match tn with | some (t, k, b) => (idxT ts t).map fun i => .ex (T0 + i) k b 0 0 0 | none => some .nil
  | .ref l o => match lc with | some l0 => (match l == l0 with | true => some (.ref L0 o) | false => none) | none => none
  | .mp l => match lc with | some l0 => (match l == l0 with | true => some (.mp L0) | false => none) | none => none
  | .ex t k b N o n => (idxT ts t).map fun i => .ex (T0 + i) k b N o n
  | p => datumA p
def canAs (lc : Option Nat) (ts : List Nat) (tn : Option (Nat × Nat × Nat)) : List PV → Option (List PV)
  | [] => some []
  | p :: r => match canArg lc ts tn p, canAs lc ts tn r with
    | some q, some qs => some (q :: qs)
    | _, _ => none
def isLoc : PV → Bool
  | .ref _ _ => true
  | .mp _ => true
  | .ex _ _ _ _ _ _ => true
  | _ => false
def dcoX (a q : PV) : PV := match isLoc q with | true => q | false => dcoA a q
def dcoXs : List PV → List PV → List PV
  | a :: as, q :: qs => dcoX a q :: dcoXs as qs
  | _, qs => qs
def dcoX1 (a q : PV) : PV := match isLoc q with | true => q | false => dco1 a q
def dcoX1s : List PV → List PV → List PV
  | a :: as, q :: qs => dcoX1 a q :: dcoX1s as qs
  | _, qs => qs
def dcoOb (a q : PObj) : PObj := match a, q with
  | .cells as, .cells qs => .cells (dcoX1s as qs)
  | _, q => q
/-- The variable as the call sees it. -/
def objOf (lc : Option Nat) (ts : List Nat) (ob : Option PObj) (s : PSt) : Option (Option PObj) := match lc with
  | none => some none
  | some l => ((s.H l).bind (canO ts)).map fun o => some (match ob with | some a => dcoOb a o | none => o)
def ucanC (ts : List Nat) : PV → PV
  | .ex t k b N o n => match ts[t - T0]? with | some t' => .ex t' k b N o n | none => .any
  | p => (datum1 p).getD .any
def ucanO (ts : List Nat) : Option PObj → PObj
  | some (.cells cs) => .cells (cs.map (ucanC ts))
  | some o => o
  | none => .cells []
def oX (ts : List Nat) (xs' : List XL) (X : XT) (t : Nat) : Option XL := match idxT ts t with | some i => xs'[i]? | none => X t
def oT (ts : List Nat) (xs' : List XL) (T : Nat → Option (Nat × Nat)) (t : Nat) : Option (Nat × Nat) := match idxT ts t with | some i => (match xs'[i]? with | some x => some (x.2.2.length, 0) | none => T t) | none => T t
def ocallHd (lc : Option Nat) (ts : List Nat) (tn : Option (Nat × Nat × Nat)) : List (Oper × Gd) → PSt → Option (FuncId × List PV)
  | (o, .always) :: _, s => match callOf o.op with
    | some (x, args) => match s.ev x with
      | .fn f [] => (canAs lc ts tn (args.map s.ev)).map fun qs => (f, qs)
      | _ => none
    | none => none
  | _, _ => none
section
variable {P : Program} {Gl : Nat → Option (List PV)} {S0 : Bs} {w0 : World} {s : PSt} {a : Act} {g : GG}
theorem idxT_get : ∀ {ts : List Nat} {t i : Nat}, idxT ts t = some i → ts[i]? = some t
  | [], _, _, h => by cases h
  | x :: r, t, i, h => by
    simp only [idxT] at h
    split at h
    · rename_i he; cases h; simpa using he
    · obtain ⟨j, h1, rfl⟩ := Option.map_eq_some_iff.1 h
      simpa using idxT_get h1
theorem idxT_of : ∀ {ts : List Nat}, nodupB ts = true → ∀ {t i : Nat}, ts[i]? = some t → idxT ts t = some i
  | [], _, _, _, h => by simp at h
  | x :: r, hn, t, i, h => by
    simp only [nodupB, Bool.and_eq_true] at hn
    simp only [idxT]
    cases i with
    | zero => simp at h; subst h; rw [show (x == x) = true from beq_self_eq_true _]
    | succ i =>
      have h1 := idxT_of hn.2 (t := t) (i := i) (by simpa using h)
      have hne : (x == t) = false := by
        cases he : (x == t) with
        | false => rfl
        | true => rw [show x = t by simpa using he, h1] at hn; simp at hn
      rw [hne, h1]; rfl
theorem idxT_none : ∀ {ts : List Nat} {t : Nat}, idxT ts t = none → t ∉ ts
  | [], _, _ => by simp
  | x :: r, t, h => by
    simp only [idxT] at h
    split at h
    · cases h
    · rename_i he
      have h1 : idxT r t = none := by simpa using h
      have := idxT_none h1
      simp only [List.mem_cons, not_or]
      exact ⟨fun e => by simp [e] at he, this⟩
/-- How the caller's names and the call's go together. -/
structure Tie (g : GG) (lc : Option Nat) (ts : List Nat) (B : Nat) (hvs : List Value) (ob : Option PObj) (xs : List XL) : Prop where
  nd : nodupB ts = true
  hl : ∀ l, lc = some l → B = g.φ l ∧ ob.isSome = true
  ht : ∀ (t i : Nat), ts[i]? = some t → ∃ x, xs[i]? = some x ∧ g.T t = some (x.2.2.length, 0) ∧ hvs[i]? = some (g.hd t)
theorem Tie.ex {lc : Option Nat} {ts : List Nat} {B : Nat} {hvs : List Value} {ob : Option PObj} {xs : List XL} (h : Tie g lc ts B hvs ob xs) {t k b N o n i : Nat} {v : Value} (hi : idxT ts t = some i) (hr : Rel1 g (.ex t k b N o n) v) : Rel1 (gO g.S g.w B hvs ob xs) (.ex (T0 + i) k b N o n) v := by
  obtain ⟨x, h1, h2, h3⟩ := h.ht t i (idxT_get hi)
  simp only [Rel1] at hr ⊢
  obtain ⟨r0, N', r1, r2, r3⟩ := hr
  rw [h2] at r1; cases r1
  exact ⟨r0, _, tT_get h1, r2, fun e => by rw [gO_hd h3]; exact r3 e⟩
theorem Tie.cell {lc : Option Nat} {ts : List Nat} {B : Nat} {hvs : List Value} {ob : Option PObj} {xs : List XL} (h : Tie g lc ts B hvs ob xs) {p q : PV} {v : Value} (hr : RelC g p v) (hc : canC ts p = some q) : RelC (gO g.S g.w B hvs ob xs) q v := by
  refine ⟨?_, hr.2⟩
  have key : ∀ {p : PV}, Rel1 g p v → datum1 p = some q → Rel1 (gO g.S g.w B hvs ob xs) q v := fun h1 h2 => by
    obtain ⟨e1, e2⟩ := datum1_spec h1 h2
    exact Rel1.of_data e1 e2
  cases p
  case ex t k b N o n =>
    simp only [canC] at hc
    obtain ⟨i, hi, rfl⟩ := Option.map_eq_some_iff.1 hc
    exact h.ex hi hr.1
  all_goals exact key hr.1 hc
theorem Tie.cells {lc : Option Nat} {ts : List Nat} {B : Nat} {hvs : List Value} {ob : Option PObj} {xs : List XL} (h : Tie g lc ts B hvs ob xs) : ∀ {cs ds : List PV} {vs : List Value}, All2 (RelC g) cs vs → canL ts cs = some ds → All2 (RelC (gO g.S g.w B hvs ob xs)) ds vs
  | [], ds, vs, hr, hc => by
    simp only [canL] at hc; cases hc
    rw [hr.nil_left]; exact .nil
  | c :: cs, ds, vs, hr, hc => by
    simp only [canL] at hc
    split at hc
    · rename_i x y h1 h2
      cases hc
      obtain ⟨v, vs', rfl, hv, hvs⟩ := hr.cons_left
      exact .cons (h.cell hv h1) (h.cells hvs h2)
    · cases hc
theorem dcoX1s_rel {g : GG} : ∀ {as qs : List PV} {vs : List Value}, All2 (RelC g) qs vs → All2 (RelC g) (dcoX1s as qs) vs
  | a :: as, q :: qs, vs, h => by
    obtain ⟨v, vs', rfl, h1, h2⟩ := h.cons_left
    refine .cons ?_ (dcoX1s_rel h2)
    unfold dcoX1
    split
    · exact h1
    · unfold dco1
      refine ⟨?_, h1.2⟩
      split
      · split
        · exact RelD.unfull h1.1
        · exact RelD.ofNil _ _ (.inl rfl) h1.1
        · exact h1.1
      · split
        · exact RelD.ofNil _ _ (.inr rfl) h1.1
        · exact h1.1
      · exact h1.1
  | [], _, _, h => h
  | _ :: _, [], _, h => h
theorem Tie.arg {lc : Option Nat} {ts : List Nat} {B : Nat} {hvs : List Value} {ob : Option PObj} {xs : List XL} (h : Tie g lc ts B hvs ob xs) {tn : Option (Nat × Nat × Nat)} (hnil : ∀ x, tn = some x → g.hd x.1 = .slice none 0 0 ∧ g.T x.1 = some (0, 0)) {p q : PV} {v : Value} (hr : Rel g p v) (hc : canArg lc ts tn p = some q) : ArgR (gO g.S g.w B hvs ob xs) q v := by
  have hsome : ∀ l, lc = some l → ((gO g.S g.w B hvs ob xs).H L0).isSome = true := fun l e => by
    show (tH ob L0).isSome = true
    rw [tH_get]; exact (h.hl l e).2
  have key : ∀ {p : PV}, Rel g p v → datumA p = some q → ArgR (gO g.S g.w B hvs ob xs) q v := fun {p} h1 h2 => by
    have hd := datumA_spec (h1.relA h2) h2
    have : isLoc q = false := by
      cases p <;> simp only [datumA, datum1] at h2
      case agg cs => obtain ⟨_, _, rfl⟩ := Option.map_eq_some_iff.1 h2; rfl
      case lst o k b xss => cases o <;> simp only at h2 <;> cases h2 <;> rfl
      case fn f caps => split at h2 <;> cases h2; rfl
      all_goals (cases h2; try rfl)
    cases q <;> first | exact hd | cases this
  cases p
  case ref l o =>
    simp only [canArg] at hc
    split at hc
    · rename_i l0
      split at hc
      · rename_i he
        have he : l = l0 := by simpa using he
        subst he
        cases hc
        rw [relRef] at hr
        simp only [ArgR, Rel1]
        exact ⟨by show v = .pointer (some ⟨B, o, none⟩); rw [(h.hl l rfl).1]; exact hr.1, hsome l rfl⟩
      · cases hc
    · cases hc
  case mp l =>
    simp only [canArg] at hc
    split at hc
    · rename_i l0
      split at hc
      · rename_i he
        have he : l = l0 := by simpa using he
        subst he
        cases hc
        simp only [Rel, RelA, Rel1] at hr
        simp only [ArgR, Rel1]
        exact ⟨by show v = .map (some B); rw [(h.hl l rfl).1]; exact hr.1, hsome l rfl⟩
      · cases hc
    · cases hc
  case ex t k b N o n =>
    simp only [canArg] at hc
    obtain ⟨i, hi, rfl⟩ := Option.map_eq_some_iff.1 hc
    simp only [Rel, RelA] at hr
    exact h.ex hi hr
  case tup vs => simp [canArg, datumA, datum1] at hc
  case nil =>
    have hv : v = .slice none 0 0 := by simpa [Rel, RelA, Rel1, RelD] using hr
    simp only [canArg] at hc
    split at hc
    · rename_i t k b
      obtain ⟨i, hi, rfl⟩ := Option.map_eq_some_iff.1 hc
      obtain ⟨n1, n2⟩ := hnil _ rfl
      refine h.ex (b := b) hi ?_
      simp only [Rel1]
      exact ⟨⟨none, 0, hv, Nat.le_refl _, fun q => by omega⟩, 0, n2, Nat.le_refl _, fun _ => .inl ⟨by rw [n1]; exact hv, rfl, rfl, rfl⟩⟩
    · cases hc; simp only [ArgR, RelD]; exact hv
  all_goals exact key hr hc
theorem Tie.args {lc : Option Nat} {ts : List Nat} {B : Nat} {hvs : List Value} {ob : Option PObj} {xs : List XL} (h : Tie g lc ts B hvs ob xs) {tn : Option (Nat × Nat × Nat)} (hnil : ∀ x, tn = some x → g.hd x.1 = .slice none 0 0 ∧ g.T x.1 = some (0, 0)) : ∀ {cs ds : List PV} {vs : List Value}, All2 (Rel g) cs vs → canAs lc ts tn cs = some ds → All2 (ArgR (gO g.S g.w B hvs ob xs)) ds vs
  | [], ds, vs, hr, hc => by
    simp only [canAs] at hc; cases hc
    rw [hr.nil_left]; exact .nil
  | c :: cs, ds, vs, hr, hc => by
    simp only [canAs] at hc
    split at hc
    · rename_i x y h1 h2
      cases hc
      obtain ⟨v, vs', rfl, hv, hvs⟩ := hr.cons_left
      exact .cons (h.arg hnil hv h1) (h.args hnil hvs h2)
    · cases hc
theorem dcoXs_rel {g : GG} : ∀ {as qs : List PV} {vs : List Value}, All2 (ArgR g) qs vs → All2 (ArgR g) (dcoXs as qs) vs
  | a :: as, q :: qs, vs, h => by
    obtain ⟨v, vs', rfl, h1, h2⟩ := h.cons_left
    refine .cons ?_ (dcoXs_rel h2)
    unfold dcoX
    split
    · exact h1
    · rename_i hl
      have hq : RelD g.S g.w q v := by cases q <;> first | exact h1 | cases hl
      have hr : RelD g.S g.w (dcoA a q) v := dcoA_rel hq
      have : isLoc (dcoA a q) = false := by
        unfold dcoA
        split
        · split
          · rfl
          · exact hl
        · unfold dco1
          split
          · split <;> first | rfl | exact hl
          · split <;> first | rfl | exact hl
          · exact hl
      cases hd : dcoA a q <;> rw [hd] at hr this <;> first | exact hr | cases this
  | [], _, _, h => h
  | _ :: _, [], _, h => h
theorem ucan_rel {S' : Cells} {w' : World} {B : Nat} {hvs' : List Value} {ob' : Option PObj} {xs' : List XL} {ts : List Nat} {g' : GG} (hS : g'.S = S') (hw : g'.w = w') (ht : ∀ (i t : Nat) (x : XL) (hv : Value), ts[i]? = some t → xs'[i]? = some x → hvs'[i]? = some hv → g'.hd t = hv ∧ g'.T t = some (x.2.2.length, 0)) (hlen : hvs'.length = xs'.length)
    {q : PV} {v : Value} (h : RelC (gO S' w' B hvs' ob' xs') q v) : RelC g' (ucanC ts q) v := by
  subst hS; subst hw
  refine ⟨?_, h.2⟩
  have key : ∀ {q : PV}, Rel1 (gO g'.S g'.w B hvs' ob' xs') q v → Rel1 g' ((datum1 q).getD .any) v := fun {q} h1 => by
    cases hd : datum1 q with
    | none => trivial
    | some q' =>
      obtain ⟨e1, e2⟩ := datum1_spec h1 hd
      exact Rel1.of_data e1 e2
  cases q
  case ex t k b N o n =>
    simp only [ucanC]
    split
    · rename_i t' he
      have h1 := h.1
      simp only [Rel1] at h1 ⊢
      obtain ⟨r0, N', r1, r2, r3⟩ := h1
      have r1' : tT xs' t = some (N', 0) := r1
      obtain ⟨i, x, rfl, e1, rfl, _⟩ := tT_some r1'
      rw [Nat.add_sub_cancel_left] at he
      have hi : i < hvs'.length := by rw [hlen]; exact (List.getElem?_eq_some_iff.1 e1).1
      obtain ⟨f1, f2⟩ := ht i t' x _ he e1 (List.getElem?_eq_getElem hi)
      refine ⟨r0, _, f2, r2, fun e => ?_⟩
      have := r3 e
      rw [gO_hd (List.getElem?_eq_getElem hi)] at this
      rw [f1]; exact this
    · trivial
  all_goals exact key h.1
end
end PM
namespace PM
open Go Go.RowKit
section
variable {P : Program} {Gl : Nat → Option (List PV)} {S0 : Bs} {w0 : World} {s : PSt} {a : Act} {g : GG} {Ls : List (Oper × Gd)} {Q : PSt → Prop}
theorem seenL_get {s : PSt} : ∀ {ts : List Nat} {xs : List XL}, ts.map (fun t => (s.X t, s.T t)) = toldX xs → ∀ (i t : Nat), ts[i]? = some t → ∃ x, xs[i]? = some x ∧ s.X t = some x ∧ s.T t = some (x.2.2.length, 0)
  | [], _, _, i, t, ht => by simp at ht
  | y :: r, [], h, _, _, _ => by simp [toldX] at h
  | y :: r, x :: xs, h, i, t, ht => by
    simp only [toldX, List.map_cons, List.cons.injEq, Prod.mk.injEq] at h
    cases i with
    | zero => simp at ht; subst ht; exact ⟨x, rfl, h.1.1, h.1.2⟩
    | succ i =>
      obtain ⟨x', h1, h2⟩ := seenL_get (ts := r) (xs := xs) h.2 i t (by simpa using ht)
      exact ⟨x', by simpa using h1, h2⟩
/-- What the call finds. -/
theorem InvG.oin (h : InvG Gl S0 w0 s a g) {lc : Option Nat} {ts : List Nat} {ob : Option PObj} {xs : List XL} (hn : nodupB ts = true) (hob : objOf lc ts ob s = some ob) (hX : ts.map (fun t => (s.X t, s.T t)) = toldX xs) :
    ∃ B, Tie g lc ts B (ts.map g.hd) ob xs ∧ OIn g.S g.w B (ts.map g.hd) ob xs ∧ (ob.isSome = true → ∃ l obc, lc = some l ∧ B = g.φ l ∧ g.H l = some obc ∧ ∀ cs, ob = some (.cells cs) → ∃ cs', obc = .cells cs' ∧ cs'.length = cs.length) := by
  have hx := seenL_get hX
  have hl0 : ts.length = xs.length := by simpa [toldX] using congrArg List.length hX
  have hget : ∀ (i : Nat) (hv : Value), (ts.map g.hd)[i]? = some hv → ∃ t x, ts[i]? = some t ∧ hv = g.hd t ∧ xs[i]? = some x ∧ s.X t = some x ∧ s.T t = some (x.2.2.length, 0) := fun i hv e => by
    rw [List.getElem?_map] at e
    obtain ⟨t, e1, e2⟩ := Option.map_eq_some_iff.1 e
    obtain ⟨x, e3, e4⟩ := hx i t e1
    exact ⟨t, x, e1, e2.symm, e3, e4⟩
  have hxb : ∀ (t : Nat) (x : XL) (b : Nat), s.X t = some x → HB (g.hd t) b → XB s.X g t b := fun t x b e hb => ⟨by rw [e]; rfl, hb⟩
  have htie : ∀ B, (∀ l, lc = some l → B = g.φ l ∧ ob.isSome = true) → Tie g lc ts B (ts.map g.hd) ob xs := fun B hB => ⟨hn, hB, fun t i e => by
    obtain ⟨x, e1, e2, e3⟩ := hx i t e
    exact ⟨x, e1, by rw [h.hT]; exact e3, by rw [List.getElem?_map, e]; rfl⟩⟩
  have hdist : ∀ (i j : Nat) (hv hv' : Value) (b : Nat), (ts.map g.hd)[i]? = some hv → (ts.map g.hd)[j]? = some hv' → HB hv b → HB hv' b → i = j := fun i j hv hv' b e1 e2 q1 q2 => by
    obtain ⟨t, x, f1, rfl, _, f3, _⟩ := hget i hv e1
    obtain ⟨t', x', f1', rfl, _, f3', _⟩ := hget j hv' e2
    have e := h.exsEx t t' b (hxb t x b f3 q1) (hxb t' x' b f3' q2)
    subst e
    have r1 := idxT_of hn f1
    rw [idxT_of hn f1'] at r1
    simpa using r1.symm
  have hxin : ∀ (i : Nat) (x : XL) (hv : Value), xs[i]? = some x → (ts.map g.hd)[i]? = some hv → XIn g.S g.w x.1 x.2.1 x.2.2 hv ∧ ∀ l, (g.H l).isSome = true → ¬ HB hv (g.φ l) := fun i x hv e1 e2 => by
    obtain ⟨t, x', f1, rfl, f2, f3, _⟩ := hget i hv e2
    rw [e1] at f2; cases f2
    exact ⟨h.xin f3, fun l hl hb => (XB.lt h (hxb t x _ f3 hb)).2.2.2.1 l hl rfl⟩
  cases lc with
  | none =>
    simp only [objOf] at hob
    cases hob
    exact ⟨0, htie 0 (fun l e => by cases e), ⟨by simpa using hl0, (fun o e => by cases e), fun i x hv e1 e2 => ⟨(hxin i x hv e1 e2).1, fun e => by cases e⟩, hdist⟩, fun e => by cases e⟩
  | some l =>
    simp only [objOf] at hob
    obtain ⟨o, h1, h2⟩ := Option.map_eq_some_iff.1 hob
    obtain ⟨obc, h3, h4⟩ := Option.bind_eq_some_iff.1 h1
    have hgl : g.H l = some obc := by rw [h.hH]; exact h3
    have hs : (g.H l).isSome = true := by rw [hgl]; rfl
    obtain ⟨k1, k2, k3, k4⟩ := h.objs l obc hgl
    have hsome : ob.isSome = true := by rw [← h2]; rfl
    have tie := htie (g.φ l) (fun l' e => by cases e; exact ⟨rfl, hsome⟩)
    have hok : ObjOK (gO g.S g.w (g.φ l) (ts.map g.hd) ob xs) (g.φ l) o := by
      cases obc with
      | cells cs =>
        simp only [canO] at h4
        obtain ⟨ds, h5, rfl⟩ := Option.map_eq_some_iff.1 h4
        obtain ⟨us, u1, u2, u3⟩ := k4
        exact ⟨us, tie.cells u1 h5, u2, u3⟩
      | map es => simp only [canO] at h4; cases h4; exact k4
      | iter b pos => simp only [canO] at h4; cases h4; exact k4
      | miter ks vs left cur => cases h4
      | mapo es k b tk => cases h4
    have hshape : ∀ cs, o = .cells cs → ∃ cs', obc = .cells cs' ∧ cs'.length = cs.length := fun cs e => by
      subst e
      cases obc with
      | cells cs' =>
        simp only [canO] at h4
        obtain ⟨ds, h5, h6⟩ := Option.map_eq_some_iff.1 h4
        cases h6
        obtain ⟨us, u1, _⟩ := k4
        exact ⟨cs', rfl, by rw [u1.1, (tie.cells u1 h5).1]⟩
      | map es => simp only [canO] at h4; cases h4
      | iter b pos => simp only [canO] at h4; cases h4
      | miter ks vs left cur => cases h4
      | mapo es k b tk => cases h4
    have hobE : ∀ o', ob = some o' → ObjOK (gO g.S g.w (g.φ l) (ts.map g.hd) ob xs) (g.φ l) o' ∧ ∀ cs, o' = .cells cs → ∃ cs', obc = .cells cs' ∧ cs'.length = cs.length := fun o' e => by
      rw [e] at h2
      simp only [Option.some.injEq] at h2
      cases o' <;> cases o <;> simp only [dcoOb] at h2 <;> try (cases h2)
      · rename_i as qs
        obtain ⟨us, u1, u2, u3⟩ := hok
        have e3 : dcoX1s as qs = as := by simpa using h2
        have u4 := dcoX1s_rel (as := as) u1
        rw [e3] at u4
        refine ⟨⟨us, u4, u2, u3⟩, fun cs e => ?_⟩
        cases e
        obtain ⟨cs', e1, e2⟩ := hshape _ rfl
        exact ⟨cs', e1, by rw [e2, u1.1]; exact u4.1.symm⟩
      all_goals exact ⟨hok, fun cs e => by cases e⟩
    exact ⟨g.φ l, tie, ⟨by simpa using hl0, fun o' e => ⟨k2, k3, (hobE o' e).1⟩, fun i x hv e1 e2 => ⟨(hxin i x hv e1 e2).1, fun _ => (hxin i x hv e1 e2).2 l hs⟩, hdist⟩, fun _ => ⟨l, obc, rfl, rfl, hgl, fun cs e => (hobE _ e).2 cs rfl⟩⟩
end
end PM
namespace PM
open Go Go.RowKit
section
variable {P : Program} {Gl : Nat → Option (List PV)} {S0 : Bs} {w0 : World} {s : PSt} {a : Act} {g : GG} {Ls : List (Oper × Gd)} {Q : PSt → Prop}
/-- The state behind the call. -/
def oSt (lc : Option Nat) (ts : List Nat) (ob' : Option PObj) (xs' : List XL) (s : PSt) : PSt := { s with H := owH lc (ucanO ts ob') s.H, T := oT ts xs' s.T, X := oX ts xs' s.X }
/-- What the call leaves. -/
theorem InvG.oafter (h : InvG Gl S0 w0 s a g) {lc : Option Nat} {ts : List Nat} {ob ob' : Option PObj} {xs xs' : List XL} {r : PV} {v : Value} {B : Nat} {w' : World} {S' : Cells} {hvs' : List Value} (hlc : lc.isSome = ob.isSome) (hX : ts.map (fun t => (s.X t, s.T t)) = toldX xs)
    (tie : Tie g lc ts B (ts.map g.hd) ob xs) (hobj : ob.isSome = true → ∃ l obc, lc = some l ∧ B = g.φ l ∧ g.H l = some obc ∧ ∀ cs, ob = some (.cells cs) → ∃ cs', obc = .cells cs' ∧ cs'.length = cs.length) (hshape : oshape ob = oshape ob') (hoc : ∀ obc l cs, lc = some l → g.H l = some obc → obc = .cells cs → ∃ cs', ob = some (.cells cs'))
    (ha : OAfter g.S g.w B (ts.map g.hd) ob xs r ob' xs' w' v S' hvs') :
    ∃ g', g'.w = w' ∧ InvG Gl S0 w0 (oSt lc ts ob' xs' s) a g' ∧ GLe g g' ∧ Rel g' r v := by
  have hx := seenL_get hX
  have hso := oshape_some hshape
  let nx : Nat → Option (Value × XL) := fun t => match idxT ts t with
    | some i => (match hvs'[i]?, xs'[i]? with | some hv, some x => some (hv, x) | _, _ => none)
    | none => none
  have hnx : ∀ t hv x, nx t = some (hv, x) → ∃ i, idxT ts t = some i ∧ hvs'[i]? = some hv ∧ xs'[i]? = some x := fun t hv x e => by
    simp only [nx] at e
    split at e
    · rename_i i hi
      split at e
      · rename_i hv' x' e1 e2
        cases e; exact ⟨i, hi, e1, e2⟩
      · cases e
    · cases e
  have hnx' : ∀ t i x, idxT ts t = some i → xs'[i]? = some x → ∃ hv, hvs'[i]? = some hv ∧ nx t = some (hv, x) := fun t i x e1 e2 => by
    have hi : i < hvs'.length := by rw [ha.inn.len]; exact (List.getElem?_eq_some_iff.1 e2).1
    refine ⟨hvs'[i], List.getElem?_eq_getElem hi, ?_⟩
    simp only [nx, e1, e2, List.getElem?_eq_getElem hi]
  have hnn : ∀ t i, idxT ts t = some i → xs'[i]? = none → nx t = none := fun t i e1 e2 => by
    simp only [nx, e1, e2]
    split <;> first | rfl | (rename_i q; cases q)
  have hmem : ∀ t i, idxT ts t = some i → t ∈ ts := fun t i e => List.mem_of_getElem? (idxT_get e)
  have eT : owT nx s.T = oT ts xs' s.T := by
    funext t
    unfold owT oT
    cases hi : idxT ts t with
    | none => simp only [nx, hi]
    | some i =>
      cases hxi : xs'[i]? with
      | none => simp only [hnn t i hi hxi, hxi]
      | some x => obtain ⟨hv, _, e⟩ := hnx' t i x hi hxi; simp only [e, hxi]
  have eX : owX nx ts s.X = oX ts xs' s.X := by
    funext t
    unfold owX oX
    cases hi : idxT ts t with
    | none => simp only [nx, hi]; rw [if_neg (idxT_none hi)]
    | some i =>
      cases hxi : xs'[i]? with
      | none => simp only [hnn t i hi hxi, hxi]; rw [if_pos (hmem t i hi)]
      | some x => obtain ⟨hv, _, e⟩ := hnx' t i x hi hxi; simp only [e, hxi]
  have hhv : ∀ (i : Nat) (hv : Value) (b : Nat), (ts.map g.hd)[i]? = some hv → HB hv b → ∃ t, t ∈ ts ∧ HB (g.hd t) b := fun i hv b e hb => by
    rw [List.getElem?_map] at e
    obtain ⟨t, e1, e2⟩ := Option.map_eq_some_iff.1 e
    exact ⟨t, List.mem_of_getElem? e1, by rw [e2]; exact hb⟩
  have hB : ob.isSome = true → ∃ l, lc = some l ∧ B = g.φ l := fun e => by
    obtain ⟨l, _, e1, e2, _⟩ := hobj e
    exact ⟨l, e1, e2⟩
  have main := h.callWorld (lc := lc) (ob' := ucanO ts ob') (ts := ts) (nx := nx) (w' := w') (S' := S')
    (fun t ht => by
      obtain ⟨i, hi⟩ := List.getElem?_of_mem ht
      obtain ⟨x, _, e, _⟩ := hx i t hi
      exact ⟨x, e⟩)
    (ha.below.mono fun b hb => by
      rcases hb with ⟨e1, e2⟩ | ⟨i, hv, e1, e2⟩
      · obtain ⟨l, q1, q2⟩ := hB e1
        exact .inl ⟨l, q1, e2.trans q2⟩
      · exact .inr (hhv i hv b e1 e2))
    ha.sub
    (fun b o ho => ⟨(ha.new b o ho).1, (ha.new b o ho).2.imp id fun q => q.imp id fun ⟨i, hv, e1, e2⟩ => hhv i hv b e1 e2⟩)
    (fun t hv x e => by
      obtain ⟨i, e1, e2, e3⟩ := hnx t hv x e
      obtain ⟨x0, f1, f2, _⟩ := hx i t (idxT_get e1)
      obtain ⟨k1, k2, k3⟩ := ha.grow i x0 x (g.hd t) hv f1 e3 (by rw [List.getElem?_map, idxT_get e1]; rfl) e2
      exact ⟨hmem t i e1, (ha.inn.lists i x hv e3 e2).1, ⟨x0, f2, k1, k2⟩, k3⟩)
    (fun t t' hv x hv' x' b e1 e2 q1 q2 => by
      obtain ⟨i, i1, i2, _⟩ := hnx t hv x e1
      obtain ⟨j, j1, j2, _⟩ := hnx t' hv' x' e2
      have := ha.inn.dist i j hv hv' b i2 j2 q1 q2
      subst this
      have r1 := idxT_get i1
      rw [idxT_get j1] at r1
      simpa using r1.symm)
    (fun l e => by
      have hs : ob.isSome = true := by rw [← hlc, e]; rfl
      obtain ⟨l', obc, e1, e2, e3, e4⟩ := hobj hs
      rw [e] at e1; cases e1
      obtain ⟨o', ho'⟩ := Option.isSome_iff_exists.1 (hso ▸ hs)
      obtain ⟨m1, m2, m3⟩ := ha.inn.obj o' ho'
      rw [e2] at m2 m3
      refine ⟨obc, e3, fun cs ec => ?_, m2, fun g' _ hS hw ht => ?_⟩
      · obtain ⟨cs1, hcs1⟩ := hoc obc l cs e e3 ec
        obtain ⟨cs2, q1, q2⟩ := e4 cs1 hcs1
        rw [ec] at q1; cases q1
        rw [ho', hcs1] at hshape
        cases o' with
        | cells cs3 =>
          simp only [oshape, Option.some.injEq] at hshape
          exact ⟨_, by rw [ho']; rfl, by rw [List.length_map, ← hshape, q2]⟩
        | map es => simp [oshape] at hshape
        | iter b pos => simp [oshape] at hshape
        | miter ks vs left cur => simp [oshape] at hshape
        | mapo es k b tk => simp [oshape] at hshape
      · rw [ho']
        have ht' : ∀ (i t : Nat) (x : XL) (hv : Value), ts[i]? = some t → xs'[i]? = some x → hvs'[i]? = some hv → g'.hd t = hv ∧ g'.T t = some (x.2.2.length, 0) := fun i t x hv f1 f2 f3 => by
          obtain ⟨hv', q1, q2⟩ := hnx' t i x (idxT_of tie.nd f1) f2
          rw [f3] at q1; cases q1
          exact ht t hv x q2
        cases o' with
        | cells cs =>
          obtain ⟨us, u1, u2, u3⟩ := m3
          refine ⟨us, ⟨by rw [List.length_map]; exact u1.1, fun i p u hp hu => ?_⟩, by rw [hw]; exact u2, by rw [hw]; exact u3⟩
          rw [List.getElem?_map] at hp
          obtain ⟨q, hq, rfl⟩ := Option.map_eq_some_iff.1 hp
          exact ucan_rel hS hw ht' ha.inn.len (u1.2 i q u hq hu)
        | map es =>
          obtain ⟨arr, clock, u1, u2⟩ := m3
          exact ⟨arr, clock, by rw [hw]; exact u1, by rw [hS, hw]; exact u2⟩
        | iter b pos =>
          have m3' : w'.heap[g.φ l]? = some (.stringIter b pos) := m3
          show g'.w.heap[g.φ l]? = _
          rw [hw]; exact m3'
        | miter ks vs left cur =>
          show MIter g'.S g'.w _ _ _ _ _
          rw [hS, hw]; exact m3
        | mapo es k b tk =>
          obtain ⟨q0, arr, clock, u1, u2, u3⟩ := m3
          have hes : es = [] := by
            cases es with
            | nil => rfl
            | cons e es' =>
              exfalso
              have hsz : 0 < arr.size := by rw [u2]; simp
              obtain ⟨_, _, n, hT, _⟩ := u3 0 e arr[0] rfl (by simp)
              obtain ⟨_, _, _, _, _, hk⟩ := tT_some hT
              exact q0 hk
          subst hes
          exact ⟨q0, arr, clock, by rw [hw]; exact u1, u2, fun i e m he _ => by simp at he⟩)
  rw [eT, eX] at main
  have hle0 : GLe (gN S' w') { g with S := S', w := w', hd := owHd nx g.hd, T := oT ts xs' s.T, H := owH lc (ucanO ts ob') s.H } := ⟨fun _ _ q => q, fun _ _ _ => rfl, fun _ _ => rfl, fun l o q => (by change none = some o at q; cases q), fun t n k q => (by change none = some (n, k) at q; cases q)⟩
  exact ⟨_, rfl, main.1, main.2, ha.res.mono hle0⟩
end
end PM
namespace PM
open Go Go.RowKit
section
variable {P : Program} {Gl : Nat → Option (List PV)} {S0 : Bs} {w0 : World} {s : PSt} {a : Act} {g : GG} {Ls : List (Oper × Gd)} {Q : PSt → Prop}
theorem objOf_cells {lc : Option Nat} {ts : List Nat} {ob : Option PObj} (hob : objOf lc ts ob s = some ob) (hH : g.H = s.H) : lc.isSome = ob.isSome ∧ ∀ obc l cs, lc = some l → g.H l = some obc → obc = .cells cs → ∃ cs', ob = some (.cells cs') := by
  cases lc with
  | none => simp only [objOf] at hob; cases hob; exact ⟨rfl, fun _ _ _ e => by cases e⟩
  | some l =>
    simp only [objOf] at hob
    obtain ⟨o, h1, h2⟩ := Option.map_eq_some_iff.1 hob
    refine ⟨by rw [← h2]; rfl, fun obc l' cs e1 e2 e3 => ?_⟩
    cases e1
    rw [hH] at e2
    rw [e2, e3, Option.bind_some, canO] at h1
    obtain ⟨ds, _, rfl⟩ := Option.map_eq_some_iff.1 h1
    cases ob with
    | none => simp at h2
    | some a =>
      cases a with
      | cells as => exact ⟨as, rfl⟩
      | map es => simp [dcoOb] at h2
      | iter b pos => simp [dcoOb] at h2
      | miter ks vs left cur => simp [dcoOb] at h2
      | mapo es k b tk => simp [dcoOb] at h2
/-- An empty list without room in a slot becomes one that only token t holds. -/
theorem wkr_fullX (i t k b : Nat) (hs : s.get i = .lst .full k b []) (hT : ((s.T t).isNone && decide (t < 1000000000) && (k != 0)) = true) : Wkr s (({ s with T := upd s.T t (some (0, 0)), X := upd s.X t (some (k, b, [])) } : PSt).put (some i) (.ex t k b 0 0 0)) := fun Gl S0 w0 a w hi => by
  obtain ⟨g, rfl, h⟩ := hi
  simp only [Bool.and_eq_true, decide_eq_true_eq] at hT
  have hv := h.get i
  obtain ⟨g', h1, h2, h3, _, h4⟩ := h.exBorn (t := t) (k := k) (b := b) hv (.inr ⟨_, _, hs⟩) (by simpa using hT.1.1) hT.1.2 (by simpa using hT.2)
  exact ⟨g', h3, h1.reput i h4⟩
/-- lb: cells of variables that are nil, each with a token (and cells, bytes of an element): they become lists that only their token holds. -/
def bornL : List (Nat × Nat × Nat × Nat × Nat) → PSt → PSt
  | [], s => s
  | (l, off, t, k, b) :: r, s => bornL r (match s.H l with | some (.cells cs) => nilHX s l off t k b cs | _ => s)
def bornOK : List (Nat × Nat × Nat × Nat × Nat) → PSt → Bool
  | [], _ => true
  | (l, off, t, k, b) :: r, s => match s.H l with
    | some (.cells cs) => (match cs[off]? with | some .nil => (s.T t).isNone && decide (t < 1000000000) && (k != 0) && bornOK r (nilHX s l off t k b cs) | _ => false)
    | _ => false
def bornN (tn : Option (Nat × Nat × Nat)) (s : PSt) : PSt := match tn with
  | some (t, k, b) => { s with T := upd s.T t (some (0, 0)), X := upd s.X t (some (k, b, [])) }
  | none => s
def bornNOK (tn : Option (Nat × Nat × Nat)) (s : PSt) : Bool := match tn with
  | some (t, k, _) => (s.T t).isNone && decide (t < 1000000000) && (k != 0)
  | none => true
theorem InvG.bornH (h : InvG Gl S0 w0 s a g) {l off t k b : Nat} {cs : List PV} (hl : s.H l = some (.cells cs)) (hs : cs[off]? = some .nil) (hT : s.T t = none) (ht : t < 1000000000) (hk : k ≠ 0) :
    ∃ g', InvG Gl S0 w0 (nilHX s l off t k b cs) a g' ∧ GLe g g' ∧ g'.w = g.w := by
  have hgl : g.H l = some (.cells cs) := by rw [h.hH]; exact hl
  obtain ⟨_, _, _, vs, v1, _, _⟩ := h.objs l (.cells cs) hgl
  obtain ⟨v, hv, hr⟩ := v1.right hs
  obtain ⟨g1, h1, h2, h3, _, h4⟩ := h.exBorn (t := t) (k := k) (b := b) (p := .nil) (v := v) (Rel.of1 hr.1) (.inl rfl) hT ht hk
  have hv0 : v = .slice none 0 0 := by simpa [Rel1, RelD] using hr.1
  obtain ⟨g2, k1, k2, k3, _⟩ := h1.recells (l := l) (off := off) (cs := cs) (p := .ex t k b 0 0 0) hl (fun q u hq hu => by
    rw [hs] at hq; cases hq
    have hu0 : u = .slice none 0 0 := by simpa [RelC, Rel1, RelD] using hu.1
    rw [hv0] at h4
    rw [hu0]
    exact ⟨h4, rfl⟩)
  exact ⟨g2, k1, h2.trans k2, k3.trans h3⟩
theorem InvG.bornL : ∀ (lb : List (Nat × Nat × Nat × Nat × Nat)) {s : PSt} {g : GG}, InvG Gl S0 w0 s a g → bornOK lb s = true → ∃ g', InvG Gl S0 w0 (PM.bornL lb s) a g' ∧ GLe g g' ∧ g'.w = g.w
  | [], s, g, h, _ => ⟨g, h, GLe.refl g, rfl⟩
  | (l, off, t, k, b) :: r, s, g, h, hb => by
    simp only [bornOK] at hb
    simp only [PM.bornL]
    split at hb
    · rename_i cs hl
      split at hb
      · rename_i hs
        simp only [Bool.and_eq_true, decide_eq_true_eq] at hb
        obtain ⟨⟨⟨b1, b2⟩, b3⟩, b4⟩ := hb
        obtain ⟨g1, e1, e2, e3⟩ := h.bornH (k := k) (b := b) hl hs (by simpa using b1) b2 (by simpa using b3)
        obtain ⟨g2, f1, f2, f3⟩ := InvG.bornL r e1 b4
        exact ⟨g2, f1, e2.trans f2, f3.trans e3⟩
      · cases hb
    · cases hb
theorem InvG.bornN (h : InvG Gl S0 w0 s a g) (tn : Option (Nat × Nat × Nat)) (hb : bornNOK tn s = true) : ∃ g', InvG Gl S0 w0 (PM.bornN tn s) a g' ∧ GLe g g' ∧ g'.w = g.w ∧ ∀ x, tn = some x → g'.hd x.1 = .slice none 0 0 ∧ g'.T x.1 = some (0, 0) := by
  cases tn with
  | none => exact ⟨g, h, GLe.refl g, rfl, fun x e => by cases e⟩
  | some x =>
    obtain ⟨t, k, b⟩ := x
    simp only [bornNOK, Bool.and_eq_true, decide_eq_true_eq] at hb
    obtain ⟨⟨b1, b2⟩, b3⟩ := hb
    have hgT : g.T t = none := by rw [h.hT]; simpa using b1
    obtain ⟨h1, h2⟩ := h.exHead (t := t) (k := k) (b := b) (xss := []) (v := .slice none 0 0) (fun n0 k0 e => by rw [hgT] at e; cases e) (fun _ => b2) (fun q => absurd hgT q) (by simpa using b3) (by simp) (by simp) (by simp) (.inl ⟨.inl rfl, rfl⟩)
    refine ⟨_, h1, h2, rfl, fun x e => ?_⟩
    cases e
    exact ⟨by simp, upd_same _ _ _⟩
theorem bornL_tm : ∀ (lb : List (Nat × Nat × Nat × Nat × Nat)) (s : PSt), (bornL lb s).tm = s.tm ∧ (bornL lb s).m = s.m
  | [], s => ⟨rfl, rfl⟩
  | (l, off, t, k, b) :: r, s => by
    simp only [bornL]
    split
    · exact bornL_tm r _
    · exact bornL_tm r _
/-- The state in which the call is made. -/
def oPre (lb : List (Nat × Nat × Nat × Nat × Nat)) (tn : Option (Nat × Nat × Nat)) (s : PSt) : PSt := bornN tn (bornL lb s)
theorem oPre_tm (lb : List (Nat × Nat × Nat × Nat × Nat)) (tn : Option (Nat × Nat × Nat)) (s : PSt) : (oPre lb tn s).tm = s.tm ∧ (oPre lb tn s).m = s.m := by
  unfold oPre bornN
  cases tn <;> exact bornL_tm lb s
/-- A call that changes a variable and lists. -/
theorem p_ocall {f : FuncId} {as : List PV} {ob ob' : Option PObj} {xs xs' : List XL} {r : PV} (lc : Option Nat) (ts : List Nat) (lb : List (Nat × Nat × Nat × Nat × Nat)) (tn : Option (Nat × Nat × Nat)) (hc : OCall P Gl f ob xs as r ob' xs') (hb1 : (bornOK lb s && bornNOK tn (bornL lb s)) = true) (h0 : (ocallHd lc ts tn Ls (oPre lb tn s)).map (fun x => (x.1, dcoXs as x.2)) = some (f, as))
    (hob : objOf lc ts ob (oPre lb tn s) = some ob) (hX : ts.map (fun t => ((oPre lb tn s).X t, (oPre lb tn s).T t)) = toldX xs) (hn : nodupB ts = true)
    (h2 : pops P Gl false (Ls.drop 1) ((oSt lc ts ob' xs' (oPre lb tn s)).put (dstHd Ls) r) Q) : pops P Gl false Ls s Q := by
  obtain ⟨y0, h, hy0⟩ := Option.map_eq_some_iff.1 h0
  clear h0
  obtain ⟨f0, qs⟩ := y0
  simp only [Prod.mk.injEq] at hy0
  obtain ⟨rfl, hdc⟩ := hy0
  obtain ⟨hb1, hb2⟩ := Bool.and_eq_true_iff.1 hb1
  unfold ocallHd at h
  split at h
  · rename_i s0 o rest
    split at h
    · rename_i x args hco
      split at h
      · rename_i f' e1
        obtain ⟨qs', e3, h'⟩ := Option.map_eq_some_iff.1 h
        simp only [Prod.mk.injEq] at h'
        obtain ⟨rfl, rfl⟩ := h'
        obtain ⟨c, hop, hcal, hargs⟩ := callOf_spec hco
        obtain ⟨⟨fn, hfn1, hfn2, hfn3⟩, ⟨hshape, hlen⟩, hcall⟩ := hc
        have hsn : semNew s (oSt lc ts ob' xs' (oPre lb tn s)) = oSt lc ts ob' xs' (oPre lb tn s) := by
          obtain ⟨t1, t2⟩ := oPre_tm lb tn s
          simp only [semNew, oSt, t1, t2]
        refine p_sem (n := oSt lc ts ob' xs' (oPre lb tn s)) (v := r) (by rw [hop]; rfl) ?_ (by rw [hsn]; exact h2)
        intro S0 w0 a g0 K Q' hg0 hK
        rw [hsn] at hK
        obtain ⟨g1, i1, i2, i3⟩ := InvG.bornL lb hg0 hb1
        obtain ⟨g, hg, j2, j3, hnil⟩ := i1.bornN tn hb2
        have hle := i2.trans j2
        have hw0 : g.w = g0.w := j3.trans i3
        change InvG Gl S0 w0 (oPre lb tn s) a g at hg
        rw [← hw0]
        have hx := hg.ev x
        rw [e1] at hx
        simp only [Rel, RelA, Rel1] at hx
        obtain ⟨arr, hfv, hcaps⟩ := hx
        have harr : arr = #[] := Array.toList_inj.1 (by rw [hcaps.nil_left])
        subst harr
        have hall : All2 (Rel g) (args.map (oPre lb tn s).ev) (args.map a.eval) := ⟨by simp, fun i p v hp hv => by
          rw [List.getElem?_map] at hp hv
          cases hi : args[i]? with
          | none => rw [hi] at hp; cases hp
          | some y => rw [hi] at hp hv; cases hp; cases hv; exact hg.ev y⟩
        obtain ⟨B, tie, hin, hobj⟩ := hg.oin hn hob hX
        obtain ⟨q1, q2⟩ := objOf_cells hob hg.hH
        have hD := dcoXs_rel (as := as) (tie.args hnil hall e3)
        rw [hdc] at hD
        have hrun : (execOp a.eval o).run P g.w = .ok (.enter f' (args.map a.eval).toArray) g.w := by
          have hname : fn.name ≠ "runtime.NumGoroutine" := by simpa using hfn2
          have hbody : fn.body ≠ none := fun e => by rw [e] at hfn3; cases hfn3
          have hca : c.args.map a.eval ++ #[] = (args.map a.eval).toArray := Array.toList_inj.1 (by simp [hargs])
          simp [execOp, hop, resolve, hcal, hfv, Deferred.ofValue, invoke, callFunc, run_program, hfn1, hname, hbody]
          simpa using hca
        unfold Oper.wp
        rw [hrun]
        refine (hcall g.S g.w B (ts.map g.hd) _ hg.lt hg.glob hin (by simpa using hD)).mono fun e w' he => ?_
        obtain ⟨v, S', hvs', rfl, ha⟩ := he
        obtain ⟨g', rfl, k1, k2, k3⟩ := hg.oafter q1 hX tie hobj hshape q2 ha
        exact hK v g' k1 (hle.trans k2) k3
      · cases h
    · cases h
  · cases h
theorem o_fin {rs : List ResultVar} {r : PV} {ob' : Option PObj} {xs' : List XL} (h1 : (s.H L0, seenX s xs' T0) = (ob', toldX xs')) (h : (finRes P Gl rs s).map (fun v => (noTups v, coerceV r v)) = some (true, r)) (hl : liveV (fun _ => none) (fun _ => none) r = true) : ofinal P Gl rs r ob' xs' s := by
  obtain ⟨pv, h3, h2⟩ := Option.map_eq_some_iff.1 h
  obtain ⟨vs, h4, h5⟩ := Option.bind_eq_some_iff.1 h3
  simp only [Prod.mk.injEq] at h2
  refine ⟨h1, vs, pv, h4, h5, ?_⟩
  have := coerceV_wk (p := r) (q := pv) (H := fun _ => none) (T := fun _ => none) h2.1 (by rw [h2.2]; exact hl)
  rwa [h2.2] at this
theorem q_oret {rs : List ResultVar} {r : PV} {ob' : Option PObj} {xs' : List XL} (h1 : (s.H L0, seenX s xs' T0) = (ob', toldX xs')) (h : (finRes P Gl rs s).map (fun v => (noTups v, coerceV r v)) = some (true, r)) (hl : liveV (fun _ => none) (fun _ => none) r = true) : obodyQ P Gl rs r ob' xs' .ret s := ⟨s, fun _ _ _ _ _ hi => hi, o_fin h1 h hl⟩
theorem q_oret_w {s1 : PSt} {rs : List ResultVar} {r : PV} {ob' : Option PObj} {xs' : List XL} (hw : Wkr s1 s) (h1 : (s.H L0, seenX s xs' T0) = (ob', toldX xs')) (h : (finRes P Gl rs s).map (fun v => (noTups v, coerceV r v)) = some (true, r)) (hl : liveV (fun _ => none) (fun _ => none) r = true) : obodyQ P Gl rs r ob' xs' .ret s1 := ⟨s, hw, o_fin h1 h hl⟩
end
end PM
