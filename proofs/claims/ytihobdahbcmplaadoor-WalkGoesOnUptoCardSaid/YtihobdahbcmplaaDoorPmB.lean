/-
  THE PURE MACHINE, B: states, what is kept while code runs (Inv), and how it is kept when memory grows.
-/
import Derived.Test.YtihobdahbcmplaaDoorPmA
namespace PM
open Go Go.RowKit

def upd {α : Type} (f : Nat → Option α) (i : Nat) (a : Option α) : Nat → Option α := fun j => if j = i then a else f j
theorem upd_same {α : Type} (f : Nat → Option α) (i : Nat) (a : Option α) : upd f i a i = a := by simp [upd]
theorem upd_other {α : Type} (f : Nat → Option α) (i j : Nat) (a : Option α) (h : j ≠ i) : upd f i a j = f j := by simp [upd, h]
theorem upd_comm {α : Type} (f : Nat → Option α) (i j : Nat) (a b : Option α) (h : i ≠ j) : upd (upd f i a) j b = upd (upd f j b) i a := by
  funext x; simp only [upd]
  by_cases h1 : x = j
  · subst h1; rw [if_pos rfl, if_neg (Ne.symm h), if_pos rfl]
  · rw [if_neg h1, if_neg h1]

structure PSt where
  tm : List PV
  H : Nat → Option PObj
  T : Nat → Option (Nat × Nat)
def PSt.get (s : PSt) (i : Nat) : PV := s.tm.getD i .any
def PSt.put (s : PSt) (d : Option Nat) (v : PV) : PSt :=
  match d with
  | some i => { s with tm := s.tm.set i v }
  | none => s

/-- A block of the call's own, at block number B. -/
def ObjOK (g : GG) (B : Nat) : PObj → Prop
  | .cells cs => ∃ vs : List Value, All2 (RelC g) cs vs ∧ g.w.rangeAt B 0 vs ∧ g.w.there B 0 vs.length
  | .map es => ∃ arr clock, g.w.heap[B]? = some (.map arr clock) ∧ All2 (RelE g.S g.w) es arr.toList
/-- The block of which token t owns spare cells. -/
def Spare (g : GG) (t B : Nat) : Prop := ∃ n k off cap, g.T t = some (n, k) ∧ g.hd t = .slice (some ⟨B, off, none⟩) n cap ∧ n < cap
def OwnOK (g : GG) (base t n k : Nat) : Prop :=
  (g.hd t = .slice none 0 0 ∧ n = 0) ∨ ∃ B off cap, g.hd t = .slice (some ⟨B, off, none⟩) n cap ∧ n ≤ cap ∧
    (n < cap → base ≤ B ∧ B < g.w.heap.size ∧ g.w.there B (off + n * k) ((cap - n) * k) ∧ ∀ o, g.S B o → o < off + n * k)

/-- What is kept. Gl: the package variables that are known; S0, w0: what was stable, and the world, when the body began. -/
structure InvG (Gl : Nat → Option (List PV)) (S0 : Cells) (w0 : World) (s : PSt) (a : Act) (g : GG) : Prop where
  hH : g.H = s.H
  hT : g.T = s.T
  defers : a.defers = []
  len : s.tm.length = a.tmps.size
  tm : ∀ (i : Nat) (p : PV) (v : Value), s.tm[i]? = some p → a.tmps[i]? = some v → Rel g p v
  sub : ∀ B o, S0 B o → g.S B o
  new : ∀ B o, g.S B o → S0 B o ∨ w0.heap.size ≤ B
  lt : ∀ B o, g.S B o → B < g.w.heap.size
  below : Below w0.heap.size w0 g.w
  objs : ∀ l ob, g.H l = some ob → w0.heap.size ≤ g.φ l ∧ g.φ l < g.w.heap.size ∧ (∀ o, ¬ g.S (g.φ l) o) ∧ ObjOK g (g.φ l) ob
  inj : ∀ l l', (g.H l).isSome = true → (g.H l').isSome = true → g.φ l = g.φ l' → l = l'
  owns : ∀ t n k, g.T t = some (n, k) → OwnOK g w0.heap.size t n k
  ownsEx : ∀ t t' B, Spare g t B → Spare g t' B → t = t'
  ownsObj : ∀ t B l, Spare g t B → (g.H l).isSome = true → g.φ l ≠ B
  glob : ∀ i cs, Gl i = some cs → RelCells g.S g.w cs i 0

def Inv (Gl : Nat → Option (List PV)) (S0 : Cells) (w0 : World) (s : PSt) (a : Act) (w : World) : Prop := ∃ g, g.w = w ∧ InvG Gl S0 w0 s a g

section
variable {Gl : Nat → Option (List PV)} {S0 : Cells} {w0 : World} {s : PSt} {a : Act} {g : GG}

theorem Spare.lt (h : InvG Gl S0 w0 s a g) {t B : Nat} (hs : Spare g t B) : w0.heap.size ≤ B ∧ B < g.w.heap.size := by
  obtain ⟨n, k, off, cap, h1, h2, h3⟩ := hs
  rcases h.owns t n k h1 with ⟨e, _⟩ | ⟨B', off', cap', e, _, hr⟩
  · rw [e] at h2; cases h2
  · rw [e] at h2; cases h2; exact ⟨(hr h3).1, (hr h3).2.1⟩

theorem Act.put_defers' (a : Act) (d : Option Nat) (v : Value) : (a.put d v).defers = a.defers := by cases d <;> rfl
theorem Act.put_size (a : Act) (d : Option Nat) (v : Value) : (a.put d v).tmps.size = a.tmps.size := by cases d <;> simp [Act.put]

/-- A slot is written. -/
theorem InvG.put (h : InvG Gl S0 w0 s a g) (d : Option Nat) {p : PV} {v : Value} (hv : Rel g p v) : InvG Gl S0 w0 (s.put d p) (a.put d v) g := by
  cases d with
  | none => exact h
  | some i =>
    refine { h with hH := h.hH, hT := h.hT, defers := h.defers, len := by simpa [PSt.put, Act.put] using h.len, tm := fun j q u hq hu => ?_ }
    simp only [PSt.put] at hq
    simp only [Act.put] at hu
    rw [List.getElem?_set] at hq
    rw [Array.getElem?_setIfInBounds] at hu
    by_cases hij : i = j
    · subst hij
      rw [if_pos rfl] at hq hu
      split at hq
      · split at hu
        · cases hq; cases hu; exact hv
        · cases hu
      · cases hq
    · rw [if_neg hij] at hq hu
      exact h.tm j q u hq hu
theorem Rel.any (g : GG) (v : Value) : Rel g .any v := trivial

theorem InvG.get (h : InvG Gl S0 w0 s a g) (i : Nat) : Rel g (s.get i) (a.tmps.getD i undef) := by
  unfold PSt.get
  by_cases hi : i < s.tm.length
  · have hi' : i < a.tmps.size := h.len ▸ hi
    have := h.tm i s.tm[i] a.tmps[i] (List.getElem?_eq_getElem hi) (Array.getElem?_eq_getElem hi')
    simpa [List.getD, List.getElem?_eq_getElem hi, Array.getElem?_eq_getElem hi'] using this
  · rw [List.getD_eq_getElem?_getD, List.getElem?_eq_none (by omega)]
    exact trivial

theorem Spare.congr {g g' : GG} (hT : g'.T = g.T) (hhd : g'.hd = g.hd) {t B : Nat} (h : Spare g' t B) : Spare g t B := by
  obtain ⟨n, k, off, cap, h1, h2, h3⟩ := h
  exact ⟨n, k, off, cap, by rw [← hT]; exact h1, by rw [← hhd]; exact h2, h3⟩

theorem cell?_below {B : Nat} {w w' : World} (hb : Below B w w') {b o : Nat} (h : b < B) : w'.cell? ⟨b, o, none⟩ = w.cell? ⟨b, o, none⟩ := hb.cell (p := ⟨b, o, none⟩) h
theorem frozen?_below {B : Nat} {w w' : World} (hb : Below B w w') {b o : Nat} (h : b < B) : w'.frozen? ⟨b, o, none⟩ = w.frozen? ⟨b, o, none⟩ := hb.frozen (p := ⟨b, o, none⟩) h
theorem rangeAt_below {B : Nat} {w w' : World} (hb : Below B w w') {b o : Nat} {vs : List Value} (h : b < B) (hr : w.rangeAt b o vs) : w'.rangeAt b o vs :=
  fun j v hv => by rw [cell?_below hb h]; exact hr j v hv
theorem there_below {B : Nat} {w w' : World} (hb : Below B w w') {b o n : Nat} (h : b < B) (hr : w.there b o n) : w'.there b o n :=
  fun j hj => by rw [cell?_below hb h, frozen?_below hb h]; exact hr j hj

theorem ObjOK.mono {g g' : GG} (hg : GLe g g') {B : Nat} (hb : ∀ o, g'.w.cell? ⟨B, o, none⟩ = g.w.cell? ⟨B, o, none⟩) (hf : ∀ o, g'.w.frozen? ⟨B, o, none⟩ = g.w.frozen? ⟨B, o, none⟩)
    (hh : ∀ arr c, g.w.heap[B]? = some (.map arr c) → g'.w.heap[B]? = some (.map arr c)) : ∀ {ob : PObj}, ObjOK g B ob → ObjOK g' B ob
  | .cells cs, ⟨vs, h1, h2, h3⟩ => ⟨vs, h1.mono (RelC.mono hg), fun j v hv => by rw [hb]; exact h2 j v hv, fun j hj => by rw [hb, hf]; exact h3 j hj⟩
  | .map es, ⟨arr, clock, h1, h2⟩ => ⟨arr, clock, hh _ _ h1, h2.mono fun _ _ hxy => ⟨hxy.1.mono hg.S hg.cell, hxy.2.1.mono hg.S hg.cell, hxy.2.2⟩⟩

/-- Memory grows: new blocks, of which some cells are stable. -/
theorem InvG.grow (h : InvG Gl S0 w0 s a g) {w' : World} {S' : Cells} (hb : Below g.w.heap.size g.w w') (hS : ∀ B o, g.S B o → S' B o)
    (hS' : ∀ B o, S' B o → g.S B o ∨ (g.w.heap.size ≤ B ∧ B < w'.heap.size)) : InvG Gl S0 w0 s a { g with w := w', S := S' } ∧ GLe g { g with w := w', S := S' } := by
  have hle : GLe g { g with w := w', S := S' } :=
    ⟨hS, fun B o hBo => cell?_below hb (h.lt B o hBo), fun l ob hob => ⟨rfl, ob, hob, fun cs e => ⟨cs, e, rfl⟩⟩, fun t n k ht => ⟨n, ht, Nat.le_refl _, fun _ => rfl⟩⟩
  have hz := h.below.size
  refine ⟨{ hH := h.hH, hT := h.hT, defers := h.defers, len := h.len, tm := fun i p v hp hv => (h.tm i p v hp hv).mono hle, sub := fun B o hBo => hS _ _ (h.sub B o hBo), new := fun B o hBo => ?_, lt := fun B o hBo => ?_, below := h.below.trans (hb.mono hz), objs := fun l ob hob => ?_, inj := h.inj, owns := fun t n k ht => ?_, ownsEx := fun t t' B hs hs' => h.ownsEx t t' B (hs.congr rfl rfl) (hs'.congr rfl rfl), ownsObj := fun t B l hs hl => h.ownsObj t B l (hs.congr rfl rfl) hl, glob := fun i cs hi => (h.glob i cs hi).mono hle.S hle.cell }, hle⟩
  · rcases hS' B o hBo with h1 | h1
    · exact h.new B o h1
    · exact .inr (by omega)
  · rcases hS' B o hBo with h1 | h1
    · have := h.lt B o h1; have := hb.size; show B < w'.heap.size; omega
    · exact h1.2
  · obtain ⟨h1, h2, h3, h4⟩ := h.objs l ob hob
    have hsz := hb.size
    refine ⟨h1, by show g.φ l < w'.heap.size; omega, fun o ho => ?_, h4.mono hle (fun o => cell?_below hb h2) (fun o => frozen?_below hb h2) (fun arr c hc => by rw [hb.block _ h2]; exact hc)⟩
    rcases hS' _ _ ho with h5 | h5
    · exact h3 o h5
    · have : g.w.heap.size ≤ g.φ l := h5.1; omega
  · rcases h.owns t n k ht with hn | ⟨B, off, cap, e1, e2, e3⟩
    · exact .inl hn
    · refine .inr ⟨B, off, cap, e1, e2, fun hlt => ?_⟩
      obtain ⟨f1, f2, f3, f4⟩ := e3 hlt
      have hsz := hb.size
      refine ⟨f1, by show B < w'.heap.size; omega, there_below hb f2 f3, fun o ho => ?_⟩
      rcases hS' _ _ ho with h5 | h5
      · exact f4 o h5
      · omega

/-- The same with stable cells unchanged. -/
theorem InvG.grow' (h : InvG Gl S0 w0 s a g) {w' : World} (hb : Below g.w.heap.size g.w w') : InvG Gl S0 w0 s a { g with w := w' } ∧ GLe g { g with w := w' } :=
  h.grow (S' := g.S) hb (fun _ _ h => h) (fun _ _ h => .inl h)

/-- A new block of the call's own. -/
theorem InvG.addObj (h : InvG Gl S0 w0 s a g) {l B : Nat} {ob : PObj} (hl : g.H l = none) (hB : w0.heap.size ≤ B) (hB' : B < g.w.heap.size) (hS : ∀ o, ¬ g.S B o)
    (hφ : ∀ l', (g.H l').isSome = true → g.φ l' ≠ B) (hsp : ∀ t, ¬ Spare g t B) (hob : ∀ g', GLe g g' → g'.w = g.w → ObjOK g' B ob) :
    InvG Gl S0 w0 { s with H := upd s.H l (some ob) } a { g with φ := fun x => if x = l then B else g.φ x, H := upd g.H l (some ob) } ∧ GLe g { g with φ := fun x => if x = l then B else g.φ x, H := upd g.H l (some ob) } := by
  have hne : ∀ l' ob', g.H l' = some ob' → l' ≠ l := fun l' ob' h1 h2 => by rw [h2, hl] at h1; cases h1
  have hle : GLe g { g with φ := fun x => if x = l then B else g.φ x, H := upd g.H l (some ob) } :=
    ⟨fun _ _ h => h, fun _ _ _ => rfl, fun l' ob' h1 => ⟨if_neg (hne l' ob' h1), ob', by show upd g.H l (some ob) l' = _; rw [upd_other _ _ _ _ (hne l' ob' h1)]; exact h1, fun cs e => ⟨cs, e, rfl⟩⟩, fun t n k ht => ⟨n, ht, Nat.le_refl _, fun _ => rfl⟩⟩
  have hsome : ∀ l', ((upd g.H l (some ob)) l').isSome = true → l' ≠ l → (g.H l').isSome = true := fun l' h1 h2 => by rwa [upd_other _ _ _ _ h2] at h1
  refine ⟨{ hH := by rw [← h.hH], hT := h.hT, defers := h.defers, len := h.len, tm := fun i p v hp hv => (h.tm i p v hp hv).mono hle, sub := h.sub, new := h.new, lt := h.lt, below := h.below, objs := fun l' ob' hob' => ?_, inj := fun l1 l2 h1 h2 he => ?_, owns := fun t n k ht => h.owns t n k ht, ownsEx := fun t t' B hs hs' => h.ownsEx t t' B (hs.congr rfl rfl) (hs'.congr rfl rfl), ownsObj := fun t B' l' hs hl' => ?_, glob := h.glob }, hle⟩
  · by_cases e : l' = l
    · subst e
      have h1 : upd g.H l' (some ob) l' = some ob' := hob'
      rw [upd_same] at h1
      cases h1
      simp only [if_true]
      exact ⟨hB, hB', hS, hob _ hle rfl⟩
    · have h1 : upd g.H l (some ob) l' = some ob' := hob'
      rw [upd_other _ _ _ _ e] at h1
      obtain ⟨k1, k2, k3, k4⟩ := h.objs l' ob' h1
      simp only [if_neg e]
      exact ⟨k1, k2, k3, k4.mono hle (fun _ => rfl) (fun _ => rfl) (fun _ _ h => h)⟩
  · by_cases e1 : l1 = l <;> by_cases e2 : l2 = l
    · rw [e1, e2]
    · simp only [e1, if_true, if_neg e2] at he
      exact absurd he.symm (hφ l2 (hsome l2 h2 e2))
    · simp only [e2, if_true, if_neg e1] at he
      exact absurd he (hφ l1 (hsome l1 h1 e1))
    · simp only [if_neg e1, if_neg e2] at he
      exact h.inj l1 l2 (hsome l1 h1 e1) (hsome l2 h2 e2) he
  · by_cases e : l' = l
    · simp only [e, if_true]
      intro hBB
      exact hsp t (by rw [hBB]; exact hs.congr rfl rfl)
    · simp only [if_neg e]
      exact h.ownsObj t B' l' (hs.congr rfl rfl) (hsome l' hl' e)

/-- A new token. -/
theorem InvG.addTok (h : InvG Gl S0 w0 s a g) {t n k : Nat} {v : Value} (ht : g.T t = none)
    (hok : ∀ g' : GG, g'.w = g.w → g'.S = g.S → g'.hd t = v → OwnOK g' w0.heap.size t n k)
    (hsp : ∀ B off cap, v = .slice (some ⟨B, off, none⟩) n cap → n < cap → (∀ t', ¬ Spare g t' B) ∧ ∀ l, (g.H l).isSome = true → g.φ l ≠ B) :
    InvG Gl S0 w0 { s with T := upd s.T t (some (n, k)) } a { g with hd := fun x => if x = t then v else g.hd x, T := upd g.T t (some (n, k)) } ∧ GLe g { g with hd := fun x => if x = t then v else g.hd x, T := upd g.T t (some (n, k)) } := by
  have hne : ∀ t' x, g.T t' = some x → t' ≠ t := fun t' x h1 h2 => by rw [h2, ht] at h1; cases h1
  have hle : GLe g { g with hd := fun x => if x = t then v else g.hd x, T := upd g.T t (some (n, k)) } :=
    ⟨fun _ _ h => h, fun _ _ _ => rfl, fun l ob h1 => ⟨rfl, ob, h1, fun cs e => ⟨cs, e, rfl⟩⟩, fun t' n' k' h1 => ⟨n', by show upd g.T t _ t' = _; rw [upd_other _ _ _ _ (hne t' _ h1)]; exact h1, Nat.le_refl _, fun _ => if_neg (hne t' _ h1)⟩⟩
  have hspare : ∀ t' B, Spare { g with hd := fun x => if x = t then v else g.hd x, T := upd g.T t (some (n, k)) } t' B → (t' = t ∧ ∃ off cap, v = .slice (some ⟨B, off, none⟩) n cap ∧ n < cap) ∨ (t' ≠ t ∧ Spare g t' B) := by
    rintro t' B ⟨n', k', off, cap, h1, h2, h3⟩
    by_cases e : t' = t
    · subst e
      have h1' : upd g.T t' (some (n, k)) t' = some (n', k') := h1
      rw [upd_same] at h1'
      cases h1'
      simp only [if_true] at h2
      exact .inl ⟨rfl, off, cap, h2, h3⟩
    · have h1' : upd g.T t (some (n, k)) t' = some (n', k') := h1
      rw [upd_other _ _ _ _ e] at h1'
      simp only [if_neg e] at h2
      exact .inr ⟨e, n', k', off, cap, h1', h2, h3⟩
  refine ⟨{ hH := h.hH, hT := by rw [← h.hT], defers := h.defers, len := h.len, tm := fun i p v hp hv => (h.tm i p v hp hv).mono hle, sub := h.sub, new := h.new, lt := h.lt, below := h.below, objs := fun l ob hob => ?_, inj := h.inj, owns := fun t' n' k' ht' => ?_, ownsEx := fun t1 t2 B h1 h2 => ?_, ownsObj := fun t' B l hs hl => ?_, glob := h.glob }, hle⟩
  · obtain ⟨k1, k2, k3, k4⟩ := h.objs l ob hob
    exact ⟨k1, k2, k3, k4.mono hle (fun _ => rfl) (fun _ => rfl) (fun _ _ h => h)⟩
  · by_cases e : t' = t
    · subst e
      have h1 : upd g.T t' (some (n, k)) t' = some (n', k') := ht'
      rw [upd_same] at h1
      cases h1
      exact hok _ rfl rfl (if_pos rfl)
    · have h1 : upd g.T t (some (n, k)) t' = some (n', k') := ht'
      rw [upd_other _ _ _ _ e] at h1
      have := h.owns t' n' k' h1
      unfold OwnOK at this ⊢
      simp only [if_neg e]
      exact this
  · rcases hspare t1 B h1 with ⟨e1, off, cap, e, hlt⟩ | ⟨e1, h1'⟩ <;> rcases hspare t2 B h2 with ⟨e2, off2, cap2, e', hlt'⟩ | ⟨e2, h2'⟩
    · rw [e1, e2]
    · exact absurd h2' ((hsp B off cap e hlt).1 t2)
    · exact absurd h1' ((hsp B off2 cap2 e' hlt').1 t1)
    · exact h.ownsEx t1 t2 B h1' h2'
  · rcases hspare t' B hs with ⟨e1, off, cap, e, hlt⟩ | ⟨e1, h1'⟩
    · exact (hsp B off cap e hlt).2 l hl
    · exact h.ownsObj t' B l h1' hl
end
end PM
