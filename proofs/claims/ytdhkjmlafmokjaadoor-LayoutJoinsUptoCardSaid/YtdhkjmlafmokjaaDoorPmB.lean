/-
  THE PURE MACHINE, B: states, what is kept while code runs (Inv), and how it is kept when memory grows.
-/
import Derived.Test.YtdhkjmlafmokjaaDoorPmA
namespace PM
open Go Go.RowKit

def upd {α : Type} (f : Nat → Option α) (i : Nat) (a : Option α) : Nat → Option α := fun j => if j = i then a else f j
theorem upd_same {α : Type} (f : Nat → Option α) (i : Nat) (a : Option α) : upd f i a i = a := by simp [upd]
theorem upd_other {α : Type} (f : Nat → Option α) (i j : Nat) (a : Option α) (h : j ≠ i) : upd f i a j = f j := by simp [upd, h]
theorem upd_comm {α : Type} (f : Nat → Option α) (i j : Nat) (a b : Option α) (h : i ≠ j) : upd (upd f i a) j b = upd (upd f j b) i a := by
  funext x; simp only [upd]
  by_cases h1 : x = j
  · subst h1; rw [if_pos rfl, if_neg (Ne.symm h), if_pos rfl]
  · rw [if_neg h1, if_neg h1]

/-- The lists that only one token holds: cells of an element, bytes, elements. -/
abbrev XT := Nat → Option (Nat × Nat × List (List PV))
structure PSt where
  tm : List PV
  H : Nat → Option PObj
  T : Nat → Option (Nat × Nat)
  X : Nat → Option (Nat × Nat × List (List PV)) := fun _ => none
def PSt.get (s : PSt) (i : Nat) : PV := s.tm.getD i .any
def PSt.put (s : PSt) (d : Option Nat) (v : PV) : PSt :=
  match d with
  | some i => { s with tm := s.tm.set i v }
  | none => s

/-- A block of the call's own, at block number B. -/
def ObjOK (g : GG) (B : Nat) : PObj → Prop
  | .cells cs => ∃ vs : List Value, All2 (RelC g) cs vs ∧ g.w.rangeAt B 0 vs ∧ g.w.there B 0 vs.length
  | .map es => ∃ arr clock, g.w.heap[B]? = some (.map arr clock) ∧ All2 (RelE g.S g.w) es arr.toList
  | .iter b pos => g.w.heap[B]? = some (.stringIter b pos)
/-- The block in which the list of token t lies: no other token's list lies there. -/
def Room (n k cap : Nat) : Prop := n < cap ∨ (k = 0 ∧ 0 < cap)
theorem Room.pos {n k cap : Nat} (h : Room n k cap) : 0 < cap := by rcases h with h | ⟨_, h⟩ <;> omega
theorem Room.zero {n cap : Nat} (h : 0 < cap) : Room n 0 cap := .inr ⟨rfl, h⟩
theorem Room.of_lt {n k cap : Nat} (h : n < cap) : Room n k cap := .inl h
def Spare (g : GG) (t B : Nat) : Prop := ∃ n k off cap, g.T t = some (n, k) ∧ g.hd t = .slice (some ⟨B, off, none⟩) n cap ∧ Room n k cap
def OwnOK (g : GG) (base t n k : Nat) : Prop :=
  (g.hd t = .slice none 0 0 ∧ n = 0) ∨ ∃ B off cap, g.hd t = .slice (some ⟨B, off, none⟩) n cap ∧ n ≤ cap ∧
    (Room n k cap → (k ≠ 0 → base ≤ B ∧ off = 0) ∧ B < g.w.heap.size ∧ g.w.there B off (cap * k) ∧ (k ≠ 0 → ∀ o, g.S B o → o < off + n * k))
/-- The list of token t is only its own: no other value speaks of its cells. -/
def ExB (g : GG) (E : Nat → Prop) (base t k : Nat) (xss : List (List PV)) (B cap : Nat) : Prop :=
  xss.length ≤ cap ∧ (base ≤ B ∨ E B) ∧ B < g.w.heap.size ∧ (∀ o, ¬ g.S B o) ∧ (∃ vs, All2 (fun p v => RelD g.S g.w p v ∧ p.one = true) xss.flatten vs ∧ g.w.rangeAt B 0 vs) ∧ g.w.there B 0 (cap * k) ∧
    (∀ l, (g.H l).isSome = true → g.φ l ≠ B) ∧ ∀ t', Spare g t' B → t' = t
def ExOK (g : GG) (E : Nat → Prop) (base t k b : Nat) (xss : List (List PV)) : Prop :=
  g.T t = some (xss.length, 0) ∧ k ≠ 0 ∧ (∀ cs ∈ xss, cs.length = k) ∧ xss.length * b ≤ 140737488351232 ∧ xss.length ≤ 140737488351232 ∧
    ((Nilish (g.hd t) ∧ xss = []) ∨ ∃ B cap, g.hd t = .slice (some ⟨B, 0, none⟩) xss.length cap ∧ 0 < cap ∧ ExB g E base t k xss B cap)
/-- The block in which the list of token t lies. -/
def XB (X : Nat → Option (Nat × Nat × List (List PV))) (g : GG) (t B : Nat) : Prop := (X t).isSome = true ∧ ∃ off n cap, g.hd t = .slice (some ⟨B, off, none⟩) n cap ∧ 0 < cap

/-- What is kept. Gl: the package variables that are known; S0, w0: what was stable, and the world, when the body began. -/
structure InvG (Gl : Nat → Option (List PV)) (S0 : Bs) (w0 : World) (s : PSt) (a : Act) (g : GG) : Prop where
  hH : g.H = s.H
  hT : g.T = s.T
  defers : a.defers = []
  len : s.tm.length = a.tmps.size
  tm : ∀ (i : Nat) (p : PV) (v : Value), s.tm[i]? = some p → a.tmps[i]? = some v → Rel g p v
  sub : ∀ B o, S0.S B o → g.S B o
  new : ∀ B o, g.S B o → S0.S B o ∨ w0.heap.size ≤ B ∨ S0.E B
  lt : ∀ B o, g.S B o → B < g.w.heap.size
  below : BelowE S0.E w0 g.w
  objs : ∀ l ob, g.H l = some ob → (w0.heap.size ≤ g.φ l ∨ S0.E (g.φ l)) ∧ g.φ l < g.w.heap.size ∧ (∀ o, ¬ g.S (g.φ l) o) ∧ ObjOK g (g.φ l) ob
  inj : ∀ l l', (g.H l).isSome = true → (g.H l').isSome = true → g.φ l = g.φ l' → l = l'
  owns : ∀ t n k, g.T t = some (n, k) → OwnOK g w0.heap.size t n k
  ownsEx : ∀ t t' B, Spare g t B → Spare g t' B → t = t'
  ownsObj : ∀ t B l, Spare g t B → (g.H l).isSome = true → g.φ l ≠ B
  glob : ∀ i cs, Gl i = some cs → RelCells g.S g.w cs i 0
  exs : ∀ t k b xss, s.X t = some (k, b, xss) → ExOK g S0.E w0.heap.size t k b xss
  exsEx : ∀ t t' B, XB s.X g t B → XB s.X g t' B → t = t'
  fix : ∀ l B, S0.F l B → 1000000 ≤ l ∧ ((g.H l).isSome = true → g.φ l = B)
  fixT : ∀ t v n, S0.FT t v n → 1000000000 ≤ t ∧ ∀ n0, g.T t = some (n0, 0) → n ≤ n0 ∧ (n0 = n → g.hd t = v)

def Inv (Gl : Nat → Option (List PV)) (S0 : Bs) (w0 : World) (s : PSt) (a : Act) (w : World) : Prop := ∃ g, g.w = w ∧ InvG Gl S0 w0 s a g

section
variable {Gl : Nat → Option (List PV)} {S0 : Bs} {w0 : World} {s : PSt} {a : Act} {g : GG}

theorem Spare.lt (h : InvG Gl S0 w0 s a g) {t B : Nat} (hs : Spare g t B) : B < g.w.heap.size := by
  obtain ⟨n, k, off, cap, h1, h2, h3⟩ := hs
  rcases h.owns t n k h1 with ⟨e, _⟩ | ⟨B', off', cap', e, _, hr⟩
  · rw [e] at h2; cases h2
  · rw [e] at h2; cases h2; exact (hr h3).2.1
theorem ExOK.lt {E : Nat → Prop} {base t k b : Nat} {xss : List (List PV)} (h : ExOK g E base t k b xss) {B off n cap : Nat} (hh : g.hd t = .slice (some ⟨B, off, none⟩) n cap) (hc : 0 < cap) : B < g.w.heap.size ∧ (base ≤ B ∨ E B) ∧ (∀ o, ¬ g.S B o) ∧ (∀ l, (g.H l).isSome = true → g.φ l ≠ B) ∧ (∀ t', Spare g t' B → t' = t) := by
  obtain ⟨_, _, _, _, _, ⟨e | ⟨_, _, e⟩, _⟩ | ⟨B', cap', e, hc', h1, h2, h3, h4, h5, h6, h7, h8⟩⟩ := h
  · rw [e] at hh; cases hh
  · rw [e] at hh; cases hh; omega
  · rw [e] at hh; cases hh; exact ⟨h3, h2, h4, h7, h8⟩
theorem InvG.noX (h : InvG Gl S0 w0 s a g) {t : Nat} (hT : ∀ n, g.T t ≠ some (n, 0)) : s.X t = none := by
  cases hx : s.X t with
  | none => rfl
  | some x =>
    obtain ⟨k, b, xss⟩ := x
    exact absurd (h.exs t k b xss hx).1 (hT _)
theorem XB.lt (h : InvG Gl S0 w0 s a g) {t B : Nat} (hs : XB s.X g t B) : B < g.w.heap.size ∧ (w0.heap.size ≤ B ∨ S0.E B) ∧ (∀ o, ¬ g.S B o) ∧ (∀ l, (g.H l).isSome = true → g.φ l ≠ B) ∧ (∀ t', Spare g t' B → t' = t) := by
  obtain ⟨h1, off, n, cap, h2, h3⟩ := hs
  obtain ⟨⟨k, b, xss⟩, hx⟩ := Option.isSome_iff_exists.1 h1
  exact (h.exs t k b xss hx).lt h2 h3
theorem ExOK.mono {g g' : GG} {E : Nat → Prop} {base t k b : Nat} {xss : List (List PV)} (h : ExOK g E base t k b xss) (hle : GLe g g') (hT : g'.T t = g.T t) (hhd : g'.hd t = g.hd t) (hsz : g.w.heap.size ≤ g'.w.heap.size)
    (hk : ∀ B off n cap, g.hd t = .slice (some ⟨B, off, none⟩) n cap ∧ 0 < cap → (base ≤ B ∨ E B) → B < g.w.heap.size → (∀ o, ¬ g.S B o) → (∀ l, (g.H l).isSome = true → g.φ l ≠ B) → (∀ t', Spare g t' B → t' = t) →
      (∀ o, g'.w.cell? ⟨B, o, none⟩ = g.w.cell? ⟨B, o, none⟩) ∧ (∀ o, g'.w.frozen? ⟨B, o, none⟩ = g.w.frozen? ⟨B, o, none⟩) ∧ (∀ o, ¬ g'.S B o) ∧ (∀ l, (g'.H l).isSome = true → g'.φ l ≠ B) ∧ (∀ t', Spare g' t' B → t' = t)) : ExOK g' E base t k b xss := by
  obtain ⟨q1, q2, q3, q4, q5, q6⟩ := h
  refine ⟨by rw [hT]; exact q1, q2, q3, q4, q5, ?_⟩
  rcases q6 with ⟨e1, e2⟩ | ⟨B, cap, e, hc, h1, h2, h3, h4, ⟨vs, v1, v2⟩, h6, h7, h8⟩
  · exact .inl ⟨by rw [hhd]; exact e1, e2⟩
  · obtain ⟨r1, r2, r3, r4, r5⟩ := hk B 0 _ cap ⟨e, hc⟩ h2 h3 h4 h7 h8
    exact .inr ⟨B, cap, by rw [hhd]; exact e, hc, h1, h2, by omega, r3, ⟨vs, v1.mono fun _ _ hxy => ⟨hxy.1.mono hle.S hle.cell hle.blk, hxy.2⟩, fun j v hv => by rw [r1]; exact v2 j v hv⟩, fun j hj => by rw [r1, r2]; exact h6 j hj, r4, r5⟩
theorem XB.congr {X : Nat → Option (Nat × Nat × List (List PV))} {g g' : GG} (hhd : g'.hd = g.hd) {t B : Nat} (h : XB X g' t B) : XB X g t B := by
  obtain ⟨h1, off, n, cap, h2⟩ := h
  exact ⟨h1, off, n, cap, by rw [← hhd]; exact h2⟩

theorem Act.put_defers' (a : Act) (d : Option Nat) (v : Value) : (a.put d v).defers = a.defers := by cases d <;> rfl
theorem Act.put_size (a : Act) (d : Option Nat) (v : Value) : (a.put d v).tmps.size = a.tmps.size := by cases d <;> simp [Act.put]

/-- A slot is written. -/
theorem InvG.put (h : InvG Gl S0 w0 s a g) (d : Option Nat) {p : PV} {v : Value} (hv : Rel g p v) : InvG Gl S0 w0 (s.put d p) (a.put d v) g := by
  cases d with
  | none => exact h
  | some i =>
    refine { h with hH := h.hH, hT := h.hT, defers := h.defers, len := by simpa [PSt.put, Act.put] using h.len, tm := fun j q u hq hu => ?_ }
    simp only [PSt.put] at hq
    simp only [Act.put] at hu
    rw [List.getElem?_set] at hq
    rw [Array.getElem?_setIfInBounds] at hu
    by_cases hij : i = j
    · subst hij
      rw [if_pos rfl] at hq hu
      split at hq
      · split at hu
        · cases hq; cases hu; exact hv
        · cases hu
      · cases hq
    · rw [if_neg hij] at hq hu
      exact h.tm j q u hq hu
theorem Rel.any (g : GG) (v : Value) : Rel g .any v := trivial

theorem InvG.get (h : InvG Gl S0 w0 s a g) (i : Nat) : Rel g (s.get i) (a.tmps.getD i undef) := by
  unfold PSt.get
  by_cases hi : i < s.tm.length
  · have hi' : i < a.tmps.size := h.len ▸ hi
    have := h.tm i s.tm[i] a.tmps[i] (List.getElem?_eq_getElem hi) (Array.getElem?_eq_getElem hi')
    simpa [List.getD, List.getElem?_eq_getElem hi, Array.getElem?_eq_getElem hi'] using this
  · rw [List.getD_eq_getElem?_getD, List.getElem?_eq_none (by omega)]
    exact trivial

theorem Spare.congr {g g' : GG} (hT : g'.T = g.T) (hhd : g'.hd = g.hd) {t B : Nat} (h : Spare g' t B) : Spare g t B := by
  obtain ⟨n, k, off, cap, h1, h2, h3⟩ := h
  exact ⟨n, k, off, cap, by rw [← hT]; exact h1, by rw [← hhd]; exact h2, h3⟩

theorem cell?_below {B : Nat} {w w' : World} (hb : Below B w w') {b o : Nat} (h : b < B) : w'.cell? ⟨b, o, none⟩ = w.cell? ⟨b, o, none⟩ := hb.cell (p := ⟨b, o, none⟩) h
theorem frozen?_below {B : Nat} {w w' : World} (hb : Below B w w') {b o : Nat} (h : b < B) : w'.frozen? ⟨b, o, none⟩ = w.frozen? ⟨b, o, none⟩ := hb.frozen (p := ⟨b, o, none⟩) h
theorem rangeAt_below {B : Nat} {w w' : World} (hb : Below B w w') {b o : Nat} {vs : List Value} (h : b < B) (hr : w.rangeAt b o vs) : w'.rangeAt b o vs :=
  fun j v hv => by rw [cell?_below hb h]; exact hr j v hv
theorem there_below {B : Nat} {w w' : World} (hb : Below B w w') {b o n : Nat} (h : b < B) (hr : w.there b o n) : w'.there b o n :=
  fun j hj => by rw [cell?_below hb h, frozen?_below hb h]; exact hr j hj

theorem ObjOK.mono {g g' : GG} (hg : GLe g g') {B : Nat} (hb : ∀ o, g'.w.cell? ⟨B, o, none⟩ = g.w.cell? ⟨B, o, none⟩) (hf : ∀ o, g'.w.frozen? ⟨B, o, none⟩ = g.w.frozen? ⟨B, o, none⟩)
    (hh : ∀ (x : Obj) (_ : Unit), g.w.heap[B]? = some x → g'.w.heap[B]? = some x) : ∀ {ob : PObj}, ObjOK g B ob → ObjOK g' B ob
  | .cells cs, ⟨vs, h1, h2, h3⟩ => ⟨vs, h1.mono (RelC.mono hg), fun j v hv => by rw [hb]; exact h2 j v hv, fun j hj => by rw [hb, hf]; exact h3 j hj⟩
  | .iter _ _, h => hh _ () h
  | .map es, ⟨arr, clock, h1, h2⟩ => ⟨arr, clock, hh _ () h1, h2.mono fun _ _ hxy => ⟨hxy.1.mono hg.S hg.cell hg.blk, hxy.2.1.mono hg.S hg.cell hg.blk, hxy.2.2⟩⟩

/-- Memory grows: new blocks, of which some cells are stable. -/
theorem InvG.grow (h : InvG Gl S0 w0 s a g) {w' : World} {S' : Cells} (hb : BelowD g.w.heap.size g.w w') (hS : ∀ B o, g.S B o → S' B o)
    (hS' : ∀ B o, S' B o → g.S B o ∨ (g.w.heap.size ≤ B ∧ B < w'.heap.size)) : InvG Gl S0 w0 s a { g with w := w', S := S' } ∧ GLe g { g with w := w', S := S' } := by
  have hle : GLe g { g with w := w', S := S' } :=
    ⟨hS, fun B o hBo => cell?_below hb.toBelow (h.lt B o hBo), fun B hB => hb.block _ (h.lt B 0 (hB 0)), fun l ob hob => ⟨rfl, ob, hob, fun cs e => ⟨cs, e, rfl⟩⟩, fun t n k ht => ⟨n, ht, Nat.le_refl _, fun _ => rfl⟩⟩
  have hz := h.below.size
  refine ⟨{ hH := h.hH, hT := h.hT, defers := h.defers, len := h.len, tm := fun i p v hp hv => (h.tm i p v hp hv).mono hle, sub := fun B o hBo => hS _ _ (h.sub B o hBo), new := fun B o hBo => ?_, lt := fun B o hBo => ?_, below := h.below.trans (.ofBelow hb), objs := fun l ob hob => ?_, inj := h.inj, owns := fun t n k ht => ?_, ownsEx := fun t t' B hs hs' => h.ownsEx t t' B (hs.congr rfl rfl) (hs'.congr rfl rfl), ownsObj := fun t B l hs hl => h.ownsObj t B l (hs.congr rfl rfl) hl, glob := fun i cs hi => (h.glob i cs hi).mono hle.S hle.cell hle.blk, exs := fun t k b xss hx => (h.exs t k b xss hx).mono hle rfl rfl hb.size fun B off n cap e1 e2 e3 e4 e5 e6 => ⟨fun o => cell?_below hb.toBelow e3, fun o => frozen?_below hb.toBelow e3, fun o ho => (hS' _ _ ho).elim (e4 o) fun q => by omega, e5, fun t' hs => e6 t' (hs.congr rfl rfl)⟩, exsEx := fun t t' B h1 h2 => h.exsEx t t' B (h1.congr rfl) (h2.congr rfl), fix := h.fix, fixT := h.fixT }, hle⟩
  · rcases hS' B o hBo with h1 | h1
    · exact h.new B o h1
    · exact .inr (.inl (by omega))
  · rcases hS' B o hBo with h1 | h1
    · have := h.lt B o h1; have := hb.size; show B < w'.heap.size; omega
    · exact h1.2
  · obtain ⟨h1, h2, h3, h4⟩ := h.objs l ob hob
    have hsz := hb.size
    refine ⟨h1, by show g.φ l < w'.heap.size; omega, fun o ho => ?_, h4.mono hle (fun o => cell?_below hb.toBelow h2) (fun o => frozen?_below hb.toBelow h2) (fun arr c hc => by rw [hb.block _ h2]; exact hc)⟩
    rcases hS' _ _ ho with h5 | h5
    · exact h3 o h5
    · have : g.w.heap.size ≤ g.φ l := h5.1; omega
  · rcases h.owns t n k ht with hn | ⟨B, off, cap, e1, e2, e3⟩
    · exact .inl hn
    · have hsz := hb.size
      refine .inr ⟨B, off, cap, e1, e2, fun hlt => ?_⟩
      obtain ⟨f1, f2, f3, f4⟩ := e3 hlt
      refine ⟨f1, by show B < w'.heap.size; omega, there_below hb.toBelow f2 f3, fun hk o ho => ?_⟩
      rcases hS' _ _ ho with h5 | h5
      · exact f4 hk o h5
      · omega

/-- The same with stable cells unchanged. -/
theorem InvG.grow' (h : InvG Gl S0 w0 s a g) {w' : World} (hb : BelowD g.w.heap.size g.w w') : InvG Gl S0 w0 s a { g with w := w' } ∧ GLe g { g with w := w' } :=
  h.grow (S' := g.S) hb (fun _ _ h => h) (fun _ _ h => .inl h)

/-- A new block of the call's own. -/
theorem InvG.addObj (h : InvG Gl S0 w0 s a g) {l B : Nat} {ob : PObj} (hl : g.H l = none) (hl6 : l < 1000000) (hB : w0.heap.size ≤ B ∨ S0.E B) (hB' : B < g.w.heap.size) (hS : ∀ o, ¬ g.S B o)
    (hφ : ∀ l', (g.H l').isSome = true → g.φ l' ≠ B) (hsp : ∀ t, ¬ Spare g t B) (hx : ∀ t, ¬ XB s.X g t B) (hob : ∀ g', GLe g g' → g'.w = g.w → ObjOK g' B ob) :
    InvG Gl S0 w0 { s with H := upd s.H l (some ob) } a { g with φ := fun x => if x = l then B else g.φ x, H := upd g.H l (some ob) } ∧ GLe g { g with φ := fun x => if x = l then B else g.φ x, H := upd g.H l (some ob) } := by
  have hne : ∀ l' ob', g.H l' = some ob' → l' ≠ l := fun l' ob' h1 h2 => by rw [h2, hl] at h1; cases h1
  have hle : GLe g { g with φ := fun x => if x = l then B else g.φ x, H := upd g.H l (some ob) } :=
    ⟨fun _ _ h => h, fun _ _ _ => rfl, fun _ _ => rfl, fun l' ob' h1 => ⟨if_neg (hne l' ob' h1), ob', by show upd g.H l (some ob) l' = _; rw [upd_other _ _ _ _ (hne l' ob' h1)]; exact h1, fun cs e => ⟨cs, e, rfl⟩⟩, fun t n k ht => ⟨n, ht, Nat.le_refl _, fun _ => rfl⟩⟩
  have hsome : ∀ l', ((upd g.H l (some ob)) l').isSome = true → l' ≠ l → (g.H l').isSome = true := fun l' h1 h2 => by rwa [upd_other _ _ _ _ h2] at h1
  refine ⟨{ hH := by rw [← h.hH], hT := h.hT, defers := h.defers, len := h.len, tm := fun i p v hp hv => (h.tm i p v hp hv).mono hle, sub := h.sub, new := h.new, lt := h.lt, below := h.below, objs := fun l' ob' hob' => ?_, inj := fun l1 l2 h1 h2 he => ?_, owns := fun t n k ht => h.owns t n k ht, ownsEx := fun t t' B hs hs' => h.ownsEx t t' B (hs.congr rfl rfl) (hs'.congr rfl rfl), ownsObj := fun t B' l' hs hl' => ?_, glob := h.glob, exs := fun t k b xss hX => (h.exs t k b xss hX).mono hle rfl rfl (Nat.le_refl _) fun B' off n cap e1 e2 e3 e4 e5 e6 => ⟨fun _ => rfl, fun _ => rfl, e4, fun l' hl' => ?_, fun t' hs => e6 t' (hs.congr rfl rfl)⟩, exsEx := fun t t' B h1 h2 => h.exsEx t t' B (h1.congr rfl) (h2.congr rfl), fix := fun l' B' hF => ⟨(h.fix l' B' hF).1, fun hs => (by
    have h6 := (h.fix l' B' hF).1
    have hne : l' ≠ l := by omega
    simp only [if_neg hne]
    exact (h.fix l' B' hF).2 (hsome l' hs hne))⟩, fixT := h.fixT }, hle⟩
  rotate_right
  · by_cases e : l' = l
    · simp only [e, if_true]
      intro hBB
      exact hx t ⟨by rw [hX]; rfl, off, n, cap, by rw [hBB]; exact e1⟩
    · simp only [if_neg e]
      exact e5 l' (hsome l' hl' e)
  · by_cases e : l' = l
    · subst e
      have h1 : upd g.H l' (some ob) l' = some ob' := hob'
      rw [upd_same] at h1
      cases h1
      simp only [if_true]
      exact ⟨hB, hB', hS, hob _ hle rfl⟩
    · have h1 : upd g.H l (some ob) l' = some ob' := hob'
      rw [upd_other _ _ _ _ e] at h1
      obtain ⟨k1, k2, k3, k4⟩ := h.objs l' ob' h1
      simp only [if_neg e]
      exact ⟨k1, k2, k3, k4.mono hle (fun _ => rfl) (fun _ => rfl) (fun _ _ h => h)⟩
  · by_cases e1 : l1 = l <;> by_cases e2 : l2 = l
    · rw [e1, e2]
    · simp only [e1, if_true, if_neg e2] at he
      exact absurd he.symm (hφ l2 (hsome l2 h2 e2))
    · simp only [e2, if_true, if_neg e1] at he
      exact absurd he (hφ l1 (hsome l1 h1 e1))
    · simp only [if_neg e1, if_neg e2] at he
      exact h.inj l1 l2 (hsome l1 h1 e1) (hsome l2 h2 e2) he
  · by_cases e : l' = l
    · simp only [e, if_true]
      intro hBB
      exact hsp t (by rw [hBB]; exact hs.congr rfl rfl)
    · simp only [if_neg e]
      exact h.ownsObj t B' l' (hs.congr rfl rfl) (hsome l' hl' e)

end
end PM
