/-
  THE PURE MACHINE, A: values without memory (PV), the relation between them and the model's values, states, and what is kept while code runs (Inv). No project text. Nothing here is trusted.
-/
import Derived.Below
import Derived.Deep.MidRow
import Derived.Deep.AppendSrc
namespace PM
open Go Go.RowKit

/-- Who may append to a list in place. -/
inductive Own where
  | frozen | full | own (t : Nat)
  deriving DecidableEq

/-- Pure values. ub: a truth value, e holds if it is true. fmp: a map that will not change any more, its keys and values. A list holds its elements, each a list of cells. ex: elements o.. (n of them) of the list that only token t holds, when it had N elements; eref: the address of cell off of its element j (of k cells). -/
inductive PV where
  | any
  | int (k : IntKind) (n : Int)
  | bool (b : Bool)
  | str (s : ByteArray)
  | nil
  | agg (cs : List PV)
  | tup (vs : List PV)
  | lst (o : Own) (k b : Nat) (xss : List (List PV))
  | ref (l off : Nat)
  | sl (l o len k b : Nat)
  | cptr (cs : List PV)
  | gptr (g off : Nat)
  | fn (f : FuncId) (caps : List PV)
  | mp (l : Nat)
  | ex (t k b N o n : Nat)
  | eref (t k N j off : Nat)
  | fmp (ks vs : List PV)
  | ub (e : Bool)

def PV.one : PV → Bool
  | .any | .agg _ | .tup _ => false
  | _ => true
def PV.cells : PV → List PV
  | .agg cs => cs
  | p => [p]

/-- A block of the call's own: a variable (or a made slice), or a map. -/
inductive PObj where
  | cells (cs : List PV)
  | map (es : List (PV × PV))
  | iter (s : ByteArray) (pos : Nat)

/-- The cells of memory that will never change any more. -/
abbrev Cells := Nat → Nat → Prop

/-- Two lists of one length, related place by place. -/
def All2 {α β : Type} (R : α → β → Prop) (xs : List α) (ys : List β) : Prop :=
  xs.length = ys.length ∧ ∀ (i : Nat) (x : α) (y : β), xs[i]? = some x → ys[i]? = some y → R x y

section all2
variable {α β : Type} {R R' : α → β → Prop} {xs xs' : List α} {ys ys' : List β}
theorem All2.nil : All2 R [] [] := ⟨rfl, fun i x y h => by simp at h⟩
theorem All2.mono (h : All2 R xs ys) (hr : ∀ x y, R x y → R' x y) : All2 R' xs ys := ⟨h.1, fun i x y hx hy => hr _ _ (h.2 i x y hx hy)⟩
theorem All2.left (h : All2 R xs ys) {i : Nat} {y : β} (hy : ys[i]? = some y) : ∃ x, xs[i]? = some x ∧ R x y := by
  have hi : i < xs.length := by rw [h.1]; exact (List.getElem?_eq_some_iff.1 hy).1
  exact ⟨xs[i], List.getElem?_eq_getElem hi, h.2 i _ _ (List.getElem?_eq_getElem hi) hy⟩
theorem All2.right (h : All2 R xs ys) {i : Nat} {x : α} (hx : xs[i]? = some x) : ∃ y, ys[i]? = some y ∧ R x y := by
  have hi : i < ys.length := by rw [← h.1]; exact (List.getElem?_eq_some_iff.1 hx).1
  exact ⟨ys[i], List.getElem?_eq_getElem hi, h.2 i _ _ hx (List.getElem?_eq_getElem hi)⟩
theorem All2.cons {x : α} {y : β} (h : R x y) (ht : All2 R xs ys) : All2 R (x :: xs) (y :: ys) :=
  ⟨by simp [ht.1], fun i a b ha hb => by
    cases i with
    | zero => simp at ha hb; subst ha; subst hb; exact h
    | succ i => exact ht.2 i a b (by simpa using ha) (by simpa using hb)⟩
theorem All2.head {x : α} {y : β} (h : All2 R (x :: xs) (y :: ys)) : R x y := h.2 0 x y rfl rfl
theorem All2.tail {x : α} {y : β} (h : All2 R (x :: xs) (y :: ys)) : All2 R xs ys :=
  ⟨by simpa using h.1, fun i a b ha hb => h.2 (i + 1) a b (by simpa using ha) (by simpa using hb)⟩
theorem All2.cons_left {x : α} (h : All2 R (x :: xs) ys) : ∃ y ys', ys = y :: ys' ∧ R x y ∧ All2 R xs ys' := by
  cases ys with
  | nil => simp [All2] at h
  | cons y ys' => exact ⟨y, ys', rfl, h.head, h.tail⟩
theorem All2.nil_left (h : All2 R [] ys) : ys = [] := List.eq_nil_of_length_eq_zero h.1.symm
theorem All2.append (h : All2 R xs ys) (h' : All2 R xs' ys') : All2 R (xs ++ xs') (ys ++ ys') := by
  refine ⟨by simp [h.1, h'.1], fun i a b ha hb => ?_⟩
  rw [List.getElem?_append] at ha hb
  by_cases hi : i < xs.length
  · rw [if_pos hi] at ha; rw [if_pos (h.1 ▸ hi)] at hb; exact h.2 i a b ha hb
  · rw [if_neg hi] at ha; rw [if_neg (h.1 ▸ hi), ← h.1] at hb; exact h'.2 _ a b ha hb
theorem All2.take (h : All2 R xs ys) (n : Nat) : All2 R (xs.take n) (ys.take n) :=
  ⟨by simp [h.1], fun i a b ha hb => by
    rw [List.getElem?_take] at ha hb
    by_cases hi : i < n
    · rw [if_pos hi] at ha hb; exact h.2 i a b ha hb
    · rw [if_neg hi] at ha; cases ha⟩
theorem All2.drop (h : All2 R xs ys) (n : Nat) : All2 R (xs.drop n) (ys.drop n) :=
  ⟨by simp [h.1], fun i a b ha hb => by
    rw [List.getElem?_drop] at ha hb
    exact h.2 _ a b ha hb⟩
end all2

/-- One cell, or a flat aggregate. -/
def flatV : PV → Bool
  | .agg cs => cs.all PV.one
  | .tup _ => false
  | .any => false
  | _ => true
mutual
/-- DATA: all memory that the value reaches is stable. -/
def RelD (S : Cells) (w : World) : PV → Value → Prop
  | .int k n, v => v = .int k n
  | .bool b, v => v = .bool b
  | .str s, v => v = .string s
  | .nil, v => v = .slice none 0 0
  | .agg cs, v => ∃ arr : Array Value, v = .agg arr ∧ RelDs S w cs arr.toList
  | .tup vs, v => ∃ arr : Array Value, v = .tuple arr ∧ RelDs S w vs arr.toList
  | .lst o k b xss, v => xss.length * b ≤ 140737488351232 ∧ xss.length ≤ 140737488351232 ∧ (o = .frozen ∨ o = .full) ∧ ((v = .slice none 0 0 ∧ xss = []) ∨ ∃ B off cap, v = .slice (some ⟨B, off, none⟩) xss.length cap ∧ xss.length ≤ cap ∧ (o = .full → cap = xss.length) ∧ RelEls S w k xss B off)
  | .cptr cs, v => ∃ B off, v = .pointer (some ⟨B, off, none⟩) ∧ RelCells S w cs B off
  | .gptr g off, v => v = .pointer (some ⟨g, off, none⟩)
  | .fn f caps, v => ∃ arr : Array Value, v = .func (.func f) #[] arr ∧ RelDs S w caps arr.toList
  | .fmp ks vs, v => vs.all flatV = true ∧ ((v = .map none ∧ ks = [] ∧ vs = []) ∨ ∃ B arr clock, v = .map (some B) ∧ (∀ o, S B o) ∧ w.heap[B]? = some (.map arr clock) ∧ RelDs S w ks (arr.toList.map (·.key)) ∧ RelDs S w vs (arr.toList.map (·.val)))
  | _, _ => False
def RelDs (S : Cells) (w : World) : List PV → List Value → Prop
  | [], vs => vs = []
  | c :: cs, vs => ∃ v vs', vs = v :: vs' ∧ RelD S w c v ∧ RelDs S w cs vs'
def RelCells (S : Cells) (w : World) : List PV → Nat → Nat → Prop
  | [], _, _ => True
  | c :: cs, B, off => c.one = true ∧ S B off ∧ (∃ v, w.cell? ⟨B, off, none⟩ = some v ∧ RelD S w c v) ∧ RelCells S w cs B (off + 1)
def RelEls (S : Cells) (w : World) (k : Nat) : List (List PV) → Nat → Nat → Prop
  | [], _, _ => True
  | cs :: css, B, off => cs.length = k ∧ RelCells S w cs B off ∧ RelEls S w k css B (off + k)
end

mutual
theorem RelD.mono {S S' : Cells} {w w' : World} (hS : ∀ B o, S B o → S' B o) (hw : ∀ B o, S B o → w'.cell? ⟨B, o, none⟩ = w.cell? ⟨B, o, none⟩) (hm : ∀ B, (∀ o, S B o) → w'.heap[B]? = w.heap[B]?) :
    ∀ (p : PV) (v : Value), RelD S w p v → RelD S' w' p v
  | .int k n, v, h => by simpa only [RelD] using h
  | .bool b, v, h => by simpa only [RelD] using h
  | .str s, v, h => by simpa only [RelD] using h
  | .nil, v, h => by simpa only [RelD] using h
  | .gptr g off, v, h => by simpa only [RelD] using h
  | .lst o k b xss, v, h => by
    simp only [RelD] at h ⊢
    obtain ⟨h1, h2, h3, h4⟩ := h
    refine ⟨h1, h2, h3, ?_⟩
    rcases h4 with h4 | ⟨B, off, cap, e1, e2, e3, e4⟩
    · exact .inl h4
    · exact .inr ⟨B, off, cap, e1, e2, e3, RelEls.mono hS hw hm k xss B off e4⟩
  | .cptr cs, v, h => by
    simp only [RelD] at h ⊢
    obtain ⟨B, off, e1, e2⟩ := h
    exact ⟨B, off, e1, RelCells.mono hS hw hm cs B off e2⟩
  | .fn f caps, v, h => by
    simp only [RelD] at h ⊢
    obtain ⟨arr, e1, e2⟩ := h
    exact ⟨arr, e1, RelDs.mono hS hw hm caps _ e2⟩
  | .agg cs, v, h => by
    simp only [RelD] at h ⊢
    obtain ⟨arr, e1, e2⟩ := h
    exact ⟨arr, e1, RelDs.mono hS hw hm cs _ e2⟩
  | .tup cs, v, h => by
    simp only [RelD] at h ⊢
    obtain ⟨arr, e1, e2⟩ := h
    exact ⟨arr, e1, RelDs.mono hS hw hm cs _ e2⟩
  | .fmp ks vs, v, h => by
    simp only [RelD] at h ⊢
    rcases h with ⟨h0, h | ⟨B, arr, clock, e1, e2, e3, e4, e5⟩⟩
    · exact ⟨h0, .inl h⟩
    · exact ⟨h0, .inr ⟨B, arr, clock, e1, fun o => hS _ _ (e2 o), by rw [hm B e2]; exact e3, RelDs.mono hS hw hm ks _ e4, RelDs.mono hS hw hm vs _ e5⟩⟩
  | .any, v, h => by simp only [RelD] at h
  | .ref _ _, v, h => by simp only [RelD] at h
  | .sl _ _ _ _ _, v, h => by simp only [RelD] at h
  | .mp _, v, h => by simp only [RelD] at h
  | .ex _ _ _ _ _ _, v, h => by simp only [RelD] at h
  | .eref _ _ _ _ _, v, h => by simp only [RelD] at h
  | .ub _, v, h => by simp only [RelD] at h
theorem RelDs.mono {S S' : Cells} {w w' : World} (hS : ∀ B o, S B o → S' B o) (hw : ∀ B o, S B o → w'.cell? ⟨B, o, none⟩ = w.cell? ⟨B, o, none⟩) (hm : ∀ B, (∀ o, S B o) → w'.heap[B]? = w.heap[B]?) :
    ∀ (cs : List PV) (vs : List Value), RelDs S w cs vs → RelDs S' w' cs vs
  | [], vs, h => by simpa only [RelDs] using h
  | c :: cs, vs, h => by
    simp only [RelDs] at h ⊢
    obtain ⟨v, vs', e, h1, h2⟩ := h
    exact ⟨v, vs', e, RelD.mono hS hw hm c v h1, RelDs.mono hS hw hm cs vs' h2⟩
theorem RelCells.mono {S S' : Cells} {w w' : World} (hS : ∀ B o, S B o → S' B o) (hw : ∀ B o, S B o → w'.cell? ⟨B, o, none⟩ = w.cell? ⟨B, o, none⟩) (hm : ∀ B, (∀ o, S B o) → w'.heap[B]? = w.heap[B]?) :
    ∀ (cs : List PV) (B off : Nat), RelCells S w cs B off → RelCells S' w' cs B off
  | [], B, off, _ => by simp only [RelCells]
  | c :: cs, B, off, h => by
    simp only [RelCells] at h ⊢
    obtain ⟨ho, h0, ⟨v, h1, h2⟩, h3⟩ := h
    exact ⟨ho, hS _ _ h0, ⟨v, by rw [hw _ _ h0]; exact h1, RelD.mono hS hw hm c v h2⟩, RelCells.mono hS hw hm cs B (off + 1) h3⟩
theorem RelEls.mono {S S' : Cells} {w w' : World} (hS : ∀ B o, S B o → S' B o) (hw : ∀ B o, S B o → w'.cell? ⟨B, o, none⟩ = w.cell? ⟨B, o, none⟩) (hm : ∀ B, (∀ o, S B o) → w'.heap[B]? = w.heap[B]?) (k : Nat) :
    ∀ (css : List (List PV)) (B off : Nat), RelEls S w k css B off → RelEls S' w' k css B off
  | [], B, off, _ => by simp only [RelEls]
  | cs :: css, B, off, h => by
    simp only [RelEls] at h ⊢
    exact ⟨h.1, RelCells.mono hS hw hm cs B off h.2.1, RelEls.mono hS hw hm k css B (off + k) h.2.2⟩
end

section data
variable {S : Cells} {w : World}
theorem relDs_iff : ∀ (cs : List PV) (vs : List Value), RelDs S w cs vs ↔ All2 (RelD S w) cs vs
  | [], vs => by
    simp only [RelDs]
    exact ⟨fun h => by subst h; exact .nil, fun h => h.nil_left⟩
  | c :: cs, vs => by
    simp only [RelDs]
    constructor
    · rintro ⟨v, vs', rfl, h1, h2⟩
      exact .cons h1 ((relDs_iff cs vs').1 h2)
    · intro h
      obtain ⟨v, vs', rfl, h1, h2⟩ := h.cons_left
      exact ⟨v, vs', rfl, h1, (relDs_iff cs vs').2 h2⟩
theorem relCells_iff : ∀ (cs : List PV) (B off : Nat), RelCells S w cs B off ↔
    ∀ (i : Nat) (c : PV), cs[i]? = some c → c.one = true ∧ S B (off + i) ∧ ∃ v, w.cell? ⟨B, off + i, none⟩ = some v ∧ RelD S w c v
  | [], B, off => by simp [RelCells]
  | c :: cs, B, off => by
    simp only [RelCells, relCells_iff cs B (off + 1)]
    constructor
    · rintro ⟨h0, h1, h2, h3⟩ i c' hc
      cases i with
      | zero => simp at hc; subst hc; exact ⟨h0, h1, h2⟩
      | succ i =>
        have := h3 i c' (by simpa using hc)
        rwa [show off + 1 + i = off + (i + 1) by omega] at this
    · intro h
      have h0 := h 0 c rfl
      refine ⟨h0.1, h0.2.1, h0.2.2, fun i c' hc => ?_⟩
      have := h (i + 1) c' (by simpa using hc)
      rwa [show off + (i + 1) = off + 1 + i by omega] at this
theorem relEls_iff (k : Nat) : ∀ (css : List (List PV)) (B off : Nat), RelEls S w k css B off ↔
    ∀ (i : Nat) (cs : List PV), css[i]? = some cs → cs.length = k ∧ RelCells S w cs B (off + i * k)
  | [], B, off => by simp [RelEls]
  | cs :: css, B, off => by
    simp only [RelEls, relEls_iff k css B (off + k)]
    constructor
    · rintro ⟨h0, h1, h2⟩ i c' hc
      cases i with
      | zero => simp at hc; subst hc; simpa using ⟨h0, h1⟩
      | succ i =>
        have := h2 i c' (by simpa using hc)
        rwa [show off + k + i * k = off + (i + 1) * k by rw [Nat.succ_mul]; omega] at this
    · intro h
      have h0 := h 0 cs rfl
      simp only [Nat.zero_mul, Nat.add_zero] at h0
      refine ⟨h0.1, h0.2, fun i c' hc => ?_⟩
      have := h (i + 1) c' (by simpa using hc)
      rwa [show off + (i + 1) * k = off + k + i * k by rw [Nat.succ_mul]; omega] at this
theorem RelD.oneCell {p : PV} {v : Value} (h : RelD S w p v) (hp : p.one = true) : v.oneCell' = true ∧ v.cells = #[v] := by
  cases p <;> simp only [RelD, PV.one] at h hp <;> try cases hp
  case fmp => obtain ⟨_, ⟨rfl, _⟩ | ⟨_, _, _, rfl, _⟩⟩ := h <;> exact ⟨rfl, rfl⟩
  all_goals first
    | (subst h; exact ⟨rfl, rfl⟩)
    | (obtain ⟨_, _, _, ⟨rfl, _⟩ | ⟨_, _, _, rfl, _⟩⟩ := h <;> exact ⟨rfl, rfl⟩)
    | (obtain ⟨_, _, rfl, _⟩ := h; exact ⟨rfl, rfl⟩)
    | (obtain ⟨_, rfl, _⟩ := h; exact ⟨rfl, rfl⟩)
    | exact h.elim
/-- The cells of consecutive elements, as one row. -/
theorem RelEls.cells {k : Nat} {css : List (List PV)} {B off : Nat} (h : RelEls S w k css B off) : RelCells S w css.flatten B off ∧ css.flatten.length = css.length * k := by
  induction css generalizing off with
  | nil => simp [RelCells]
  | cons cs css ih =>
    simp only [RelEls] at h
    obtain ⟨h1, h2, h3⟩ := h
    obtain ⟨i1, i2⟩ := ih h3
    refine ⟨?_, by simp [h1, i2, Nat.succ_mul]; omega⟩
    rw [relCells_iff] at h2 i1 ⊢
    intro i c hc
    rw [List.flatten_cons, List.getElem?_append] at hc
    by_cases hi : i < cs.length
    · rw [if_pos hi] at hc; exact h2 i c hc
    · rw [if_neg hi] at hc
      have := i1 _ c hc
      rwa [show off + k + (i - cs.length) = off + i by omega] at this
theorem RelCells.values {cs : List PV} {B off : Nat} (h : RelCells S w cs B off) : ∃ vs : List Value, All2 (RelD S w) cs vs ∧ (∀ j v, vs[j]? = some v → w.cell? ⟨B, off + j, none⟩ = some v) ∧ ∀ v ∈ vs, v.oneCell' = true := by
  induction cs generalizing off with
  | nil => exact ⟨[], .nil, by simp, by simp⟩
  | cons c cs ih =>
    simp only [RelCells] at h
    obtain ⟨h0, h1, ⟨v, h2, h3⟩, h4⟩ := h
    obtain ⟨vs, i1, i2, i3⟩ := ih h4
    refine ⟨v :: vs, .cons h3 i1, fun j u hu => ?_, fun u hu => ?_⟩
    · cases j with
      | zero => simp at hu; subst hu; exact h2
      | succ j =>
        have := i2 j u (by simpa using hu)
        rwa [show off + 1 + j = off + (j + 1) by omega] at this
    · rcases List.mem_cons.1 hu with rfl | hu
      · exact (h3.oneCell h0).1
      · exact i3 u hu
end data

/-- An entry of a map. -/
def RelE (S : Cells) (w : World) (e : PV × PV) (m : MapEntry) : Prop := RelD S w e.1 m.key ∧ RelD S w e.2 m.val ∧ flatV e.2 = true

/-- How things were when the body began: the stable cells, and the elder blocks that it may write (of which labels). -/
structure Bs where
  S : Cells
  F : Nat → Nat → Prop
  FT : Nat → Value → Nat → Prop := fun _ _ _ => False
def Bs.E (b : Bs) (B : Nat) : Prop := (∃ l, b.F l B) ∨ ∃ t v n, b.FT t v n ∧ ∃ off m cap, v = .slice (some ⟨B, off, none⟩) m cap ∧ 0 < cap
/-- Below block B nothing has changed; draws only go on. -/
structure BelowD (B : Nat) (w w' : World) : Prop extends Below B w w' where
  dr : w.drawn ≤ w'.drawn
theorem BelowD.refl (B : Nat) (w : World) : BelowD B w w := ⟨Below.refl B w, Nat.le_refl _⟩
theorem BelowD.drew {B : Nat} {w w' : World} (h : BelowD B w w') : BelowD B w w'.drew := ⟨h.toBelow.drew, Nat.le_succ_of_le h.dr⟩
/-- w' is w, but for the blocks of E, and grown. -/
structure BelowE (E : Nat → Prop) (w w' : World) : Prop where
  os : w'.os = w.os
  tape : w'.tape = w.tape
  output : w'.output = w.output
  size : w.heap.size ≤ w'.heap.size
  block : ∀ k, k < w.heap.size → ¬ E k → w'.heap[k]? = w.heap[k]?
  dr : w.drawn ≤ w'.drawn
theorem BelowE.refl (E : Nat → Prop) (w : World) : BelowE E w w := ⟨rfl, rfl, rfl, Nat.le_refl _, fun _ _ _ => rfl, Nat.le_refl _⟩
theorem BelowE.trans {E : Nat → Prop} {a b c : World} (h : BelowE E a b) (k : BelowE E b c) : BelowE E a c :=
  ⟨k.os.trans h.os, k.tape.trans h.tape, k.output.trans h.output, Nat.le_trans h.size k.size, fun i hi he => (k.block i (Nat.lt_of_lt_of_le hi h.size) he).trans (h.block i hi he), Nat.le_trans h.dr k.dr⟩
theorem BelowE.ofBelow {E : Nat → Prop} {a b : World} (h : BelowD a.heap.size a b) : BelowE E a b := ⟨h.os, h.tape, h.output, h.size, fun k hk _ => h.block k hk, h.dr⟩
theorem BelowE.toBelow {E : Nat → Prop} {a b : World} (h : BelowE E a b) (hE : ∀ k, ¬ E k) : BelowD a.heap.size a b := ⟨⟨h.os, h.tape, h.output, h.size, fun k hk => h.block k hk (hE k)⟩, h.dr⟩

/-- What a state's values are held against. -/
structure GG where
  S : Cells
  w : World
  φ : Nat → Nat
  hd : Nat → Value
  H : Nat → Option PObj
  T : Nat → Option (Nat × Nat)

/-- A captured value: an address of a block of the call's own, or data. -/
def Rel0 (g : GG) : PV → Value → Prop
  | .ref l off, v => v = .pointer (some ⟨g.φ l, off, none⟩) ∧ (g.H l).isSome = true
  | p, v => RelD g.S g.w p v
/-- Elements o.. (n of them) of the list of N elements of k cells whose header is hd. -/
def View (hd : Value) (N k o n : Nat) (v : Value) : Prop :=
  (v = hd ∧ N = 0 ∧ o = 0 ∧ n = 0) ∨ ∃ B cap off, hd = .slice (some ⟨B, 0, none⟩) N cap ∧ 0 < cap ∧ N ≤ cap ∧ o + n ≤ N ∧ v = .slice (some ⟨B, off, none⟩) n (cap - o) ∧ (off = o * k ∨ cap - o = 0)
def ViewA (hd : Value) (N o : Nat) (v : Value) : Prop := ∃ B cap, hd = .slice (some ⟨B, 0, none⟩) N cap ∧ v = .pointer (some ⟨B, o, none⟩)
/-- An empty list without room. -/
def Nilish (v : Value) : Prop := v = .slice none 0 0 ∨ ∃ B off, v = .slice (some ⟨B, off, none⟩) 0 0
/-- One cell. -/
def Rel1 (g : GG) : PV → Value → Prop
  | .any, _ => True
  | .lst (.own t) k b xss, v => RelD g.S g.w (.lst .frozen k b xss) v ∧ ∃ n, g.T t = some (n, k) ∧ xss.length ≤ n ∧ (xss.length = n → v = g.hd t)
  | .ref l off, v => v = .pointer (some ⟨g.φ l, off, none⟩) ∧ (g.H l).isSome = true
  | .mp l, v => v = .map (some (g.φ l)) ∧ (g.H l).isSome = true
  | .sl l o len k _, v => (∃ off cap, v = .slice (some ⟨g.φ l, off, none⟩) len cap ∧ len ≤ cap ∧ (off = o * k ∨ len = 0)) ∧ ∃ cs, g.H l = some (.cells cs) ∧ (o + len) * k ≤ cs.length
  | .fn f caps, v => ∃ arr : Array Value, v = .func (.func f) #[] arr ∧ All2 (Rel0 g) caps arr.toList
  | .ex t k _ N o n, v => (∃ x cap, v = .slice x n cap ∧ n ≤ cap ∧ (0 < n → ∃ B off, x = some ⟨B, off, none⟩)) ∧ ∃ N', g.T t = some (N', 0) ∧ N ≤ N' ∧ (N = N' → View (g.hd t) N k o n v)
  | .eref t k N j off, v => (∃ B o, v = .pointer (some ⟨B, o, none⟩)) ∧ ∃ N', g.T t = some (N', 0) ∧ N ≤ N' ∧ (N = N' → ViewA (g.hd t) N (j * k + off) v)
  | .ub e, v => ∃ b : Bool, v = .bool b ∧ (b = true → e = true)
  | .agg _, _ => False
  | .tup _, _ => False
  | p, v => RelD g.S g.w p v
def RelC (g : GG) (p : PV) (v : Value) : Prop := Rel1 g p v ∧ v.oneCell' = true
/-- One cell, or an aggregate of cells. -/
def RelA (g : GG) : PV → Value → Prop
  | .agg cs, v => ∃ arr : Array Value, v = .agg arr ∧ All2 (RelC g) cs arr.toList
  | p, v => Rel1 g p v
def Rel (g : GG) : PV → Value → Prop
  | .tup vs, v => ∃ arr : Array Value, v = .tuple arr ∧ All2 (RelA g) vs arr.toList
  | p, v => RelA g p v

/-- All that was said of values stays true. -/
structure GLe (g g' : GG) : Prop where
  S : ∀ B o, g.S B o → g'.S B o
  cell : ∀ B o, g.S B o → g'.w.cell? ⟨B, o, none⟩ = g.w.cell? ⟨B, o, none⟩
  blk : ∀ B, (∀ o, g.S B o) → g'.w.heap[B]? = g.w.heap[B]?
  obj : ∀ l ob, g.H l = some ob → g'.φ l = g.φ l ∧ ∃ ob', g'.H l = some ob' ∧ ∀ cs, ob = .cells cs → ∃ cs', ob' = .cells cs' ∧ cs'.length = cs.length
  tok : ∀ t n k, g.T t = some (n, k) → ∃ n', g'.T t = some (n', k) ∧ n ≤ n' ∧ (n' = n → g'.hd t = g.hd t)
section gle
variable {g g' : GG}
theorem GLe.refl (g : GG) : GLe g g := ⟨fun _ _ h => h, fun _ _ _ => rfl, fun _ _ => rfl, fun _ ob h => ⟨rfl, ob, h, fun cs e => ⟨cs, e, rfl⟩⟩, fun _ n _ h => ⟨n, h, Nat.le_refl _, fun _ => rfl⟩⟩
theorem GLe.live (hg : GLe g g') {l : Nat} (h : (g.H l).isSome = true) : g'.φ l = g.φ l ∧ (g'.H l).isSome = true := by
  obtain ⟨ob, hob⟩ := Option.isSome_iff_exists.1 h
  obtain ⟨h1, ob', h2, _⟩ := hg.obj l ob hob
  exact ⟨h1, by rw [h2]; rfl⟩
theorem Rel0.mono (hg : GLe g g') : ∀ (p : PV) (v : Value), Rel0 g p v → Rel0 g' p v := by
  intro p v h
  cases p <;> simp only [Rel0] at h ⊢
  case ref l off => exact ⟨by rw [(hg.live h.2).1]; exact h.1, (hg.live h.2).2⟩
  all_goals exact h.mono hg.S hg.cell hg.blk
theorem Rel1.mono (hg : GLe g g') : ∀ (p : PV) (v : Value), Rel1 g p v → Rel1 g' p v := by
  intro p v h
  cases p
  case lst o k b xss =>
    cases o
    case own t =>
      simp only [Rel1] at h ⊢
      obtain ⟨h1, n, h2, h3, h4⟩ := h
      obtain ⟨n', e1, e2, e3⟩ := hg.tok t n k h2
      exact ⟨h1.mono hg.S hg.cell hg.blk, n', e1, by omega, fun e => by rw [h4 (by omega), e3 (by omega)]⟩
    all_goals (simp only [Rel1] at h ⊢; exact h.mono hg.S hg.cell hg.blk)
  all_goals simp only [Rel1] at h ⊢
  case ref l off => exact ⟨by rw [(hg.live h.2).1]; exact h.1, (hg.live h.2).2⟩
  case mp l => exact ⟨by rw [(hg.live h.2).1]; exact h.1, (hg.live h.2).2⟩
  case ub => exact h
  case sl l o len k b =>
    obtain ⟨h1, cs, h2, h3⟩ := h
    obtain ⟨e1, ob', e2, e3⟩ := hg.obj l _ h2
    obtain ⟨cs', rfl, e4⟩ := e3 cs rfl
    exact ⟨by rw [e1]; exact h1, cs', e2, by omega⟩
  case fn f caps =>
    obtain ⟨arr, h1, h2⟩ := h
    exact ⟨arr, h1, h2.mono (Rel0.mono hg)⟩
  case ex t k b N o n =>
    obtain ⟨h0, N', h2, h3, h4⟩ := h
    obtain ⟨N2, e1, e2, e3⟩ := hg.tok t N' 0 h2
    exact ⟨h0, N2, e1, by omega, fun e => by rw [e3 (by omega)]; exact h4 (by omega)⟩
  case eref t k N j off =>
    obtain ⟨h0, N', h2, h3, h4⟩ := h
    obtain ⟨N2, e1, e2, e3⟩ := hg.tok t N' 0 h2
    exact ⟨h0, N2, e1, by omega, fun e => by rw [e3 (by omega)]; exact h4 (by omega)⟩
  all_goals exact h.mono hg.S hg.cell hg.blk
theorem RelC.mono (hg : GLe g g') (p : PV) (v : Value) (h : RelC g p v) : RelC g' p v := ⟨h.1.mono hg, h.2⟩
theorem RelA.mono (hg : GLe g g') : ∀ (p : PV) (v : Value), RelA g p v → RelA g' p v := by
  intro p v h
  cases p
  case agg cs =>
    simp only [RelA] at h ⊢
    obtain ⟨arr, h1, h2⟩ := h
    exact ⟨arr, h1, h2.mono (RelC.mono hg)⟩
  all_goals (simp only [RelA] at h ⊢; exact h.mono hg)
theorem Rel.mono (hg : GLe g g') : ∀ (p : PV) (v : Value), Rel g p v → Rel g' p v := by
  intro p v h
  cases p
  case tup vs =>
    simp only [Rel] at h ⊢
    obtain ⟨arr, h1, h2⟩ := h
    exact ⟨arr, h1, h2.mono (RelA.mono hg)⟩
  all_goals (simp only [Rel] at h ⊢; exact h.mono hg)
end gle

/-- Data are values in every state over that memory. -/
theorem Rel1.of_data {g : GG} {p : PV} {v : Value} (h : RelD g.S g.w p v) (hp : p.one = true) : Rel1 g p v := by
  cases p
  case lst o k b xss =>
    cases o
    case own t => simp [RelD] at h
    all_goals exact h
  case fn f caps =>
    simp only [RelD] at h
    obtain ⟨arr, h1, h2⟩ := h
    refine ⟨arr, h1, ((relDs_iff _ _).1 h2).mono fun x y hxy => ?_⟩
    cases x <;> simp only [Rel0] <;> first | exact hxy | (simp only [RelD] at hxy)
  case any => simp [PV.one] at hp
  case agg => simp [PV.one] at hp
  case tup => simp [PV.one] at hp
  all_goals first | exact h | (simp only [RelD] at h)
theorem Rel1.oneCell {g : GG} {p : PV} {v : Value} (h : Rel1 g p v) (hp : p.one = true) : v.oneCell' = true ∧ v.cells = #[v] := by
  cases p
  case lst o k b xss =>
    cases o
    case own t => exact h.1.oneCell rfl
    all_goals exact RelD.oneCell (S := g.S) (w := g.w) h rfl
  case any => simp [PV.one] at hp
  case agg => simp [PV.one] at hp
  case tup => simp [PV.one] at hp
  case ref => obtain ⟨rfl, _⟩ := h; exact ⟨rfl, rfl⟩
  case mp => obtain ⟨rfl, _⟩ := h; exact ⟨rfl, rfl⟩
  case ub => obtain ⟨_, rfl, _⟩ := h; exact ⟨rfl, rfl⟩
  case sl => obtain ⟨⟨_, _, rfl, _⟩, _⟩ := h; exact ⟨rfl, rfl⟩
  case fn => obtain ⟨_, rfl, _⟩ := h; exact ⟨rfl, rfl⟩
  case ex => obtain ⟨⟨_, _, rfl, _⟩, _⟩ := h; exact ⟨rfl, rfl⟩
  case eref => obtain ⟨⟨_, _, rfl⟩, _⟩ := h; exact ⟨rfl, rfl⟩
  all_goals exact RelD.oneCell (S := g.S) (w := g.w) h rfl
end PM
