import Derived.Below
import Derived.Deep.MidRow
import Derived.Deep.AppendSrc
import Derived.Laws.StructEq
import Derived.Laws.Cover1
/-
  THE PURE MACHINE, A: values without memory (PV), the relation between them and the model's values, states, and what is kept while code runs (Inv). No project text. Nothing here is trusted.
-/
namespace PM
open Go Go.RowKit

/-- Who may append to a list in place. -/
inductive Own where
  | frozen | full | own (t : Nat)
  deriving DecidableEq

/-- Pure values. ub: a truth value, e holds if it is true. fmp: a map that will not change any more, its keys and values. ifp: an interface that holds a structure of data. A list holds its elements, each a list of cells. ex: elements o.. (n of them) of the list that only token t holds, when it had N elements; eref: the address of cell off of its element j (of k cells). -/
inductive PV where
  | any
  | int (k : IntKind) (n : Int)
  | bool (b : Bool)
  | str (s : ByteArray)
  | nil
  | agg (cs : List PV)
  | tup (vs : List PV)
  | lst (o : Own) (k b : Nat) (xss : List (List PV))
  | ref (l off : Nat)
  | sl (l o len k b : Nat)
  | cptr (cs : List PV)
  | gptr (g off : Nat)
  | fn (f : FuncId) (caps : List PV)
  | mp (l : Nat)
  | ex (t k b N o n : Nat)
  | eref (t k N j off : Nat)
  | fmp (ks vs : List PV)
  | ub (e : Bool)
  | ifc (x : Option (TypeId × List (IntKind × Int)))
  | ifp (t : TypeId) (cs : List PV)

def PV.one : PV → Bool
  | .any | .agg _ | .tup _ => false
  | _ => true
def PV.cells : PV → List PV
  | .agg cs => cs
  | p => [p]

/-- A block of the call's own: a variable (or a made slice), or a map. mapo: a map of lists that may grow in place: entry i's list is that of token tk i. -/
inductive PObj where
  | cells (cs : List PV)
  | map (es : List (PV × PV))
  | iter (s : ByteArray) (pos : Nat)
  | miter (ks vs : List PV) (left : List Nat) (cur : Option Nat)
  | mapo (es : List (PV × List (List PV))) (k b : Nat) (tk : Nat → Nat)

/-- The cells of memory that will never change any more. -/
abbrev Cells := Nat → Nat → Prop

/-- Two lists of one length, related place by place. -/
def All2 {α β : Type} (R : α → β → Prop) (xs : List α) (ys : List β) : Prop :=
  xs.length = ys.length ∧ ∀ (i : Nat) (x : α) (y : β), xs[i]? = some x → ys[i]? = some y → R x y

section all2
variable {α β : Type} {R R' : α → β → Prop} {xs xs' : List α} {ys ys' : List β}
theorem All2.nil : All2 R [] [] := ⟨rfl, fun i x y h => by simp at h⟩
theorem All2.mono (h : All2 R xs ys) (hr : ∀ x y, R x y → R' x y) : All2 R' xs ys := ⟨h.1, fun i x y hx hy => hr _ _ (h.2 i x y hx hy)⟩
theorem All2.left (h : All2 R xs ys) {i : Nat} {y : β} (hy : ys[i]? = some y) : ∃ x, xs[i]? = some x ∧ R x y := by
  have hi : i < xs.length := by rw [h.1]; exact (List.getElem?_eq_some_iff.1 hy).1
  exact ⟨xs[i], List.getElem?_eq_getElem hi, h.2 i _ _ (List.getElem?_eq_getElem hi) hy⟩
theorem All2.right (h : All2 R xs ys) {i : Nat} {x : α} (hx : xs[i]? = some x) : ∃ y, ys[i]? = some y ∧ R x y := by
  have hi : i < ys.length := by rw [← h.1]; exact (List.getElem?_eq_some_iff.1 hx).1
  exact ⟨ys[i], List.getElem?_eq_getElem hi, h.2 i _ _ hx (List.getElem?_eq_getElem hi)⟩
theorem All2.cons {x : α} {y : β} (h : R x y) (ht : All2 R xs ys) : All2 R (x :: xs) (y :: ys) :=
  ⟨by simp [ht.1], fun i a b ha hb => by
    cases i with
    | zero => simp at ha hb; subst ha; subst hb; exact h
    | succ i => exact ht.2 i a b (by simpa using ha) (by simpa using hb)⟩
theorem All2.head {x : α} {y : β} (h : All2 R (x :: xs) (y :: ys)) : R x y := h.2 0 x y rfl rfl
theorem All2.tail {x : α} {y : β} (h : All2 R (x :: xs) (y :: ys)) : All2 R xs ys :=
  ⟨by simpa using h.1, fun i a b ha hb => h.2 (i + 1) a b (by simpa using ha) (by simpa using hb)⟩
theorem All2.cons_left {x : α} (h : All2 R (x :: xs) ys) : ∃ y ys', ys = y :: ys' ∧ R x y ∧ All2 R xs ys' := by
  cases ys with
  | nil => simp [All2] at h
  | cons y ys' => exact ⟨y, ys', rfl, h.head, h.tail⟩
theorem All2.nil_left (h : All2 R [] ys) : ys = [] := List.eq_nil_of_length_eq_zero h.1.symm
theorem All2.append (h : All2 R xs ys) (h' : All2 R xs' ys') : All2 R (xs ++ xs') (ys ++ ys') := by
  refine ⟨by simp [h.1, h'.1], fun i a b ha hb => ?_⟩
  rw [List.getElem?_append] at ha hb
  by_cases hi : i < xs.length
  · rw [if_pos hi] at ha; rw [if_pos (h.1 ▸ hi)] at hb; exact h.2 i a b ha hb
  · rw [if_neg hi] at ha; rw [if_neg (h.1 ▸ hi), ← h.1] at hb; exact h'.2 _ a b ha hb
theorem All2.take (h : All2 R xs ys) (n : Nat) : All2 R (xs.take n) (ys.take n) :=
  ⟨by simp [h.1], fun i a b ha hb => by
    rw [List.getElem?_take] at ha hb
    by_cases hi : i < n
    · rw [if_pos hi] at ha hb; exact h.2 i a b ha hb
    · rw [if_neg hi] at ha; cases ha⟩
theorem All2.drop (h : All2 R xs ys) (n : Nat) : All2 R (xs.drop n) (ys.drop n) :=
  ⟨by simp [h.1], fun i a b ha hb => by
    rw [List.getElem?_drop] at ha hb
    exact h.2 _ a b ha hb⟩
end all2

/-- One cell, or a flat aggregate. -/
def flatV : PV → Bool
  | .agg cs => cs.all PV.one
  | .tup _ => false
  | .any => false
  | _ => true
/-- A list without elements and without room. -/
def Nilish (v : Value) : Prop := v = .slice none 0 0 ∨ ∃ a, v = .slice (some a) 0 0
theorem Nilish.slice {v : Value} (h : Nilish v) {x : Option Addr} {n cap : Nat} (e : v = .slice x n cap) : n = 0 ∧ cap = 0 := by
  rcases h with q | ⟨a, q⟩ <;> (rw [q] at e; cases e; exact ⟨rfl, rfl⟩)
/-- The entries of a map have different stamps, all below the clock. -/
def BornOK (arr : Array MapEntry) (clock : Nat) : Prop := (arr.toList.map (·.born)).Nodup ∧ ∀ e ∈ arr.toList, e.born < clock
theorem BornOK.empty : BornOK #[] 0 := ⟨by simp, by simp⟩
theorem BornOK.push {arr : Array MapEntry} {clock : Nat} (h : BornOK arr clock) (k v : Value) : BornOK (arr.push { key := k, val := v, born := clock }) (clock + 1) := by
  refine ⟨?_, fun e he => ?_⟩
  · rw [Array.toList_push, List.map_append, List.nodup_append]
    refine ⟨h.1, by simp, fun a ha b hb e => ?_⟩
    obtain ⟨x, hx, rfl⟩ := List.mem_map.1 ha
    have := h.2 x hx
    simp only [List.map_cons, List.map_nil, List.mem_singleton] at hb
    omega
  · rw [Array.toList_push, List.mem_append] at he
    rcases he with he | he
    · have := h.2 e he; omega
    · rw [List.mem_singleton.1 he]; exact Nat.lt_succ_self _
theorem BornOK.modify {arr : Array MapEntry} {clock : Nat} (h : BornOK arr clock) (i : Nat) {f : MapEntry → MapEntry} (hf : ∀ e, (f e).born = e.born) : BornOK (arr.modify i f) clock := by
  have e1 : ((arr.modify i f).toList.map (·.born)) = arr.toList.map (·.born) := by
    apply List.ext_getElem?
    intro j
    rw [List.getElem?_map, List.getElem?_map, Array.getElem?_toList, Array.getElem?_toList, Array.getElem?_modify]
    by_cases hij : i = j
    · rw [if_pos hij]
      cases arr[j]? with
      | none => rfl
      | some x => simp [hf]
    · rw [if_neg hij]
  refine ⟨e1 ▸ h.1, fun e he => ?_⟩
  have : e.born ∈ arr.toList.map (·.born) := e1 ▸ List.mem_map_of_mem he
  obtain ⟨x, hx, hxe⟩ := List.mem_map.1 this
  rw [← hxe]; exact h.2 x hx
theorem BornOK.erase {arr : Array MapEntry} {clock : Nat} (h : BornOK arr clock) (i : Nat) : BornOK (arr.eraseIdxIfInBounds i) clock := by
  have e1 : (arr.eraseIdxIfInBounds i).toList = arr.toList.eraseIdx i := by simp
  refine ⟨?_, fun e he => h.2 e ((List.eraseIdx_sublist _ _).subset (e1 ▸ he))⟩
  rw [e1]
  exact h.1.sublist ((List.eraseIdx_sublist _ _).map _)
/-- Draws only go on. -/
def DR (_ _ : World) : Prop := True
theorem DR.refl (w : World) : DR w w := by first | exact trivial | exact Nat.le_refl _
theorem DR.trans {a b c : World} (h : DR a b) (k : DR b c) : DR a c := by first | exact trivial | exact Nat.le_trans h k
theorem DR.of_le {a b : World} (h : a.drawn ≤ b.drawn) : DR a b := by first | exact trivial | exact h
mutual
/-- DATA: all memory that the value reaches is stable. -/
def RelD (S : Cells) (w : World) : PV → Value → Prop
  | .int k n, v => v = .int k n
  | .bool b, v => v = .bool b
  | .str s, v => v = .string s
  | .nil, v => v = .slice none 0 0
  | .agg cs, v => ∃ arr : Array Value, v = .agg arr ∧ RelDs S w cs arr.toList
  | .tup vs, v => ∃ arr : Array Value, v = .tuple arr ∧ RelDs S w vs arr.toList
  | .lst o k b xss, v => xss.length * b ≤ 140737488351232 ∧ xss.length ≤ 140737488351232 ∧ (o = .frozen ∨ o = .full) ∧ ((Nilish v ∧ xss = []) ∨ ∃ B off cap, v = .slice (some ⟨B, off, none⟩) xss.length cap ∧ xss.length ≤ cap ∧ (o = .full → cap = xss.length) ∧ RelEls S w k xss B off)
  | .cptr cs, v => ∃ B off, v = .pointer (some ⟨B, off, none⟩) ∧ RelCells S w cs B off
  | .gptr g off, v => v = .pointer (some ⟨g, off, none⟩)
  | .fn f caps, v => ∃ arr : Array Value, v = .func (.func f) #[] arr ∧ RelDs S w caps arr.toList
  | .fmp ks vs, v => vs.all flatV = true ∧ ((v = .map none ∧ ks = [] ∧ vs = []) ∨ ∃ B arr clock, v = .map (some B) ∧ (∀ o, S B o) ∧ (w.heap[B]? = some (.map arr clock) ∧ BornOK arr clock) ∧ RelDs S w ks (arr.toList.map (·.key)) ∧ RelDs S w vs (arr.toList.map (·.val)))
  | .ifp t cs, v => ∃ arr : Array Value, v = .iface t (.agg arr) ∧ RelDs S w cs arr.toList
  | _, _ => False
def RelDs (S : Cells) (w : World) : List PV → List Value → Prop
  | [], vs => vs = []
  | c :: cs, vs => ∃ v vs', vs = v :: vs' ∧ RelD S w c v ∧ RelDs S w cs vs'
def RelCells (S : Cells) (w : World) : List PV → Nat → Nat → Prop
  | [], _, _ => True
  | c :: cs, B, off => c.one = true ∧ S B off ∧ (∃ v, w.cell? ⟨B, off, none⟩ = some v ∧ RelD S w c v) ∧ RelCells S w cs B (off + 1)
def RelEls (S : Cells) (w : World) (k : Nat) : List (List PV) → Nat → Nat → Prop
  | [], _, _ => True
  | cs :: css, B, off => cs.length = k ∧ RelCells S w cs B off ∧ RelEls S w k css B (off + k)
end

mutual
theorem RelD.mono {S S' : Cells} {w w' : World} (hS : ∀ B o, S B o → S' B o) (hw : ∀ B o, S B o → w'.cell? ⟨B, o, none⟩ = w.cell? ⟨B, o, none⟩) (hm : ∀ B, (∀ o, S B o) → w'.heap[B]? = w.heap[B]?) :
    ∀ (p : PV) (v : Value), RelD S w p v → RelD S' w' p v
  | .int k n, v, h => by simpa only [RelD] using h
  | .bool b, v, h => by simpa only [RelD] using h
  | .str s, v, h => by simpa only [RelD] using h
  | .nil, v, h => by simpa only [RelD] using h
  | .gptr g off, v, h => by simpa only [RelD] using h
  | .lst o k b xss, v, h => by
    simp only [RelD] at h ⊢
    obtain ⟨h1, h2, h3, h4⟩ := h
    refine ⟨h1, h2, h3, ?_⟩
    rcases h4 with h4 | ⟨B, off, cap, e1, e2, e3, e4⟩
    · exact .inl h4
    · exact .inr ⟨B, off, cap, e1, e2, e3, RelEls.mono hS hw hm k xss B off e4⟩
  | .cptr cs, v, h => by
    simp only [RelD] at h ⊢
    obtain ⟨B, off, e1, e2⟩ := h
    exact ⟨B, off, e1, RelCells.mono hS hw hm cs B off e2⟩
  | .fn f caps, v, h => by
    simp only [RelD] at h ⊢
    obtain ⟨arr, e1, e2⟩ := h
    exact ⟨arr, e1, RelDs.mono hS hw hm caps _ e2⟩
  | .agg cs, v, h => by
    simp only [RelD] at h ⊢
    obtain ⟨arr, e1, e2⟩ := h
    exact ⟨arr, e1, RelDs.mono hS hw hm cs _ e2⟩
  | .tup cs, v, h => by
    simp only [RelD] at h ⊢
    obtain ⟨arr, e1, e2⟩ := h
    exact ⟨arr, e1, RelDs.mono hS hw hm cs _ e2⟩
  | .fmp ks vs, v, h => by
    simp only [RelD] at h ⊢
    rcases h with ⟨h0, h | ⟨B, arr, clock, e1, e2, e3, e4, e5⟩⟩
    · exact ⟨h0, .inl h⟩
    · exact ⟨h0, .inr ⟨B, arr, clock, e1, fun o => hS _ _ (e2 o), ⟨by rw [hm B e2]; exact e3.1, e3.2⟩, RelDs.mono hS hw hm ks _ e4, RelDs.mono hS hw hm vs _ e5⟩⟩
  | .ifp t cs, v, h => by
    simp only [RelD] at h ⊢
    obtain ⟨arr, e1, e2⟩ := h
    exact ⟨arr, e1, RelDs.mono hS hw hm cs _ e2⟩
  | .any, v, h => by simp only [RelD] at h
  | .ref _ _, v, h => by simp only [RelD] at h
  | .sl _ _ _ _ _, v, h => by simp only [RelD] at h
  | .mp _, v, h => by simp only [RelD] at h
  | .ex _ _ _ _ _ _, v, h => by simp only [RelD] at h
  | .eref _ _ _ _ _, v, h => by simp only [RelD] at h
  | .ub _, v, h => by simp only [RelD] at h
  | .ifc _, v, h => by simp only [RelD] at h
theorem RelDs.mono {S S' : Cells} {w w' : World} (hS : ∀ B o, S B o → S' B o) (hw : ∀ B o, S B o → w'.cell? ⟨B, o, none⟩ = w.cell? ⟨B, o, none⟩) (hm : ∀ B, (∀ o, S B o) → w'.heap[B]? = w.heap[B]?) :
    ∀ (cs : List PV) (vs : List Value), RelDs S w cs vs → RelDs S' w' cs vs
  | [], vs, h => by simpa only [RelDs] using h
  | c :: cs, vs, h => by
    simp only [RelDs] at h ⊢
    obtain ⟨v, vs', e, h1, h2⟩ := h
    exact ⟨v, vs', e, RelD.mono hS hw hm c v h1, RelDs.mono hS hw hm cs vs' h2⟩
theorem RelCells.mono {S S' : Cells} {w w' : World} (hS : ∀ B o, S B o → S' B o) (hw : ∀ B o, S B o → w'.cell? ⟨B, o, none⟩ = w.cell? ⟨B, o, none⟩) (hm : ∀ B, (∀ o, S B o) → w'.heap[B]? = w.heap[B]?) :
    ∀ (cs : List PV) (B off : Nat), RelCells S w cs B off → RelCells S' w' cs B off
  | [], B, off, _ => by simp only [RelCells]
  | c :: cs, B, off, h => by
    simp only [RelCells] at h ⊢
    obtain ⟨ho, h0, ⟨v, h1, h2⟩, h3⟩ := h
    exact ⟨ho, hS _ _ h0, ⟨v, by rw [hw _ _ h0]; exact h1, RelD.mono hS hw hm c v h2⟩, RelCells.mono hS hw hm cs B (off + 1) h3⟩
theorem RelEls.mono {S S' : Cells} {w w' : World} (hS : ∀ B o, S B o → S' B o) (hw : ∀ B o, S B o → w'.cell? ⟨B, o, none⟩ = w.cell? ⟨B, o, none⟩) (hm : ∀ B, (∀ o, S B o) → w'.heap[B]? = w.heap[B]?) (k : Nat) :
    ∀ (css : List (List PV)) (B off : Nat), RelEls S w k css B off → RelEls S' w' k css B off
  | [], B, off, _ => by simp only [RelEls]
  | cs :: css, B, off, h => by
    simp only [RelEls] at h ⊢
    exact ⟨h.1, RelCells.mono hS hw hm cs B off h.2.1, RelEls.mono hS hw hm k css B (off + k) h.2.2⟩
end
/-- The cells of a package table: its data, and nothing behind them. -/
def RelTab (S : Cells) (w : World) (cs : List PV) (i : Nat) : Prop := RelCells S w cs i 0 ∧ S i cs.length ∧ w.cell? ⟨i, cs.length, none⟩ = none
theorem RelTab.mono {S S' : Cells} {w w' : World} {cs : List PV} {i : Nat} (h : RelTab S w cs i) (hS : ∀ B o, S B o → S' B o) (hw : ∀ B o, S B o → w'.cell? ⟨B, o, none⟩ = w.cell? ⟨B, o, none⟩) (hm : ∀ B, (∀ o, S B o) → w'.heap[B]? = w.heap[B]?) : RelTab S' w' cs i :=
  ⟨RelCells.mono hS hw hm cs i 0 h.1, hS _ _ h.2.1, by rw [hw _ _ h.2.1]; exact h.2.2⟩

section data
variable {S : Cells} {w : World}
theorem relDs_iff : ∀ (cs : List PV) (vs : List Value), RelDs S w cs vs ↔ All2 (RelD S w) cs vs
  | [], vs => by
    simp only [RelDs]
    exact ⟨fun h => by subst h; exact .nil, fun h => h.nil_left⟩
  | c :: cs, vs => by
    simp only [RelDs]
    constructor
    · rintro ⟨v, vs', rfl, h1, h2⟩
      exact .cons h1 ((relDs_iff cs vs').1 h2)
    · intro h
      obtain ⟨v, vs', rfl, h1, h2⟩ := h.cons_left
      exact ⟨v, vs', rfl, h1, (relDs_iff cs vs').2 h2⟩
theorem relCells_iff : ∀ (cs : List PV) (B off : Nat), RelCells S w cs B off ↔
    ∀ (i : Nat) (c : PV), cs[i]? = some c → c.one = true ∧ S B (off + i) ∧ ∃ v, w.cell? ⟨B, off + i, none⟩ = some v ∧ RelD S w c v
  | [], B, off => by simp [RelCells]
  | c :: cs, B, off => by
    simp only [RelCells, relCells_iff cs B (off + 1)]
    constructor
    · rintro ⟨h0, h1, h2, h3⟩ i c' hc
      cases i with
      | zero => simp at hc; subst hc; exact ⟨h0, h1, h2⟩
      | succ i =>
        have := h3 i c' (by simpa using hc)
        rwa [show off + 1 + i = off + (i + 1) by omega] at this
    · intro h
      have h0 := h 0 c rfl
      refine ⟨h0.1, h0.2.1, h0.2.2, fun i c' hc => ?_⟩
      have := h (i + 1) c' (by simpa using hc)
      rwa [show off + (i + 1) = off + 1 + i by omega] at this
theorem relEls_iff (k : Nat) : ∀ (css : List (List PV)) (B off : Nat), RelEls S w k css B off ↔
    ∀ (i : Nat) (cs : List PV), css[i]? = some cs → cs.length = k ∧ RelCells S w cs B (off + i * k)
  | [], B, off => by simp [RelEls]
  | cs :: css, B, off => by
    simp only [RelEls, relEls_iff k css B (off + k)]
    constructor
    · rintro ⟨h0, h1, h2⟩ i c' hc
      cases i with
      | zero => simp at hc; subst hc; simpa using ⟨h0, h1⟩
      | succ i =>
        have := h2 i c' (by simpa using hc)
        rwa [show off + k + i * k = off + (i + 1) * k by rw [Nat.succ_mul]; omega] at this
    · intro h
      have h0 := h 0 cs rfl
      simp only [Nat.zero_mul, Nat.add_zero] at h0
      refine ⟨h0.1, h0.2, fun i c' hc => ?_⟩
      have := h (i + 1) c' (by simpa using hc)
      rwa [show off + (i + 1) * k = off + k + i * k by rw [Nat.succ_mul]; omega] at this
theorem RelD.oneCell {p : PV} {v : Value} (h : RelD S w p v) (hp : p.one = true) : v.oneCell' = true ∧ v.cells = #[v] := by
  cases p <;> simp only [RelD, PV.one] at h hp <;> try cases hp
  case fmp => obtain ⟨_, ⟨rfl, _⟩ | ⟨_, _, _, rfl, _⟩⟩ := h <;> exact ⟨rfl, rfl⟩
  all_goals first
    | (subst h; exact ⟨rfl, rfl⟩)
    | (obtain ⟨_, _, _, ⟨rfl | ⟨_, rfl⟩, _⟩ | ⟨_, _, _, rfl, _⟩⟩ := h <;> exact ⟨rfl, rfl⟩)
    | (obtain ⟨_, _, rfl, _⟩ := h; exact ⟨rfl, rfl⟩)
    | (obtain ⟨_, rfl, _⟩ := h; exact ⟨rfl, rfl⟩)
    | exact h.elim
/-- The cells of consecutive elements, as one row. -/
theorem RelEls.cells {k : Nat} {css : List (List PV)} {B off : Nat} (h : RelEls S w k css B off) : RelCells S w css.flatten B off ∧ css.flatten.length = css.length * k := by
  induction css generalizing off with
  | nil => simp [RelCells]
  | cons cs css ih =>
    simp only [RelEls] at h
    obtain ⟨h1, h2, h3⟩ := h
    obtain ⟨i1, i2⟩ := ih h3
    refine ⟨?_, by simp [h1, i2, Nat.succ_mul]; omega⟩
    rw [relCells_iff] at h2 i1 ⊢
    intro i c hc
    rw [List.flatten_cons, List.getElem?_append] at hc
    by_cases hi : i < cs.length
    · rw [if_pos hi] at hc; exact h2 i c hc
    · rw [if_neg hi] at hc
      have := i1 _ c hc
      rwa [show off + k + (i - cs.length) = off + i by omega] at this
theorem RelCells.values {cs : List PV} {B off : Nat} (h : RelCells S w cs B off) : ∃ vs : List Value, All2 (RelD S w) cs vs ∧ (∀ j v, vs[j]? = some v → w.cell? ⟨B, off + j, none⟩ = some v) ∧ ∀ v ∈ vs, v.oneCell' = true := by
  induction cs generalizing off with
  | nil => exact ⟨[], .nil, by simp, by simp⟩
  | cons c cs ih =>
    simp only [RelCells] at h
    obtain ⟨h0, h1, ⟨v, h2, h3⟩, h4⟩ := h
    obtain ⟨vs, i1, i2, i3⟩ := ih h4
    refine ⟨v :: vs, .cons h3 i1, fun j u hu => ?_, fun u hu => ?_⟩
    · cases j with
      | zero => simp at hu; subst hu; exact h2
      | succ j =>
        have := i2 j u (by simpa using hu)
        rwa [show off + 1 + j = off + (j + 1) by omega] at this
    · rcases List.mem_cons.1 hu with rfl | hu
      · exact (h3.oneCell h0).1
      · exact i3 u hu
end data

/-- An entry of a map. -/
def RelE (S : Cells) (w : World) (e : PV × PV) (m : MapEntry) : Prop := RelD S w e.1 m.key ∧ RelD S w e.2 m.val ∧ flatV e.2 = true

/-- The block of a slice with room. -/
def HB (hv : Value) (B : Nat) : Prop := ∃ off m cap, hv = .slice (some ⟨B, off, none⟩) m cap ∧ 0 < cap
/-- How things were when the body began: the stable cells, and the elder blocks that it may write (of which labels); values that are laid aside (St), calls that are deferred (D). -/
structure Bs where
  S : Cells
  F : Nat → Nat → Prop
  FT : Nat → Value → Nat → Prop := fun _ _ _ => False
  St : List Value := []
  D : List Deferred := []
def Bs.E (b : Bs) (B : Nat) : Prop := (∃ l, b.F l B) ∨ ∃ t v n, b.FT t v n ∧ ∃ off m cap, v = .slice (some ⟨B, off, none⟩) m cap ∧ 0 < cap
/-- Below block B nothing has changed; draws only go on. -/
structure BelowD (B : Nat) (w w' : World) : Prop extends Below B w w' where
  dr : DR w w'
theorem BelowD.refl (B : Nat) (w : World) : BelowD B w w := ⟨Below.refl B w, DR.refl _⟩
theorem BelowD.drew {B : Nat} {w w' : World} (h : BelowD B w w') : BelowD B w w'.drew := ⟨h.toBelow.drew, h.dr.trans (.of_le (Nat.le_succ _))⟩
/-- w' is w, but for the blocks of E, and grown. -/
structure BelowE (E : Nat → Prop) (w w' : World) : Prop where
  os : w'.os = w.os
  tape : w'.tape = w.tape
  output : w'.output = w.output
  size : w.heap.size ≤ w'.heap.size
  block : ∀ k, k < w.heap.size → ¬ E k → w'.heap[k]? = w.heap[k]?
  dr : DR w w'
theorem BelowE.refl (E : Nat → Prop) (w : World) : BelowE E w w := ⟨rfl, rfl, rfl, Nat.le_refl _, fun _ _ _ => rfl, DR.refl _⟩
theorem BelowE.trans {E : Nat → Prop} {a b c : World} (h : BelowE E a b) (k : BelowE E b c) : BelowE E a c :=
  ⟨k.os.trans h.os, k.tape.trans h.tape, k.output.trans h.output, Nat.le_trans h.size k.size, fun i hi he => (k.block i (Nat.lt_of_lt_of_le hi h.size) he).trans (h.block i hi he), h.dr.trans k.dr⟩
theorem BelowE.ofBelow {E : Nat → Prop} {a b : World} (h : BelowD a.heap.size a b) : BelowE E a b := ⟨h.os, h.tape, h.output, h.size, fun k hk _ => h.block k hk, h.dr⟩
theorem BelowE.toBelow {E : Nat → Prop} {a b : World} (h : BelowE E a b) (hE : ∀ k, ¬ E k) : BelowD a.heap.size a b := ⟨⟨h.os, h.tape, h.output, h.size, fun k hk => h.block k hk (hE k)⟩, h.dr⟩

/-- What a state's values are held against. -/
structure GG where
  S : Cells
  w : World
  φ : Nat → Nat
  hd : Nat → Value
  H : Nat → Option PObj
  T : Nat → Option (Nat × Nat)

/-- A captured value: an address of a block of the call's own, or data. -/
def Rel0 (g : GG) : PV → Value → Prop
  | .ref l off, v => v = .pointer (some ⟨g.φ l, off, none⟩) ∧ (g.H l).isSome = true
  | p, v => RelD g.S g.w p v
/-- Elements o.. (n of them) of the list of N elements of k cells whose header is hd. -/
def View (hd : Value) (N k o n : Nat) (v : Value) : Prop :=
  (v = hd ∧ N = 0 ∧ o = 0 ∧ n = 0) ∨ ∃ B cap off, hd = .slice (some ⟨B, 0, none⟩) N cap ∧ 0 < cap ∧ N ≤ cap ∧ o + n ≤ N ∧ v = .slice (some ⟨B, off, none⟩) n (cap - o) ∧ (off = o * k ∨ cap - o = 0)
def ViewA (hd : Value) (N o : Nat) (v : Value) : Prop := ∃ B cap, hd = .slice (some ⟨B, 0, none⟩) N cap ∧ v = .pointer (some ⟨B, o, none⟩)
/-- An interface: nil, or a type and numbers. -/
def ifcV : Option (TypeId × List (IntKind × Int)) → Value
  | none => .nilIface
  | some (t, cs) => .iface t (.agg (cs.map fun x => Value.int x.1 x.2).toArray)
/-- One cell. -/
def Rel1 (g : GG) : PV → Value → Prop
  | .any, _ => True
  | .lst (.own t) k b xss, v => RelD g.S g.w (.lst .frozen k b xss) v ∧ ∃ n, g.T t = some (n, k) ∧ xss.length ≤ n ∧ (xss.length = n → v = g.hd t)
  | .ref l off, v => v = .pointer (some ⟨g.φ l, off, none⟩) ∧ (g.H l).isSome = true
  | .mp l, v => v = .map (some (g.φ l)) ∧ (g.H l).isSome = true
  | .sl l o len k _, v => (∃ off cap, v = .slice (some ⟨g.φ l, off, none⟩) len cap ∧ len ≤ cap ∧ (off = o * k ∨ len = 0)) ∧ ∃ cs, g.H l = some (.cells cs) ∧ (o + len) * k ≤ cs.length
  | .fn f caps, v => ∃ arr : Array Value, v = .func (.func f) #[] arr ∧ All2 (Rel0 g) caps arr.toList
  | .ex t k _ N o n, v => (∃ x cap, v = .slice x n cap ∧ n ≤ cap ∧ (0 < n → ∃ B off, x = some ⟨B, off, none⟩)) ∧ ∃ N', g.T t = some (N', 0) ∧ N ≤ N' ∧ (N = N' → View (g.hd t) N k o n v)
  | .eref t k N j off, v => (∃ B o, v = .pointer (some ⟨B, o, none⟩)) ∧ ∃ N', g.T t = some (N', 0) ∧ N ≤ N' ∧ (N = N' → ViewA (g.hd t) N (j * k + off) v)
  | .ub e, v => ∃ b : Bool, v = .bool b ∧ (b = true → e = true)
  | .ifc x, v => v = ifcV x
  | .agg _, _ => False
  | .tup _, _ => False
  | p, v => RelD g.S g.w p v
def RelC (g : GG) (p : PV) (v : Value) : Prop := Rel1 g p v ∧ v.oneCell' = true
/-- One cell, or an aggregate of cells. -/
def RelA (g : GG) : PV → Value → Prop
  | .agg cs, v => ∃ arr : Array Value, v = .agg arr ∧ All2 (RelC g) cs arr.toList
  | p, v => Rel1 g p v
def Rel (g : GG) : PV → Value → Prop
  | .tup vs, v => ∃ arr : Array Value, v = .tuple arr ∧ All2 (RelA g) vs arr.toList
  | p, v => RelA g p v

/-- All that was said of values stays true. -/
structure GLe (g g' : GG) : Prop where
  S : ∀ B o, g.S B o → g'.S B o
  cell : ∀ B o, g.S B o → g'.w.cell? ⟨B, o, none⟩ = g.w.cell? ⟨B, o, none⟩
  blk : ∀ B, (∀ o, g.S B o) → g'.w.heap[B]? = g.w.heap[B]?
  obj : ∀ l ob, g.H l = some ob → g'.φ l = g.φ l ∧ ∃ ob', g'.H l = some ob' ∧ ∀ cs, ob = .cells cs → ∃ cs', ob' = .cells cs' ∧ cs'.length = cs.length
  tok : ∀ t n k, g.T t = some (n, k) → ∃ n', g'.T t = some (n', k) ∧ n ≤ n' ∧ (n' = n → g'.hd t = g.hd t)
section gle
variable {g g' : GG}
theorem GLe.refl (g : GG) : GLe g g := ⟨fun _ _ h => h, fun _ _ _ => rfl, fun _ _ => rfl, fun _ ob h => ⟨rfl, ob, h, fun cs e => ⟨cs, e, rfl⟩⟩, fun _ n _ h => ⟨n, h, Nat.le_refl _, fun _ => rfl⟩⟩
theorem GLe.live (hg : GLe g g') {l : Nat} (h : (g.H l).isSome = true) : g'.φ l = g.φ l ∧ (g'.H l).isSome = true := by
  obtain ⟨ob, hob⟩ := Option.isSome_iff_exists.1 h
  obtain ⟨h1, ob', h2, _⟩ := hg.obj l ob hob
  exact ⟨h1, by rw [h2]; rfl⟩
theorem Rel0.mono (hg : GLe g g') : ∀ (p : PV) (v : Value), Rel0 g p v → Rel0 g' p v := by
  intro p v h
  cases p <;> simp only [Rel0] at h ⊢
  case ref l off => exact ⟨by rw [(hg.live h.2).1]; exact h.1, (hg.live h.2).2⟩
  all_goals exact h.mono hg.S hg.cell hg.blk
theorem Rel1.mono (hg : GLe g g') : ∀ (p : PV) (v : Value), Rel1 g p v → Rel1 g' p v := by
  intro p v h
  cases p
  case lst o k b xss =>
    cases o
    case own t =>
      simp only [Rel1] at h ⊢
      obtain ⟨h1, n, h2, h3, h4⟩ := h
      obtain ⟨n', e1, e2, e3⟩ := hg.tok t n k h2
      exact ⟨h1.mono hg.S hg.cell hg.blk, n', e1, by omega, fun e => by rw [h4 (by omega), e3 (by omega)]⟩
    all_goals (simp only [Rel1] at h ⊢; exact h.mono hg.S hg.cell hg.blk)
  all_goals simp only [Rel1] at h ⊢
  case ref l off => exact ⟨by rw [(hg.live h.2).1]; exact h.1, (hg.live h.2).2⟩
  case mp l => exact ⟨by rw [(hg.live h.2).1]; exact h.1, (hg.live h.2).2⟩
  case ub => exact h
  case ifc => exact h
  case sl l o len k b =>
    obtain ⟨h1, cs, h2, h3⟩ := h
    obtain ⟨e1, ob', e2, e3⟩ := hg.obj l _ h2
    obtain ⟨cs', rfl, e4⟩ := e3 cs rfl
    exact ⟨by rw [e1]; exact h1, cs', e2, by omega⟩
  case fn f caps =>
    obtain ⟨arr, h1, h2⟩ := h
    exact ⟨arr, h1, h2.mono (Rel0.mono hg)⟩
  case ex t k b N o n =>
    obtain ⟨h0, N', h2, h3, h4⟩ := h
    obtain ⟨N2, e1, e2, e3⟩ := hg.tok t N' 0 h2
    exact ⟨h0, N2, e1, by omega, fun e => by rw [e3 (by omega)]; exact h4 (by omega)⟩
  case eref t k N j off =>
    obtain ⟨h0, N', h2, h3, h4⟩ := h
    obtain ⟨N2, e1, e2, e3⟩ := hg.tok t N' 0 h2
    exact ⟨h0, N2, e1, by omega, fun e => by rw [e3 (by omega)]; exact h4 (by omega)⟩
  all_goals exact h.mono hg.S hg.cell hg.blk
theorem RelC.mono (hg : GLe g g') (p : PV) (v : Value) (h : RelC g p v) : RelC g' p v := ⟨h.1.mono hg, h.2⟩
theorem RelA.mono (hg : GLe g g') : ∀ (p : PV) (v : Value), RelA g p v → RelA g' p v := by
  intro p v h
  cases p
  case agg cs =>
    simp only [RelA] at h ⊢
    obtain ⟨arr, h1, h2⟩ := h
    exact ⟨arr, h1, h2.mono (RelC.mono hg)⟩
  all_goals (simp only [RelA] at h ⊢; exact h.mono hg)
theorem Rel.mono (hg : GLe g g') : ∀ (p : PV) (v : Value), Rel g p v → Rel g' p v := by
  intro p v h
  cases p
  case tup vs =>
    simp only [Rel] at h ⊢
    obtain ⟨arr, h1, h2⟩ := h
    exact ⟨arr, h1, h2.mono (RelA.mono hg)⟩
  all_goals (simp only [Rel] at h ⊢; exact h.mono hg)
end gle

/-- Data are values in every state over that memory. -/
theorem Rel1.of_data {g : GG} {p : PV} {v : Value} (h : RelD g.S g.w p v) (hp : p.one = true) : Rel1 g p v := by
  cases p
  case lst o k b xss =>
    cases o
    case own t => simp [RelD] at h
    all_goals exact h
  case fn f caps =>
    simp only [RelD] at h
    obtain ⟨arr, h1, h2⟩ := h
    refine ⟨arr, h1, ((relDs_iff _ _).1 h2).mono fun x y hxy => ?_⟩
    cases x <;> simp only [Rel0] <;> first | exact hxy | (simp only [RelD] at hxy)
  case any => simp [PV.one] at hp
  case agg => simp [PV.one] at hp
  case tup => simp [PV.one] at hp
  all_goals first | exact h | (simp only [RelD] at h)
theorem Rel1.oneCell {g : GG} {p : PV} {v : Value} (h : Rel1 g p v) (hp : p.one = true) : v.oneCell' = true ∧ v.cells = #[v] := by
  cases p
  case lst o k b xss =>
    cases o
    case own t => exact h.1.oneCell rfl
    all_goals exact RelD.oneCell (S := g.S) (w := g.w) h rfl
  case any => simp [PV.one] at hp
  case agg => simp [PV.one] at hp
  case tup => simp [PV.one] at hp
  case ref => obtain ⟨rfl, _⟩ := h; exact ⟨rfl, rfl⟩
  case mp => obtain ⟨rfl, _⟩ := h; exact ⟨rfl, rfl⟩
  case ub => obtain ⟨_, rfl, _⟩ := h; exact ⟨rfl, rfl⟩
  case ifc x => simp only [Rel1] at h; subst h; cases x <;> exact ⟨rfl, rfl⟩
  case sl => obtain ⟨⟨_, _, rfl, _⟩, _⟩ := h; exact ⟨rfl, rfl⟩
  case fn => obtain ⟨_, rfl, _⟩ := h; exact ⟨rfl, rfl⟩
  case ex => obtain ⟨⟨_, _, rfl, _⟩, _⟩ := h; exact ⟨rfl, rfl⟩
  case eref => obtain ⟨⟨_, _, rfl⟩, _⟩ := h; exact ⟨rfl, rfl⟩
  all_goals exact RelD.oneCell (S := g.S) (w := g.w) h rfl
end PM
/-
  THE PURE MACHINE, B: states, what is kept while code runs (Inv), and how it is kept when memory grows.
-/
namespace PM
open Go Go.RowKit

def upd {α : Type} (f : Nat → Option α) (i : Nat) (a : Option α) : Nat → Option α := fun j => if j = i then a else f j
theorem upd_same {α : Type} (f : Nat → Option α) (i : Nat) (a : Option α) : upd f i a i = a := by simp [upd]
theorem upd_other {α : Type} (f : Nat → Option α) (i j : Nat) (a : Option α) (h : j ≠ i) : upd f i a j = f j := by simp [upd, h]
theorem upd_comm {α : Type} (f : Nat → Option α) (i j : Nat) (a b : Option α) (h : i ≠ j) : upd (upd f i a) j b = upd (upd f j b) i a := by
  funext x; simp only [upd]
  by_cases h1 : x = j
  · subst h1; rw [if_pos rfl, if_neg (Ne.symm h), if_pos rfl]
  · rw [if_neg h1, if_neg h1]

/-- The lists that only one token holds: cells of an element, bytes, elements. -/
abbrev XT := Nat → Option (Nat × Nat × List (List PV))
structure PSt where
  tm : List PV
  H : Nat → Option PObj
  T : Nat → Option (Nat × Nat)
  X : Nat → Option (Nat × Nat × List (List PV)) := fun _ => none
  m : Nat := 0
/-- The last m values of tm are laid aside: the code does not see them. -/
def PSt.get (s : PSt) (i : Nat) : PV :=
  match s.m with
  | 0 => s.tm.getD i .any
  | m + 1 => match decide (i + (m + 1) < s.tm.length) with
    | true => s.tm.getD i .any
    | false => .any
def PSt.put (s : PSt) (d : Option Nat) (v : PV) : PSt :=
  match d with
  | some i => match s.m with
    | 0 => { s with tm := s.tm.set i v }
    | m + 1 => match decide (i + (m + 1) < s.tm.length) with
      | true => { s with tm := s.tm.set i v }
      | false => s
  | none => s
theorem PSt.get_in (s : PSt) {i : Nat} (h : i + s.m < s.tm.length) : s.get i = s.tm.getD i .any := by
  unfold PSt.get
  split
  · rfl
  · rename_i m e
    rw [e] at h
    rw [decide_eq_true h]
theorem PSt.get_out (s : PSt) {i : Nat} (h : ¬ i + s.m < s.tm.length) : s.get i = .any := by
  unfold PSt.get
  split
  · rename_i e
    rw [e] at h
    rw [List.getD_eq_getElem?_getD, List.getElem?_eq_none (by omega)]; rfl
  · rename_i m e
    rw [e] at h
    rw [decide_eq_false h]
theorem PSt.put_in (s : PSt) {i : Nat} (v : PV) (h : i + s.m < s.tm.length) : s.put (some i) v = { s with tm := s.tm.set i v } := by
  unfold PSt.put
  simp only
  split
  · rfl
  · rename_i m e
    rw [e] at h
    rw [decide_eq_true h]
theorem PSt.put_out (s : PSt) {i : Nat} (v : PV) (h : ¬ i + s.m < s.tm.length) : s.put (some i) v = s := by
  unfold PSt.put
  simp only
  split
  · rename_i e
    rw [e] at h
    rw [List.set_eq_of_length_le (by omega)]
  · rename_i m e
    rw [e] at h
    rw [decide_eq_false h]
theorem PSt.put_m (s : PSt) (d : Option Nat) (v : PV) : (s.put d v).m = s.m := by
  cases d with
  | none => rfl
  | some i =>
    by_cases h : i + s.m < s.tm.length
    · rw [s.put_in v h]
    · rw [s.put_out v h]
theorem PSt.put_len (s : PSt) (d : Option Nat) (v : PV) : (s.put d v).tm.length = s.tm.length := by
  cases d with
  | none => rfl
  | some i =>
    by_cases h : i + s.m < s.tm.length
    · rw [s.put_in v h]; simp
    · rw [s.put_out v h]
theorem PSt.put_H (s : PSt) (d : Option Nat) (v : PV) : (s.put d v).H = s.H ∧ (s.put d v).T = s.T ∧ (s.put d v).X = s.X := by
  cases d with
  | none => exact ⟨rfl, rfl, rfl⟩
  | some i =>
    by_cases h : i + s.m < s.tm.length
    · rw [s.put_in v h]; exact ⟨rfl, rfl, rfl⟩
    · rw [s.put_out v h]; exact ⟨rfl, rfl, rfl⟩

/-- An iterator over a map that will not change any more: the places of the entries that are left, and the place of the entry that came last. -/
def MIter (S : Cells) (w : World) (B : Nat) (ks vs : List PV) (left : List Nat) (cur : Option Nat) : Prop :=
  (w.heap[B]? = some (.mapIter none 0 #[] 0) ∧ left = [] ∧ cur = none) ∨ ∃ bm arr clock seen, w.heap[B]? = some (.mapIter (some bm) clock seen clock) ∧ (∀ o, S bm o) ∧ (w.heap[bm]? = some (.map arr clock) ∧ BornOK arr clock) ∧
    RelDs S w ks (arr.toList.map (·.key)) ∧ RelDs S w vs (arr.toList.map (·.val)) ∧ (∀ (i : Nat) (e : MapEntry), arr[i]? = some e → (i ∈ left ↔ seen.contains e.born = false)) ∧ (∀ i ∈ left, i < arr.size) ∧ left.Nodup ∧
    ∀ i, cur = some i → ∃ (e : MapEntry) (seen' : Array Nat), arr[i]? = some e ∧ seen = seen'.push e.born
theorem MIter.mono {S S' : Cells} {w w' : World} {B : Nat} {ks vs : List PV} {left : List Nat} {cur : Option Nat} (h : MIter S w B ks vs left cur) (hS : ∀ B o, S B o → S' B o) (hw : ∀ B o, S B o → w'.cell? ⟨B, o, none⟩ = w.cell? ⟨B, o, none⟩) (hm : ∀ B, (∀ o, S B o) → w'.heap[B]? = w.heap[B]?)
    (hB : ∀ x : Obj, w.heap[B]? = some x → w'.heap[B]? = some x) : MIter S' w' B ks vs left cur := by
  rcases h with ⟨h1, h2⟩ | ⟨bm, arr, clock, seen, h1, h2, h3, h4, h5, h6⟩
  · exact .inl ⟨hB _ h1, h2⟩
  · exact .inr ⟨bm, arr, clock, seen, hB _ h1, fun o => hS _ _ (h2 o), ⟨by rw [hm bm h2]; exact h3.1, h3.2⟩, RelDs.mono hS hw hm _ _ h4, RelDs.mono hS hw hm _ _ h5, h6⟩
/-- A block of the call's own, at block number B. -/
def ObjOK (g : GG) (B : Nat) : PObj → Prop
  | .cells cs => ∃ vs : List Value, All2 (RelC g) cs vs ∧ g.w.rangeAt B 0 vs ∧ g.w.there B 0 vs.length
  | .map es => ∃ arr clock, (g.w.heap[B]? = some (.map arr clock) ∧ BornOK arr clock) ∧ All2 (RelE g.S g.w) es arr.toList
  | .iter b pos => g.w.heap[B]? = some (.stringIter b pos)
  | .miter ks vs left cur => MIter g.S g.w B ks vs left cur
  | .mapo es k b tk => k ≠ 0 ∧ ∃ arr clock, (g.w.heap[B]? = some (.map arr clock) ∧ BornOK arr clock) ∧ arr.size = es.length ∧ ∀ (i : Nat) (e : PV × List (List PV)) (m : MapEntry), es[i]? = some e → arr[i]? = some m → RelD g.S g.w e.1 m.key ∧ Rel1 g (.lst (.own (tk i)) k b e.2) m.val
/-- The block in which the list of token t lies: no other token's list lies there. -/
def Room (n k cap : Nat) : Prop := n < cap ∨ (k = 0 ∧ 0 < cap)
theorem Room.pos {n k cap : Nat} (h : Room n k cap) : 0 < cap := by rcases h with h | ⟨_, h⟩ <;> omega
theorem Room.zero {n cap : Nat} (h : 0 < cap) : Room n 0 cap := .inr ⟨rfl, h⟩
theorem Room.of_lt {n k cap : Nat} (h : n < cap) : Room n k cap := .inl h
def Spare (g : GG) (t B : Nat) : Prop := ∃ n k off cap, g.T t = some (n, k) ∧ g.hd t = .slice (some ⟨B, off, none⟩) n cap ∧ Room n k cap
def OwnOK (g : GG) (base t n k : Nat) : Prop :=
  (Nilish (g.hd t) ∧ n = 0) ∨ ∃ B off cap, g.hd t = .slice (some ⟨B, off, none⟩) n cap ∧ n ≤ cap ∧
    (Room n k cap → (k ≠ 0 → base ≤ B) ∧ B < g.w.heap.size ∧ g.w.there B off (cap * k) ∧ (k ≠ 0 → ∀ o, g.S B o → o < off + n * k))
/-- The list of token t is only its own: no other value speaks of its cells. -/
def ExB (g : GG) (E : Nat → Prop) (base t k : Nat) (xss : List (List PV)) (B cap : Nat) : Prop :=
  xss.length ≤ cap ∧ (base ≤ B ∨ E B) ∧ B < g.w.heap.size ∧ (∀ o, ¬ g.S B o) ∧ (∃ vs, All2 (fun p v => RelD g.S g.w p v ∧ p.one = true) xss.flatten vs ∧ g.w.rangeAt B 0 vs) ∧ g.w.there B 0 (cap * k) ∧
    (∀ l, (g.H l).isSome = true → g.φ l ≠ B) ∧ ∀ t', Spare g t' B → t' = t
def ExOK (g : GG) (E : Nat → Prop) (base t k b : Nat) (xss : List (List PV)) : Prop :=
  g.T t = some (xss.length, 0) ∧ k ≠ 0 ∧ (∀ cs ∈ xss, cs.length = k) ∧ xss.length * b ≤ 140737488351232 ∧ xss.length ≤ 140737488351232 ∧
    ((Nilish (g.hd t) ∧ xss = []) ∨ ∃ B cap, g.hd t = .slice (some ⟨B, 0, none⟩) xss.length cap ∧ 0 < cap ∧ ExB g E base t k xss B cap)
/-- The block in which the list of token t lies. -/
def XB (X : Nat → Option (Nat × Nat × List (List PV))) (g : GG) (t B : Nat) : Prop := (X t).isSome = true ∧ ∃ off n cap, g.hd t = .slice (some ⟨B, off, none⟩) n cap ∧ 0 < cap

/-- What is kept. Gl: the package variables that are known; S0, w0: what was stable, and the world, when the body began. -/
structure InvG (Gl : Nat → Option (List PV)) (S0 : Bs) (w0 : World) (s : PSt) (a : Act) (g : GG) : Prop where
  hH : g.H = s.H
  hT : g.T = s.T
  defers : a.defers = S0.D
  len : s.tm.length = a.tmps.size + s.m ∧ S0.St.length = s.m
  tm : ∀ (i : Nat) (p : PV) (v : Value), s.tm[i]? = some p → (a.tmps.toList ++ S0.St)[i]? = some v → Rel g p v
  sub : ∀ B o, S0.S B o → g.S B o
  new : ∀ B o, g.S B o → S0.S B o ∨ w0.heap.size ≤ B ∨ S0.E B
  lt : ∀ B o, g.S B o → B < g.w.heap.size
  below : BelowE S0.E w0 g.w
  objs : ∀ l ob, g.H l = some ob → (w0.heap.size ≤ g.φ l ∨ S0.E (g.φ l)) ∧ g.φ l < g.w.heap.size ∧ (∀ o, ¬ g.S (g.φ l) o) ∧ ObjOK g (g.φ l) ob
  inj : ∀ l l', (g.H l).isSome = true → (g.H l').isSome = true → g.φ l = g.φ l' → l = l'
  owns : ∀ t n k, g.T t = some (n, k) → OwnOK g w0.heap.size t n k
  ownsEx : ∀ t t' B, Spare g t B → Spare g t' B → t = t'
  ownsObj : ∀ t B l, Spare g t B → (g.H l).isSome = true → g.φ l ≠ B
  glob : ∀ i cs, Gl i = some cs → RelTab g.S g.w cs i
  exs : ∀ t k b xss, s.X t = some (k, b, xss) → ExOK g S0.E w0.heap.size t k b xss
  exsEx : ∀ t t' B, XB s.X g t B → XB s.X g t' B → t = t'
  fix : ∀ l B, S0.F l B → 1000000 ≤ l ∧ ((g.H l).isSome = true → g.φ l = B)
  fixT : ∀ t v n, S0.FT t v n → 1000000000 ≤ t ∧ ∀ n0, g.T t = some (n0, 0) → n ≤ n0 ∧ (n0 = n → g.hd t = v) ∧ ∀ B, HB (g.hd t) B → HB v B ∨ w0.heap.size ≤ B

def Inv (Gl : Nat → Option (List PV)) (S0 : Bs) (w0 : World) (s : PSt) (a : Act) (w : World) : Prop := ∃ g, g.w = w ∧ InvG Gl S0 w0 s a g

section
variable {Gl : Nat → Option (List PV)} {S0 : Bs} {w0 : World} {s : PSt} {a : Act} {g : GG}

theorem Spare.lt (h : InvG Gl S0 w0 s a g) {t B : Nat} (hs : Spare g t B) : B < g.w.heap.size := by
  obtain ⟨n, k, off, cap, h1, h2, h3⟩ := hs
  rcases h.owns t n k h1 with ⟨e, _⟩ | ⟨B', off', cap', e, _, hr⟩
  · have := (e.slice h2).2; have := h3.pos; omega
  · rw [e] at h2; cases h2; exact (hr h3).2.1
theorem ExOK.lt {E : Nat → Prop} {base t k b : Nat} {xss : List (List PV)} (h : ExOK g E base t k b xss) {B off n cap : Nat} (hh : g.hd t = .slice (some ⟨B, off, none⟩) n cap) (hc : 0 < cap) : B < g.w.heap.size ∧ (base ≤ B ∨ E B) ∧ (∀ o, ¬ g.S B o) ∧ (∀ l, (g.H l).isSome = true → g.φ l ≠ B) ∧ (∀ t', Spare g t' B → t' = t) := by
  obtain ⟨_, _, _, _, _, ⟨e | ⟨_, e⟩, _⟩ | ⟨B', cap', e, hc', h1, h2, h3, h4, h5, h6, h7, h8⟩⟩ := h
  · rw [e] at hh; cases hh
  · rw [e] at hh; cases hh; omega
  · rw [e] at hh; cases hh; exact ⟨h3, h2, h4, h7, h8⟩
theorem InvG.noX (h : InvG Gl S0 w0 s a g) {t : Nat} (hT : ∀ n, g.T t ≠ some (n, 0)) : s.X t = none := by
  cases hx : s.X t with
  | none => rfl
  | some x =>
    obtain ⟨k, b, xss⟩ := x
    exact absurd (h.exs t k b xss hx).1 (hT _)
theorem XB.lt (h : InvG Gl S0 w0 s a g) {t B : Nat} (hs : XB s.X g t B) : B < g.w.heap.size ∧ (w0.heap.size ≤ B ∨ S0.E B) ∧ (∀ o, ¬ g.S B o) ∧ (∀ l, (g.H l).isSome = true → g.φ l ≠ B) ∧ (∀ t', Spare g t' B → t' = t) := by
  obtain ⟨h1, off, n, cap, h2, h3⟩ := hs
  obtain ⟨⟨k, b, xss⟩, hx⟩ := Option.isSome_iff_exists.1 h1
  exact (h.exs t k b xss hx).lt h2 h3
theorem ExOK.mono {g g' : GG} {E : Nat → Prop} {base t k b : Nat} {xss : List (List PV)} (h : ExOK g E base t k b xss) (hle : GLe g g') (hT : g'.T t = g.T t) (hhd : g'.hd t = g.hd t) (hsz : g.w.heap.size ≤ g'.w.heap.size)
    (hk : ∀ B off n cap, g.hd t = .slice (some ⟨B, off, none⟩) n cap ∧ 0 < cap → (base ≤ B ∨ E B) → B < g.w.heap.size → (∀ o, ¬ g.S B o) → (∀ l, (g.H l).isSome = true → g.φ l ≠ B) → (∀ t', Spare g t' B → t' = t) →
      (∀ o, g'.w.cell? ⟨B, o, none⟩ = g.w.cell? ⟨B, o, none⟩) ∧ (∀ o, g'.w.frozen? ⟨B, o, none⟩ = g.w.frozen? ⟨B, o, none⟩) ∧ (∀ o, ¬ g'.S B o) ∧ (∀ l, (g'.H l).isSome = true → g'.φ l ≠ B) ∧ (∀ t', Spare g' t' B → t' = t)) : ExOK g' E base t k b xss := by
  obtain ⟨q1, q2, q3, q4, q5, q6⟩ := h
  refine ⟨by rw [hT]; exact q1, q2, q3, q4, q5, ?_⟩
  rcases q6 with ⟨e1, e2⟩ | ⟨B, cap, e, hc, h1, h2, h3, h4, ⟨vs, v1, v2⟩, h6, h7, h8⟩
  · exact .inl ⟨by rw [hhd]; exact e1, e2⟩
  · obtain ⟨r1, r2, r3, r4, r5⟩ := hk B 0 _ cap ⟨e, hc⟩ h2 h3 h4 h7 h8
    exact .inr ⟨B, cap, by rw [hhd]; exact e, hc, h1, h2, by omega, r3, ⟨vs, v1.mono fun _ _ hxy => ⟨hxy.1.mono hle.S hle.cell hle.blk, hxy.2⟩, fun j v hv => by rw [r1]; exact v2 j v hv⟩, fun j hj => by rw [r1, r2]; exact h6 j hj, r4, r5⟩
theorem XB.congr {X : Nat → Option (Nat × Nat × List (List PV))} {g g' : GG} (hhd : g'.hd = g.hd) {t B : Nat} (h : XB X g' t B) : XB X g t B := by
  obtain ⟨h1, off, n, cap, h2⟩ := h
  exact ⟨h1, off, n, cap, by rw [← hhd]; exact h2⟩

theorem Act.put_defers' (a : Act) (d : Option Nat) (v : Value) : (a.put d v).defers = a.defers := by cases d <;> rfl
theorem Act.put_size (a : Act) (d : Option Nat) (v : Value) : (a.put d v).tmps.size = a.tmps.size := by cases d <;> simp [Act.put]

/-- A slot is written. -/
theorem InvG.put (h : InvG Gl S0 w0 s a g) (d : Option Nat) {p : PV} {v : Value} (hv : Rel g p v) : InvG Gl S0 w0 (s.put d p) (a.put d v) g := by
  cases d with
  | none => exact h
  | some i =>
    obtain ⟨e1, e2, e3⟩ := s.put_H (some i) p
    refine { h with hH := by rw [e1]; exact h.hH, hT := by rw [e2]; exact h.hT, exs := by rw [e3]; exact h.exs, exsEx := by rw [e3]; exact h.exsEx, defers := h.defers, len := ⟨by rw [s.put_len, s.put_m, Act.put_size]; exact h.len.1, by rw [s.put_m]; exact h.len.2⟩, tm := fun j q u hq hu => ?_ }
    have hl := h.len.1
    by_cases hi : i + s.m < s.tm.length
    · rw [s.put_in p hi] at hq
      have hi2 : i < a.tmps.size := by omega
      have hpt : (a.put (some i) v).tmps.toList ++ S0.St = (a.tmps.toList ++ S0.St).set i v := by
        simp only [Act.put, Array.setIfInBounds, dif_pos hi2, Array.toList_set]
        rw [List.set_append_left _ _ (by simpa using hi2)]
      rw [hpt] at hu
      simp only [List.getElem?_set] at hq hu
      by_cases hij : i = j
      · subst hij
        rw [if_pos rfl] at hq hu
        split at hq
        · split at hu
          · cases hq; cases hu; exact hv
          · cases hu
        · cases hq
      · rw [if_neg hij] at hq hu
        exact h.tm j q u hq hu
    · rw [s.put_out p hi] at hq
      have hi2 : ¬ i < a.tmps.size := by omega
      have hpt : (a.put (some i) v).tmps = a.tmps := by simp only [Act.put, Array.setIfInBounds, dif_neg hi2]
      rw [hpt] at hu
      exact h.tm j q u hq hu
theorem Rel.any (g : GG) (v : Value) : Rel g .any v := trivial

theorem InvG.get (h : InvG Gl S0 w0 s a g) (i : Nat) : Rel g (s.get i) (a.tmps.getD i undef) := by
  have hl := h.len.1
  by_cases hi : i + s.m < s.tm.length
  · rw [s.get_in hi]
    have hi' : i < a.tmps.size := by omega
    have hi2 : i < s.tm.length := by omega
    have := h.tm i s.tm[i] a.tmps[i] (List.getElem?_eq_getElem hi2) (by rw [List.getElem?_append_left (by simpa using hi')]; simp [hi'])
    simpa [List.getD, List.getElem?_eq_getElem hi2, Array.getElem?_eq_getElem hi'] using this
  · rw [s.get_out hi]
    exact trivial

/-- Slots and values that are laid aside, in one row. -/
def vget (a : Act) (S0 : Bs) (i : Nat) : Value := (a.tmps.toList ++ S0.St).getD i undef
theorem InvG.rget (h : InvG Gl S0 w0 s a g) (i : Nat) : Rel g (s.tm.getD i .any) (vget a S0 i) := by
  have hl := h.len
  by_cases hi : i < s.tm.length
  · have hi2 : i < (a.tmps.toList ++ S0.St).length := by rw [List.length_append, Array.length_toList]; omega
    have := h.tm i s.tm[i] _ (List.getElem?_eq_getElem hi) (List.getElem?_eq_getElem hi2)
    rw [List.getD_eq_getElem?_getD, List.getElem?_eq_getElem hi, vget, List.getD_eq_getElem?_getD, List.getElem?_eq_getElem hi2]
    exact this
  · rw [List.getD_eq_getElem?_getD, List.getElem?_eq_none (by omega)]; exact trivial
theorem InvG.rput (h : InvG Gl S0 w0 s a g) (i : Nat) {p : PV} (hv : Rel g p (vget a S0 i)) : InvG Gl S0 w0 { s with tm := s.tm.set i p } a g := by
  refine { h with hH := h.hH, hT := h.hT, len := ⟨by simpa using h.len.1, h.len.2⟩, tm := fun j q u hq hu => ?_ }
  simp only [List.getElem?_set] at hq
  by_cases hij : i = j
  · subst hij
    rw [if_pos rfl] at hq
    split at hq
    · cases hq
      rwa [vget, List.getD_eq_getElem?_getD, hu] at hv
    · cases hq
  · rw [if_neg hij] at hq; exact h.tm j q u hq hu

theorem Spare.congr {g g' : GG} (hT : g'.T = g.T) (hhd : g'.hd = g.hd) {t B : Nat} (h : Spare g' t B) : Spare g t B := by
  obtain ⟨n, k, off, cap, h1, h2, h3⟩ := h
  exact ⟨n, k, off, cap, by rw [← hT]; exact h1, by rw [← hhd]; exact h2, h3⟩

theorem cell?_below {B : Nat} {w w' : World} (hb : Below B w w') {b o : Nat} (h : b < B) : w'.cell? ⟨b, o, none⟩ = w.cell? ⟨b, o, none⟩ := hb.cell (p := ⟨b, o, none⟩) h
theorem frozen?_below {B : Nat} {w w' : World} (hb : Below B w w') {b o : Nat} (h : b < B) : w'.frozen? ⟨b, o, none⟩ = w.frozen? ⟨b, o, none⟩ := hb.frozen (p := ⟨b, o, none⟩) h
theorem rangeAt_below {B : Nat} {w w' : World} (hb : Below B w w') {b o : Nat} {vs : List Value} (h : b < B) (hr : w.rangeAt b o vs) : w'.rangeAt b o vs :=
  fun j v hv => by rw [cell?_below hb h]; exact hr j v hv
theorem there_below {B : Nat} {w w' : World} (hb : Below B w w') {b o n : Nat} (h : b < B) (hr : w.there b o n) : w'.there b o n :=
  fun j hj => by rw [cell?_below hb h, frozen?_below hb h]; exact hr j hj

theorem ObjOK.mono {g g' : GG} (hg : GLe g g') {B : Nat} (hb : ∀ o, g'.w.cell? ⟨B, o, none⟩ = g.w.cell? ⟨B, o, none⟩) (hf : ∀ o, g'.w.frozen? ⟨B, o, none⟩ = g.w.frozen? ⟨B, o, none⟩)
    (hh : ∀ (x : Obj) (_ : Unit), g.w.heap[B]? = some x → g'.w.heap[B]? = some x) : ∀ {ob : PObj}, ObjOK g B ob → ObjOK g' B ob
  | .cells cs, ⟨vs, h1, h2, h3⟩ => ⟨vs, h1.mono (RelC.mono hg), fun j v hv => by rw [hb]; exact h2 j v hv, fun j hj => by rw [hb, hf]; exact h3 j hj⟩
  | .iter _ _, h => hh _ () h
  | .miter _ _ _ _, h => MIter.mono h hg.S hg.cell hg.blk fun x hx => hh x () hx
  | .mapo es k b tk, ⟨h0, arr, clock, h1, h2, h3⟩ => ⟨h0, arr, clock, ⟨hh _ () h1.1, h1.2⟩, h2, fun i e m he hm => ⟨(h3 i e m he hm).1.mono hg.S hg.cell hg.blk, (h3 i e m he hm).2.mono hg⟩⟩
  | .map es, ⟨arr, clock, h1, h2⟩ => ⟨arr, clock, ⟨hh _ () h1.1, h1.2⟩, h2.mono fun _ _ hxy => ⟨hxy.1.mono hg.S hg.cell hg.blk, hxy.2.1.mono hg.S hg.cell hg.blk, hxy.2.2⟩⟩

/-- Memory grows: new blocks, of which some cells are stable. -/
theorem InvG.grow (h : InvG Gl S0 w0 s a g) {w' : World} {S' : Cells} (hb : BelowD g.w.heap.size g.w w') (hS : ∀ B o, g.S B o → S' B o)
    (hS' : ∀ B o, S' B o → g.S B o ∨ (g.w.heap.size ≤ B ∧ B < w'.heap.size)) : InvG Gl S0 w0 s a { g with w := w', S := S' } ∧ GLe g { g with w := w', S := S' } := by
  have hle : GLe g { g with w := w', S := S' } :=
    ⟨hS, fun B o hBo => cell?_below hb.toBelow (h.lt B o hBo), fun B hB => hb.block _ (h.lt B 0 (hB 0)), fun l ob hob => ⟨rfl, ob, hob, fun cs e => ⟨cs, e, rfl⟩⟩, fun t n k ht => ⟨n, ht, Nat.le_refl _, fun _ => rfl⟩⟩
  have hz := h.below.size
  refine ⟨{ hH := h.hH, hT := h.hT, defers := h.defers, len := h.len, tm := fun i p v hp hv => (h.tm i p v hp hv).mono hle, sub := fun B o hBo => hS _ _ (h.sub B o hBo), new := fun B o hBo => ?_, lt := fun B o hBo => ?_, below := h.below.trans (.ofBelow hb), objs := fun l ob hob => ?_, inj := h.inj, owns := fun t n k ht => ?_, ownsEx := fun t t' B hs hs' => h.ownsEx t t' B (hs.congr rfl rfl) (hs'.congr rfl rfl), ownsObj := fun t B l hs hl => h.ownsObj t B l (hs.congr rfl rfl) hl, glob := fun i cs hi => (h.glob i cs hi).mono hle.S hle.cell hle.blk, exs := fun t k b xss hx => (h.exs t k b xss hx).mono hle rfl rfl hb.size fun B off n cap e1 e2 e3 e4 e5 e6 => ⟨fun o => cell?_below hb.toBelow e3, fun o => frozen?_below hb.toBelow e3, fun o ho => (hS' _ _ ho).elim (e4 o) fun q => by omega, e5, fun t' hs => e6 t' (hs.congr rfl rfl)⟩, exsEx := fun t t' B h1 h2 => h.exsEx t t' B (h1.congr rfl) (h2.congr rfl), fix := h.fix, fixT := h.fixT }, hle⟩
  · rcases hS' B o hBo with h1 | h1
    · exact h.new B o h1
    · exact .inr (.inl (by omega))
  · rcases hS' B o hBo with h1 | h1
    · have := h.lt B o h1; have := hb.size; show B < w'.heap.size; omega
    · exact h1.2
  · obtain ⟨h1, h2, h3, h4⟩ := h.objs l ob hob
    have hsz := hb.size
    refine ⟨h1, by show g.φ l < w'.heap.size; omega, fun o ho => ?_, h4.mono hle (fun o => cell?_below hb.toBelow h2) (fun o => frozen?_below hb.toBelow h2) (fun arr c hc => by rw [hb.block _ h2]; exact hc)⟩
    rcases hS' _ _ ho with h5 | h5
    · exact h3 o h5
    · have : g.w.heap.size ≤ g.φ l := h5.1; omega
  · rcases h.owns t n k ht with hn | ⟨B, off, cap, e1, e2, e3⟩
    · exact .inl hn
    · have hsz := hb.size
      refine .inr ⟨B, off, cap, e1, e2, fun hlt => ?_⟩
      obtain ⟨f1, f2, f3, f4⟩ := e3 hlt
      refine ⟨f1, by show B < w'.heap.size; omega, there_below hb.toBelow f2 f3, fun hk o ho => ?_⟩
      rcases hS' _ _ ho with h5 | h5
      · exact f4 hk o h5
      · omega

/-- The same with stable cells unchanged. -/
theorem InvG.grow' (h : InvG Gl S0 w0 s a g) {w' : World} (hb : BelowD g.w.heap.size g.w w') : InvG Gl S0 w0 s a { g with w := w' } ∧ GLe g { g with w := w' } :=
  h.grow (S' := g.S) hb (fun _ _ h => h) (fun _ _ h => .inl h)

/-- A new block of the call's own. -/
theorem InvG.addObj (h : InvG Gl S0 w0 s a g) {l B : Nat} {ob : PObj} (hl : g.H l = none) (hl6 : l < 1000000) (hB : w0.heap.size ≤ B ∨ S0.E B) (hB' : B < g.w.heap.size) (hS : ∀ o, ¬ g.S B o)
    (hφ : ∀ l', (g.H l').isSome = true → g.φ l' ≠ B) (hsp : ∀ t, ¬ Spare g t B) (hx : ∀ t, ¬ XB s.X g t B) (hob : ∀ g', GLe g g' → g'.w = g.w → ObjOK g' B ob) :
    InvG Gl S0 w0 { s with H := upd s.H l (some ob) } a { g with φ := fun x => if x = l then B else g.φ x, H := upd g.H l (some ob) } ∧ GLe g { g with φ := fun x => if x = l then B else g.φ x, H := upd g.H l (some ob) } := by
  have hne : ∀ l' ob', g.H l' = some ob' → l' ≠ l := fun l' ob' h1 h2 => by rw [h2, hl] at h1; cases h1
  have hle : GLe g { g with φ := fun x => if x = l then B else g.φ x, H := upd g.H l (some ob) } :=
    ⟨fun _ _ h => h, fun _ _ _ => rfl, fun _ _ => rfl, fun l' ob' h1 => ⟨if_neg (hne l' ob' h1), ob', by show upd g.H l (some ob) l' = _; rw [upd_other _ _ _ _ (hne l' ob' h1)]; exact h1, fun cs e => ⟨cs, e, rfl⟩⟩, fun t n k ht => ⟨n, ht, Nat.le_refl _, fun _ => rfl⟩⟩
  have hsome : ∀ l', ((upd g.H l (some ob)) l').isSome = true → l' ≠ l → (g.H l').isSome = true := fun l' h1 h2 => by rwa [upd_other _ _ _ _ h2] at h1
  refine ⟨{ hH := by rw [← h.hH], hT := h.hT, defers := h.defers, len := h.len, tm := fun i p v hp hv => (h.tm i p v hp hv).mono hle, sub := h.sub, new := h.new, lt := h.lt, below := h.below, objs := fun l' ob' hob' => ?_, inj := fun l1 l2 h1 h2 he => ?_, owns := fun t n k ht => h.owns t n k ht, ownsEx := fun t t' B hs hs' => h.ownsEx t t' B (hs.congr rfl rfl) (hs'.congr rfl rfl), ownsObj := fun t B' l' hs hl' => ?_, glob := h.glob, exs := fun t k b xss hX => (h.exs t k b xss hX).mono hle rfl rfl (Nat.le_refl _) fun B' off n cap e1 e2 e3 e4 e5 e6 => ⟨fun _ => rfl, fun _ => rfl, e4, fun l' hl' => ?_, fun t' hs => e6 t' (hs.congr rfl rfl)⟩, exsEx := fun t t' B h1 h2 => h.exsEx t t' B (h1.congr rfl) (h2.congr rfl), fix := fun l' B' hF => ⟨(h.fix l' B' hF).1, fun hs => (by
    have h6 := (h.fix l' B' hF).1
    have hne : l' ≠ l := by omega
    simp only [if_neg hne]
    exact (h.fix l' B' hF).2 (hsome l' hs hne))⟩, fixT := h.fixT }, hle⟩
  rotate_right
  · by_cases e : l' = l
    · simp only [e, if_true]
      intro hBB
      exact hx t ⟨by rw [hX]; rfl, off, n, cap, by rw [hBB]; exact e1⟩
    · simp only [if_neg e]
      exact e5 l' (hsome l' hl' e)
  · by_cases e : l' = l
    · subst e
      have h1 : upd g.H l' (some ob) l' = some ob' := hob'
      rw [upd_same] at h1
      cases h1
      simp only [if_true]
      exact ⟨hB, hB', hS, hob _ hle rfl⟩
    · have h1 : upd g.H l (some ob) l' = some ob' := hob'
      rw [upd_other _ _ _ _ e] at h1
      obtain ⟨k1, k2, k3, k4⟩ := h.objs l' ob' h1
      simp only [if_neg e]
      exact ⟨k1, k2, k3, k4.mono hle (fun _ => rfl) (fun _ => rfl) (fun _ _ h => h)⟩
  · by_cases e1 : l1 = l <;> by_cases e2 : l2 = l
    · rw [e1, e2]
    · simp only [e1, if_true, if_neg e2] at he
      exact absurd he.symm (hφ l2 (hsome l2 h2 e2))
    · simp only [e2, if_true, if_neg e1] at he
      exact absurd he (hφ l1 (hsome l1 h1 e1))
    · simp only [if_neg e1, if_neg e2] at he
      exact h.inj l1 l2 (hsome l1 h1 e1) (hsome l2 h2 e2) he
  · by_cases e : l' = l
    · simp only [e, if_true]
      intro hBB
      exact hsp t (by rw [hBB]; exact hs.congr rfl rfl)
    · simp only [if_neg e]
      exact h.ownsObj t B' l' (hs.congr rfl rfl) (hsome l' hl' e)

end
end PM
/-
  THE PURE MACHINE, C: a block of the call's own is written; a list grows in place or into a new block; a state is weakened.
-/
namespace PM
open Go Go.RowKit

theorem heap_setCells_other (b : Nat) : ∀ (vs : List Value) (o : Nat) (w : World) (k : Nat), k ≠ b → (w.setCells b o vs).heap[k]? = w.heap[k]?
  | [], _, _, _, _ => rfl
  | v :: r, o, w, k, h => by
    rw [World.setCells, heap_setCells_other b r (o + 1) _ k h]
    exact Below.heap_setCell w ⟨b, o, none⟩ v k h
theorem size_setCells (b : Nat) : ∀ (vs : List Value) (o : Nat) (w : World), (w.setCells b o vs).heap.size = w.heap.size
  | [], _, _ => rfl
  | v :: r, o, w => by rw [World.setCells, size_setCells b r (o + 1)]; simp
theorem rest_setCells (b : Nat) : ∀ (vs : List Value) (o : Nat) (w : World), (w.setCells b o vs).os = w.os ∧ (w.setCells b o vs).tape = w.tape ∧ (w.setCells b o vs).output = w.output ∧ (w.setCells b o vs).drawn = w.drawn
  | [], _, _ => ⟨rfl, rfl, rfl, rfl⟩
  | v :: r, o, w => by rw [World.setCells]; exact rest_setCells b r (o + 1) _

/-- w' is w but for block b. -/
structure But (b : Nat) (w w' : World) : Prop where
  os : w'.os = w.os
  tape : w'.tape = w.tape
  output : w'.output = w.output
  size : w'.heap.size = w.heap.size
  block : ∀ k, k ≠ b → w'.heap[k]? = w.heap[k]?
  drawn : w'.drawn = w.drawn
theorem but_setCells (w : World) (b o : Nat) (vs : List Value) : But b w (w.setCells b o vs) :=
  ⟨(rest_setCells b vs o w).1, (rest_setCells b vs o w).2.1, (rest_setCells b vs o w).2.2.1, size_setCells b vs o w, fun k hk => heap_setCells_other b vs o w k hk, (rest_setCells b vs o w).2.2.2⟩
theorem But.below {b : Nat} {E : Nat → Prop} {w0 w w' : World} (h : BelowE E w0 w) (hb : But b w w') (hB : w0.heap.size ≤ b ∨ E b) : BelowE E w0 w' :=
  ⟨hb.os.trans h.os, hb.tape.trans h.tape, hb.output.trans h.output, by rw [hb.size]; exact h.size, fun k hk he => (hb.block k (fun e => hB.elim (fun q => by omega) fun q => he (e ▸ q))).trans (h.block k hk he), h.dr.trans (.of_le (Nat.le_of_eq hb.drawn.symm))⟩
theorem But.cell {b : Nat} {w w' : World} (hb : But b w w') {k o : Nat} (h : k ≠ b) : w'.cell? ⟨k, o, none⟩ = w.cell? ⟨k, o, none⟩ := World.cell?_of_block (w := w) (a := ⟨k, o, none⟩) (hb.block k h)
theorem But.frozen {b : Nat} {w w' : World} (hb : But b w w') {k o : Nat} (h : k ≠ b) : w'.frozen? ⟨k, o, none⟩ = w.frozen? ⟨k, o, none⟩ := World.frozen?_of_block (w := w) (a := ⟨k, o, none⟩) (hb.block k h)

section
variable {Gl : Nat → Option (List PV)} {S0 : Bs} {w0 : World} {s : PSt} {a : Act} {g : GG}

/-- A block of the call's own is written. -/
theorem InvG.setObj (h : InvG Gl S0 w0 s a g) {l : Nat} {ob ob' : PObj} {w' : World} (hl : g.H l = some ob) (hb : But (g.φ l) g.w w')
    (hshape : ∀ cs, ob = .cells cs → ∃ cs', ob' = .cells cs' ∧ cs'.length = cs.length) (hob : ∀ g', GLe g g' → g'.w = w' → ObjOK g' (g.φ l) ob') :
    InvG Gl S0 w0 { s with H := upd s.H l (some ob') } a { g with w := w', H := upd g.H l (some ob') } ∧ GLe g { g with w := w', H := upd g.H l (some ob') } := by
  obtain ⟨o1, o2, o3, o4⟩ := h.objs l ob hl
  have hle : GLe g { g with w := w', H := upd g.H l (some ob') } := by
    refine ⟨fun _ _ h => h, fun B o hBo => hb.cell (fun e => o3 o (e ▸ hBo)), fun B hB => hb.block _ (fun e => o3 0 (e ▸ hB 0)), fun l' ob1 h1 => ⟨rfl, ?_⟩, fun t n k ht => ⟨n, ht, Nat.le_refl _, fun _ => rfl⟩⟩
    by_cases e : l' = l
    · subst e
      rw [hl] at h1; cases h1
      exact ⟨ob', upd_same _ _ _, hshape⟩
    · exact ⟨ob1, by show upd g.H l _ l' = _; rw [upd_other _ _ _ _ e]; exact h1, fun cs e => ⟨cs, e, rfl⟩⟩
  have hsome : ∀ l', ((upd g.H l (some ob')) l').isSome = true → (g.H l').isSome = true := fun l' h1 => by
    by_cases e : l' = l
    · rw [e, hl]; rfl
    · rwa [upd_other _ _ _ _ e] at h1
  refine ⟨{ hH := by rw [← h.hH], hT := h.hT, defers := h.defers, len := h.len, tm := fun i p v hp hv => (h.tm i p v hp hv).mono hle, sub := h.sub, new := h.new, lt := fun B o hBo => by show B < w'.heap.size; rw [hb.size]; exact h.lt B o hBo, below := hb.below h.below o1, objs := fun l' ob1 hob1 => ?_, inj := fun l1 l2 h1 h2 he => h.inj l1 l2 (hsome l1 h1) (hsome l2 h2) he, owns := fun t n k ht => ?_, ownsEx := fun t t' B hs hs' => h.ownsEx t t' B (hs.congr rfl rfl) (hs'.congr rfl rfl), ownsObj := fun t B l' hs hl' => h.ownsObj t B l' (hs.congr rfl rfl) (hsome l' hl'), glob := fun i cs hi => (h.glob i cs hi).mono hle.S hle.cell hle.blk, exs := fun t k b xss hX => (h.exs t k b xss hX).mono hle rfl rfl (Nat.le_of_eq hb.size.symm) fun B off n cap e1 e2 e3 e4 e5 e6 => ⟨fun o => hb.cell fun e => e5 l (by rw [hl]; rfl) e.symm, fun o => hb.frozen fun e => e5 l (by rw [hl]; rfl) e.symm, e4, fun l' hl' => e5 l' (hsome l' hl'), fun t' hs => e6 t' (hs.congr rfl rfl)⟩, exsEx := fun t t' B h1 h2 => h.exsEx t t' B (h1.congr rfl) (h2.congr rfl), fix := fun l' B hF => ⟨(h.fix l' B hF).1, fun hs => (h.fix l' B hF).2 (hsome l' hs)⟩, fixT := h.fixT }, hle⟩
  · by_cases e : l' = l
    · subst e
      have h1 : upd g.H l' (some ob') l' = some ob1 := hob1
      rw [upd_same] at h1; cases h1
      exact ⟨o1, by show g.φ l' < w'.heap.size; rw [hb.size]; exact o2, o3, hob _ hle rfl⟩
    · have h1 : upd g.H l (some ob') l' = some ob1 := hob1
      rw [upd_other _ _ _ _ e] at h1
      obtain ⟨k1, k2, k3, k4⟩ := h.objs l' ob1 h1
      have hne : g.φ l' ≠ g.φ l := fun he => e (h.inj l' l (by rw [h1]; rfl) (by rw [hl]; rfl) he)
      exact ⟨k1, by show g.φ l' < w'.heap.size; rw [hb.size]; exact k2, k3, k4.mono hle (fun o => hb.cell hne) (fun o => hb.frozen hne) (fun arr c hc => by show w'.heap[_]? = _; rw [hb.block _ hne]; exact hc)⟩
  · rcases h.owns t n k ht with hn | ⟨B, off, cap, e1, e2, e3⟩
    · exact .inl hn
    · refine .inr ⟨B, off, cap, e1, e2, fun hlt => ?_⟩
      obtain ⟨f1, f2, f3, f4⟩ := e3 hlt
      have hne : B ≠ g.φ l := fun he => h.ownsObj t B l ⟨n, k, off, cap, ht, e1, hlt⟩ (by rw [hl]; rfl) he.symm
      exact ⟨f1, by show B < w'.heap.size; rw [hb.size]; exact f2, fun j hj => by show (w'.cell? _).isSome = true ∧ w'.frozen? _ = false; rw [hb.cell hne, hb.frozen hne]; exact f3 j hj, f4⟩

/-- A list grows in place: the new cells are written into the spare ones. -/
theorem InvG.tokRoom (h : InvG Gl S0 w0 s a g) {t n k m B off cap : Nat} {vs : List Value} (ht : g.T t = some (n, k)) (hhd : g.hd t = .slice (some ⟨B, off, none⟩) n cap)
    (hm : 0 < m) (hcap : n + m ≤ cap) (hvs : vs.length = m * k) (hk0 : k ≠ 0) (hX : s.X t = none) :
    InvG Gl S0 w0 { s with T := upd s.T t (some (n + m, k)) } a
      { g with w := g.w.setCells B (off + n * k) vs, S := fun b o => g.S b o ∨ (b = B ∧ off + n * k ≤ o ∧ o < off + (n + m) * k), hd := fun x => if x = t then .slice (some ⟨B, off, none⟩) (n + m) cap else g.hd x, T := upd g.T t (some (n + m, k)) } ∧
    GLe g { g with w := g.w.setCells B (off + n * k) vs, S := fun b o => g.S b o ∨ (b = B ∧ off + n * k ≤ o ∧ o < off + (n + m) * k), hd := fun x => if x = t then .slice (some ⟨B, off, none⟩) (n + m) cap else g.hd x, T := upd g.T t (some (n + m, k)) } := by
  have hroom : Room n k cap := .of_lt (by omega)
  have hsp : Spare g t B := ⟨n, k, off, cap, ht, hhd, hroom⟩
  obtain ⟨f1, f2, f3, f4⟩ : w0.heap.size ≤ B ∧ B < g.w.heap.size ∧ g.w.there B off (cap * k) ∧ ∀ o, g.S B o → o < off + n * k := by
    rcases h.owns t n k ht with ⟨e, _⟩ | ⟨B', off', cap', e, _, hr⟩
    · have := (e.slice hhd).2; omega
    · rw [e] at hhd; cases hhd; exact ⟨(hr hroom).1 hk0, (hr hroom).2.1, (hr hroom).2.2.1, (hr hroom).2.2.2 hk0⟩
  have hb := but_setCells g.w B (off + n * k) vs
  have hmul : (n + m) * k = n * k + m * k := Nat.add_mul n m k
  have hle : GLe g { g with w := g.w.setCells B (off + n * k) vs, S := fun b o => g.S b o ∨ (b = B ∧ off + n * k ≤ o ∧ o < off + (n + m) * k), hd := fun x => if x = t then .slice (some ⟨B, off, none⟩) (n + m) cap else g.hd x, T := upd g.T t (some (n + m, k)) } := by
    refine ⟨fun _ _ h => .inl h, fun b o hbo => ?_, fun b hbo => hb.block _ fun e => absurd (f4 (off + n * k) (e ▸ hbo (off + n * k))) (Nat.lt_irrefl _), fun l ob h1 => ⟨rfl, ob, h1, fun cs e => ⟨cs, e, rfl⟩⟩, fun t' n' k' h1 => ?_⟩
    · by_cases e : b = B
      · subst e
        exact World.cell?_setCells_out _ _ _ _ _ (fun _ _ => .inl (f4 o hbo))
      · exact hb.cell e
    · by_cases e : t' = t
      · subst e
        rw [ht] at h1; cases h1
        exact ⟨n + m, upd_same _ _ _, by omega, fun e => by omega⟩
      · exact ⟨n', by show upd g.T t _ t' = _; rw [upd_other _ _ _ _ e]; exact h1, Nat.le_refl _, fun _ => if_neg e⟩
  have hspare : ∀ t' b, Spare { g with w := g.w.setCells B (off + n * k) vs, S := fun b o => g.S b o ∨ (b = B ∧ off + n * k ≤ o ∧ o < off + (n + m) * k), hd := fun x => if x = t then .slice (some ⟨B, off, none⟩) (n + m) cap else g.hd x, T := upd g.T t (some (n + m, k)) } t' b → Spare g t' b := by
    rintro t' b ⟨n', k', off', cap', h1, h2, h3⟩
    by_cases e : t' = t
    · subst e
      simp only [if_true] at h2
      cases h2
      exact hsp
    · have h1' : upd g.T t (some (n + m, k)) t' = some (n', k') := h1
      rw [upd_other _ _ _ _ e] at h1'
      simp only [if_neg e] at h2
      exact ⟨n', k', off', cap', h1', h2, h3⟩
  have hxb : ∀ t' b, XB s.X { g with w := g.w.setCells B (off + n * k) vs, S := fun b o => g.S b o ∨ (b = B ∧ off + n * k ≤ o ∧ o < off + (n + m) * k), hd := fun x => if x = t then .slice (some ⟨B, off, none⟩) (n + m) cap else g.hd x, T := upd g.T t (some (n + m, k)) } t' b → XB s.X g t' b := by
    rintro t' b ⟨h1, off', n', cap', h2⟩
    have hne : t' ≠ t := fun e => by rw [e, hX] at h1; cases h1
    simp only [if_neg hne] at h2
    exact ⟨h1, off', n', cap', h2⟩
  refine ⟨{ hH := h.hH, hT := by rw [← h.hT], defers := h.defers, len := h.len, tm := fun i p v hp hv => (h.tm i p v hp hv).mono hle, sub := fun b o hbo => .inl (h.sub b o hbo), new := fun b o hbo => ?_, lt := fun b o hbo => ?_, below := hb.below h.below (.inl f1), objs := fun l ob hob => ?_, inj := h.inj, owns := fun t' n' k' ht' => ?_, ownsEx := fun t1 t2 b h1 h2 => h.ownsEx t1 t2 b (hspare t1 b h1) (hspare t2 b h2), ownsObj := fun t' b l hs hl => h.ownsObj t' b l (hspare t' b hs) hl, glob := fun i cs hi => (h.glob i cs hi).mono hle.S hle.cell hle.blk, exs := fun t' k' b' xss' hx => ?_, exsEx := fun t1 t2 b h1 h2 => h.exsEx t1 t2 b (hxb t1 b h1) (hxb t2 b h2), fix := h.fix, fixT := fun t' v' n' hF => ⟨(h.fixT t' v' n' hF).1, fun n0 e => by
    have e' : upd g.T t (some (n + m, k)) t' = some (n0, 0) := e
    by_cases q : t' = t
    · rw [q, upd_same] at e'; cases e'; exact absurd rfl hk0
    · rw [upd_other _ _ _ _ q] at e'
      simp only [if_neg q]; exact (h.fixT t' v' n' hF).2 n0 e'⟩ }, hle⟩
  rotate_right
  · have hne : t' ≠ t := fun e => by rw [e, hX] at hx; cases hx
    refine (h.exs t' k' b' xss' hx).mono hle (upd_other _ _ _ _ hne) (if_neg hne) (Nat.le_of_eq hb.size.symm) fun B' off' n' cap' e1 e2 e3 e4 e5 e6 => ?_
    have hBB : B' ≠ B := fun e => hne (e6 t (e ▸ hsp)).symm
    exact ⟨fun o => hb.cell hBB, fun o => hb.frozen hBB, fun o ho => ho.elim (e4 o) fun q => hBB q.1, e5, fun t2 hs => e6 t2 (hspare t2 B' hs)⟩
  · rcases hbo with hbo | ⟨rfl, _, _⟩
    · exact h.new b o hbo
    · exact .inr (.inl f1)
  · show b < (g.w.setCells B (off + n * k) vs).heap.size
    rw [hb.size]
    rcases hbo with hbo | ⟨rfl, _, _⟩
    · exact h.lt b o hbo
    · exact f2
  · obtain ⟨k1, k2, k3, k4⟩ := h.objs l ob hob
    have hne : g.φ l ≠ B := h.ownsObj t B l hsp (by rw [show g.H l = some ob from hob]; rfl)
    exact ⟨k1, by show g.φ l < (g.w.setCells B (off + n * k) vs).heap.size; rw [hb.size]; exact k2, fun o ho => ho.elim (k3 o) (fun e => hne e.1), k4.mono hle (fun o => hb.cell hne) (fun o => hb.frozen hne) (fun arr c hc => by show (g.w.setCells B (off + n * k) vs).heap[_]? = _; rw [hb.block _ hne]; exact hc)⟩
  · by_cases e : t' = t
    · subst e
      have h1 : upd g.T t' (some (n + m, k)) t' = some (n', k') := ht'
      rw [upd_same] at h1; cases h1
      refine .inr ⟨B, off, cap, if_pos rfl, hcap, fun hlt => ⟨fun _ => f1, by show B < (g.w.setCells B (off + n * k) vs).heap.size; rw [hb.size]; exact f2, World.there_setCells f3 B (off + n * k) vs, fun _ o ho => ?_⟩⟩
      · rcases ho with ho | ⟨_, _, ho⟩
        · have := f4 o ho; rw [hmul]; omega
        · exact ho
    · have h1 : upd g.T t (some (n + m, k)) t' = some (n', k') := ht'
      rw [upd_other _ _ _ _ e] at h1
      unfold OwnOK
      simp only [if_neg e]
      rcases h.owns t' n' k' h1 with hn | ⟨B', off', cap', e1, e2, e3⟩
      · exact .inl hn
      · refine .inr ⟨B', off', cap', e1, e2, fun hlt => ?_⟩
        obtain ⟨q1, q2, q3, q4⟩ := e3 hlt
        have hne : B' ≠ B := fun he => e (h.ownsEx t' t B' ⟨n', k', off', cap', h1, e1, hlt⟩ (by rw [he]; exact hsp))
        exact ⟨q1, by rw [hb.size]; exact q2, fun j hj => by rw [hb.cell hne, hb.frozen hne]; exact q3 j hj, fun hk o ho => ho.elim (q4 hk o) (fun e' => absurd e'.1 hne)⟩

/-- A token gets a longer list, in a block of which no other token has a part. -/
theorem InvG.setTok (h : InvG Gl S0 w0 s a g) {t n k : Nat} {v : Value} (ht : ∀ n0 k0, g.T t = some (n0, k0) → k0 = k ∧ n0 < n) (hk0 : k ≠ 0)
    (hok : ∀ g' : GG, g'.w = g.w → g'.S = g.S → g'.hd t = v → OwnOK g' w0.heap.size t n k)
    (hsp : ∀ B off cap, v = .slice (some ⟨B, off, none⟩) n cap → Room n k cap → (∀ t', ¬ Spare g t' B) ∧ (∀ l, (g.H l).isSome = true → g.φ l ≠ B) ∧ ∀ t', ¬ XB s.X g t' B) (hX : s.X t = none) :
    InvG Gl S0 w0 { s with T := upd s.T t (some (n, k)) } a { g with hd := fun x => if x = t then v else g.hd x, T := upd g.T t (some (n, k)) } ∧ GLe g { g with hd := fun x => if x = t then v else g.hd x, T := upd g.T t (some (n, k)) } := by
  have hle : GLe g { g with hd := fun x => if x = t then v else g.hd x, T := upd g.T t (some (n, k)) } := by
    refine ⟨fun _ _ h => h, fun _ _ _ => rfl, fun _ _ => rfl, fun l ob h1 => ⟨rfl, ob, h1, fun cs e => ⟨cs, e, rfl⟩⟩, fun t' n' k' h1 => ?_⟩
    by_cases e : t' = t
    · subst e
      obtain ⟨rfl, hlt⟩ := ht _ _ h1
      exact ⟨n, upd_same _ _ _, by omega, fun e => by omega⟩
    · exact ⟨n', by show upd g.T t _ t' = _; rw [upd_other _ _ _ _ e]; exact h1, Nat.le_refl _, fun _ => if_neg e⟩
  have hspare : ∀ t' B, Spare { g with hd := fun x => if x = t then v else g.hd x, T := upd g.T t (some (n, k)) } t' B → (t' = t ∧ ∃ off cap, v = .slice (some ⟨B, off, none⟩) n cap ∧ Room n k cap) ∨ (t' ≠ t ∧ Spare g t' B) := by
    rintro t' B ⟨n', k', off, cap, h1, h2, h3⟩
    by_cases e : t' = t
    · subst e
      have h1' : upd g.T t' (some (n, k)) t' = some (n', k') := h1
      rw [upd_same] at h1'
      cases h1'
      simp only [if_true] at h2
      exact .inl ⟨rfl, off, cap, h2, h3⟩
    · have h1' : upd g.T t (some (n, k)) t' = some (n', k') := h1
      rw [upd_other _ _ _ _ e] at h1'
      simp only [if_neg e] at h2
      exact .inr ⟨e, n', k', off, cap, h1', h2, h3⟩
  have hxb : ∀ t' b, XB s.X { g with hd := fun x => if x = t then v else g.hd x, T := upd g.T t (some (n, k)) } t' b → XB s.X g t' b := by
    rintro t' b ⟨h1, off', n', cap', h2⟩
    have hne : t' ≠ t := fun e => by rw [e, hX] at h1; cases h1
    simp only [if_neg hne] at h2
    exact ⟨h1, off', n', cap', h2⟩
  refine ⟨{ hH := h.hH, hT := by rw [← h.hT], defers := h.defers, len := h.len, tm := fun i p v hp hv => (h.tm i p v hp hv).mono hle, sub := h.sub, new := h.new, lt := h.lt, below := h.below, objs := fun l ob hob => ?_, inj := h.inj, owns := fun t' n' k' ht' => ?_, ownsEx := fun t1 t2 B h1 h2 => ?_, ownsObj := fun t' B l hs hl => ?_, glob := h.glob, exs := fun t' k' b' xss' hx => ?_, exsEx := fun t1 t2 b h1 h2 => h.exsEx t1 t2 b (hxb t1 b h1) (hxb t2 b h2), fix := h.fix, fixT := fun t' v' n' hF => ⟨(h.fixT t' v' n' hF).1, fun n0 e => by
    have e' : upd g.T t (some (n, k)) t' = some (n0, 0) := e
    by_cases q : t' = t
    · rw [q, upd_same] at e'; cases e'; exact absurd rfl hk0
    · rw [upd_other _ _ _ _ q] at e'
      simp only [if_neg q]; exact (h.fixT t' v' n' hF).2 n0 e'⟩ }, hle⟩
  rotate_right
  · have hne : t' ≠ t := fun e => by rw [e, hX] at hx; cases hx
    refine (h.exs t' k' b' xss' hx).mono hle (upd_other _ _ _ _ hne) (if_neg hne) (Nat.le_refl _) fun B' off' n' cap' e1 e2 e3 e4 e5 e6 => ⟨fun _ => rfl, fun _ => rfl, e4, e5, fun t2 hs => ?_⟩
    rcases hspare t2 B' hs with ⟨_, off2, cap2, q1, q2⟩ | ⟨_, q⟩
    · exact absurd (show XB s.X g t' B' from ⟨by rw [hx]; rfl, off', n', cap', e1⟩) ((hsp B' off2 cap2 q1 q2).2.2 t')
    · exact e6 t2 q
  · obtain ⟨k1, k2, k3, k4⟩ := h.objs l ob hob
    exact ⟨k1, k2, k3, k4.mono hle (fun _ => rfl) (fun _ => rfl) (fun _ _ h => h)⟩
  · by_cases e : t' = t
    · subst e
      have h1 : upd g.T t' (some (n, k)) t' = some (n', k') := ht'
      rw [upd_same] at h1
      cases h1
      exact hok _ rfl rfl (if_pos rfl)
    · have h1 : upd g.T t (some (n, k)) t' = some (n', k') := ht'
      rw [upd_other _ _ _ _ e] at h1
      have := h.owns t' n' k' h1
      unfold OwnOK at this ⊢
      simp only [if_neg e]
      exact this
  · rcases hspare t1 B h1 with ⟨e1, off, cap, e, hlt⟩ | ⟨e1, h1'⟩ <;> rcases hspare t2 B h2 with ⟨e2, off2, cap2, e', hlt'⟩ | ⟨e2, h2'⟩
    · rw [e1, e2]
    · exact absurd h2' ((hsp B off cap e hlt).1 t2)
    · exact absurd h1' ((hsp B off2 cap2 e' hlt').1 t1)
    · exact h.ownsEx t1 t2 B h1' h2'
  · rcases hspare t' B hs with ⟨e1, off, cap, e, hlt⟩ | ⟨e1, h1'⟩
    · exact (hsp B off cap e hlt).2.1 l hl
    · exact h.ownsObj t' B l h1' hl

theorem InvG.drew (h : InvG Gl S0 w0 s a g) : InvG Gl S0 w0 s a { g with w := g.w.drew } ∧ GLe g { g with w := g.w.drew } :=
  h.grow' ((BelowD.refl _ _).drew)
end

/-! ### Weakening -/
def live0 (H : Nat → Option PObj) : PV → Bool
  | .ref l _ => (H l).isSome
  | _ => true
def live1 (H : Nat → Option PObj) (T : Nat → Option (Nat × Nat)) : PV → Bool
  | .lst (.own t) _ _ _ => (T t).isSome
  | .ex t _ _ _ _ _ | .eref t _ _ _ _ => (T t).isSome
  | .ref l _ | .mp l | .sl l _ _ _ _ => (H l).isSome
  | .fn _ caps => caps.all (live0 H)
  | _ => true
def liveA (H : Nat → Option PObj) (T : Nat → Option (Nat × Nat)) : PV → Bool
  | .agg cs => cs.all (live1 H T)
  | p => live1 H T p
def liveV (H : Nat → Option PObj) (T : Nat → Option (Nat × Nat)) : PV → Bool
  | .tup vs => vs.all (liveA H T)
  | p => liveA H T p
/-- One cell, said less of. -/
inductive Wk1 (H : Nat → Option PObj) (T : Nat → Option (Nat × Nat)) : PV → PV → Prop
  | any (p : PV) : Wk1 H T p .any
  | same (p : PV) (h : live1 H T p = true) : Wk1 H T p p
  | thaw (t k b : Nat) (xss : List (List PV)) : Wk1 H T (.lst (.own t) k b xss) (.lst .frozen k b xss)
  | full (k b : Nat) (xss : List (List PV)) : Wk1 H T (.lst .full k b xss) (.lst .frozen k b xss)
  | nil (o : Own) (k b : Nat) (ho : o = .frozen ∨ o = .full) : Wk1 H T .nil (.lst o k b [])
/-- One cell or an aggregate, said less of. -/
inductive WkA (H : Nat → Option PObj) (T : Nat → Option (Nat × Nat)) : PV → PV → Prop
  | any (p : PV) : WkA H T p .any
  | same (p : PV) (h : liveA H T p = true) (ht : ∀ vs, p ≠ .tup vs) : WkA H T p p
  | thaw (t k b : Nat) (xss : List (List PV)) : WkA H T (.lst (.own t) k b xss) (.lst .frozen k b xss)
  | full (k b : Nat) (xss : List (List PV)) : WkA H T (.lst .full k b xss) (.lst .frozen k b xss)
  | nil (o : Own) (k b : Nat) (ho : o = .frozen ∨ o = .full) : WkA H T .nil (.lst o k b [])
  | agg (cs cs' : List PV) (h : All2 (Wk1 H T) cs cs') : WkA H T (.agg cs) (.agg cs')
inductive WkV (H : Nat → Option PObj) (T : Nat → Option (Nat × Nat)) : PV → PV → Prop
  | any (p : PV) : WkV H T p .any
  | same (p : PV) (h : liveV H T p = true) : WkV H T p p
  | part (p q : PV) (h : WkA H T p q) : WkV H T p q
  | tup (vs vs' : List PV) (h : All2 (WkA H T) vs vs') : WkV H T (.tup vs) (.tup vs')
inductive WkO (H : Nat → Option PObj) (T : Nat → Option (Nat × Nat)) : PObj → PObj → Prop
  | cells (cs cs' : List PV) (h : All2 (Wk1 H T) cs cs') : WkO H T (.cells cs) (.cells cs')
  | map (es : List (PV × PV)) : WkO H T (.map es) (.map es)
  | iter (b : ByteArray) (pos : Nat) : WkO H T (.iter b pos) (.iter b pos)
  | miter (ks vs : List PV) (left : List Nat) (cur : Option Nat) : WkO H T (.miter ks vs left cur) (.miter ks vs left cur)
  | mapo (es : List (PV × List (List PV))) (k b : Nat) (tk : Nat → Nat) (h : ∀ i, i < es.length → (T (tk i)).isSome = true) : WkO H T (.mapo es k b tk) (.mapo es k b tk)
  | mapf (es : List (PV × List (List PV))) (k b : Nat) (tk : Nat → Nat) : WkO H T (.mapo es k b tk) (.map (es.map fun e => (e.1, .lst .frozen k b e.2)))
/-- s' says no more than s. -/
structure Weaker (s s' : PSt) : Prop where
  tm : All2 (WkV s'.H s'.T) s.tm s'.tm
  H : ∀ l ob', s'.H l = some ob' → ∃ ob, s.H l = some ob ∧ WkO s'.H s'.T ob ob'
  T : ∀ t x, s'.T t = some x → s.T t = some x
  X : ∀ t x, s'.X t = some x → s.X t = some x ∧ (s'.T t).isSome = true
  m : s'.m = s.m

section
variable {g : GG} {H' : Nat → Option PObj} {T' : Nat → Option (Nat × Nat)}
/-- What H', T' are to g. -/
structure Cut (g : GG) (H' : Nat → Option PObj) (T' : Nat → Option (Nat × Nat)) : Prop where
  T : ∀ t x, T' t = some x → g.T t = some x
  H : ∀ l cs, g.H l = some (.cells cs) → (H' l).isSome = true → ∃ cs', H' l = some (.cells cs') ∧ cs'.length = cs.length
theorem Rel0.live {p : PV} {v : Value} (h : Rel0 g p v) (hl : live0 H' p = true) : Rel0 { g with H := H', T := T' } p v := by
  cases p <;> simp only [Rel0, live0] at h hl ⊢
  case ref => exact ⟨h.1, hl⟩
  all_goals exact h
theorem Rel1.live (hc : Cut g H' T') {p : PV} {v : Value} (h : Rel1 g p v) (hl : live1 H' T' p = true) : Rel1 { g with H := H', T := T' } p v := by
  cases p
  case lst o k b xss =>
    cases o
    case own t =>
      simp only [Rel1, live1] at h hl ⊢
      obtain ⟨h1, n, h2, h3⟩ := h
      obtain ⟨x, hx⟩ := Option.isSome_iff_exists.1 hl
      have := hc.T t x hx
      rw [h2] at this; cases this
      exact ⟨h1, n, hx, h3⟩
    all_goals exact h
  case ex t k b N o n =>
    simp only [Rel1, live1] at h hl ⊢
    obtain ⟨h1, n, h2, h3⟩ := h
    obtain ⟨x, hx⟩ := Option.isSome_iff_exists.1 hl
    have := hc.T t x hx
    rw [h2] at this; cases this
    exact ⟨h1, n, hx, h3⟩
  case eref t k N j off =>
    simp only [Rel1, live1] at h hl ⊢
    obtain ⟨h1, n, h2, h3⟩ := h
    obtain ⟨x, hx⟩ := Option.isSome_iff_exists.1 hl
    have := hc.T t x hx
    rw [h2] at this; cases this
    exact ⟨h1, n, hx, h3⟩
  case ref l off => exact ⟨h.1, hl⟩
  case mp l => exact ⟨h.1, hl⟩
  case sl l o len k b =>
    simp only [Rel1, live1] at h hl ⊢
    obtain ⟨h1, cs, h2, h3⟩ := h
    obtain ⟨cs', e1, e2⟩ := hc.H l cs h2 hl
    exact ⟨h1, cs', e1, by omega⟩
  case fn f caps =>
    simp only [Rel1, live1] at h hl ⊢
    obtain ⟨arr, h1, h2⟩ := h
    exact ⟨arr, h1, h2.1, fun i x y hx hy => (h2.2 i x y hx hy).live (List.all_eq_true.1 hl x (List.mem_of_getElem? hx))⟩
  all_goals exact h
theorem RelD.unfull {S : Cells} {w : World} {k b : Nat} {xss : List (List PV)} {v : Value} (h : RelD S w (.lst .full k b xss) v) : RelD S w (.lst .frozen k b xss) v := by
  simp only [RelD] at h ⊢
  obtain ⟨h1, h2, h3, h4⟩ := h
  refine ⟨h1, h2, .inl trivial, h4.imp id ?_⟩
  rintro ⟨B, off, cap, e1, e2, e3, e4⟩
  exact ⟨B, off, cap, e1, e2, fun e => (by cases e), e4⟩
theorem RelD.ofNil {S : Cells} {w : World} {o : Own} {v : Value} (k b : Nat) (ho : o = .frozen ∨ o = .full) (h : RelD S w .nil v) : RelD S w (.lst o k b []) v := by
  have hv : v = .slice none 0 0 := by simpa only [RelD] using h
  subst hv
  simp only [RelD]
  exact ⟨by simp, by simp, ho, .inl ⟨.inl rfl, trivial⟩⟩
theorem Rel1.weak (hc : Cut g H' T') {p q : PV} {v : Value} (h : Rel1 g p v) (hw : Wk1 H' T' p q) : Rel1 { g with H := H', T := T' } q v := by
  cases hw with
  | any => trivial
  | same _ hl => exact h.live hc hl
  | thaw t k b xss => exact h.1
  | full k b xss => exact RelD.unfull h
  | nil o k b ho => rcases ho with rfl | rfl <;> exact RelD.ofNil k b (by simp) h
theorem RelC.weak (hc : Cut g H' T') {p q : PV} {v : Value} (h : RelC g p v) (hw : Wk1 H' T' p q) : RelC { g with H := H', T := T' } q v := ⟨h.1.weak hc hw, h.2⟩
theorem All2.comp {α β γ : Type} {R : α → γ → Prop} {W : α → β → Prop} {R' : β → γ → Prop} {xs : List α} {ys : List β} {zs : List γ} (h : All2 R xs zs) (hw : All2 W xs ys) (hr : ∀ x y z, R x z → W x y → R' y z) : All2 R' ys zs :=
  ⟨hw.1.symm.trans h.1, fun i y z hy hz => by
    obtain ⟨x, hx, hxy⟩ := hw.left hy
    exact hr x y z (h.2 i x z hx hz) hxy⟩
theorem RelA.live (hc : Cut g H' T') {p : PV} {v : Value} (h : RelA g p v) (hl : liveA H' T' p = true) : RelA { g with H := H', T := T' } p v := by
  cases p
  case agg cs =>
    simp only [RelA, liveA] at h hl ⊢
    obtain ⟨arr, e1, e2⟩ := h
    exact ⟨arr, e1, e2.1, fun i x y hx hy => ⟨(e2.2 i x y hx hy).1.live hc (List.all_eq_true.1 hl x (List.mem_of_getElem? hx)), (e2.2 i x y hx hy).2⟩⟩
  all_goals (simp only [RelA, liveA] at h hl ⊢; exact h.live hc hl)
theorem Rel.live (hc : Cut g H' T') {p : PV} {v : Value} (h : Rel g p v) (hl : liveV H' T' p = true) : Rel { g with H := H', T := T' } p v := by
  cases p
  case tup vs =>
    simp only [Rel, liveV] at h hl ⊢
    obtain ⟨arr, h1, h2⟩ := h
    exact ⟨arr, h1, h2.1, fun i x y hx hy => (h2.2 i x y hx hy).live hc (List.all_eq_true.1 hl x (List.mem_of_getElem? hx))⟩
  all_goals (simp only [Rel, liveV] at h hl ⊢; exact h.live hc hl)
theorem RelA.weak (hc : Cut g H' T') {p q : PV} {v : Value} (h : RelA g p v) (hw : WkA H' T' p q) : RelA { g with H := H', T := T' } q v := by
  cases hw with
  | any => trivial
  | same _ hl ht => exact h.live hc hl
  | thaw t k b xss => exact h.1
  | full k b xss => exact RelD.unfull h
  | nil o k b ho => rcases ho with rfl | rfl <;> exact RelD.ofNil k b (by simp) h
  | agg cs cs' hw =>
    simp only [RelA] at h ⊢
    obtain ⟨arr, h1, h2⟩ := h
    exact ⟨arr, h1, h2.comp hw fun x y z hx hw => hx.weak hc hw⟩
theorem Rel1.relA' {g : GG} {p : PV} {v : Value} (h : Rel1 g p v) : RelA g p v := by
  cases p <;> first | exact h | exact h.elim
theorem RelA.rel {g : GG} {p : PV} {v : Value} (h : RelA g p v) : Rel g p v := by
  cases p <;> first | exact h | exact h.elim
theorem Rel.weak (hc : Cut g H' T') {p q : PV} {v : Value} (h : Rel g p v) (hw : WkV H' T' p q) : Rel { g with H := H', T := T' } q v := by
  cases hw with
  | any => trivial
  | same _ hl => exact h.live hc hl
  | part _ _ hw =>
    have hp : (∀ vs, p ≠ .tup vs) ∨ q = .any := by
      cases hw with
      | any => exact .inr rfl
      | same _ _ ht => exact .inl ht
      | thaw => exact .inl fun _ e => by cases e
      | full => exact .inl fun _ e => by cases e
      | nil => exact .inl fun _ e => by cases e
      | agg => exact .inl fun _ e => by cases e
    rcases hp with hp | rfl
    · have hA : RelA g p v := by cases p <;> first | exact h | exact absurd rfl (hp _)
      exact (hA.weak hc hw).rel
    · trivial
  | tup vs vs' hw =>
    simp only [Rel] at h ⊢
    obtain ⟨arr, h1, h2⟩ := h
    exact ⟨arr, h1, h2.comp hw fun x y z hx hw => hx.weak hc hw⟩
end

section
variable {Gl : Nat → Option (List PV)} {S0 : Bs} {w0 : World} {s s' : PSt} {a : Act} {g : GG}
theorem Weaker.cut (hw : Weaker s s') (hH : g.H = s.H) (hT : g.T = s.T) : Cut g s'.H s'.T := by
  refine ⟨fun t x h => by rw [hT]; exact hw.T t x h, fun l cs h hl => ?_⟩
  obtain ⟨ob', hob'⟩ := Option.isSome_iff_exists.1 hl
  obtain ⟨ob, h1, h2⟩ := hw.H l ob' hob'
  rw [hH, h1] at h; cases h
  cases h2 with
  | cells _ cs' h3 => exact ⟨cs', hob', h3.1.symm⟩
theorem InvG.weak (h : InvG Gl S0 w0 s a g) (hw : Weaker s s') : InvG Gl S0 w0 s' a { g with H := s'.H, T := s'.T } := by
  have hc := hw.cut h.hH h.hT
  have hlive : ∀ l, (s'.H l).isSome = true → (g.H l).isSome = true := fun l hl => by
    obtain ⟨ob', hob'⟩ := Option.isSome_iff_exists.1 hl
    obtain ⟨ob, h1, _⟩ := hw.H l ob' hob'
    rw [h.hH, h1]; rfl
  have hsp : ∀ t B, Spare { g with H := s'.H, T := s'.T } t B → Spare g t B := by
    rintro t B ⟨n, k, off, cap, h1, h2, h3⟩
    exact ⟨n, k, off, cap, hc.T t _ h1, h2, h3⟩
  have hxs : ∀ t, (s'.X t).isSome = true → (s.X t).isSome = true := fun t ht => by
    obtain ⟨x, hx⟩ := Option.isSome_iff_exists.1 ht
    rw [(hw.X t x hx).1]; rfl
  refine { hH := rfl, hT := rfl, defers := h.defers, len := by rw [← hw.tm.1, hw.m]; exact h.len, tm := fun i p v hp hv => ?_, sub := h.sub, new := h.new, lt := h.lt, below := h.below, objs := fun l ob' hob' => ?_, inj := fun l l' h1 h2 he => h.inj l l' (hlive l h1) (hlive l' h2) he, owns := fun t n k ht => h.owns t n k (hc.T t _ ht), ownsEx := fun t t' B h1 h2 => h.ownsEx t t' B (hsp t B h1) (hsp t' B h2), ownsObj := fun t B l h1 h2 => h.ownsObj t B l (hsp t B h1) (hlive l h2), glob := h.glob, exs := fun t k b xss hx => ?_, exsEx := fun t t' B h1 h2 => h.exsEx t t' B ⟨hxs t h1.1, h1.2⟩ ⟨hxs t' h2.1, h2.2⟩, fix := fun l B hF => ⟨(h.fix l B hF).1, fun hs => (h.fix l B hF).2 (hlive l hs)⟩, fixT := fun t v n hF => ⟨(h.fixT t v n hF).1, fun n0 e => (h.fixT t v n hF).2 n0 (hc.T t _ e)⟩ }
  rotate_right
  · obtain ⟨x1, x2⟩ := hw.X t _ hx
    obtain ⟨q1, q2, q3, q4, q5, q6⟩ := h.exs t k b xss x1
    obtain ⟨y, hy⟩ := Option.isSome_iff_exists.1 x2
    have hyy := hc.T t y hy
    rw [q1] at hyy; cases hyy
    refine ⟨hy, q2, q3, q4, q5, q6.imp id ?_⟩
    rintro ⟨B, cap, e, hc0, h1, h2, h3, h4, h5, h6, h7, h8⟩
    exact ⟨B, cap, e, hc0, h1, h2, h3, h4, h5, h6, fun l hl => h7 l (hlive l hl), fun t' ht' => h8 t' (hsp t' B ht')⟩
  · obtain ⟨q, hq, hqp⟩ := hw.tm.left hp
    exact (h.tm i q v hq hv).weak hc hqp
  · obtain ⟨ob, h1, h2⟩ := hw.H l ob' hob'
    obtain ⟨k1, k2, k3, k4⟩ := h.objs l ob (by rw [h.hH]; exact h1)
    refine ⟨k1, k2, k3, ?_⟩
    cases h2 with
    | cells cs cs' h3 =>
      obtain ⟨vs, e1, e2, e3⟩ := k4
      exact ⟨vs, e1.comp h3 fun x y z hx hw => hx.weak hc hw, e2, e3⟩
    | map es => exact k4
    | iter b pos => exact k4
    | miter ks vs left cur => exact k4
    | mapo es k b tk hT =>
      obtain ⟨e0, arr, clock, e1, e2, e3⟩ := k4
      exact ⟨e0, arr, clock, e1, e2, fun i e m he hm => ⟨(e3 i e m he hm).1, (e3 i e m he hm).2.live hc (hT i (List.getElem?_eq_some_iff.1 he).1)⟩⟩
    | mapf es k b tk =>
      obtain ⟨e0, arr, clock, e1, e2, e3⟩ := k4
      refine ⟨arr, clock, e1, by simp [e2], fun i p m hp hm => ?_⟩
      rw [List.getElem?_map] at hp
      obtain ⟨e, he, rfl⟩ := Option.map_eq_some_iff.1 hp
      obtain ⟨q1, q2⟩ := e3 i e m he (by simpa using hm)
      exact ⟨q1, q2.1, rfl⟩
theorem Inv.weak {w : World} (h : Inv Gl S0 w0 s a w) (hw : Weaker s s') : Inv Gl S0 w0 s' a w := by
  obtain ⟨g, rfl, hg⟩ := h
  exact ⟨{ g with H := s'.H, T := s'.T }, rfl, hg.weak hw⟩
end
end PM
/-
  THE PURE MACHINE, D: operations that leave memory alone: what they yield (plain functions on PV), and that the model's operations yield it.
-/
namespace PM
open Go Go.RowKit

/-! ### What is read off the types -/
def isRowD : TypeDesc → Bool
  | .struct _ | .array _ _ => true
  | _ => false
/-- Is a value of the type an aggregate? How many cells has it? -/
def tyK (P : Program) (t : TypeId) : Option (Bool × Nat) :=
  match P.info? t, P.underlying t with
  | some i, some d => some (isRowD d, i.size)
  | _, _ => none
/-- A field's offset, whether it is an aggregate, its size. -/
def fieldK (P : Program) (t : TypeId) (f : Nat) : Option (Nat × Bool × Nat) :=
  match P.underlying t with
  | some (.struct fs) => match fs[f]? with
    | some fl => (tyK P fl.type).map fun x => (fl.offset, x.1, x.2)
    | none => none
  | _ => none
/-- A slice type's element: its type, whether it is an aggregate, its cells, its bytes. -/
def elemK (P : Program) (t : TypeId) : Option (TypeId × Bool × Nat × Nat) :=
  match P.underlying t with
  | some (.slice e) => match P.info? e, tyK P e with
    | some i, some x => some (e, x.1, x.2, i.bytes)
    | _, _ => none
  | _ => none
/-- An array type: its length, whether an element is an aggregate, an element's cells. -/
def arrK (P : Program) (t : TypeId) : Option (Nat × Bool × Nat) :=
  match P.underlying t with
  | some (.array n e) => (tyK P e).map fun x => (n, x.1, x.2)
  | _ => none
def ofConst1 : Value → PV
  | .int k n => .int k n
  | .bool b => .bool b
  | .string s => .str s
  | .slice none 0 0 => .nil
  | .map none => .fmp [] []
  | _ => .any
def ofConst : Value → PV
  | .agg arr => .agg (arr.toList.map ofConst1)
  | v => ofConst1 v
def zeroK (P : Program) (t : TypeId) : Option PV :=
  match P.info? t with
  | some i => match i.zero with
    | some z => if z.cells.toList.all (·.oneCell') = true then some (ofConst z) else none
    | none => none
  | none => none
theorem zeroK_spec {P : Program} {t : TypeId} {z : PV} (h : zeroK P t = some z) : ∃ i zv, P.info? t = some i ∧ i.zero = some zv ∧ ofConst zv = z ∧ ∀ v ∈ zv.cells.toList, v.oneCell' = true := by
  unfold zeroK at h
  split at h
  · rename_i i hi
    split at h
    · rename_i zv hz
      split at h
      · rename_i hc
        cases h
        exact ⟨i, zv, hi, hz, rfl, fun v hv => List.all_eq_true.1 hc v hv⟩
      · cases h
    · cases h
  · cases h
def strT (P : Program) (t : TypeId) : Bool := match P.underlying t with | some .string => true | _ => false
def boolT (P : Program) (t : TypeId) : Bool := match P.underlying t with | some .bool => true | _ => false
def sliceT (P : Program) (t : TypeId) : Bool := match P.underlying t with | some (.slice _) => true | _ => false
def mapT (P : Program) (t : TypeId) : Bool := match P.underlying t with | some (.map _ _) => true | _ => false
def intT (P : Program) (t : TypeId) : Option IntKind := match P.underlying t with | some (.int k) => some k | _ => none

/-- The kinds of the cells of a type whose values are compared cell by cell. -/
inductive CK where
  | i (k : IntKind) | b | s
def eqFs (P : Program) (f : TypeId → Option (List CK)) : List Field → Nat → Option (List CK)
  | [], _ => some []
  | fl :: rest, off =>
    if fl.name = "_" ∨ fl.offset ≠ off then none else
    match f fl.type, tyK P fl.type with
    | some ks, some (_, n) => if n = ks.length ∧ n ≠ 0 then (eqFs P f rest (off + n)).map (ks ++ ·) else none
    | _, _ => none
def eqKd (P : Program) : Nat → TypeId → Option (List CK)
  | 0, _ => none
  | d + 1, t =>
    match P.underlying t with
    | some .bool => some [.b]
    | some (.int k) => some [.i k]
    | some .string => some [.s]
    | some (.struct fs) => if P.stoodInHeld t then none else eqFs P (eqKd P d) fs.toList 0
    | _ => none
/-- The same, where no field is of an interface type. -/
def structT (P : Program) (t : TypeId) : Bool := match P.underlying t with | some (.struct _) => true | _ => false
def eqK (P : Program) (t : TypeId) : Option (List CK) := if P.eqGuardType P.depth t || !structT P t then none else eqKd P 10000 t

/-- Are two rows of cells equal? -/
def peq : List CK → List PV → List PV → Option Bool
  | [], [], [] => some true
  | .i k :: ks, .int k1 a :: xs, .int k2 b :: ys => if k1 = k ∧ k2 = k then (peq ks xs ys).map (decide (a = b) && ·) else none
  | .b :: ks, .bool a :: xs, .bool b :: ys => (peq ks xs ys).map ((a == b) && ·)
  | .s :: ks, .str a :: xs, .str b :: ys => (peq ks xs ys).map (decide (a = b) && ·)
  | _, _, _ => none

section
variable {P : Program}
theorem tyK_spec {t : TypeId} {x : Bool × Nat} (h : tyK P t = some x) : ∃ i d, P.info? t = some i ∧ P.underlying t = some d ∧ x = (isRowD d, i.size) := by
  unfold tyK at h
  split at h
  · rename_i i d h1 h2
    cases h
    exact ⟨i, d, h1, h2, rfl⟩
  · cases h
theorem elemK_spec {t : TypeId} {e : TypeId} {x : Bool} {n b : Nat} (h : elemK P t = some (e, x, n, b)) : ∃ i d, P.underlying t = some (.slice e) ∧ P.info? e = some i ∧ P.underlying e = some d ∧ x = isRowD d ∧ n = i.size ∧ b = i.bytes := by
  unfold elemK at h
  split at h
  · rename_i e' he
    split at h
    · rename_i i x' h1 h2
      cases h
      obtain ⟨i', d, h3, h4, rfl⟩ := tyK_spec h2
      rw [h1] at h3; cases h3
      exact ⟨i, d, he, h1, h4, rfl, rfl, rfl⟩
    · cases h
  · cases h
theorem arrK_spec {t : TypeId} {n k : Nat} {x : Bool} (h : arrK P t = some (n, x, k)) : ∃ e i d, P.underlying t = some (.array n e) ∧ P.info? e = some i ∧ P.underlying e = some d ∧ x = isRowD d ∧ k = i.size := by
  unfold arrK at h
  split at h
  · rename_i n' e he
    cases hk : tyK P e with
    | none => simp [hk] at h
    | some y =>
      obtain ⟨i, d, h1, h2, rfl⟩ := tyK_spec hk
      simp [hk] at h
      obtain ⟨rfl, rfl, rfl⟩ := h
      exact ⟨e, i, d, he, h1, h2, rfl, rfl⟩
  · cases h
theorem fieldK_spec {t : TypeId} {f off n : Nat} {x : Bool} (h : fieldK P t f = some (off, x, n)) : ∃ fs fl i d, P.underlying t = some (.struct fs) ∧ fs[f]? = some fl ∧ fl.offset = off ∧ P.info? fl.type = some i ∧ P.underlying fl.type = some d ∧ x = isRowD d ∧ n = i.size := by
  unfold fieldK at h
  split at h
  · rename_i fs hfs
    split at h
    · rename_i fl hfl
      cases hk : tyK P fl.type with
      | none => simp [hk] at h
      | some y =>
        obtain ⟨i, d, h1, h2, rfl⟩ := tyK_spec hk
        simp [hk] at h
        obtain ⟨rfl, rfl, rfl⟩ := h
        exact ⟨fs, fl, i, d, hfs, hfl, rfl, h1, h2, rfl, rfl⟩
    · cases h
  · cases h
theorem run_isAgg {t : TypeId} {d : TypeDesc} (h : P.underlying t = some d) (w : World) : (isAgg t).run P w = .ok (isRowD d) w := by
  unfold isAgg
  rw [Sem.run_bind, run_underlying h]
  cases d <;> rfl
theorem run_sizeOf {t : TypeId} {i : TypeInfo} (h : P.info? t = some i) (w : World) : (Go.sizeOf t).run P w = Result.ok i.size w := by
  simp [Go.sizeOf, typeInfo, h]

theorem rel_ofConst1 (g : GG) (v : Value) : Rel g (ofConst1 v) v := by
  unfold ofConst1
  split <;> first | trivial | simp [Rel, RelA, Rel1, RelD]
theorem ofConst1_one (v : Value) (h : v.oneCell' = true) (g : GG) : RelC g (ofConst1 v) v := by
  refine ⟨?_, h⟩
  unfold ofConst1
  split <;> first | trivial | simp [Rel1, RelD]

/-! ### Operands -/
def PSt.ev (s : PSt) : Operand → PV
  | .tmp t => s.get t
  | .const v => ofConst1 v
  | .global i => .gptr i 0
  | .func f => .fn f []
theorem InvG.ev {Gl : Nat → Option (List PV)} {S0 : Bs} {w0 : World} {s : PSt} {a : Act} {g : GG} (h : InvG Gl S0 w0 s a g) (x : Operand) : Rel g (s.ev x) (a.eval x) := by
  cases x with
  | tmp t => exact h.get t
  | const v => exact rel_ofConst1 g v
  | global i => simp [PSt.ev, Act.eval, Rel, RelA, Rel1, RelD]
  | func f => simp [PSt.ev, Act.eval, Rel, RelA, Rel1, All2]

/-! ### Comparing cell by cell -/
def CK.fits : CK → Value → Bool
  | .i k, .int k' _ => k = k'
  | .b, .bool _ => true
  | .s, .string _ => true
  | _, _ => false
def eqCell : Value → Value → Bool
  | .int _ a, .int _ b => a == b
  | .bool a, .bool b => a == b
  | .string a, .string b => a.toList == b.toList
  | _, _ => false
def eqCells : List Value → List Value → Bool
  | [], [] => true
  | x :: xs, y :: ys => eqCell x y && eqCells xs ys
  | _, _ => false
theorem eqCells_append : ∀ {xs xs' ys ys' : List Value}, xs.length = ys.length → eqCells (xs ++ xs') (ys ++ ys') = (eqCells xs ys && eqCells xs' ys')
  | [], _, [], _, _ => by simp [eqCells]
  | x :: xs, xs', y :: ys, ys', h => by
    simp only [List.cons_append, eqCells, eqCells_append (xs := xs) (ys := ys) (by simpa using h), Bool.and_assoc]
/-- The value of a type over cells. -/
def wrapV (d : TypeDesc) (xs : List Value) : Value := if isRowD d then .agg xs.toArray else xs.headD undef
theorem run_part {t : TypeId} {i : TypeInfo} {d : TypeDesc} (hi : P.info? t = some i) (hd : P.underlying t = some d) (cs : Array Value) (off : Nat) (h : off + i.size ≤ cs.size) (hs : isRowD d = false → i.size = 1) (w : World) :
    (part t cs off).run P w = .ok (wrapV d ((cs.toList.drop off).take i.size)) w := by
  unfold part wrapV
  rw [Sem.run_bind, run_isAgg hd]
  cases hr : isRowD d with
  | true =>
    simp only [Result.andThen_ok, if_true, Sem.run_bind, run_sizeOf hi, Sem.run_pure]
    congr 2
    apply Array.ext'
    simp
  | false =>
    have h1 := hs hr
    have hlt : off < cs.size := by omega
    simp only [Result.andThen_ok, Bool.false_eq_true, if_false, Array.getElem?_eq_getElem hlt, Sem.run_pure]
    congr 1
    rw [h1, List.drop_eq_getElem_cons (by simpa using hlt)]
    simp
def fitsAll : List CK → List Value → Bool
  | [], [] => true
  | k :: ks, v :: vs => k.fits v && fitsAll ks vs
  | _, _ => false
theorem fitsAll_length : ∀ {ks : List CK} {vs : List Value}, fitsAll ks vs = true → ks.length = vs.length
  | [], [], _ => rfl
  | k :: ks, v :: vs, h => by
    simp only [fitsAll, Bool.and_eq_true] at h
    simp [fitsAll_length h.2]
theorem fitsAll_split : ∀ {ks ks' : List CK} {vs : List Value}, fitsAll (ks ++ ks') vs = true → fitsAll ks (vs.take ks.length) = true ∧ fitsAll ks' (vs.drop ks.length) = true
  | [], ks', vs, h => by simpa [fitsAll] using h
  | k :: ks, ks', [], h => by simp [fitsAll] at h
  | k :: ks, ks', v :: vs, h => by
    simp only [List.cons_append, fitsAll, Bool.and_eq_true] at h
    have := fitsAll_split h.2
    simp [fitsAll, h.1, this.1, this.2]
theorem fits_one {k : CK} {xs : List Value} (h : fitsAll [k] xs = true) : ∃ x, xs = [x] ∧ k.fits x = true := by
  match xs, h with
  | [], h => simp [fitsAll] at h
  | [x], h => exact ⟨x, rfl, by simpa [fitsAll] using h⟩
  | _ :: _ :: _, h => simp [fitsAll] at h
theorem run_equalIn_cells : ∀ (d : Nat) (t : TypeId) (ks : List CK) (td : TypeDesc) (xs ys : List Value) (w : World), eqKd P d t = some ks → P.underlying t = some td → fitsAll ks xs = true → fitsAll ks ys = true →
    (Op.equalIn d t (wrapV td xs) (wrapV td ys)).run P w = .ok (eqCells xs ys) w
  | 0, _, _, _, _, _, _, h, _, _, _ => by simp [eqKd] at h
  | d + 1, t, ks, td, xs, ys, w, h, ht, hx, hy => by
    unfold eqKd at h
    rw [ht] at h
    cases td <;> simp only at h <;> try cases h
    case bool =>
      obtain ⟨x, rfl, gx⟩ := fits_one hx
      obtain ⟨y, rfl, gy⟩ := fits_one hy
      clear hx hy
      cases x <;> simp only [CK.fits] at gx <;> try cases gx
      cases y <;> simp only [CK.fits] at gy <;> try cases gy
      simp [wrapV, isRowD, run_equalIn_bool' w d t _ _ ht, eqCells, eqCell]
    case int k =>
      obtain ⟨x, rfl, gx⟩ := fits_one hx
      obtain ⟨y, rfl, gy⟩ := fits_one hy
      clear hx hy
      cases x <;> simp only [CK.fits, decide_eq_true_eq] at gx <;> try cases gx
      cases y <;> simp only [CK.fits, decide_eq_true_eq] at gy <;> try cases gy
      simp [wrapV, isRowD, run_equalIn_int w d t _ _ _ _ ht, eqCells, eqCell]
    case string =>
      obtain ⟨x, rfl, gx⟩ := fits_one hx
      obtain ⟨y, rfl, gy⟩ := fits_one hy
      clear hx hy
      cases x <;> simp only [CK.fits] at gx <;> try cases gx
      cases y <;> simp only [CK.fits] at gy <;> try cases gy
      simp [wrapV, isRowD, run_equalIn_string w d t _ _ ht, eqCells, eqCell]
    case struct fs =>
      by_cases hs : P.stoodInHeld t = true
      · rw [if_pos hs] at h; cases h
      · rw [if_neg hs] at h
        have hf : P.fieldsOf t = fs := by simp [Program.fieldsOf, ht]
        have e := run_equalIn_struct (P := P) w d t xs.toArray ys.toArray (by rw [hf]; exact ht) (by simpa using hs)
        have hw : ∀ l : List Value, wrapV (.struct fs) l = .agg l.toArray := fun l => by simp [wrapV, isRowD]
        rw [hw, hw, e, hf]
        have key : ∀ (l : List Field) (off : Nat) (ks : List CK) (w : World), eqFs P (eqKd P d) l off = some ks → fitsAll ks (xs.drop off) = true → fitsAll ks (ys.drop off) = true →
            (Op.eqFields d xs.toArray ys.toArray l).run P w = .ok (eqCells (xs.drop off) (ys.drop off)) w := by
          intro l
          induction l with
          | nil =>
            intro off ks w h1 h2 h3
            simp only [eqFs] at h1
            cases h1
            have l1 := fitsAll_length h2
            have l2 := fitsAll_length h3
            rw [List.eq_nil_of_length_eq_zero l1.symm, List.eq_nil_of_length_eq_zero l2.symm]
            simp [Op.eqFields, eqCells]
          | cons fl l ih =>
            intro off ks w h1 h2 h3
            simp only [eqFs] at h1
            split at h1
            · cases h1
            · rename_i hno
              split at h1
              · rename_i ks1 b n hk1 htk
                split at h1
                · rename_i hn
                  obtain ⟨i, td', hi, hd, hxx⟩ := tyK_spec htk
                  have hni : n = i.size := (Prod.mk.inj hxx).2
                  cases hr : eqFs P (eqKd P d) l (off + n) with
                  | none => simp [hr] at h1
                  | some ks2 =>
                    simp [hr] at h1
                    subst h1
                    have hoff : fl.offset = off := by
                      rcases Nat.decEq fl.offset off with e | e
                      · exact absurd (.inr e) hno
                      · exact e
                    have hname : fl.name ≠ "_" := fun e => hno (.inl e)
                    obtain ⟨x1, x2⟩ := fitsAll_split h2
                    obtain ⟨y1, y2⟩ := fitsAll_split h3
                    rw [List.drop_drop, ← hn.1] at x2 y2
                    have lx := fitsAll_length h2
                    have ly := fitsAll_length h3
                    simp only [List.length_append, List.length_drop] at lx ly
                    have hsz : isRowD td' = false → i.size = 1 := fun hrow => by
                      rw [← hni, hn.1]
                      have hk2 := hk1
                      cases d with
                      | zero => simp [eqKd] at hk2
                      | succ d =>
                        unfold eqKd at hk2
                        rw [hd] at hk2
                        cases td' <;> simp only at hk2 <;> first | (cases hk2; done) | (cases hk2; rfl) | (simp [isRowD] at hrow)
                    have px := run_part (P := P) hi hd xs.toArray off (by simp; omega) hsz w
                    have py := run_part (P := P) hi hd ys.toArray off (by simp; omega) hsz w
                    simp only [Op.eqFields, if_pos hname, hoff, Sem.run_bind, px, py, Result.andThen_ok]
                    rw [← hni, hn.1]
                    rw [run_equalIn_cells d fl.type ks1 td' _ _ w hk1 hd x1 y1]
                    simp only [Result.andThen_ok]
                    have split : ∀ l : List Value, l.drop off = (l.drop off).take ks1.length ++ l.drop (off + n) := fun l => by
                      rw [hn.1, ← List.drop_drop, List.take_append_drop]
                    have hsum : eqCells (xs.drop off) (ys.drop off) = (eqCells (List.take ks1.length (List.drop off xs)) (List.take ks1.length (List.drop off ys)) && eqCells (xs.drop (off + n)) (ys.drop (off + n))) := by
                      rw [← eqCells_append (by simp; omega), ← split xs, ← split ys]
                    rw [hsum]
                    cases hcc : eqCells (List.take ks1.length (List.drop off xs)) (List.take ks1.length (List.drop off ys))
                    · simp
                    · simp [ih (off + n) ks2 w hr x2 y2]
                · cases h1
              · cases h1
        have := key fs.toList 0 ks w h (by simpa using hx) (by simpa using hy)
        simpa using this
end
end PM
/-
  THE PURE MACHINE, E: operations that yield a value and leave memory alone.
-/
namespace PM
open Go Go.RowKit

def evInt (op : BinOp) (k : IntKind) (a b : Int) : Option PV :=
  match op with
  | .add => some (.int k (k.wrap (a + b)))
  | .sub => some (.int k (k.wrap (a - b)))
  | .mul => some (.int k (k.wrap (a * b)))
  | .quo => if b = 0 then none else some (.int k (k.wrap (a.tdiv b)))
  | .rem => if b = 0 then none else some (.int k (a.tmod b))
  | .eql => some (.bool (decide (a = b)))
  | .neq => some (.bool (!decide (a = b)))
  | .lss => some (.bool (decide (a < b)))
  | .leq => some (.bool (decide (a ≤ b)))
  | .gtr => some (.bool (decide (b < a)))
  | .geq => some (.bool (decide (b ≤ a)))
  | .and => some (.int k (k.wrap ((BitVec.ofInt k.bits a &&& BitVec.ofInt k.bits b).toNat)))
  | .or => some (.int k (k.wrap ((BitVec.ofInt k.bits a ||| BitVec.ofInt k.bits b).toNat)))
  | .xor => some (.int k (k.wrap ((BitVec.ofInt k.bits a ^^^ BitVec.ofInt k.bits b).toNat)))
  | .andNot => some (.int k (k.wrap ((BitVec.ofInt k.bits a &&& ~~~ BitVec.ofInt k.bits b).toNat)))
  | _ => none
def evShift (op : BinOp) (k : IntKind) (a b : Int) : Option PV :=
  if b < 0 then none else
  match op with
  | .shl => some (.int k (k.wrap (a * 2 ^ (min b.toNat k.bits))))
  | .shr => some (.int k (a.fdiv (2 ^ (min b.toNat k.bits))))
  | _ => none
def evStr (op : BinOp) (a b : ByteArray) : Option PV :=
  match op with
  | .add => if a.size + b.size ≤ 9223372036854775807 then some (.str (a ++ b)) else none
  | .eql => some (.bool (decide (a = b)))
  | .neq => some (.bool (!decide (a = b)))
  | .lss => some (.bool (Op.bytesLess a.toList b.toList))
  | .leq => some (.bool (Op.bytesLess a.toList b.toList || decide (a = b)))
  | .gtr => some (.bool (!(Op.bytesLess a.toList b.toList || decide (a = b))))
  | .geq => some (.bool (!Op.bytesLess a.toList b.toList))
  | _ => none
def evEq (op : BinOp) (b : Bool) : Option PV :=
  match op with
  | .eql => some (.bool b)
  | .neq => some (.bool (!b))
  | _ => none
def evBin (P : Program) (op : BinOp) (t : TypeId) : PV → PV → Option PV
  | .int k a, .int k' b =>
    match op with
    | .shl => evShift .shl k a b
    | .shr => evShift .shr k a b
    | op => if k = k' then evInt op k a b else none
  | .str a, .str b => evStr op a b
  | .bool a, .bool b => if boolT P t then evEq op (a == b) else none
  | .agg xs, .agg ys =>
    match eqK P t with
    | some ks => (peq ks xs ys).bind (evEq op)
    | none => none
  | .lst _ _ _ xss, .nil => if sliceT P t = true ∧ op = .eql then some (.ub xss.isEmpty) else none
  | _, _ => none

section
variable {P : Program} {g : GG} {w : World}
theorem Rel.of1 {p : PV} {v : Value} (h : Rel1 g p v) : Rel g p v := by
  cases p <;> first | exact h | exact h.elim
theorem relInt {k : IntKind} {n : Int} {v : Value} : Rel g (.int k n) v ↔ v = .int k n := by simp [Rel, RelA, Rel1, RelD]
theorem relBool {b : Bool} {v : Value} : Rel g (.bool b) v ↔ v = .bool b := by simp [Rel, RelA, Rel1, RelD]
theorem relStr {s : ByteArray} {v : Value} : Rel g (.str s) v ↔ v = .string s := by simp [Rel, RelA, Rel1, RelD]
theorem decide_toList (a b : ByteArray) : (a.toList == b.toList) = decide (a = b) := by
  rw [← beq_toListBytes]
  by_cases h : a = b
  · rw [decide_eq_true h, h]
    rw [beq_toListBytes]; simp
  · rw [decide_eq_false h]
    rw [beq_toListBytes, ByteArray.toList_eq, ByteArray.toList_eq]
    have : ¬ a.data.toList = b.data.toList := fun e => h (by cases a; cases b; simp only [ByteArray.mk.injEq]; exact Array.ext' e)
    simpa using this

theorem peq_spec : ∀ {ks : List CK} {xs ys : List PV} {us vs : List Value} {b : Bool}, peq ks xs ys = some b → All2 (RelC g) xs us → All2 (RelC g) ys vs →
    fitsAll ks us = true ∧ fitsAll ks vs = true ∧ eqCells us vs = b
  | [], xs, ys, us, vs, b, h, hx, hy => by
    cases xs <;> cases ys <;> simp [peq] at h
    subst h
    rw [hx.nil_left, hy.nil_left]
    simp [fitsAll, eqCells]
  | k :: ks, [], ys, us, vs, b, h, hx, hy => by cases k <;> cases ys <;> simp [peq] at h
  | k :: ks, x :: xs, [], us, vs, b, h, hx, hy => by cases k <;> simp [peq] at h
  | k :: ks, x :: xs, y :: ys, us, vs, b, h, hx, hy => by
    obtain ⟨u, us', rfl, hu, hus⟩ := hx.cons_left
    obtain ⟨v, vs', rfl, hv, hvs⟩ := hy.cons_left
    cases k <;> cases x <;> cases y <;> simp only [peq] at h <;> try cases h
    case i k k1 a k2 c =>
      by_cases hk : k1 = k ∧ k2 = k
      · rw [if_pos hk] at h
        obtain ⟨rfl, rfl⟩ := hk
        obtain ⟨b', hb', rfl⟩ := Option.map_eq_some_iff.1 h
        obtain ⟨h1, h2, h3⟩ := peq_spec hb' hus hvs
        have eu : u = .int k2 a := by simpa [RelC, Rel1, RelD] using hu.1
        have ev : v = .int k2 c := by simpa [RelC, Rel1, RelD] using hv.1
        subst eu; subst ev
        exact ⟨by simp [fitsAll, CK.fits, h1], by simp [fitsAll, CK.fits, h2], by simp only [eqCells, eqCell, h3]; rfl⟩
      · rw [if_neg hk] at h; cases h
    case b a c =>
      obtain ⟨b', hb', rfl⟩ := Option.map_eq_some_iff.1 h
      obtain ⟨h1, h2, h3⟩ := peq_spec hb' hus hvs
      have eu : u = .bool a := by simpa [RelC, Rel1, RelD] using hu.1
      have ev : v = .bool c := by simpa [RelC, Rel1, RelD] using hv.1
      subst eu; subst ev
      exact ⟨by simp [fitsAll, CK.fits, h1], by simp [fitsAll, CK.fits, h2], by simp [eqCells, eqCell, h3]⟩
    case s a c =>
      obtain ⟨b', hb', rfl⟩ := Option.map_eq_some_iff.1 h
      obtain ⟨h1, h2, h3⟩ := peq_spec hb' hus hvs
      have eu : u = .string a := by simpa [RelC, Rel1, RelD] using hu.1
      have ev : v = .string c := by simpa [RelC, Rel1, RelD] using hv.1
      subst eu; subst ev
      exact ⟨by simp [fitsAll, CK.fits, h1], by simp [fitsAll, CK.fits, h2], by simp [eqCells, eqCell, h3, decide_toList]⟩
theorem eqKd_row {d : Nat} {t : TypeId} {ks : List CK} (h : eqKd P d t = some ks) : ∃ td, P.underlying t = some td := by
  cases d with
  | zero => simp [eqKd] at h
  | succ d =>
    unfold eqKd at h
    cases ht : P.underlying t with
    | none => simp [ht] at h
    | some td => exact ⟨td, rfl⟩
theorem run_evEq {op : BinOp} {b : Bool} {r : PV} (h : evEq op b = some r) : (op = .eql ∧ r = .bool b) ∨ (op = .neq ∧ r = .bool !b) := by
  cases op <;> simp [evEq] at h
  · exact .inl ⟨rfl, h.symm⟩
  · exact .inr ⟨rfl, h.symm⟩
theorem beqInt (a b : Int) : (a == b) = decide (a = b) := by
  by_cases h : a = b <;> simp [h]
theorem run_evInt {op : BinOp} {t : TypeId} {k : IntKind} {a b : Int} {r : PV} (h : evInt op k a b = some r) :
    ∃ z, (do pure (); binOp op t (.int k a) (.int k b) : Sem Value).run P w = .ok z w ∧ Rel g r z := by
  unfold evInt at h
  split at h <;> first
    | (cases h; exact ⟨_, by simp only [binOp_add, Op.intArith]; rfl, relInt.2 rfl⟩)
    | (cases h; exact ⟨_, by simp only [binOp_sub, Op.intArith]; rfl, relInt.2 rfl⟩)
    | (cases h; exact ⟨_, by simp only [binOp_mul, Op.intArith]; rfl, relInt.2 rfl⟩)
    | (cases h; exact ⟨_, by simp only [binOp_eql]; rfl, relBool.2 (by rw [beqInt])⟩)
    | (cases h; exact ⟨_, by simp only [binOp_neq]; rfl, relBool.2 (by simp only [bne, beqInt])⟩)
    | (cases h; exact ⟨_, by simp only [binOp_lss]; rfl, relBool.2 rfl⟩)
    | (cases h; exact ⟨_, by simp only [binOp_leq]; rfl, relBool.2 rfl⟩)
    | (cases h; exact ⟨_, by simp only [binOp_gtr]; rfl, relBool.2 rfl⟩)
    | (cases h; exact ⟨_, by simp only [binOp_geq]; rfl, relBool.2 rfl⟩)
    | (cases h; exact ⟨_, by simp only [binOp_and, Op.intBits]; rfl, relInt.2 rfl⟩)
    | (cases h; exact ⟨_, by simp only [binOp_or, Op.intBits]; rfl, relInt.2 rfl⟩)
    | (cases h; exact ⟨_, by simp only [binOp_xor, Op.intBits]; rfl, relInt.2 rfl⟩)
    | (cases h; exact ⟨_, by simp only [binOp_andNot, Op.intBits]; rfl, relInt.2 rfl⟩)
    | (cases h; done)
    | skip
  · by_cases hb : b = 0
    · rw [if_pos hb] at h; cases h
    · rw [if_neg hb] at h; cases h
      exact ⟨_, by simp only [binOp_quo, Op.intDiv, if_neg hb]; rfl, relInt.2 rfl⟩
  · by_cases hb : b = 0
    · rw [if_pos hb] at h; cases h
    · rw [if_neg hb] at h; cases h
      exact ⟨_, by simp only [binOp_rem, Op.intDiv, if_neg hb]; rfl, relInt.2 rfl⟩
theorem run_equalIn_slice_nil (w : World) (d : Nat) (t e : TypeId) (a : Option Addr) (n c n' c' : Nat) (h : P.underlying t = some (.slice e)) : (Op.equalIn (d + 1) t (.slice a n c) (.slice none n' c')).run P w = .ok a.isNone w := by
  cases a <;> simp [Op.equalIn, run_underlying h]
theorem run_eql_slice_nil (w : World) (t e : TypeId) (a : Option Addr) (n c n' c' : Nat) (h : P.underlying t = some (.slice e)) : (binOp .eql t (.slice a n c) (.slice none n' c')).run P w = .ok (.bool a.isNone) w := by
  simp only [binOp]
  simp [Op.equal, Op.maxDepth, run_equalIn_slice_nil w 9999 t e a n c n' c' h]
theorem run_evBin {op : BinOp} {t : TypeId} {x y : Operand} {p q r : PV} {u v : Value} (h : evBin P op t p q = some r) (hu : Rel g p u) (hv : Rel g q v) :
    ∃ z, (do eqGuard op t x y u v; binOp op t u v : Sem Value).run P w = .ok z w ∧ Rel g r z := by
  cases p <;> cases q <;> simp only [evBin] at h <;> try cases h
  case int k a k' b =>
    rw [relInt] at hu hv
    subst hu; subst hv
    have hg : eqGuard op t x y (.int k a) (.int k' b) = pure () := eqGuard_at_int op t x y _ k a
    rw [hg]
    by_cases hs : op = .shl ∨ op = .shr
    · have hsh : evShift op k a b = some r := by rcases hs with rfl | rfl <;> exact h
      unfold evShift at hsh
      by_cases hb : b < 0
      · rw [if_pos hb] at hsh; cases hsh
      · rw [if_neg hb] at hsh
        rcases hs with rfl | rfl <;> simp only [Option.some.injEq] at hsh <;> subst hsh <;>
          exact ⟨_, by simp [binOp, Op.shift, hb], relInt.2 rfl⟩
    · have hsh : (if k = k' then evInt op k a b else none) = some r := by
        cases op <;> first | exact h | exact absurd (.inl rfl) hs | exact absurd (.inr rfl) hs
      by_cases hk : k = k'
      · subst hk
        rw [if_pos rfl] at hsh
        exact run_evInt hsh
      · rw [if_neg hk] at hsh; cases hsh
  case bool a b =>
    rw [relBool] at hu hv
    subst hu; subst hv
    have hg : eqGuard op t x y (.bool a) (.bool b) = pure () := eqGuard_at_bool op t x y _ a
    rw [hg]
    by_cases hb : boolT P t = true
    · rw [if_pos hb] at h
      have ht : P.underlying t = some .bool := by
        unfold boolT at hb
        split at hb
        · assumption
        · cases hb
      rcases run_evEq h with ⟨rfl, rfl⟩ | ⟨rfl, rfl⟩
      · exact ⟨_, by simp only [binOp]; simp [Op.equal, Op.maxDepth, run_equalIn_bool' w 9999 t a b ht], relBool.2 rfl⟩
      · exact ⟨_, by simp only [binOp]; simp [Op.equal, Op.maxDepth, run_equalIn_bool' w 9999 t a b ht], relBool.2 rfl⟩
    · rw [if_neg hb] at h; cases h
  case str a b =>
    rw [relStr] at hu hv
    subst hu; subst hv
    have hg : eqGuard op t x y (.string a) (.string b) = pure () := eqGuard_at_string op t x y _ a
    rw [hg]
    unfold evStr at h
    split at h <;> first
      | (cases h; exact ⟨_, by simp only [binOp_string_eql]; rfl, relBool.2 (by rw [decide_toList])⟩)
      | (cases h; exact ⟨_, by simp only [binOp_string_neq]; rfl, relBool.2 (by rw [decide_toList])⟩)
      | (cases h; exact ⟨_, by simp only [binOp_string_lss]; rfl, relBool.2 rfl⟩)
      | (cases h; exact ⟨_, by simp only [binOp_string_leq]; rfl, relBool.2 (by rw [decide_toList])⟩)
      | (cases h; exact ⟨_, by simp only [binOp_string_gtr]; rfl, relBool.2 (by rw [decide_toList])⟩)
      | (cases h; exact ⟨_, by simp only [binOp_string_geq]; rfl, relBool.2 rfl⟩)
      | (cases h; done)
      | skip
    · by_cases hs : a.size + b.size ≤ 9223372036854775807
      · rw [if_pos hs] at h; cases h
        have hs' : ¬ (9223372036854775807 < ((a.size : Int) + (b.size : Int))) := by omega
        exact ⟨_, by simp [binOp, Op.stringOp, hs'], relStr.2 rfl⟩
      · rw [if_neg hs] at h; cases h
  case agg xs ys =>
    simp only [Rel, RelA] at hu hv
    obtain ⟨us, rfl, hus⟩ := hu
    obtain ⟨vs, rfl, hvs⟩ := hv
    cases hk : eqK P t with
    | none => simp [hk] at h
    | some ks =>
      simp only [hk] at h
      obtain ⟨b, hb, hr⟩ := Option.bind_eq_some_iff.1 h
      obtain ⟨h1, h2, h3⟩ := peq_spec hb hus hvs
      unfold eqK at hk
      by_cases hgt : (P.eqGuardType P.depth t || !structT P t) = true
      · rw [if_pos hgt] at hk; cases hk
      · rw [if_neg hgt] at hk
        simp only [Bool.or_eq_true, Bool.not_eq_true', not_or] at hgt
        have hge := run_eqGuard_agg (P := P) w op t x y us vs (by simpa using hgt.1)
        obtain ⟨td, htd⟩ := eqKd_row hk
        have hst : ∃ fs, td = .struct fs := by
          have := hgt.2
          unfold structT at this
          rw [htd] at this
          cases td <;> first | exact ⟨_, rfl⟩ | (simp at this)
        obtain ⟨fs, rfl⟩ := hst
        have he := run_equalIn_cells (P := P) 10000 t ks _ us.toList vs.toList w hk htd h1 h2
        have hw : ∀ l : Array Value, wrapV (.struct fs) l.toList = .agg l := fun l => by simp [wrapV, isRowD]
        rw [hw, hw, h3] at he
        rcases run_evEq hr with ⟨rfl, rfl⟩ | ⟨rfl, rfl⟩
        · exact ⟨.bool b, by simp [hge, run_eql_struct, he], relBool.2 rfl⟩
        · exact ⟨.bool !b, by simp [hge, run_neq_struct, he], relBool.2 rfl⟩
  case lst o k b xss =>
    by_cases hc : sliceT P t = true ∧ op = .eql
    · rw [if_pos hc] at h
      cases h
      obtain ⟨hs, rfl⟩ := hc
      have ht : ∃ e, P.underlying t = some (.slice e) := by
        unfold sliceT at hs
        split at hs
        · exact ⟨_, by assumption⟩
        · cases hs
      obtain ⟨e, ht⟩ := ht
      have hv : v = .slice none 0 0 := by simpa [Rel, RelA, Rel1, RelD] using hv
      subst hv
      have hu' : RelD g.S g.w (.lst (match o with | .own _ => .frozen | o => o) k b xss) u := by
        cases o <;> first | exact hu | exact hu.1
      simp only [RelD] at hu'
      rcases hu'.2.2.2 with ⟨rfl | ⟨_, rfl⟩, rfl⟩ | ⟨B, off, cap, rfl, _⟩
      · exact ⟨.bool true, by simp [eqGuard, run_eql_slice_nil _ _ _ _ _ _ _ _ ht], by simp [Rel, RelA, Rel1]⟩
      · exact ⟨.bool false, by simp [eqGuard, run_eql_slice_nil _ _ _ _ _ _ _ _ ht], by simp [Rel, RelA, Rel1]⟩
      · exact ⟨.bool false, by simp [eqGuard, run_eql_slice_nil _ _ _ _ _ _ _ _ ht], by simp [Rel, RelA, Rel1]⟩
    · rw [if_neg hc] at h; cases h
end
end PM
