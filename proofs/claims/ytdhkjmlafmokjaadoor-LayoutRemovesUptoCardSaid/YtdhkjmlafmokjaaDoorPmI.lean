/-
  THE PURE MACHINE, I: operations that make or write memory of the call's own.
-/
import Derived.Test.YtdhkjmlafmokjaaDoorPmH
namespace PM
open Go Go.RowKit

/-! ### Data -/
def data0 : PV → Bool
  | .ref _ _ => false
  | _ => true
def datum1 : PV → Option PV
  | .lst (.own _) k b xss => some (.lst .frozen k b xss)
  | .lst .full k b xss => some (.lst .frozen k b xss)
  | .lst .frozen k b xss => some (.lst .frozen k b xss)
  | .int k n => some (.int k n)
  | .bool b => some (.bool b)
  | .str s => some (.str s)
  | .nil => some .nil
  | .cptr cs => some (.cptr cs)
  | .gptr i o => some (.gptr i o)
  | .fmp ks vs => some (.fmp ks vs)
  | .fn f caps => if caps.all data0 = true then some (.fn f caps) else none
  | _ => none
def datumL : List PV → Option (List PV)
  | [] => some []
  | p :: ps => match datum1 p, datumL ps with
    | some a, some b => some (a :: b)
    | _, _ => none
def datumA : PV → Option PV
  | .agg cs => (datumL cs).map .agg
  | p => datum1 p
def datumAs : List PV → Option (List PV)
  | [] => some []
  | p :: ps => match datumA p, datumAs ps with
    | some a, some b => some (a :: b)
    | _, _ => none

section
variable {P : Program} {Gl : Nat → Option (List PV)} {S0 : Bs} {w0 : World} {s : PSt} {a : Act} {g : GG} {w : World}
theorem datum1_spec {p q : PV} {v : Value} (h : Rel1 g p v) (hd : datum1 p = some q) : RelD g.S g.w q v ∧ q.one = true := by
  cases p
  case lst o k b xss =>
    cases o <;> simp only [datum1] at hd <;> cases hd
    · exact ⟨h, rfl⟩
    · exact ⟨RelD.unfull h, rfl⟩
    · exact ⟨h.1, rfl⟩
  case fn f caps =>
    simp only [datum1] at hd
    split at hd
    · rename_i hc
      cases hd
      simp only [Rel1] at h
      obtain ⟨arr, e, hr⟩ := h
      refine ⟨?_, rfl⟩
      simp only [RelD]
      refine ⟨arr, e, (relDs_iff _ _).2 ⟨hr.1, fun i x y hx hy => ?_⟩⟩
      have h0 := hr.2 i x y hx hy
      have h1 := List.all_eq_true.1 hc x (List.mem_of_getElem? hx)
      cases x <;> simp only [Rel0, data0] at h0 h1 <;> first | exact h0 | cases h1
    · cases hd
  all_goals (simp only [datum1] at hd; cases hd)
  all_goals exact ⟨h, rfl⟩
theorem datumL_spec : ∀ {cs ds : List PV} {vs : List Value}, All2 (RelC g) cs vs → datumL cs = some ds → All2 (fun p v => RelD g.S g.w p v ∧ p.one = true ∧ v.oneCell' = true) ds vs
  | [], ds, vs, h, hd => by
    simp only [datumL] at hd; cases hd
    rw [h.nil_left]; exact .nil
  | c :: cs, ds, vs, h, hd => by
    simp only [datumL] at hd
    split at hd
    · rename_i x y h1 h2
      cases hd
      obtain ⟨v, vs', rfl, hv, hvs⟩ := h.cons_left
      obtain ⟨e1, e2⟩ := datum1_spec hv.1 h1
      exact .cons ⟨e1, e2, hv.2⟩ (datumL_spec hvs h2)
    · cases hd
theorem datumL_length : ∀ {cs ds : List PV}, datumL cs = some ds → ds.length = cs.length
  | [], ds, hd => by simp only [datumL] at hd; cases hd; rfl
  | c :: cs, ds, hd => by
    simp only [datumL] at hd
    split at hd
    · rename_i x y h1 h2
      cases hd
      simp [datumL_length h2]
    · cases hd
theorem datumA_spec {p q : PV} {v : Value} (h : RelA g p v) (hd : datumA p = some q) : RelD g.S g.w q v := by
  cases p
  case agg cs =>
    simp only [datumA] at hd
    obtain ⟨ds, h1, rfl⟩ := Option.map_eq_some_iff.1 hd
    simp only [RelA] at h
    obtain ⟨arr, e, hr⟩ := h
    simp only [RelD]
    exact ⟨arr, e, (relDs_iff _ _).2 ((datumL_spec hr h1).mono fun _ _ h => h.1)⟩
  all_goals (simp only [RelA] at h; simp only [datumA] at hd; exact (datum1_spec h hd).1)
theorem Rel.relA {p q : PV} {v : Value} (h : Rel g p v) (hd : datumA p = some q) : RelA g p v := by
  cases p <;> first | exact h | (simp [datumA, datum1] at hd)
theorem datumAs_spec : ∀ {ps qs : List PV} {vs : List Value}, All2 (Rel g) ps vs → datumAs ps = some qs → All2 (RelD g.S g.w) qs vs
  | [], qs, vs, h, hd => by
    simp only [datumAs] at hd; cases hd
    rw [h.nil_left]; exact .nil
  | c :: cs, ds, vs, h, hd => by
    simp only [datumAs] at hd
    split at hd
    · rename_i x y h1 h2
      cases hd
      obtain ⟨v, vs', rfl, hv, hvs⟩ := h.cons_left
      exact .cons (datumA_spec (hv.relA h1) h1) (datumAs_spec hvs h2)
    · cases hd

/-! ### A new block -/
theorem below_alloc (w : World) (o : Obj) : BelowD w.heap.size w (w.alloc o) := ⟨(Below.refl _ _).alloc (Nat.le_refl _) o, Nat.le_refl _⟩
theorem rangeAt_alloc (w : World) (arr : Array Value) (t : TypeId) : (w.alloc (.cells arr t)).rangeAt w.heap.size 0 arr.toList := fun j v hv => by
  rw [Nat.zero_add, World.cell?_alloc_new]
  simpa using hv
theorem there_alloc (w : World) (arr : Array Value) (t : TypeId) : (w.alloc (.cells arr t)).there w.heap.size 0 arr.size := fun j hj => by
  rw [Nat.zero_add, World.cell?_alloc_new, World.frozen?_alloc_new]
  exact ⟨by simp [hj], rfl⟩
theorem InvG.spare_lt (h : InvG Gl S0 w0 s a g) (t : Nat) (hs : Spare g t g.w.heap.size) : False := by
  have := hs.lt h; omega
theorem InvG.xb_lt (h : InvG Gl S0 w0 s a g) (t : Nat) (hs : XB s.X g t g.w.heap.size) : False := by
  have := (hs.lt h).1; omega
theorem InvG.phi_lt (h : InvG Gl S0 w0 s a g) (l : Nat) (hl : (g.H l).isSome = true) : g.φ l ≠ g.w.heap.size := by
  obtain ⟨ob, hob⟩ := Option.isSome_iff_exists.1 hl
  have := (h.objs l ob hob).2.1
  omega
/-- A variable of the call's own is made. -/
theorem InvG.newVar (h : InvG Gl S0 w0 s a g) {l : Nat} {cs : List PV} {arr : Array Value} (t : TypeId) (hl : g.H l = none) (hl6 : l < 1000000) (hc : All2 (RelC g) cs arr.toList) :
    ∃ g', g'.w = g.w.alloc (.cells arr t) ∧ InvG Gl S0 w0 { s with H := upd s.H l (some (.cells cs)) } a g' ∧ GLe g g' ∧ g'.φ l = g.w.heap.size ∧ (g'.H l).isSome = true ∧ g'.H = upd g.H l (some (.cells cs)) := by
  obtain ⟨h1, e1⟩ := h.grow' (below_alloc g.w (.cells arr t))
  have hz := h.below.size
  obtain ⟨h2, e2⟩ := h1.addObj (l := l) (B := g.w.heap.size) (ob := .cells cs) hl hl6 (.inl (by omega)) (by show g.w.heap.size < (g.w.alloc _).heap.size; simp) (fun o ho => by have := h.lt _ _ ho; omega)
    (fun l' hl' => h.phi_lt l' hl') (fun t ht => h.spare_lt t (ht.congr rfl rfl)) (fun t ht => h.xb_lt t (ht.congr rfl)) (fun g' hg' hw' => ⟨arr.toList, hc.mono fun x y hxy => (hxy.mono e1).mono hg', by rw [hw']; exact rangeAt_alloc _ _ _, by rw [hw']; simpa using there_alloc g.w arr t⟩)
  refine ⟨_, rfl, h2, ⟨fun B o hB => e2.S B o (e1.S B o hB), fun B o hB => (e2.cell B o (e1.S B o hB)).trans (e1.cell B o hB), fun B hB => (e2.blk B fun o => e1.S B o (hB o)).trans (e1.blk B hB), ?_, ?_⟩, by simp, by simp [upd], rfl⟩
  · intro l' ob hob
    have hne : l' ≠ l := fun e => by rw [e, hl] at hob; cases hob
    exact ⟨by simp [hne], ob, by simpa [upd, hne] using hob, fun cs e => ⟨cs, e, rfl⟩⟩
  · intro t n k ht
    exact ⟨n, ht, Nat.le_refl _, fun _ => rfl⟩
theorem GLe.trans {g1 g2 g3 : GG} (h : GLe g1 g2) (h' : GLe g2 g3) : GLe g1 g3 := by
  refine ⟨fun B o hB => h'.S B o (h.S B o hB), fun B o hB => (h'.cell B o (h.S B o hB)).trans (h.cell B o hB), fun B hB => (h'.blk B fun o => h.S B o (hB o)).trans (h.blk B hB), fun l ob hob => ?_, fun t n k ht => ?_⟩
  · obtain ⟨e1, ob1, e2, e3⟩ := h.obj l ob hob
    obtain ⟨f1, ob2, f2, f3⟩ := h'.obj l ob1 e2
    refine ⟨f1.trans e1, ob2, f2, fun cs e => ?_⟩
    obtain ⟨cs1, q1, q2⟩ := e3 cs e
    obtain ⟨cs2, r1, r2⟩ := f3 cs1 q1
    exact ⟨cs2, r1, by omega⟩
  · obtain ⟨n1, e1, e2, e3⟩ := h.tok t n k ht
    obtain ⟨n2, f1, f2, f3⟩ := h'.tok t n1 k e1
    exact ⟨n2, f1, by omega, fun e => by rw [f3 (by omega), e3 (by omega)]⟩
/-- A row of data is laid into a new block, whose first cells are stable from now on. -/
theorem InvG.newRow (h : InvG Gl S0 w0 s a g) (arr : Array Value) (t : TypeId) (m : Nat) :
    InvG Gl S0 w0 s a { g with w := g.w.alloc (.cells arr t), S := fun b o => g.S b o ∨ (b = g.w.heap.size ∧ o < m) } ∧ GLe g { g with w := g.w.alloc (.cells arr t), S := fun b o => g.S b o ∨ (b = g.w.heap.size ∧ o < m) } :=
  h.grow (below_alloc g.w (.cells arr t)) (fun _ _ h => .inl h) (fun B o hB => hB.imp id fun ⟨e, _⟩ => ⟨by omega, by simp; omega⟩)
/-- Elements whose cells are data, in a row of memory. -/
theorem relEls_of_values {S : Cells} {w : World} {k : Nat} : ∀ {xss : List (List PV)} {B o : Nat} {vs : List Value}, (∀ cs ∈ xss, cs.length = k) → All2 (fun p v => RelD S w p v ∧ p.one = true) xss.flatten vs → w.rangeAt B o vs → (∀ j, j < vs.length → S B (o + j)) → RelEls S w k xss B o
  | [], B, o, vs, _, _, _, _ => by simp [RelEls]
  | cs :: xss, B, o, vs, hl, hv, hr, hS => by
    simp only [RelEls]
    have hk : cs.length = k := hl cs (by simp)
    rw [List.flatten_cons] at hv
    have hvl : vs.length = cs.length + xss.flatten.length := by rw [← hv.1]; simp
    refine ⟨hk, ?_, ?_⟩
    · rw [relCells_iff]
      intro i c hc
      have hi : i < cs.length := (List.getElem?_eq_some_iff.1 hc).1
      obtain ⟨v, hv1, hv2⟩ := hv.right (i := i) (x := c) (by rw [List.getElem?_append_left hi]; exact hc)
      exact ⟨hv2.2, hS i (by omega), v, hr i v hv1, hv2.1⟩
    · have hd := hv.drop cs.length
      rw [List.drop_left] at hd
      refine relEls_of_values (fun cs hcs => hl cs (by simp [hcs])) hd (fun j v hj => ?_) (fun j hj => ?_)
      · rw [List.getElem?_drop] at hj
        have := hr _ v hj
        rwa [show o + (cs.length + j) = o + k + j by omega] at this
      · rw [List.length_drop] at hj
        have := hS (cs.length + j) (by omega)
        rwa [show o + (cs.length + j) = o + k + j by omega] at this
end
end PM
