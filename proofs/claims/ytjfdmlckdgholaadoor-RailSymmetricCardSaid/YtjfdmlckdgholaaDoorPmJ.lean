/-
  THE PURE MACHINE, J: alloc, box, store, buildSlice, makeMap, makeSlice, append: what they do to a state (evE), and that the model's operations do it.
-/
import Derived.Test.YtjfdmlckdgholaaDoorPmI
import Derived.Laws.IdiomCopy
namespace PM
open Go Go.RowKit

/-- A slice type to whose values is appended: the element's type, cells and bytes; its zero value has as many cells. -/
def appK (P : Program) (t : TypeId) : Option (TypeId × Nat × Nat) :=
  match elemK P t with
  | some (e, _, k, b) => match zeroK P e with
    | some z => if z.cells.length = k ∧ k ≠ 0 then some (e, k, b) else none
    | none => none
  | none => none
/-- The elements of a slice literal, in order. -/
def elemsOf (k : Nat) : List (Nat × PV) → Nat → Option (List (List PV))
  | [], _ => some []
  | (i, p) :: r, j => if i = j then match datumL p.cells, elemsOf k r (j + 1) with
      | some cs, some css => if cs.length = k then some (cs :: css) else none
      | _, _ => none
    else none
def boxOK : PV → Bool
  | .agg _ => true
  | p => p.one
def splice (cs : List PV) (o : Nat) (ns : List PV) : List PV := cs.take o ++ ns ++ cs.drop (o + ns.length)
inductive Eff where
  | none
  | obj (l : Nat) (ob : PObj)
  | tok (t n k : Nat)
def Eff.app (e : Eff) (s : PSt) : PSt :=
  match e with
  | .none => s
  | .obj l ob => { s with H := upd s.H l (some ob) }
  | .tok t n k => { s with T := upd s.T t (some (n, k)) }
def sizeMax : Nat := 140737488351232
/-- What is appended: elements of k cells. -/
def ysOf (k : Nat) : PV → Option (List (List PV))
  | .nil => some []
  | .lst _ k' _ yss => if k' = k then some yss else none
  | _ => none
def evAppend (P : Program) (dst : Option Nat) (T : Nat → Option (Nat × Nat)) (t t' : TypeId) (x y : PV) : Option (PV × Eff) :=
  match appK P t, sliceT P t', dst with
  | some (_, k, b), true, some d =>
    match ysOf k y with
    | some yss =>
      match x with
      | .nil => if T d = none then (if yss.length * b ≤ sizeMax ∧ yss.length ≤ sizeMax then some (.lst (.own d) k b yss, .tok d yss.length k) else none) else none
      | .lst .full k' b' xss => if k' = k ∧ b' = b ∧ T d = none then (if (xss.length + yss.length) * b ≤ sizeMax ∧ xss.length + yss.length ≤ sizeMax then some (.lst (.own d) k b (xss ++ yss), .tok d (xss.length + yss.length) k) else none) else none
      | .lst (.own t) k' b' xss => if k' = k ∧ b' = b ∧ T t = some (xss.length, k) then (if (xss.length + yss.length) * b ≤ sizeMax ∧ xss.length + yss.length ≤ sizeMax then some (.lst (.own t) k b (xss ++ yss), .tok t (xss.length + yss.length) k) else none) else none
      | _ => none
    | none => none
  | _, _, _ => none
/-- Operations that touch memory of the call's own. -/
def evE (P : Program) (dst : Option Nat) (op : Op) (ρ : Operand → PV) (H : Nat → Option PObj) (T : Nat → Option (Nat × Nat)) : Option (PV × Eff) :=
  match op with
  | .alloc t => match dst, zeroK P t with
    | some d, some z => if (H d).isNone = true ∧ boxOK z = true then some (.ref d 0, .obj d (.cells z.cells)) else none
    | _, _ => none
  | .box _ x => match dst with
    | some d => if (H d).isNone = true ∧ boxOK (ρ x) = true then some (.ref d 0, .obj d (.cells (ρ x).cells)) else none
    | none => none
  | .store t x y => match ρ x with
    | .ref l o => match H l, tyK P t with
      | some (.cells cs), some (_, n) => if boxOK (ρ y) = true ∧ (ρ y).cells.length = n ∧ o + n ≤ cs.length then some (.any, .obj l (.cells (splice cs o (ρ y).cells))) else none
      | _, _ => none
    | _ => none
  | .buildSlice t n parts => match appK P t, elemsOf ((appK P t).getD (0, 0, 0)).2.1 (parts.toList.map fun x => (x.1, ρ x.2)) 0 with
    | some (_, k, b), some xss => if xss.length = n ∧ n * k ≤ 16777216 ∧ n * b ≤ sizeMax then some (.lst .full k b xss, .none) else none
    | _, _ => none
  | .makeMap _ r => match dst, r with
    | some d, none => if (H d).isNone = true then some (.mp d, .obj d (.map [])) else none
    | _, _ => none
  | .call c => match c.callee, c.args.toList, c.argTypes.toList with
    | .builtin .append, [x, y], [t, t'] => evAppend P dst T t t' (ρ x) (ρ y)
    | _, _, _ => none
  | _ => none

/-- An operation is carried out, and what follows holds. -/
def Does (P : Program) (o : Oper) (a : Act) (w : World) (K : Act → World → Prop) : Prop :=
  (∃ v w', (execOp a.eval o).run P w = .ok (.value v) w' ∧ K (a.put o.dst v) w') ∨ (∃ w', (execOp a.eval o).run P w = .ok .skip w' ∧ K (a.put o.dst undef) w')
theorem Does.wp {P : Program} {o : Oper} {a : Act} {w : World} {K : Act → World → Prop} {Q : Exit → Act → World → Prop} (h : Does P o a w K) : o.wp P a w K Q := by
  unfold Oper.wp
  rcases h with ⟨v, w', h1, h2⟩ | ⟨w', h1, h2⟩ <;> rw [h1] <;> exact h2

section
variable {P : Program} {Gl : Nat → Option (List PV)} {S0 : Cells} {w0 : World} {s : PSt} {a : Act} {g : GG} {w : World}
theorem appK_spec {t e : TypeId} {k b : Nat} (h : appK P t = some (e, k, b)) : ∃ (i : TypeInfo) (z : Value), P.underlying t = some (.slice e) ∧ P.info? e = some i ∧ i.size = k ∧ i.bytes = b ∧ i.zero = some z ∧ z.cells.size = k ∧ k ≠ 0 := by
  unfold appK at h
  split at h
  · rename_i e' x k' b' he
    split at h
    · rename_i z hz
      split at h
      · rename_i hc
        cases h
        obtain ⟨i, d, h1, h2, h3, h4, h5, h6⟩ := elemK_spec he
        obtain ⟨i', zv, hi', hz1, hz2, _⟩ := zeroK_spec hz
        rw [h2] at hi'; cases hi'
        refine ⟨i, zv, h1, h2, h5.symm, h6.symm, hz1, ?_, hc.2⟩
        rw [← hc.1, ← hz2]
        cases zv
        case agg arr => simp [Value.cells, ofConst, PV.cells]
        all_goals
          (simp only [Value.cells, ofConst]
           unfold ofConst1
           split <;> simp [PV.cells])
      · cases h
    · cases h
  · cases h
/-- A value that may be laid into a variable. -/
theorem Rel.boxed {p : PV} {v : Value} (h : Rel g p v) (hb : boxOK p = true) : All2 (RelC g) p.cells v.cells.toList := by
  cases p
  case agg cs =>
    simp only [Rel, RelA] at h
    obtain ⟨arr, rfl, h2⟩ := h
    exact h2
  case any => simp [boxOK, PV.one] at hb
  case tup vs => simp [boxOK, PV.one] at hb
  all_goals
    (simp only [Rel, RelA] at h
     obtain ⟨e1, e2⟩ := h.oneCell rfl
     rw [e2]
     exact .cons ⟨h, e1⟩ .nil)
theorem relRefNew {g' : GG} {l B : Nat} (h1 : g'.φ l = B) (h2 : (g'.H l).isSome = true) : Rel g' (.ref l 0) (.pointer (some ⟨B, 0, none⟩)) := relRef.2 ⟨by rw [h1], h2⟩
theorem ofConst_rel {t : TypeId} {z : PV} (h : zeroK P t = some z) (hb : boxOK z = true) : ∃ i zv, P.info? t = some i ∧ i.zero = some zv ∧ All2 (RelC g) z.cells zv.cells.toList := by
  obtain ⟨i, zv, hi, h1, h2, hone⟩ := zeroK_spec h
  refine ⟨i, zv, hi, h1, ?_⟩
  rw [← h2]
  rw [← h2] at hb
  cases zv
  case agg arr =>
    simp only [ofConst, PV.cells, Value.cells]
    exact rel_zero fun v hv => hone v (by simpa [Value.cells] using hv)
  all_goals
    (simp only [ofConst] at hb ⊢
     exact Rel.boxed (rel_ofConst1 g _) hb)
theorem does_alloc (h : InvG Gl S0 w0 s a g) (o : Oper) {t : TypeId} {d : Nat} {z : PV} (hop : o.op = .alloc t) (hzk : zeroK P t = some z) (hH : s.H d = none) (hb : boxOK z = true) :
    Does P o a g.w (fun a' w' => Inv Gl S0 w0 (({ s with H := upd s.H d (some (.cells z.cells)) } : PSt).put o.dst (.ref d 0)) a' w') := by
  obtain ⟨i, zv, h1, h2, h3⟩ := ofConst_rel (g := g) hzk hb
  obtain ⟨g', e1, e2, e3, e4, e5, e6⟩ := h.newVar (l := d) t (by rw [h.hH]; exact hH) h3
  refine .inl ⟨.pointer (some ⟨g.w.heap.size, 0, none⟩), g'.w, ?_, ⟨g', rfl, e2.put _ (relRefNew e4 e5)⟩⟩
  rw [e1]
  simp [execOp, hop, Instr.alloc, zeroValue, typeInfo, h1, h2, newVar, newRow]
theorem does_box (h : InvG Gl S0 w0 s a g) (o : Oper) {t : TypeId} {d : Nat} {x : Operand} (hop : o.op = .box t x) (hH : s.H d = none) (hb : boxOK (s.ev x) = true) :
    Does P o a g.w (fun a' w' => Inv Gl S0 w0 (({ s with H := upd s.H d (some (.cells (s.ev x).cells)) } : PSt).put o.dst (.ref d 0)) a' w') := by
  obtain ⟨g', e1, e2, e3, e4, e5, e6⟩ := h.newVar (l := d) t (by rw [h.hH]; exact hH) ((h.ev x).boxed hb)
  refine .inl ⟨.pointer (some ⟨g.w.heap.size, 0, none⟩), g'.w, ?_, ⟨g', rfl, e2.put _ (relRefNew e4 e5)⟩⟩
  rw [e1]
  simp [execOp, hop, Instr.box, newVar, newRow]
theorem All2.splice {R : PV → Value → Prop} {cs ns : List PV} {vs us : List Value} (h : All2 R cs vs) (hn : All2 R ns us) (o : Nat) : All2 R (splice cs o ns) (vs.take o ++ us ++ vs.drop (o + us.length)) := by
  unfold PM.splice
  rw [hn.1]
  exact ((h.take o).append hn).append (h.drop _)
theorem rangeAt_splice {w : World} {B o : Nat} {vs us : List Value} (h : w.rangeAt B 0 vs) (hr : o + us.length ≤ vs.length) (ht : w.there B 0 vs.length) : (w.setCells B o us).rangeAt B 0 (vs.take o ++ us ++ vs.drop (o + us.length)) := by
  intro j v hv
  rw [Nat.zero_add]
  have hmin : min o vs.length = o := by omega
  rw [List.append_assoc, List.getElem?_append] at hv
  simp only [List.length_take, hmin] at hv
  by_cases h1 : j < o
  · rw [if_pos h1, List.getElem?_take, if_pos h1] at hv
    rw [World.cell?_setCells_out _ _ _ _ _ (fun _ _ => .inl h1)]
    have := h j v hv
    rwa [Nat.zero_add] at this
  · rw [if_neg h1, List.getElem?_append] at hv
    by_cases h2 : j - o < us.length
    · rw [if_pos h2, List.getElem?_eq_getElem h2] at hv
      cases hv
      have := World.cell?_setCells_in B us o w (fun i hi => by have := (ht (o + i) (by omega)).1; rwa [Nat.zero_add] at this) (j - o) h2
      rwa [show o + (j - o) = j by omega] at this
    · rw [if_neg h2, List.getElem?_drop] at hv
      rw [World.cell?_setCells_out _ _ _ _ _ (fun _ _ => .inr (by show o + us.length ≤ j; omega))]
      have := h _ v hv
      rwa [show 0 + (o + us.length + (j - o - us.length)) = j by omega] at this
theorem does_store (h : InvG Gl S0 w0 s a g) (o : Oper) {t : TypeId} {x y : Operand} {l off n : Nat} {r : Bool} {cs : List PV} (hop : o.op = .store t x y) (hx : s.ev x = .ref l off) (hl : s.H l = some (.cells cs)) (ht : tyK P t = some (r, n))
    (hb : boxOK (s.ev y) = true) (hn : (s.ev y).cells.length = n) (ho : off + n ≤ cs.length) :
    Does P o a g.w (fun a' w' => Inv Gl S0 w0 (({ s with H := upd s.H l (some (.cells (splice cs off (s.ev y).cells))) } : PSt).put o.dst .any) a' w') := by
  have hgl : g.H l = some (.cells cs) := by rw [h.hH]; exact hl
  obtain ⟨o1, o2, o3, vs, v1, v2, v3⟩ := h.objs l _ hgl
  have hxr := h.ev x
  rw [hx, relRef] at hxr
  have hyr := (h.ev y).boxed hb
  have hlen : (a.eval y).cells.size = n := by rw [← hn, hyr.1]; simp
  obtain ⟨i, d, t1, t2, t3⟩ := tyK_spec ht
  have hsz : i.size = n := ((Prod.mk.inj t3).2).symm
  have hvl : vs.length = cs.length := v1.1.symm
  have hthere : g.w.there (g.φ l) off n := fun j hj => by have := v3 (off + j) (by omega); rwa [Nat.zero_add] at this
  have hcell1 : ∀ v ∈ (a.eval y).cells.toList, v.oneCell' = true := fun v hv => by
    obtain ⟨i, hi⟩ := List.getElem?_of_mem hv
    obtain ⟨p, hp, hr⟩ := hyr.left hi
    exact hr.2
  have hst := run_storeCells_cells (P := P) (g.φ l) off (a.eval y).cells.toList 0 g.w (fun j hj => (hthere j (by simpa [hlen] using hj)).1) (fun j hj => (hthere j (by simpa [hlen] using hj)).2) hcell1
  simp only [Nat.add_zero] at hst
  obtain ⟨h2, e2⟩ := h.setObj (l := l) (ob' := .cells (splice cs off (s.ev y).cells)) hgl (but_setCells g.w (g.φ l) off (a.eval y).cells.toList)
    (fun cs' e => by cases e; exact ⟨_, rfl, by simp [splice, hn]; omega⟩)
    (fun g' hg' hw' => ⟨_, (v1.mono (RelC.mono hg')).splice (hyr.mono (RelC.mono hg')) off, by rw [hw']; exact rangeAt_splice v2 (by simp [hlen]; omega) v3, by
      rw [hw']
      have hlen2 : (vs.take off ++ (a.eval y).cells.toList ++ vs.drop (off + (a.eval y).cells.toList.length)).length = vs.length := by simp [hlen]; omega
      rw [hlen2]
      exact World.there_setCells v3 _ _ _⟩)
  refine .inr ⟨_, ?_, ⟨_, rfl, h2.put _ (Rel.any _ _)⟩⟩
  simp [execOp, hop, hxr.1, Instr.storeAt, Instr.sureAddr, storeVar, run_sizeOf t1, hsz, hlen, hst]
theorem elemsOf_length {k : Nat} : ∀ {parts : List (Nat × PV)} {j : Nat} {xss : List (List PV)}, elemsOf k parts j = some xss → xss.length = parts.length ∧ ∀ cs ∈ xss, cs.length = k
  | [], j, xss, h => by simp only [elemsOf] at h; cases h; simp
  | (i, p) :: r, j, xss, h => by
    simp only [elemsOf] at h
    split at h
    · split at h
      · rename_i cs css h1 h2
        split at h
        · rename_i hk
          cases h
          obtain ⟨e1, e2⟩ := elemsOf_length h2
          exact ⟨by simp [e1], fun c hc => by
            rcases List.mem_cons.1 hc with rfl | hc
            · exact hk
            · exact e2 c hc⟩
        · cases h
      · cases h
    · cases h
theorem fill_row {k : Nat} (hk : k ≠ 0) : ∀ (parts : List (Nat × PV)) (vparts : List (Nat × Value)) (j : Nat) (xss : List (List PV)) (cells : Array Value),
    All2 (fun (x : Nat × PV) (y : Nat × Value) => x.1 = y.1 ∧ Rel g x.2 y.2) parts vparts → elemsOf k parts j = some xss → cells.size = (j + parts.length) * k →
    ∃ cells', Instr.fill (fun i => some (i * k, k)) cells vparts = some cells' ∧ cells'.size = cells.size ∧ cells'.toList.take (j * k) = cells.toList.take (j * k) ∧
      All2 (fun p v => RelD g.S g.w p v ∧ p.one = true ∧ v.oneCell' = true) xss.flatten (cells'.toList.drop (j * k))
  | [], vparts, j, xss, cells, hp, he, hs => by
    rw [hp.nil_left]
    simp only [elemsOf] at he; cases he
    exact ⟨cells, rfl, rfl, rfl, by rw [List.drop_of_length_le (by simp at hs ⊢; omega)]; exact .nil⟩
  | (i, p) :: parts, vparts, j, xss, cells, hp, he, hs => by
    obtain ⟨⟨i', v⟩, vparts', rfl, ⟨e1, e2⟩, hp'⟩ := hp.cons_left
    simp only at e1 e2
    subst e1
    simp only [elemsOf] at he
    split at he
    · rename_i hij
      subst hij
      split at he
      · rename_i cs css h1 h2
        split at he
        · rename_i hck
          cases he
          have hlen := datumL_length h1
          have hbox : boxOK p = true := by
            cases p <;> first | rfl | skip
            all_goals (simp [PV.cells, datumL, datum1] at h1)
          have hcells := e2.boxed hbox
          have hvn : v.cells.size = k := by rw [← hck, hlen, hcells.1]; simp
          have hik : (i + (parts.length + 1)) * k = i * k + k + parts.length * k := by rw [Nat.add_mul, Nat.add_mul]; omega
          have hsz : i * k + k ≤ cells.size := by rw [hs]; simp only [List.length_cons]; rw [hik]; omega
          have hset := foldl_set (i * k) v.cells.toList 0 cells (by simp [hvn]; omega)
          simp only [Nat.add_zero] at hset
          have hset' : (v.cells.zipIdx.foldl (fun cs (x : Value × Nat) => cs.setIfInBounds (i * k + x.2) x.1) cells).toList = cells.toList.take (i * k) ++ v.cells.toList ++ cells.toList.drop (i * k + k) := by
            rw [← Array.foldl_toList, Array.toList_zipIdx, hset]
            simp [hvn]
          have hsize : (v.cells.zipIdx.foldl (fun cs (x : Value × Nat) => cs.setIfInBounds (i * k + x.2) x.1) cells).size = cells.size := by
            rw [← Array.length_toList, hset']
            simp [hvn]; omega
          obtain ⟨cells', f1, f2, f3, f4⟩ := fill_row hk parts vparts' (i + 1) css (v.cells.zipIdx.foldl (fun cs (x : Value × Nat) => cs.setIfInBounds (i * k + x.2) x.1) cells) hp' h2 (by rw [hsize, hs]; simp only [List.length_cons]; congr 1; omega)
          have hmul : (i + 1) * k = i * k + k := by rw [Nat.add_mul]; omega
          rw [hmul, hset'] at f3
          have hl1 : (cells.toList.take (i * k)).length = i * k := by simp; omega
          have htake : (cells.toList.take (i * k) ++ v.cells.toList ++ cells.toList.drop (i * k + k)).take (i * k + k) = cells.toList.take (i * k) ++ v.cells.toList := by
            rw [List.take_append_of_le_length (by simp [hvn]; omega)]
            exact List.take_of_length_le (by simp [hvn]; omega)
          rw [htake] at f3
          refine ⟨cells', ?_, by rw [f2, hsize], ?_, ?_⟩
          · unfold Instr.fill
            simp only
            rw [if_neg (by simp [hvn]; omega)]
            exact f1
          · have := congrArg (List.take (i * k)) f3
            rw [List.take_take, Nat.min_eq_left (by omega), List.take_left' hl1] at this
            exact this
          · have hdrop : cells'.toList.drop (i * k) = v.cells.toList ++ cells'.toList.drop (i * k + k) := by
              have h3 := congrArg (List.drop (i * k)) f3
              rw [List.drop_take, show i * k + k - i * k = k by omega, List.drop_left' hl1] at h3
              rw [← h3, show i * k + k = i * k + k from rfl, ← List.drop_drop, List.take_append_drop]
            rw [hdrop, List.flatten_cons]
            rw [hmul] at f4
            exact (datumL_spec hcells h1).append f4
        · cases he
      · cases he
    · cases he
theorem does_buildSlice (h : InvG Gl S0 w0 s a g) (o : Oper) {t e : TypeId} {n k b : Nat} {parts : Array (Nat × Operand)} {xss : List (List PV)} (hop : o.op = .buildSlice t n parts) (hk : appK P t = some (e, k, b))
    (he : elemsOf k (parts.toList.map fun x => (x.1, s.ev x.2)) 0 = some xss) (hn : xss.length = n) (hb1 : n * k ≤ 16777216) (hb2 : n * b ≤ sizeMax) :
    Does P o a g.w (fun a' w' => Inv Gl S0 w0 (s.put o.dst (.lst .full k b xss)) a' w') := by
  obtain ⟨i, z, k1, k2, k3, k4, k5, k6, k7⟩ := appK_spec hk
  obtain ⟨e1, e2⟩ := elemsOf_length he
  have hp : All2 (fun (x : Nat × PV) (y : Nat × Value) => x.1 = y.1 ∧ Rel g x.2 y.2) (parts.toList.map fun x => (x.1, s.ev x.2)) (parts.toList.map fun x => (x.1, a.eval x.2)) :=
    ⟨by simp, fun i x y hx hy => by
      simp only [List.getElem?_map] at hx hy
      cases hp : parts.toList[i]? with
      | none => rw [hp] at hx; cases hx
      | some q =>
        rw [hp] at hx hy
        cases hx; cases hy
        exact ⟨rfl, h.ev q.2⟩⟩
  have hzero : ((Array.range (n * k)).map (z.cells[· % z.cells.size]!)).size = (0 + (parts.toList.map fun x => (x.1, s.ev x.2)).length) * k := by simp at e1 ⊢; rw [← e1, hn]
  obtain ⟨cells', f1, f2, f3, f4⟩ := fill_row (g := g) k7 _ _ 0 xss _ hp he hzero
  simp only [Nat.zero_mul, List.drop_zero] at f4
  obtain ⟨h2, g2⟩ := h.newRow cells' e cells'.size
  have hlt : n ≤ sizeMax := by
    have : n * 1 ≤ n * k := Nat.mul_le_mul_left n (by omega)
    unfold sizeMax; omega
  refine .inl ⟨.slice (some ⟨g.w.heap.size, 0, none⟩) n n, g.w.alloc (.cells cells' e), ?_, ⟨_, rfl, h2.put _ ?_⟩⟩
  · have hle : ¬ (16777216 < n * k) := by omega
    have hrun : (Instr.buildSlice t n (parts.map fun (i, x) => (i, a.eval x))).run P g.w = .ok (.slice (some ⟨g.w.heap.size, 0, none⟩) n n) (g.w.alloc (.cells cells' e)) := by
      have f1' : Instr.fill (fun i => some (i * k, k)) ((Array.range (n * k)).map (z.cells[· % z.cells.size]!)) (parts.toList.map fun x => (x.1, a.eval x.2)) = some cells' := f1
      by_cases hz0 : n * k = 0
      · have hr1 : ∀ f : Nat → Value, (Array.range 0).map f = #[] := fun f => by simp [Array.range]
        rw [hz0, hr1] at f1'
        simp only [Instr.buildSlice, Sem.run_bind, run_underlying k1, Result.andThen_ok, run_sizeOf k2, k3]
        simp [hz0, hr1, f1', newRow]
      · simp only [Instr.buildSlice, Sem.run_bind, run_underlying k1, Result.andThen_ok, run_sizeOf k2, k3]
        simp [hle, hz0, zeroValue, typeInfo, k2, k5, f1', newRow]
    simp [execOp, hop, hrun]
  · simp only [Rel, RelA, Rel1, RelD]
    rw [hn]
    refine ⟨hb2, by unfold sizeMax at hlt; exact hlt, by simp, .inr ⟨g.w.heap.size, 0, n, rfl, Nat.le_refl _, fun _ => rfl, ?_⟩⟩
    refine relEls_of_values e2 (vs := cells'.toList) ⟨f4.1, fun i p v hp hv => ?_⟩ (rangeAt_alloc _ _ _) (fun j hj => .inr ⟨rfl, by simpa using hj⟩)
    have := f4.2 i p v hp hv
    exact ⟨this.1.mono g2.S g2.cell, this.2.1⟩
theorem does_makeMap (h : InvG Gl S0 w0 s a g) (o : Oper) {t : TypeId} {d : Nat} (hop : o.op = .makeMap t none) (hH : s.H d = none) :
    Does P o a g.w (fun a' w' => Inv Gl S0 w0 (({ s with H := upd s.H d (some (.map [])) } : PSt).put o.dst (.mp d)) a' w') := by
  obtain ⟨h1, e1⟩ := h.grow' (below_alloc g.w (.map #[] 0))
  have hz := h.below.size
  have hl : g.H d = none := by rw [h.hH]; exact hH
  obtain ⟨h2, e2⟩ := h1.addObj (l := d) (B := g.w.heap.size) (ob := .map []) hl (by omega) (by show g.w.heap.size < (g.w.alloc _).heap.size; simp) (fun o ho => by have := h.lt _ _ ho; omega)
    (fun l' hl' => h.phi_lt l' hl') (fun t ht => h.spare_lt t (ht.congr rfl rfl)) (fun g' hg' hw' => ⟨#[], 0, by rw [hw']; exact heap_alloc_new g.w _, .nil⟩)
  refine .inl ⟨.map (some g.w.heap.size), _, ?_, ⟨_, rfl, h2.put _ ?_⟩⟩
  · simp [execOp, hop, Instr.makeMap, newObj, Sem.run]
  · simp [Rel, RelA, Rel1, upd]
end
end PM
