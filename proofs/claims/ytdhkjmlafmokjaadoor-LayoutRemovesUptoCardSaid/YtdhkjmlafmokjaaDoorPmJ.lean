/-
  THE PURE MACHINE, J: alloc, box, store, buildSlice, makeMap, makeSlice, append: what they do to a state (evE), and that the model's operations do it.
-/
import Derived.Test.YtdhkjmlafmokjaaDoorPmI
import Derived.Laws.IdiomCopy
namespace PM
open Go Go.RowKit

/-- A slice type to whose values is appended: the element's type, cells and bytes; its zero value has as many cells. -/
def appK (P : Program) (t : TypeId) : Option (TypeId × Nat × Nat) :=
  match elemK P t with
  | some (e, _, k, b) => match zeroK P e with
    | some z => if z.cells.length = k ∧ k ≠ 0 then some (e, k, b) else none
    | none => none
  | none => none
/-- The elements of a slice literal, in order. -/
def elemsOf (k : Nat) : List (Nat × PV) → Nat → Option (List (List PV))
  | [], _ => some []
  | (i, p) :: r, j => if i = j then match datumL p.cells, elemsOf k r (j + 1) with
      | some cs, some css => if cs.length = k then some (cs :: css) else none
      | _, _ => none
    else none
def boxOK : PV → Bool
  | .agg _ => true
  | p => p.one
def splice (cs : List PV) (o : Nat) (ns : List PV) : List PV := cs.take o ++ ns ++ cs.drop (o + ns.length)
inductive Eff where
  | none
  | obj (l : Nat) (ob : PObj)
  | tok (t n k : Nat)
  | xs (t : Nat) (x : Nat × Nat × List (List PV))
def Eff.app (e : Eff) (s : PSt) : PSt :=
  match e with
  | .none => s
  | .obj l ob => { s with H := upd s.H l (some ob) }
  | .tok t n k => { s with T := upd s.T t (some (n, k)) }
  | .xs t x => { s with X := upd s.X t (some x) }
def sizeMax : Nat := 140737488351232
/-- What is appended: elements of k cells. -/
def ysOf (k : Nat) : PV → Option (List (List PV))
  | .nil => some []
  | .lst _ k' _ yss => if k' = k then some yss else none
  | _ => none
def evAppend (P : Program) (dst : Option Nat) (T : Nat → Option (Nat × Nat)) (t t' : TypeId) (x y : PV) : Option (PV × Eff) :=
  match appK P t, sliceT P t', dst with
  | some (_, k, b), true, some d =>
    match ysOf k y with
    | some yss =>
      match x with
      | .nil => if T d = none then (if yss.length * b ≤ sizeMax ∧ yss.length ≤ sizeMax then some (.lst (.own d) k b yss, .tok d yss.length k) else none) else none
      | .lst .full k' b' xss => if k' = k ∧ b' = b ∧ T d = none then (if (xss.length + yss.length) * b ≤ sizeMax ∧ xss.length + yss.length ≤ sizeMax then some (.lst (.own d) k b (xss ++ yss), .tok d (xss.length + yss.length) k) else none) else none
      | .lst (.own t) k' b' xss => if k' = k ∧ b' = b ∧ T t = some (xss.length, k) then (if (xss.length + yss.length) * b ≤ sizeMax ∧ xss.length + yss.length ≤ sizeMax then some (.lst (.own t) k b (xss ++ yss), .tok t (xss.length + yss.length) k) else none) else none
      | _ => none
    | none => none
  | _, _, _ => none
/-- Operations that touch memory of the call's own. -/
def evE (P : Program) (dst : Option Nat) (op : Op) (ρ : Operand → PV) (H : Nat → Option PObj) (T : Nat → Option (Nat × Nat)) (X : XT) : Option (PV × Eff) :=
  match op with
  | .alloc t => match dst, zeroK P t with
    | some d, some z => if ((H d).isNone && decide (d < 1000000)) = true ∧ boxOK z = true then some (.ref d 0, .obj d (.cells z.cells)) else none
    | _, _ => none
  | .box _ x => match dst with
    | some d => if ((H d).isNone && decide (d < 1000000)) = true ∧ boxOK (ρ x) = true then some (.ref d 0, .obj d (.cells (ρ x).cells)) else none
    | none => none
  | .store t x y => match ρ x with
    | .ref l o => match H l, tyK P t with
      | some (.cells cs), some (_, n) => if boxOK (ρ y) = true ∧ (ρ y).cells.length = n ∧ o + n ≤ cs.length then some (.any, .obj l (.cells (splice cs o (ρ y).cells))) else none
      | _, _ => none
    | .eref tk k N j o => match X tk, tyK P t, datumL (ρ y).cells with
      | some (k', b, xss), some (_, n), some ds => if boxOK (ρ y) = true ∧ k' = k ∧ xss.length = N ∧ ds.length = n then (xss[j]?).bind fun cs => if o + n ≤ cs.length then some (.any, .xs tk (k', b, xss.set j (splice cs o ds))) else none else none
      | _, _, _ => none
    | _ => none
  | .buildSlice t n parts => match appK P t, elemsOf ((appK P t).getD (0, 0, 0)).2.1 (parts.toList.map fun x => (x.1, ρ x.2)) 0 with
    | some (_, k, b), some xss => if xss.length = n ∧ n * k ≤ 16777216 ∧ n * b ≤ sizeMax then some (.lst .full k b xss, .none) else none
    | _, _ => none
  | .makeMap _ r => match dst, r with
    | some d, none => if ((H d).isNone && decide (d < 1000000)) = true then some (.mp d, .obj d (.map [])) else none
    | _, _ => none
  | .makeSlice t n c => match appK P t, dst, ρ n, ρ c with
    | some (_, k, b), some d, .int _ n0, .int _ m => if n0 = 0 ∧ T d = none then (if 0 ≤ m ∧ m.toNat * b ≤ sizeMax ∧ m.toNat ≤ sizeMax then some (.lst (.own d) k b [], .tok d 0 k) else none) else none
    | _, _, _, _ => none
  | .mapUpdate t m k x => match ρ m with
    | .mp l => match H l, mapKD P t, datumA (ρ x) with
      | some (.map es), some (d, _), some dv => if keyD d (ρ k) = true ∧ flatV dv = true then (pset (ρ k) dv es).map fun es' => (.any, .obj l (.map es')) else none
      | _, _, _ => none
    | _ => none
  | .call c => match c.callee, c.args.toList, c.argTypes.toList with
    | .builtin .append, [x, y], [t, t'] => evAppend P dst T t t' (ρ x) (ρ y)
    | _, _, _ => none
  | _ => none

/-- An operation is carried out, and what follows holds. -/
def Does (P : Program) (o : Oper) (a : Act) (w : World) (K : Act → World → Prop) : Prop :=
  (∃ v w', (execOp a.eval o).run P w = .ok (.value v) w' ∧ K (a.put o.dst v) w') ∨ (∃ w', (execOp a.eval o).run P w = .ok .skip w' ∧ K (a.put o.dst undef) w')
theorem Does.wp {P : Program} {o : Oper} {a : Act} {w : World} {K : Act → World → Prop} {Q : Exit → Act → World → Prop} (h : Does P o a w K) : o.wp P a w K Q := by
  unfold Oper.wp
  rcases h with ⟨v, w', h1, h2⟩ | ⟨w', h1, h2⟩ <;> rw [h1] <;> exact h2

section
variable {P : Program} {Gl : Nat → Option (List PV)} {S0 : Bs} {w0 : World} {s : PSt} {a : Act} {g : GG} {w : World}
theorem All2.monoD {S S' : Cells} {w w' : World} (hS : ∀ B o, S B o → S' B o) (hw : ∀ B o, S B o → w'.cell? ⟨B, o, none⟩ = w.cell? ⟨B, o, none⟩) (hm : ∀ B, (∀ o, S B o) → w'.heap[B]? = w.heap[B]?) {ps : List PV} {vs : List Value} (h : All2 (fun p v => RelD S w p v ∧ p.one = true) ps vs) : All2 (fun p v => RelD S' w' p v ∧ p.one = true) ps vs :=
  h.mono fun _ _ hxy => ⟨hxy.1.mono hS hw hm, hxy.2⟩
theorem cellAt_of {w w' : World} {B : Nat} (h : w'.heap[B]? = w.heap[B]?) (o : Nat) : w'.cell? ⟨B, o, none⟩ = w.cell? ⟨B, o, none⟩ := World.cell?_of_block (w := w) (a := ⟨B, o, none⟩) h
theorem frozenAt_of {w w' : World} {B : Nat} (h : w'.heap[B]? = w.heap[B]?) (o : Nat) : w'.frozen? ⟨B, o, none⟩ = w.frozen? ⟨B, o, none⟩ := World.frozen?_of_block (w := w) (a := ⟨B, o, none⟩) h
theorem InvG.exAt (h : InvG Gl S0 w0 s a g) {t k b : Nat} {xss : List (List PV)} (hx : s.X t = some (k, b, xss)) {B off n cap : Nat} (hh : g.hd t = .slice (some ⟨B, off, none⟩) n cap) (hc : 0 < cap) : off = 0 ∧ n = xss.length ∧ ExB g S0.E w0.heap.size t k xss B cap := by
  obtain ⟨_, _, _, _, _, ⟨e | ⟨_, _, e⟩, _⟩ | ⟨B', cap', e, _, hB⟩⟩ := h.exs t k b xss hx
  · rw [e] at hh; cases hh
  · rw [e] at hh; cases hh; omega
  · rw [e] at hh; cases hh; exact ⟨rfl, rfl, hB⟩
/-- What the list holds is changed in place. -/
theorem InvG.exWorld (h : InvG Gl S0 w0 s a g) {t k b B cap : Nat} {xss xss' : List (List PV)} {w' : World} {S' : Cells} {vs : List Value} (hx : s.X t = some (k, b, xss)) (hh : g.hd t = .slice (some ⟨B, 0, none⟩) xss.length cap) (hc : 0 < cap) (hw : BelowE (· = B) g.w w')
    (hS1 : ∀ B o, g.S B o → S' B o) (hS2 : ∀ B o, S' B o → g.S B o ∨ (g.w.heap.size ≤ B ∧ B < w'.heap.size))
    (hl : xss'.length = xss.length) (hk : ∀ cs ∈ xss', cs.length = k) (hthere : w'.there B 0 (cap * k)) (hv : All2 (fun p v => RelD S' w' p v ∧ p.one = true) xss'.flatten vs) (hr : w'.rangeAt B 0 vs) :
    InvG Gl S0 w0 { s with X := upd s.X t (some (k, b, xss')) } a { g with w := w', S := S' } ∧ GLe g { g with w := w', S := S' } := by
  obtain ⟨q1, q2, q3, q4, q5, _⟩ := h.exs t k b xss hx
  obtain ⟨_, _, r1, r2, r3, r4, r5, r6, r7, r8⟩ := h.exAt hx hh hc
  have hblk : ∀ B', B' < g.w.heap.size → B' ≠ B → w'.heap[B']? = g.w.heap[B']? := fun B' e1 e2 => hw.block B' e1 e2
  have hSB : ∀ B' o, g.S B' o → B' ≠ B := fun B' o ho e => r4 o (e ▸ ho)
  have hSold : ∀ B' o, B' < g.w.heap.size → S' B' o → g.S B' o := fun B' o e ho => (hS2 B' o ho).resolve_right fun q => by omega
  have hle : GLe g { g with w := w', S := S' } := ⟨hS1, fun B' o ho => cellAt_of (hblk B' (h.lt _ _ ho) (hSB _ _ ho)) o, fun B' ho => hblk B' (h.lt _ _ (ho 0)) (hSB _ _ (ho 0)), fun l ob e => ⟨rfl, ob, e, fun cs e => ⟨cs, e, rfl⟩⟩, fun t n k e => ⟨n, e, Nat.le_refl _, fun _ => rfl⟩⟩
  have hsz := hw.size
  have hXB : ∀ t' B', XB (upd s.X t (some (k, b, xss'))) { g with w := w', S := S' } t' B' → XB s.X g t' B' := by
    rintro t' B' ⟨e1, e2⟩
    refine ⟨?_, e2⟩
    by_cases e : t' = t
    · rw [e, hx]; rfl
    · rwa [upd_other _ _ _ _ e] at e1
  refine ⟨{ hH := h.hH, hT := h.hT, defers := h.defers, len := h.len, tm := fun i p v hp hv => (h.tm i p v hp hv).mono hle, sub := fun B' o ho => hS1 _ _ (h.sub B' o ho), new := fun B' o ho => ?_, lt := fun B' o ho => ?_, below := ?_, objs := fun l ob hob => ?_, inj := h.inj, owns := fun t' n' k' ht' => ?_, ownsEx := fun t1 t2 B' h1 h2 => h.ownsEx t1 t2 B' (h1.congr rfl rfl) (h2.congr rfl rfl), ownsObj := fun t' B' l h1 h2 => h.ownsObj t' B' l (h1.congr rfl rfl) h2, glob := fun i cs hi => (h.glob i cs hi).mono hle.S hle.cell hle.blk, exs := fun t' k' b' xss0 hx' => ?_, exsEx := fun t1 t2 B' h1 h2 => h.exsEx t1 t2 B' (hXB t1 B' h1) (hXB t2 B' h2), fix := h.fix, fixT := h.fixT }, hle⟩
  · rcases hS2 B' o ho with e | ⟨e, _⟩
    · exact h.new B' o e
    · exact .inr (.inl (Nat.le_trans h.below.size e))
  · rcases hS2 B' o ho with e | ⟨_, e⟩
    · exact Nat.lt_of_lt_of_le (h.lt B' o e) hsz
    · exact e
  · exact ⟨hw.os.trans h.below.os, hw.tape.trans h.below.tape, hw.output.trans h.below.output, Nat.le_trans h.below.size hsz, fun i hi he => (hblk i (Nat.lt_of_lt_of_le hi h.below.size) fun e => r2.elim (fun q => by omega) fun q => he (e ▸ q)).trans (h.below.block i hi he), Nat.le_trans h.below.dr hw.dr⟩
  · obtain ⟨k1, k2, k3, k4⟩ := h.objs l ob hob
    have hne : g.φ l ≠ B := r7 l (by rw [show g.H l = some ob from hob]; rfl)
    have hb := hblk _ k2 hne
    exact ⟨k1, Nat.lt_of_lt_of_le k2 hsz, fun o ho => k3 o (hSold _ _ k2 ho), k4.mono hle (fun o => cellAt_of hb o) (fun o => frozenAt_of hb o) (fun arr c hc => hb.trans hc)⟩
  · rcases h.owns t' n' k' ht' with hn | ⟨B', off', cap', e1, e2, e3⟩
    · exact .inl hn
    · refine .inr ⟨B', off', cap', e1, e2, fun hlt => ?_⟩
      obtain ⟨f1, f2, f3, f4⟩ := e3 hlt
      refine ⟨f1, Nat.lt_of_lt_of_le f2 hsz, fun j hj => ?_, fun hk o ho => f4 hk o (hSold _ _ f2 ho)⟩
      by_cases e : B' = B
      · subst e
        have : t' = t := r8 t' ⟨n', k', off', cap', ht', e1, hlt⟩
        subst this
        have hT : g.T t' = some (n', k') := ht'
        rw [q1] at hT; cases hT
        simp at hj
      · show (w'.cell? _).isSome = true ∧ w'.frozen? _ = false
        rw [cellAt_of (hblk B' f2 e), frozenAt_of (hblk B' f2 e)]; exact f3 j hj
  · by_cases e : t' = t
    · subst e
      have hx'' : upd s.X t' (some (k, b, xss')) t' = some (k', b', xss0) := hx'
      rw [upd_same] at hx''; cases hx''
      refine ⟨by rw [hl]; exact q1, q2, hk, by rw [hl]; exact q4, by rw [hl]; exact q5, .inr ⟨B, cap, by rw [hl]; exact hh, hc, by rw [hl]; exact r1, r2, Nat.lt_of_lt_of_le r3 hsz, fun o ho => r4 o (hSold _ _ r3 ho), ⟨vs, hv, hr⟩, hthere, r7, fun t2 h2 => r8 t2 (h2.congr rfl rfl)⟩⟩
    · have hx'' : upd s.X t (some (k, b, xss')) t' = some (k', b', xss0) := hx'
      rw [upd_other _ _ _ _ e] at hx''
      refine (h.exs t' k' b' xss0 hx'').mono hle rfl rfl hsz fun B' off n cap' e1 e2 e3 e4 e5 e6 => ?_
      have hne : B' ≠ B := fun eq => e (h.exsEx t' t B ⟨by rw [hx'']; rfl, off, n, cap', by rw [← eq]; exact e1⟩ ⟨by rw [hx]; rfl, 0, _, cap, hh, hc⟩)
      exact ⟨fun o => cellAt_of (hblk B' e3 hne) o, fun o => frozenAt_of (hblk B' e3 hne) o, fun o ho => e4 o (hSold _ _ e3 ho), e5, fun t2 h2 => e6 t2 (h2.congr rfl rfl)⟩
theorem appK_spec {t e : TypeId} {k b : Nat} (h : appK P t = some (e, k, b)) : ∃ (i : TypeInfo) (z : Value), P.underlying t = some (.slice e) ∧ P.info? e = some i ∧ i.size = k ∧ i.bytes = b ∧ i.zero = some z ∧ z.cells.size = k ∧ k ≠ 0 := by
  unfold appK at h
  split at h
  · rename_i e' x k' b' he
    split at h
    · rename_i z hz
      split at h
      · rename_i hc
        cases h
        obtain ⟨i, d, h1, h2, h3, h4, h5, h6⟩ := elemK_spec he
        obtain ⟨i', zv, hi', hz1, hz2, _⟩ := zeroK_spec hz
        rw [h2] at hi'; cases hi'
        refine ⟨i, zv, h1, h2, h5.symm, h6.symm, hz1, ?_, hc.2⟩
        rw [← hc.1, ← hz2]
        cases zv
        case agg arr => simp [Value.cells, ofConst, PV.cells]
        all_goals
          (simp only [Value.cells, ofConst]
           unfold ofConst1
           split <;> simp [PV.cells])
      · cases h
    · cases h
  · cases h
/-- A value that may be laid into a variable. -/
theorem Rel.boxed {p : PV} {v : Value} (h : Rel g p v) (hb : boxOK p = true) : All2 (RelC g) p.cells v.cells.toList := by
  cases p
  case agg cs =>
    simp only [Rel, RelA] at h
    obtain ⟨arr, rfl, h2⟩ := h
    exact h2
  case any => simp [boxOK, PV.one] at hb
  case tup vs => simp [boxOK, PV.one] at hb
  all_goals
    (simp only [Rel, RelA] at h
     obtain ⟨e1, e2⟩ := h.oneCell rfl
     rw [e2]
     exact .cons ⟨h, e1⟩ .nil)
theorem relRefNew {g' : GG} {l B : Nat} (h1 : g'.φ l = B) (h2 : (g'.H l).isSome = true) : Rel g' (.ref l 0) (.pointer (some ⟨B, 0, none⟩)) := relRef.2 ⟨by rw [h1], h2⟩
theorem ofConst_rel {t : TypeId} {z : PV} (h : zeroK P t = some z) (hb : boxOK z = true) : ∃ i zv, P.info? t = some i ∧ i.zero = some zv ∧ All2 (RelC g) z.cells zv.cells.toList := by
  obtain ⟨i, zv, hi, h1, h2, hone⟩ := zeroK_spec h
  refine ⟨i, zv, hi, h1, ?_⟩
  rw [← h2]
  rw [← h2] at hb
  cases zv
  case agg arr =>
    simp only [ofConst, PV.cells, Value.cells]
    exact rel_zero fun v hv => hone v (by simpa [Value.cells] using hv)
  all_goals
    (simp only [ofConst] at hb ⊢
     exact Rel.boxed (rel_ofConst1 g _) hb)
theorem does_alloc (h : InvG Gl S0 w0 s a g) (o : Oper) {t : TypeId} {d : Nat} {z : PV} (hop : o.op = .alloc t) (hzk : zeroK P t = some z) (hH : s.H d = none) (hd6 : d < 1000000) (hb : boxOK z = true) :
    Does P o a g.w (fun a' w' => Inv Gl S0 w0 (({ s with H := upd s.H d (some (.cells z.cells)) } : PSt).put o.dst (.ref d 0)) a' w') := by
  obtain ⟨i, zv, h1, h2, h3⟩ := ofConst_rel (g := g) hzk hb
  obtain ⟨g', e1, e2, e3, e4, e5, e6⟩ := h.newVar (l := d) t (by rw [h.hH]; exact hH) hd6 h3
  refine .inl ⟨.pointer (some ⟨g.w.heap.size, 0, none⟩), g'.w, ?_, ⟨g', rfl, e2.put _ (relRefNew e4 e5)⟩⟩
  rw [e1]
  simp [execOp, hop, Instr.alloc, zeroValue, typeInfo, h1, h2, newVar, newRow]
theorem does_box (h : InvG Gl S0 w0 s a g) (o : Oper) {t : TypeId} {d : Nat} {x : Operand} (hop : o.op = .box t x) (hH : s.H d = none) (hd6 : d < 1000000) (hb : boxOK (s.ev x) = true) :
    Does P o a g.w (fun a' w' => Inv Gl S0 w0 (({ s with H := upd s.H d (some (.cells (s.ev x).cells)) } : PSt).put o.dst (.ref d 0)) a' w') := by
  obtain ⟨g', e1, e2, e3, e4, e5, e6⟩ := h.newVar (l := d) t (by rw [h.hH]; exact hH) hd6 ((h.ev x).boxed hb)
  refine .inl ⟨.pointer (some ⟨g.w.heap.size, 0, none⟩), g'.w, ?_, ⟨g', rfl, e2.put _ (relRefNew e4 e5)⟩⟩
  rw [e1]
  simp [execOp, hop, Instr.box, newVar, newRow]
theorem All2.splice {R : PV → Value → Prop} {cs ns : List PV} {vs us : List Value} (h : All2 R cs vs) (hn : All2 R ns us) (o : Nat) : All2 R (splice cs o ns) (vs.take o ++ us ++ vs.drop (o + us.length)) := by
  unfold PM.splice
  rw [hn.1]
  exact ((h.take o).append hn).append (h.drop _)
theorem rangeAt_splice {w : World} {B o : Nat} {vs us : List Value} (h : w.rangeAt B 0 vs) (hr : o + us.length ≤ vs.length) (ht : w.there B 0 vs.length) : (w.setCells B o us).rangeAt B 0 (vs.take o ++ us ++ vs.drop (o + us.length)) := by
  intro j v hv
  rw [Nat.zero_add]
  have hmin : min o vs.length = o := by omega
  rw [List.append_assoc, List.getElem?_append] at hv
  simp only [List.length_take, hmin] at hv
  by_cases h1 : j < o
  · rw [if_pos h1, List.getElem?_take, if_pos h1] at hv
    rw [World.cell?_setCells_out _ _ _ _ _ (fun _ _ => .inl h1)]
    have := h j v hv
    rwa [Nat.zero_add] at this
  · rw [if_neg h1, List.getElem?_append] at hv
    by_cases h2 : j - o < us.length
    · rw [if_pos h2, List.getElem?_eq_getElem h2] at hv
      cases hv
      have := World.cell?_setCells_in B us o w (fun i hi => by have := (ht (o + i) (by omega)).1; rwa [Nat.zero_add] at this) (j - o) h2
      rwa [show o + (j - o) = j by omega] at this
    · rw [if_neg h2, List.getElem?_drop] at hv
      rw [World.cell?_setCells_out _ _ _ _ _ (fun _ _ => .inr (by show o + us.length ≤ j; omega))]
      have := h _ v hv
      rwa [show 0 + (o + us.length + (j - o - us.length)) = j by omega] at this
theorem does_store (h : InvG Gl S0 w0 s a g) (o : Oper) {t : TypeId} {x y : Operand} {l off n : Nat} {r : Bool} {cs : List PV} (hop : o.op = .store t x y) (hx : s.ev x = .ref l off) (hl : s.H l = some (.cells cs)) (ht : tyK P t = some (r, n))
    (hb : boxOK (s.ev y) = true) (hn : (s.ev y).cells.length = n) (ho : off + n ≤ cs.length) :
    Does P o a g.w (fun a' w' => Inv Gl S0 w0 (({ s with H := upd s.H l (some (.cells (splice cs off (s.ev y).cells))) } : PSt).put o.dst .any) a' w') := by
  have hgl : g.H l = some (.cells cs) := by rw [h.hH]; exact hl
  obtain ⟨o1, o2, o3, vs, v1, v2, v3⟩ := h.objs l _ hgl
  have hxr := h.ev x
  rw [hx, relRef] at hxr
  have hyr := (h.ev y).boxed hb
  have hlen : (a.eval y).cells.size = n := by rw [← hn, hyr.1]; simp
  obtain ⟨i, d, t1, t2, t3⟩ := tyK_spec ht
  have hsz : i.size = n := ((Prod.mk.inj t3).2).symm
  have hvl : vs.length = cs.length := v1.1.symm
  have hthere : g.w.there (g.φ l) off n := fun j hj => by have := v3 (off + j) (by omega); rwa [Nat.zero_add] at this
  have hcell1 : ∀ v ∈ (a.eval y).cells.toList, v.oneCell' = true := fun v hv => by
    obtain ⟨i, hi⟩ := List.getElem?_of_mem hv
    obtain ⟨p, hp, hr⟩ := hyr.left hi
    exact hr.2
  have hst := run_storeCells_cells (P := P) (g.φ l) off (a.eval y).cells.toList 0 g.w (fun j hj => (hthere j (by simpa [hlen] using hj)).1) (fun j hj => (hthere j (by simpa [hlen] using hj)).2) hcell1
  simp only [Nat.add_zero] at hst
  obtain ⟨h2, e2⟩ := h.setObj (l := l) (ob' := .cells (splice cs off (s.ev y).cells)) hgl (but_setCells g.w (g.φ l) off (a.eval y).cells.toList)
    (fun cs' e => by cases e; exact ⟨_, rfl, by simp [splice, hn]; omega⟩)
    (fun g' hg' hw' => ⟨_, (v1.mono (RelC.mono hg')).splice (hyr.mono (RelC.mono hg')) off, by rw [hw']; exact rangeAt_splice v2 (by simp [hlen]; omega) v3, by
      rw [hw']
      have hlen2 : (vs.take off ++ (a.eval y).cells.toList ++ vs.drop (off + (a.eval y).cells.toList.length)).length = vs.length := by simp [hlen]; omega
      rw [hlen2]
      exact World.there_setCells v3 _ _ _⟩)
  refine .inr ⟨_, ?_, ⟨_, rfl, h2.put _ (Rel.any _ _)⟩⟩
  simp [execOp, hop, hxr.1, Instr.storeAt, Instr.sureAddr, storeVar, run_sizeOf t1, hsz, hlen, hst]
theorem flat_length {k : Nat} : ∀ {xss : List (List PV)}, (∀ cs ∈ xss, cs.length = k) → xss.flatten.length = xss.length * k
  | [], _ => by simp
  | c :: cs, h => by
    have h1 := h c (by simp)
    have h2 := flat_length (xss := cs) (fun x hx => h x (by simp [hx]))
    rw [List.flatten_cons, List.length_append, h1, h2, List.length_cons, Nat.succ_mul]; omega
theorem flat_set {k : Nat} : ∀ {xss : List (List PV)} {j : Nat} {cs : List PV} {o : Nat} {ds : List PV}, (∀ c ∈ xss, c.length = k) → xss[j]? = some cs → o + ds.length ≤ cs.length → (xss.set j (splice cs o ds)).flatten = splice xss.flatten (j * k + o) ds
  | [], j, cs, _, _, _, h, _ => by simp at h
  | c :: r, 0, cs, o, ds, hk, h, ho => by
    simp at h; subst h
    simp only [List.set_cons_zero, List.flatten_cons, splice, Nat.zero_mul, Nat.zero_add]
    rw [List.take_append_of_le_length (by omega), List.drop_append_of_le_length (by omega)]
    simp only [List.append_assoc]
  | c :: r, j + 1, cs, o, ds, hk, h, ho => by
    have hc : c.length = k := hk c (by simp)
    have ih := flat_set (k := k) (xss := r) (j := j) (cs := cs) (o := o) (ds := ds) (fun x hx => hk x (by simp [hx])) (by simpa using h) ho
    rw [List.set_cons_succ, List.flatten_cons, List.flatten_cons, ih]
    unfold splice
    have e1 : (j + 1) * k + o - k = j * k + o := by rw [Nat.succ_mul]; omega
    have e2 : (j + 1) * k + o + ds.length - k = j * k + o + ds.length := by rw [Nat.succ_mul]; omega
    have l1 : List.take ((j + 1) * k + o) c = c := List.take_of_length_le (by rw [hc, Nat.succ_mul]; omega)
    have l2 : List.drop ((j + 1) * k + o + ds.length) c = [] := List.drop_eq_nil_of_le (by rw [hc, Nat.succ_mul]; omega)
    rw [List.take_append, List.drop_append, l1, l2, hc, e1, e2]
    simp
theorem does_xstore (h : InvG Gl S0 w0 s a g) (o : Oper) {t : TypeId} {x y : Operand} {tk k b N j off n : Nat} {r : Bool} {xss : List (List PV)} {cs ds : List PV} (hop : o.op = .store t x y) (hx : s.ev x = .eref tk k N j off) (hX : s.X tk = some (k, b, xss)) (hN : xss.length = N) (ht : tyK P t = some (r, n))
    (hb : boxOK (s.ev y) = true) (hd : datumL (s.ev y).cells = some ds) (hn : ds.length = n) (hcs : xss[j]? = some cs) (ho : off + n ≤ cs.length) :
    Does P o a g.w (fun a' w' => Inv Gl S0 w0 (({ s with X := upd s.X tk (some (k, b, xss.set j (splice cs off ds))) } : PSt).put o.dst .any) a' w') := by
  obtain ⟨q1, q2, q3, q4, q5, q6⟩ := h.exs tk _ _ _ hX
  have hxr := h.ev x
  rw [hx] at hxr
  simp only [Rel, RelA, Rel1] at hxr
  obtain ⟨⟨B, q, hxv⟩, N', r1, r2, r3⟩ := hxr
  rw [q1] at r1; cases r1
  obtain ⟨B1, cap1, e1, e2⟩ := r3 hN.symm
  rw [hxv] at e2; cases e2
  have hj : j < xss.length := (List.getElem?_eq_some_iff.1 hcs).1
  have hyr := (h.ev y).boxed hb
  have hdl : (s.ev y).cells.length = n := by rw [← hn, datumL_length hd]
  have hlen : (a.eval y).cells.size = n := by rw [← hdl, hyr.1]; simp
  obtain ⟨i, d, t1, t2, t3⟩ := tyK_spec ht
  have hsz : i.size = n := ((Prod.mk.inj t3).2).symm
  have hck : cs.length = k := q3 cs (List.mem_of_getElem? hcs)
  rcases q6 with ⟨_, rfl⟩ | ⟨B2, cap2, e3, hc0, p1, p2, p3, p4, ⟨vs, v1, v2⟩, p5, p6, p7⟩
  · simp at hj
  · rw [e3] at e1
    simp only [Value.slice.injEq, Option.some.injEq, Addr.mk.injEq, and_true] at e1
    obtain ⟨rfl, _, rfl⟩ := e1
    have hfl : xss.flatten.length = xss.length * k := flat_length q3
    have hjk : j * k + k ≤ xss.length * k := by
      have : (j + 1) * k ≤ xss.length * k := Nat.mul_le_mul_right _ hj
      rwa [Nat.succ_mul] at this
    have hck2 : xss.length * k ≤ cap2 * k := Nat.mul_le_mul_right _ p1
    have hvl : vs.length = xss.length * k := by rw [← v1.1, hfl]
    have hthere : g.w.there B2 (j * k + off) n := fun i hi => by have := p5 (j * k + off + i) (by omega); rwa [Nat.zero_add] at this
    have hcell1 : ∀ v ∈ (a.eval y).cells.toList, v.oneCell' = true := fun v hv => by
      obtain ⟨i, hi⟩ := List.getElem?_of_mem hv
      obtain ⟨p, hp, hr⟩ := hyr.left hi
      exact hr.2
    have hst := run_storeCells_cells (P := P) B2 (j * k + off) (a.eval y).cells.toList 0 g.w (fun j hj => (hthere j (by simpa [hlen] using hj)).1) (fun j hj => (hthere j (by simpa [hlen] using hj)).2) hcell1
    simp only [Nat.add_zero] at hst
    have hbut := but_setCells g.w B2 (j * k + off) (a.eval y).cells.toList
    have hdat := (datumL_spec hyr hd).mono fun _ _ q => (⟨q.1, q.2.1⟩ : RelD g.S g.w _ _ ∧ _)
    have hv12 : vs.length ≤ cap2 * k := by omega
    have hth0 : g.w.there B2 0 vs.length := fun i hi => p5 i (by omega)
    have hk' : ∀ c ∈ xss.set j (splice cs off ds), c.length = k := fun c hc => by
      rcases List.mem_or_eq_of_mem_set hc with hc | rfl
      · exact q3 c hc
      · simp only [splice, List.length_append, List.length_take, List.length_drop]; omega
    have hv' : All2 (fun p v => RelD g.S g.w p v ∧ p.one = true) (xss.set j (splice cs off ds)).flatten (vs.take (j * k + off) ++ (a.eval y).cells.toList ++ vs.drop (j * k + off + (a.eval y).cells.toList.length)) := by
      rw [flat_set q3 hcs (by omega)]
      exact v1.splice hdat (j * k + off)
    obtain ⟨h2, e2'⟩ := h.exWorld (t := tk) (xss' := xss.set j (splice cs off ds)) (w' := g.w.setCells B2 (j * k + off) (a.eval y).cells.toList) (S' := g.S) hX e3 hc0
      ⟨hbut.os, hbut.tape, hbut.output, Nat.le_of_eq hbut.size.symm, fun i _ hne => hbut.block i hne, Nat.le_of_eq hbut.drawn.symm⟩ (fun _ _ e => e) (fun _ _ e => .inl e) (by simp) hk' (World.there_setCells p5 _ _ _) (hv'.monoD (fun _ _ e => e) (fun B' o ho => hbut.cell fun e => p4 o (e ▸ ho)) fun B' ho => hbut.block _ fun e => p4 0 (e ▸ ho 0)) (rangeAt_splice v2 (by simp [hlen]; omega) hth0)
    refine .inr ⟨_, ?_, ⟨_, rfl, h2.put _ (Rel.any _ _)⟩⟩
    simp [execOp, hop, hxv, Instr.storeAt, Instr.sureAddr, storeVar, run_sizeOf t1, hsz, hlen, hst]
theorem elemsOf_length {k : Nat} : ∀ {parts : List (Nat × PV)} {j : Nat} {xss : List (List PV)}, elemsOf k parts j = some xss → xss.length = parts.length ∧ ∀ cs ∈ xss, cs.length = k
  | [], j, xss, h => by simp only [elemsOf] at h; cases h; simp
  | (i, p) :: r, j, xss, h => by
    simp only [elemsOf] at h
    split at h
    · split at h
      · rename_i cs css h1 h2
        split at h
        · rename_i hk
          cases h
          obtain ⟨e1, e2⟩ := elemsOf_length h2
          exact ⟨by simp [e1], fun c hc => by
            rcases List.mem_cons.1 hc with rfl | hc
            · exact hk
            · exact e2 c hc⟩
        · cases h
      · cases h
    · cases h
theorem fill_row {k : Nat} (hk : k ≠ 0) : ∀ (parts : List (Nat × PV)) (vparts : List (Nat × Value)) (j : Nat) (xss : List (List PV)) (cells : Array Value),
    All2 (fun (x : Nat × PV) (y : Nat × Value) => x.1 = y.1 ∧ Rel g x.2 y.2) parts vparts → elemsOf k parts j = some xss → cells.size = (j + parts.length) * k →
    ∃ cells', Instr.fill (fun i => some (i * k, k)) cells vparts = some cells' ∧ cells'.size = cells.size ∧ cells'.toList.take (j * k) = cells.toList.take (j * k) ∧
      All2 (fun p v => RelD g.S g.w p v ∧ p.one = true ∧ v.oneCell' = true) xss.flatten (cells'.toList.drop (j * k))
  | [], vparts, j, xss, cells, hp, he, hs => by
    rw [hp.nil_left]
    simp only [elemsOf] at he; cases he
    exact ⟨cells, rfl, rfl, rfl, by rw [List.drop_of_length_le (by simp at hs ⊢; omega)]; exact .nil⟩
  | (i, p) :: parts, vparts, j, xss, cells, hp, he, hs => by
    obtain ⟨⟨i', v⟩, vparts', rfl, ⟨e1, e2⟩, hp'⟩ := hp.cons_left
    simp only at e1 e2
    subst e1
    simp only [elemsOf] at he
    split at he
    · rename_i hij
      subst hij
      split at he
      · rename_i cs css h1 h2
        split at he
        · rename_i hck
          cases he
          have hlen := datumL_length h1
          have hbox : boxOK p = true := by
            cases p <;> first | rfl | skip
            all_goals (simp [PV.cells, datumL, datum1] at h1)
          have hcells := e2.boxed hbox
          have hvn : v.cells.size = k := by rw [← hck, hlen, hcells.1]; simp
          have hik : (i + (parts.length + 1)) * k = i * k + k + parts.length * k := by rw [Nat.add_mul, Nat.add_mul]; omega
          have hsz : i * k + k ≤ cells.size := by rw [hs]; simp only [List.length_cons]; rw [hik]; omega
          have hset := foldl_set (i * k) v.cells.toList 0 cells (by simp [hvn]; omega)
          simp only [Nat.add_zero] at hset
          have hset' : (v.cells.zipIdx.foldl (fun cs (x : Value × Nat) => cs.setIfInBounds (i * k + x.2) x.1) cells).toList = cells.toList.take (i * k) ++ v.cells.toList ++ cells.toList.drop (i * k + k) := by
            rw [← Array.foldl_toList, Array.toList_zipIdx, hset]
            simp [hvn]
          have hsize : (v.cells.zipIdx.foldl (fun cs (x : Value × Nat) => cs.setIfInBounds (i * k + x.2) x.1) cells).size = cells.size := by
            rw [← Array.length_toList, hset']
            simp [hvn]; omega
          obtain ⟨cells', f1, f2, f3, f4⟩ := fill_row hk parts vparts' (i + 1) css (v.cells.zipIdx.foldl (fun cs (x : Value × Nat) => cs.setIfInBounds (i * k + x.2) x.1) cells) hp' h2 (by rw [hsize, hs]; simp only [List.length_cons]; congr 1; omega)
          have hmul : (i + 1) * k = i * k + k := by rw [Nat.add_mul]; omega
          rw [hmul, hset'] at f3
          have hl1 : (cells.toList.take (i * k)).length = i * k := by simp; omega
          have htake : (cells.toList.take (i * k) ++ v.cells.toList ++ cells.toList.drop (i * k + k)).take (i * k + k) = cells.toList.take (i * k) ++ v.cells.toList := by
            rw [List.take_append_of_le_length (by simp [hvn]; omega)]
            exact List.take_of_length_le (by simp [hvn]; omega)
          rw [htake] at f3
          refine ⟨cells', ?_, by rw [f2, hsize], ?_, ?_⟩
          · unfold Instr.fill
            simp only
            rw [if_neg (by simp [hvn]; omega)]
            exact f1
          · have := congrArg (List.take (i * k)) f3
            rw [List.take_take, Nat.min_eq_left (by omega), List.take_left' hl1] at this
            exact this
          · have hdrop : cells'.toList.drop (i * k) = v.cells.toList ++ cells'.toList.drop (i * k + k) := by
              have h3 := congrArg (List.drop (i * k)) f3
              rw [List.drop_take, show i * k + k - i * k = k by omega, List.drop_left' hl1] at h3
              rw [← h3, show i * k + k = i * k + k from rfl, ← List.drop_drop, List.take_append_drop]
            rw [hdrop, List.flatten_cons]
            rw [hmul] at f4
            exact (datumL_spec hcells h1).append f4
        · cases he
      · cases he
    · cases he
theorem does_buildSlice (h : InvG Gl S0 w0 s a g) (o : Oper) {t e : TypeId} {n k b : Nat} {parts : Array (Nat × Operand)} {xss : List (List PV)} (hop : o.op = .buildSlice t n parts) (hk : appK P t = some (e, k, b))
    (he : elemsOf k (parts.toList.map fun x => (x.1, s.ev x.2)) 0 = some xss) (hn : xss.length = n) (hb1 : n * k ≤ 16777216) (hb2 : n * b ≤ sizeMax) :
    Does P o a g.w (fun a' w' => Inv Gl S0 w0 (s.put o.dst (.lst .full k b xss)) a' w') := by
  obtain ⟨i, z, k1, k2, k3, k4, k5, k6, k7⟩ := appK_spec hk
  obtain ⟨e1, e2⟩ := elemsOf_length he
  have hp : All2 (fun (x : Nat × PV) (y : Nat × Value) => x.1 = y.1 ∧ Rel g x.2 y.2) (parts.toList.map fun x => (x.1, s.ev x.2)) (parts.toList.map fun x => (x.1, a.eval x.2)) :=
    ⟨by simp, fun i x y hx hy => by
      simp only [List.getElem?_map] at hx hy
      cases hp : parts.toList[i]? with
      | none => rw [hp] at hx; cases hx
      | some q =>
        rw [hp] at hx hy
        cases hx; cases hy
        exact ⟨rfl, h.ev q.2⟩⟩
  have hzero : ((Array.range (n * k)).map (z.cells[· % z.cells.size]!)).size = (0 + (parts.toList.map fun x => (x.1, s.ev x.2)).length) * k := by simp at e1 ⊢; rw [← e1, hn]
  obtain ⟨cells', f1, f2, f3, f4⟩ := fill_row (g := g) k7 _ _ 0 xss _ hp he hzero
  simp only [Nat.zero_mul, List.drop_zero] at f4
  obtain ⟨h2, g2⟩ := h.newRow cells' e cells'.size
  have hlt : n ≤ sizeMax := by
    have : n * 1 ≤ n * k := Nat.mul_le_mul_left n (by omega)
    unfold sizeMax; omega
  refine .inl ⟨.slice (some ⟨g.w.heap.size, 0, none⟩) n n, g.w.alloc (.cells cells' e), ?_, ⟨_, rfl, h2.put _ ?_⟩⟩
  · have hle : ¬ (16777216 < n * k) := by omega
    have hrun : (Instr.buildSlice t n (parts.map fun (i, x) => (i, a.eval x))).run P g.w = .ok (.slice (some ⟨g.w.heap.size, 0, none⟩) n n) (g.w.alloc (.cells cells' e)) := by
      have f1' : Instr.fill (fun i => some (i * k, k)) ((Array.range (n * k)).map (z.cells[· % z.cells.size]!)) (parts.toList.map fun x => (x.1, a.eval x.2)) = some cells' := f1
      by_cases hz0 : n * k = 0
      · have hr1 : ∀ f : Nat → Value, (Array.range 0).map f = #[] := fun f => by simp [Array.range]
        rw [hz0, hr1] at f1'
        simp only [Instr.buildSlice, Sem.run_bind, run_underlying k1, Result.andThen_ok, run_sizeOf k2, k3]
        simp [hz0, hr1, f1', newRow]
      · simp only [Instr.buildSlice, Sem.run_bind, run_underlying k1, Result.andThen_ok, run_sizeOf k2, k3]
        simp [hle, hz0, zeroValue, typeInfo, k2, k5, f1', newRow]
    simp [execOp, hop, hrun]
  · simp only [Rel, RelA, Rel1, RelD]
    rw [hn]
    refine ⟨hb2, by unfold sizeMax at hlt; exact hlt, by simp, .inr ⟨g.w.heap.size, 0, n, rfl, Nat.le_refl _, fun _ => rfl, ?_⟩⟩
    refine relEls_of_values e2 (vs := cells'.toList) ⟨f4.1, fun i p v hp hv => ?_⟩ (rangeAt_alloc _ _ _) (fun j hj => .inr ⟨rfl, by simpa using hj⟩)
    have := f4.2 i p v hp hv
    exact ⟨this.1.mono g2.S g2.cell g2.blk, this.2.1⟩
theorem does_makeMap (h : InvG Gl S0 w0 s a g) (o : Oper) {t : TypeId} {d : Nat} (hop : o.op = .makeMap t none) (hH : s.H d = none) (hd6 : d < 1000000) :
    Does P o a g.w (fun a' w' => Inv Gl S0 w0 (({ s with H := upd s.H d (some (.map [])) } : PSt).put o.dst (.mp d)) a' w') := by
  obtain ⟨h1, e1⟩ := h.grow' (below_alloc g.w (.map #[] 0))
  have hz := h.below.size
  have hl : g.H d = none := by rw [h.hH]; exact hH
  obtain ⟨h2, e2⟩ := h1.addObj (l := d) (B := g.w.heap.size) (ob := .map []) hl hd6 (.inl (by omega)) (by show g.w.heap.size < (g.w.alloc _).heap.size; simp) (fun o ho => by have := h.lt _ _ ho; omega)
    (fun l' hl' => h.phi_lt l' hl') (fun t ht => h.spare_lt t (ht.congr rfl rfl)) (fun t ht => h.xb_lt t (ht.congr rfl)) (fun g' hg' hw' => ⟨#[], 0, by rw [hw']; exact heap_alloc_new g.w _, .nil⟩)
  refine .inl ⟨.map (some g.w.heap.size), _, ?_, ⟨_, rfl, h2.put _ ?_⟩⟩
  · simp [execOp, hop, Instr.makeMap, newObj, Sem.run]
  · simp [Rel, RelA, Rel1, upd]
theorem pset_spec {S : Cells} {d : TypeDesc} {k v : PV} {kv : Value} (hs : ∀ fs, d ≠ .struct fs) (hd : keyD d k = true) (hk : RelD S w k kv) : ∀ {es es' : List (PV × PV)} {l : List MapEntry} (i : Nat), All2 (RelE S w) es l → pset k v es = some es' →
    (es' = es ++ [(k, v)] ∧ Instr.findNow d kv l i = some none) ∨ ∃ j m, Instr.findNow d kv l i = some (some (i + j, m.val)) ∧ l[j]? = some m ∧ m.key = kv ∧ es' = es.set j (k, v)
  | [], es', l, i, ha, h => by
    rw [ha.nil_left]
    simp only [pset] at h; cases h
    exact .inl ⟨rfl, rfl⟩
  | e :: es, es', l, i, ha, h => by
    obtain ⟨m, l', rfl, h1, h2⟩ := ha.cons_left
    simp only [pset] at h
    split at h
    · rename_i hq
      cases h
      obtain ⟨h3, h4⟩ := pkeyEq_now hs hd hk h1.1 hq
      exact .inr ⟨0, m, by simp [Instr.findNow, h3], rfl, h4 rfl, rfl⟩
    · rename_i hq
      obtain ⟨h3, _⟩ := pkeyEq_now hs hd hk h1.1 hq
      obtain ⟨es1, hp, rfl⟩ := Option.map_eq_some_iff.1 h
      rcases pset_spec hs hd hk (i + 1) h2 hp with ⟨rfl, h5⟩ | ⟨j, m', h5, h6, h7, rfl⟩
      · exact .inl ⟨rfl, by simp [Instr.findNow, h3, h5]⟩
      · exact .inr ⟨j + 1, m', by simp [Instr.findNow, h3, h5]; omega, by simpa using h6, h7, rfl⟩
    · cases h
theorem psetAsking_spec {S : Cells} {kt : TypeId} {fs : Array Field} (hu : P.underlying kt = some (.struct fs)) (hp : pairT P kt = true) {x y : Int} {v : PV} : ∀ {es es' : List (PV × PV)} {l : List MapEntry} (i : Nat), All2 (RelE S w) es l → pset (.agg [.int .i64 x, .int .i64 y]) v es = some es' →
    (es' = es ++ [(.agg [.int .i64 x, .int .i64 y], v)] ∧ (Instr.findAsking kt (.agg #[.int .i64 x, .int .i64 y]) l i).run P w = .ok none w) ∨ ∃ j m, (Instr.findAsking kt (.agg #[.int .i64 x, .int .i64 y]) l i).run P w = .ok (some (i + j, m.val)) w ∧ l[j]? = some m ∧ m.key = .agg #[.int .i64 x, .int .i64 y] ∧ es' = es.set j (.agg [.int .i64 x, .int .i64 y], v)
  | [], es', l, i, ha, h => by
    rw [ha.nil_left]
    simp only [pset] at h; cases h
    exact .inl ⟨rfl, by simp [Instr.findAsking]⟩
  | e :: es, es', l, i, ha, h => by
    obtain ⟨m, l', rfl, h1, h2⟩ := ha.cons_left
    simp only [pset] at h
    split at h
    · rename_i hq
      cases h
      obtain ⟨h3, h4⟩ := key_asks hu hp hq h1.1
      exact .inr ⟨0, m, by simp [Instr.findAsking, h3], rfl, h4 rfl, rfl⟩
    · rename_i hq
      obtain ⟨h3, _⟩ := key_asks hu hp hq h1.1
      obtain ⟨es2, hp2, rfl⟩ := Option.map_eq_some_iff.1 h
      rcases psetAsking_spec hu hp (i + 1) h2 hp2 with ⟨rfl, h5⟩ | ⟨j, m', h5, h6, h7, rfl⟩
      · exact .inl ⟨rfl, by simp [Instr.findAsking, h3, h5]⟩
      · exact .inr ⟨j + 1, m', by simp [Instr.findAsking, h3, h5]; omega, by simpa using h6, h7, rfl⟩
    · cases h
theorem pset_run {S : Cells} {kt : TypeId} {d : TypeDesc} {k v : PV} {kv : Value} {es es' : List (PV × PV)} {l : List MapEntry} (hu : P.underlying kt = some d) (ht : keyTOK P kt d = true) (hd : keyD d k = true) (hk : RelD S w k kv) (ha : All2 (RelE S w) es l) (h : pset k v es = some es') :
    (es' = es ++ [(k, v)] ∧ (Instr.findKey kt kv l).run P w = .ok none w) ∨ ∃ j m, (Instr.findKey kt kv l).run P w = .ok (some (j, m.val)) w ∧ l[j]? = some m ∧ m.key = kv ∧ es' = es.set j (k, v) := by
  by_cases hs : ∃ fs, d = .struct fs
  · obtain ⟨fs, rfl⟩ := hs
    obtain ⟨x, y, rfl⟩ := keyD_pair hd
    rw [relPair] at hk
    subst hk
    rw [run_findKey_pair hu]
    rcases psetAsking_spec hu ht 0 ha h with h1 | ⟨j, m, h1, h2⟩
    · exact .inl h1
    · exact .inr ⟨j, m, by simpa using h1, h2⟩
  · have hs : ∀ fs, d ≠ .struct fs := fun fs e => hs ⟨fs, e⟩
    rcases pset_spec hs hd hk 0 ha h with ⟨h1, h2⟩ | ⟨j, m, h1, h2⟩
    · exact .inl ⟨h1, MapKept.run_findKey hu h2⟩
    · exact .inr ⟨j, m, MapKept.run_findKey hu (by simpa using h1), h2⟩
theorem does_mapUpdate (h : InvG Gl S0 w0 s a g) (o : Oper) {t : TypeId} {m k x : Operand} {l : Nat} {es es' : List (PV × PV)} {d : TypeDesc} {z dv : PV} (hop : o.op = .mapUpdate t m k x) (hm : s.ev m = .mp l) (hH : s.H l = some (.map es))
    (hkd : mapKD P t = some (d, z)) (hdv : datumA (s.ev x) = some dv) (hd : keyD d (s.ev k) = true) (hf : flatV dv = true) (hp : pset (s.ev k) dv es = some es') :
    Does P o a g.w (fun a' w' => Inv Gl S0 w0 (({ s with H := upd s.H l (some (.map es')) } : PSt).put o.dst .any) a' w') := by
  have hgl : g.H l = some (.map es) := by rw [h.hH]; exact hH
  obtain ⟨o1, o2, o3, arr, clock, b1, b2⟩ := h.objs l _ hgl
  obtain ⟨kt, et, m1, m2, m3, m4, m5⟩ := mapKD_spec hkd
  have hmx : a.eval m = .map (some (g.φ l)) := by have := h.ev m; rw [hm] at this; exact this.1
  have hk := h.ev k
  have hkv : RelD g.S g.w (s.ev k) (a.eval k) := by
    revert hk hd
    cases s.ev k <;> intro hd hk <;> first | exact hk | (cases d <;> simp [keyD] at hd; done) | skip
    cases d <;> simp only [keyD] at hd <;> try cases hd
    obtain ⟨x, y, e⟩ := keyD_pair hd
    rw [e] at hk ⊢
    exact rel_pair hk
  have hx : RelD g.S g.w dv (a.eval x) := datumA_spec ((h.ev x).relA hdv) hdv
  have hc := checkKey_run (P := P) (w := g.w) m2 m5 hd hkv false
  have fin : ∀ o' : Obj, ∀ arr' clock', o' = .map arr' clock' → (∀ g' : GG, GLe g g' → All2 (RelE g'.S g'.w) es' arr'.toList) → (Instr.mapUpdate t (.map (some (g.φ l))) (a.eval k) (a.eval x)).run P g.w = .ok () { g.w with heap := g.w.heap.setIfInBounds (g.φ l) o' } →
      Does P o a g.w (fun a' w' => Inv Gl S0 w0 (({ s with H := upd s.H l (some (.map es')) } : PSt).put o.dst .any) a' w') := by
    intro o' arr' clock' ho' hall hrun
    subst ho'
    obtain ⟨hs1, hs2⟩ := MapKept.heap_set (o' := .map arr' clock') b1
    obtain ⟨h2, e2⟩ := h.setObj (l := l) (ob' := .map es') (w' := { g.w with heap := g.w.heap.setIfInBounds (g.φ l) (.map arr' clock') }) hgl
      ⟨rfl, rfl, rfl, by simp, fun r hr => hs2 r hr, rfl⟩ (fun cs e => by cases e) (fun g' hg' hw' => ⟨arr', clock', by rw [hw']; exact hs1, hall g' hg'⟩)
    refine .inr ⟨_, ?_, ⟨_, rfl, h2.put _ (Rel.any _ _)⟩⟩
    simp [execOp, hop, hmx, hrun]
  have up : ∀ g' : GG, GLe g g' → All2 (RelE g'.S g'.w) es arr.toList := fun g' hg' => b2.mono fun _ _ q => ⟨q.1.mono hg'.S hg'.cell hg'.blk, q.2.1.mono hg'.S hg'.cell hg'.blk, q.2.2⟩
  have new : ∀ g' : GG, GLe g g' → ∀ b, RelE g'.S g'.w (s.ev k, dv) ({ key := a.eval k, val := a.eval x, born := b } : MapEntry) := fun g' hg' b => ⟨hkv.mono hg'.S hg'.cell hg'.blk, hx.mono hg'.S hg'.cell hg'.blk, hf⟩
  rcases pset_run (P := P) m2 m5 hd hkv b2 hp with ⟨rfl, hfk⟩ | ⟨j, m', hfk, h3, h4, rfl⟩
  · refine fin _ (arr.push { key := a.eval k, val := a.eval x, born := clock }) (clock + 1) rfl (fun g' hg' => ?_) ?_
    · rw [Array.toList_push]
      exact (up g' hg').append (.cons (new g' hg' clock) .nil)
    · simp [Instr.mapUpdate, run_underlying m1, MapKept.run_getObj_map b1, hc, hfk, MapKept.run_setObj_map _ b1]
  · have h3' : arr[j]? = some m' := by simpa using h3
    refine fin _ (arr.modify j fun e => { e with key := a.eval k, val := a.eval x }) clock rfl (fun g' hg' => ?_) ?_
    · refine ⟨by simp [(up g' hg').1], fun i p q hp' hq => ?_⟩
      have hj : j < arr.size := (Array.getElem?_eq_some_iff.1 h3').1
      rw [List.getElem?_set] at hp'
      rw [Array.getElem?_toList, Array.getElem?_modify] at hq
      by_cases hij : j = i
      · subst hij
        rw [if_pos rfl] at hp' hq
        rw [h3'] at hq
        split at hp'
        · cases hp'; cases hq
          exact new g' hg' m'.born
        · cases hp'
      · rw [if_neg hij] at hp' hq
        exact (up g' hg').2 i p q hp' (by simpa using hq)
    · have hks : (Instr.keyThatStays (((arr[j]?).map (·.key)).getD (a.eval k)) (a.eval k)).run P g.w = .ok (a.eval k) g.w := by
        rw [h3']
        simp only [Option.map_some, Option.getD_some, h4]
        exact keyStays_run hd hkv
      simp [Instr.mapUpdate, run_underlying m1, MapKept.run_getObj_map b1, hc, hfk, hks, MapKept.run_setObj_map _ b1]
end
end PM
