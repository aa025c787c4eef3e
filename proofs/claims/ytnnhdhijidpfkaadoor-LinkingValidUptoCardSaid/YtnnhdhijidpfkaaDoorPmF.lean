import Derived.Test.YtnnhdhijidpfkaaDoorPmA
import Derived.Laws.Slices
import Derived.MapKept
import Derived.Laws.Tables
import Derived.Orders
/-
  THE PURE MACHINE, F: the other operations that yield a value and leave memory alone; all of them in one function (ev1).
-/
namespace PM
open Go Go.RowKit

def evUn (op : UnOp) : PV → Option PV
  | .bool b => match op with | .not => some (.bool (!b)) | _ => none
  | .int k n => match op with | .neg => some (.int k (k.wrap (0 - n))) | _ => none
  | _ => none
def evConv (P : Program) (src dst : TypeId) : PV → Option PV
  | .int _ n => match intT P src, intT P dst with
    | some _, some k => some (.int k (k.wrap n))
    | _, _ => none
  | .str s => if strT P src && strT P dst then some (.str s) else none
  | _ => none
def evField (P : Program) (t : TypeId) (f : Nat) : PV → Option PV
  | .agg cs => match fieldK P t f with
    | some (off, true, n) => if off + n ≤ cs.length then some (.agg ((cs.drop off).take n)) else none
    | some (off, false, _) => cs[off]?
    | none => none
  | _ => none
def evFieldAddr (P : Program) (t : TypeId) (f : Nat) : PV → Option PV
  | .ref l o => match fieldK P t f with | some (off, _, n) => if n = 0 then none else some (.ref l (o + off)) | none => none
  | .cptr cs => match fieldK P t f with | some (off, _, n) => if n = 0 then none else some (.cptr (cs.drop off)) | none => none
  | .gptr g o => match fieldK P t f with | some (off, _, n) => if n = 0 then none else some (.gptr g (o + off)) | none => none
  | .eref tk k N j o => match fieldK P t f with | some (off, _, n) => if n = 0 then none else some (.eref tk k N j (o + off)) | none => none
  | _ => none
def evIndexAddr (P : Program) (t : TypeId) : PV → PV → Option PV
  | .lst _ k _ xss, .int _ n => match elemK P t with
    | some (_, _, k', _) => if k' = k ∧ 0 ≤ n then (xss[n.toNat]?).map .cptr else none
    | none => none
  | .sl l o len k _, .int _ n => match elemK P t with
    | some (_, _, k', _) => if k' = k ∧ 0 ≤ n ∧ n < len then some (.ref l (o * k + n.toNat * k)) else none
    | none => none
  | .ex tk k _ N o m, .int _ n => match elemK P t with
    | some (_, _, k', _) => if k' = k ∧ 0 ≤ n ∧ n < m then some (.eref tk k N (o + n.toNat) 0) else none
    | none => none
  | .ref l o, .int _ n => match arrK P t with
    | some (m, _, k) => if 0 ≤ n ∧ n < m then some (.ref l (o + n.toNat * k)) else none
    | none => none
  | .cptr cs, .int _ n => match arrK P t with
    | some (m, _, k) => if 0 ≤ n ∧ n < m then some (.cptr (cs.drop (n.toNat * k))) else none
    | none => none
  | .gptr g o, .int _ n => match arrK P t with
    | some (m, _, k) => if 0 ≤ n ∧ n < m then some (.gptr g (o + n.toNat * k)) else none
    | none => none
  | _, _ => none
def evIndex (P : Program) (t : TypeId) : PV → PV → Option PV
  | .agg cs, .int _ n => match arrK P t with
    | some (m, true, k) => if 0 ≤ n ∧ n < m ∧ n.toNat * k + k ≤ cs.length then some (.agg ((cs.drop (n.toNat * k)).take k)) else none
    | some (m, false, k) => if 0 ≤ n ∧ n < m then cs[n.toNat * k]? else none
    | none => none
  | .str s, .int _ n => if strT P t && decide (0 ≤ n) then (s[n.toNat]?).map fun b => .int .u8 b.toNat else none
  | _, _ => none
def takeN (n : Nat) (cs : List PV) : List PV := if cs.length = n then cs else cs.take n
def loadFrom (P : Program) (t : TypeId) (cs : List PV) : Option PV :=
  match tyK P t with
  | some (true, n) => if n ≤ cs.length then some (.agg (takeN n cs)) else none
  | some (false, _) => cs.head?
  | none => none
def evLoad (P : Program) (Gl : Nat → Option (List PV)) (H : Nat → Option PObj) (X : XT) (t : TypeId) : PV → Option PV
  | .cptr cs => loadFrom P t cs
  | .ref l o => match H l with | some (.cells cs) => loadFrom P t (cs.drop o) | _ => none
  | .gptr i o => match Gl i with | some cs => loadFrom P t (cs.drop o) | none => none
  | .eref tk k N j o => match X tk with | some (k', _, xss) => if k' = k ∧ xss.length = N then (xss[j]?).bind fun cs => loadFrom P t (cs.drop o) else none | none => none
  | _ => none
def bnd (x : Option PV) (dflt : Nat) : Option Nat :=
  match x with
  | none => some dflt
  | some (.int _ n) => if 0 ≤ n then some n.toNat else none
  | _ => none
def evSlice (P : Program) (t : TypeId) (lo hi mx : Option PV) : PV → Option PV
  | .lst o k b xss => match elemK P t, bnd lo 0, bnd hi xss.length, bnd mx xss.length with
    | some (_, _, k', _), some l, some h, some m =>
      if k' = k ∧ l ≤ h ∧ h ≤ m ∧ m ≤ xss.length ∧ (mx = none ∨ hi ≠ none) then some (.lst (if (mx ≠ none ∧ m = h) ∨ (o = .full ∧ hi = none) then .full else .frozen) k b ((xss.take h).drop l)) else none
    | _, _, _, _ => none
  | .nil => match elemK P t, bnd lo 0, bnd hi 0, bnd mx 0 with
    | some _, some 0, some 0, some 0 => if mx = none ∨ hi ≠ none then some .nil else none
    | _, _, _, _ => none
  | .sl l o len k b => match elemK P t, bnd lo 0, bnd hi len with
    | some (_, _, k', _), some a, some h => if k' = k ∧ a ≤ h ∧ h ≤ len ∧ mx = none then some (.sl l (o + a) (h - a) k b) else none
    | _, _, _ => none
  | .ex tk k b N o len => match elemK P t, bnd lo 0, bnd hi len with
    | some (_, _, k', _), some a, some h => if k' = k ∧ a ≤ h ∧ h ≤ len ∧ mx = none then some (.ex tk k b N (o + a) (h - a)) else none
    | _, _, _ => none
  | .str s => match bnd lo 0, bnd hi s.size with
    | some l, some h => if strT P t = true ∧ l ≤ h ∧ h ≤ s.size ∧ mx = none then some (.str (s.extract l h)) else none
    | _, _ => none
  | _ => none
def evLen (P : Program) (H : Nat → Option PObj) (t : TypeId) : PV → Option PV
  | .lst _ _ _ xss => if sliceT P t then some (.int .i64 xss.length) else none
  | .sl _ _ n _ _ => if sliceT P t then some (.int .i64 n) else none
  | .ex _ _ _ _ _ n => if sliceT P t then some (.int .i64 n) else none
  | .nil => if sliceT P t then some (.int .i64 0) else none
  | .str s => if strT P t then some (.int .i64 s.size) else none
  | .mp l => match H l with | some (.map es) => if mapT P t then some (.int .i64 es.length) else none | _ => none
  | _ => none
/-- Are two keys equal? -/
def pkeyEq : PV → PV → Option Bool
  | .int k a, .int k' b => if k = k' then some (decide (a = b)) else none
  | .str a, .str b => some (decide (a = b))
  | .bool a, .bool b => some (decide (a = b))
  | .agg [.int .i64 a, .int .i64 b], .agg [.int .i64 c, .int .i64 d] => some (decide (a = c) && decide (b = d))
  | _, _ => none
def pfind (k : PV) : List (PV × PV) → Option (Option PV)
  | [] => some none
  | e :: es => match pkeyEq k e.1 with
    | some true => some (some e.2)
    | some false => pfind k es
    | none => none
def pset (k v : PV) : List (PV × PV) → Option (List (PV × PV))
  | [] => some [(k, v)]
  | e :: es => match pkeyEq k e.1 with
    | some true => some ((k, v) :: es)
    | some false => (pset k v es).map (e :: ·)
    | none => none
def int64T (P : Program) (t : TypeId) : Bool := match P.underlying t with | some (.int .i64) => true | _ => false
/-- A struct of two numbers. -/
def pairT (P : Program) (t : TypeId) : Bool :=
  match P.underlying t with
  | some (.struct fs) => (match fs.toList with
    | [f1, f2] => int64T P f1.type && int64T P f2.type && decide (f1.offset = 0) && decide (f2.offset = 1)
    | _ => false) && (match eqKd P 10000 t with | some [.i .i64, .i .i64] => true | _ => false)
  | _ => false
def keyTOK (P : Program) (t : TypeId) : TypeDesc → Bool
  | .struct _ => pairT P t
  | _ => true
/-- A map's kind of keys, and the zero value of its elements. -/
def mapKD (P : Program) (t : TypeId) : Option (TypeDesc × PV) :=
  match P.underlying t with
  | some (.map k e) => match P.underlying k, zeroK P e with
    | some d, some z => if flatV z = true ∧ keyTOK P k d = true then some (d, z) else none
    | _, _ => none
  | _ => none
def keyD : TypeDesc → PV → Bool
  | .int k, .int k' _ => decide (k' = k)
  | .string, .str _ => true
  | .bool, .bool _ => true
  | .struct _, .agg [.int .i64 _, .int .i64 _] => true
  | _, _ => false
/-- What a map gives at a key that it does not have: an empty list in place of nil. -/
def nilL (P : Program) (t : TypeId) (z : PV) : PV :=
  match z with
  | .nil => match P.underlying t with
    | some (.map _ e) => match elemK P e with
      | some (_, _, k, b) => .lst .frozen k b []
      | none => .nil
    | _ => .nil
  | z => z
theorem rel_nilL {g : GG} {P : Program} {t : TypeId} {z : PV} {v : Value} (h : RelA g z v) : RelA g (nilL P t z) v := by
  unfold nilL
  split
  · split
    · split
      · exact RelD.ofNil _ _ (.inl rfl) h
      · exact h
    · exact h
  · exact h
def evLookup (P : Program) (t : TypeId) (es : List (PV × PV)) (k : PV) (ok : Bool) : Option PV :=
  match mapKD P t with
  | some (d, z) => if keyD d k = true then (pfind k es).map fun r => if ok = true then .tup [r.getD (nilL P t z), .bool r.isSome] else r.getD (nilL P t z) else none
  | none => none
/-- Where a key is in a map of lists that may grow in place. -/
def ofind (k : PV) : List (PV × List (List PV)) → Option (Option (Nat × List (List PV)))
  | [] => some none
  | e :: es => match pkeyEq k e.1 with
    | some true => some (some (0, e.2))
    | some false => (ofind k es).map (Option.map fun x => (x.1 + 1, x.2))
    | none => none
def frzM (k b : Nat) (es : List (PV × List (List PV))) : List (PV × PV) := es.map fun e => (e.1, .lst .frozen k b e.2)
def evLookupO (P : Program) (t : TypeId) (es : List (PV × List (List PV))) (k b : Nat) (tk : Nat → Nat) (kv : PV) (ok : Bool) : Option PV :=
  match mapKD P t, ok with
  | some (d, .nil), false => if keyD d kv = true then (ofind kv es).map fun r => match r with
    | some (i, xss) => .lst (.own (tk i)) k b xss
    | none => .nil
    else none
  | _, _ => none
def capOK : PV → Bool
  | .ref _ _ | .cptr _ | .gptr _ _ => true
  | _ => false
def evMinMax (max : Bool) : PV → PV → Option PV
  | .int k a, .int k' b => if k = k' then some (.int k (if max then Max.max a b else Min.min a b)) else none
  | _, _ => none

section
variable {P : Program} {Gl : Nat → Option (List PV)} {S0 : Bs} {w0 : World} {s : PSt} {a : Act} {g : GG} {w : World}
theorem run_evUn {op : UnOp} {p r : PV} {v : Value} (h : evUn op p = some r) (hv : Rel g p v) : ∃ z, (Op.unary op v).run P w = .ok z w ∧ Rel g r z := by
  cases p <;> simp only [evUn] at h <;> try cases h
  case bool b =>
    rw [relBool] at hv; subst hv
    cases op <;> simp only at h <;> cases h
    exact ⟨_, by simp [Op.unary], relBool.2 rfl⟩
  case int k n =>
    rw [relInt] at hv; subst hv
    cases op <;> simp only at h <;> cases h
    exact ⟨_, by simp [Op.unary, Op.intArith]; rfl, relInt.2 (by simp)⟩
theorem intT_spec {t : TypeId} {k : IntKind} (h : intT P t = some k) : P.underlying t = some (.int k) := by
  unfold intT at h
  split at h
  · rename_i k' hk; cases h; exact hk
  · cases h
theorem strT_spec {t : TypeId} (h : strT P t = true) : P.underlying t = some .string := by
  unfold strT at h
  split at h
  · assumption
  · cases h
theorem sliceT_spec {t : TypeId} (h : sliceT P t = true) : ∃ e, P.underlying t = some (.slice e) := by
  unfold sliceT at h
  split at h
  · rename_i e he; exact ⟨e, he⟩
  · cases h
theorem run_evConv {src dst : TypeId} {p r : PV} {v : Value} (h : evConv P src dst p = some r) (hv : Rel g p v) : ∃ z, (convert src dst v).run P w = .ok z w ∧ Rel g r z := by
  cases p <;> simp only [evConv] at h <;> try cases h
  case int k n =>
    rw [relInt] at hv; subst hv
    split at h
    · rename_i k1 k2 h1 h2
      cases h
      exact ⟨_, by simp [convert, run_underlying (intT_spec h1), run_underlying (intT_spec h2), Conv.intToInt], relInt.2 rfl⟩
    · cases h
  case str s =>
    rw [relStr] at hv; subst hv
    by_cases hs : (strT P src && strT P dst) = true
    · rw [if_pos hs] at h; cases h
      simp only [Bool.and_eq_true] at hs
      exact ⟨_, by simp [convert, run_underlying (strT_spec hs.1), run_underlying (strT_spec hs.2)], relStr.2 rfl⟩
    · rw [if_neg hs] at h; cases h

theorem RelC.rel {p : PV} {v : Value} (h : RelC g p v) : Rel g p v := .of1 h.1
theorem aggTake {cs : List PV} {arr : Array Value} (h : All2 (RelC g) cs arr.toList) (off n : Nat) : Rel g (.agg ((cs.drop off).take n)) (.agg (arr.extract off (off + n))) := by
  simp only [Rel, RelA]
  refine ⟨_, rfl, ?_⟩
  have := (h.drop off).take n
  rwa [show (arr.extract off (off + n)).toList = (arr.toList.drop off).take n by simp [Array.toList_extract]]
theorem run_evField {t : TypeId} {f : Nat} {p r : PV} {v : Value} (h : evField P t f p = some r) (hv : Rel g p v) : ∃ z, (Instr.field t v f).run P w = .ok z w ∧ Rel g r z := by
  cases p <;> simp only [evField] at h <;> try cases h
  case agg cs =>
    simp only [Rel, RelA] at hv
    obtain ⟨arr, rfl, harr⟩ := hv
    split at h
    · rename_i off n hk
      obtain ⟨fs, fl, i, d, h1, h2, h3, h4, h5, h6, h7⟩ := fieldK_spec hk
      split at h
      · cases h
        refine ⟨.agg (arr.extract off (off + n)), ?_, aggTake harr off n⟩
        simp only [Instr.field, Sem.run_bind, run_underlying h1, Result.andThen_ok, h2, asAgg, part, run_isAgg h5, run_sizeOf h4, ← h6, if_true, h3, Sem.run_pure, h7]
      · cases h
    · rename_i off n hk
      obtain ⟨fs, fl, i, d, h1, h2, h3, h4, h5, h6, h7⟩ := fieldK_spec hk
      obtain ⟨v, hv, hrel⟩ := harr.right h
      refine ⟨v, ?_, hrel.rel⟩
      simp only [Instr.field, Sem.run_bind, run_underlying h1, Result.andThen_ok, h2, asAgg, part, run_isAgg h5, ← h6, Bool.false_eq_true, if_false, h3, Sem.run_pure]
      rw [show arr[off]? = some v by simpa using hv]
      rfl
    · cases h
theorem RelCells.drop {S : Cells} {cs : List PV} {B o : Nat} (h : RelCells S w cs B o) (n : Nat) : RelCells S w (cs.drop n) B (o + n) := by
  rw [relCells_iff] at h ⊢
  intro i c hc
  rw [List.getElem?_drop] at hc
  have := h _ c hc
  rwa [show o + (n + i) = o + n + i by omega] at this
theorem relCptr {cs : List PV} {v : Value} : Rel g (.cptr cs) v ↔ ∃ B off, v = .pointer (some ⟨B, off, none⟩) ∧ RelCells g.S g.w cs B off := by simp [Rel, RelA, Rel1, RelD]
theorem relRef {l o : Nat} {v : Value} : Rel g (.ref l o) v ↔ v = .pointer (some ⟨g.φ l, o, none⟩) ∧ (g.H l).isSome = true := by simp [Rel, RelA, Rel1]
theorem relGptr {i o : Nat} {v : Value} : Rel g (.gptr i o) v ↔ v = .pointer (some ⟨i, o, none⟩) := by simp [Rel, RelA, Rel1, RelD]
theorem run_fieldAt {t : TypeId} {f off n : Nat} {x : Bool} (hk : fieldK P t f = some (off, x, n)) (hn : n ≠ 0) (B o : Nat) : (Instr.fieldAt t (.pointer (some ⟨B, o, none⟩)) f).run P w = .ok (.pointer (some ⟨B, o + off, none⟩)) w := by
  obtain ⟨fs, fl, i, d, h1, h2, h3, h4, h5, h6, h7⟩ := fieldK_spec hk
  have hi : ¬ i.size = 0 := by omega
  simp [Instr.fieldAt, Sem.run_bind, run_underlying h1, h2, Instr.sureAddr, fieldPlace, run_sizeOf h4, hi, h3, Addr.add_lit]
theorem run_evFieldAddr {t : TypeId} {f : Nat} {p r : PV} {v : Value} (h : evFieldAddr P t f p = some r) (hv : Rel g p v) (hw : g.w = w) : ∃ z, (Instr.fieldAt t v f).run P w = .ok z w ∧ Rel g r z := by
  subst hw
  cases p <;> simp only [evFieldAddr] at h <;> try cases h
  case ref l o =>
    split at h
    · rename_i off x n hk
      by_cases hn : n = 0
      · rw [if_pos hn] at h; cases h
      · rw [if_neg hn] at h; cases h
        rw [relRef] at hv
        obtain ⟨rfl, hl⟩ := hv
        exact ⟨_, run_fieldAt hk hn _ _, relRef.2 ⟨rfl, hl⟩⟩
    · cases h
  case cptr cs =>
    split at h
    · rename_i off x n hk
      by_cases hn : n = 0
      · rw [if_pos hn] at h; cases h
      · rw [if_neg hn] at h; cases h
        rw [relCptr] at hv
        obtain ⟨B, o, rfl, hc⟩ := hv
        exact ⟨_, run_fieldAt hk hn _ _, relCptr.2 ⟨B, o + off, rfl, hc.drop off⟩⟩
    · cases h
  case eref tk k N j o =>
    split at h
    · rename_i off x n hk
      by_cases hn : n = 0
      · rw [if_pos hn] at h; cases h
      · rw [if_neg hn] at h; cases h
        simp only [Rel, RelA, Rel1] at hv
        obtain ⟨⟨B, q, rfl⟩, N', h1, h2, h3⟩ := hv
        refine ⟨_, run_fieldAt hk hn _ _, ⟨⟨B, _, rfl⟩, N', h1, h2, fun e => ?_⟩⟩
        obtain ⟨B', cap, e1, e2⟩ := h3 e
        cases e2
        exact ⟨B, cap, e1, by rw [Nat.add_assoc]⟩
    · cases h
  case gptr i o =>
    split at h
    · rename_i off x n hk
      by_cases hn : n = 0
      · rw [if_pos hn] at h; cases h
      · rw [if_neg hn] at h; cases h
        rw [relGptr] at hv
        subst hv
        exact ⟨_, run_fieldAt hk hn _ _, relGptr.2 rfl⟩
    · cases h

theorem run_indexAt_sl {t : TypeId} {e : TypeId} {x : Bool} {k b : Nat} (hk : elemK P t = some (e, x, k, b)) (B o len cap : Nat) (k' : IntKind) (n : Int) (h0 : 0 ≤ n) (h1 : n < len) :
    (Instr.indexAt t (.slice (some ⟨B, o, none⟩) len cap) (.int k' n)).run P w = .ok (.pointer (some ⟨B, o + n.toNat * k, none⟩)) w := by
  obtain ⟨i, d, h2, h3, h4, h5, h6, h7⟩ := elemK_spec hk
  have he : P.elem t = e := by simp [Program.elem, h2]
  rw [run_indexAt_slice w t _ _ _ _ _ (by rw [he]; exact h2), if_pos ⟨h0, h1⟩, he, run_sizeOf h3]
  simp only [Result.andThen_ok, Addr.add_lit, h6]
theorem run_indexAt_arr {t : TypeId} {m k : Nat} {x : Bool} (hk : arrK P t = some (m, x, k)) (B o : Nat) (k' : IntKind) (n : Int) (h0 : 0 ≤ n) (h1 : n < m) :
    (Instr.indexAt t (.pointer (some ⟨B, o, none⟩)) (.int k' n)).run P w = .ok (.pointer (some ⟨B, o + n.toNat * k, none⟩)) w := by
  obtain ⟨e, i, d, h2, h3, h4, h5, h6⟩ := arrK_spec hk
  have he : P.elem t = e := by simp [Program.elem, h2]
  have hl : P.arrayLen t = m := by simp [Program.arrayLen, h2]
  rw [run_indexAt_array w t _ _ _ (by rw [he, hl]; exact h2), hl, if_pos ⟨h0, h1⟩, he, run_sizeOf h3]
  simp only [Result.andThen_ok, Addr.add_lit, h6]
theorem relLst {o : Own} {k b : Nat} {xss : List (List PV)} {v : Value} (h : Rel g (.lst o k b xss) v) : RelD g.S g.w (.lst .frozen k b xss) v := by
  cases o with
  | own t => exact h.1
  | frozen => exact h
  | full => exact RelD.unfull h
theorem run_evIndexAddr {t : TypeId} {p q r : PV} {v u : Value} (h : evIndexAddr P t p q = some r) (hv : Rel g p v) (hu : Rel g q u) (hw : g.w = w) : ∃ z, (Instr.indexAt t v u).run P w = .ok z w ∧ Rel g r z := by
  subst hw
  cases p <;> cases q <;> simp only [evIndexAddr] at h <;> try cases h
  case lst.int o k b xss k' n =>
    rw [relInt] at hu; subst hu
    split at h
    · rename_i e x k1 b1 hk
      by_cases hc : k1 = k ∧ 0 ≤ n
      · rw [if_pos hc] at h
        obtain ⟨rfl, h0⟩ := hc
        obtain ⟨cs, hcs, rfl⟩ := Option.map_eq_some_iff.1 h
        have hlt : n.toNat < xss.length := (List.getElem?_eq_some_iff.1 hcs).1
        have hd := relLst hv
        simp only [RelD] at hd
        obtain ⟨_, _, _, ⟨_, rfl⟩ | ⟨B, off, cap, rfl, _, _, he⟩⟩ := hd
        · simp at hlt
        · exact ⟨_, run_indexAt_sl hk _ _ _ _ _ _ h0 (by omega), relCptr.2 ⟨B, _, rfl, ((relEls_iff k1 xss B off).1 he _ cs hcs).2⟩⟩
      · rw [if_neg hc] at h; cases h
    · cases h
  case sl.int l o len k b k' n =>
    rw [relInt] at hu; subst hu
    split at h
    · rename_i e x k1 b1 hk
      by_cases hc : k1 = k ∧ 0 ≤ n ∧ n < len
      · rw [if_pos hc] at h; cases h
        obtain ⟨rfl, h0, h1⟩ := hc
        simp only [Rel, RelA, Rel1] at hv
        obtain ⟨⟨off, cap, rfl, hcap, hoff⟩, cs, hcs, _⟩ := hv
        have : off = o * k1 := hoff.resolve_right (by omega)
        subst this
        exact ⟨_, run_indexAt_sl hk _ _ _ _ _ _ h0 h1, relRef.2 ⟨rfl, by rw [hcs]; rfl⟩⟩
      · rw [if_neg hc] at h; cases h
    · cases h
  case ex.int tk k b N o m k' n =>
    rw [relInt] at hu; subst hu
    split at h
    · rename_i e x k1 b1 hk
      by_cases hc : k1 = k ∧ 0 ≤ n ∧ n < m
      · rw [if_pos hc] at h; cases h
        obtain ⟨rfl, h0, h1⟩ := hc
        simp only [Rel, RelA, Rel1] at hv
        obtain ⟨⟨x, cap, rfl, hcap, hx⟩, N', q1, q2, q3⟩ := hv
        obtain ⟨B, off, rfl⟩ := hx (by omega)
        refine ⟨_, run_indexAt_sl hk _ _ _ _ _ _ h0 h1, ⟨⟨B, _, rfl⟩, N', q1, q2, fun e => ?_⟩⟩
        rcases q3 e with ⟨_, _, _, e4⟩ | ⟨B', cap', off', e1, e2, e3, e4, e5, e6⟩
        · omega
        · simp only [Value.slice.injEq, Option.some.injEq, Addr.mk.injEq, and_true] at e5
          obtain ⟨⟨rfl, rfl⟩, _, rfl⟩ := e5
          rcases e6 with rfl | e6
          · exact ⟨B, cap', e1, by rw [Nat.add_zero, Nat.add_mul]⟩
          · omega
      · rw [if_neg hc] at h; cases h
    · cases h
  case ref.int l o k' n =>
    rw [relInt] at hu; subst hu
    split at h
    · rename_i m x k1 hk
      by_cases hc : 0 ≤ n ∧ n < m
      · rw [if_pos hc] at h; cases h
        rw [relRef] at hv
        obtain ⟨rfl, hl⟩ := hv
        exact ⟨_, run_indexAt_arr hk _ _ _ _ hc.1 hc.2, relRef.2 ⟨rfl, hl⟩⟩
      · rw [if_neg hc] at h; cases h
    · cases h
  case cptr.int cs k' n =>
    rw [relInt] at hu; subst hu
    split at h
    · rename_i m x k1 hk
      by_cases hc : 0 ≤ n ∧ n < m
      · rw [if_pos hc] at h; cases h
        rw [relCptr] at hv
        obtain ⟨B, o, rfl, hcs⟩ := hv
        exact ⟨_, run_indexAt_arr hk _ _ _ _ hc.1 hc.2, relCptr.2 ⟨B, _, rfl, hcs.drop _⟩⟩
      · rw [if_neg hc] at h; cases h
    · cases h
  case gptr.int i o k' n =>
    rw [relInt] at hu; subst hu
    split at h
    · rename_i m x k1 hk
      by_cases hc : 0 ≤ n ∧ n < m
      · rw [if_pos hc] at h; cases h
        rw [relGptr] at hv
        subst hv
        exact ⟨_, run_indexAt_arr hk _ _ _ _ hc.1 hc.2, relGptr.2 rfl⟩
      · rw [if_neg hc] at h; cases h
    · cases h

theorem run_evIndex {t : TypeId} {p q r : PV} {v u : Value} (h : evIndex P t p q = some r) (hv : Rel g p v) (hu : Rel g q u) : ∃ z, (Instr.index t v u).run P w = .ok z w ∧ Rel g r z := by
  cases p <;> cases q <;> simp only [evIndex] at h <;> try cases h
  case agg.int cs k' n =>
    rw [relInt] at hu; subst hu
    simp only [Rel, RelA] at hv
    obtain ⟨arr, rfl, harr⟩ := hv
    split at h
    · rename_i m k hk
      obtain ⟨e, i, d, h2, h3, h4, h5, h6⟩ := arrK_spec hk
      by_cases hc : 0 ≤ n ∧ n < m ∧ n.toNat * k + k ≤ cs.length
      · rw [if_pos hc] at h; cases h
        refine ⟨_, ?_, aggTake harr (n.toNat * k) k⟩
        have hc' : 0 ≤ n ∧ n < (m : Int) := ⟨hc.1, hc.2.1⟩
        simp only [Instr.index, asIntOf, Sem.run_bind, Sem.run_pure, Result.andThen_ok, run_underlying h2, if_pos hc', run_sizeOf h3, part, run_isAgg h4, ← h5, if_true, h6]
      · rw [if_neg hc] at h; cases h
    · rename_i m k hk
      obtain ⟨e, i, d, h2, h3, h4, h5, h6⟩ := arrK_spec hk
      by_cases hc : 0 ≤ n ∧ n < m
      · rw [if_pos hc] at h
        obtain ⟨z, hz, hrel⟩ := harr.right h
        refine ⟨z, ?_, hrel.rel⟩
        simp only [Instr.index, asIntOf, Sem.run_bind, Sem.run_pure, Result.andThen_ok, run_underlying h2, if_pos hc, run_sizeOf h3, part, run_isAgg h4, ← h5, Bool.false_eq_true, if_false, ← h6]
        rw [show arr[n.toNat * k]? = some z by simpa using hz]
        rfl
      · rw [if_neg hc] at h; cases h
    · cases h
  case str.int st k' n =>
    rw [relInt] at hu; subst hu
    rw [relStr] at hv; subst hv
    by_cases hc : (strT P t && decide (0 ≤ n)) = true
    · rw [if_pos hc] at h
      simp only [Bool.and_eq_true, decide_eq_true_eq] at hc
      obtain ⟨b, hb, rfl⟩ := Option.map_eq_some_iff.1 h
      refine ⟨_, ?_, relInt.2 rfl⟩
      simp only [Instr.index, asIntOf, Sem.run_bind, Sem.run_pure, Result.andThen_ok, run_underlying (strT_spec hc.1), if_pos hc.2, hb]
    · rw [if_neg hc] at h; cases h
end
end PM
/-
  THE PURE MACHINE, G: loads, slices, lengths, composites: values again; all such operations in one function (ev1), and its soundness.
-/
namespace PM
open Go Go.RowKit

/-- The fields' (offset, size). -/
def placesF (P : Program) : List Field → Option (List (Nat × Nat))
  | [] => some []
  | f :: fs => match P.info? f.type, placesF P fs with
    | some i, some r => some ((f.offset, i.size) :: r)
    | _, _ => none
def placesK (P : Program) (t : TypeId) : Option (List (Nat × Nat)) :=
  match P.underlying t with
  | some (.struct fs) => placesF P fs.toList
  | _ => none
/-- The parts are laid over the zero cells. -/
def pfill (pl : List (Nat × Nat)) : List (Nat × PV) → List PV → Option (List PV)
  | [], cs => some cs
  | (i, v) :: rest, cs => match pl[i]? with
    | some (off, n) =>
      if v.cells.length = n ∧ off + n ≤ cs.length ∧ v.cells.all PV.okCell then pfill pl rest (cs.take off ++ v.cells ++ cs.drop (off + n)) else none
    | none => none
 where
  /-- A cell that is known to be one. -/
  PV.okCell : PV → Bool := PV.one
def evBuild (P : Program) (t : TypeId) (parts : List (Nat × PV)) : Option PV :=
  match zeroK P t, placesK P t, parts, arrK P t with
  | some (.agg z), some pl, parts, _ => (pfill pl parts z).map .agg
  | some (.agg z), none, [], some _ => some (.agg z)
  | _, _, _, _ => none

section
variable {P : Program} {Gl : Nat → Option (List PV)} {S0 : Bs} {w0 : World} {s : PSt} {a : Act} {g : GG} {w : World}

theorem isRow_eq (d : TypeDesc) : d.isRow = isRowD d := by cases d <;> rfl
/-- A bound of a slice expression, present or not. -/
def RelO (g : GG) : Option PV → Option Value → Prop
  | none, none => True
  | some p, some v => Rel g p v
  | _, _ => False
theorem run_loadFrom {t : TypeId} {cs : List PV} {r : PV} {B o : Nat} (h : loadFrom P t cs = some r) (vs : List Value) (hvs : All2 (RelC g) cs vs) (hr : w.rangeAt B o vs) :
    ∃ z, (Instr.loadAt t (.pointer (some ⟨B, o, none⟩))).run P w = .ok z w ∧ Rel g r z := by
  unfold loadFrom at h
  split at h
  · rename_i n hk
    obtain ⟨i, d, h1, h2, h3⟩ := tyK_spec hk
    obtain ⟨h3a, h3b⟩ := Prod.mk.inj h3
    by_cases hn : n ≤ cs.length
    · rw [if_pos hn] at h; cases h
      have hrow : d.isRow = true := by rw [isRow_eq]; exact h3a.symm
      have hlen : (vs.take n).length = n := by rw [List.length_take, ← hvs.1]; omega
      refine ⟨_, run_loadAt_mid w B o t (vs.take n) d (fun j v hv => ?_) h2 hrow (by rw [h1, hlen, h3b]; rfl), ?_⟩
      · rw [List.getElem?_take] at hv
        by_cases hj : j < n
        · rw [if_pos hj] at hv; exact hr j v hv
        · rw [if_neg hj] at hv; cases hv
      · simp only [Rel, RelA]
        refine ⟨_, rfl, ?_⟩
        unfold takeN
        split
        · rename_i he
          rw [show (vs.take n) = vs from List.take_of_length_le (by rw [← hvs.1, he]; exact Nat.le_refl _)]
          exact hvs
        · exact hvs.take n
    · rw [if_neg hn] at h; cases h
  · rename_i n hk
    obtain ⟨i, d, h1, h2, h3⟩ := tyK_spec hk
    obtain ⟨h3a, h3b⟩ := Prod.mk.inj h3
    cases cs with
    | nil => cases h
    | cons c cs =>
      cases h
      obtain ⟨v, vs', rfl, hc, _⟩ := hvs.cons_left
      have hcell := hr 0 v rfl
      rw [Nat.add_zero] at hcell
      refine ⟨v, ?_, hc.rel⟩
      simp only [Instr.loadAt, Instr.sureAddr, Sem.run_bind, Sem.run_pure, Result.andThen_ok, loadVar, run_isAgg h2, ← h3a, Bool.false_eq_true, if_false, load]
      simp [Sem.run, hcell]
  · cases h
theorem RelCells.forC {cs : List PV} {B o : Nat} (h : RelCells g.S g.w cs B o) : ∃ vs, All2 (RelC g) cs vs ∧ g.w.rangeAt B o vs := by
  obtain ⟨vs, h1, h2, h3⟩ := h.values
  refine ⟨vs, ⟨h1.1, fun i x y hx hy => ?_⟩, h2⟩
  have := h1.2 i x y hx hy
  have hone := ((relCells_iff cs B o).1 h i x hx).1
  exact ⟨.of_data this hone, (this.oneCell hone).1⟩
theorem rangeAt_drop {w : World} {B o : Nat} {vs : List Value} (h : w.rangeAt B o vs) (n : Nat) : w.rangeAt B (o + n) (vs.drop n) := fun j v hv => by
  rw [List.getElem?_drop] at hv
  have := h _ v hv
  rwa [show o + (n + j) = o + n + j by omega] at this
theorem rangeAt_take {w : World} {B o : Nat} {vs : List Value} (h : w.rangeAt B o vs) (n : Nat) : w.rangeAt B o (vs.take n) := fun j v hv => by
  rw [List.getElem?_take] at hv
  split at hv
  · exact h j v hv
  · cases hv
theorem flat_drop {k : Nat} : ∀ {xss : List (List PV)} {j : Nat} {cs : List PV}, (∀ c ∈ xss, c.length = k) → xss[j]? = some cs → ∀ o, xss.flatten.drop (j * k + o) = cs.drop o ++ (xss.drop (j + 1)).flatten ∨ cs.length < o
  | [], j, cs, _, h, _ => by simp at h
  | c :: r, 0, cs, hk, h, o => by
    simp at h; subst h
    by_cases ho : c.length < o
    · exact .inr ho
    · left
      rw [Nat.zero_mul, Nat.zero_add, List.flatten_cons, List.drop_append_of_le_length (by omega)]
      simp
  | c :: r, j + 1, cs, hk, h, o => by
    have hc : c.length = k := hk c (by simp)
    rcases flat_drop (k := k) (xss := r) (j := j) (cs := cs) (fun x hx => hk x (by simp [hx])) (by simpa using h) o with e | e
    · left
      rw [List.flatten_cons, List.drop_append, List.drop_eq_nil_of_le (by rw [hc, Nat.succ_mul]; omega), List.nil_append, hc, show (j + 1) * k + o - k = j * k + o by rw [Nat.succ_mul]; omega, e]
      simp
    · exact .inr e
theorem run_evLoad (h : InvG Gl S0 w0 s a g) {t : TypeId} {p r : PV} {v : Value} (he : evLoad P Gl s.H s.X t p = some r) (hv : Rel g p v) :
    ∃ z, (Instr.loadAt t v).run P g.w = .ok z g.w ∧ Rel g r z := by
  cases p <;> simp only [evLoad] at he <;> try cases he
  case cptr cs =>
    rw [relCptr] at hv
    obtain ⟨B, o, rfl, hc⟩ := hv
    obtain ⟨vs, h1, h2⟩ := hc.forC
    exact run_loadFrom he vs h1 h2
  case eref tk k N j o =>
    split at he
    · rename_i k' b' xss hx
      by_cases hc : k' = k ∧ xss.length = N
      · rw [if_pos hc] at he
        obtain ⟨rfl, hN⟩ := hc
        obtain ⟨cs, hcs, hl⟩ := Option.bind_eq_some_iff.1 he
        obtain ⟨q1, q2, q3, q4, q5, q6⟩ := h.exs tk _ _ _ hx
        simp only [Rel, RelA, Rel1] at hv
        obtain ⟨⟨B, q, rfl⟩, N', r1, r2, r3⟩ := hv
        rw [q1] at r1; cases r1
        obtain ⟨B1, cap1, e1, e2⟩ := r3 hN.symm
        cases e2
        have hj : j < xss.length := (List.getElem?_eq_some_iff.1 hcs).1
        rcases q6 with ⟨_, rfl⟩ | ⟨B2, cap2, e3, _, _, _, _, _, ⟨vs, v1, v2⟩, _⟩
        · simp at hj
        · rw [e3] at e1
          simp only [Value.slice.injEq, Option.some.injEq, Addr.mk.injEq, and_true] at e1
          obtain ⟨rfl, _⟩ := e1
          have h3 := rangeAt_drop v2 (j * k' + o)
          rw [Nat.zero_add] at h3
          have h4 : All2 (RelC g) (xss.flatten.drop (j * k' + o)) (vs.drop (j * k' + o)) := (v1.mono fun _ _ q => ⟨Rel1.of_data q.1 q.2, (q.1.oneCell q.2).1⟩).drop _
          have h5 : xss.flatten.drop (j * k' + o) = cs.drop o ++ (xss.drop (j + 1)).flatten ∨ cs.length < o := flat_drop q3 hcs o
          rcases h5 with h5 | h5
          · rw [h5] at h4
            have h6 := h4.take (cs.drop o).length
            rw [List.take_left'] at h6
            · exact run_loadFrom hl _ h6 (rangeAt_take h3 _)
            · rfl
          · rw [List.drop_eq_nil_of_le (by omega)] at hl
            exact run_loadFrom hl [] .nil (fun j v hv => by simp at hv)
      · rw [if_neg hc] at he; cases he
    · cases he
  case ref l o =>
    rw [relRef] at hv
    obtain ⟨rfl, hl⟩ := hv
    split at he
    · rename_i cs hcs
      obtain ⟨_, _, _, vs, h1, h2, _⟩ := h.objs l _ (by rw [h.hH]; exact hcs)
      have h3 := rangeAt_drop h2 o
      rw [Nat.zero_add] at h3
      exact run_loadFrom he _ (h1.drop o) h3
    · cases he
  case gptr i o =>
    rw [relGptr] at hv
    subst hv
    split at he
    · rename_i cs hcs
      obtain ⟨vs, h1, h2⟩ := ((h.glob i cs hcs).1.drop o).forC
      rw [Nat.zero_add] at h2
      exact run_loadFrom he vs h1 h2
    · cases he

theorem bnd_spec {x : Option PV} {d n : Nat} {ρ : Option Value} (h : bnd x d = some n) (hρ : RelO g x ρ) :
    (x = none ∧ ρ = none ∧ n = d) ∨ ∃ (k : IntKind) (m : Int), x = some (.int k m) ∧ ρ = some (.int k m) ∧ 0 ≤ m ∧ m = n := by
  cases x with
  | none =>
    cases ρ with
    | none => cases h; exact .inl ⟨rfl, rfl, rfl⟩
    | some v => exact hρ.elim
  | some p =>
    cases ρ with
    | none => exact hρ.elim
    | some v =>
      cases p <;> simp only [bnd] at h <;> try cases h
      rename_i k m
      by_cases hm : 0 ≤ m
      · rw [if_pos hm] at h; cases h
        have hρ' : Rel g (.int k m) v := hρ
        rw [relInt] at hρ'
        subst hρ'
        exact .inr ⟨k, m, rfl, rfl, hm, by omega⟩
      · rw [if_neg hm] at h; cases h
/-- What a slice expression's bounds come to. -/
theorem run_bounds {isS : Bool} {len cap l h m : Nat} {lo hi mx : Option PV} {ρl ρh ρm : Option Value}
    (hl : (lo = none ∧ ρl = none ∧ l = 0) ∨ ∃ (k : IntKind) (n : Int), lo = some (.int k n) ∧ ρl = some (.int k n) ∧ 0 ≤ n ∧ n = l)
    (hh : (hi = none ∧ ρh = none ∧ h = len) ∨ ∃ (k : IntKind) (n : Int), hi = some (.int k n) ∧ ρh = some (.int k n) ∧ 0 ≤ n ∧ n = h)
    (hm : (mx = none ∧ ρm = none ∧ m = len) ∨ ∃ (k : IntKind) (n : Int), mx = some (.int k n) ∧ ρm = some (.int k n) ∧ 0 ≤ n ∧ n = m)
    (h1 : l ≤ h) (h2 : h ≤ m) (h3 : m ≤ len) (h4 : len ≤ cap) (h5 : mx = none ∨ hi ≠ none) :
    (Instr.sliceBounds isS len cap ρl ρh ρm).run P w = .ok (l, h, if mx = none then cap else m) w := by
  have sb : ∀ (k : IntKind) (n : Int) (c y : Nat) (code : BoundsCode), 0 ≤ n → n = c → c ≤ y → (Instr.sliceBound (.int k n) y code).run P w = .ok c w := fun k n c y code e1 e2 e3 => by
    rw [run_sliceBound w k n y code e1 (by omega)]
    congr 1
    omega
  rcases hm with ⟨rfl, rfl, rfl⟩ | ⟨km, nm, rfl, rfl, e3, e4⟩
  · rcases hh with ⟨rfl, rfl, rfl⟩ | ⟨kh, nh, rfl, rfl, f3, f4⟩ <;> rcases hl with ⟨rfl, rfl, rfl⟩ | ⟨kl, nl, rfl, rfl, g3, g4⟩
    · simp [Instr.sliceBounds]
    · simp [Instr.sliceBounds, sb kl nl l _ _ g3 g4 h1]
    · simp [Instr.sliceBounds, sb kh nh h cap _ f3 f4 (by omega)]
    · simp [Instr.sliceBounds, sb kh nh h cap _ f3 f4 (by omega), sb kl nl l _ _ g3 g4 h1]
  · rcases hh with ⟨rfl, rfl, rfl⟩ | ⟨kh, nh, rfl, rfl, f3, f4⟩
    · simp at h5
    · rcases hl with ⟨rfl, rfl, rfl⟩ | ⟨kl, nl, rfl, rfl, g3, g4⟩
      · simp [Instr.sliceBounds, sb km nm m cap _ e3 e4 (by omega), sb kh nh h m _ f3 f4 h2]
      · simp [Instr.sliceBounds, sb km nm m cap _ e3 e4 (by omega), sb kh nh h m _ f3 f4 h2, sb kl nl l _ _ g3 g4 h1]
theorem RelEls.slice {S : Cells} {k : Nat} {xss : List (List PV)} {B o : Nat} (h : RelEls S w k xss B o) (l n : Nat) : RelEls S w k ((xss.take n).drop l) B (o + l * k) := by
  rw [relEls_iff] at h ⊢
  intro i cs hcs
  rw [List.getElem?_drop, List.getElem?_take] at hcs
  by_cases hi : l + i < n
  · rw [if_pos hi] at hcs
    have := h _ cs hcs
    rwa [show o + (l + i) * k = o + l * k + i * k by rw [Nat.add_mul]; omega] at this
  · rw [if_neg hi] at hcs; cases hcs
theorem run_evSlice {t : TypeId} {lo hi mx : Option PV} {ρl ρh ρm : Option Value} {p r : PV} {v : Value} (he : evSlice P t lo hi mx p = some r) (hv : Rel g p v) (hgw : g.w = w)
    (hl : RelO g lo ρl)
    (hh : RelO g hi ρh)
    (hm : RelO g mx ρm) :
    ∃ z, (Instr.sliceAt t v ρl ρh ρm).run P w = .ok z w ∧ Rel g r z := by
  subst hgw
  cases p <;> simp only [evSlice] at he <;> try cases he
  case lst o k b xss =>
    split at he
    · rename_i e x k1 b1 l h m hk e1 e2 e3
      split at he
      · rename_i hc
        obtain ⟨rfl, c1, c2, c3, c4⟩ := hc
        cases he
        obtain ⟨i, d, q1, q2, q3, q4, q5, q6⟩ := elemK_spec hk
        have hd := relLst hv
        simp only [RelD] at hd
        obtain ⟨d1, d2, d3, d4⟩ := hd
        have hlen : ((xss.take h).drop l).length = h - l := by rw [List.length_drop, List.length_take]; omega
        have d1' : (h - l) * b ≤ 140737488351232 := Nat.le_trans (Nat.mul_le_mul_right _ (by omega)) d1
        have hAt : ∀ (base : Option Addr) (len cap : Nat), len = xss.length → len ≤ cap → (Instr.sliceAt t (.slice base len cap) ρl ρh ρm).run P g.w =
            .ok (.slice (if (if mx = none then cap else m) = l then base else base.map (·.add (l * k1))) (h - l) ((if mx = none then cap else m) - l)) g.w := by
          intro base len cap hlen' hcap
          subst hlen'
          have hb := run_bounds (P := P) (w := g.w) (isS := true) (cap := cap) (bnd_spec e1 hl) (bnd_spec e2 hh) (bnd_spec e3 hm) c1 c2 c3 hcap c4
          simp only [Instr.sliceAt, Sem.run_bind, run_underlying q1, Result.andThen_ok, Instr.slice, hb, run_sizeOf q2, Sem.run_pure, q5]
        rcases d4 with ⟨rfl, hnil⟩ | ⟨B, off, cap, rfl, d5, d6, d7⟩
        · subst hnil
          have h0 : l = 0 ∧ h = 0 ∧ m = 0 := by simp at c3; omega
          obtain ⟨rfl, rfl, rfl⟩ := h0
          refine ⟨_, hAt none 0 0 rfl (Nat.le_refl _), ?_⟩
          have hz : (if mx = none then 0 else 0) = 0 := by split <;> rfl
          have : ∀ o', (o' = Own.frozen ∨ o' = Own.full) → Rel g (.lst o' k1 b ((([] : List (List PV)).take 0).drop 0)) (.slice none 0 0) := by
            intro o' ho'
            rcases ho' with rfl | rfl <;> (simp only [Rel, RelA, Rel1, RelD]; exact ⟨by simp, by simp, by simp, .inl (by simp)⟩)
          have h2 := this (if mx ≠ none ∧ 0 = 0 ∨ o = Own.full ∧ hi = none then Own.full else Own.frozen) (by split <;> simp)
          simpa [hz] using h2
        · refine ⟨_, hAt _ _ _ rfl d5, ?_⟩
          have hfrozen : ∀ (o' : Own) (base : Option Addr) (cap' : Nat), (o' = .frozen ∨ o' = .full) → (o' = .full → cap' = h - l) → h - l ≤ cap' → (base = some ⟨B, off + l * k1, none⟩ ∨ (h - l = 0 ∧ base = some ⟨B, off, none⟩)) →
              Rel g (.lst o' k1 b ((xss.take h).drop l)) (.slice base (h - l) cap') := by
            intro o' base cap' ho' hf hcap' hbase
            have hD : RelD g.S g.w (.lst o' k1 b ((xss.take h).drop l)) (.slice base (h - l) cap') := by
              simp only [RelD]
              rw [hlen]
              refine ⟨d1', by omega, ho', .inr ?_⟩
              rcases hbase with rfl | ⟨hz, rfl⟩
              · exact ⟨B, off + l * k1, cap', rfl, hcap', hf, d7.slice l h⟩
              · refine ⟨B, off, cap', rfl, hcap', hf, ?_⟩
                have hnil : (xss.take h).drop l = [] := List.eq_nil_of_length_eq_zero (by rw [hlen]; exact hz)
                rw [hnil]
                simp [RelEls]
            rcases ho' with rfl | rfl <;> exact hD
          have hC : m ≤ (if mx = none then cap else m) := by split <;> omega
          have hfull : (if (mx ≠ none ∧ m = h) ∨ (o = .full ∧ hi = none) then Own.full else Own.frozen) = .full → (if mx = none then cap else m) - l = h - l := by
            intro hfull
            split at hfull
            · rename_i hor
              rcases hor with ⟨hmx, rfl⟩ | ⟨rfl, rfl⟩
              · rw [if_neg hmx]
              · cases mx with
                | some _ => simp at c4
                | none =>
                  simp only [if_true]
                  have hcap2 : cap = xss.length := by
                    have hv' : RelD g.S g.w (.lst .full k1 b xss) (.slice (some ⟨B, off, none⟩) xss.length cap) := hv
                    simp only [RelD] at hv'
                    obtain ⟨_, _, _, ⟨hh', _⟩ | ⟨_, _, _, hh', _, hf, _⟩⟩ := hv'
                    · cases hh'
                    · cases hh'; exact hf trivial
                  have : h = xss.length := by
                    rcases bnd_spec e2 hh with ⟨_, _, e⟩ | ⟨_, _, e, _⟩
                    · exact e
                    · cases e
                  omega
            · cases hfull
          generalize (if mx = none then cap else m) = C at *
          refine hfrozen _ _ _ ?_ hfull (by omega) ?_
          · split <;> simp
          · by_cases hz : C = l
            · exact .inr ⟨by omega, by rw [if_pos hz]⟩
            · left; rw [if_neg hz]; simp only [Option.map_some, Addr.add_lit]
      · cases he
    · cases he
  case nil =>
    have hv' : v = .slice none 0 0 := by simpa [Rel, RelA, Rel1, RelD] using hv
    subst hv'
    split at he
    · rename_i x hk e1 e2 e3
      by_cases c4 : mx = none ∨ hi ≠ none
      · rw [if_pos c4] at he; cases he
        obtain ⟨e, x2, k1, b1⟩ := x
        obtain ⟨i, d, q1, q2, q3, q4, q5, q6⟩ := elemK_spec hk
        have hb := run_bounds (P := P) (w := g.w) (isS := true) (len := 0) (cap := 0) (bnd_spec e1 hl) (bnd_spec e2 hh) (bnd_spec e3 hm) (Nat.le_refl 0) (Nat.le_refl 0) (Nat.le_refl 0) (Nat.le_refl 0) c4
        have hz : (if mx = none then 0 else 0) = 0 := by split <;> rfl
        rw [hz] at hb
        exact ⟨.slice none 0 0, by simp only [Instr.sliceAt, Sem.run_bind, run_underlying q1, Result.andThen_ok, Instr.slice, hb, run_sizeOf q2, Sem.run_pure, if_true, Nat.sub_self], by simp [Rel, RelA, Rel1, RelD]⟩
      · rw [if_neg c4] at he; cases he
    · cases he
  case sl l o len k b =>
    split at he
    · rename_i e x k1 b1 a h hk e1 e2
      split at he
      · rename_i hc
        obtain ⟨rfl, c1, c2, rfl⟩ := hc
        cases he
        obtain ⟨i, d, q1, q2, q3, q4, q5, q6⟩ := elemK_spec hk
        have hρm : ρm = none := by cases ρm with | none => rfl | some _ => exact hm.elim
        subst hρm
        simp only [Rel, RelA, Rel1] at hv
        obtain ⟨⟨off, cap, rfl, hcap, hoff⟩, cs, hcs, hlen⟩ := hv
        have hb := run_bounds (P := P) (w := g.w) (isS := true) (len := len) (cap := cap) (m := len) (mx := none) (ρm := none) (bnd_spec e1 hl) (bnd_spec e2 hh) (.inl ⟨rfl, rfl, rfl⟩) c1 c2 (Nat.le_refl _) hcap (.inl rfl)
        refine ⟨_, by simp only [Instr.sliceAt, Sem.run_bind, run_underlying q1, Result.andThen_ok, Instr.slice, hb, run_sizeOf q2, Sem.run_pure, if_true]; rfl, ?_⟩
        simp only [Rel, RelA, Rel1]
        have hle : (o + a + (h - a)) * k1 ≤ (o + len) * k1 := Nat.mul_le_mul_right _ (by omega)
        by_cases hz : cap = a
        · rw [if_pos hz]
          exact ⟨⟨off, cap - a, rfl, by omega, .inr (by omega)⟩, cs, hcs, by omega⟩
        · rw [if_neg hz]
          refine ⟨⟨off + a * i.size, cap - a, by simp only [Option.map_some, Addr.add_lit], by omega, ?_⟩, cs, hcs, by omega⟩
          rcases hoff with rfl | h0
          · left; rw [← q5, Nat.add_mul]
          · right; omega
      · cases he
    · cases he
  case ex tk k b N o len =>
    split at he
    · rename_i e x k1 b1 a h hk e1 e2
      split at he
      · rename_i hc
        obtain ⟨rfl, c1, c2, rfl⟩ := hc
        cases he
        obtain ⟨i, d, q1, q2, q3, q4, q5, q6⟩ := elemK_spec hk
        have hρm : ρm = none := by cases ρm with | none => rfl | some _ => exact hm.elim
        subst hρm
        simp only [Rel, RelA, Rel1] at hv
        obtain ⟨⟨base, cap, rfl, hcap, hbase⟩, N', r1, r2, r3⟩ := hv
        have hb := run_bounds (P := P) (w := g.w) (isS := true) (len := len) (cap := cap) (m := len) (mx := none) (ρm := none) (bnd_spec e1 hl) (bnd_spec e2 hh) (.inl ⟨rfl, rfl, rfl⟩) c1 c2 (Nat.le_refl _) hcap (.inl rfl)
        refine ⟨_, by simp only [Instr.sliceAt, Sem.run_bind, run_underlying q1, Result.andThen_ok, Instr.slice, hb, run_sizeOf q2, Sem.run_pure, if_true]; rfl, ?_⟩
        simp only [Rel, RelA, Rel1]
        refine ⟨⟨_, _, rfl, by omega, fun hp => ?_⟩, N', r1, r2, fun e => ?_⟩
        · obtain ⟨B, off, rfl⟩ := hbase (by omega)
          rw [if_neg (by omega)]
          exact ⟨B, off + a * i.size, by simp only [Option.map_some, Addr.add_lit]⟩
        · rcases r3 e with ⟨s1, s2, s3, s4⟩ | ⟨B, cap', off, s1, s2, s3, s4, s5, s6⟩
          · subst s3; subst s4
            obtain rfl : a = 0 := by omega
            obtain rfl : h = 0 := by omega
            left
            refine ⟨?_, s2, rfl, rfl⟩
            rw [← s1]
            by_cases hz : cap = 0
            · subst hz; simp
            · rw [if_neg hz]
              cases base with
              | none => simp
              | some ad => simp [Addr.add]
          · simp only [Value.slice.injEq] at s5
            obtain ⟨rfl, _, rfl⟩ := s5
            refine .inr ⟨B, cap', if cap' - o = a then off else off + a * i.size, s1, s2, s3, by omega, ?_, ?_⟩
            · rw [show cap' - o - a = cap' - (o + a) by omega]
              by_cases hz : cap' - o = a
              · rw [if_pos hz, if_pos hz]
              · rw [if_neg hz, if_neg hz]; simp only [Option.map_some, Addr.add_lit]
            · by_cases hz : cap' - o = a
              · right; omega
              · rw [if_neg hz]
                rcases s6 with rfl | s6
                · left; rw [← q5, Nat.add_mul]
                · right; omega
      · cases he
    · cases he
  case str st =>
    rw [relStr] at hv; subst hv
    split at he
    · rename_i l h e1 e2
      split at he
      · rename_i hc
        obtain ⟨c1, c2, c3, rfl⟩ := hc
        cases he
        have hρm : ρm = none := by cases ρm with | none => rfl | some _ => exact hm.elim
        subst hρm
        have hb := run_bounds (P := P) (w := g.w) (isS := false) (len := st.size) (cap := st.size) (m := st.size) (mx := none) (ρm := none) (bnd_spec e1 hl) (bnd_spec e2 hh) (.inl ⟨rfl, rfl, rfl⟩) c2 c3 (Nat.le_refl _) (Nat.le_refl _) (.inl rfl)
        exact ⟨_, by simp [Instr.sliceAt, Sem.run_bind, run_underlying (strT_spec c1), Instr.slice, hb], relStr.2 rfl⟩
      · cases he
    · cases he
theorem mapT_spec {t : TypeId} (h : mapT P t = true) : ∃ k e, P.underlying t = some (.map k e) := by
  unfold mapT at h
  split at h
  · rename_i k e he; exact ⟨k, e, he⟩
  · cases h
theorem run_evLen (h : InvG Gl S0 w0 s a g) {t ty : TypeId} {p r : PV} {v : Value} (he : evLen P s.H t p = some r) (hv : Rel g p v) : ∃ z, (Builtin.len_ #[t] ty #[v]).run P g.w = .ok z g.w ∧ Rel g r z := by
  cases p <;> simp only [evLen] at he <;> try cases he
  case lst o k b xss =>
    split at he
    · rename_i hs
      cases he
      obtain ⟨e, hu⟩ := sliceT_spec hs
      have hd := relLst hv
      simp only [RelD] at hd
      obtain ⟨_, _, _, ⟨rfl, rfl⟩ | ⟨B, off, cap, rfl, _⟩⟩ := hd
      · exact ⟨_, by simp [Builtin.len_, run_underlying hu, goInt], relInt.2 rfl⟩
      · exact ⟨_, by simp [Builtin.len_, run_underlying hu, goInt], relInt.2 rfl⟩
    · cases he
  case sl l o n k b =>
    split at he
    · rename_i hs
      cases he
      obtain ⟨e, hu⟩ := sliceT_spec hs
      simp only [Rel, RelA, Rel1] at hv
      obtain ⟨⟨_, _, rfl, _⟩, _⟩ := hv
      exact ⟨_, by simp [Builtin.len_, run_underlying hu, goInt], relInt.2 rfl⟩
    · cases he
  case ex tk k b N o n =>
    split at he
    · rename_i hs
      cases he
      obtain ⟨e, hu⟩ := sliceT_spec hs
      simp only [Rel, RelA, Rel1] at hv
      obtain ⟨⟨_, _, rfl, _⟩, _⟩ := hv
      exact ⟨_, by simp [Builtin.len_, run_underlying hu, goInt], relInt.2 rfl⟩
    · cases he
  case nil =>
    split at he
    · rename_i hs
      cases he
      obtain ⟨e, hu⟩ := sliceT_spec hs
      have hv' : v = .slice none 0 0 := by simpa [Rel, RelA, Rel1, RelD] using hv
      subst hv'
      exact ⟨_, by simp [Builtin.len_, run_underlying hu, goInt], relInt.2 rfl⟩
    · cases he
  case str st =>
    split at he
    · rename_i hs
      cases he
      rw [relStr] at hv; subst hv
      exact ⟨_, by simp [Builtin.len_, run_underlying (strT_spec hs), goInt], relInt.2 rfl⟩
    · cases he
  case mp l =>
    split at he
    · rename_i es hes
      split at he
      · rename_i hs
        cases he
        obtain ⟨k, e, hu⟩ := mapT_spec hs
        simp only [Rel, RelA, Rel1] at hv
        obtain ⟨rfl, _⟩ := hv
        obtain ⟨_, _, _, arr, clock, h1, h2⟩ := h.objs l _ (by rw [h.hH]; exact hes)
        refine ⟨.int .i64 arr.size, ?_, relInt.2 (by rw [h2.1]; simp)⟩
        simp [Builtin.len_, run_underlying hu, goInt, getObj, Sem.run, h1]
      · cases he
    · cases he
end
end PM
/-
  THE PURE MACHINE, H: composites; ev1: all operations that yield a value and leave memory alone, and their soundness.
-/
namespace PM
open Go Go.RowKit

theorem foldl_set (off : Nat) : ∀ (vs : List Value) (k : Nat) (cells : Array Value), off + k + vs.length ≤ cells.size →
    ((vs.zipIdx k).foldl (fun cs (x : Value × Nat) => cs.setIfInBounds (off + x.2) x.1) cells).toList = cells.toList.take (off + k) ++ vs ++ cells.toList.drop (off + k + vs.length)
  | [], k, cells, _ => by simp
  | v :: vs, k, cells, h => by
    simp only [List.zipIdx_cons, List.foldl_cons]
    have hk : off + k < cells.size := by simp at h; omega
    rw [foldl_set off vs (k + 1) _ (by simp at h ⊢; omega)]
    have e := list_seg_step cells.toList (off + k) v vs (by simp at h ⊢; omega)
    simpa [Array.toList_setIfInBounds, Nat.add_assoc] using e

section
variable {P : Program} {Gl : Nat → Option (List PV)} {S0 : Bs} {w0 : World} {s : PSt} {a : Act} {g : GG} {w : World}
/-- A value's cells, where each is known to be one. -/
theorem Rel.cells {p : PV} {v : Value} (h : Rel g p v) (hone : p.cells.all PV.one = true) : All2 (RelC g) p.cells v.cells.toList := by
  cases p
  case agg cs =>
    simp only [Rel, RelA] at h
    obtain ⟨arr, rfl, h2⟩ := h
    exact h2
  case any => simp [PV.cells, PV.one] at hone
  case tup vs => simp [PV.cells, PV.one] at hone
  all_goals
    (simp only [Rel, RelA] at h
     obtain ⟨e1, e2⟩ := h.oneCell rfl
     rw [e2]
     exact .cons ⟨h, e1⟩ .nil)
theorem fill_spec {pl : List (Nat × Nat)} {place : Nat → Option (Nat × Nat)} (hpl : ∀ i, place i = pl[i]?) : ∀ (parts : List (Nat × PV)) (vparts : List (Nat × Value)) (cs cs' : List PV) (cells : Array Value),
    All2 (fun (x : Nat × PV) (y : Nat × Value) => x.1 = y.1 ∧ Rel g x.2 y.2) parts vparts → All2 (RelC g) cs cells.toList → pfill pl parts cs = some cs' →
    ∃ cells', Instr.fill place cells vparts = some cells' ∧ All2 (RelC g) cs' cells'.toList
  | [], vparts, cs, cs', cells, hp, hc, h => by
    rw [hp.nil_left]
    simp only [pfill] at h; cases h
    exact ⟨cells, rfl, hc⟩
  | (i, p) :: parts, vparts, cs, cs', cells, hp, hc, h => by
    obtain ⟨⟨j, v⟩, vparts', rfl, ⟨e1, e2⟩, hp'⟩ := hp.cons_left
    simp only at e1 e2
    subst e1
    simp only [pfill] at h
    split at h
    · rename_i off n hin
      split at h
      · rename_i hcond
        obtain ⟨c1, c2, c3⟩ := hcond
        have hone : p.cells.all PV.one = true := c3
        have hcells := e2.cells hone
        have hvn : v.cells.size = n := by rw [← c1, hcells.1]; simp
        have hsz : cells.size = cs.length := by rw [hc.1]; simp
        have hset := foldl_set off v.cells.toList 0 cells (by simp [hvn]; omega)
        simp only [Nat.add_zero] at hset
        obtain ⟨cells', f1, f2⟩ := fill_spec hpl parts vparts' _ cs' (v.cells.zipIdx.foldl (fun cs (x : Value × Nat) => cs.setIfInBounds (off + x.2) x.1) cells) hp' (by
          have : (v.cells.zipIdx.foldl (fun cs (x : Value × Nat) => cs.setIfInBounds (off + x.2) x.1) cells).toList = cells.toList.take off ++ v.cells.toList ++ cells.toList.drop (off + n) := by
            rw [← Array.foldl_toList, Array.toList_zipIdx, hset]
            simp [hvn]
          rw [this]
          exact ((hc.take off).append hcells).append (hc.drop (off + n))) h
        refine ⟨cells', ?_, f2⟩
        unfold Instr.fill
        rw [hpl, hin]
        simp only
        rw [if_neg (by simp [hvn]; omega)]
        exact f1
      · cases h
    · cases h
theorem placesF_spec : ∀ {fs : List Field} {pl : List (Nat × Nat)}, placesF P fs = some pl → fs.mapM (fun f => (P.info? f.type).map fun i => (f.offset, i.size)) = some pl
  | [], pl, h => by simp [placesF] at h; simp [h]
  | f :: fs, pl, h => by
    simp only [placesF] at h
    split at h
    · rename_i i r h1 h2
      cases h
      simp [h1, placesF_spec h2]
    · cases h
theorem ofConst_agg {v : Value} {z : List PV} (h : ofConst v = .agg z) : ∃ arr, v = .agg arr ∧ z = arr.toList.map ofConst1 := by
  cases v
  case agg arr => simp only [ofConst] at h; cases h; exact ⟨arr, rfl, rfl⟩
  all_goals
    (simp only [ofConst] at h
     unfold ofConst1 at h
     split at h <;> cases h)
theorem rel_zero {arr : Array Value} (h1 : ∀ v ∈ arr, v.oneCell' = true) : All2 (RelC g) (arr.toList.map ofConst1) arr.toList :=
  ⟨by simp, fun i x y hx hy => by
    rw [List.getElem?_map, hy] at hx
    cases hx
    exact ofConst1_one y (h1 y (by have := List.mem_of_getElem? hy; simpa using this)) g⟩
theorem run_evBuild {t : TypeId} {parts : List (Nat × PV)} {vparts : Array (Nat × Value)} {r : PV} (he : evBuild P t parts = some r)
    (hp : All2 (fun (x : Nat × PV) (y : Nat × Value) => x.1 = y.1 ∧ Rel g x.2 y.2) parts vparts.toList) : ∃ z, (Instr.build t vparts).run P w = .ok z w ∧ Rel g r z := by
  unfold evBuild at he
  split at he
  · rename_i z pl h1 h2
    obtain ⟨cs', h3, rfl⟩ := Option.map_eq_some_iff.1 he
    obtain ⟨i, zv, hi, hzv, hz2, hone⟩ := zeroK_spec h1
    obtain ⟨arr, rfl, rfl⟩ := ofConst_agg hz2
    unfold placesK at h2
    split at h2
    · rename_i fs hu
      have hpl := placesF_spec h2
      obtain ⟨cells', f1, f2⟩ := fill_spec (g := g) (pl := pl) (place := (pl.toArray[·]?)) (by simp) _ vparts.toList _ cs' arr hp (rel_zero fun v hv => hone v (by simpa [Value.cells] using hv)) h3
      refine ⟨.agg cells', run_build w t vparts cells' ?_, by simp only [Rel, RelA]; exact ⟨cells', rfl, f2⟩⟩
      unfold Program.built
      simp only [hi, hu, hzv, hpl, Value.cells]
      exact f1
    · cases h2
  · rename_i z x h1 h2 h3
    cases he
    obtain ⟨i, zv, hi, hzv, hz2, hone⟩ := zeroK_spec h1
    obtain ⟨arr, rfl, rfl⟩ := ofConst_agg hz2
    obtain ⟨n, row, k⟩ := x
    obtain ⟨e, ie, d, a1, a2, a3, a4, a5⟩ := arrK_spec h3
    have hv : vparts.toList = [] := hp.nil_left
    refine ⟨.agg arr, run_build w t vparts arr ?_, by simp only [Rel, RelA]; exact ⟨arr, rfl, rel_zero fun v hv => hone v (by simpa [Value.cells] using hv)⟩⟩
    unfold Program.built
    simp only [hi, a1, hzv, a2, Value.cells, hv, Instr.fill]
  · cases he
end

/-- All operations that yield a value and leave memory alone. -/
def ev1 (P : Program) (Gl : Nat → Option (List PV)) (op : Op) (ρ : Operand → PV) (H : Nat → Option PObj) (X : XT) : Option PV :=
  match op with
  | .move x => some (ρ x)
  | .assign x => some (ρ x)
  | .pick c x y => match ρ c with | .bool c => some (if c = true then ρ x else ρ y) | _ => none
  | .nilCheck x => match ρ x with | .ref l o => some (.ref l o) | .cptr cs => some (.cptr cs) | .gptr i o => some (.gptr i o) | .fn f caps => some (.fn f caps) | _ => none
  | .binOp op t x y _ => evBin P op t (ρ x) (ρ y)
  | .unOp op _ x => evUn op (ρ x)
  | .convert src dst x => evConv P src dst (ρ x)
  | .fieldAddr t x f => evFieldAddr P t f (ρ x)
  | .field t x f => evField P t f (ρ x)
  | .indexAddr t x i => evIndexAddr P t (ρ x) (ρ i)
  | .index t x i => evIndex P t (ρ x) (ρ i)
  | .load t x => evLoad P Gl H X t (ρ x)
  | .extract x i => match ρ x with | .tup vs => vs[i]? | _ => none
  | .slice t x lo hi mx => evSlice P t (lo.map ρ) (hi.map ρ) (mx.map ρ) (ρ x)
  | .build t parts => evBuild P t (parts.toList.map fun x => (x.1, ρ x.2))
  | .lookup t x k ok => match ρ x with
    | .mp l => match H l with
      | some (.map es) => evLookup P t es (ρ k) ok
      | some (.mapo es k' b tk) => evLookupO P t es k' b tk (ρ k) ok
      | _ => none
    | .fmp ks vs => evLookup P t (ks.zip vs) (ρ k) ok
    | _ => none
  | .makeFunc (.func f) first caps => if first.toList = [] ∧ ((caps.toList.map ρ).all capOK) = true then some (.fn f (caps.toList.map ρ)) else none
  | .call c => match c.callee, c.args.toList, c.argTypes.toList with
    | .builtin .len, [x], [t] => evLen P H t (ρ x)
    | .builtin .min, [x, y], _ => evMinMax false (ρ x) (ρ y)
    | .builtin .max, [x, y], _ => evMinMax true (ρ x) (ρ y)
    | _, _, _ => none
  | _ => none

section
variable {P : Program} {Gl : Nat → Option (List PV)} {S0 : Bs} {w0 : World} {s : PSt} {a : Act} {g : GG} {w : World}
theorem toList_one {α : Type} {xs : Array α} {x : α} (h : xs.toList = [x]) : xs = #[x] := Array.toList_inj.1 (by simpa using h)
theorem toList_two {α : Type} {xs : Array α} {x y : α} (h : xs.toList = [x, y]) : xs = #[x, y] := Array.toList_inj.1 (by simpa using h)
theorem toList_nil {α : Type} {xs : Array α} (h : xs.toList = []) : xs = #[] := Array.toList_inj.1 (by simpa using h)
theorem relO_map (h : InvG Gl S0 w0 s a g) (x : Option Operand) : RelO g (x.map s.ev) (x.map a.eval) := by
  cases x with
  | none => trivial
  | some x => exact h.ev x
theorem run_min {p q r : PV} {ts : Array TypeId} {ty : TypeId} {u v : Value} (h : evMinMax false p q = some r) (hu : Rel g p u) (hv : Rel g q v) :
    ∃ z, (Builtin.min_ ts ty #[u, v]).run P w = .ok z w ∧ Rel g r z := by
  cases p <;> cases q <;> simp only [evMinMax] at h <;> try cases h
  rename_i k x k' y
  rw [relInt] at hu hv
  subst hu; subst hv
  by_cases hk : k = k'
  · rw [if_pos hk] at h; cases h
    refine ⟨_, by simp [Builtin.min_, Builtin.min2]; rfl, relInt.2 ?_⟩
    simp only [Bool.false_eq_true, if_false]
    congr 1
    show (if y < x then y else x) = min x y
    split <;> omega
  · rw [if_neg hk] at h; cases h
theorem run_max {p q r : PV} {ts : Array TypeId} {ty : TypeId} {u v : Value} (h : evMinMax true p q = some r) (hu : Rel g p u) (hv : Rel g q v) :
    ∃ z, (Builtin.max_ ts ty #[u, v]).run P w = .ok z w ∧ Rel g r z := by
  cases p <;> cases q <;> simp only [evMinMax] at h <;> try cases h
  rename_i k x k' y
  rw [relInt] at hu hv
  subst hu; subst hv
  by_cases hk : k = k'
  · rw [if_pos hk] at h; cases h
    refine ⟨_, by simp [Builtin.max_, Builtin.max2]; rfl, relInt.2 ?_⟩
    simp only [if_true]
    congr 1
    show (if y > x then y else x) = max x y
    split <;> omega
  · rw [if_neg hk] at h; cases h
theorem Rel.ofFlat {p : PV} {v : Value} (h : RelD g.S g.w p v) (hf : flatV p = true) : RelA g p v := by
  cases p
  case agg cs =>
    simp only [RelD] at h
    obtain ⟨arr, h1, h2⟩ := h
    simp only [RelA]
    refine ⟨arr, h1, ((relDs_iff _ _).1 h2).1, fun i x y hx hy => ?_⟩
    have h3 := ((relDs_iff _ _).1 h2).2 i x y hx hy
    have h4 := List.all_eq_true.1 hf x (List.mem_of_getElem? hx)
    exact ⟨.of_data h3 h4, (h3.oneCell h4).1⟩
  case tup vs => simp [flatV] at hf
  case any => simp [flatV] at hf
  all_goals exact Rel1.relA' (.of_data h rfl)
theorem rel_zeroK {t : TypeId} {z : PV} (h : zeroK P t = some z) : ∃ i zv, P.info? t = some i ∧ i.zero = some zv ∧ Rel g z zv := by
  obtain ⟨i, zv, hi, h1, h2, hone⟩ := zeroK_spec h
  refine ⟨i, zv, hi, h1, ?_⟩
  rw [← h2]
  cases zv
  case agg arr =>
    simp only [ofConst, Rel, RelA]
    exact ⟨arr, rfl, rel_zero fun v hv => hone v (by simpa [Value.cells] using hv)⟩
  all_goals
    (have := rel_ofConst1 g
     simp only [ofConst]
     exact this _)
theorem mapKD_spec {t : TypeId} {d : TypeDesc} {z : PV} (h : mapKD P t = some (d, z)) : ∃ k e, P.underlying t = some (.map k e) ∧ P.underlying k = some d ∧ zeroK P e = some z ∧ flatV z = true ∧ keyTOK P k d = true := by
  unfold mapKD at h
  split at h
  · rename_i k e hm
    split at h
    · rename_i d' z' hd hz
      split at h
      · rename_i hf; cases h; exact ⟨k, e, hm, hd, hz, hf.1, hf.2⟩
      · cases h
    · cases h
  · cases h
theorem keyD_is {S : Cells} {d : TypeDesc} {k : PV} {v : Value} (hs : ∀ fs, d ≠ .struct fs) (h : keyD d k = true) (hr : RelD S w k v) : MapKept.IsKey d v := by
  cases d <;> cases k <;> simp [keyD] at h <;> first | exact absurd rfl (hs _) | (simp only [RelD] at hr; subst hr; simp [MapKept.IsKey, h])
theorem pkeyEq_now {S : Cells} {d : TypeDesc} {k e : PV} {u v : Value} {b : Bool} (hs : ∀ fs, d ≠ .struct fs) (hd : keyD d k = true) (hk : RelD S w k u) (he : RelD S w e v) (h : pkeyEq k e = some b) : Instr.sameNow d u v = some b ∧ (b = true → v = u) := by
  cases d <;> first | exact absurd rfl (hs _) | skip
  all_goals (cases k <;> simp [keyD] at hd)
  all_goals (cases e <;> simp [pkeyEq] at h)
  all_goals (simp only [RelD] at hk he; subst hk; subst he)
  case int.int.int k3 k1 a k2 c =>
    obtain ⟨h1, h2⟩ := h
    subst h1; subst hd; subst h2
    simp only [Instr.sameNow, if_true, decide_eq_true_eq]
    exact ⟨by rw [beqInt], fun e => by rw [e]⟩
  case bool.bool.bool a c =>
    subst h
    simp only [Instr.sameNow, decide_eq_true_eq]
    exact ⟨by cases a <;> cases c <;> rfl, fun e => by rw [e]⟩
  case string.str.str a c =>
    subst h
    simp only [Instr.sameNow, decide_eq_true_eq]
    refine ⟨?_, fun e => by rw [e]⟩
    congr 1
    by_cases hac : a = c
    · subst hac; simp [MapKept.bytes_beq]
    · rw [decide_eq_false hac]
      cases hb : (a == c) with
      | false => rfl
      | true => exact absurd ((MapKept.bytes_beq a c).1 hb) hac
theorem pfind_spec {S : Cells} {d : TypeDesc} {k : PV} {kv : Value} (hs : ∀ fs, d ≠ .struct fs) (hd : keyD d k = true) (hk : RelD S w k kv) : ∀ {es : List (PV × PV)} {l : List MapEntry} (i : Nat) {r : Option PV}, All2 (RelE S w) es l → pfind k es = some r →
    (r = none ∧ Instr.findNow d kv l i = some none) ∨ ∃ j m p, r = some p ∧ Instr.findNow d kv l i = some (some (i + j, m.val)) ∧ l[j]? = some m ∧ m.key = kv ∧ RelD S w p m.val ∧ flatV p = true
  | [], l, i, r, ha, h => by
    rw [ha.nil_left]
    simp only [pfind] at h; cases h
    exact .inl ⟨rfl, rfl⟩
  | e :: es, l, i, r, ha, h => by
    obtain ⟨m, l', rfl, h1, h2⟩ := ha.cons_left
    simp only [pfind] at h
    split at h
    · rename_i hq
      cases h
      obtain ⟨h3, h4⟩ := pkeyEq_now hs hd hk h1.1 hq
      exact .inr ⟨0, m, e.2, rfl, by simp [Instr.findNow, h3], rfl, h4 rfl, h1.2.1, h1.2.2⟩
    · rename_i hq
      obtain ⟨h3, _⟩ := pkeyEq_now hs hd hk h1.1 hq
      rcases pfind_spec hs hd hk (i + 1) h2 h with ⟨h4, h5⟩ | ⟨j, m', p, h4, h5, h6, h7⟩
      · exact .inl ⟨h4, by simp [Instr.findNow, h3, h5]⟩
      · exact .inr ⟨j + 1, m', p, h4, by simp [Instr.findNow, h3, h5]; omega, by simpa using h6, h7⟩
    · cases h
/-! Keys of two numbers. -/
theorem relPair {S : Cells} {x y : Int} {v : Value} : RelD S w (.agg [.int .i64 x, .int .i64 y]) v ↔ v = .agg #[.int .i64 x, .int .i64 y] := by
  simp only [RelD, RelDs]
  constructor
  · rintro ⟨arr, rfl, v1, vs, e1, rfl, v2, vs2, rfl, rfl, rfl⟩
    congr 1
    exact Array.ext' e1
  · rintro rfl
    exact ⟨_, rfl, _, _, rfl, rfl, _, _, rfl, rfl, rfl⟩
theorem keyD_pair {fs : Array Field} {k : PV} (h : keyD (.struct fs) k = true) : ∃ x y, k = .agg [.int .i64 x, .int .i64 y] := by
  unfold keyD at h
  split at h <;> first | exact ⟨_, _, rfl⟩ | contradiction | cases h
theorem pkeyEq_pair {x y : Int} {q : PV} {b : Bool} (h : pkeyEq (.agg [.int .i64 x, .int .i64 y]) q = some b) : ∃ x' y', q = .agg [.int .i64 x', .int .i64 y'] ∧ b = (decide (x = x') && decide (y = y')) := by
  unfold pkeyEq at h
  split at h <;> first | contradiction | skip
  · rename_i h1
    simp only [PV.agg.injEq, List.cons.injEq, PV.int.injEq, true_and, and_true] at h1
    obtain ⟨rfl, rfl⟩ := h1
    cases h
    exact ⟨_, _, rfl, rfl⟩
theorem rel_pair {x y : Int} {v : Value} (h : Rel g (.agg [.int .i64 x, .int .i64 y]) v) : RelD g.S g.w (.agg [.int .i64 x, .int .i64 y]) v := by
  simp only [Rel, RelA] at h
  obtain ⟨arr, rfl, h2⟩ := h
  obtain ⟨v1, l1, q1, r1, h3⟩ := h2.cons_left
  obtain ⟨v2, l2, q2, r2, h4⟩ := h3.cons_left
  have e1 : v1 = .int .i64 x := by simpa [Rel1, RelD] using r1.1
  have e2 : v2 = .int .i64 y := by simpa [Rel1, RelD] using r2.1
  rw [relPair]
  congr 1
  refine Array.ext' ?_
  rw [q1, q2, h4.nil_left, e1, e2]
theorem pairT_spec {kt : TypeId} {fs : Array Field} (hu : P.underlying kt = some (.struct fs)) (h : pairT P kt = true) : (∃ f1 f2, fs = #[f1, f2] ∧ P.underlying f1.type = some (.int .i64) ∧ P.underlying f2.type = some (.int .i64) ∧ f1.offset = 0 ∧ f2.offset = 1) ∧ eqKd P 10000 kt = some [.i .i64, .i .i64] := by
  unfold pairT at h
  rw [hu] at h
  simp only [Bool.and_eq_true] at h
  obtain ⟨h1, h2⟩ := h
  have i64 : ∀ {t}, int64T P t = true → P.underlying t = some (.int .i64) := fun {t} e => by
    unfold int64T at e
    split at e
    · assumption
    · cases e
  constructor
  · split at h1
    · rename_i f1 f2 hf
      simp only [Bool.and_eq_true, decide_eq_true_eq] at h1
      exact ⟨f1, f2, Array.ext' hf, i64 h1.1.1.1, i64 h1.1.1.2, h1.1.2, h1.2⟩
    · cases h1
  · split at h2
    · assumption
    · cases h2
theorem run_checkKey_pair {kt : TypeId} {fs : Array Field} (hu : P.underlying kt = some (.struct fs)) (h : pairT P kt = true) (e : Bool) (n : Nat) (x y : Int) : (Instr.checkKey e (n + 2) kt (.agg #[.int .i64 x, .int .i64 y])).run P w = .ok () w := by
  obtain ⟨⟨f1, f2, rfl, h1, h2, h3, h4⟩, _⟩ := pairT_spec hu h
  have c1 : ∀ z : Int, (Instr.checkKey e (n + 1) f1.type (.int .i64 z)).run P w = .ok () w := fun z => by simp [Instr.checkKey, run_underlying h1]
  have c2 : ∀ z : Int, (Instr.checkKey e (n + 1) f2.type (.int .i64 z)).run P w = .ok () w := fun z => by simp [Instr.checkKey, run_underlying h2]
  have a1 := run_isAgg h1 w
  have a2 := run_isAgg h2 w
  simp only [isRowD] at a1 a2
  unfold Instr.checkKey
  by_cases n1 : f1.name = "_" <;> by_cases n2 : f2.name = "_" <;> simp [run_underlying hu, part, a1, a2, h3, h4, c1, c2, n1, n2]
theorem run_equal_pair {kt : TypeId} {fs : Array Field} (hu : P.underlying kt = some (.struct fs)) (h : pairT P kt = true) (x y x' y' : Int) : (Op.equal kt (.agg #[.int .i64 x, .int .i64 y]) (.agg #[.int .i64 x', .int .i64 y'])).run P w = .ok (decide (x = x') && decide (y = y')) w := by
  have := run_equalIn_cells (P := P) 10000 kt _ _ [.int .i64 x, .int .i64 y] [.int .i64 x', .int .i64 y'] w (pairT_spec hu h).2 hu rfl rfl
  simp only [wrapV, isRowD, if_true, eqCells, eqCell, beqInt, Bool.and_true] at this
  exact this
theorem key_asks {S : Cells} {kt : TypeId} {fs : Array Field} (hu : P.underlying kt = some (.struct fs)) (hp : pairT P kt = true) {x y : Int} {q : PV} {u : Value} {b : Bool} (hq : pkeyEq (.agg [.int .i64 x, .int .i64 y]) q = some b) (hr : RelD S w q u) :
    (Op.equal kt (.agg #[.int .i64 x, .int .i64 y]) u).run P w = .ok b w ∧ (b = true → u = .agg #[.int .i64 x, .int .i64 y]) := by
  obtain ⟨x', y', e1, rfl⟩ := pkeyEq_pair hq
  rw [e1, relPair] at hr
  rw [hr]
  refine ⟨run_equal_pair hu hp _ _ _ _, fun hb => ?_⟩
  simp only [Bool.and_eq_true, decide_eq_true_eq] at hb
  rw [hb.1, hb.2]
theorem findAsking_spec {S : Cells} {kt : TypeId} {fs : Array Field} (hu : P.underlying kt = some (.struct fs)) (hp : pairT P kt = true) {x y : Int} : ∀ {es : List (PV × PV)} {l : List MapEntry} (i : Nat) {r : Option PV}, All2 (RelE S w) es l → pfind (.agg [.int .i64 x, .int .i64 y]) es = some r →
    (r = none ∧ (Instr.findAsking kt (.agg #[.int .i64 x, .int .i64 y]) l i).run P w = .ok none w) ∨ ∃ j m p, r = some p ∧ (Instr.findAsking kt (.agg #[.int .i64 x, .int .i64 y]) l i).run P w = .ok (some (i + j, m.val)) w ∧ l[j]? = some m ∧ m.key = .agg #[.int .i64 x, .int .i64 y] ∧ RelD S w p m.val ∧ flatV p = true
  | [], l, i, r, ha, h => by
    rw [ha.nil_left]
    simp only [pfind] at h; cases h
    exact .inl ⟨rfl, by simp [Instr.findAsking]⟩
  | e :: es, l, i, r, ha, h => by
    obtain ⟨m, l', rfl, h1, h2⟩ := ha.cons_left
    simp only [pfind] at h
    split at h
    · rename_i hq
      cases h
      obtain ⟨h3, h4⟩ := key_asks hu hp hq h1.1
      exact .inr ⟨0, m, e.2, rfl, by simp [Instr.findAsking, h3], rfl, h4 rfl, h1.2.1, h1.2.2⟩
    · rename_i hq
      obtain ⟨h3, _⟩ := key_asks hu hp hq h1.1
      rcases findAsking_spec hu hp (i + 1) h2 h with ⟨h4, h5⟩ | ⟨j, m', p, h4, h5, h6, h7⟩
      · exact .inl ⟨h4, by simp [Instr.findAsking, h3, h5]⟩
      · exact .inr ⟨j + 1, m', p, h4, by simp [Instr.findAsking, h3, h5]; omega, by simpa using h6, h7⟩
    · cases h
theorem run_findKey_pair {kt : TypeId} {fs : Array Field} (hu : P.underlying kt = some (.struct fs)) (v : Value) (l : List MapEntry) : (Instr.findKey kt v l).run P w = (Instr.findAsking kt v l 0).run P w := by
  cases l with
  | nil => simp [Instr.findKey, run_underlying hu, Instr.findNow, Instr.findAsking]
  | cons m l => simp [Instr.findKey, run_underlying hu, Instr.findNow, Instr.sameNow]
/-- What the search for a key does. -/
theorem pfind_run {S : Cells} {kt : TypeId} {d : TypeDesc} {k : PV} {kv : Value} {es : List (PV × PV)} {l : List MapEntry} {r : Option PV} (hu : P.underlying kt = some d) (ht : keyTOK P kt d = true) (hd : keyD d k = true) (hk : RelD S w k kv) (ha : All2 (RelE S w) es l) (h : pfind k es = some r) :
    (r = none ∧ (Instr.findKey kt kv l).run P w = .ok none w) ∨ ∃ j m p, r = some p ∧ (Instr.findKey kt kv l).run P w = .ok (some (j, m.val)) w ∧ l[j]? = some m ∧ m.key = kv ∧ RelD S w p m.val ∧ flatV p = true := by
  by_cases hs : ∃ fs, d = .struct fs
  · obtain ⟨fs, rfl⟩ := hs
    obtain ⟨x, y, rfl⟩ := keyD_pair hd
    rw [relPair] at hk
    subst hk
    rw [run_findKey_pair hu]
    rcases findAsking_spec hu ht 0 ha h with h1 | ⟨j, m, p, h1, h2, h3⟩
    · exact .inl h1
    · exact .inr ⟨j, m, p, h1, by simpa using h2, h3⟩
  · have hs : ∀ fs, d ≠ .struct fs := fun fs e => hs ⟨fs, e⟩
    rcases pfind_spec hs hd hk 0 ha h with ⟨h1, h2⟩ | ⟨j, m, p, h1, h2, h3⟩
    · exact .inl ⟨h1, MapKept.run_findKey hu h2⟩
    · exact .inr ⟨j, m, p, h1, MapKept.run_findKey hu (by simpa using h2), h3⟩
theorem checkKey_run {S : Cells} {kt : TypeId} {d : TypeDesc} {k : PV} {kv : Value} (hu : P.underlying kt = some d) (ht : keyTOK P kt d = true) (hd : keyD d k = true) (hk : RelD S w k kv) (e : Bool) : (Instr.checkKey e 10000 kt kv).run P w = .ok () w := by
  by_cases hs : ∃ fs, d = .struct fs
  · obtain ⟨fs, rfl⟩ := hs
    obtain ⟨x, y, rfl⟩ := keyD_pair hd
    rw [relPair] at hk
    subst hk
    exact run_checkKey_pair hu ht e 9998 x y
  · exact MapKept.run_checkKey hu (keyD_is (fun fs e => hs ⟨fs, e⟩) hd hk) e 9999
theorem keyStays_run {S : Cells} {d : TypeDesc} {k : PV} {kv : Value} (hd : keyD d k = true) (hk : RelD S w k kv) : (Instr.keyThatStays kv kv).run P w = .ok kv w := by
  by_cases hs : ∃ fs, d = .struct fs
  · obtain ⟨fs, rfl⟩ := hs
    obtain ⟨x, y, rfl⟩ := keyD_pair hd
    rw [relPair] at hk
    subst hk
    simp [Instr.keyThatStays, Instr.sameBits]
  · exact MapKept.run_keyThatStays (keyD_is (fun fs e => hs ⟨fs, e⟩) hd hk)
theorem run_evLookup {t : TypeId} {mv : Value} {arr : Array MapEntry} {es : List (PV × PV)} {k r : PV} {kv : Value} {ok : Bool} (hb : (mv = .map none ∧ arr = #[]) ∨ ∃ B clock, mv = .map (some B) ∧ g.w.heap[B]? = some (.map arr clock)) (he : All2 (RelE g.S g.w) es arr.toList) (hk : Rel g k kv)
    (h : evLookup P t es k ok = some r) : ∃ z, (Instr.lookup t mv kv ok).run P g.w = .ok z g.w ∧ Rel g r z := by
  unfold evLookup at h
  split at h
  · rename_i d z hm
    obtain ⟨kt, et, m1, m2, m3, m4, m5⟩ := mapKD_spec hm
    split at h
    · rename_i hd
      obtain ⟨x, hx, rfl⟩ := Option.map_eq_some_iff.1 h
      have hkd : RelD g.S g.w k kv := by
        revert hk hd
        cases k <;> intro hk hd <;> first | exact hk | (cases d <;> simp [keyD] at hd; done) | skip
        cases d <;> simp only [keyD] at hd <;> try cases hd
        obtain ⟨x, y, e⟩ := keyD_pair hd
        rw [e] at hk ⊢
        exact rel_pair hk
      obtain ⟨iz, zv, z1, z2, z0⟩ := rel_zeroK (g := g) m3
      have z3 : RelA g z zv := by
        revert z0 m4
        cases z <;> intro m4 z0 <;> first | exact z0 | (simp [flatV] at m4)
      have z3 := rel_nilL (P := P) (t := t) z3
      have hc := checkKey_run (P := P) (w := g.w) m2 m5 hd hkd arr.isEmpty
      rcases pfind_run (P := P) m2 m5 hd hkd he hx with ⟨rfl, hf⟩ | ⟨j, m, p, rfl, hf, _, _, h5, h6⟩
      · refine ⟨if ok then .tuple #[zv, .bool false] else zv, ?_, ?_⟩
        · rcases hb with ⟨rfl, rfl⟩ | ⟨B, clock, rfl, hb⟩
          · simp at hc hf; simp [Instr.lookup, run_underlying m1, hc, hf, zeroValue, typeInfo, z1, z2]
          · simp [Instr.lookup, run_underlying m1, MapKept.run_getObj_map hb, hc, hf, zeroValue, typeInfo, z1, z2]
        · cases ok
          · exact z3.rel
          · simp only [if_true, Rel, Option.getD_none, Option.isSome_none]
            exact ⟨_, rfl, .cons z3 (.cons (by simp [RelA, Rel1, RelD]) .nil)⟩
      · refine ⟨if ok then .tuple #[m.val, .bool true] else m.val, ?_, ?_⟩
        · rcases hb with ⟨rfl, rfl⟩ | ⟨B, clock, rfl, hb⟩
          · simp at hc hf; simp [Instr.lookup, run_underlying m1, hc, hf]
          · simp [Instr.lookup, run_underlying m1, MapKept.run_getObj_map hb, hc, hf]
        · have h7 : RelA g p m.val := Rel.ofFlat h5 h6
          cases ok
          · exact h7.rel
          · simp only [if_true, Rel, Option.getD_some, Option.isSome_some]
            exact ⟨_, rfl, .cons h7 (.cons (by simp [RelA, Rel1, RelD]) .nil)⟩
    · cases h
  · cases h
theorem pset_spec {S : Cells} {d : TypeDesc} {k v : PV} {kv : Value} (hs : ∀ fs, d ≠ .struct fs) (hd : keyD d k = true) (hk : RelD S w k kv) : ∀ {es es' : List (PV × PV)} {l : List MapEntry} (i : Nat), All2 (RelE S w) es l → pset k v es = some es' →
    (es' = es ++ [(k, v)] ∧ Instr.findNow d kv l i = some none) ∨ ∃ j m, Instr.findNow d kv l i = some (some (i + j, m.val)) ∧ l[j]? = some m ∧ m.key = kv ∧ es' = es.set j (k, v)
  | [], es', l, i, ha, h => by
    rw [ha.nil_left]
    simp only [pset] at h; cases h
    exact .inl ⟨rfl, rfl⟩
  | e :: es, es', l, i, ha, h => by
    obtain ⟨m, l', rfl, h1, h2⟩ := ha.cons_left
    simp only [pset] at h
    split at h
    · rename_i hq
      cases h
      obtain ⟨h3, h4⟩ := pkeyEq_now hs hd hk h1.1 hq
      exact .inr ⟨0, m, by simp [Instr.findNow, h3], rfl, h4 rfl, rfl⟩
    · rename_i hq
      obtain ⟨h3, _⟩ := pkeyEq_now hs hd hk h1.1 hq
      obtain ⟨es1, hp, rfl⟩ := Option.map_eq_some_iff.1 h
      rcases pset_spec hs hd hk (i + 1) h2 hp with ⟨rfl, h5⟩ | ⟨j, m', h5, h6, h7, rfl⟩
      · exact .inl ⟨rfl, by simp [Instr.findNow, h3, h5]⟩
      · exact .inr ⟨j + 1, m', by simp [Instr.findNow, h3, h5]; omega, by simpa using h6, h7, rfl⟩
    · cases h
theorem psetAsking_spec {S : Cells} {kt : TypeId} {fs : Array Field} (hu : P.underlying kt = some (.struct fs)) (hp : pairT P kt = true) {x y : Int} {v : PV} : ∀ {es es' : List (PV × PV)} {l : List MapEntry} (i : Nat), All2 (RelE S w) es l → pset (.agg [.int .i64 x, .int .i64 y]) v es = some es' →
    (es' = es ++ [(.agg [.int .i64 x, .int .i64 y], v)] ∧ (Instr.findAsking kt (.agg #[.int .i64 x, .int .i64 y]) l i).run P w = .ok none w) ∨ ∃ j m, (Instr.findAsking kt (.agg #[.int .i64 x, .int .i64 y]) l i).run P w = .ok (some (i + j, m.val)) w ∧ l[j]? = some m ∧ m.key = .agg #[.int .i64 x, .int .i64 y] ∧ es' = es.set j (.agg [.int .i64 x, .int .i64 y], v)
  | [], es', l, i, ha, h => by
    rw [ha.nil_left]
    simp only [pset] at h; cases h
    exact .inl ⟨rfl, by simp [Instr.findAsking]⟩
  | e :: es, es', l, i, ha, h => by
    obtain ⟨m, l', rfl, h1, h2⟩ := ha.cons_left
    simp only [pset] at h
    split at h
    · rename_i hq
      cases h
      obtain ⟨h3, h4⟩ := key_asks hu hp hq h1.1
      exact .inr ⟨0, m, by simp [Instr.findAsking, h3], rfl, h4 rfl, rfl⟩
    · rename_i hq
      obtain ⟨h3, _⟩ := key_asks hu hp hq h1.1
      obtain ⟨es2, hp2, rfl⟩ := Option.map_eq_some_iff.1 h
      rcases psetAsking_spec hu hp (i + 1) h2 hp2 with ⟨rfl, h5⟩ | ⟨j, m', h5, h6, h7, rfl⟩
      · exact .inl ⟨rfl, by simp [Instr.findAsking, h3, h5]⟩
      · exact .inr ⟨j + 1, m', by simp [Instr.findAsking, h3, h5]; omega, by simpa using h6, h7, rfl⟩
    · cases h
theorem pset_run {S : Cells} {kt : TypeId} {d : TypeDesc} {k v : PV} {kv : Value} {es es' : List (PV × PV)} {l : List MapEntry} (hu : P.underlying kt = some d) (ht : keyTOK P kt d = true) (hd : keyD d k = true) (hk : RelD S w k kv) (ha : All2 (RelE S w) es l) (h : pset k v es = some es') :
    (es' = es ++ [(k, v)] ∧ (Instr.findKey kt kv l).run P w = .ok none w) ∨ ∃ j m, (Instr.findKey kt kv l).run P w = .ok (some (j, m.val)) w ∧ l[j]? = some m ∧ m.key = kv ∧ es' = es.set j (k, v) := by
  by_cases hs : ∃ fs, d = .struct fs
  · obtain ⟨fs, rfl⟩ := hs
    obtain ⟨x, y, rfl⟩ := keyD_pair hd
    rw [relPair] at hk
    subst hk
    rw [run_findKey_pair hu]
    rcases psetAsking_spec hu ht 0 ha h with h1 | ⟨j, m, h1, h2⟩
    · exact .inl h1
    · exact .inr ⟨j, m, by simpa using h1, h2⟩
  · have hs : ∀ fs, d ≠ .struct fs := fun fs e => hs ⟨fs, e⟩
    rcases pset_spec hs hd hk 0 ha h with ⟨h1, h2⟩ | ⟨j, m, h1, h2⟩
    · exact .inl ⟨h1, MapKept.run_findKey hu h2⟩
    · exact .inr ⟨j, m, MapKept.run_findKey hu (by simpa using h1), h2⟩
theorem ofind_pset {k : PV} (kk b : Nat) : ∀ {es : List (PV × List (List PV))} {r : Option (Nat × List (List PV))}, ofind k es = some r →
    pset k .any (frzM kk b es) = some (match r with | some (i, _) => (frzM kk b es).set i (k, .any) | none => frzM kk b es ++ [(k, .any)]) ∧ ∀ i xss, r = some (i, xss) → ∃ key, es[i]? = some (key, xss)
  | [], r, h => by
    simp only [ofind] at h; cases h
    exact ⟨rfl, fun _ _ e => by cases e⟩
  | e :: es, r, h => by
    simp only [ofind] at h
    split at h
    · rename_i hq
      cases h
      refine ⟨by simp [frzM, pset, hq], fun i xss e1 => ?_⟩
      cases e1; exact ⟨e.1, rfl⟩
    · rename_i hq
      obtain ⟨r', h1, rfl⟩ := Option.map_eq_some_iff.1 h
      obtain ⟨i1, i2⟩ := ofind_pset kk b h1
      unfold frzM at i1 ⊢
      refine ⟨?_, fun i xss e1 => ?_⟩
      · simp only [List.map_cons, pset, hq, i1, Option.map_some]
        cases r' <;> simp
      · cases r' with
        | none => cases e1
        | some y =>
          obtain ⟨y1, y2⟩ := y
          simp only [Option.map_some, Option.some.injEq, Prod.mk.injEq] at e1
          obtain ⟨rfl, rfl⟩ := e1
          obtain ⟨key, hk⟩ := i2 y1 y2 rfl
          exact ⟨key, by simpa using hk⟩
    · cases h
/-- The place in memory where a key is, in such a map. -/
theorem ofind_run {kt : TypeId} {d : TypeDesc} {k : PV} {kv : Value} {kk b : Nat} {tk : Nat → Nat} {es : List (PV × List (List PV))} {arr : Array MapEntry} {r : Option (Nat × List (List PV))} (hu : P.underlying kt = some d) (ht : keyTOK P kt d = true) (hd : keyD d k = true) (hk : RelD g.S g.w k kv)
    (hsz : arr.size = es.length) (hE : ∀ (i : Nat) (e : PV × List (List PV)) (m : MapEntry), es[i]? = some e → arr[i]? = some m → RelD g.S g.w e.1 m.key ∧ Rel1 g (.lst (.own (tk i)) kk b e.2) m.val) (h : ofind k es = some r) :
    (r = none ∧ (Instr.findKey kt kv arr.toList).run P g.w = .ok none g.w) ∨ ∃ i xss m key, r = some (i, xss) ∧ es[i]? = some (key, xss) ∧ (Instr.findKey kt kv arr.toList).run P g.w = .ok (some (i, m.val)) g.w ∧ arr[i]? = some m ∧ m.key = kv := by
  have hA : All2 (RelE g.S g.w) (frzM kk b es) arr.toList := ⟨by simp [frzM, hsz], fun i p m hp hm => by
    simp only [frzM, List.getElem?_map] at hp
    obtain ⟨e, he, rfl⟩ := Option.map_eq_some_iff.1 hp
    obtain ⟨q1, q2⟩ := hE i e m he (by simpa using hm)
    exact ⟨q1, q2.1, rfl⟩⟩
  obtain ⟨i1, i2⟩ := ofind_pset kk b h
  have hlen : (frzM kk b es).length = es.length := by simp [frzM]
  rcases pset_run (P := P) hu ht hd hk hA i1 with ⟨e1, hf⟩ | ⟨j, m, hf, h3, h4, e1⟩
  · refine .inl ⟨?_, hf⟩
    cases r with
    | none => rfl
    | some y =>
      exfalso
      have := congrArg List.length e1
      simp at this
  · cases r with
    | none =>
      exfalso
      have := congrArg List.length e1
      simp at this
    | some y =>
      obtain ⟨i, xss⟩ := y
      obtain ⟨key, hkey⟩ := i2 i xss rfl
      have hil : i < (frzM kk b es).length := by rw [hlen]; exact (List.getElem?_eq_some_iff.1 hkey).1
      have hij : i = j := by
        by_cases hij : i = j
        · exact hij
        · exfalso
          have h5 := congrArg (fun l : List (PV × PV) => l[i]?) e1
          simp only [List.getElem?_set, if_true, hil] at h5
          rw [if_neg (fun e => hij e.symm)] at h5
          have hm : i < arr.toList.length := by rw [← hA.1]; exact hil
          have h6 := (hA.2 i _ arr.toList[i] h5.symm (List.getElem?_eq_getElem hm)).2.2
          simp [flatV] at h6
      subst hij
      exact .inr ⟨i, xss, m, key, rfl, hkey, hf, by simpa using h3, h4⟩
theorem run_evLookupO {t : TypeId} {B : Nat} {clock : Nat} {arr : Array MapEntry} {es : List (PV × List (List PV))} {kk b : Nat} {tk : Nat → Nat} {k r : PV} {kv : Value} {ok : Bool} (hb : g.w.heap[B]? = some (.map arr clock))
    (hsz : arr.size = es.length) (hE : ∀ (i : Nat) (e : PV × List (List PV)) (m : MapEntry), es[i]? = some e → arr[i]? = some m → RelD g.S g.w e.1 m.key ∧ Rel1 g (.lst (.own (tk i)) kk b e.2) m.val) (hk : Rel g k kv)
    (h : evLookupO P t es kk b tk k ok = some r) : ∃ z, (Instr.lookup t (.map (some B)) kv ok).run P g.w = .ok z g.w ∧ Rel g r z := by
  unfold evLookupO at h
  split at h
  · rename_i d hm
    obtain ⟨kt, et, m1, m2, m3, m4, m5⟩ := mapKD_spec hm
    split at h
    · rename_i hd
      obtain ⟨x, hx, rfl⟩ := Option.map_eq_some_iff.1 h
      have hkd : RelD g.S g.w k kv := by
        revert hk hd
        cases k <;> intro hk hd <;> first | exact hk | (cases d <;> simp [keyD] at hd; done) | skip
        cases d <;> simp only [keyD] at hd <;> try cases hd
        obtain ⟨x, y, e⟩ := keyD_pair hd
        rw [e] at hk ⊢
        exact rel_pair hk
      obtain ⟨iz, zv, z1, z2, z0⟩ := rel_zeroK (g := g) m3
      have hc := checkKey_run (P := P) (w := g.w) m2 m5 hd hkd arr.isEmpty
      rcases ofind_run m2 m5 hd hkd hsz hE hx with ⟨rfl, hf⟩ | ⟨i, xss, m, key, rfl, hkey, hf, hm2, hmk⟩
      · exact ⟨zv, by simp [Instr.lookup, run_underlying m1, MapKept.run_getObj_map hb, hc, hf, zeroValue, typeInfo, z1, z2], z0⟩
      · exact ⟨m.val, by simp [Instr.lookup, run_underlying m1, MapKept.run_getObj_map hb, hc, hf], (hE i _ m hkey hm2).2⟩
    · cases h
  · cases h
/-- What such an operation does. -/
theorem run_ev1 (h : InvG Gl S0 w0 s a g) (o : Oper) {r : PV} (he : ev1 P Gl o.op s.ev s.H s.X = some r) :
    ∃ z, (execOp a.eval o).run P g.w = .ok (.value z) g.w ∧ Rel g r z := by
  have key : ∀ (m : Sem Value), (∃ z, m.run P g.w = .ok z g.w ∧ Rel g r z) → ∃ z, (do pure (Next.value (← m)) : Sem Next).run P g.w = .ok (.value z) g.w ∧ Rel g r z := by
    rintro m ⟨z, h1, h2⟩
    exact ⟨z, by simp [h1], h2⟩
  unfold ev1 at he
  unfold execOp
  split at he
  · rename_i x hop; rw [hop]; cases he; exact ⟨_, rfl, h.ev x⟩
  · rename_i x hop; rw [hop]; cases he; exact ⟨_, rfl, h.ev x⟩
  · rename_i c x y hop
    rw [hop]
    have hc := h.ev c
    split at he
    · rename_i b hb
      rw [hb, relBool] at hc
      cases he
      refine ⟨if b then a.eval x else a.eval y, by simp [hc, asBool], ?_⟩
      cases b
      · exact h.ev y
      · exact h.ev x
    · cases he
  · rename_i x hop
    rw [hop]
    have hx := h.ev x
    split at he
    · rename_i l o hl
      rw [hl] at hx; cases he
      have hx' := hx
      rw [relRef] at hx
      exact ⟨a.eval x, by simp [hx.1], hx'⟩
    · rename_i cs hl
      rw [hl] at hx; cases he
      have hx' := hx
      rw [relCptr] at hx
      obtain ⟨B, o, e, _⟩ := hx
      exact ⟨a.eval x, by simp [e], hx'⟩
    · rename_i i o hl
      rw [hl] at hx; cases he
      have hx' := hx
      rw [relGptr] at hx
      exact ⟨a.eval x, by simp [hx], hx'⟩
    · rename_i f caps hl
      rw [hl] at hx; cases he
      have hx' := hx
      simp only [Rel, RelA, Rel1] at hx
      obtain ⟨arr, e, _⟩ := hx
      exact ⟨a.eval x, by simp [e], hx'⟩
    · cases he
  · rename_i op t x y yt hop
    rw [hop]
    exact key _ (run_evBin he (h.ev x) (h.ev y))
  · rename_i op t x hop; rw [hop]; exact key _ (run_evUn he (h.ev x))
  · rename_i src dst x hop; rw [hop]; exact key _ (run_evConv he (h.ev x))
  · rename_i t x f hop; rw [hop]; exact key _ (run_evFieldAddr he (h.ev x) rfl)
  · rename_i t x f hop; rw [hop]; exact key _ (run_evField he (h.ev x))
  · rename_i t x i hop; rw [hop]; exact key _ (run_evIndexAddr he (h.ev x) (h.ev i) rfl)
  · rename_i t x i hop; rw [hop]; exact key _ (run_evIndex he (h.ev x) (h.ev i))
  · rename_i t x hop; rw [hop]; exact key _ (run_evLoad h he (h.ev x))
  · rename_i x i hop
    rw [hop]
    have hx := h.ev x
    split at he
    · rename_i vs hvs
      rw [hvs] at hx
      simp only [Rel] at hx
      obtain ⟨arr, e, hr⟩ := hx
      obtain ⟨z, hz1, hz2⟩ := hr.right he
      refine key _ ⟨z, by rw [e]; simp only [Instr.extract]; rw [show arr[i]? = some z by simpa using hz1]; rfl, ?_⟩
      cases r
      case tup vs => exact hz2.elim
      all_goals exact hz2
    · cases he
  · rename_i t x lo hi mx hop
    rw [hop]
    exact key _ (run_evSlice he (h.ev x) rfl (relO_map h lo) (relO_map h hi) (relO_map h mx))
  · rename_i t parts hop
    rw [hop]
    refine key _ (run_evBuild he ⟨by simp, fun i x y hx hy => ?_⟩)
    simp only [List.getElem?_map, Array.toList_map] at hx hy
    cases hp : parts.toList[i]? with
    | none => rw [hp] at hx; cases hx
    | some q =>
      rw [hp] at hx hy
      cases hx; cases hy
      exact ⟨rfl, h.ev q.2⟩
  · rename_i t x k ok hop
    rw [hop]
    have hx := h.ev x
    split at he
    · rename_i l hl
      rw [hl] at hx
      split at he
      · rename_i es hes
        obtain ⟨_, _, _, arr, clock, o1, o2⟩ := h.objs l _ (by rw [h.hH]; exact hes)
        have hx1 : a.eval x = .map (some (g.φ l)) := hx.1
        have hr := run_evLookup (P := P) (.inr ⟨_, _, hx1, o1⟩) o2 (h.ev k) he
        exact key _ hr
      · rename_i es k' b tk hes
        obtain ⟨_, _, _, _, arr, clock, o1, o2, o3⟩ := h.objs l _ (by rw [h.hH]; exact hes)
        have hx1 : a.eval x = .map (some (g.φ l)) := hx.1
        have hr := run_evLookupO (P := P) o1 o2 o3 (h.ev k) he
        rw [← hx1] at hr
        exact key _ hr
      · cases he
    · rename_i ks vs hl
      rw [hl] at hx
      have hx : RelD g.S g.w (.fmp ks vs) (a.eval x) := hx
      simp only [RelD] at hx
      obtain ⟨hfl, ⟨e1, rfl, rfl⟩ | ⟨B, arr, clock, e1, e2, e3, e4, e5⟩⟩ := hx
      · exact key _ (run_evLookup (P := P) (arr := #[]) (.inl ⟨e1, rfl⟩) .nil (h.ev k) he)
      · refine key _ (run_evLookup (P := P) (arr := arr) (.inr ⟨B, clock, e1, e3⟩) ?_ (h.ev k) he)
        have e4 := (relDs_iff _ _).1 e4
        have e5 := (relDs_iff _ _).1 e5
        refine ⟨by rw [List.length_zip, e4.1, e5.1]; simp, fun i p m hp hm => ?_⟩
        rw [List.getElem?_zip_eq_some] at hp
        exact ⟨e4.2 i p.1 m.key hp.1 (by rw [List.getElem?_map, hm]; rfl), e5.2 i p.2 m.val hp.2 (by rw [List.getElem?_map, hm]; rfl), List.all_eq_true.1 hfl _ (List.mem_of_getElem? hp.2)⟩
    · cases he
  · rename_i f first caps hop
    rw [hop]
    split at he
    · rename_i hc
      obtain ⟨h1, h2⟩ := hc
      cases he
      rw [toList_nil h1]
      refine key _ ⟨_, rfl, ?_⟩
      simp only [Rel, RelA, Rel1]
      refine ⟨caps.map a.eval, by simp, by simp, fun i x y hx hy => ?_⟩
      simp only [List.getElem?_map, Array.toList_map] at hx hy
      cases hp : caps.toList[i]? with
      | none => rw [hp] at hx; cases hx
      | some q =>
        rw [hp] at hx hy
        cases hx; cases hy
        have hcap : capOK (s.ev q) = true := List.all_eq_true.1 h2 _ (List.mem_map.2 ⟨q, List.mem_of_getElem? hp, rfl⟩)
        have hq := h.ev q
        cases he : s.ev q <;> rw [he] at hq hcap <;> simp only [capOK] at hcap <;> try cases hcap
        all_goals exact hq
    · cases he
  · rename_i c hop
    rw [hop]
    split at he
    · rename_i x t h1 h2 h3
      have ha := toList_one h2
      have hb := toList_one h3
      have hr := run_evLen h (ty := o.type) he (h.ev x)
      obtain ⟨z, hz1, hz2⟩ := hr
      exact ⟨z, by simp [resolve, h1, ha, hb, invoke, builtin, hz1], hz2⟩
    · rename_i x y h1 h2
      obtain ⟨z, hz1, hz2⟩ := run_min (P := P) (w := g.w) (ts := c.argTypes) (ty := o.type) he (h.ev x) (h.ev y)
      exact ⟨z, by simp [resolve, h1, toList_two h2, invoke, builtin, hz1], hz2⟩
    · rename_i x y h1 h2
      obtain ⟨z, hz1, hz2⟩ := run_max (P := P) (w := g.w) (ts := c.argTypes) (ty := o.type) he (h.ev x) (h.ev y)
      exact ⟨z, by simp [resolve, h1, toList_two h2, invoke, builtin, hz1], hz2⟩
    · cases he
  · cases he
end
end PM
/-
  THE PURE MACHINE, I: operations that make or write memory of the call's own.
-/
namespace PM
open Go Go.RowKit

/-! ### Data -/
def data0 : PV → Bool
  | .ref _ _ => false
  | _ => true
def datum1 : PV → Option PV
  | .lst (.own _) k b xss => some (.lst .frozen k b xss)
  | .lst .full k b xss => some (.lst .frozen k b xss)
  | .lst .frozen k b xss => some (.lst .frozen k b xss)
  | .int k n => some (.int k n)
  | .bool b => some (.bool b)
  | .str s => some (.str s)
  | .nil => some .nil
  | .cptr cs => some (.cptr cs)
  | .gptr i o => some (.gptr i o)
  | .fmp ks vs => some (.fmp ks vs)
  | .fn f caps => if caps.all data0 = true then some (.fn f caps) else none
  | _ => none
def datumL : List PV → Option (List PV)
  | [] => some []
  | p :: ps => match datum1 p, datumL ps with
    | some a, some b => some (a :: b)
    | _, _ => none
def datumA : PV → Option PV
  | .agg cs => (datumL cs).map .agg
  | p => datum1 p
def datumAs : List PV → Option (List PV)
  | [] => some []
  | p :: ps => match datumA p, datumAs ps with
    | some a, some b => some (a :: b)
    | _, _ => none

section
variable {P : Program} {Gl : Nat → Option (List PV)} {S0 : Bs} {w0 : World} {s : PSt} {a : Act} {g : GG} {w : World}
theorem datum1_spec {p q : PV} {v : Value} (h : Rel1 g p v) (hd : datum1 p = some q) : RelD g.S g.w q v ∧ q.one = true := by
  cases p
  case lst o k b xss =>
    cases o <;> simp only [datum1] at hd <;> cases hd
    · exact ⟨h, rfl⟩
    · exact ⟨RelD.unfull h, rfl⟩
    · exact ⟨h.1, rfl⟩
  case fn f caps =>
    simp only [datum1] at hd
    split at hd
    · rename_i hc
      cases hd
      simp only [Rel1] at h
      obtain ⟨arr, e, hr⟩ := h
      refine ⟨?_, rfl⟩
      simp only [RelD]
      refine ⟨arr, e, (relDs_iff _ _).2 ⟨hr.1, fun i x y hx hy => ?_⟩⟩
      have h0 := hr.2 i x y hx hy
      have h1 := List.all_eq_true.1 hc x (List.mem_of_getElem? hx)
      cases x <;> simp only [Rel0, data0] at h0 h1 <;> first | exact h0 | cases h1
    · cases hd
  all_goals (simp only [datum1] at hd; cases hd)
  all_goals exact ⟨h, rfl⟩
theorem datumL_spec : ∀ {cs ds : List PV} {vs : List Value}, All2 (RelC g) cs vs → datumL cs = some ds → All2 (fun p v => RelD g.S g.w p v ∧ p.one = true ∧ v.oneCell' = true) ds vs
  | [], ds, vs, h, hd => by
    simp only [datumL] at hd; cases hd
    rw [h.nil_left]; exact .nil
  | c :: cs, ds, vs, h, hd => by
    simp only [datumL] at hd
    split at hd
    · rename_i x y h1 h2
      cases hd
      obtain ⟨v, vs', rfl, hv, hvs⟩ := h.cons_left
      obtain ⟨e1, e2⟩ := datum1_spec hv.1 h1
      exact .cons ⟨e1, e2, hv.2⟩ (datumL_spec hvs h2)
    · cases hd
theorem datumL_length : ∀ {cs ds : List PV}, datumL cs = some ds → ds.length = cs.length
  | [], ds, hd => by simp only [datumL] at hd; cases hd; rfl
  | c :: cs, ds, hd => by
    simp only [datumL] at hd
    split at hd
    · rename_i x y h1 h2
      cases hd
      simp [datumL_length h2]
    · cases hd
theorem datumA_spec {p q : PV} {v : Value} (h : RelA g p v) (hd : datumA p = some q) : RelD g.S g.w q v := by
  cases p
  case agg cs =>
    simp only [datumA] at hd
    obtain ⟨ds, h1, rfl⟩ := Option.map_eq_some_iff.1 hd
    simp only [RelA] at h
    obtain ⟨arr, e, hr⟩ := h
    simp only [RelD]
    exact ⟨arr, e, (relDs_iff _ _).2 ((datumL_spec hr h1).mono fun _ _ h => h.1)⟩
  all_goals (simp only [RelA] at h; simp only [datumA] at hd; exact (datum1_spec h hd).1)
theorem Rel.relA {p q : PV} {v : Value} (h : Rel g p v) (hd : datumA p = some q) : RelA g p v := by
  cases p <;> first | exact h | (simp [datumA, datum1] at hd)
theorem datumAs_spec : ∀ {ps qs : List PV} {vs : List Value}, All2 (Rel g) ps vs → datumAs ps = some qs → All2 (RelD g.S g.w) qs vs
  | [], qs, vs, h, hd => by
    simp only [datumAs] at hd; cases hd
    rw [h.nil_left]; exact .nil
  | c :: cs, ds, vs, h, hd => by
    simp only [datumAs] at hd
    split at hd
    · rename_i x y h1 h2
      cases hd
      obtain ⟨v, vs', rfl, hv, hvs⟩ := h.cons_left
      exact .cons (datumA_spec (hv.relA h1) h1) (datumAs_spec hvs h2)
    · cases hd

/-! ### A new block -/
theorem below_alloc (w : World) (o : Obj) : BelowD w.heap.size w (w.alloc o) := ⟨(Below.refl _ _).alloc (Nat.le_refl _) o, Nat.le_refl _⟩
theorem rangeAt_alloc (w : World) (arr : Array Value) (t : TypeId) : (w.alloc (.cells arr t)).rangeAt w.heap.size 0 arr.toList := fun j v hv => by
  rw [Nat.zero_add, World.cell?_alloc_new]
  simpa using hv
theorem there_alloc (w : World) (arr : Array Value) (t : TypeId) : (w.alloc (.cells arr t)).there w.heap.size 0 arr.size := fun j hj => by
  rw [Nat.zero_add, World.cell?_alloc_new, World.frozen?_alloc_new]
  exact ⟨by simp [hj], rfl⟩
theorem InvG.spare_lt (h : InvG Gl S0 w0 s a g) (t : Nat) (hs : Spare g t g.w.heap.size) : False := by
  have := hs.lt h; omega
theorem InvG.xb_lt (h : InvG Gl S0 w0 s a g) (t : Nat) (hs : XB s.X g t g.w.heap.size) : False := by
  have := (hs.lt h).1; omega
theorem InvG.phi_lt (h : InvG Gl S0 w0 s a g) (l : Nat) (hl : (g.H l).isSome = true) : g.φ l ≠ g.w.heap.size := by
  obtain ⟨ob, hob⟩ := Option.isSome_iff_exists.1 hl
  have := (h.objs l ob hob).2.1
  omega
/-- A variable of the call's own is made. -/
theorem InvG.newVar (h : InvG Gl S0 w0 s a g) {l : Nat} {cs : List PV} {arr : Array Value} (t : TypeId) (hl : g.H l = none) (hl6 : l < 1000000) (hc : All2 (RelC g) cs arr.toList) :
    ∃ g', g'.w = g.w.alloc (.cells arr t) ∧ InvG Gl S0 w0 { s with H := upd s.H l (some (.cells cs)) } a g' ∧ GLe g g' ∧ g'.φ l = g.w.heap.size ∧ (g'.H l).isSome = true ∧ g'.H = upd g.H l (some (.cells cs)) := by
  obtain ⟨h1, e1⟩ := h.grow' (below_alloc g.w (.cells arr t))
  have hz := h.below.size
  obtain ⟨h2, e2⟩ := h1.addObj (l := l) (B := g.w.heap.size) (ob := .cells cs) hl hl6 (.inl (by omega)) (by show g.w.heap.size < (g.w.alloc _).heap.size; simp) (fun o ho => by have := h.lt _ _ ho; omega)
    (fun l' hl' => h.phi_lt l' hl') (fun t ht => h.spare_lt t (ht.congr rfl rfl)) (fun t ht => h.xb_lt t (ht.congr rfl)) (fun g' hg' hw' => ⟨arr.toList, hc.mono fun x y hxy => (hxy.mono e1).mono hg', by rw [hw']; exact rangeAt_alloc _ _ _, by rw [hw']; simpa using there_alloc g.w arr t⟩)
  refine ⟨_, rfl, h2, ⟨fun B o hB => e2.S B o (e1.S B o hB), fun B o hB => (e2.cell B o (e1.S B o hB)).trans (e1.cell B o hB), fun B hB => (e2.blk B fun o => e1.S B o (hB o)).trans (e1.blk B hB), ?_, ?_⟩, by simp, by simp [upd], rfl⟩
  · intro l' ob hob
    have hne : l' ≠ l := fun e => by rw [e, hl] at hob; cases hob
    exact ⟨by simp [hne], ob, by simpa [upd, hne] using hob, fun cs e => ⟨cs, e, rfl⟩⟩
  · intro t n k ht
    exact ⟨n, ht, Nat.le_refl _, fun _ => rfl⟩
theorem GLe.trans {g1 g2 g3 : GG} (h : GLe g1 g2) (h' : GLe g2 g3) : GLe g1 g3 := by
  refine ⟨fun B o hB => h'.S B o (h.S B o hB), fun B o hB => (h'.cell B o (h.S B o hB)).trans (h.cell B o hB), fun B hB => (h'.blk B fun o => h.S B o (hB o)).trans (h.blk B hB), fun l ob hob => ?_, fun t n k ht => ?_⟩
  · obtain ⟨e1, ob1, e2, e3⟩ := h.obj l ob hob
    obtain ⟨f1, ob2, f2, f3⟩ := h'.obj l ob1 e2
    refine ⟨f1.trans e1, ob2, f2, fun cs e => ?_⟩
    obtain ⟨cs1, q1, q2⟩ := e3 cs e
    obtain ⟨cs2, r1, r2⟩ := f3 cs1 q1
    exact ⟨cs2, r1, by omega⟩
  · obtain ⟨n1, e1, e2, e3⟩ := h.tok t n k ht
    obtain ⟨n2, f1, f2, f3⟩ := h'.tok t n1 k e1
    exact ⟨n2, f1, by omega, fun e => by rw [f3 (by omega), e3 (by omega)]⟩
/-- A row of data is laid into a new block, whose first cells are stable from now on. -/
theorem InvG.newRow (h : InvG Gl S0 w0 s a g) (arr : Array Value) (t : TypeId) (m : Nat) :
    InvG Gl S0 w0 s a { g with w := g.w.alloc (.cells arr t), S := fun b o => g.S b o ∨ (b = g.w.heap.size ∧ o < m) } ∧ GLe g { g with w := g.w.alloc (.cells arr t), S := fun b o => g.S b o ∨ (b = g.w.heap.size ∧ o < m) } :=
  h.grow (below_alloc g.w (.cells arr t)) (fun _ _ h => .inl h) (fun B o hB => hB.imp id fun ⟨e, _⟩ => ⟨by omega, by simp; omega⟩)
/-- Elements whose cells are data, in a row of memory. -/
theorem relEls_of_values {S : Cells} {w : World} {k : Nat} : ∀ {xss : List (List PV)} {B o : Nat} {vs : List Value}, (∀ cs ∈ xss, cs.length = k) → All2 (fun p v => RelD S w p v ∧ p.one = true) xss.flatten vs → w.rangeAt B o vs → (∀ j, j < vs.length → S B (o + j)) → RelEls S w k xss B o
  | [], B, o, vs, _, _, _, _ => by simp [RelEls]
  | cs :: xss, B, o, vs, hl, hv, hr, hS => by
    simp only [RelEls]
    have hk : cs.length = k := hl cs (by simp)
    rw [List.flatten_cons] at hv
    have hvl : vs.length = cs.length + xss.flatten.length := by rw [← hv.1]; simp
    refine ⟨hk, ?_, ?_⟩
    · rw [relCells_iff]
      intro i c hc
      have hi : i < cs.length := (List.getElem?_eq_some_iff.1 hc).1
      obtain ⟨v, hv1, hv2⟩ := hv.right (i := i) (x := c) (by rw [List.getElem?_append_left hi]; exact hc)
      exact ⟨hv2.2, hS i (by omega), v, hr i v hv1, hv2.1⟩
    · have hd := hv.drop cs.length
      rw [List.drop_left] at hd
      refine relEls_of_values (fun cs hcs => hl cs (by simp [hcs])) hd (fun j v hj => ?_) (fun j hj => ?_)
      · rw [List.getElem?_drop] at hj
        have := hr _ v hj
        rwa [show o + (cs.length + j) = o + k + j by omega] at this
      · rw [List.length_drop] at hj
        have := hS (cs.length + j) (by omega)
        rwa [show o + (cs.length + j) = o + k + j by omega] at this
end
end PM
