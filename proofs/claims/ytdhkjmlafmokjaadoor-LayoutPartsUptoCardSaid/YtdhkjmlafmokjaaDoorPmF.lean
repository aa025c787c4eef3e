/-
  THE PURE MACHINE, F: the other operations that yield a value and leave memory alone; all of them in one function (ev1).
-/
import Derived.Test.YtdhkjmlafmokjaaDoorPmE
import Derived.Laws.Slices
namespace PM
open Go Go.RowKit

def evUn (op : UnOp) : PV → Option PV
  | .bool b => match op with | .not => some (.bool (!b)) | _ => none
  | .int k n => match op with | .neg => some (.int k (k.wrap (0 - n))) | _ => none
  | _ => none
def evConv (P : Program) (src dst : TypeId) : PV → Option PV
  | .int _ n => match intT P src, intT P dst with
    | some _, some k => some (.int k (k.wrap n))
    | _, _ => none
  | .str s => if strT P src && strT P dst then some (.str s) else none
  | _ => none
def evField (P : Program) (t : TypeId) (f : Nat) : PV → Option PV
  | .agg cs => match fieldK P t f with
    | some (off, true, n) => if off + n ≤ cs.length then some (.agg ((cs.drop off).take n)) else none
    | some (off, false, _) => cs[off]?
    | none => none
  | _ => none
def evFieldAddr (P : Program) (t : TypeId) (f : Nat) : PV → Option PV
  | .ref l o => match fieldK P t f with | some (off, _, n) => if n = 0 then none else some (.ref l (o + off)) | none => none
  | .cptr cs => match fieldK P t f with | some (off, _, n) => if n = 0 then none else some (.cptr (cs.drop off)) | none => none
  | .gptr g o => match fieldK P t f with | some (off, _, n) => if n = 0 then none else some (.gptr g (o + off)) | none => none
  | .eref tk k N j o => match fieldK P t f with | some (off, _, n) => if n = 0 then none else some (.eref tk k N j (o + off)) | none => none
  | _ => none
def evIndexAddr (P : Program) (t : TypeId) : PV → PV → Option PV
  | .lst _ k _ xss, .int _ n => match elemK P t with
    | some (_, _, k', _) => if k' = k ∧ 0 ≤ n then (xss[n.toNat]?).map .cptr else none
    | none => none
  | .sl l o len k _, .int _ n => match elemK P t with
    | some (_, _, k', _) => if k' = k ∧ 0 ≤ n ∧ n < len then some (.ref l (o * k + n.toNat * k)) else none
    | none => none
  | .ex tk k _ N o m, .int _ n => match elemK P t with
    | some (_, _, k', _) => if k' = k ∧ 0 ≤ n ∧ n < m then some (.eref tk k N (o + n.toNat) 0) else none
    | none => none
  | .ref l o, .int _ n => match arrK P t with
    | some (m, _, k) => if 0 ≤ n ∧ n < m then some (.ref l (o + n.toNat * k)) else none
    | none => none
  | .cptr cs, .int _ n => match arrK P t with
    | some (m, _, k) => if 0 ≤ n ∧ n < m then some (.cptr (cs.drop (n.toNat * k))) else none
    | none => none
  | .gptr g o, .int _ n => match arrK P t with
    | some (m, _, k) => if 0 ≤ n ∧ n < m then some (.gptr g (o + n.toNat * k)) else none
    | none => none
  | _, _ => none
def evIndex (P : Program) (t : TypeId) : PV → PV → Option PV
  | .agg cs, .int _ n => match arrK P t with
    | some (m, true, k) => if 0 ≤ n ∧ n < m ∧ n.toNat * k + k ≤ cs.length then some (.agg ((cs.drop (n.toNat * k)).take k)) else none
    | some (m, false, k) => if 0 ≤ n ∧ n < m then cs[n.toNat * k]? else none
    | none => none
  | .str s, .int _ n => if strT P t && decide (0 ≤ n) then (s[n.toNat]?).map fun b => .int .u8 b.toNat else none
  | _, _ => none
def takeN (n : Nat) (cs : List PV) : List PV := if cs.length = n then cs else cs.take n
def loadFrom (P : Program) (t : TypeId) (cs : List PV) : Option PV :=
  match tyK P t with
  | some (true, n) => if n ≤ cs.length then some (.agg (takeN n cs)) else none
  | some (false, _) => cs.head?
  | none => none
def evLoad (P : Program) (Gl : Nat → Option (List PV)) (H : Nat → Option PObj) (X : XT) (t : TypeId) : PV → Option PV
  | .cptr cs => loadFrom P t cs
  | .ref l o => match H l with | some (.cells cs) => loadFrom P t (cs.drop o) | _ => none
  | .gptr i o => match Gl i with | some cs => loadFrom P t (cs.drop o) | none => none
  | .eref tk k N j o => match X tk with | some (k', _, xss) => if k' = k ∧ xss.length = N then (xss[j]?).bind fun cs => loadFrom P t (cs.drop o) else none | none => none
  | _ => none
def bnd (x : Option PV) (dflt : Nat) : Option Nat :=
  match x with
  | none => some dflt
  | some (.int _ n) => if 0 ≤ n then some n.toNat else none
  | _ => none
def evSlice (P : Program) (t : TypeId) (lo hi mx : Option PV) : PV → Option PV
  | .lst o k b xss => match elemK P t, bnd lo 0, bnd hi xss.length, bnd mx xss.length with
    | some (_, _, k', _), some l, some h, some m =>
      if k' = k ∧ l ≤ h ∧ h ≤ m ∧ m ≤ xss.length ∧ (mx = none ∨ hi ≠ none) then some (.lst (if (mx ≠ none ∧ m = h) ∨ (o = .full ∧ hi = none) then .full else .frozen) k b ((xss.take h).drop l)) else none
    | _, _, _, _ => none
  | .nil => match elemK P t, bnd lo 0, bnd hi 0, bnd mx 0 with
    | some _, some 0, some 0, some 0 => if mx = none ∨ hi ≠ none then some .nil else none
    | _, _, _, _ => none
  | .sl l o len k b => match elemK P t, bnd lo 0, bnd hi len with
    | some (_, _, k', _), some a, some h => if k' = k ∧ a ≤ h ∧ h ≤ len ∧ mx = none then some (.sl l (o + a) (h - a) k b) else none
    | _, _, _ => none
  | .ex tk k b N o len => match elemK P t, bnd lo 0, bnd hi len with
    | some (_, _, k', _), some a, some h => if k' = k ∧ a ≤ h ∧ h ≤ len ∧ mx = none then some (.ex tk k b N (o + a) (h - a)) else none
    | _, _, _ => none
  | .str s => match bnd lo 0, bnd hi s.size with
    | some l, some h => if strT P t = true ∧ l ≤ h ∧ h ≤ s.size ∧ mx = none then some (.str (s.extract l h)) else none
    | _, _ => none
  | _ => none
def evLen (P : Program) (H : Nat → Option PObj) (t : TypeId) : PV → Option PV
  | .lst _ _ _ xss => if sliceT P t then some (.int .i64 xss.length) else none
  | .sl _ _ n _ _ => if sliceT P t then some (.int .i64 n) else none
  | .ex _ _ _ _ _ n => if sliceT P t then some (.int .i64 n) else none
  | .nil => if sliceT P t then some (.int .i64 0) else none
  | .str s => if strT P t then some (.int .i64 s.size) else none
  | .mp l => match H l with | some (.map es) => if mapT P t then some (.int .i64 es.length) else none | _ => none
  | _ => none
/-- Are two keys equal? -/
def pkeyEq : PV → PV → Option Bool
  | .int k a, .int k' b => if k = k' then some (decide (a = b)) else none
  | .str a, .str b => some (decide (a = b))
  | .bool a, .bool b => some (decide (a = b))
  | .agg [.int .i64 a, .int .i64 b], .agg [.int .i64 c, .int .i64 d] => some (decide (a = c) && decide (b = d))
  | _, _ => none
def pfind (k : PV) : List (PV × PV) → Option (Option PV)
  | [] => some none
  | e :: es => match pkeyEq k e.1 with
    | some true => some (some e.2)
    | some false => pfind k es
    | none => none
def pset (k v : PV) : List (PV × PV) → Option (List (PV × PV))
  | [] => some [(k, v)]
  | e :: es => match pkeyEq k e.1 with
    | some true => some ((k, v) :: es)
    | some false => (pset k v es).map (e :: ·)
    | none => none
def int64T (P : Program) (t : TypeId) : Bool := match P.underlying t with | some (.int .i64) => true | _ => false
/-- A struct of two numbers. -/
def pairT (P : Program) (t : TypeId) : Bool :=
  match P.underlying t with
  | some (.struct fs) => (match fs.toList with
    | [f1, f2] => int64T P f1.type && int64T P f2.type && decide (f1.offset = 0) && decide (f2.offset = 1)
    | _ => false) && (match eqKd P 10000 t with | some [.i .i64, .i .i64] => true | _ => false)
  | _ => false
def keyTOK (P : Program) (t : TypeId) : TypeDesc → Bool
  | .struct _ => pairT P t
  | _ => true
/-- A map's kind of keys, and the zero value of its elements. -/
def mapKD (P : Program) (t : TypeId) : Option (TypeDesc × PV) :=
  match P.underlying t with
  | some (.map k e) => match P.underlying k, zeroK P e with
    | some d, some z => if flatV z = true ∧ keyTOK P k d = true then some (d, z) else none
    | _, _ => none
  | _ => none
def keyD : TypeDesc → PV → Bool
  | .int k, .int k' _ => decide (k' = k)
  | .string, .str _ => true
  | .bool, .bool _ => true
  | .struct _, .agg [.int .i64 _, .int .i64 _] => true
  | _, _ => false
def evLookup (P : Program) (t : TypeId) (es : List (PV × PV)) (k : PV) (ok : Bool) : Option PV :=
  match mapKD P t with
  | some (d, z) => if keyD d k = true then (pfind k es).map fun r => if ok = true then .tup [r.getD z, .bool r.isSome] else r.getD z else none
  | none => none
def capOK : PV → Bool
  | .ref _ _ | .cptr _ | .gptr _ _ => true
  | _ => false
def evMinMax (max : Bool) : PV → PV → Option PV
  | .int k a, .int k' b => if k = k' then some (.int k (if max then Max.max a b else Min.min a b)) else none
  | _, _ => none

section
variable {P : Program} {Gl : Nat → Option (List PV)} {S0 : Bs} {w0 : World} {s : PSt} {a : Act} {g : GG} {w : World}
theorem run_evUn {op : UnOp} {p r : PV} {v : Value} (h : evUn op p = some r) (hv : Rel g p v) : ∃ z, (Op.unary op v).run P w = .ok z w ∧ Rel g r z := by
  cases p <;> simp only [evUn] at h <;> try cases h
  case bool b =>
    rw [relBool] at hv; subst hv
    cases op <;> simp only at h <;> cases h
    exact ⟨_, by simp [Op.unary], relBool.2 rfl⟩
  case int k n =>
    rw [relInt] at hv; subst hv
    cases op <;> simp only at h <;> cases h
    exact ⟨_, by simp [Op.unary, Op.intArith]; rfl, relInt.2 (by simp)⟩
theorem intT_spec {t : TypeId} {k : IntKind} (h : intT P t = some k) : P.underlying t = some (.int k) := by
  unfold intT at h
  split at h
  · rename_i k' hk; cases h; exact hk
  · cases h
theorem strT_spec {t : TypeId} (h : strT P t = true) : P.underlying t = some .string := by
  unfold strT at h
  split at h
  · assumption
  · cases h
theorem sliceT_spec {t : TypeId} (h : sliceT P t = true) : ∃ e, P.underlying t = some (.slice e) := by
  unfold sliceT at h
  split at h
  · rename_i e he; exact ⟨e, he⟩
  · cases h
theorem run_evConv {src dst : TypeId} {p r : PV} {v : Value} (h : evConv P src dst p = some r) (hv : Rel g p v) : ∃ z, (convert src dst v).run P w = .ok z w ∧ Rel g r z := by
  cases p <;> simp only [evConv] at h <;> try cases h
  case int k n =>
    rw [relInt] at hv; subst hv
    split at h
    · rename_i k1 k2 h1 h2
      cases h
      exact ⟨_, by simp [convert, run_underlying (intT_spec h1), run_underlying (intT_spec h2), Conv.intToInt], relInt.2 rfl⟩
    · cases h
  case str s =>
    rw [relStr] at hv; subst hv
    by_cases hs : (strT P src && strT P dst) = true
    · rw [if_pos hs] at h; cases h
      simp only [Bool.and_eq_true] at hs
      exact ⟨_, by simp [convert, run_underlying (strT_spec hs.1), run_underlying (strT_spec hs.2)], relStr.2 rfl⟩
    · rw [if_neg hs] at h; cases h

theorem RelC.rel {p : PV} {v : Value} (h : RelC g p v) : Rel g p v := .of1 h.1
theorem aggTake {cs : List PV} {arr : Array Value} (h : All2 (RelC g) cs arr.toList) (off n : Nat) : Rel g (.agg ((cs.drop off).take n)) (.agg (arr.extract off (off + n))) := by
  simp only [Rel, RelA]
  refine ⟨_, rfl, ?_⟩
  have := (h.drop off).take n
  rwa [show (arr.extract off (off + n)).toList = (arr.toList.drop off).take n by simp [Array.toList_extract]]
theorem run_evField {t : TypeId} {f : Nat} {p r : PV} {v : Value} (h : evField P t f p = some r) (hv : Rel g p v) : ∃ z, (Instr.field t v f).run P w = .ok z w ∧ Rel g r z := by
  cases p <;> simp only [evField] at h <;> try cases h
  case agg cs =>
    simp only [Rel, RelA] at hv
    obtain ⟨arr, rfl, harr⟩ := hv
    split at h
    · rename_i off n hk
      obtain ⟨fs, fl, i, d, h1, h2, h3, h4, h5, h6, h7⟩ := fieldK_spec hk
      split at h
      · cases h
        refine ⟨.agg (arr.extract off (off + n)), ?_, aggTake harr off n⟩
        simp only [Instr.field, Sem.run_bind, run_underlying h1, Result.andThen_ok, h2, asAgg, part, run_isAgg h5, run_sizeOf h4, ← h6, if_true, h3, Sem.run_pure, h7]
      · cases h
    · rename_i off n hk
      obtain ⟨fs, fl, i, d, h1, h2, h3, h4, h5, h6, h7⟩ := fieldK_spec hk
      obtain ⟨v, hv, hrel⟩ := harr.right h
      refine ⟨v, ?_, hrel.rel⟩
      simp only [Instr.field, Sem.run_bind, run_underlying h1, Result.andThen_ok, h2, asAgg, part, run_isAgg h5, ← h6, Bool.false_eq_true, if_false, h3, Sem.run_pure]
      rw [show arr[off]? = some v by simpa using hv]
      rfl
    · cases h
theorem RelCells.drop {S : Cells} {cs : List PV} {B o : Nat} (h : RelCells S w cs B o) (n : Nat) : RelCells S w (cs.drop n) B (o + n) := by
  rw [relCells_iff] at h ⊢
  intro i c hc
  rw [List.getElem?_drop] at hc
  have := h _ c hc
  rwa [show o + (n + i) = o + n + i by omega] at this
theorem relCptr {cs : List PV} {v : Value} : Rel g (.cptr cs) v ↔ ∃ B off, v = .pointer (some ⟨B, off, none⟩) ∧ RelCells g.S g.w cs B off := by simp [Rel, RelA, Rel1, RelD]
theorem relRef {l o : Nat} {v : Value} : Rel g (.ref l o) v ↔ v = .pointer (some ⟨g.φ l, o, none⟩) ∧ (g.H l).isSome = true := by simp [Rel, RelA, Rel1]
theorem relGptr {i o : Nat} {v : Value} : Rel g (.gptr i o) v ↔ v = .pointer (some ⟨i, o, none⟩) := by simp [Rel, RelA, Rel1, RelD]
theorem run_fieldAt {t : TypeId} {f off n : Nat} {x : Bool} (hk : fieldK P t f = some (off, x, n)) (hn : n ≠ 0) (B o : Nat) : (Instr.fieldAt t (.pointer (some ⟨B, o, none⟩)) f).run P w = .ok (.pointer (some ⟨B, o + off, none⟩)) w := by
  obtain ⟨fs, fl, i, d, h1, h2, h3, h4, h5, h6, h7⟩ := fieldK_spec hk
  have hi : ¬ i.size = 0 := by omega
  simp [Instr.fieldAt, Sem.run_bind, run_underlying h1, h2, Instr.sureAddr, fieldPlace, run_sizeOf h4, hi, h3, Addr.add_lit]
theorem run_evFieldAddr {t : TypeId} {f : Nat} {p r : PV} {v : Value} (h : evFieldAddr P t f p = some r) (hv : Rel g p v) (hw : g.w = w) : ∃ z, (Instr.fieldAt t v f).run P w = .ok z w ∧ Rel g r z := by
  subst hw
  cases p <;> simp only [evFieldAddr] at h <;> try cases h
  case ref l o =>
    split at h
    · rename_i off x n hk
      by_cases hn : n = 0
      · rw [if_pos hn] at h; cases h
      · rw [if_neg hn] at h; cases h
        rw [relRef] at hv
        obtain ⟨rfl, hl⟩ := hv
        exact ⟨_, run_fieldAt hk hn _ _, relRef.2 ⟨rfl, hl⟩⟩
    · cases h
  case cptr cs =>
    split at h
    · rename_i off x n hk
      by_cases hn : n = 0
      · rw [if_pos hn] at h; cases h
      · rw [if_neg hn] at h; cases h
        rw [relCptr] at hv
        obtain ⟨B, o, rfl, hc⟩ := hv
        exact ⟨_, run_fieldAt hk hn _ _, relCptr.2 ⟨B, o + off, rfl, hc.drop off⟩⟩
    · cases h
  case eref tk k N j o =>
    split at h
    · rename_i off x n hk
      by_cases hn : n = 0
      · rw [if_pos hn] at h; cases h
      · rw [if_neg hn] at h; cases h
        simp only [Rel, RelA, Rel1] at hv
        obtain ⟨⟨B, q, rfl⟩, N', h1, h2, h3⟩ := hv
        refine ⟨_, run_fieldAt hk hn _ _, ⟨⟨B, _, rfl⟩, N', h1, h2, fun e => ?_⟩⟩
        obtain ⟨B', cap, e1, e2⟩ := h3 e
        cases e2
        exact ⟨B, cap, e1, by rw [Nat.add_assoc]⟩
    · cases h
  case gptr i o =>
    split at h
    · rename_i off x n hk
      by_cases hn : n = 0
      · rw [if_pos hn] at h; cases h
      · rw [if_neg hn] at h; cases h
        rw [relGptr] at hv
        subst hv
        exact ⟨_, run_fieldAt hk hn _ _, relGptr.2 rfl⟩
    · cases h

theorem run_indexAt_sl {t : TypeId} {e : TypeId} {x : Bool} {k b : Nat} (hk : elemK P t = some (e, x, k, b)) (B o len cap : Nat) (k' : IntKind) (n : Int) (h0 : 0 ≤ n) (h1 : n < len) :
    (Instr.indexAt t (.slice (some ⟨B, o, none⟩) len cap) (.int k' n)).run P w = .ok (.pointer (some ⟨B, o + n.toNat * k, none⟩)) w := by
  obtain ⟨i, d, h2, h3, h4, h5, h6, h7⟩ := elemK_spec hk
  have he : P.elem t = e := by simp [Program.elem, h2]
  rw [run_indexAt_slice w t _ _ _ _ _ (by rw [he]; exact h2), if_pos ⟨h0, h1⟩, he, run_sizeOf h3]
  simp only [Result.andThen_ok, Addr.add_lit, h6]
theorem run_indexAt_arr {t : TypeId} {m k : Nat} {x : Bool} (hk : arrK P t = some (m, x, k)) (B o : Nat) (k' : IntKind) (n : Int) (h0 : 0 ≤ n) (h1 : n < m) :
    (Instr.indexAt t (.pointer (some ⟨B, o, none⟩)) (.int k' n)).run P w = .ok (.pointer (some ⟨B, o + n.toNat * k, none⟩)) w := by
  obtain ⟨e, i, d, h2, h3, h4, h5, h6⟩ := arrK_spec hk
  have he : P.elem t = e := by simp [Program.elem, h2]
  have hl : P.arrayLen t = m := by simp [Program.arrayLen, h2]
  rw [run_indexAt_array w t _ _ _ (by rw [he, hl]; exact h2), hl, if_pos ⟨h0, h1⟩, he, run_sizeOf h3]
  simp only [Result.andThen_ok, Addr.add_lit, h6]
theorem relLst {o : Own} {k b : Nat} {xss : List (List PV)} {v : Value} (h : Rel g (.lst o k b xss) v) : RelD g.S g.w (.lst .frozen k b xss) v := by
  cases o with
  | own t => exact h.1
  | frozen => exact h
  | full => exact RelD.unfull h
theorem run_evIndexAddr {t : TypeId} {p q r : PV} {v u : Value} (h : evIndexAddr P t p q = some r) (hv : Rel g p v) (hu : Rel g q u) (hw : g.w = w) : ∃ z, (Instr.indexAt t v u).run P w = .ok z w ∧ Rel g r z := by
  subst hw
  cases p <;> cases q <;> simp only [evIndexAddr] at h <;> try cases h
  case lst.int o k b xss k' n =>
    rw [relInt] at hu; subst hu
    split at h
    · rename_i e x k1 b1 hk
      by_cases hc : k1 = k ∧ 0 ≤ n
      · rw [if_pos hc] at h
        obtain ⟨rfl, h0⟩ := hc
        obtain ⟨cs, hcs, rfl⟩ := Option.map_eq_some_iff.1 h
        have hlt : n.toNat < xss.length := (List.getElem?_eq_some_iff.1 hcs).1
        have hd := relLst hv
        simp only [RelD] at hd
        obtain ⟨_, _, _, ⟨_, rfl⟩ | ⟨B, off, cap, rfl, _, _, he⟩⟩ := hd
        · simp at hlt
        · exact ⟨_, run_indexAt_sl hk _ _ _ _ _ _ h0 (by omega), relCptr.2 ⟨B, _, rfl, ((relEls_iff k1 xss B off).1 he _ cs hcs).2⟩⟩
      · rw [if_neg hc] at h; cases h
    · cases h
  case sl.int l o len k b k' n =>
    rw [relInt] at hu; subst hu
    split at h
    · rename_i e x k1 b1 hk
      by_cases hc : k1 = k ∧ 0 ≤ n ∧ n < len
      · rw [if_pos hc] at h; cases h
        obtain ⟨rfl, h0, h1⟩ := hc
        simp only [Rel, RelA, Rel1] at hv
        obtain ⟨⟨off, cap, rfl, hcap, hoff⟩, cs, hcs, _⟩ := hv
        have : off = o * k1 := hoff.resolve_right (by omega)
        subst this
        exact ⟨_, run_indexAt_sl hk _ _ _ _ _ _ h0 h1, relRef.2 ⟨rfl, by rw [hcs]; rfl⟩⟩
      · rw [if_neg hc] at h; cases h
    · cases h
  case ex.int tk k b N o m k' n =>
    rw [relInt] at hu; subst hu
    split at h
    · rename_i e x k1 b1 hk
      by_cases hc : k1 = k ∧ 0 ≤ n ∧ n < m
      · rw [if_pos hc] at h; cases h
        obtain ⟨rfl, h0, h1⟩ := hc
        simp only [Rel, RelA, Rel1] at hv
        obtain ⟨⟨x, cap, rfl, hcap, hx⟩, N', q1, q2, q3⟩ := hv
        obtain ⟨B, off, rfl⟩ := hx (by omega)
        refine ⟨_, run_indexAt_sl hk _ _ _ _ _ _ h0 h1, ⟨⟨B, _, rfl⟩, N', q1, q2, fun e => ?_⟩⟩
        rcases q3 e with ⟨_, _, _, e4⟩ | ⟨B', cap', off', e1, e2, e3, e4, e5, e6⟩
        · omega
        · simp only [Value.slice.injEq, Option.some.injEq, Addr.mk.injEq, and_true] at e5
          obtain ⟨⟨rfl, rfl⟩, _, rfl⟩ := e5
          rcases e6 with rfl | e6
          · exact ⟨B, cap', e1, by rw [Nat.add_zero, Nat.add_mul]⟩
          · omega
      · rw [if_neg hc] at h; cases h
    · cases h
  case ref.int l o k' n =>
    rw [relInt] at hu; subst hu
    split at h
    · rename_i m x k1 hk
      by_cases hc : 0 ≤ n ∧ n < m
      · rw [if_pos hc] at h; cases h
        rw [relRef] at hv
        obtain ⟨rfl, hl⟩ := hv
        exact ⟨_, run_indexAt_arr hk _ _ _ _ hc.1 hc.2, relRef.2 ⟨rfl, hl⟩⟩
      · rw [if_neg hc] at h; cases h
    · cases h
  case cptr.int cs k' n =>
    rw [relInt] at hu; subst hu
    split at h
    · rename_i m x k1 hk
      by_cases hc : 0 ≤ n ∧ n < m
      · rw [if_pos hc] at h; cases h
        rw [relCptr] at hv
        obtain ⟨B, o, rfl, hcs⟩ := hv
        exact ⟨_, run_indexAt_arr hk _ _ _ _ hc.1 hc.2, relCptr.2 ⟨B, _, rfl, hcs.drop _⟩⟩
      · rw [if_neg hc] at h; cases h
    · cases h
  case gptr.int i o k' n =>
    rw [relInt] at hu; subst hu
    split at h
    · rename_i m x k1 hk
      by_cases hc : 0 ≤ n ∧ n < m
      · rw [if_pos hc] at h; cases h
        rw [relGptr] at hv
        subst hv
        exact ⟨_, run_indexAt_arr hk _ _ _ _ hc.1 hc.2, relGptr.2 rfl⟩
      · rw [if_neg hc] at h; cases h
    · cases h

theorem run_evIndex {t : TypeId} {p q r : PV} {v u : Value} (h : evIndex P t p q = some r) (hv : Rel g p v) (hu : Rel g q u) : ∃ z, (Instr.index t v u).run P w = .ok z w ∧ Rel g r z := by
  cases p <;> cases q <;> simp only [evIndex] at h <;> try cases h
  case agg.int cs k' n =>
    rw [relInt] at hu; subst hu
    simp only [Rel, RelA] at hv
    obtain ⟨arr, rfl, harr⟩ := hv
    split at h
    · rename_i m k hk
      obtain ⟨e, i, d, h2, h3, h4, h5, h6⟩ := arrK_spec hk
      by_cases hc : 0 ≤ n ∧ n < m ∧ n.toNat * k + k ≤ cs.length
      · rw [if_pos hc] at h; cases h
        refine ⟨_, ?_, aggTake harr (n.toNat * k) k⟩
        have hc' : 0 ≤ n ∧ n < (m : Int) := ⟨hc.1, hc.2.1⟩
        simp only [Instr.index, asIntOf, Sem.run_bind, Sem.run_pure, Result.andThen_ok, run_underlying h2, if_pos hc', run_sizeOf h3, part, run_isAgg h4, ← h5, if_true, h6]
      · rw [if_neg hc] at h; cases h
    · rename_i m k hk
      obtain ⟨e, i, d, h2, h3, h4, h5, h6⟩ := arrK_spec hk
      by_cases hc : 0 ≤ n ∧ n < m
      · rw [if_pos hc] at h
        obtain ⟨z, hz, hrel⟩ := harr.right h
        refine ⟨z, ?_, hrel.rel⟩
        simp only [Instr.index, asIntOf, Sem.run_bind, Sem.run_pure, Result.andThen_ok, run_underlying h2, if_pos hc, run_sizeOf h3, part, run_isAgg h4, ← h5, Bool.false_eq_true, if_false, ← h6]
        rw [show arr[n.toNat * k]? = some z by simpa using hz]
        rfl
      · rw [if_neg hc] at h; cases h
    · cases h
  case str.int st k' n =>
    rw [relInt] at hu; subst hu
    rw [relStr] at hv; subst hv
    by_cases hc : (strT P t && decide (0 ≤ n)) = true
    · rw [if_pos hc] at h
      simp only [Bool.and_eq_true, decide_eq_true_eq] at hc
      obtain ⟨b, hb, rfl⟩ := Option.map_eq_some_iff.1 h
      refine ⟨_, ?_, relInt.2 rfl⟩
      simp only [Instr.index, asIntOf, Sem.run_bind, Sem.run_pure, Result.andThen_ok, run_underlying (strT_spec hc.1), if_pos hc.2, hb]
    · rw [if_neg hc] at h; cases h
end
end PM
