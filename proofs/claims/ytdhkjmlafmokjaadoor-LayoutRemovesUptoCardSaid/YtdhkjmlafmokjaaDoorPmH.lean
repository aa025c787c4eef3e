/-
  THE PURE MACHINE, H: composites; ev1: all operations that yield a value and leave memory alone, and their soundness.
-/
import Derived.Test.YtdhkjmlafmokjaaDoorPmG
import Derived.MapKept
import Derived.Laws.Tables
import Derived.Orders
namespace PM
open Go Go.RowKit

theorem foldl_set (off : Nat) : ∀ (vs : List Value) (k : Nat) (cells : Array Value), off + k + vs.length ≤ cells.size →
    ((vs.zipIdx k).foldl (fun cs (x : Value × Nat) => cs.setIfInBounds (off + x.2) x.1) cells).toList = cells.toList.take (off + k) ++ vs ++ cells.toList.drop (off + k + vs.length)
  | [], k, cells, _ => by simp
  | v :: vs, k, cells, h => by
    simp only [List.zipIdx_cons, List.foldl_cons]
    have hk : off + k < cells.size := by simp at h; omega
    rw [foldl_set off vs (k + 1) _ (by simp at h ⊢; omega)]
    have e := list_seg_step cells.toList (off + k) v vs (by simp at h ⊢; omega)
    simpa [Array.toList_setIfInBounds, Nat.add_assoc] using e

section
variable {P : Program} {Gl : Nat → Option (List PV)} {S0 : Bs} {w0 : World} {s : PSt} {a : Act} {g : GG} {w : World}
/-- A value's cells, where each is known to be one. -/
theorem Rel.cells {p : PV} {v : Value} (h : Rel g p v) (hone : p.cells.all PV.one = true) : All2 (RelC g) p.cells v.cells.toList := by
  cases p
  case agg cs =>
    simp only [Rel, RelA] at h
    obtain ⟨arr, rfl, h2⟩ := h
    exact h2
  case any => simp [PV.cells, PV.one] at hone
  case tup vs => simp [PV.cells, PV.one] at hone
  all_goals
    (simp only [Rel, RelA] at h
     obtain ⟨e1, e2⟩ := h.oneCell rfl
     rw [e2]
     exact .cons ⟨h, e1⟩ .nil)
theorem fill_spec {pl : List (Nat × Nat)} {place : Nat → Option (Nat × Nat)} (hpl : ∀ i, place i = pl[i]?) : ∀ (parts : List (Nat × PV)) (vparts : List (Nat × Value)) (cs cs' : List PV) (cells : Array Value),
    All2 (fun (x : Nat × PV) (y : Nat × Value) => x.1 = y.1 ∧ Rel g x.2 y.2) parts vparts → All2 (RelC g) cs cells.toList → pfill pl parts cs = some cs' →
    ∃ cells', Instr.fill place cells vparts = some cells' ∧ All2 (RelC g) cs' cells'.toList
  | [], vparts, cs, cs', cells, hp, hc, h => by
    rw [hp.nil_left]
    simp only [pfill] at h; cases h
    exact ⟨cells, rfl, hc⟩
  | (i, p) :: parts, vparts, cs, cs', cells, hp, hc, h => by
    obtain ⟨⟨j, v⟩, vparts', rfl, ⟨e1, e2⟩, hp'⟩ := hp.cons_left
    simp only at e1 e2
    subst e1
    simp only [pfill] at h
    split at h
    · rename_i off n hin
      split at h
      · rename_i hcond
        obtain ⟨c1, c2, c3⟩ := hcond
        have hone : p.cells.all PV.one = true := c3
        have hcells := e2.cells hone
        have hvn : v.cells.size = n := by rw [← c1, hcells.1]; simp
        have hsz : cells.size = cs.length := by rw [hc.1]; simp
        have hset := foldl_set off v.cells.toList 0 cells (by simp [hvn]; omega)
        simp only [Nat.add_zero] at hset
        obtain ⟨cells', f1, f2⟩ := fill_spec hpl parts vparts' _ cs' (v.cells.zipIdx.foldl (fun cs (x : Value × Nat) => cs.setIfInBounds (off + x.2) x.1) cells) hp' (by
          have : (v.cells.zipIdx.foldl (fun cs (x : Value × Nat) => cs.setIfInBounds (off + x.2) x.1) cells).toList = cells.toList.take off ++ v.cells.toList ++ cells.toList.drop (off + n) := by
            rw [← Array.foldl_toList, Array.toList_zipIdx, hset]
            simp [hvn]
          rw [this]
          exact ((hc.take off).append hcells).append (hc.drop (off + n))) h
        refine ⟨cells', ?_, f2⟩
        unfold Instr.fill
        rw [hpl, hin]
        simp only
        rw [if_neg (by simp [hvn]; omega)]
        exact f1
      · cases h
    · cases h
theorem placesF_spec : ∀ {fs : List Field} {pl : List (Nat × Nat)}, placesF P fs = some pl → fs.mapM (fun f => (P.info? f.type).map fun i => (f.offset, i.size)) = some pl
  | [], pl, h => by simp [placesF] at h; simp [h]
  | f :: fs, pl, h => by
    simp only [placesF] at h
    split at h
    · rename_i i r h1 h2
      cases h
      simp [h1, placesF_spec h2]
    · cases h
theorem ofConst_agg {v : Value} {z : List PV} (h : ofConst v = .agg z) : ∃ arr, v = .agg arr ∧ z = arr.toList.map ofConst1 := by
  cases v
  case agg arr => simp only [ofConst] at h; cases h; exact ⟨arr, rfl, rfl⟩
  all_goals
    (simp only [ofConst] at h
     unfold ofConst1 at h
     split at h <;> cases h)
theorem rel_zero {arr : Array Value} (h1 : ∀ v ∈ arr, v.oneCell' = true) : All2 (RelC g) (arr.toList.map ofConst1) arr.toList :=
  ⟨by simp, fun i x y hx hy => by
    rw [List.getElem?_map, hy] at hx
    cases hx
    exact ofConst1_one y (h1 y (by have := List.mem_of_getElem? hy; simpa using this)) g⟩
theorem run_evBuild {t : TypeId} {parts : List (Nat × PV)} {vparts : Array (Nat × Value)} {r : PV} (he : evBuild P t parts = some r)
    (hp : All2 (fun (x : Nat × PV) (y : Nat × Value) => x.1 = y.1 ∧ Rel g x.2 y.2) parts vparts.toList) : ∃ z, (Instr.build t vparts).run P w = .ok z w ∧ Rel g r z := by
  unfold evBuild at he
  split at he
  · rename_i z pl h1 h2
    obtain ⟨cs', h3, rfl⟩ := Option.map_eq_some_iff.1 he
    obtain ⟨i, zv, hi, hzv, hz2, hone⟩ := zeroK_spec h1
    obtain ⟨arr, rfl, rfl⟩ := ofConst_agg hz2
    unfold placesK at h2
    split at h2
    · rename_i fs hu
      have hpl := placesF_spec h2
      obtain ⟨cells', f1, f2⟩ := fill_spec (g := g) (pl := pl) (place := (pl.toArray[·]?)) (by simp) _ vparts.toList _ cs' arr hp (rel_zero fun v hv => hone v (by simpa [Value.cells] using hv)) h3
      refine ⟨.agg cells', run_build w t vparts cells' ?_, by simp only [Rel, RelA]; exact ⟨cells', rfl, f2⟩⟩
      unfold Program.built
      simp only [hi, hu, hzv, hpl, Value.cells]
      exact f1
    · cases h2
  · rename_i z x h1 h2 h3
    cases he
    obtain ⟨i, zv, hi, hzv, hz2, hone⟩ := zeroK_spec h1
    obtain ⟨arr, rfl, rfl⟩ := ofConst_agg hz2
    obtain ⟨n, row, k⟩ := x
    obtain ⟨e, ie, d, a1, a2, a3, a4, a5⟩ := arrK_spec h3
    have hv : vparts.toList = [] := hp.nil_left
    refine ⟨.agg arr, run_build w t vparts arr ?_, by simp only [Rel, RelA]; exact ⟨arr, rfl, rel_zero fun v hv => hone v (by simpa [Value.cells] using hv)⟩⟩
    unfold Program.built
    simp only [hi, a1, hzv, a2, Value.cells, hv, Instr.fill]
  · cases he
end

/-- All operations that yield a value and leave memory alone. -/
def ev1 (P : Program) (Gl : Nat → Option (List PV)) (op : Op) (ρ : Operand → PV) (H : Nat → Option PObj) (X : XT) : Option PV :=
  match op with
  | .move x => some (ρ x)
  | .assign x => some (ρ x)
  | .pick c x y => match ρ c with | .bool c => some (if c = true then ρ x else ρ y) | _ => none
  | .nilCheck x => match ρ x with | .ref l o => some (.ref l o) | .cptr cs => some (.cptr cs) | .gptr i o => some (.gptr i o) | .fn f caps => some (.fn f caps) | _ => none
  | .binOp op t x y _ => evBin P op t (ρ x) (ρ y)
  | .unOp op _ x => evUn op (ρ x)
  | .convert src dst x => evConv P src dst (ρ x)
  | .fieldAddr t x f => evFieldAddr P t f (ρ x)
  | .field t x f => evField P t f (ρ x)
  | .indexAddr t x i => evIndexAddr P t (ρ x) (ρ i)
  | .index t x i => evIndex P t (ρ x) (ρ i)
  | .load t x => evLoad P Gl H X t (ρ x)
  | .extract x i => match ρ x with | .tup vs => vs[i]? | _ => none
  | .slice t x lo hi mx => evSlice P t (lo.map ρ) (hi.map ρ) (mx.map ρ) (ρ x)
  | .build t parts => evBuild P t (parts.toList.map fun x => (x.1, ρ x.2))
  | .lookup t x k ok => match ρ x with
    | .mp l => match H l with
      | some (.map es) => evLookup P t es (ρ k) ok
      | _ => none
    | .fmp ks vs => evLookup P t (ks.zip vs) (ρ k) ok
    | _ => none
  | .makeFunc (.func f) first caps => if first.toList = [] ∧ ((caps.toList.map ρ).all capOK) = true then some (.fn f (caps.toList.map ρ)) else none
  | .call c => match c.callee, c.args.toList, c.argTypes.toList with
    | .builtin .len, [x], [t] => evLen P H t (ρ x)
    | .builtin .min, [x, y], _ => evMinMax false (ρ x) (ρ y)
    | .builtin .max, [x, y], _ => evMinMax true (ρ x) (ρ y)
    | _, _, _ => none
  | _ => none

section
variable {P : Program} {Gl : Nat → Option (List PV)} {S0 : Bs} {w0 : World} {s : PSt} {a : Act} {g : GG} {w : World}
theorem toList_one {α : Type} {xs : Array α} {x : α} (h : xs.toList = [x]) : xs = #[x] := Array.toList_inj.1 (by simpa using h)
theorem toList_two {α : Type} {xs : Array α} {x y : α} (h : xs.toList = [x, y]) : xs = #[x, y] := Array.toList_inj.1 (by simpa using h)
theorem toList_nil {α : Type} {xs : Array α} (h : xs.toList = []) : xs = #[] := Array.toList_inj.1 (by simpa using h)
theorem relO_map (h : InvG Gl S0 w0 s a g) (x : Option Operand) : RelO g (x.map s.ev) (x.map a.eval) := by
  cases x with
  | none => trivial
  | some x => exact h.ev x
theorem run_min {p q r : PV} {ts : Array TypeId} {ty : TypeId} {u v : Value} (h : evMinMax false p q = some r) (hu : Rel g p u) (hv : Rel g q v) :
    ∃ z, (Builtin.min_ ts ty #[u, v]).run P w = .ok z w ∧ Rel g r z := by
  cases p <;> cases q <;> simp only [evMinMax] at h <;> try cases h
  rename_i k x k' y
  rw [relInt] at hu hv
  subst hu; subst hv
  by_cases hk : k = k'
  · rw [if_pos hk] at h; cases h
    refine ⟨_, by simp [Builtin.min_, Builtin.min2]; rfl, relInt.2 ?_⟩
    simp only [Bool.false_eq_true, if_false]
    congr 1
    show (if y < x then y else x) = min x y
    split <;> omega
  · rw [if_neg hk] at h; cases h
theorem run_max {p q r : PV} {ts : Array TypeId} {ty : TypeId} {u v : Value} (h : evMinMax true p q = some r) (hu : Rel g p u) (hv : Rel g q v) :
    ∃ z, (Builtin.max_ ts ty #[u, v]).run P w = .ok z w ∧ Rel g r z := by
  cases p <;> cases q <;> simp only [evMinMax] at h <;> try cases h
  rename_i k x k' y
  rw [relInt] at hu hv
  subst hu; subst hv
  by_cases hk : k = k'
  · rw [if_pos hk] at h; cases h
    refine ⟨_, by simp [Builtin.max_, Builtin.max2]; rfl, relInt.2 ?_⟩
    simp only [if_true]
    congr 1
    show (if y > x then y else x) = max x y
    split <;> omega
  · rw [if_neg hk] at h; cases h
theorem Rel.ofFlat {p : PV} {v : Value} (h : RelD g.S g.w p v) (hf : flatV p = true) : RelA g p v := by
  cases p
  case agg cs =>
    simp only [RelD] at h
    obtain ⟨arr, h1, h2⟩ := h
    simp only [RelA]
    refine ⟨arr, h1, ((relDs_iff _ _).1 h2).1, fun i x y hx hy => ?_⟩
    have h3 := ((relDs_iff _ _).1 h2).2 i x y hx hy
    have h4 := List.all_eq_true.1 hf x (List.mem_of_getElem? hx)
    exact ⟨.of_data h3 h4, (h3.oneCell h4).1⟩
  case tup vs => simp [flatV] at hf
  case any => simp [flatV] at hf
  all_goals exact Rel1.relA' (.of_data h rfl)
theorem rel_zeroK {t : TypeId} {z : PV} (h : zeroK P t = some z) : ∃ i zv, P.info? t = some i ∧ i.zero = some zv ∧ Rel g z zv := by
  obtain ⟨i, zv, hi, h1, h2, hone⟩ := zeroK_spec h
  refine ⟨i, zv, hi, h1, ?_⟩
  rw [← h2]
  cases zv
  case agg arr =>
    simp only [ofConst, Rel, RelA]
    exact ⟨arr, rfl, rel_zero fun v hv => hone v (by simpa [Value.cells] using hv)⟩
  all_goals
    (have := rel_ofConst1 g
     simp only [ofConst]
     exact this _)
theorem mapKD_spec {t : TypeId} {d : TypeDesc} {z : PV} (h : mapKD P t = some (d, z)) : ∃ k e, P.underlying t = some (.map k e) ∧ P.underlying k = some d ∧ zeroK P e = some z ∧ flatV z = true ∧ keyTOK P k d = true := by
  unfold mapKD at h
  split at h
  · rename_i k e hm
    split at h
    · rename_i d' z' hd hz
      split at h
      · rename_i hf; cases h; exact ⟨k, e, hm, hd, hz, hf.1, hf.2⟩
      · cases h
    · cases h
  · cases h
theorem keyD_is {S : Cells} {d : TypeDesc} {k : PV} {v : Value} (hs : ∀ fs, d ≠ .struct fs) (h : keyD d k = true) (hr : RelD S w k v) : MapKept.IsKey d v := by
  cases d <;> cases k <;> simp [keyD] at h <;> first | exact absurd rfl (hs _) | (simp only [RelD] at hr; subst hr; simp [MapKept.IsKey, h])
theorem pkeyEq_now {S : Cells} {d : TypeDesc} {k e : PV} {u v : Value} {b : Bool} (hs : ∀ fs, d ≠ .struct fs) (hd : keyD d k = true) (hk : RelD S w k u) (he : RelD S w e v) (h : pkeyEq k e = some b) : Instr.sameNow d u v = some b ∧ (b = true → v = u) := by
  cases d <;> first | exact absurd rfl (hs _) | skip
  all_goals (cases k <;> simp [keyD] at hd)
  all_goals (cases e <;> simp [pkeyEq] at h)
  all_goals (simp only [RelD] at hk he; subst hk; subst he)
  case int.int.int k3 k1 a k2 c =>
    obtain ⟨h1, h2⟩ := h
    subst h1; subst hd; subst h2
    simp only [Instr.sameNow, if_true, decide_eq_true_eq]
    exact ⟨by rw [beqInt], fun e => by rw [e]⟩
  case bool.bool.bool a c =>
    subst h
    simp only [Instr.sameNow, decide_eq_true_eq]
    exact ⟨by cases a <;> cases c <;> rfl, fun e => by rw [e]⟩
  case string.str.str a c =>
    subst h
    simp only [Instr.sameNow, decide_eq_true_eq]
    refine ⟨?_, fun e => by rw [e]⟩
    congr 1
    by_cases hac : a = c
    · subst hac; simp [MapKept.bytes_beq]
    · rw [decide_eq_false hac]
      cases hb : (a == c) with
      | false => rfl
      | true => exact absurd ((MapKept.bytes_beq a c).1 hb) hac
theorem pfind_spec {S : Cells} {d : TypeDesc} {k : PV} {kv : Value} (hs : ∀ fs, d ≠ .struct fs) (hd : keyD d k = true) (hk : RelD S w k kv) : ∀ {es : List (PV × PV)} {l : List MapEntry} (i : Nat) {r : Option PV}, All2 (RelE S w) es l → pfind k es = some r →
    (r = none ∧ Instr.findNow d kv l i = some none) ∨ ∃ j m p, r = some p ∧ Instr.findNow d kv l i = some (some (i + j, m.val)) ∧ l[j]? = some m ∧ m.key = kv ∧ RelD S w p m.val ∧ flatV p = true
  | [], l, i, r, ha, h => by
    rw [ha.nil_left]
    simp only [pfind] at h; cases h
    exact .inl ⟨rfl, rfl⟩
  | e :: es, l, i, r, ha, h => by
    obtain ⟨m, l', rfl, h1, h2⟩ := ha.cons_left
    simp only [pfind] at h
    split at h
    · rename_i hq
      cases h
      obtain ⟨h3, h4⟩ := pkeyEq_now hs hd hk h1.1 hq
      exact .inr ⟨0, m, e.2, rfl, by simp [Instr.findNow, h3], rfl, h4 rfl, h1.2.1, h1.2.2⟩
    · rename_i hq
      obtain ⟨h3, _⟩ := pkeyEq_now hs hd hk h1.1 hq
      rcases pfind_spec hs hd hk (i + 1) h2 h with ⟨h4, h5⟩ | ⟨j, m', p, h4, h5, h6, h7⟩
      · exact .inl ⟨h4, by simp [Instr.findNow, h3, h5]⟩
      · exact .inr ⟨j + 1, m', p, h4, by simp [Instr.findNow, h3, h5]; omega, by simpa using h6, h7⟩
    · cases h
/-! Keys of two numbers. -/
theorem relPair {S : Cells} {x y : Int} {v : Value} : RelD S w (.agg [.int .i64 x, .int .i64 y]) v ↔ v = .agg #[.int .i64 x, .int .i64 y] := by
  simp only [RelD, RelDs]
  constructor
  · rintro ⟨arr, rfl, v1, vs, e1, rfl, v2, vs2, rfl, rfl, rfl⟩
    congr 1
    exact Array.ext' e1
  · rintro rfl
    exact ⟨_, rfl, _, _, rfl, rfl, _, _, rfl, rfl, rfl⟩
theorem keyD_pair {fs : Array Field} {k : PV} (h : keyD (.struct fs) k = true) : ∃ x y, k = .agg [.int .i64 x, .int .i64 y] := by
  unfold keyD at h
  split at h <;> first | exact ⟨_, _, rfl⟩ | contradiction | cases h
theorem pkeyEq_pair {x y : Int} {q : PV} {b : Bool} (h : pkeyEq (.agg [.int .i64 x, .int .i64 y]) q = some b) : ∃ x' y', q = .agg [.int .i64 x', .int .i64 y'] ∧ b = (decide (x = x') && decide (y = y')) := by
  unfold pkeyEq at h
  split at h <;> first | contradiction | skip
  · rename_i h1
    simp only [PV.agg.injEq, List.cons.injEq, PV.int.injEq, true_and, and_true] at h1
    obtain ⟨rfl, rfl⟩ := h1
    cases h
    exact ⟨_, _, rfl, rfl⟩
theorem rel_pair {x y : Int} {v : Value} (h : Rel g (.agg [.int .i64 x, .int .i64 y]) v) : RelD g.S g.w (.agg [.int .i64 x, .int .i64 y]) v := by
  simp only [Rel, RelA] at h
  obtain ⟨arr, rfl, h2⟩ := h
  obtain ⟨v1, l1, q1, r1, h3⟩ := h2.cons_left
  obtain ⟨v2, l2, q2, r2, h4⟩ := h3.cons_left
  have e1 : v1 = .int .i64 x := by simpa [Rel1, RelD] using r1.1
  have e2 : v2 = .int .i64 y := by simpa [Rel1, RelD] using r2.1
  rw [relPair]
  congr 1
  refine Array.ext' ?_
  rw [q1, q2, h4.nil_left, e1, e2]
theorem pairT_spec {kt : TypeId} {fs : Array Field} (hu : P.underlying kt = some (.struct fs)) (h : pairT P kt = true) : (∃ f1 f2, fs = #[f1, f2] ∧ P.underlying f1.type = some (.int .i64) ∧ P.underlying f2.type = some (.int .i64) ∧ f1.offset = 0 ∧ f2.offset = 1) ∧ eqKd P 10000 kt = some [.i .i64, .i .i64] := by
  unfold pairT at h
  rw [hu] at h
  simp only [Bool.and_eq_true] at h
  obtain ⟨h1, h2⟩ := h
  have i64 : ∀ {t}, int64T P t = true → P.underlying t = some (.int .i64) := fun {t} e => by
    unfold int64T at e
    split at e
    · assumption
    · cases e
  constructor
  · split at h1
    · rename_i f1 f2 hf
      simp only [Bool.and_eq_true, decide_eq_true_eq] at h1
      exact ⟨f1, f2, Array.ext' hf, i64 h1.1.1.1, i64 h1.1.1.2, h1.1.2, h1.2⟩
    · cases h1
  · split at h2
    · assumption
    · cases h2
theorem run_checkKey_pair {kt : TypeId} {fs : Array Field} (hu : P.underlying kt = some (.struct fs)) (h : pairT P kt = true) (e : Bool) (n : Nat) (x y : Int) : (Instr.checkKey e (n + 2) kt (.agg #[.int .i64 x, .int .i64 y])).run P w = .ok () w := by
  obtain ⟨⟨f1, f2, rfl, h1, h2, h3, h4⟩, _⟩ := pairT_spec hu h
  have c1 : ∀ z : Int, (Instr.checkKey e (n + 1) f1.type (.int .i64 z)).run P w = .ok () w := fun z => by simp [Instr.checkKey, run_underlying h1]
  have c2 : ∀ z : Int, (Instr.checkKey e (n + 1) f2.type (.int .i64 z)).run P w = .ok () w := fun z => by simp [Instr.checkKey, run_underlying h2]
  have a1 := run_isAgg h1 w
  have a2 := run_isAgg h2 w
  simp only [isRowD] at a1 a2
  unfold Instr.checkKey
  by_cases n1 : f1.name = "_" <;> by_cases n2 : f2.name = "_" <;> simp [run_underlying hu, part, a1, a2, h3, h4, c1, c2, n1, n2]
theorem run_equal_pair {kt : TypeId} {fs : Array Field} (hu : P.underlying kt = some (.struct fs)) (h : pairT P kt = true) (x y x' y' : Int) : (Op.equal kt (.agg #[.int .i64 x, .int .i64 y]) (.agg #[.int .i64 x', .int .i64 y'])).run P w = .ok (decide (x = x') && decide (y = y')) w := by
  have := run_equalIn_cells (P := P) 10000 kt _ _ [.int .i64 x, .int .i64 y] [.int .i64 x', .int .i64 y'] w (pairT_spec hu h).2 hu rfl rfl
  simp only [wrapV, isRowD, if_true, eqCells, eqCell, beqInt, Bool.and_true] at this
  exact this
theorem key_asks {S : Cells} {kt : TypeId} {fs : Array Field} (hu : P.underlying kt = some (.struct fs)) (hp : pairT P kt = true) {x y : Int} {q : PV} {u : Value} {b : Bool} (hq : pkeyEq (.agg [.int .i64 x, .int .i64 y]) q = some b) (hr : RelD S w q u) :
    (Op.equal kt (.agg #[.int .i64 x, .int .i64 y]) u).run P w = .ok b w ∧ (b = true → u = .agg #[.int .i64 x, .int .i64 y]) := by
  obtain ⟨x', y', e1, rfl⟩ := pkeyEq_pair hq
  rw [e1, relPair] at hr
  rw [hr]
  refine ⟨run_equal_pair hu hp _ _ _ _, fun hb => ?_⟩
  simp only [Bool.and_eq_true, decide_eq_true_eq] at hb
  rw [hb.1, hb.2]
theorem findAsking_spec {S : Cells} {kt : TypeId} {fs : Array Field} (hu : P.underlying kt = some (.struct fs)) (hp : pairT P kt = true) {x y : Int} : ∀ {es : List (PV × PV)} {l : List MapEntry} (i : Nat) {r : Option PV}, All2 (RelE S w) es l → pfind (.agg [.int .i64 x, .int .i64 y]) es = some r →
    (r = none ∧ (Instr.findAsking kt (.agg #[.int .i64 x, .int .i64 y]) l i).run P w = .ok none w) ∨ ∃ j m p, r = some p ∧ (Instr.findAsking kt (.agg #[.int .i64 x, .int .i64 y]) l i).run P w = .ok (some (i + j, m.val)) w ∧ l[j]? = some m ∧ m.key = .agg #[.int .i64 x, .int .i64 y] ∧ RelD S w p m.val ∧ flatV p = true
  | [], l, i, r, ha, h => by
    rw [ha.nil_left]
    simp only [pfind] at h; cases h
    exact .inl ⟨rfl, by simp [Instr.findAsking]⟩
  | e :: es, l, i, r, ha, h => by
    obtain ⟨m, l', rfl, h1, h2⟩ := ha.cons_left
    simp only [pfind] at h
    split at h
    · rename_i hq
      cases h
      obtain ⟨h3, h4⟩ := key_asks hu hp hq h1.1
      exact .inr ⟨0, m, e.2, rfl, by simp [Instr.findAsking, h3], rfl, h4 rfl, h1.2.1, h1.2.2⟩
    · rename_i hq
      obtain ⟨h3, _⟩ := key_asks hu hp hq h1.1
      rcases findAsking_spec hu hp (i + 1) h2 h with ⟨h4, h5⟩ | ⟨j, m', p, h4, h5, h6, h7⟩
      · exact .inl ⟨h4, by simp [Instr.findAsking, h3, h5]⟩
      · exact .inr ⟨j + 1, m', p, h4, by simp [Instr.findAsking, h3, h5]; omega, by simpa using h6, h7⟩
    · cases h
theorem run_findKey_pair {kt : TypeId} {fs : Array Field} (hu : P.underlying kt = some (.struct fs)) (v : Value) (l : List MapEntry) : (Instr.findKey kt v l).run P w = (Instr.findAsking kt v l 0).run P w := by
  cases l with
  | nil => simp [Instr.findKey, run_underlying hu, Instr.findNow, Instr.findAsking]
  | cons m l => simp [Instr.findKey, run_underlying hu, Instr.findNow, Instr.sameNow]
/-- What the search for a key does. -/
theorem pfind_run {S : Cells} {kt : TypeId} {d : TypeDesc} {k : PV} {kv : Value} {es : List (PV × PV)} {l : List MapEntry} {r : Option PV} (hu : P.underlying kt = some d) (ht : keyTOK P kt d = true) (hd : keyD d k = true) (hk : RelD S w k kv) (ha : All2 (RelE S w) es l) (h : pfind k es = some r) :
    (r = none ∧ (Instr.findKey kt kv l).run P w = .ok none w) ∨ ∃ j m p, r = some p ∧ (Instr.findKey kt kv l).run P w = .ok (some (j, m.val)) w ∧ l[j]? = some m ∧ m.key = kv ∧ RelD S w p m.val ∧ flatV p = true := by
  by_cases hs : ∃ fs, d = .struct fs
  · obtain ⟨fs, rfl⟩ := hs
    obtain ⟨x, y, rfl⟩ := keyD_pair hd
    rw [relPair] at hk
    subst hk
    rw [run_findKey_pair hu]
    rcases findAsking_spec hu ht 0 ha h with h1 | ⟨j, m, p, h1, h2, h3⟩
    · exact .inl h1
    · exact .inr ⟨j, m, p, h1, by simpa using h2, h3⟩
  · have hs : ∀ fs, d ≠ .struct fs := fun fs e => hs ⟨fs, e⟩
    rcases pfind_spec hs hd hk 0 ha h with ⟨h1, h2⟩ | ⟨j, m, p, h1, h2, h3⟩
    · exact .inl ⟨h1, MapKept.run_findKey hu h2⟩
    · exact .inr ⟨j, m, p, h1, MapKept.run_findKey hu (by simpa using h2), h3⟩
theorem checkKey_run {S : Cells} {kt : TypeId} {d : TypeDesc} {k : PV} {kv : Value} (hu : P.underlying kt = some d) (ht : keyTOK P kt d = true) (hd : keyD d k = true) (hk : RelD S w k kv) (e : Bool) : (Instr.checkKey e 10000 kt kv).run P w = .ok () w := by
  by_cases hs : ∃ fs, d = .struct fs
  · obtain ⟨fs, rfl⟩ := hs
    obtain ⟨x, y, rfl⟩ := keyD_pair hd
    rw [relPair] at hk
    subst hk
    exact run_checkKey_pair hu ht e 9998 x y
  · exact MapKept.run_checkKey hu (keyD_is (fun fs e => hs ⟨fs, e⟩) hd hk) e 9999
theorem keyStays_run {S : Cells} {d : TypeDesc} {k : PV} {kv : Value} (hd : keyD d k = true) (hk : RelD S w k kv) : (Instr.keyThatStays kv kv).run P w = .ok kv w := by
  by_cases hs : ∃ fs, d = .struct fs
  · obtain ⟨fs, rfl⟩ := hs
    obtain ⟨x, y, rfl⟩ := keyD_pair hd
    rw [relPair] at hk
    subst hk
    simp [Instr.keyThatStays, Instr.sameBits]
  · exact MapKept.run_keyThatStays (keyD_is (fun fs e => hs ⟨fs, e⟩) hd hk)
theorem run_evLookup {t : TypeId} {mv : Value} {arr : Array MapEntry} {es : List (PV × PV)} {k r : PV} {kv : Value} {ok : Bool} (hb : (mv = .map none ∧ arr = #[]) ∨ ∃ B clock, mv = .map (some B) ∧ g.w.heap[B]? = some (.map arr clock)) (he : All2 (RelE g.S g.w) es arr.toList) (hk : Rel g k kv)
    (h : evLookup P t es k ok = some r) : ∃ z, (Instr.lookup t mv kv ok).run P g.w = .ok z g.w ∧ Rel g r z := by
  unfold evLookup at h
  split at h
  · rename_i d z hm
    obtain ⟨kt, et, m1, m2, m3, m4, m5⟩ := mapKD_spec hm
    split at h
    · rename_i hd
      obtain ⟨x, hx, rfl⟩ := Option.map_eq_some_iff.1 h
      have hkd : RelD g.S g.w k kv := by
        revert hk hd
        cases k <;> intro hk hd <;> first | exact hk | (cases d <;> simp [keyD] at hd; done) | skip
        cases d <;> simp only [keyD] at hd <;> try cases hd
        obtain ⟨x, y, e⟩ := keyD_pair hd
        rw [e] at hk ⊢
        exact rel_pair hk
      obtain ⟨iz, zv, z1, z2, z0⟩ := rel_zeroK (g := g) m3
      have z3 : RelA g z zv := by
        revert z0 m4
        cases z <;> intro m4 z0 <;> first | exact z0 | (simp [flatV] at m4)
      have hc := checkKey_run (P := P) (w := g.w) m2 m5 hd hkd arr.isEmpty
      rcases pfind_run (P := P) m2 m5 hd hkd he hx with ⟨rfl, hf⟩ | ⟨j, m, p, rfl, hf, _, _, h5, h6⟩
      · refine ⟨if ok then .tuple #[zv, .bool false] else zv, ?_, ?_⟩
        · rcases hb with ⟨rfl, rfl⟩ | ⟨B, clock, rfl, hb⟩
          · simp at hc hf; simp [Instr.lookup, run_underlying m1, hc, hf, zeroValue, typeInfo, z1, z2]
          · simp [Instr.lookup, run_underlying m1, MapKept.run_getObj_map hb, hc, hf, zeroValue, typeInfo, z1, z2]
        · cases ok
          · exact z3.rel
          · simp only [if_true, Rel, Option.getD_none, Option.isSome_none]
            exact ⟨_, rfl, .cons z3 (.cons (by simp [RelA, Rel1, RelD]) .nil)⟩
      · refine ⟨if ok then .tuple #[m.val, .bool true] else m.val, ?_, ?_⟩
        · rcases hb with ⟨rfl, rfl⟩ | ⟨B, clock, rfl, hb⟩
          · simp at hc hf; simp [Instr.lookup, run_underlying m1, hc, hf]
          · simp [Instr.lookup, run_underlying m1, MapKept.run_getObj_map hb, hc, hf]
        · have h7 : RelA g p m.val := Rel.ofFlat h5 h6
          cases ok
          · exact h7.rel
          · simp only [if_true, Rel, Option.getD_some, Option.isSome_some]
            exact ⟨_, rfl, .cons h7 (.cons (by simp [RelA, Rel1, RelD]) .nil)⟩
    · cases h
  · cases h
/-- What such an operation does. -/
theorem run_ev1 (h : InvG Gl S0 w0 s a g) (o : Oper) {r : PV} (he : ev1 P Gl o.op s.ev s.H s.X = some r) :
    ∃ z, (execOp a.eval o).run P g.w = .ok (.value z) g.w ∧ Rel g r z := by
  have key : ∀ (m : Sem Value), (∃ z, m.run P g.w = .ok z g.w ∧ Rel g r z) → ∃ z, (do pure (Next.value (← m)) : Sem Next).run P g.w = .ok (.value z) g.w ∧ Rel g r z := by
    rintro m ⟨z, h1, h2⟩
    exact ⟨z, by simp [h1], h2⟩
  unfold ev1 at he
  unfold execOp
  split at he
  · rename_i x hop; rw [hop]; cases he; exact ⟨_, rfl, h.ev x⟩
  · rename_i x hop; rw [hop]; cases he; exact ⟨_, rfl, h.ev x⟩
  · rename_i c x y hop
    rw [hop]
    have hc := h.ev c
    split at he
    · rename_i b hb
      rw [hb, relBool] at hc
      cases he
      refine ⟨if b then a.eval x else a.eval y, by simp [hc, asBool], ?_⟩
      cases b
      · exact h.ev y
      · exact h.ev x
    · cases he
  · rename_i x hop
    rw [hop]
    have hx := h.ev x
    split at he
    · rename_i l o hl
      rw [hl] at hx; cases he
      have hx' := hx
      rw [relRef] at hx
      exact ⟨a.eval x, by simp [hx.1], hx'⟩
    · rename_i cs hl
      rw [hl] at hx; cases he
      have hx' := hx
      rw [relCptr] at hx
      obtain ⟨B, o, e, _⟩ := hx
      exact ⟨a.eval x, by simp [e], hx'⟩
    · rename_i i o hl
      rw [hl] at hx; cases he
      have hx' := hx
      rw [relGptr] at hx
      exact ⟨a.eval x, by simp [hx], hx'⟩
    · rename_i f caps hl
      rw [hl] at hx; cases he
      have hx' := hx
      simp only [Rel, RelA, Rel1] at hx
      obtain ⟨arr, e, _⟩ := hx
      exact ⟨a.eval x, by simp [e], hx'⟩
    · cases he
  · rename_i op t x y yt hop
    rw [hop]
    exact key _ (run_evBin he (h.ev x) (h.ev y))
  · rename_i op t x hop; rw [hop]; exact key _ (run_evUn he (h.ev x))
  · rename_i src dst x hop; rw [hop]; exact key _ (run_evConv he (h.ev x))
  · rename_i t x f hop; rw [hop]; exact key _ (run_evFieldAddr he (h.ev x) rfl)
  · rename_i t x f hop; rw [hop]; exact key _ (run_evField he (h.ev x))
  · rename_i t x i hop; rw [hop]; exact key _ (run_evIndexAddr he (h.ev x) (h.ev i) rfl)
  · rename_i t x i hop; rw [hop]; exact key _ (run_evIndex he (h.ev x) (h.ev i))
  · rename_i t x hop; rw [hop]; exact key _ (run_evLoad h he (h.ev x))
  · rename_i x i hop
    rw [hop]
    have hx := h.ev x
    split at he
    · rename_i vs hvs
      rw [hvs] at hx
      simp only [Rel] at hx
      obtain ⟨arr, e, hr⟩ := hx
      obtain ⟨z, hz1, hz2⟩ := hr.right he
      refine key _ ⟨z, by rw [e]; simp only [Instr.extract]; rw [show arr[i]? = some z by simpa using hz1]; rfl, ?_⟩
      cases r
      case tup vs => exact hz2.elim
      all_goals exact hz2
    · cases he
  · rename_i t x lo hi mx hop
    rw [hop]
    exact key _ (run_evSlice he (h.ev x) rfl (relO_map h lo) (relO_map h hi) (relO_map h mx))
  · rename_i t parts hop
    rw [hop]
    refine key _ (run_evBuild he ⟨by simp, fun i x y hx hy => ?_⟩)
    simp only [List.getElem?_map, Array.toList_map] at hx hy
    cases hp : parts.toList[i]? with
    | none => rw [hp] at hx; cases hx
    | some q =>
      rw [hp] at hx hy
      cases hx; cases hy
      exact ⟨rfl, h.ev q.2⟩
  · rename_i t x k ok hop
    rw [hop]
    have hx := h.ev x
    split at he
    · rename_i l hl
      rw [hl] at hx
      split at he
      · rename_i es hes
        obtain ⟨_, _, _, arr, clock, o1, o2⟩ := h.objs l _ (by rw [h.hH]; exact hes)
        have hx1 : a.eval x = .map (some (g.φ l)) := hx.1
        have hr := run_evLookup (P := P) (.inr ⟨_, _, hx1, o1⟩) o2 (h.ev k) he
        exact key _ hr
      · cases he
    · rename_i ks vs hl
      rw [hl] at hx
      have hx : RelD g.S g.w (.fmp ks vs) (a.eval x) := hx
      simp only [RelD] at hx
      obtain ⟨hfl, ⟨e1, rfl, rfl⟩ | ⟨B, arr, clock, e1, e2, e3, e4, e5⟩⟩ := hx
      · exact key _ (run_evLookup (P := P) (arr := #[]) (.inl ⟨e1, rfl⟩) .nil (h.ev k) he)
      · refine key _ (run_evLookup (P := P) (arr := arr) (.inr ⟨B, clock, e1, e3⟩) ?_ (h.ev k) he)
        have e4 := (relDs_iff _ _).1 e4
        have e5 := (relDs_iff _ _).1 e5
        refine ⟨by rw [List.length_zip, e4.1, e5.1]; simp, fun i p m hp hm => ?_⟩
        rw [List.getElem?_zip_eq_some] at hp
        exact ⟨e4.2 i p.1 m.key hp.1 (by rw [List.getElem?_map, hm]; rfl), e5.2 i p.2 m.val hp.2 (by rw [List.getElem?_map, hm]; rfl), List.all_eq_true.1 hfl _ (List.mem_of_getElem? hp.2)⟩
    · cases he
  · rename_i f first caps hop
    rw [hop]
    split at he
    · rename_i hc
      obtain ⟨h1, h2⟩ := hc
      cases he
      rw [toList_nil h1]
      refine key _ ⟨_, rfl, ?_⟩
      simp only [Rel, RelA, Rel1]
      refine ⟨caps.map a.eval, by simp, by simp, fun i x y hx hy => ?_⟩
      simp only [List.getElem?_map, Array.toList_map] at hx hy
      cases hp : caps.toList[i]? with
      | none => rw [hp] at hx; cases hx
      | some q =>
        rw [hp] at hx hy
        cases hx; cases hy
        have hcap : capOK (s.ev q) = true := List.all_eq_true.1 h2 _ (List.mem_map.2 ⟨q, List.mem_of_getElem? hp, rfl⟩)
        have hq := h.ev q
        cases he : s.ev q <;> rw [he] at hq hcap <;> simp only [capOK] at hcap <;> try cases hcap
        all_goals exact hq
    · cases he
  · rename_i c hop
    rw [hop]
    split at he
    · rename_i x t h1 h2 h3
      have ha := toList_one h2
      have hb := toList_one h3
      have hr := run_evLen h (ty := o.type) he (h.ev x)
      obtain ⟨z, hz1, hz2⟩ := hr
      exact ⟨z, by simp [resolve, h1, ha, hb, invoke, builtin, hz1], hz2⟩
    · rename_i x y h1 h2
      obtain ⟨z, hz1, hz2⟩ := run_min (P := P) (w := g.w) (ts := c.argTypes) (ty := o.type) he (h.ev x) (h.ev y)
      exact ⟨z, by simp [resolve, h1, toList_two h2, invoke, builtin, hz1], hz2⟩
    · rename_i x y h1 h2
      obtain ⟨z, hz1, hz2⟩ := run_max (P := P) (w := g.w) (ts := c.argTypes) (ty := o.type) he (h.ev x) (h.ev y)
      exact ⟨z, by simp [resolve, h1, toList_two h2, invoke, builtin, hz1], hz2⟩
    · cases he
  · cases he
end
end PM
