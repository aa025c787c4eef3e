/-
  THE PURE MACHINE, H: composites; ev1: all operations that yield a value and leave memory alone, and their soundness.
-/
import Derived.Test.YtmoohlgppkpphaaDoorPmG
import Derived.MapKept
import Derived.Laws.Tables
import Derived.Orders
namespace PM
open Go Go.RowKit

theorem foldl_set (off : Nat) : ∀ (vs : List Value) (k : Nat) (cells : Array Value), off + k + vs.length ≤ cells.size →
    ((vs.zipIdx k).foldl (fun cs (x : Value × Nat) => cs.setIfInBounds (off + x.2) x.1) cells).toList = cells.toList.take (off + k) ++ vs ++ cells.toList.drop (off + k + vs.length)
  | [], k, cells, _ => by simp
  | v :: vs, k, cells, h => by
    simp only [List.zipIdx_cons, List.foldl_cons]
    have hk : off + k < cells.size := by simp at h; omega
    rw [foldl_set off vs (k + 1) _ (by simp at h ⊢; omega)]
    have e := list_seg_step cells.toList (off + k) v vs (by simp at h ⊢; omega)
    simpa [Array.toList_setIfInBounds, Nat.add_assoc] using e

section
variable {P : Program} {Gl : Nat → Option (List PV)} {S0 : Bs} {w0 : World} {s : PSt} {a : Act} {g : GG} {w : World}
/-- A value's cells, where each is known to be one. -/
theorem Rel.cells {p : PV} {v : Value} (h : Rel g p v) (hone : p.cells.all PV.one = true) : All2 (RelC g) p.cells v.cells.toList := by
  cases p
  case agg cs =>
    simp only [Rel, RelA] at h
    obtain ⟨arr, rfl, h2⟩ := h
    exact h2
  case any => simp [PV.cells, PV.one] at hone
  case tup vs => simp [PV.cells, PV.one] at hone
  all_goals
    (simp only [Rel, RelA] at h
     obtain ⟨e1, e2⟩ := h.oneCell rfl
     rw [e2]
     exact .cons ⟨h, e1⟩ .nil)
theorem fill_spec {pl : List (Nat × Nat)} {place : Nat → Option (Nat × Nat)} (hpl : ∀ i, place i = pl[i]?) : ∀ (parts : List (Nat × PV)) (vparts : List (Nat × Value)) (cs cs' : List PV) (cells : Array Value),
    All2 (fun (x : Nat × PV) (y : Nat × Value) => x.1 = y.1 ∧ Rel g x.2 y.2) parts vparts → All2 (RelC g) cs cells.toList → pfill pl parts cs = some cs' →
    ∃ cells', Instr.fill place cells vparts = some cells' ∧ All2 (RelC g) cs' cells'.toList
  | [], vparts, cs, cs', cells, hp, hc, h => by
    rw [hp.nil_left]
    simp only [pfill] at h; cases h
    exact ⟨cells, rfl, hc⟩
  | (i, p) :: parts, vparts, cs, cs', cells, hp, hc, h => by
    obtain ⟨⟨j, v⟩, vparts', rfl, ⟨e1, e2⟩, hp'⟩ := hp.cons_left
    simp only at e1 e2
    subst e1
    simp only [pfill] at h
    split at h
    · rename_i off n hin
      split at h
      · rename_i hcond
        obtain ⟨c1, c2, c3⟩ := hcond
        have hone : p.cells.all PV.one = true := c3
        have hcells := e2.cells hone
        have hvn : v.cells.size = n := by rw [← c1, hcells.1]; simp
        have hsz : cells.size = cs.length := by rw [hc.1]; simp
        have hset := foldl_set off v.cells.toList 0 cells (by simp [hvn]; omega)
        simp only [Nat.add_zero] at hset
        obtain ⟨cells', f1, f2⟩ := fill_spec hpl parts vparts' _ cs' (v.cells.zipIdx.foldl (fun cs (x : Value × Nat) => cs.setIfInBounds (off + x.2) x.1) cells) hp' (by
          have : (v.cells.zipIdx.foldl (fun cs (x : Value × Nat) => cs.setIfInBounds (off + x.2) x.1) cells).toList = cells.toList.take off ++ v.cells.toList ++ cells.toList.drop (off + n) := by
            rw [← Array.foldl_toList, Array.toList_zipIdx, hset]
            simp [hvn]
          rw [this]
          exact ((hc.take off).append hcells).append (hc.drop (off + n))) h
        refine ⟨cells', ?_, f2⟩
        unfold Instr.fill
        rw [hpl, hin]
        simp only
        rw [if_neg (by simp [hvn]; omega)]
        exact f1
      · cases h
    · cases h
theorem placesF_spec : ∀ {fs : List Field} {pl : List (Nat × Nat)}, placesF P fs = some pl → fs.mapM (fun f => (P.info? f.type).map fun i => (f.offset, i.size)) = some pl
  | [], pl, h => by simp [placesF] at h; simp [h]
  | f :: fs, pl, h => by
    simp only [placesF] at h
    split at h
    · rename_i i r h1 h2
      cases h
      simp [h1, placesF_spec h2]
    · cases h
theorem ofConst_agg {v : Value} {z : List PV} (h : ofConst v = .agg z) : ∃ arr, v = .agg arr ∧ z = arr.toList.map ofConst1 := by
  cases v
  case agg arr => simp only [ofConst] at h; cases h; exact ⟨arr, rfl, rfl⟩
  all_goals
    (simp only [ofConst] at h
     unfold ofConst1 at h
     split at h <;> cases h)
theorem rel_zero {arr : Array Value} (h1 : ∀ v ∈ arr, v.oneCell' = true) : All2 (RelC g) (arr.toList.map ofConst1) arr.toList :=
  ⟨by simp, fun i x y hx hy => by
    rw [List.getElem?_map, hy] at hx
    cases hx
    exact ofConst1_one y (h1 y (by have := List.mem_of_getElem? hy; simpa using this)) g⟩
theorem run_evBuild {t : TypeId} {parts : List (Nat × PV)} {vparts : Array (Nat × Value)} {r : PV} (he : evBuild P t parts = some r)
    (hp : All2 (fun (x : Nat × PV) (y : Nat × Value) => x.1 = y.1 ∧ Rel g x.2 y.2) parts vparts.toList) : ∃ z, (Instr.build t vparts).run P w = .ok z w ∧ Rel g r z := by
  unfold evBuild at he
  split at he
  · rename_i z pl h1 h2
    obtain ⟨cs', h3, rfl⟩ := Option.map_eq_some_iff.1 he
    obtain ⟨i, zv, hi, hzv, hz2, hone⟩ := zeroK_spec h1
    obtain ⟨arr, rfl, rfl⟩ := ofConst_agg hz2
    unfold placesK at h2
    split at h2
    · rename_i fs hu
      have hpl := placesF_spec h2
      obtain ⟨cells', f1, f2⟩ := fill_spec (g := g) (pl := pl) (place := (pl.toArray[·]?)) (by simp) _ vparts.toList _ cs' arr hp (rel_zero fun v hv => hone v (by simpa [Value.cells] using hv)) h3
      refine ⟨.agg cells', run_build w t vparts cells' ?_, by simp only [Rel, RelA]; exact ⟨cells', rfl, f2⟩⟩
      unfold Program.built
      simp only [hi, hu, hzv, hpl, Value.cells]
      exact f1
    · cases h2
  · rename_i z x h1 h2 h3
    cases he
    obtain ⟨i, zv, hi, hzv, hz2, hone⟩ := zeroK_spec h1
    obtain ⟨arr, rfl, rfl⟩ := ofConst_agg hz2
    obtain ⟨n, row, k⟩ := x
    obtain ⟨e, ie, d, a1, a2, a3, a4, a5⟩ := arrK_spec h3
    have hv : vparts.toList = [] := hp.nil_left
    refine ⟨.agg arr, run_build w t vparts arr ?_, by simp only [Rel, RelA]; exact ⟨arr, rfl, rel_zero fun v hv => hone v (by simpa [Value.cells] using hv)⟩⟩
    unfold Program.built
    simp only [hi, a1, hzv, a2, Value.cells, hv, Instr.fill]
  · cases he
end

/-- All operations that yield a value and leave memory alone. -/
def ev1 (P : Program) (Gl : Nat → Option (List PV)) (op : Op) (ρ : Operand → PV) (H : Nat → Option PObj) (X : XT) : Option PV :=
  match op with
  | .move x => some (ρ x)
  | .assign x => some (ρ x)
  | .pick c x y => match ρ c with | .bool c => some (if c = true then ρ x else ρ y) | _ => none
  | .nilCheck x => match ρ x with | .ref l o => some (.ref l o) | .cptr cs => some (.cptr cs) | .gptr i o => some (.gptr i o) | .fn f caps => some (.fn f caps) | _ => none
  | .binOp op t x y _ => evBin P op t (ρ x) (ρ y)
  | .unOp op _ x => evUn op (ρ x)
  | .convert src dst x => evConv P src dst (ρ x)
  | .fieldAddr t x f => evFieldAddr P t f (ρ x)
  | .field t x f => evField P t f (ρ x)
  | .indexAddr t x i => evIndexAddr P t (ρ x) (ρ i)
  | .index t x i => evIndex P t (ρ x) (ρ i)
  | .load t x => evLoad P Gl H X t (ρ x)
  | .extract x i => match ρ x with | .tup vs => vs[i]? | _ => none
  | .slice t x lo hi mx => evSlice P t (lo.map ρ) (hi.map ρ) (mx.map ρ) (ρ x)
  | .build t parts => evBuild P t (parts.toList.map fun x => (x.1, ρ x.2))
  | .lookup t x k ok => match ρ x with
    | .mp l => match H l with
      | some (.map es) => evLookup P t es (ρ k) ok
      | _ => none
    | _ => none
  | .makeFunc (.func f) first caps => if first.toList = [] ∧ ((caps.toList.map ρ).all capOK) = true then some (.fn f (caps.toList.map ρ)) else none
  | .call c => match c.callee, c.args.toList, c.argTypes.toList with
    | .builtin .len, [x], [t] => evLen P H t (ρ x)
    | .builtin .min, [x, y], _ => evMinMax false (ρ x) (ρ y)
    | .builtin .max, [x, y], _ => evMinMax true (ρ x) (ρ y)
    | _, _, _ => none
  | _ => none

section
variable {P : Program} {Gl : Nat → Option (List PV)} {S0 : Bs} {w0 : World} {s : PSt} {a : Act} {g : GG} {w : World}
theorem toList_one {α : Type} {xs : Array α} {x : α} (h : xs.toList = [x]) : xs = #[x] := Array.toList_inj.1 (by simpa using h)
theorem toList_two {α : Type} {xs : Array α} {x y : α} (h : xs.toList = [x, y]) : xs = #[x, y] := Array.toList_inj.1 (by simpa using h)
theorem toList_nil {α : Type} {xs : Array α} (h : xs.toList = []) : xs = #[] := Array.toList_inj.1 (by simpa using h)
theorem relO_map (h : InvG Gl S0 w0 s a g) (x : Option Operand) : RelO g (x.map s.ev) (x.map a.eval) := by
  cases x with
  | none => trivial
  | some x => exact h.ev x
theorem run_min {p q r : PV} {ts : Array TypeId} {ty : TypeId} {u v : Value} (h : evMinMax false p q = some r) (hu : Rel g p u) (hv : Rel g q v) :
    ∃ z, (Builtin.min_ ts ty #[u, v]).run P w = .ok z w ∧ Rel g r z := by
  cases p <;> cases q <;> simp only [evMinMax] at h <;> try cases h
  rename_i k x k' y
  rw [relInt] at hu hv
  subst hu; subst hv
  by_cases hk : k = k'
  · rw [if_pos hk] at h; cases h
    refine ⟨_, by simp [Builtin.min_, Builtin.min2]; rfl, relInt.2 ?_⟩
    simp only [Bool.false_eq_true, if_false]
    congr 1
    show (if y < x then y else x) = min x y
    split <;> omega
  · rw [if_neg hk] at h; cases h
theorem run_max {p q r : PV} {ts : Array TypeId} {ty : TypeId} {u v : Value} (h : evMinMax true p q = some r) (hu : Rel g p u) (hv : Rel g q v) :
    ∃ z, (Builtin.max_ ts ty #[u, v]).run P w = .ok z w ∧ Rel g r z := by
  cases p <;> cases q <;> simp only [evMinMax] at h <;> try cases h
  rename_i k x k' y
  rw [relInt] at hu hv
  subst hu; subst hv
  by_cases hk : k = k'
  · rw [if_pos hk] at h; cases h
    refine ⟨_, by simp [Builtin.max_, Builtin.max2]; rfl, relInt.2 ?_⟩
    simp only [if_true]
    congr 1
    show (if y > x then y else x) = max x y
    split <;> omega
  · rw [if_neg hk] at h; cases h
theorem Rel.ofFlat {p : PV} {v : Value} (h : RelD g.S g.w p v) (hf : flatV p = true) : RelA g p v := by
  cases p
  case agg cs =>
    simp only [RelD] at h
    obtain ⟨arr, h1, h2⟩ := h
    simp only [RelA]
    refine ⟨arr, h1, ((relDs_iff _ _).1 h2).1, fun i x y hx hy => ?_⟩
    have h3 := ((relDs_iff _ _).1 h2).2 i x y hx hy
    have h4 := List.all_eq_true.1 hf x (List.mem_of_getElem? hx)
    exact ⟨.of_data h3 h4, (h3.oneCell h4).1⟩
  case tup vs => simp [flatV] at hf
  case any => simp [flatV] at hf
  all_goals exact Rel1.relA' (.of_data h rfl)
theorem rel_zeroK {t : TypeId} {z : PV} (h : zeroK P t = some z) : ∃ i zv, P.info? t = some i ∧ i.zero = some zv ∧ Rel g z zv := by
  obtain ⟨i, zv, hi, h1, h2, hone⟩ := zeroK_spec h
  refine ⟨i, zv, hi, h1, ?_⟩
  rw [← h2]
  cases zv
  case agg arr =>
    simp only [ofConst, Rel, RelA]
    exact ⟨arr, rfl, rel_zero fun v hv => hone v (by simpa [Value.cells] using hv)⟩
  all_goals
    (have := rel_ofConst1 g
     simp only [ofConst]
     exact this _)
theorem mapKD_spec {t : TypeId} {d : TypeDesc} {z : PV} (h : mapKD P t = some (d, z)) : ∃ k e, P.underlying t = some (.map k e) ∧ P.underlying k = some d ∧ zeroK P e = some z ∧ flatV z = true := by
  unfold mapKD at h
  split at h
  · rename_i k e hm
    split at h
    · rename_i d' z' hd hz
      split at h
      · rename_i hf; cases h; exact ⟨k, e, hm, hd, hz, hf⟩
      · cases h
    · cases h
  · cases h
theorem keyD_is {S : Cells} {d : TypeDesc} {k : PV} {v : Value} (h : keyD d k = true) (hr : RelD S w k v) : MapKept.IsKey d v := by
  cases d <;> cases k <;> simp [keyD] at h <;> simp only [RelD] at hr <;> subst hr <;> simp [MapKept.IsKey, h]
theorem pkeyEq_now {S : Cells} {d : TypeDesc} {k e : PV} {u v : Value} {b : Bool} (hd : keyD d k = true) (hk : RelD S w k u) (he : RelD S w e v) (h : pkeyEq k e = some b) : Instr.sameNow d u v = some b ∧ (b = true → v = u) := by
  cases k <;> cases e <;> simp [pkeyEq] at h <;> cases d <;> simp [keyD] at hd <;> simp only [RelD] at hk he <;> subst hk <;> subst he
  case int.int.int k1 a k2 c k3 =>
    obtain ⟨h1, h2⟩ := h
    subst h1; subst hd; subst h2
    simp only [Instr.sameNow, if_true, decide_eq_true_eq]
    exact ⟨by rw [beqInt], fun e => by rw [e]⟩
  case bool.bool.bool a c =>
    subst h
    simp only [Instr.sameNow, decide_eq_true_eq]
    exact ⟨by cases a <;> cases c <;> rfl, fun e => by rw [e]⟩
  case str.str.string a c =>
    subst h
    simp only [Instr.sameNow, decide_eq_true_eq]
    refine ⟨?_, fun e => by rw [e]⟩
    congr 1
    by_cases hac : a = c
    · subst hac; simp [MapKept.bytes_beq]
    · rw [decide_eq_false hac]
      cases hb : (a == c) with
      | false => rfl
      | true => exact absurd ((MapKept.bytes_beq a c).1 hb) hac
theorem pfind_spec {S : Cells} {d : TypeDesc} {k : PV} {kv : Value} (hd : keyD d k = true) (hk : RelD S w k kv) : ∀ {es : List (PV × PV)} {l : List MapEntry} (i : Nat) {r : Option PV}, All2 (RelE S w) es l → pfind k es = some r →
    (r = none ∧ Instr.findNow d kv l i = some none) ∨ ∃ j m p, r = some p ∧ Instr.findNow d kv l i = some (some (i + j, m.val)) ∧ l[j]? = some m ∧ m.key = kv ∧ RelD S w p m.val ∧ flatV p = true
  | [], l, i, r, ha, h => by
    rw [ha.nil_left]
    simp only [pfind] at h; cases h
    exact .inl ⟨rfl, rfl⟩
  | e :: es, l, i, r, ha, h => by
    obtain ⟨m, l', rfl, h1, h2⟩ := ha.cons_left
    simp only [pfind] at h
    split at h
    · rename_i hq
      cases h
      obtain ⟨h3, h4⟩ := pkeyEq_now hd hk h1.1 hq
      exact .inr ⟨0, m, e.2, rfl, by simp [Instr.findNow, h3], rfl, h4 rfl, h1.2.1, h1.2.2⟩
    · rename_i hq
      obtain ⟨h3, _⟩ := pkeyEq_now hd hk h1.1 hq
      rcases pfind_spec hd hk (i + 1) h2 h with ⟨h4, h5⟩ | ⟨j, m', p, h4, h5, h6, h7⟩
      · exact .inl ⟨h4, by simp [Instr.findNow, h3, h5]⟩
      · exact .inr ⟨j + 1, m', p, h4, by simp [Instr.findNow, h3, h5]; omega, by simpa using h6, h7⟩
    · cases h
theorem run_evLookup {t : TypeId} {B : Nat} {arr : Array MapEntry} {clock : Nat} {es : List (PV × PV)} {k r : PV} {kv : Value} {ok : Bool} (hb : g.w.heap[B]? = some (.map arr clock)) (he : All2 (RelE g.S g.w) es arr.toList) (hk : Rel g k kv)
    (h : evLookup P t es k ok = some r) : ∃ z, (Instr.lookup t (.map (some B)) kv ok).run P g.w = .ok z g.w ∧ Rel g r z := by
  unfold evLookup at h
  split at h
  · rename_i d z hm
    obtain ⟨kt, et, m1, m2, m3, m4⟩ := mapKD_spec hm
    split at h
    · rename_i hd
      obtain ⟨x, hx, rfl⟩ := Option.map_eq_some_iff.1 h
      have hkd : RelD g.S g.w k kv := by
        cases k <;> first | exact hk | (cases d <;> simp [keyD] at hd)
      obtain ⟨iz, zv, z1, z2, z0⟩ := rel_zeroK (g := g) m3
      have z3 : RelA g z zv := by
        revert z0 m4
        cases z <;> intro m4 z0 <;> first | exact z0 | (simp [flatV] at m4)
      have hc := MapKept.run_checkKey (P := P) (w := g.w) m2 (keyD_is hd hkd) arr.isEmpty 9999
      rcases pfind_spec hd hkd 0 he hx with ⟨rfl, h2⟩ | ⟨j, m, p, rfl, h2, _, _, h5, h6⟩
      · have hf := MapKept.run_findKey (P := P) (w := g.w) m2 h2
        refine ⟨if ok then .tuple #[zv, .bool false] else zv, ?_, ?_⟩
        · simp [Instr.lookup, run_underlying m1, MapKept.run_getObj_map hb, hc, hf, zeroValue, typeInfo, z1, z2]
        · cases ok
          · exact z3.rel
          · simp only [if_true, Rel, Option.getD_none, Option.isSome_none]
            exact ⟨_, rfl, .cons z3 (.cons (by simp [RelA, Rel1, RelD]) .nil)⟩
      · have hf := MapKept.run_findKey (P := P) (w := g.w) m2 h2
        refine ⟨if ok then .tuple #[m.val, .bool true] else m.val, ?_, ?_⟩
        · simp [Instr.lookup, run_underlying m1, MapKept.run_getObj_map hb, hc, hf]
        · have h7 : RelA g p m.val := Rel.ofFlat h5 h6
          cases ok
          · exact h7.rel
          · simp only [if_true, Rel, Option.getD_some, Option.isSome_some]
            exact ⟨_, rfl, .cons h7 (.cons (by simp [RelA, Rel1, RelD]) .nil)⟩
    · cases h
  · cases h
/-- What such an operation does. -/
theorem run_ev1 (h : InvG Gl S0 w0 s a g) (o : Oper) {r : PV} (he : ev1 P Gl o.op s.ev s.H s.X = some r) :
    ∃ z, (execOp a.eval o).run P g.w = .ok (.value z) g.w ∧ Rel g r z := by
  have key : ∀ (m : Sem Value), (∃ z, m.run P g.w = .ok z g.w ∧ Rel g r z) → ∃ z, (do pure (Next.value (← m)) : Sem Next).run P g.w = .ok (.value z) g.w ∧ Rel g r z := by
    rintro m ⟨z, h1, h2⟩
    exact ⟨z, by simp [h1], h2⟩
  unfold ev1 at he
  unfold execOp
  split at he
  · rename_i x hop; rw [hop]; cases he; exact ⟨_, rfl, h.ev x⟩
  · rename_i x hop; rw [hop]; cases he; exact ⟨_, rfl, h.ev x⟩
  · rename_i c x y hop
    rw [hop]
    have hc := h.ev c
    split at he
    · rename_i b hb
      rw [hb, relBool] at hc
      cases he
      refine ⟨if b then a.eval x else a.eval y, by simp [hc, asBool], ?_⟩
      cases b
      · exact h.ev y
      · exact h.ev x
    · cases he
  · rename_i x hop
    rw [hop]
    have hx := h.ev x
    split at he
    · rename_i l o hl
      rw [hl] at hx; cases he
      have hx' := hx
      rw [relRef] at hx
      exact ⟨a.eval x, by simp [hx.1], hx'⟩
    · rename_i cs hl
      rw [hl] at hx; cases he
      have hx' := hx
      rw [relCptr] at hx
      obtain ⟨B, o, e, _⟩ := hx
      exact ⟨a.eval x, by simp [e], hx'⟩
    · rename_i i o hl
      rw [hl] at hx; cases he
      have hx' := hx
      rw [relGptr] at hx
      exact ⟨a.eval x, by simp [hx], hx'⟩
    · rename_i f caps hl
      rw [hl] at hx; cases he
      have hx' := hx
      simp only [Rel, RelA, Rel1] at hx
      obtain ⟨arr, e, _⟩ := hx
      exact ⟨a.eval x, by simp [e], hx'⟩
    · cases he
  · rename_i op t x y yt hop
    rw [hop]
    exact key _ (run_evBin he (h.ev x) (h.ev y))
  · rename_i op t x hop; rw [hop]; exact key _ (run_evUn he (h.ev x))
  · rename_i src dst x hop; rw [hop]; exact key _ (run_evConv he (h.ev x))
  · rename_i t x f hop; rw [hop]; exact key _ (run_evFieldAddr he (h.ev x) rfl)
  · rename_i t x f hop; rw [hop]; exact key _ (run_evField he (h.ev x))
  · rename_i t x i hop; rw [hop]; exact key _ (run_evIndexAddr he (h.ev x) (h.ev i) rfl)
  · rename_i t x i hop; rw [hop]; exact key _ (run_evIndex he (h.ev x) (h.ev i))
  · rename_i t x hop; rw [hop]; exact key _ (run_evLoad h he (h.ev x))
  · rename_i x i hop
    rw [hop]
    have hx := h.ev x
    split at he
    · rename_i vs hvs
      rw [hvs] at hx
      simp only [Rel] at hx
      obtain ⟨arr, e, hr⟩ := hx
      obtain ⟨z, hz1, hz2⟩ := hr.right he
      refine key _ ⟨z, by rw [e]; simp only [Instr.extract]; rw [show arr[i]? = some z by simpa using hz1]; rfl, ?_⟩
      cases r
      case tup vs => exact hz2.elim
      all_goals exact hz2
    · cases he
  · rename_i t x lo hi mx hop
    rw [hop]
    exact key _ (run_evSlice he (h.ev x) rfl (relO_map h lo) (relO_map h hi) (relO_map h mx))
  · rename_i t parts hop
    rw [hop]
    refine key _ (run_evBuild he ⟨by simp, fun i x y hx hy => ?_⟩)
    simp only [List.getElem?_map, Array.toList_map] at hx hy
    cases hp : parts.toList[i]? with
    | none => rw [hp] at hx; cases hx
    | some q =>
      rw [hp] at hx hy
      cases hx; cases hy
      exact ⟨rfl, h.ev q.2⟩
  · rename_i t x k ok hop
    rw [hop]
    have hx := h.ev x
    split at he
    · rename_i l hl
      rw [hl] at hx
      split at he
      · rename_i es hes
        obtain ⟨_, _, _, arr, clock, o1, o2⟩ := h.objs l _ (by rw [h.hH]; exact hes)
        have hx1 : a.eval x = .map (some (g.φ l)) := hx.1
        have hr := run_evLookup (P := P) o1 o2 (h.ev k) he
        rw [← hx1] at hr
        exact key _ hr
      · cases he
    · cases he
  · rename_i f first caps hop
    rw [hop]
    split at he
    · rename_i hc
      obtain ⟨h1, h2⟩ := hc
      cases he
      rw [toList_nil h1]
      refine key _ ⟨_, rfl, ?_⟩
      simp only [Rel, RelA, Rel1]
      refine ⟨caps.map a.eval, by simp, by simp, fun i x y hx hy => ?_⟩
      simp only [List.getElem?_map, Array.toList_map] at hx hy
      cases hp : caps.toList[i]? with
      | none => rw [hp] at hx; cases hx
      | some q =>
        rw [hp] at hx hy
        cases hx; cases hy
        have hcap : capOK (s.ev q) = true := List.all_eq_true.1 h2 _ (List.mem_map.2 ⟨q, List.mem_of_getElem? hp, rfl⟩)
        have hq := h.ev q
        cases he : s.ev q <;> rw [he] at hq hcap <;> simp only [capOK] at hcap <;> try cases hcap
        all_goals exact hq
    · cases he
  · rename_i c hop
    rw [hop]
    split at he
    · rename_i x t h1 h2 h3
      have ha := toList_one h2
      have hb := toList_one h3
      have hr := run_evLen h (ty := o.type) he (h.ev x)
      obtain ⟨z, hz1, hz2⟩ := hr
      exact ⟨z, by simp [resolve, h1, ha, hb, invoke, builtin, hz1], hz2⟩
    · rename_i x y h1 h2
      obtain ⟨z, hz1, hz2⟩ := run_min (P := P) (w := g.w) (ts := c.argTypes) (ty := o.type) he (h.ev x) (h.ev y)
      exact ⟨z, by simp [resolve, h1, toList_two h2, invoke, builtin, hz1], hz2⟩
    · rename_i x y h1 h2
      obtain ⟨z, hz1, hz2⟩ := run_max (P := P) (w := g.w) (ts := c.argTypes) (ty := o.type) he (h.ev x) (h.ev y)
      exact ⟨z, by simp [resolve, h1, toList_two h2, invoke, builtin, hz1], hz2⟩
    · cases he
  · cases he
end
end PM
