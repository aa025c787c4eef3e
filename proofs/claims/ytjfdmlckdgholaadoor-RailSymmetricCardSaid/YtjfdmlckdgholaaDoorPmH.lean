/-
  THE PURE MACHINE, H: composites; ev1: all operations that yield a value and leave memory alone, and their soundness.
-/
import Derived.Test.YtjfdmlckdgholaaDoorPmG
import Derived.Laws.Tables
import Derived.Orders
namespace PM
open Go Go.RowKit

theorem foldl_set (off : Nat) : ∀ (vs : List Value) (k : Nat) (cells : Array Value), off + k + vs.length ≤ cells.size →
    ((vs.zipIdx k).foldl (fun cs (x : Value × Nat) => cs.setIfInBounds (off + x.2) x.1) cells).toList = cells.toList.take (off + k) ++ vs ++ cells.toList.drop (off + k + vs.length)
  | [], k, cells, _ => by simp
  | v :: vs, k, cells, h => by
    simp only [List.zipIdx_cons, List.foldl_cons]
    have hk : off + k < cells.size := by simp at h; omega
    rw [foldl_set off vs (k + 1) _ (by simp at h ⊢; omega)]
    have e := list_seg_step cells.toList (off + k) v vs (by simp at h ⊢; omega)
    simpa [Array.toList_setIfInBounds, Nat.add_assoc] using e

section
variable {P : Program} {Gl : Nat → Option (List PV)} {S0 : Cells} {w0 : World} {s : PSt} {a : Act} {g : GG} {w : World}
/-- A value's cells, where each is known to be one. -/
theorem Rel.cells {p : PV} {v : Value} (h : Rel g p v) (hone : p.cells.all PV.one = true) : All2 (RelC g) p.cells v.cells.toList := by
  cases p
  case agg cs =>
    simp only [Rel, RelA] at h
    obtain ⟨arr, rfl, h2⟩ := h
    exact h2
  case any => simp [PV.cells, PV.one] at hone
  case tup vs => simp [PV.cells, PV.one] at hone
  all_goals
    (simp only [Rel, RelA] at h
     obtain ⟨e1, e2⟩ := h.oneCell rfl
     rw [e2]
     exact .cons ⟨h, e1⟩ .nil)
theorem fill_spec {pl : List (Nat × Nat)} {place : Nat → Option (Nat × Nat)} (hpl : ∀ i, place i = pl[i]?) : ∀ (parts : List (Nat × PV)) (vparts : List (Nat × Value)) (cs cs' : List PV) (cells : Array Value),
    All2 (fun (x : Nat × PV) (y : Nat × Value) => x.1 = y.1 ∧ Rel g x.2 y.2) parts vparts → All2 (RelC g) cs cells.toList → pfill pl parts cs = some cs' →
    ∃ cells', Instr.fill place cells vparts = some cells' ∧ All2 (RelC g) cs' cells'.toList
  | [], vparts, cs, cs', cells, hp, hc, h => by
    rw [hp.nil_left]
    simp only [pfill] at h; cases h
    exact ⟨cells, rfl, hc⟩
  | (i, p) :: parts, vparts, cs, cs', cells, hp, hc, h => by
    obtain ⟨⟨j, v⟩, vparts', rfl, ⟨e1, e2⟩, hp'⟩ := hp.cons_left
    simp only at e1 e2
    subst e1
    simp only [pfill] at h
    split at h
    · rename_i off n hin
      split at h
      · rename_i hcond
        obtain ⟨c1, c2, c3⟩ := hcond
        have hone : p.cells.all PV.one = true := c3
        have hcells := e2.cells hone
        have hvn : v.cells.size = n := by rw [← c1, hcells.1]; simp
        have hsz : cells.size = cs.length := by rw [hc.1]; simp
        have hset := foldl_set off v.cells.toList 0 cells (by simp [hvn]; omega)
        simp only [Nat.add_zero] at hset
        obtain ⟨cells', f1, f2⟩ := fill_spec hpl parts vparts' _ cs' (v.cells.zipIdx.foldl (fun cs (x : Value × Nat) => cs.setIfInBounds (off + x.2) x.1) cells) hp' (by
          have : (v.cells.zipIdx.foldl (fun cs (x : Value × Nat) => cs.setIfInBounds (off + x.2) x.1) cells).toList = cells.toList.take off ++ v.cells.toList ++ cells.toList.drop (off + n) := by
            rw [← Array.foldl_toList, Array.toList_zipIdx, hset]
            simp [hvn]
          rw [this]
          exact ((hc.take off).append hcells).append (hc.drop (off + n))) h
        refine ⟨cells', ?_, f2⟩
        unfold Instr.fill
        rw [hpl, hin]
        simp only
        rw [if_neg (by simp [hvn]; omega)]
        exact f1
      · cases h
    · cases h
theorem placesF_spec : ∀ {fs : List Field} {pl : List (Nat × Nat)}, placesF P fs = some pl → fs.mapM (fun f => (P.info? f.type).map fun i => (f.offset, i.size)) = some pl
  | [], pl, h => by simp [placesF] at h; simp [h]
  | f :: fs, pl, h => by
    simp only [placesF] at h
    split at h
    · rename_i i r h1 h2
      cases h
      simp [h1, placesF_spec h2]
    · cases h
theorem ofConst_agg {v : Value} {z : List PV} (h : ofConst v = .agg z) : ∃ arr, v = .agg arr ∧ z = arr.toList.map ofConst1 := by
  cases v
  case agg arr => simp only [ofConst] at h; cases h; exact ⟨arr, rfl, rfl⟩
  all_goals
    (simp only [ofConst] at h
     unfold ofConst1 at h
     split at h <;> cases h)
theorem rel_zero {arr : Array Value} (h1 : ∀ v ∈ arr, v.oneCell' = true) : All2 (RelC g) (arr.toList.map ofConst1) arr.toList :=
  ⟨by simp, fun i x y hx hy => by
    rw [List.getElem?_map, hy] at hx
    cases hx
    exact ofConst1_one y (h1 y (by have := List.mem_of_getElem? hy; simpa using this)) g⟩
theorem run_evBuild {t : TypeId} {parts : List (Nat × PV)} {vparts : Array (Nat × Value)} {r : PV} (he : evBuild P t parts = some r)
    (hp : All2 (fun (x : Nat × PV) (y : Nat × Value) => x.1 = y.1 ∧ Rel g x.2 y.2) parts vparts.toList) : ∃ z, (Instr.build t vparts).run P w = .ok z w ∧ Rel g r z := by
  unfold evBuild at he
  split at he
  · rename_i z pl h1 h2
    obtain ⟨cs', h3, rfl⟩ := Option.map_eq_some_iff.1 he
    obtain ⟨i, zv, hi, hzv, hz2, hone⟩ := zeroK_spec h1
    obtain ⟨arr, rfl, rfl⟩ := ofConst_agg hz2
    unfold placesK at h2
    split at h2
    · rename_i fs hu
      have hpl := placesF_spec h2
      obtain ⟨cells', f1, f2⟩ := fill_spec (g := g) (pl := pl) (place := (pl.toArray[·]?)) (by simp) parts vparts.toList _ cs' arr hp (rel_zero fun v hv => hone v (by simpa [Value.cells] using hv)) h3
      refine ⟨.agg cells', run_build w t vparts cells' ?_, by simp only [Rel, RelA]; exact ⟨cells', rfl, f2⟩⟩
      unfold Program.built
      simp only [hi, hu, hzv, hpl, Value.cells]
      exact f1
    · cases h2
  · cases he
end

/-- All operations that yield a value and leave memory alone. -/
def ev1 (P : Program) (Gl : Nat → Option (List PV)) (op : Op) (ρ : Operand → PV) (H : Nat → Option PObj) : Option PV :=
  match op with
  | .move x => some (ρ x)
  | .assign x => some (ρ x)
  | .pick c x y => match ρ c with | .bool c => some (if c = true then ρ x else ρ y) | _ => none
  | .nilCheck x => match ρ x with | .ref l o => some (.ref l o) | .cptr cs => some (.cptr cs) | .gptr i o => some (.gptr i o) | .fn f caps => some (.fn f caps) | _ => none
  | .binOp op t x y _ => evBin P op t (ρ x) (ρ y)
  | .unOp op _ x => evUn op (ρ x)
  | .convert src dst x => evConv P src dst (ρ x)
  | .fieldAddr t x f => evFieldAddr P t f (ρ x)
  | .field t x f => evField P t f (ρ x)
  | .indexAddr t x i => evIndexAddr P t (ρ x) (ρ i)
  | .index t x i => evIndex P t (ρ x) (ρ i)
  | .load t x => evLoad P Gl H t (ρ x)
  | .extract x i => match ρ x with | .tup vs => vs[i]? | _ => none
  | .slice t x lo hi mx => evSlice P t (lo.map ρ) (hi.map ρ) (mx.map ρ) (ρ x)
  | .build t parts => evBuild P t (parts.toList.map fun x => (x.1, ρ x.2))
  | .makeFunc (.func f) first caps => if first.toList = [] ∧ ((caps.toList.map ρ).all capOK) = true then some (.fn f (caps.toList.map ρ)) else none
  | .call c => match c.callee, c.args.toList, c.argTypes.toList with
    | .builtin .len, [x], [t] => evLen P H t (ρ x)
    | .builtin .min, [x, y], _ => evMinMax false (ρ x) (ρ y)
    | .builtin .max, [x, y], _ => evMinMax true (ρ x) (ρ y)
    | _, _, _ => none
  | _ => none

section
variable {P : Program} {Gl : Nat → Option (List PV)} {S0 : Cells} {w0 : World} {s : PSt} {a : Act} {g : GG} {w : World}
theorem toList_one {α : Type} {xs : Array α} {x : α} (h : xs.toList = [x]) : xs = #[x] := Array.toList_inj.1 (by simpa using h)
theorem toList_two {α : Type} {xs : Array α} {x y : α} (h : xs.toList = [x, y]) : xs = #[x, y] := Array.toList_inj.1 (by simpa using h)
theorem toList_nil {α : Type} {xs : Array α} (h : xs.toList = []) : xs = #[] := Array.toList_inj.1 (by simpa using h)
theorem relO_map (h : InvG Gl S0 w0 s a g) (x : Option Operand) : RelO g (x.map s.ev) (x.map a.eval) := by
  cases x with
  | none => trivial
  | some x => exact h.ev x
theorem run_min {p q r : PV} {ts : Array TypeId} {ty : TypeId} {u v : Value} (h : evMinMax false p q = some r) (hu : Rel g p u) (hv : Rel g q v) :
    ∃ z, (Builtin.min_ ts ty #[u, v]).run P w = .ok z w ∧ Rel g r z := by
  cases p <;> cases q <;> simp only [evMinMax] at h <;> try cases h
  rename_i k x k' y
  rw [relInt] at hu hv
  subst hu; subst hv
  by_cases hk : k = k'
  · rw [if_pos hk] at h; cases h
    refine ⟨_, by simp [Builtin.min_, Builtin.min2]; rfl, relInt.2 ?_⟩
    simp only [Bool.false_eq_true, if_false]
    congr 1
    show (if y < x then y else x) = min x y
    split <;> omega
  · rw [if_neg hk] at h; cases h
theorem run_max {p q r : PV} {ts : Array TypeId} {ty : TypeId} {u v : Value} (h : evMinMax true p q = some r) (hu : Rel g p u) (hv : Rel g q v) :
    ∃ z, (Builtin.max_ ts ty #[u, v]).run P w = .ok z w ∧ Rel g r z := by
  cases p <;> cases q <;> simp only [evMinMax] at h <;> try cases h
  rename_i k x k' y
  rw [relInt] at hu hv
  subst hu; subst hv
  by_cases hk : k = k'
  · rw [if_pos hk] at h; cases h
    refine ⟨_, by simp [Builtin.max_, Builtin.max2]; rfl, relInt.2 ?_⟩
    simp only [if_true]
    congr 1
    show (if y > x then y else x) = max x y
    split <;> omega
  · rw [if_neg hk] at h; cases h
/-- What such an operation does. -/
theorem run_ev1 (h : InvG Gl S0 w0 s a g) (o : Oper) {r : PV} (he : ev1 P Gl o.op s.ev s.H = some r) :
    ∃ z, (execOp a.eval o).run P g.w = .ok (.value z) g.w ∧ Rel g r z := by
  have key : ∀ (m : Sem Value), (∃ z, m.run P g.w = .ok z g.w ∧ Rel g r z) → ∃ z, (do pure (Next.value (← m)) : Sem Next).run P g.w = .ok (.value z) g.w ∧ Rel g r z := by
    rintro m ⟨z, h1, h2⟩
    exact ⟨z, by simp [h1], h2⟩
  unfold ev1 at he
  unfold execOp
  split at he
  · rename_i x hop; rw [hop]; cases he; exact ⟨_, rfl, h.ev x⟩
  · rename_i x hop; rw [hop]; cases he; exact ⟨_, rfl, h.ev x⟩
  · rename_i c x y hop
    rw [hop]
    have hc := h.ev c
    split at he
    · rename_i b hb
      rw [hb, relBool] at hc
      cases he
      refine ⟨if b then a.eval x else a.eval y, by simp [hc, asBool], ?_⟩
      cases b
      · exact h.ev y
      · exact h.ev x
    · cases he
  · rename_i x hop
    rw [hop]
    have hx := h.ev x
    split at he
    · rename_i l o hl
      rw [hl] at hx; cases he
      have hx' := hx
      rw [relRef] at hx
      exact ⟨a.eval x, by simp [hx.1], hx'⟩
    · rename_i cs hl
      rw [hl] at hx; cases he
      have hx' := hx
      rw [relCptr] at hx
      obtain ⟨B, o, e, _⟩ := hx
      exact ⟨a.eval x, by simp [e], hx'⟩
    · rename_i i o hl
      rw [hl] at hx; cases he
      have hx' := hx
      rw [relGptr] at hx
      exact ⟨a.eval x, by simp [hx], hx'⟩
    · rename_i f caps hl
      rw [hl] at hx; cases he
      have hx' := hx
      simp only [Rel, RelA, Rel1] at hx
      obtain ⟨arr, e, _⟩ := hx
      exact ⟨a.eval x, by simp [e], hx'⟩
    · cases he
  · rename_i op t x y yt hop
    rw [hop]
    exact key _ (run_evBin he (h.ev x) (h.ev y))
  · rename_i op t x hop; rw [hop]; exact key _ (run_evUn he (h.ev x))
  · rename_i src dst x hop; rw [hop]; exact key _ (run_evConv he (h.ev x))
  · rename_i t x f hop; rw [hop]; exact key _ (run_evFieldAddr he (h.ev x) rfl)
  · rename_i t x f hop; rw [hop]; exact key _ (run_evField he (h.ev x))
  · rename_i t x i hop; rw [hop]; exact key _ (run_evIndexAddr he (h.ev x) (h.ev i) rfl)
  · rename_i t x i hop; rw [hop]; exact key _ (run_evIndex he (h.ev x) (h.ev i))
  · rename_i t x hop; rw [hop]; exact key _ (run_evLoad h he (h.ev x))
  · rename_i x i hop
    rw [hop]
    have hx := h.ev x
    split at he
    · rename_i vs hvs
      rw [hvs] at hx
      simp only [Rel] at hx
      obtain ⟨arr, e, hr⟩ := hx
      obtain ⟨z, hz1, hz2⟩ := hr.right he
      refine key _ ⟨z, by rw [e]; simp only [Instr.extract]; rw [show arr[i]? = some z by simpa using hz1]; rfl, ?_⟩
      cases r
      case tup vs => exact hz2.elim
      all_goals exact hz2
    · cases he
  · rename_i t x lo hi mx hop
    rw [hop]
    exact key _ (run_evSlice he (h.ev x) rfl (relO_map h lo) (relO_map h hi) (relO_map h mx))
  · rename_i t parts hop
    rw [hop]
    refine key _ (run_evBuild he ⟨by simp, fun i x y hx hy => ?_⟩)
    simp only [List.getElem?_map, Array.toList_map] at hx hy
    cases hp : parts.toList[i]? with
    | none => rw [hp] at hx; cases hx
    | some q =>
      rw [hp] at hx hy
      cases hx; cases hy
      exact ⟨rfl, h.ev q.2⟩
  · rename_i f first caps hop
    rw [hop]
    split at he
    · rename_i hc
      obtain ⟨h1, h2⟩ := hc
      cases he
      rw [toList_nil h1]
      refine key _ ⟨_, rfl, ?_⟩
      simp only [Rel, RelA, Rel1]
      refine ⟨caps.map a.eval, by simp, by simp, fun i x y hx hy => ?_⟩
      simp only [List.getElem?_map, Array.toList_map] at hx hy
      cases hp : caps.toList[i]? with
      | none => rw [hp] at hx; cases hx
      | some q =>
        rw [hp] at hx hy
        cases hx; cases hy
        have hcap : capOK (s.ev q) = true := List.all_eq_true.1 h2 _ (List.mem_map.2 ⟨q, List.mem_of_getElem? hp, rfl⟩)
        have hq := h.ev q
        cases he : s.ev q <;> rw [he] at hq hcap <;> simp only [capOK] at hcap <;> try cases hcap
        all_goals exact hq
    · cases he
  · rename_i c hop
    rw [hop]
    split at he
    · rename_i x t h1 h2 h3
      have ha := toList_one h2
      have hb := toList_one h3
      have hr := run_evLen h (ty := o.type) he (h.ev x)
      obtain ⟨z, hz1, hz2⟩ := hr
      exact ⟨z, by simp [resolve, h1, ha, hb, invoke, builtin, hz1], hz2⟩
    · rename_i x y h1 h2
      obtain ⟨z, hz1, hz2⟩ := run_min (P := P) (w := g.w) (ts := c.argTypes) (ty := o.type) he (h.ev x) (h.ev y)
      exact ⟨z, by simp [resolve, h1, toList_two h2, invoke, builtin, hz1], hz2⟩
    · rename_i x y h1 h2
      obtain ⟨z, hz1, hz2⟩ := run_max (P := P) (w := g.w) (ts := c.argTypes) (ty := o.type) he (h.ev x) (h.ev y)
      exact ⟨z, by simp [resolve, h1, toList_two h2, invoke, builtin, hz1], hz2⟩
    · cases he
  · cases he
end
end PM
