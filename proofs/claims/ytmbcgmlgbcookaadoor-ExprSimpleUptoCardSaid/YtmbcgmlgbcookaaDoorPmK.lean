/-
  THE PURE MACHINE, K: interfaces that hold a structure of data; ranges over a map that does not change (whatever the order).
-/
import Derived.Test.YtmbcgmlgbcookaaDoorPmQt
import Derived.Maps.RangeRun
namespace PM
open Go Go.RowKit

section
variable {P : Program} {Gl : Nat → Option (List PV)} {s : PSt} {Ls : List (Oper × Gd)} {Q : PSt → Prop}
/-! ### Interfaces -/
def mkiHd (P : Program) : List (Oper × Gd) → PSt → Option (TypeId × List PV)
  | (o, .always) :: _, s => match o.op with
    | .makeInterface t x => match s.ev x with
      | .agg cs => if noIface (P.underlying t) = true then (datumL cs).map fun ds => (t, ds) else none
      | _ => none
    | _ => none
  | _, _ => none
theorem p_mki {t : TypeId} {cs : List PV} (h : mkiHd P Ls s = some (t, cs)) (h2 : pops P Gl false (Ls.drop 1) (s.put (dstHd Ls) (.ifp t cs)) Q) : pops P Gl false Ls s Q := by
  unfold mkiHd at h
  split at h
  · rename_i s0 o rest
    split at h
    · rename_i t' x hop
      split at h
      · rename_i cs0 e1
        split at h
        · rename_i hif
          obtain ⟨ds, hds, e2⟩ := Option.map_eq_some_iff.1 h
          cases e2
          refine p_sem (n := s) (v := .ifp t cs) (by rw [hop]; rfl) ?_ h2
          intro S0 w0 a g K Q' hg hK
          have hx := hg.ev x
          rw [e1] at hx
          obtain ⟨arr, hv, hall⟩ := (show RelA g (.agg cs0) (a.eval x) from hx)
          have hfull : (execOp a.eval o).run P g.w = .ok (.value (.iface t (a.eval x))) g.w := by
            cases hu : P.underlying t with
            | none => rw [hu] at hif; cases hif
            | some D =>
              rw [hu] at hif
              cases D <;> first | (cases hif; done) | simp [execOp, hop, Instr.makeInterface, run_underlying hu]
          unfold Oper.wp
          rw [hfull]
          refine hK _ g hg (GLe.refl g) ?_
          rw [hv]
          simp only [Rel, RelA, Rel1, RelD]
          exact ⟨arr, rfl, (relDs_iff _ _).2 ((datumL_spec hall hds).mono fun _ _ q => q.1)⟩
        · cases h
      · cases h
    · cases h
  · cases h
def tasHd (P : Program) : List (Oper × Gd) → PSt → Option (TypeId × TypeId × List PV)
  | (o, .always) :: _, s => match o.op with
    | .typeAssert x _ t true => match s.ev x with
      | .ifp t' cs => if (noIface (P.underlying t) && cs.all PV.one && (zeroK P t).isSome) = true then some (t, t', cs) else none
      | _ => none
    | _ => none
  | _, _ => none
theorem p_tas_t {t t' : TypeId} {cs : List PV} (h : tasHd P Ls s = some (t, t', cs)) (hb : decide (t' = t) = true) (h2 : pops P Gl false (Ls.drop 1) (s.put (dstHd Ls) (.tup [.agg cs, .bool true])) Q) : pops P Gl false Ls s Q := by
  have hb := of_decide_eq_true hb
  unfold tasHd at h
  split at h
  · rename_i s0 o rest
    split at h
    · rename_i x xT t0 hop
      split at h
      · rename_i t1 cs' e1
        split at h
        · rename_i hc
          cases h
          simp only [Bool.and_eq_true] at hc
          obtain ⟨⟨hif, hone⟩, _⟩ := hc
          subst hb
          refine p_sem (n := s) (v := PV.tup [PV.agg cs, PV.bool true]) (by rw [hop]; rfl) ?_ h2
          intro S0 w0 a g K Q' hg hK
          have hx := hg.ev x
          rw [e1] at hx
          simp only [Rel, RelA, Rel1, RelD] at hx
          obtain ⟨arr, hv, hall⟩ := hx
          have hfull : (execOp a.eval o).run P g.w = .ok (.value (.tuple #[.agg arr, .bool true])) g.w := by
            cases hu : P.underlying t' with
            | none => rw [hu] at hif; cases hif
            | some D =>
              rw [hu] at hif
              cases D <;> first | (cases hif; done) | simp [execOp, hop, Instr.typeAssert, run_underlying hu, hv]
          unfold Oper.wp
          rw [hfull]
          refine hK _ g hg (GLe.refl g) ⟨_, rfl, .cons ?_ (.cons (by simp [RelA, Rel1, RelD]) .nil)⟩
          have hall := (relDs_iff _ _).1 hall
          refine ⟨arr, rfl, hall.1, fun i p v hp hv => ?_⟩
          have hr := hall.2 i p v hp hv
          have ho := List.all_eq_true.1 hone p (List.mem_of_getElem? hp)
          exact ⟨Rel1.of_data hr ho, (hr.oneCell ho).1⟩
        · cases h
      · cases h
    · cases h
  · cases h
theorem p_tas_f {t t' : TypeId} {cs : List PV} (h : tasHd P Ls s = some (t, t', cs)) (hb : decide (t' = t) = false) (h2 : pops P Gl false (Ls.drop 1) (s.put (dstHd Ls) (.tup [.any, .bool false])) Q) : pops P Gl false Ls s Q := by
  have hb := of_decide_eq_false hb
  unfold tasHd at h
  split at h
  · rename_i s0 o rest
    split at h
    · rename_i x xT t0 hop
      split at h
      · rename_i t1 cs' e1
        split at h
        · rename_i hc
          cases h
          simp only [Bool.and_eq_true] at hc
          obtain ⟨⟨hif, _⟩, hz⟩ := hc
          refine p_sem (n := s) (v := PV.tup [PV.any, PV.bool false]) (by rw [hop]; rfl) ?_ h2
          intro S0 w0 a g K Q' hg hK
          have hx := hg.ev x
          rw [e1] at hx
          simp only [Rel, RelA, Rel1, RelD] at hx
          obtain ⟨arr, hv, hall⟩ := hx
          obtain ⟨z, hz⟩ := Option.isSome_iff_exists.1 hz
          obtain ⟨i, zv, k1, k2, _⟩ := zeroK_spec hz
          have hfull : (execOp a.eval o).run P g.w = .ok (.value (.tuple #[zv, .bool false])) g.w := by
            cases hu : P.underlying t with
            | none => rw [hu] at hif; cases hif
            | some D =>
              rw [hu] at hif
              cases D <;> first | (cases hif; done) | simp [execOp, hop, Instr.typeAssert, run_underlying hu, hv, hb, zeroValue, typeInfo, k1, k2]
          unfold Oper.wp
          rw [hfull]
          exact hK _ g hg (GLe.refl g) ⟨_, rfl, .cons (by trivial) (.cons (by simp [RelA, Rel1, RelD]) .nil)⟩
        · cases h
      · cases h
    · cases h
  · cases h
/-! ### Ranges over a map that does not change -/
def rngmHd (P : Program) : List (Oper × Gd) → PSt → Option (List PV × List PV × Nat)
  | (o, .always) :: _, s => match o.op, o.dst with
    | .range t x, some d => match s.ev x with
      | .fmp ks vs => if (mapT P t && ((s.H d).isNone && decide (d < 1000000))) = true then some (ks, vs, d) else none
      | _ => none
    | _, _ => none
  | _, _ => none
theorem p_mrange {ks vs : List PV} {l : Nat} (h : rngmHd P Ls s = some (ks, vs, l)) (h2 : pops P Gl false (Ls.drop 1) (({ s with H := upd s.H l (some (.miter ks vs (List.range ks.length) none)) } : PSt).put (some l) (.ref l 0)) Q) : pops P Gl false Ls s Q := by
  unfold rngmHd at h
  split at h
  · rename_i s0 o rest
    split at h
    · rename_i t x d hop hdst
      split at h
      · rename_i ks' vs' hx
        split at h
        · rename_i hc
          simp only [Option.some.injEq, Prod.mk.injEq] at h
          obtain ⟨rfl, rfl, rfl⟩ := h
          simp only [Bool.and_eq_true, decide_eq_true_eq] at hc
          obtain ⟨ht, hH, hd6⟩ := hc
          refine p_sem (n := { s with H := upd s.H d (some (.miter ks' vs' (List.range ks'.length) none)) }) (v := .ref d 0) (by rw [hop]; rfl) ?_ (by rw [hdst]; exact h2)
          intro S0 w0 a g K Q' hg hK
          have hxr : RelD g.S g.w (.fmp ks' vs') (a.eval x) := by have := hg.ev x; rw [hx] at this; exact this
          have hz := hg.below.size
          have hl : g.H d = none := by rw [hg.hH]; simpa using hH
          obtain ⟨kt, et, ht'⟩ : ∃ kt et, P.underlying t = some (.map kt et) := by
            unfold mapT at ht
            split at ht
            · rename_i kt et hu; exact ⟨kt, et, hu⟩
            · cases ht
          have key : ∀ ob : Obj, (∀ g' : GG, GLe g g' → g'.w = g.w.alloc ob → MIter g'.S g'.w g.w.heap.size ks' vs' (List.range ks'.length) none) → (execOp a.eval o).run P g.w = .ok (.value (.pointer (some ⟨g.w.heap.size, 0, none⟩))) (g.w.alloc ob) → o.wp P a g.w K Q' := by
            intro ob hob hrun
            obtain ⟨h1, e1⟩ := hg.grow' (below_alloc g.w ob)
            obtain ⟨h2', e2⟩ := h1.addObj (l := d) (B := g.w.heap.size) (ob := .miter ks' vs' (List.range ks'.length) none) hl hd6 (.inl (by omega)) (by show g.w.heap.size < (g.w.alloc _).heap.size; simp) (fun o ho => by have := hg.lt _ _ ho; omega)
              (fun l' hl' => hg.phi_lt l' hl') (fun t ht => hg.spare_lt t (ht.congr rfl rfl)) (fun t ht => hg.xb_lt t (ht.congr rfl)) (fun g' hg' hw' => hob g' (e1.trans hg') hw')
            unfold Oper.wp
            rw [hrun]
            exact hK _ _ h2' (e1.trans e2) (by simp [Rel, RelA, Rel1, upd])
          simp only [RelD] at hxr
          obtain ⟨_, ⟨e0, e1, e2⟩ | ⟨B, arr, clock, e0, e1, ⟨e2, e3⟩, e4, e5⟩⟩ := hxr
          · refine key (.mapIter none 0 #[] 0) (fun g' _ hw' => .inl ⟨by rw [hw']; exact heap_alloc_new g.w _, by rw [e1]; rfl, rfl⟩) ?_
            simp [execOp, hop, Instr.range, e0, run_underlying ht', newObj, Sem.run]
          · refine key (.mapIter (some B) clock #[] clock) (fun g' hg' hw' => .inr ⟨B, arr, clock, #[], by rw [hw']; exact heap_alloc_new g.w _, fun o => hg'.S _ _ (e1 o), ⟨by rw [hg'.blk B e1]; exact e2, e3⟩, RelDs.mono hg'.S hg'.cell hg'.blk _ _ e4, RelDs.mono hg'.S hg'.cell hg'.blk _ _ e5, fun i e he => ?_, fun i hi => ?_, List.nodup_range, fun i hi => by cases hi⟩) ?_
            · have hlen := ((relDs_iff _ _).1 e4).1
              simp only [List.length_map, Array.length_toList] at hlen
              have := (Array.getElem?_eq_some_iff.1 he).1
              exact ⟨fun _ => by simp, fun _ => by rw [List.mem_range]; omega⟩
            · have hlen := ((relDs_iff _ _).1 e4).1
              simp only [List.length_map, Array.length_toList] at hlen
              rw [List.mem_range] at hi; omega
            · simp [execOp, hop, Instr.range, e0, run_underlying ht', MapKept.run_getObj_map e2, newObj, Sem.run]
        · cases h
      · cases h
    · cases h
  · cases h
def nxmHd : List (Oper × Gd) → PSt → Option Nat
  | (o, .always) :: _, s => match o.op with
    | .next it false => match s.ev it with
      | .ref l 0 => some l
      | _ => none
    | _ => none
  | _, _ => none
theorem but_setBlock {w w1 : World} (hw : w1 = w ∨ w1 = w.drew) (r : Nat) (ob : Obj) : (ChangeMaps.setBlock w1 r ob).heap = w.heap.setIfInBounds r ob := by
  rcases hw with rfl | rfl <;> rfl
theorem p_mnext_any {ks vs : List PV} {left : List Nat} {cur : Option Nat} {l : Nat} {o : Oper} {rest : List (Oper × Gd)} {it : Operand} (hH : s.H l = some (.miter ks vs left cur)) (hop : o.op = .next it false) (hx : s.ev it = .ref l 0) (hne : left ≠ [])
    (ht : ∀ i ∈ left, pops P Gl false rest (({ s with H := upd s.H l (some (.miter ks vs (left.erase i) (some i))) } : PSt).put o.dst (.tup [.bool true, .any, .any])) Q) : pops P Gl false ((o, Gd.always) :: rest) s Q := by
  refine p_semN (C := fun i => i ∈ left) (n := fun i => { s with H := upd s.H l (some (.miter ks vs (left.erase i) (some i))) }) (v := .tup [.bool true, .any, .any]) (by rw [hop]; rfl) ?_ ht
  intro S0 w0 a g K Q' hg hK
  have hgl : g.H l = some (.miter ks vs left cur) := by rw [hg.hH]; exact hH
  obtain ⟨o1, o2, o3, o4⟩ := hg.objs l _ hgl
  have hxr : a.eval it = .pointer (some ⟨g.φ l, 0, none⟩) := by have := hg.ev it; rw [hx] at this; exact this.1
  rcases (show MIter g.S g.w (g.φ l) ks vs left cur from o4) with ⟨_, q, _⟩ | ⟨bm, arr, clock, seen, m1, m2, ⟨m3, m4⟩, m5, m6, m7, m8, m9, m10⟩
  · exact absurd q hne
  · rcases run_next_at (P := P) g.w o.type (g.φ l) bm clock clock seen arr clock m1 m3 m4.2 (Nat.le_refl _) with ⟨h4, _⟩ | ⟨e, he, w1, hw1, hrun⟩
    · exfalso
      obtain ⟨i, hi⟩ := List.exists_mem_of_ne_nil left hne
      have hlt := m8 i hi
      have hc := (m7 i _ (Array.getElem?_eq_getElem hlt)).1 hi
      have : arr[i] ∈ leftOf arr seen := Array.mem_filter.2 ⟨Array.getElem_mem hlt, by rw [hc]; rfl⟩
      have := Array.size_pos_of_mem this
      omega
    · obtain ⟨q1, q2⟩ := mem_left he
      obtain ⟨i, hi⟩ := List.getElem?_of_mem q1
      have hi' : arr[i]? = some e := by rw [← Array.getElem?_toList]; exact hi
      have hil : i ∈ left := (m7 i e hi').2 q2
      have hg1 : ∃ g1 : GG, InvG Gl S0 w0 s a g1 ∧ GLe g g1 ∧ g1.w = w1 ∧ g1.H = g.H ∧ g1.φ = g.φ := by
        rcases hw1 with rfl | rfl
        · exact ⟨g, hg, GLe.refl g, rfl, rfl, rfl⟩
        · obtain ⟨h1, e1⟩ := hg.grow' (BelowD.refl g.w.heap.size g.w).drew
          exact ⟨_, h1, e1, rfl, rfl, rfl⟩
      obtain ⟨g1, h1, e1, hw, hH1, hφ⟩ := hg1
      have hhp : w1.heap = g.w.heap := by rcases hw1 with rfl | rfl <;> rfl
      have hlt : g.φ l < g.w.heap.size := o2
      have hset : ∀ r, r ≠ g.φ l → (ChangeMaps.setBlock w1 (g.φ l) (.mapIter (some bm) clock (seen.push e.born) clock)).heap[r]? = w1.heap[r]? := fun r hr => by
        show (w1.heap.setIfInBounds _ _)[r]? = _
        rw [Array.getElem?_setIfInBounds, if_neg (Ne.symm hr)]
      have hself : (ChangeMaps.setBlock w1 (g.φ l) (.mapIter (some bm) clock (seen.push e.born) clock)).heap[g.φ l]? = some (.mapIter (some bm) clock (seen.push e.born) clock) := by
        show (w1.heap.setIfInBounds _ _)[g.φ l]? = _
        rw [Array.getElem?_setIfInBounds, if_pos rfl, if_pos (by rw [hhp]; exact hlt)]
      obtain ⟨h2', e2⟩ := h1.setObj (l := l) (ob := .miter ks vs left cur) (ob' := .miter ks vs (left.erase i) (some i)) (w' := ChangeMaps.setBlock w1 (g.φ l) (.mapIter (some bm) clock (seen.push e.born) clock)) (by rw [hH1]; exact hgl)
        (by rw [hw, hφ]; exact ⟨rfl, rfl, rfl, by show (w1.heap.setIfInBounds _ _).size = _; simp, hset, rfl⟩) (fun cs e => by cases e) (fun g' hg' hw' => by
          rw [hφ]
          have hle := e1.trans hg'
          refine .inr ⟨bm, arr, clock, seen.push e.born, by rw [hw']; exact hself, fun o => hle.S _ _ (m2 o), ⟨by rw [hle.blk bm m2]; exact m3, m4⟩, RelDs.mono hle.S hle.cell hle.blk _ _ m5, RelDs.mono hle.S hle.cell hle.blk _ _ m6, fun j f hj => ?_, fun j hj => m8 j (List.mem_of_mem_erase hj), m9.erase i, fun j hj => by cases hj; exact ⟨e, seen, hi', rfl⟩⟩
          rw [m9.mem_erase_iff, m7 j f hj, contains_push, Bool.or_eq_false_iff]
          refine ⟨fun ⟨k1, k2⟩ => ⟨k2, ?_⟩, fun ⟨k1, k2⟩ => ⟨fun hij => ?_, k1⟩⟩
          · rw [beq_eq_false_iff_ne]
            intro hb
            apply k1
            have h3 : (arr.toList.map (·.born))[j]? = (arr.toList.map (·.born))[i]? := by
              rw [List.getElem?_map, List.getElem?_map, Array.getElem?_toList, Array.getElem?_toList, hj, hi']; simp [hb]
            exact (List.getElem?_inj (by rw [List.length_map, Array.length_toList]; exact (Array.getElem?_eq_some_iff.1 hj).1) m4.1).1 h3
          · subst hij
            rw [hi'] at hj; cases hj
            rw [beq_self_eq_true] at k2; cases k2)
      have hfull : (execOp a.eval o).run P g.w = .ok (.value (.tuple #[.bool true, e.key, e.val])) (ChangeMaps.setBlock w1 (g.φ l) (.mapIter (some bm) clock (seen.push e.born) clock)) := by
        simp [execOp, hop, hxr, hrun]
      unfold Oper.wp
      rw [hfull]
      exact hK i _ _ hil h2' (e1.trans e2) ⟨_, rfl, .cons (by simp [RelA, Rel1, RelD]) (.cons (by trivial) (.cons (by trivial) .nil))⟩
theorem p_mnext {ks vs : List PV} {left : List Nat} {cur : Option Nat} (l : Nat) (hH : s.H l = some (.miter ks vs left cur)) (h : nxmHd Ls s = some l)
    (hf : left = [] → pops P Gl false (Ls.drop 1) (s.put (dstHd Ls) (.tup [.bool false])) Q)
    (ht : ∀ i ∈ left, pops P Gl false (Ls.drop 1) (({ s with H := upd s.H l (some (.miter ks vs (left.erase i) (some i))) } : PSt).put (dstHd Ls) (.tup [.bool true, .any, .any])) Q) : pops P Gl false Ls s Q := by
  have hnx := h
  unfold nxmHd at h
  split at h
  · rename_i s0 o rest
    split at h
    · rename_i it hop
      split at h
      · rename_i l' hx
        cases h
        by_cases hne : left = []
        · refine p_sem (n := s) (v := .tup [.bool false]) (by rw [hop]; rfl) ?_ (hf hne)
          intro S0 w0 a g K Q' hg hK
          have hgl : g.H l = some (.miter ks vs left cur) := by rw [hg.hH]; exact hH
          obtain ⟨o1, o2, o3, o4⟩ := hg.objs l _ hgl
          have hxr : a.eval it = .pointer (some ⟨g.φ l, 0, none⟩) := by have := hg.ev it; rw [hx] at this; exact this.1
          have hrun : (Instr.next (.pointer (some ⟨g.φ l, 0, none⟩)) false o.type).run P g.w = .ok (.tuple #[.bool false]) g.w := by
            rcases (show MIter g.S g.w (g.φ l) ks vs left cur from o4) with ⟨m1, _⟩ | ⟨bm, arr, clock, seen, m1, m2, ⟨m3, m4⟩, m5, m6, m7, m8, m9, m10⟩
            · simp [Instr.next, getObj, Sem.run, m1]
            · rcases run_next_at (P := P) g.w o.type (g.φ l) bm clock clock seen arr clock m1 m3 m4.2 (Nat.le_refl _) with ⟨_, h5⟩ | ⟨e, he, _⟩
              · exact h5
              · obtain ⟨q1, q2⟩ := mem_left he
                obtain ⟨i, hi⟩ := List.getElem?_of_mem q1
                have := (m7 i e (by rw [← Array.getElem?_toList]; exact hi)).2 q2
                rw [hne] at this; cases this
          have hfull : (execOp a.eval o).run P g.w = .ok (.value (.tuple #[.bool false])) g.w := by
            simp [execOp, hop, hxr, hrun]
          unfold Oper.wp
          rw [hfull]
          exact hK _ g hg (GLe.refl g) ⟨_, rfl, .cons (by simp [RelA, Rel1, RelD]) .nil⟩
        · refine p_mnext_any (o := o) (rest := rest) hH hop hx hne ht
      · cases h
    · cases h
  · cases h
def entHd : List (Oper × Gd) → PSt → Option Nat
  | (o, .always) :: _, s => match o.op with
    | .entry it => match s.ev it with
      | .ref l 0 => some l
      | _ => none
    | _ => none
  | _, _ => none
theorem p_mentry {ks vs : List PV} {left : List Nat} {i : Nat} {p : PV} (l : Nat) (hH : s.H l = some (.miter ks vs left (some i))) (hp : ks[i]? = some p) (ho : p.one = true) (h : entHd Ls s = some l)
    (h2 : pops P Gl false (Ls.drop 1) (s.put (dstHd Ls) (.tup [p, .any])) Q) : pops P Gl false Ls s Q := by
  unfold entHd at h
  split at h
  · rename_i s0 o rest
    split at h
    · rename_i it hop
      split at h
      · rename_i l' hx
        cases h
        refine p_sem (n := s) (v := .tup [p, .any]) (by rw [hop]; rfl) ?_ h2
        intro S0 w0 a g K Q' hg hK
        have hgl : g.H l = some (.miter ks vs left (some i)) := by rw [hg.hH]; exact hH
        obtain ⟨o1, o2, o3, o4⟩ := hg.objs l _ hgl
        have hxr : a.eval it = .pointer (some ⟨g.φ l, 0, none⟩) := by have := hg.ev it; rw [hx] at this; exact this.1
        rcases (show MIter g.S g.w (g.φ l) ks vs left (some i) from o4) with ⟨_, _, q⟩ | ⟨bm, arr, clock, seen, m1, m2, ⟨m3, m4⟩, m5, m6, m7, m8, m9, m10⟩
        · cases q
        · obtain ⟨e, seen', he, rfl⟩ := m10 i rfl
          have hrun := run_entry_at (P := P) g.w (g.φ l) bm clock seen' arr clock e m1 m3 (Array.mem_toList_iff.2 (Array.mem_of_getElem? he)) m4.1
          have hfull : (execOp a.eval o).run P g.w = .ok (.value (.tuple #[e.key, e.val])) g.w := by
            simp [execOp, hop, hxr, hrun]
          unfold Oper.wp
          rw [hfull]
          have hk := ((relDs_iff _ _).1 m5).2 i p e.key hp (by rw [List.getElem?_map, Array.getElem?_toList, he]; rfl)
          refine hK _ g hg (GLe.refl g) ⟨_, rfl, .cons ?_ (.cons (by trivial) .nil)⟩
          have := Rel1.of_data hk ho
          cases p <;> first | exact this | cases ho
      · cases h
    · cases h
  · cases h
end
/-! ### copy into a list that nobody else holds (elements of one cell) -/
section
variable {P : Program} {Gl : Nat → Option (List PV)} {s : PSt} {Ls : List (Oper × Gd)} {Q : PSt → Prop} {α : Type} [Enc α]
def xcpHd (P : Program) : List (Oper × Gd) → PSt → Option (PV × Nat × List (List PV))
  | (o, .always) :: _, s => match o.op with
    | .call c => match c.callee, c.args.toList, c.argTypes.toList with
      | .builtin .copy, [x, y], [t, _] => match appK P t with
        | some (e, k, b) => if decide ((P.info? e).map (·.size) = some 1 ∧ k = 1) = true then (ysOf 1 (s.ev y)).map fun yss => (s.ev x, b, yss) else none
        | none => none
      | _, _, _ => none
    | _ => none
  | _, _ => none
omit [Enc α] in
theorem flat_ones : ∀ (l : List (List PV)) (n : Nat), (∀ c ∈ l, c.length = 1) → (l.take n).flatten = l.flatten.take n ∧ (l.drop n).flatten = l.flatten.drop n
  | [], n, _ => by simp
  | c :: l, 0, _ => by simp
  | c :: l, n + 1, h => by
    obtain ⟨i1, i2⟩ := flat_ones l n fun c hc => h c (by simp [hc])
    have hc := h c (by simp)
    match c, hc with
    | [x], _ => simp [i1, i2]
def xcpO (L : List α) (N : Nat) (ys : List α) : Option (List α) := if L.length = N then some (ys.take N ++ L.drop ys.length) else none
theorem p_xcp {L ys M : List α} {tk N : Nat} (hM : xcpO L N ys = some M) (hk1 : Enc.k α = 1) (hX : s.X tk = some (Enc.k α, Enc.b α, L.map cellsOf)) (hT : s.T tk = some (N, 0)) (h : xcpHd P Ls s = some (.ex tk (Enc.k α) (Enc.b α) N 0 N, Enc.b α, ys.map cellsOf))
    (h2 : pops P Gl false (Ls.drop 1) (({ s with X := upd s.X tk (some (Enc.k α, Enc.b α, M.map cellsOf)) } : PSt).put (dstHd Ls) .any) Q) : pops P Gl false Ls s Q := by
  unfold xcpO at hM
  split at hM
  · rename_i hLN
    cases hM
    unfold xcpHd at h
    split at h
    · rename_i s0 oo rest
      split at h
      · rename_i c hop
        split at h
        · rename_i x y t t' hcal hargs htys
          split at h
          · rename_i e k b hk
            split at h
            · rename_i hdec
              obtain ⟨hsz, rfl⟩ := of_decide_eq_true hdec
              obtain ⟨yss, hys, h⟩ := Option.map_eq_some_iff.1 h
              simp only [Prod.mk.injEq] at h
              obtain ⟨hx, rfl, rfl⟩ := h
              refine p_sem (n := { s with X := upd s.X tk (some (Enc.k α, Enc.b α, (ys.take N ++ L.drop ys.length).map cellsOf)) }) (v := .any) (by rw [hop]; rfl) ?_ h2
              intro S0 w0 a g K Q' hg hK
              obtain ⟨i', z', k1, k2, k3, k4, k5, k6, k7⟩ := appK_spec hk
              have hxv := hg.ev x
              rw [hx] at hxv
              simp only [Rel, RelA, Rel1] at hxv
              obtain ⟨⟨base, cap0, hxe, hcap0, _⟩, N', r1, r2, r3⟩ := hxv
              rw [hg.hT, hT] at r1; cases r1
              obtain ⟨q1, q2, q3, q4, q5, q6⟩ := hg.exs tk _ _ _ hX
              have hyr := hg.ev y
              have hy : ∃ b', RelD g.S g.w (.lst .frozen 1 b' (ys.map cellsOf)) (a.eval y) := by
                unfold ysOf at hys
                split at hys
                · rename_i hyn
                  simp only [Option.some.injEq] at hys
                  rw [hyn] at hyr
                  rw [← hys]
                  exact ⟨0, RelD.ofNil _ 0 (.inl rfl) hyr⟩
                · rename_i oy k' b' yss' hyl
                  split at hys
                  · rename_i hkk
                    simp only [Option.some.injEq] at hys
                    rw [hyl] at hyr
                    rw [← hkk, ← hys]
                    exact ⟨b', relLst hyr⟩
                  · cases hys
                · cases hys
              obtain ⟨b', hy⟩ := hy
              obtain ⟨ybase, ycap, hye, y1, y2, y3, us, u1, u2, u3, u4⟩ := lst_values hy
              have hyl : (ys.map cellsOf).length = ys.length := by simp
              rw [hyl] at hye y1
              rw [List.length_map, Nat.mul_one] at u1
              have h1 : c.args = #[x, y] := toList_two hargs
              have h2' : c.argTypes = #[t, t'] := toList_two htys
              have hmapM : ((ys.take N ++ L.drop ys.length).map cellsOf) = (ys.map cellsOf).take N ++ (L.map cellsOf).drop ys.length := by simp [List.map_take, List.map_drop]
              by_cases hn0 : Nat.min ys.length N = 0
              · have hsame : ys.take N ++ L.drop ys.length = L := by
                  rcases Nat.eq_zero_or_pos N with h0 | h0
                  · subst h0
                    have : L = [] := List.eq_nil_of_length_eq_zero hLN
                    subst this; simp
                  · have : ys.length = 0 := by
                      have : min ys.length N = 0 := hn0
                      omega
                    have : ys = [] := List.eq_nil_of_length_eq_zero this
                    subst this; simp
                have hX2 : upd s.X tk (some (Enc.k α, Enc.b α, (ys.take N ++ L.drop ys.length).map cellsOf)) = s.X := by
                  rw [hsame]; funext z
                  by_cases e : z = tk
                  · subst e; rw [upd_same, hX]
                  · rw [upd_other _ _ _ _ e]
                have hrun : (execOp a.eval oo).run P g.w = .ok (.value (goInt 0)) g.w := by
                  have hrc := run_copy_none (P := P) g.w t t' oo.type e base ybase N cap0 ys.length ycap k1 hsz hn0
                  simp [execOp, hop, resolve, hcal, h1, h2', invoke, builtin, hxe, hye, hrc]
                unfold Oper.wp
                rw [hrun]
                exact hK _ g (by rw [hX2]; exact hg) (GLe.refl g) (Rel.any _ _)
              · have hn1 : min ys.length N ≠ 0 := hn0
                rcases q6 with ⟨_, hnil⟩ | ⟨B, cap, e3, hc0, p1, p2, p3, p4, ⟨vs, v1, v2⟩, p5, p6, p7⟩
                · have : L.length = 0 := by have := congrArg List.length hnil; simpa using this
                  omega
                · rcases r3 rfl with ⟨_, f4, _, _⟩ | ⟨B1, cap1, off, e1, _, _, _, e2, e4⟩
                  · omega
                  · rw [e3] at e1
                    simp only [Value.slice.injEq, Option.some.injEq, Addr.mk.injEq, and_true] at e1
                    obtain ⟨rfl, _, rfl⟩ := e1
                    have hoff : off = 0 := by
                      rcases e4 with e4 | e4
                      · simpa using e4
                      · omega
                    subst hoff
                    have hlen : (L.map cellsOf).length = N := by simpa using hLN
                    have hfl : (L.map cellsOf).flatten.length = N := by rw [flat_length q3, hlen, hk1, Nat.mul_one]
                    have hvl : vs.length = N := by rw [← v1.1, hfl]
                    have hbase : base = some ⟨B, 0, none⟩ := by rw [hxe] at e2; exact (Value.slice.inj e2).1
                    obtain ⟨ad, hyb⟩ : ∃ ad, ybase = some ad := by
                      cases ybase with
                      | none =>
                        have h9 : (ys.map cellsOf).length = 0 := by rw [(y3 rfl).2]; rfl
                        rw [hyl] at h9; omega
                      | some ad => exact ⟨ad, rfl⟩
                    subst hyb
                    have hq := hy
                    simp only [RelD] at hq
                    rw [hye] at hq
                    obtain ⟨_, _, _, ⟨_, hq⟩ | ⟨B2, off2, _, hq, _⟩⟩ := hq
                    · have h9 : (ys.map cellsOf).length = 0 := by rw [hq]; rfl
                      rw [hyl] at h9; omega
                    · simp only [Value.slice.injEq, Option.some.injEq] at hq
                      have had := hq.1
                      subst had
                      have hsrc := (u4 B2 off2 rfl).2
                      have hcl : (us.take N).length = min ys.length N := by rw [List.length_take, u1]; omega
                      have hp5 : ∀ j, j < N → (g.w.cell? ⟨B, 0 + j, none⟩).isSome = true ∧ g.w.frozen? ⟨B, 0 + j, none⟩ = false := fun j hj => p5 j (show j < cap * Enc.k α by rw [hk1, Nat.mul_one]; exact Nat.lt_of_lt_of_le hj (hlen ▸ p1))
                      have hle1 : (us.take N).length ≤ N := by rw [List.length_take]; exact Nat.min_le_left _ _
                      have hth : ∀ j, j < (us.take N).length → (g.w.cell? ⟨B, 0 + j, none⟩).isSome = true ∧ g.w.frozen? ⟨B, 0 + j, none⟩ = false := fun j hj => hp5 j (Nat.lt_of_lt_of_le hj hle1)
                      have hcell1 : ∀ v ∈ us.take N, v.oneCell' = true := fun v hv => u3 v (List.mem_of_mem_take hv)
                      have hrc := run_copy_cells (P := P) g.w t t' oo.type e B 0 N cap0 ⟨B2, off2, none⟩ ys.length ycap (us.take N) k1 hsz hcl (fun j v hv => by
                        have hv' : us[j]? = some v := by
                          rw [List.getElem?_take] at hv
                          split at hv
                          · exact hv
                          · cases hv
                        have := hsrc j v hv'
                        unfold Addr.add
                        cases j <;> simpa using this) (fun j hj => (hth j hj).1) (fun j hj => (hth j hj).2) hcell1
                      have hrun : (execOp a.eval oo).run P g.w = .ok (.value (goInt (us.take N).length)) (g.w.setCells B 0 (us.take N)) := by
                        rw [hbase] at hxe
                        simp only [execOp, hop, resolve, hcal, h1, h2']
                        simp [invoke, builtin, hxe, hye, hrc]
                      have hbut := but_setCells g.w B 0 (us.take N)
                      have hk' : ∀ cs ∈ (ys.take N ++ L.drop ys.length).map cellsOf, cs.length = Enc.k α := fun cs hcs => by
                        obtain ⟨z, hz, rfl⟩ := List.mem_map.1 hcs
                        rcases List.mem_append.1 hz with hz | hz
                        · rw [hk1]; exact y2 _ (List.mem_map.2 ⟨z, List.mem_of_mem_take hz, rfl⟩)
                        · exact q3 _ (List.mem_map.2 ⟨z, List.mem_of_mem_drop hz, rfl⟩)
                      have hv' : All2 (fun p v => RelD g.S g.w p v ∧ p.one = true) ((ys.take N ++ L.drop ys.length).map cellsOf).flatten (vs.take 0 ++ us.take N ++ vs.drop (0 + (us.take N).length)) := by
                        rw [hmapM, List.flatten_append, (flat_ones _ N y2).1, (flat_ones _ ys.length (fun c hc => by rw [q3 c hc, hk1])).2, Nat.zero_add, List.take_zero, List.nil_append]
                        refine (u2.take N).append ?_
                        have hd : (L.map cellsOf).flatten.drop ys.length = (L.map cellsOf).flatten.drop (us.take N).length := by
                          rw [hcl]
                          by_cases hle : ys.length ≤ N
                          · rw [Nat.min_eq_left hle]
                          · rw [List.drop_eq_nil_of_le (by omega), List.drop_eq_nil_of_le (by omega)]
                        rw [hd]
                        exact v1.drop _
                      have hth0 : g.w.there B 0 vs.length := fun i hi => hp5 i (hvl ▸ hi)
                      obtain ⟨h3', e2'⟩ := hg.exWorld (t := tk) (xss' := (ys.take N ++ L.drop ys.length).map cellsOf) (w' := g.w.setCells B 0 (us.take N)) (S' := g.S) hX e3 hc0
                        ⟨hbut.os, hbut.tape, hbut.output, Nat.le_of_eq hbut.size.symm, fun i _ hne => hbut.block i hne, DR.of_le (Nat.le_of_eq hbut.drawn.symm)⟩ (fun _ _ e => e) (fun _ _ e => .inl e) (by rw [List.length_map, List.length_map, List.length_append, List.length_take, List.length_drop]; omega) hk' (World.there_setCells p5 _ _ _) (hv'.monoD (fun _ _ e => e) (fun B' o' ho => hbut.cell fun e => p4 o' (e ▸ ho)) fun B' ho => hbut.block _ fun e => p4 0 (e ▸ ho 0)) (rangeAt_splice v2 (by rw [hcl]; omega) hth0)
                      unfold Oper.wp
                      rw [hrun]
                      exact hK _ _ h3' e2' (Rel.any _ _)
            · cases h
          · cases h
        · cases h
      · cases h
    · cases h
  · cases hM
end
/-! ### A loop whose rounds are not known -/
section
variable {P : Program} {Gl : Nat → Option (List PV)} {s : PSt} {c : Code} {σ : Type} {Q : Exit → PSt → Prop}
def nPost (J : σ → JS) (G : σ → Prop) (μ : σ → Nat) (n : Nat) (v : σ) (Q : Exit → PSt → Prop) : Exit → PSt → Prop
  | .normal, s' => ∃ v', G v' ∧ μ v' < μ v ∧ (J v').seen s' = (J v').told n
  | e, s' => Q e s'
theorem q_nexit {J : σ → JS} {G : σ → Prop} {μ : σ → Nat} {n k : Nat} {v : σ} (h : Q (.exit k) s) : nPost J G μ n v Q (.exit k) s := h
theorem q_nback {J : σ → JS} {G : σ → Prop} {μ : σ → Nat} {n : Nat} {v : σ} (v' : σ) (hG : G v') (hm : μ v' < μ v) (h : (J v').seen s = (J v').told n) : nPost J G μ n v Q .normal s := ⟨v', hG, hm, h⟩
theorem r_loopN (J : σ → JS) (G : σ → Prop) (μ : σ → Nat) (n : Nat) (v : σ) (hG : G v) (h0 : (J v).seen s = (J v).told n) (hok : ∀ v, (J v).ok = true)
    (hb : ∀ v, G v → pwp P Gl c (nPost J G μ n v Q) ((J v).st n)) : pwp P Gl (.loop c) Q s := by
  refine pwp_loop (fun m s => ∃ v, G v ∧ μ v = m ∧ s = (J v).st n) (μ v) ⟨v, hG, rfl, rfl⟩ (JS.weaker (hok v) h0) ?_
  rintro m _ ⟨v, hv, rfl, rfl⟩
  refine pwp_mono (fun e s' hp => ?_) (hb v hv)
  cases e with
  | normal =>
    obtain ⟨v', h1, h2, h3⟩ := hp
    exact ⟨μ v', _, h2, ⟨v', h1, rfl, rfl⟩, JS.weaker (hok v') h3⟩
  | _ => exact hp
end
end PM
