/-
  THE PURE MACHINE, Qk: a list that is written out, and that nobody else holds.
-/
import Derived.Test.YtaoagcnjefialaaDoorPmQj
namespace PM
open Go Go.RowKit

def xlitHd (P : Program) : List (Oper × Gd) → PSt → Option (Nat × Nat × Nat × List (List PV))
  | (o, .always) :: _, s => match o.op with
    | .buildSlice t n parts => match appK P t with
      | some (_, k, b) => (elemsOf k (parts.toList.map fun x => (x.1, s.ev x.2)) 0).map fun xss => (k, b, n, xss)
      | none => none
    | _ => none
  | _, _ => none
section
variable {α : Type} [Enc α] {P : Program} {Gl : Nat → Option (List PV)} {s : PSt} {Q : PSt → Prop} {Ls : List (Oper × Gd)}
theorem p_xlit {L : List α} {n : Nat} (tk : Nat) (h : xlitHd P Ls s = some (Enc.k α, Enc.b α, n, L.map cellsOf)) (hT : ((s.T tk).isNone && decide (tk < 1000000000) && decide ((L.map cellsOf).length = n) && decide (n * Enc.k α ≤ 16777216) && decide (n * Enc.b α ≤ 140737488351232)) = true)
    (h2 : pops P Gl false (Ls.drop 1) (({ s with T := upd s.T tk (some ((L.map cellsOf).length, 0)), X := upd s.X tk (some (Enc.k α, Enc.b α, L.map cellsOf)) } : PSt).put (dstHd Ls) (.ex tk (Enc.k α) (Enc.b α) (L.map cellsOf).length 0 (L.map cellsOf).length)) Q) : pops P Gl false Ls s Q := by
  simp only [Bool.and_eq_true, decide_eq_true_eq] at hT
  obtain ⟨⟨⟨⟨hT1, hT2⟩, hn⟩, hb1⟩, hb2⟩ := hT
  have hT1' : s.T tk = none := by simpa using hT1
  unfold xlitHd at h
  split at h
  · rename_i s0 o rest
    split at h
    · rename_i t n' parts hop
      split at h
      · rename_i e k b hk
        obtain ⟨xss, he, h'⟩ := Option.map_eq_some_iff.1 h
        simp only [Prod.mk.injEq] at h'
        obtain ⟨rfl, rfl, rfl, rfl⟩ := h'
        refine p_sem (n := { s with T := upd s.T tk (some ((L.map cellsOf).length, 0)), X := upd s.X tk (some (Enc.k α, Enc.b α, L.map cellsOf)) }) (v := .ex tk (Enc.k α) (Enc.b α) (L.map cellsOf).length 0 (L.map cellsOf).length) (by rw [hop]; rfl) ?_ h2
        intro S0 w0 a g K Q' hg hK
        generalize hxs : L.map cellsOf = xss at he hn hK ⊢
        obtain ⟨i, z, k1, k2, k3, k4, k5, k6, k7⟩ := appK_spec hk
        obtain ⟨e1, e2⟩ := elemsOf_length he
        have hp : All2 (fun (x : Nat × PV) (y : Nat × Value) => x.1 = y.1 ∧ Rel g x.2 y.2) (parts.toList.map fun x => (x.1, s.ev x.2)) (parts.toList.map fun x => (x.1, a.eval x.2)) :=
          ⟨by simp, fun i x y hx hy => by
            simp only [List.getElem?_map] at hx hy
            cases hp : parts.toList[i]? with
            | none => rw [hp] at hx; cases hx
            | some q =>
              rw [hp] at hx hy
              cases hx; cases hy
              exact ⟨rfl, hg.ev q.2⟩⟩
        have hzero : ((Array.range (n' * Enc.k α)).map (z.cells[· % z.cells.size]!)).size = (0 + (parts.toList.map fun x => (x.1, s.ev x.2)).length) * Enc.k α := by simp at e1 ⊢; rw [← e1, hn]
        obtain ⟨cells', f1, f2, f3, f4⟩ := fill_row (g := g) k7 _ _ 0 xss _ hp he hzero
        simp only [Nat.zero_mul, List.drop_zero] at f4
        have hle : ¬ (16777216 < n' * Enc.k α) := by omega
        have hrun : (Instr.buildSlice t n' (parts.map fun (i, x) => (i, a.eval x))).run P g.w = .ok (.slice (some ⟨g.w.heap.size, 0, none⟩) n' n') (g.w.alloc (.cells cells' e)) := by
          have f1' : Instr.fill (fun i => some (i * Enc.k α, Enc.k α)) ((Array.range (n' * Enc.k α)).map (z.cells[· % z.cells.size]!)) (parts.toList.map fun x => (x.1, a.eval x.2)) = some cells' := f1
          by_cases hz0 : n' * Enc.k α = 0
          · have hr1 : ∀ f : Nat → Value, (Array.range 0).map f = #[] := fun f => by simp [Array.range]
            rw [hz0, hr1] at f1'
            simp only [Instr.buildSlice, Sem.run_bind, run_underlying k1, Result.andThen_ok, run_sizeOf k2, k3]
            simp [hz0, hr1, f1', newRow]
          · simp only [Instr.buildSlice, Sem.run_bind, run_underlying k1, Result.andThen_ok, run_sizeOf k2, k3]
            simp [hle, hz0, zeroValue, typeInfo, k2, k5, f1', newRow]
        obtain ⟨h1, g1⟩ := hg.grow' (below_alloc g.w (.cells cells' e))
        have hgT : g.T tk = none := by rw [hg.hT]; exact hT1'
        have hfl : xss.flatten.length = n' * Enc.k α := by
          rw [List.length_flatten]
          have : xss.map List.length = List.replicate xss.length (Enc.k α) := by
            rw [List.eq_replicate_iff]
            exact ⟨by simp, fun b hb => by obtain ⟨x, hx, rfl⟩ := List.mem_map.1 hb; exact e2 x hx⟩
          rw [this, hn]; simp
        have hcs : cells'.size = n' * Enc.k α := by
          have := f4.1
          rw [hfl] at this; simpa using this.symm
        have hvals : All2 (fun p v => RelD g.S (g.w.alloc (.cells cells' e)) p v ∧ p.one = true) xss.flatten cells'.toList :=
          (f4.mono fun _ _ q => (⟨q.1, q.2.1⟩ : RelD g.S g.w _ _ ∧ _)).monoD g1.S g1.cell g1.blk
        have hk1 : 1 ≤ Enc.k α := Nat.pos_of_ne_zero k7
        have hlt : n' ≤ 140737488351232 := by
          have : n' * 1 ≤ n' * Enc.k α := Nat.mul_le_mul_left n' hk1
          omega
        obtain ⟨h3, g3⟩ := h1.exHead (t := tk) (k := Enc.k α) (b := Enc.b α) (xss := xss) (v := .slice (some ⟨g.w.heap.size, 0, none⟩) n' n')
          (fun n0 k0 q => by have : g.T tk = some (n0, k0) := q; rw [hgT] at this; cases this) (fun _ => hT2) k7 e2 (by rw [hn]; exact hb2) (by rw [hn]; exact hlt)
          (by
            by_cases hc0 : n' = 0
            · left
              rw [hc0]
              exact ⟨.inr ⟨_, _, rfl⟩, List.eq_nil_of_length_eq_zero (by rw [hn, hc0])⟩
            · right
              exact ⟨g.w.heap.size, n', by rw [hn], by omega, ⟨by rw [hn]; omega, .inl hg.below.size, by simp, fun o ho => (by have := hg.lt _ _ ho; omega), ⟨_, hvals, rangeAt_alloc g.w _ e⟩, fun j hj => there_alloc g.w _ e j (by rw [hcs]; exact hj), fun l hl => hg.phi_lt l hl, fun t2 h2 => (hg.spare_lt t2 (h2.congr rfl rfl)).elim⟩, fun t2 _ h2 => hg.xb_lt t2 (h2.congr rfl)⟩)
        have hrun2 : (execOp a.eval o).run P g.w = .ok (.value (.slice (some ⟨g.w.heap.size, 0, none⟩) n' n')) (g.w.alloc (.cells cells' e)) := by
          simp [execOp, hop, hrun]
        unfold Oper.wp
        rw [hrun2]
        refine hK _ _ h3 (g1.trans g3) ?_
        simp only [Rel, RelA, Rel1]
        refine ⟨⟨_, _, by rw [hn], by rw [hn]; omega, fun _ => ⟨_, _, rfl⟩⟩, _, upd_same _ _ _, Nat.le_refl _, fun _ => ?_⟩
        by_cases hc0 : n' = 0
        · exact .inl ⟨by simp, by rw [hn]; omega, rfl, by rw [hn]; omega⟩
        · exact .inr ⟨g.w.heap.size, n', 0, by rw [hn]; simp, by omega, by rw [hn]; omega, by omega, by rw [hn]; simp, by simp⟩
      · cases h
    · cases h
  · cases h
end
end PM
