/-
  THE PURE MACHINE, Qd: lists that only one token holds: clear; calls that change a list in place (XCall), calls that return such a list (PCallX).
-/
import Derived.Test.YtaoagcnjefialaaDoorPmQc
namespace PM
open Go Go.RowKit

section
variable {P : Program} {Gl : Nat → Option (List PV)} {s : PSt} {d : Bool} {Ls r : List (Oper × Gd)} {Q : PSt → Prop} {α : Type} [Enc α]
theorem run_clear0 {w : World} {t e ty : TypeId} (ht : P.underlying t = some (.slice e)) (base : Option Addr) (cap : Nat) : (Builtin.clear_ #[t] ty #[.slice base 0 cap]).run P w = .ok (.tuple #[]) w := by
  cases base <;> simp [Builtin.clear_, run_underlying ht]
theorem run_clearN {w w' : World} {t e ty : TypeId} {i : TypeInfo} {zv : Value} (ht : P.underlying t = some (.slice e)) (hi : P.info? e = some i) (hz : i.zero = some zv) (ad : Addr) (n cap : Nat) (hn : n ≠ 0) (hst : (storeCells ad (Builtin.zeroCells zv.cells n).toList).run P w = .ok () w') : (Builtin.clear_ #[t] ty #[.slice (some ad) n cap]).run P w = .ok (.tuple #[]) w' := by
  obtain ⟨m, rfl⟩ := Nat.exists_eq_succ_of_ne_zero hn
  simp [Builtin.clear_, run_underlying ht, zeroValue, typeInfo, hi, hz, hst]
theorem flat_mid {k : Nat} : ∀ (xss : List (List PV)) (o n : Nat) (c : List PV), (∀ c ∈ xss, c.length = k) → c.length = k → o + n ≤ xss.length → (xss.take o ++ List.replicate n c ++ xss.drop (o + n)).flatten = splice xss.flatten (o * k) (List.replicate n c).flatten := by
  intro xss o n c hx hc hon
  have h1 : ∀ (m : Nat) (ys : List (List PV)), (∀ c ∈ ys, c.length = k) → ys.flatten.take (m * k) = (ys.take m).flatten ∧ ys.flatten.drop (m * k) = (ys.drop m).flatten := by
    intro m
    induction m with
    | zero => intro ys _; simp
    | succ m ih =>
      intro ys hy
      cases ys with
      | nil => simp
      | cons y ys =>
        have hyl : y.length = k := hy y (by simp)
        obtain ⟨i1, i2⟩ := ih ys (fun c hc => hy c (by simp [hc]))
        have e1 : (m + 1) * k - k = m * k := by rw [Nat.succ_mul]; omega
        have e2 : List.take ((m + 1) * k) y = y := List.take_of_length_le (by rw [hyl, Nat.succ_mul]; omega)
        have e3 : List.drop ((m + 1) * k) y = [] := List.drop_eq_nil_of_le (by rw [hyl, Nat.succ_mul]; omega)
        rw [List.flatten_cons, List.take_append, List.drop_append, e2, e3, hyl, e1, i1, i2]
        simp
  have hrl : (List.replicate n c).flatten.length = n * k := by simp [List.length_flatten, hc]
  rw [List.flatten_append, List.flatten_append, splice, hrl, ← (h1 o xss hx).1, ← Nat.add_mul, ← (h1 (o + n) xss hx).2]
/-- Elements o.. become zero. -/
theorem p_xclr {L M : List α} {tk N o n : Nat} {z : α} (hM : xclrO L N o n z = some M) (hX : s.X tk = some (Enc.k α, Enc.b α, L.map cellsOf)) (hT : s.T tk = some (N, 0)) (h : clrHd P Ls s = some (.ex tk (Enc.k α) (Enc.b α) N o n, cellsOf z)) (hz : (cellsOf z).length = Enc.k α)
    (h2 : pops P Gl false (Ls.drop 1) (({ s with X := upd s.X tk (some (Enc.k α, Enc.b α, M.map cellsOf)) } : PSt).put (dstHd Ls) .any) Q) : pops P Gl false Ls s Q := by
  unfold xclrO at hM
  split at hM
  · rename_i hc
    obtain ⟨hLN, hon⟩ := hc
    cases hM
    unfold clrHd at h
    split at h
    · rename_i s0 oo rest
      split at h
      · rename_i c hop
        split at h
        · rename_i x t hcal hargs htys
          split at h
          · rename_i e k b hk
            obtain ⟨zp, hzp, h⟩ := Option.bind_eq_some_iff.1 h
            split at h
            · rename_i hbox
              obtain ⟨ds, hds, h⟩ := Option.map_eq_some_iff.1 h
              simp only [Prod.mk.injEq] at h
              obtain ⟨hx, rfl⟩ := h
              refine p_sem (n := { s with X := upd s.X tk (some (Enc.k α, Enc.b α, (L.take o ++ List.replicate n z ++ L.drop (o + n)).map cellsOf)) }) (v := .any) (by rw [hop]; rfl) ?_ h2
              intro S0 w0 a g K Q' hg hK
              obtain ⟨i, zv, i1, i2, i3⟩ := ofConst_rel (g := g) hzp hbox
              obtain ⟨i', z', k1, k2, k3, k4, k5, k6, k7⟩ := appK_spec hk
              rw [i1] at k2; cases k2
              rw [i2] at k5; cases k5
              have hxv := hg.ev x
              rw [hx] at hxv
              simp only [Rel, RelA, Rel1] at hxv
              obtain ⟨⟨base, cap0, hxe, hcap0, _⟩, N', r1, r2, r3⟩ := hxv
              rw [hg.hT, hT] at r1; cases r1
              obtain ⟨q1, q2, q3, q4, q5, q6⟩ := hg.exs tk _ _ _ hX
              have hmapM : ((L.take o ++ List.replicate n z ++ L.drop (o + n)).map cellsOf) = (L.map cellsOf).take o ++ List.replicate n (cellsOf z) ++ (L.map cellsOf).drop (o + n) := by simp [List.map_take, List.map_drop]
              by_cases hn0 : n = 0
              · subst hn0
                have hsame : (L.take o ++ List.replicate 0 z ++ L.drop (o + 0)) = L := by simp
                have hX2 : upd s.X tk (some (Enc.k α, Enc.b α, (L.take o ++ List.replicate 0 z ++ L.drop (o + 0)).map cellsOf)) = s.X := by
                  rw [hsame]; funext y
                  by_cases e : y = tk
                  · subst e; rw [upd_same, hX]
                  · rw [upd_other _ _ _ _ e]
                have hrun : (execOp a.eval oo).run P g.w = .ok (.value (.tuple #[])) g.w := by
                  have h1 : c.args = #[x] := toList_one hargs
                  have h2 : c.argTypes = #[t] := toList_one htys
                  simp [execOp, hop, resolve, hcal, h1, h2, invoke, builtin, hxe, run_clear0 k1]
                unfold Oper.wp
                rw [hrun]
                exact hK _ g (by rw [hX2]; exact hg) (GLe.refl g) (Rel.any _ _)
              · rcases q6 with ⟨_, hnil⟩ | ⟨B, cap, e3, hc0, p1, p2, p3, p4, ⟨vs, v1, v2⟩, p5, p6, p7⟩
                · have : L.length = 0 := by have := congrArg List.length hnil; simpa using this
                  omega
                · rcases r3 rfl with ⟨_, _, _, f4⟩ | ⟨B1, cap1, off, e1, _, _, _, e2, e4⟩
                  · exact absurd f4 hn0
                  · rw [e3] at e1
                    simp only [Value.slice.injEq, Option.some.injEq, Addr.mk.injEq, and_true] at e1
                    obtain ⟨rfl, _, rfl⟩ := e1
                    have hlen : (L.map cellsOf).length = N := by simpa using hLN
                    have hoff : off = o * Enc.k α := e4.resolve_right (by omega)
                    subst hoff
                    have hkz : zv.cells.size = Enc.k α := by
                      have := i3.1
                      have h2 := datumL_length hds
                      rw [hz] at h2
                      simp only [Array.length_toList] at this
                      omega
                    have hfl : (L.map cellsOf).flatten.length = N * Enc.k α := by rw [flat_length q3, hlen]
                    have hvl : vs.length = N * Enc.k α := by rw [← v1.1, hfl]
                    have hzc : (Builtin.zeroCells zv.cells n).toList = (List.replicate n zv.cells.toList).flatten := by rw [zeroCells_made]; exact madeCells_rows _ _
                    have hzl : (Builtin.zeroCells zv.cells n).toList.length = n * Enc.k α := by simp [size_zeroCells, hkz]
                    have hmul : o * Enc.k α + n * Enc.k α ≤ N * Enc.k α := by rw [← Nat.add_mul]; exact Nat.mul_le_mul_right _ hon
                    have hmul2 : N * Enc.k α ≤ cap * Enc.k α := Nat.mul_le_mul_right _ (by omega)
                    have hth : ∀ j, j < (Builtin.zeroCells zv.cells n).toList.length → (g.w.cell? ⟨B, o * Enc.k α + 0 + j, none⟩).isSome = true ∧ g.w.frozen? ⟨B, o * Enc.k α + 0 + j, none⟩ = false := fun j hj => by
                      have := p5 (o * Enc.k α + j) (by omega)
                      rwa [Nat.zero_add] at this
                    have hdat : All2 (fun p v => RelD g.S g.w p v ∧ p.one = true) (cellsOf z) zv.cells.toList := (datumL_spec i3 hds).mono fun _ _ q => ⟨q.1, q.2.1⟩
                    have hcell1 : ∀ v ∈ (Builtin.zeroCells zv.cells n).toList, v.oneCell' = true := fun v hv => by
                      rw [hzc] at hv
                      obtain ⟨l, hl1, hl2⟩ := List.mem_flatten.1 hv
                      rw [(List.mem_replicate.1 hl1).2] at hl2
                      obtain ⟨j, hj⟩ := List.getElem?_of_mem hl2
                      obtain ⟨p, hp, hr⟩ := hdat.left hj
                      exact (hr.1.oneCell hr.2).1
                    have hst := run_storeCells_cells (P := P) B (o * Enc.k α) (Builtin.zeroCells zv.cells n).toList 0 g.w (fun j hj => (hth j hj).1) (fun j hj => (hth j hj).2) hcell1
                    simp only [Nat.add_zero] at hst
                    have hrun : (execOp a.eval oo).run P g.w = .ok (.value (.tuple #[])) (g.w.setCells B (o * Enc.k α) (Builtin.zeroCells zv.cells n).toList) := by
                      have h1 : c.args = #[x] := toList_one hargs
                      have h2 : c.argTypes = #[t] := toList_one htys
                      have hbase : base = some ⟨B, o * Enc.k α, none⟩ := by rw [hxe] at e2; exact (Value.slice.inj e2).1
                      have hrc := run_clearN (P := P) (ty := oo.type) k1 i1 i2 ⟨B, o * Enc.k α, none⟩ n cap0 hn0 hst
                      rw [hbase] at hxe
                      simp [execOp, hop, resolve, hcal, h1, h2, invoke, builtin, hxe, hrc]
                    have hbut := but_setCells g.w B (o * Enc.k α) (Builtin.zeroCells zv.cells n).toList
                    have hk' : ∀ cs ∈ (L.take o ++ List.replicate n z ++ L.drop (o + n)).map cellsOf, cs.length = Enc.k α := fun cs hcs => by
                      obtain ⟨y, hy, rfl⟩ := List.mem_map.1 hcs
                      rcases List.mem_append.1 hy with hy | hy
                      · rcases List.mem_append.1 hy with hy | hy
                        · exact q3 _ (List.mem_map.2 ⟨y, List.mem_of_mem_take hy, rfl⟩)
                        · rw [(List.mem_replicate.1 hy).2]; exact hz
                      · exact q3 _ (List.mem_map.2 ⟨y, List.mem_of_mem_drop hy, rfl⟩)
                    have hv' : All2 (fun p v => RelD g.S g.w p v ∧ p.one = true) ((L.take o ++ List.replicate n z ++ L.drop (o + n)).map cellsOf).flatten (vs.take (o * Enc.k α) ++ (Builtin.zeroCells zv.cells n).toList ++ vs.drop (o * Enc.k α + (Builtin.zeroCells zv.cells n).toList.length)) := by
                      rw [hmapM, flat_mid _ o n _ q3 hz (by omega), hzc]
                      exact v1.splice (flat_replicate hdat n) _
                    have hth0 : g.w.there B 0 vs.length := fun i hi => p5 i (by omega)
                    obtain ⟨h2', e2'⟩ := hg.exWorld (t := tk) (xss' := (L.take o ++ List.replicate n z ++ L.drop (o + n)).map cellsOf) (w' := g.w.setCells B (o * Enc.k α) (Builtin.zeroCells zv.cells n).toList) (S' := g.S) hX e3 hc0
                      ⟨hbut.os, hbut.tape, hbut.output, Nat.le_of_eq hbut.size.symm, fun i _ hne => hbut.block i hne, Nat.le_of_eq hbut.drawn.symm⟩ (fun _ _ e => e) (fun _ _ e => .inl e) (by simp; omega) hk' (World.there_setCells p5 _ _ _) (hv'.monoD (fun _ _ e => e) (fun B' o' ho => hbut.cell fun e => p4 o' (e ▸ ho)) fun B' ho => hbut.block _ fun e => p4 0 (e ▸ ho 0)) (rangeAt_splice v2 (by omega) hth0)
                    unfold Oper.wp
                    rw [hrun]
                    exact hK _ _ h2' e2' (Rel.any _ _)
            · cases h
          · cases h
        · cases h
      · cases h
    · cases h
  · cases hM
end
end PM
