/-
  THE PURE MACHINE, Qc: lists that only one token holds: the typed rules (append, elements, stores, slices, clear, make).
-/
import Derived.Test.YtaoagcnjefialaaDoorPmQb
namespace PM
open Go Go.RowKit

section
variable {P : Program} {Gl : Nat → Option (List PV)} {s : PSt} {d : Bool} {Ls r : List (Oper × Gd)} {Q : PSt → Prop} {α : Type} [Enc α]
theorem p_sem {o : Oper} {n : PSt} {v : PV} (hm : isMove o.op = false) (h : OpSem P Gl o s n v) (h2 : pops P Gl false r ((semNew s n).put o.dst v) Q) : pops P Gl false ((o, .always) :: r) s Q := by
  simp only [pops, gdStep]; exact .inr ⟨rfl, hm, n, v, h, h2⟩
/-! ### Append -/
/-- The append at the head: what is appended to, cells and bytes of an element, what is appended. -/
def xappHd (P : Program) : List (Oper × Gd) → PSt → Option (PV × Nat × Nat × List (List PV))
  | (o, .always) :: _, s => match o.op with
    | .call c => match c.callee, c.args.toList, c.argTypes.toList with
      | .builtin .append, [x, y], [t, t'] => match appK P t, sliceT P t' with
        | some (_, k, b), true => match ysOf k (s.ev y) with
          | some yss => some (s.ev x, k, b, yss)
          | none => none
        | _, _ => none
      | _, _, _ => none
    | _ => none
  | _, _ => none
theorem xapp_sem {ys M : List α} {L : List α} {x : PV} (hM : appO L ys = some M) (h : xappHd P Ls s = some (x, Enc.k α, Enc.b α, ys.map cellsOf)) {n : PSt} {v : PV}
    (hx : ∀ (S0 : Bs) (w0 : World) (a : Act) (g : GG) (xv : Value), InvG Gl S0 w0 s a g → Rel g x xv → ∃ s1 g1 tk, InvG Gl S0 w0 s1 a g1 ∧ GLe g g1 ∧ g1.w = g.w ∧ s1.X tk = some (Enc.k α, Enc.b α, L.map cellsOf) ∧ Rel g1 (.ex tk (Enc.k α) (Enc.b α) (L.map cellsOf).length 0 (L.map cellsOf).length) xv ∧
      semNew s n = { s1 with T := upd s1.T tk (some ((M.map cellsOf).length, 0)), X := upd s1.X tk (some (Enc.k α, Enc.b α, M.map cellsOf)) } ∧ v = .ex tk (Enc.k α) (Enc.b α) (M.map cellsOf).length 0 (M.map cellsOf).length)
    (h2 : pops P Gl false (Ls.drop 1) ((semNew s n).put (dstHd Ls) v) Q) : pops P Gl false Ls s Q := by
  unfold appO at hM
  split at hM
  · rename_i hz
    cases hM
    unfold xappHd at h
    split at h
    · rename_i s0 o rest
      split at h
      · rename_i c hop
        split at h
        · rename_i x' y t t' h1 hargs htys
          split at h
          · rename_i e k b hk ht'
            split at h
            · rename_i yss hys
              simp only [Option.some.injEq, Prod.mk.injEq] at h
              obtain ⟨rfl, rfl, rfl, rfl⟩ := h
              refine p_sem (n := n) (v := v) (by rw [hop]; rfl) ?_ h2
              intro S0 w0 a g K Q' hg hK
              have hyr := hg.ev y
              have hy : ∃ b', RelD g.S g.w (.lst .frozen (Enc.k α) b' (ys.map cellsOf)) (a.eval y) := by
                unfold ysOf at hys
                split at hys
                · rename_i hyn
                  simp only [Option.some.injEq] at hys
                  rw [hyn] at hyr
                  rw [← hys]
                  exact ⟨0, RelD.ofNil _ 0 (.inl rfl) hyr⟩
                · rename_i oy k' b' yss' hyl
                  split at hys
                  · rename_i hkk
                    simp only [Option.some.injEq] at hys
                    rw [hyl] at hyr
                    rw [← hkk, ← hys]
                    exact ⟨b', relLst hyr⟩
                  · cases hys
                · cases hys
              obtain ⟨b', hy⟩ := hy
              obtain ⟨s1, g1, tk, i1, i2, i3, i4, i5, i6, i7⟩ := hx S0 w0 a g _ hg (hg.ev x')
              have hy1 : RelD g1.S g1.w (.lst .frozen (Enc.k α) b' (ys.map cellsOf)) (a.eval y) := hy.mono i2.S i2.cell i2.blk
              obtain ⟨v', g', q1, q2, q3, q4⟩ := xappend_core (P := P) (ty := o.type) i1 hk ht' i4 i5 hy1 (by simpa using hz.1) (by simpa using hz.2)
              rw [i3] at q1
              have hrun : (execOp a.eval o).run P g.w = .ok (.value v') g'.w := by
                simp [execOp, hop, resolve, h1, toList_two hargs, toList_two htys, invoke, builtin, q1]
              unfold Oper.wp
              rw [hrun]
              refine hK v' g' ?_ (i2.trans q3) ?_
              · rw [i6]; simpa [List.map_append] using q2
              · rw [i7]; simpa [List.map_append] using q4
            · cases h
          · cases h
        · cases h
      · cases h
    · cases h
  · cases hM
/-- Is appended to a list that only token tk holds. -/
theorem p_xapp {L ys M : List α} {tk N : Nat} (hM : appO L ys = some M) (hX : s.X tk = some (Enc.k α, Enc.b α, L.map cellsOf)) (hT : s.T tk = some (N, 0)) (h : xappHd P Ls s = some (.ex tk (Enc.k α) (Enc.b α) N 0 N, Enc.k α, Enc.b α, ys.map cellsOf))
    (h2 : pops P Gl false (Ls.drop 1) (({ s with T := upd s.T tk (some ((M.map cellsOf).length, 0)), X := upd s.X tk (some (Enc.k α, Enc.b α, M.map cellsOf)) } : PSt).put (dstHd Ls) (.ex tk (Enc.k α) (Enc.b α) (M.map cellsOf).length 0 (M.map cellsOf).length)) Q) : pops P Gl false Ls s Q := by
  refine xapp_sem (n := { s with T := upd s.T tk (some ((M.map cellsOf).length, 0)), X := upd s.X tk (some (Enc.k α, Enc.b α, M.map cellsOf)) }) hM h (fun S0 w0 a g xv hg hv => ?_) h2
  have hN : N = (L.map cellsOf).length := by
    have := (hg.exs _ _ _ _ hX).1
    rw [hg.hT, hT] at this; cases this; rfl
  subst hN
  exact ⟨s, g, tk, hg, GLe.refl g, rfl, hX, hv, rfl, rfl⟩
/-- Is appended to nil, or to an empty list without room: the list gets token tk. -/
theorem p_xappB {ys M : List α} {tk : Nat} {x : PV} (hM : appO ([] : List α) ys = some M) (hx : x = .nil ∨ ∃ k' b', x = .lst .full k' b' []) (hT : ((s.T tk).isNone && decide (tk < 1000000000) && (Enc.k α != 0)) = true) (h : xappHd P Ls s = some (x, Enc.k α, Enc.b α, ys.map cellsOf))
    (h2 : pops P Gl false (Ls.drop 1) (({ s with T := upd s.T tk (some ((M.map cellsOf).length, 0)), X := upd s.X tk (some (Enc.k α, Enc.b α, M.map cellsOf)) } : PSt).put (dstHd Ls) (.ex tk (Enc.k α) (Enc.b α) (M.map cellsOf).length 0 (M.map cellsOf).length)) Q) : pops P Gl false Ls s Q := by
  refine xapp_sem (n := { s with T := upd s.T tk (some ((M.map cellsOf).length, 0)), X := upd s.X tk (some (Enc.k α, Enc.b α, M.map cellsOf)) }) hM h (fun S0 w0 a g xv hg hv => ?_) h2
  simp only [Bool.and_eq_true, decide_eq_true_eq] at hT
  obtain ⟨g1, k1, k2, k3, _, k4⟩ := hg.exBorn (t := tk) (k := Enc.k α) (b := Enc.b α) hv hx (by simpa using hT.1.1) hT.1.2 (by simpa using hT.2)
  exact ⟨_, g1, tk, k1, k2, k3, upd_same _ _ _, k4, by simp [semNew, upd_upd], rfl⟩
/-! ### Elements -/
def xixO (o n : Nat) (i : Int) : Option Nat := if 0 ≤ i ∧ i < (n : Int) then some (o + i.toNat) else none
def xixRes (tk k N o n : Nat) (i : Int) : Option (PV × Eff) := (if k = k ∧ 0 ≤ i ∧ i < (n : Int) then some (PV.eref tk k N (o + i.toNat) 0) else none).map fun v => (v, Eff.none)
theorem p_xix {tk k N o n j : Nat} {i : Int} (hj : xixO o n i = some j) (h : evHd P Gl Ls s = xixRes tk k N o n i) (h2 : pops P Gl d (Ls.drop 1) (s.put (dstHd Ls) (.eref tk k N j 0)) Q) : pops P Gl d Ls s Q := by
  unfold xixO at hj
  split at hj
  · rename_i hc
    cases hj
    exact p_step (v := .eref tk k N (o + i.toNat) 0) (e := .none) (by rw [h, xixRes, if_pos ⟨rfl, hc⟩]; rfl) h2
  · cases hj
def xldO (L : List α) (N j : Nat) : Option α := if L.length = N then L[j]? else none
def partF (row : Bool) (n off : Nat) (cs : List PV) : Option PV := match row with | true => if n ≤ (cs.drop off).length then some (PV.agg (takeN n (cs.drop off))) else none | false => (cs.drop off).head?
def xldRes (row : Bool) (n off k N j : Nat) (xss : List (List PV)) : Option (PV × Eff) := (if k = k ∧ xss.length = N then (xss[j]?).bind fun cs => match row with | true => if n ≤ (cs.drop off).length then some (PV.agg (takeN n (cs.drop off))) else none | false => (cs.drop off).head? else none).map fun v => (v, Eff.none)
omit [Enc α] in
theorem xldO_some {L : List α} {N j : Nat} {y : α} (hy : xldO L N j = some y) : L.length = N ∧ L[j]? = some y := by
  unfold xldO at hy
  split at hy
  · rename_i hN; exact ⟨hN, hy⟩
  · cases hy
/-- (Part of) an element is read. -/
theorem p_xld {L : List α} {N j : Nat} {y : α} {v : PV} (hy : xldO L N j = some y) (row : Bool) (n off : Nat) (h : evHd P Gl Ls s = xldRes row n off (Enc.k α) N j (L.map cellsOf)) (hv : partF row n off (cellsOf y) = some v) (h2 : pops P Gl d (Ls.drop 1) (s.put (dstHd Ls) v) Q) : pops P Gl d Ls s Q := by
  obtain ⟨hN, hj⟩ := xldO_some hy
  refine p_step (v := v) (e := .none) ?_ h2
  rw [h, xldRes, if_pos ⟨rfl, by simpa using hN⟩, List.getElem?_map, hj]
  simp only [Option.map_some, Option.bind_some]
  unfold partF at hv
  rw [hv]; rfl
def xstRes (tk k b N j off n : Nat) (ds : List PV) (xss : List (List PV)) : Option (PV × Eff) := if true = true ∧ k = k ∧ xss.length = N ∧ n = n then (xss[j]?).bind fun cs => if off + n ≤ cs.length then some (PV.any, Eff.xs tk (k, b, xss.set j (splice cs off ds))) else none else none
/-- (Part of) an element is written. -/
theorem p_xst {L : List α} {tk N j : Nat} {y y' : α} (hy : xldO L N j = some y) (off n : Nat) (ds : List PV) (h : evHd P Gl Ls s = xstRes tk (Enc.k α) (Enc.b α) N j off n ds (L.map cellsOf)) (hv : (decide (off + n ≤ (cellsOf y).length), splice (cellsOf y) off ds) = (true, cellsOf y'))
    (h2 : pops P Gl d (Ls.drop 1) (({ s with X := upd s.X tk (some (Enc.k α, Enc.b α, (L.set j y').map cellsOf)) } : PSt).put (dstHd Ls) .any) Q) : pops P Gl d Ls s Q := by
  obtain ⟨hN, hj⟩ := xldO_some hy
  obtain ⟨hv1, hv2⟩ := Prod.mk.inj hv
  refine p_step (v := .any) (e := .xs tk (Enc.k α, Enc.b α, (L.set j y').map cellsOf)) ?_ h2
  rw [h, xstRes, if_pos ⟨rfl, rfl, by simpa using hN, rfl⟩, List.getElem?_map, hj]
  simp only [Option.map_some, Option.bind_some]
  rw [if_pos (of_decide_eq_true hv1), hv2, List.map_set]
/-! ### Slices, clear, make -/
def xslO (n : Nat) (lo hi : Option Int) : Option (Nat × Nat) :=
  match bndI lo 0, bndI hi n with
  | some l, some h => if l ≤ h ∧ h ≤ n then some (l, h) else none
  | _, _ => none
theorem p_xsl {tk k b N o n : Nat} {lo hi : Option Int} {p : Nat × Nat} (hM : xslO n lo hi = some p) (h : slHd P Ls s = some (k, .ex tk k b N o n, pvI lo, pvI hi, none)) (h2 : pops P Gl d (Ls.drop 1) (s.put (dstHd Ls) (.ex tk k b N (o + p.1) (p.2 - p.1))) Q) : pops P Gl d Ls s Q := by
  unfold xslO at hM
  split at hM
  · rename_i l u e1 e2
    split at hM
    · rename_i hc
      cases hM
      unfold slHd at h
      split at h
      · rename_i oo rest s
        split at h
        · rename_i t x lo' hi' mx' hop
          split at h
          · rename_i e ro k0 b0 hel
            simp only [Option.some.injEq, Prod.mk.injEq] at h
            obtain ⟨rfl, hx, hlo, hhi, hmx⟩ := h
            refine p_step (v := .ex tk k0 b N (o + l) (u - l)) (e := .none) ?_ h2
            simp only [evHd, hop, callOf, evO, memOp, Bool.false_eq_true, if_false, ev1, hx, hlo, hhi, hmx, evSlice, hel, bnd_pvI, e1, e2]
            rw [if_pos ⟨trivial, hc.1, hc.2, trivial⟩]; rfl
          · cases h
        · cases h
      · cases h
    · cases hM
  · cases hM
omit [Enc α] in
theorem slO_zero {L M : List α} {lo : Option Int} (h : slO L lo (some 0) (some 0) = some M) : M = [] := by
  unfold slO at h
  split at h
  · rename_i l u m e1 e2 e3
    split at h
    · rename_i hc
      have : u = 0 := by simp [bndI] at e2; omega
      subst this
      cases h; simp
    · cases h
  · cases h
def xslhO (n : Nat) (hi : Int) : Option Nat := if 0 ≤ hi ∧ hi ≤ (n : Int) then some hi.toNat else none
/-- The first elements. -/
theorem p_xslh {tk k b N o n m : Nat} {hi : Int} (hM : xslhO n hi = some m) (h : slHd P Ls s = some (k, .ex tk k b N o n, none, some (.int .i64 hi), none)) (h2 : pops P Gl d (Ls.drop 1) (s.put (dstHd Ls) (.ex tk k b N o m)) Q) : pops P Gl d Ls s Q := by
  unfold xslhO at hM
  split at hM
  · rename_i hc
    cases hM
    have hM2 : xslO n none (some hi) = some (0, hi.toNat) := by
      simp only [xslO, bndI, if_pos hc.1]
      rw [if_pos ⟨Nat.zero_le _, by omega⟩]
    exact p_xsl (lo := none) (hi := some hi) hM2 h h2
  · cases hM
/-- The call of clear at the head: its argument, cells of the element's zero value. -/
def clrHd (P : Program) : List (Oper × Gd) → PSt → Option (PV × List PV)
  | (o, .always) :: _, s => match o.op with
    | .call c => match c.callee, c.args.toList, c.argTypes.toList with
      | .builtin .clear, [x], [t] => match appK P t with
        | some (e, _, _) => (zeroK P e).bind fun z => if boxOK z = true then (datumL z.cells).map fun ds => (s.ev x, ds) else none
        | none => none
      | _, _, _ => none
    | _ => none
  | _, _ => none
def xclrO (L : List α) (N o n : Nat) (z : α) : Option (List α) := if L.length = N ∧ o + n ≤ N then some (L.take o ++ List.replicate n z ++ L.drop (o + n)) else none
def mkxHd (P : Program) : List (Oper × Gd) → PSt → Option (Nat × Nat × List PV × PV × PV)
  | (o, .always) :: _, s => match o.op with
    | .makeSlice t n c => match appK P t with
      | some (e, k, b) => (zeroK P e).bind fun z => if boxOK z = true then (datumL z.cells).map fun ds => (k, b, ds, s.ev n, s.ev c) else none
      | _ => none
    | _ => none
  | _, _ => none
def mkxO (n c : Int) (b : Nat) (z : α) : Option (List α) := if 0 ≤ n ∧ n ≤ c ∧ c.toNat * b ≤ sizeMax ∧ c.toNat ≤ sizeMax then some (List.replicate n.toNat z) else none
theorem madeCells_rows (z : Array Value) : ∀ n : Nat, (madeCells z (n * z.size)).toList = (List.replicate n z.toList).flatten := by
  intro n
  apply List.ext_getElem?
  intro i
  have hlen : (List.replicate n z.toList).flatten.length = n * z.size := by simp [List.length_flatten]
  by_cases hi : i < n * z.size
  · have h1 : (madeCells z (n * z.size)).toList[i]? = some (z[i % z.size]!) := by
      simp [madeCells, hi]
    rw [h1]
    have : ∀ (n i : Nat), i < n * z.size → (List.replicate n z.toList).flatten[i]? = some (z[i % z.size]!) := by
      intro n
      induction n with
      | zero => intro i hi; simp at hi
      | succ n ih =>
        intro i hi
        rw [List.replicate_succ, List.flatten_cons, List.getElem?_append]
        by_cases h : i < z.size
        · rw [if_pos (by simpa using h), Nat.mod_eq_of_lt h]
          simp [h]
        · rw [if_neg (by simpa using h)]
          have h2 := ih (i - z.size) (by rw [Nat.succ_mul] at hi; omega)
          simp only [Array.length_toList]
          rw [h2]
          congr 2
          conv => rhs; rw [show i = (i - z.size) + z.size by omega]
          simp
    exact (this n i hi).symm
  · rw [List.getElem?_eq_none (by simp [madeCells]; omega), List.getElem?_eq_none (by omega)]
theorem zeroCells_made (z : Array Value) (n : Nat) : Builtin.zeroCells z n = madeCells z (n * z.size) := by
  simp [Builtin.zeroCells, madeCells]
theorem flat_replicate {R : PV → Value → Prop} {cs : List PV} {vs : List Value} (h : All2 R cs vs) : ∀ n : Nat, All2 R (List.replicate n cs).flatten (List.replicate n vs).flatten
  | 0 => by simpa using All2.nil
  | n + 1 => by
    rw [List.replicate_succ, List.replicate_succ, List.flatten_cons, List.flatten_cons]
    exact h.append (flat_replicate h n)
/-- A made list of zero elements. -/
theorem p_xmk {n c : Int} {z : α} {M : List α} (tk : Nat) (hM : mkxO n c (Enc.b α) z = some M) (h : mkxHd P Ls s = some (Enc.k α, Enc.b α, cellsOf z, .int .i64 n, .int .i64 c)) (hT : ((s.T tk).isNone && decide (tk < 1000000000) && decide ((cellsOf z).length = Enc.k α)) = true)
    (h2 : pops P Gl false (Ls.drop 1) (({ s with T := upd s.T tk (some ((M.map cellsOf).length, 0)), X := upd s.X tk (some (Enc.k α, Enc.b α, M.map cellsOf)) } : PSt).put (dstHd Ls) (.ex tk (Enc.k α) (Enc.b α) (M.map cellsOf).length 0 (M.map cellsOf).length)) Q) : pops P Gl false Ls s Q := by
  unfold mkxO at hM
  split at hM
  · rename_i hc
    obtain ⟨c1, c2, c3, c4⟩ := hc
    cases hM
    unfold sizeMax at c3 c4
    simp only [Bool.and_eq_true, decide_eq_true_eq] at hT
    obtain ⟨⟨hT1, hT2⟩, hT3⟩ := hT
    have hT1' : s.T tk = none := by simpa using hT1
    unfold mkxHd at h
    split at h
    · rename_i s0 o rest
      split at h
      · rename_i t nn cc hop
        split at h
        · rename_i e k b hk
          obtain ⟨zp, hz, h⟩ := Option.bind_eq_some_iff.1 h
          split at h
          · rename_i hbox
            obtain ⟨ds, hds, h⟩ := Option.map_eq_some_iff.1 h
            simp only [Prod.mk.injEq] at h
            obtain ⟨rfl, rfl, rfl, hn, hcc⟩ := h
            refine p_sem (n := { s with T := upd s.T tk (some (((List.replicate n.toNat z).map cellsOf).length, 0)), X := upd s.X tk (some (Enc.k α, Enc.b α, (List.replicate n.toNat z).map cellsOf)) }) (v := .ex tk (Enc.k α) (Enc.b α) ((List.replicate n.toNat z).map cellsOf).length 0 ((List.replicate n.toNat z).map cellsOf).length) (by rw [hop]; rfl) ?_ h2
            intro S0 w0 a g K Q' hg hK
            obtain ⟨i, zv, i1, i2, i3⟩ := ofConst_rel (g := g) hz hbox
            obtain ⟨i', z', k1, k2, k3, k4, k5, k6, k7⟩ := appK_spec hk
            rw [i1] at k2; cases k2
            rw [i2] at k5; cases k5
            have hnv := hg.ev nn
            rw [hn, relInt] at hnv
            have hcv := hg.ev cc
            rw [hcc, relInt] at hcv
            have hm : ((c.toNat : Nat) : Int) = c := by omega
            have hb' : (i.bytes : Int) * c ≤ 281474976710656 := by
              rw [k4, ← hm, ← Int.natCast_mul]
              have := Nat.mul_comm c.toNat (Enc.b α)
              omega
            have hrun := run_make (P := P) g.w t e i zv k1 i1 i2 .i64 .i64 n c c1 c2 hb' (by omega)
            have hcells : (madeCells zv.cells (c.toNat * i.size)).toList = (List.replicate c.toNat zv.cells.toList).flatten := by rw [k3, ← k6]; exact madeCells_rows _ _
            have hdat : All2 (fun p v => RelD g.S g.w p v ∧ p.one = true) (cellsOf z) zv.cells.toList := (datumL_spec i3 hds).mono fun _ _ q => ⟨q.1, q.2.1⟩
            obtain ⟨h1, g1⟩ := hg.grow' (below_alloc g.w (.cells (madeCells zv.cells (c.toNat * i.size)) e))
            have hzl : zv.cells.toList.length = Enc.k α := by simpa using k6
            have hk' : ∀ cs ∈ (List.replicate n.toNat z).map cellsOf, cs.length = Enc.k α := fun cs hcs => by
              obtain ⟨x, hx, rfl⟩ := List.mem_map.1 hcs
              rw [(List.mem_replicate.1 hx).2]; exact hT3
            have hlen : ((List.replicate n.toNat z).map cellsOf).length = n.toNat := by simp
            have hvals : All2 (fun p v => RelD g.S (g.w.alloc (.cells (madeCells zv.cells (c.toNat * i.size)) e)) p v ∧ p.one = true) ((List.replicate n.toNat z).map cellsOf).flatten (List.replicate n.toNat zv.cells.toList).flatten := by
              rw [List.map_replicate]
              exact flat_replicate (hdat.monoD g1.S g1.cell g1.blk) _
            have hrange : (g.w.alloc (.cells (madeCells zv.cells (c.toNat * i.size)) e)).rangeAt g.w.heap.size 0 (List.replicate n.toNat zv.cells.toList).flatten := fun j v hj => by
              refine rangeAt_alloc g.w _ e j v ?_
              rw [hcells]
              have hsplit : List.replicate c.toNat zv.cells.toList = List.replicate n.toNat zv.cells.toList ++ List.replicate (c.toNat - n.toNat) zv.cells.toList := by
                rw [List.replicate_append_replicate]; congr 1; omega
              rw [hsplit, List.flatten_append]
              rw [List.getElem?_append_left (List.getElem?_eq_some_iff.1 hj).1]
              exact hj
            have hthere : (g.w.alloc (.cells (madeCells zv.cells (c.toNat * i.size)) e)).there g.w.heap.size 0 (c.toNat * Enc.k α) := fun j hj => there_alloc g.w _ e j (by rw [size_madeCells, k3]; exact hj)
            have hgT : g.T tk = none := by rw [hg.hT]; exact hT1'
            have hbytes : n.toNat * Enc.b α ≤ 140737488351232 := Nat.le_trans (Nat.mul_le_mul_right _ (by omega)) c3
            obtain ⟨h3, g3⟩ := h1.exHead (t := tk) (k := Enc.k α) (b := Enc.b α) (xss := (List.replicate n.toNat z).map cellsOf) (v := .slice (some ⟨g.w.heap.size, 0, none⟩) n.toNat c.toNat)
              (fun n0 k0 q => by have : g.T tk = some (n0, k0) := q; rw [hgT] at this; cases this) (fun _ => hT2) k7 hk' (by rw [hlen]; exact hbytes) (by rw [hlen]; omega)
              (by
                by_cases hc0 : c.toNat = 0
                · left
                  have hn0 : n.toNat = 0 := by omega
                  rw [hn0, hc0]
                  exact ⟨.inr ⟨_, _, rfl⟩, rfl⟩
                · right
                  exact ⟨g.w.heap.size, c.toNat, by rw [hlen], by omega, ⟨by rw [hlen]; omega, .inl hg.below.size, by simp, fun o ho => (by have := hg.lt _ _ ho; omega), ⟨_, hvals, hrange⟩, hthere, fun l hl => hg.phi_lt l hl, fun t2 h2 => (hg.spare_lt t2 (h2.congr rfl rfl)).elim⟩, fun t2 _ h2 => hg.xb_lt t2 (h2.congr rfl)⟩)
            have hrun2 : (execOp a.eval o).run P g.w = .ok (.value (.slice (some ⟨g.w.heap.size, 0, none⟩) n.toNat c.toNat)) (g.w.alloc (.cells (madeCells zv.cells (c.toNat * i.size)) e)) := by
              simp [execOp, hop, hnv, hcv, hrun]
            unfold Oper.wp
            rw [hrun2]
            refine hK _ _ h3 (g1.trans g3) ?_
            simp only [Rel, RelA, Rel1]
            refine ⟨⟨_, _, by rw [hlen], by rw [hlen]; omega, fun _ => ⟨_, _, rfl⟩⟩, _, upd_same _ _ _, Nat.le_refl _, fun _ => ?_⟩
            by_cases hc0 : c.toNat = 0
            · exact .inl ⟨by simp, by rw [hlen]; omega, rfl, by rw [hlen]; omega⟩
            · exact .inr ⟨g.w.heap.size, c.toNat, 0, by rw [hlen]; simp, by omega, by rw [hlen]; omega, by omega, by rw [hlen]; simp, by simp⟩
          · cases h
        · cases h
      · cases h
    · cases h
  · cases hM
end
end PM
