/-
  THE PURE MACHINE, K: append.
-/
import Derived.Test.YtdhkjmlafmokjaaDoorPmJ
import Derived.Laws.MakeOwn
namespace PM
open Go Go.RowKit

section
variable {P : Program} {Gl : Nat → Option (List PV)} {S0 : Bs} {w0 : World} {s : PSt} {a : Act} {g : GG} {w : World}

/-- What a list of data is in memory. -/
theorem lst_values {S : Cells} {k b : Nat} {xss : List (List PV)} {v : Value} (h : RelD S w (.lst .frozen k b xss) v) :
    ∃ base cap, v = .slice base xss.length cap ∧ xss.length ≤ cap ∧ (∀ cs ∈ xss, cs.length = k) ∧ (base = none → cap = 0 ∧ xss = []) ∧
      ∃ vs : List Value, vs.length = xss.length * k ∧ All2 (fun p v => RelD S w p v ∧ p.one = true) xss.flatten vs ∧ (∀ v ∈ vs, v.oneCell' = true) ∧
        ∀ B off, base = some ⟨B, off, none⟩ → RelEls S w k xss B off ∧ (∀ j u, vs[j]? = some u → w.cell? ⟨B, off + j, none⟩ = some u) := by
  simp only [RelD] at h
  obtain ⟨_, _, _, ⟨rfl, rfl⟩ | ⟨B, off, cap, rfl, h2, _, h3⟩⟩ := h
  · exact ⟨none, 0, rfl, Nat.le_refl _, by simp, fun _ => ⟨rfl, rfl⟩, [], by simp, .nil, by simp, fun B off e => by cases e⟩
  · obtain ⟨c1, c2⟩ := h3.cells
    obtain ⟨vs, v1, v2, v3⟩ := c1.values
    refine ⟨some ⟨B, off, none⟩, cap, rfl, h2, fun cs hcs => ?_, fun e => (by cases e), vs, by rw [← v1.1, c2], ⟨v1.1, fun i x y hx hy => ⟨v1.2 i x y hx hy, ((relCells_iff _ _ _).1 c1 i x hx).1⟩⟩, v3, fun B' off' e => ?_⟩
    · obtain ⟨i, hi⟩ := List.getElem?_of_mem hcs
      exact ((relEls_iff k xss B off).1 h3 i cs hi).1
    · cases e; exact ⟨h3, v2⟩
/-- The list that is appended to. -/
structure Base (g : GG) (t k b : Nat) (xss : List (List PV)) (v : Value) : Prop where
  data : RelD g.S g.w (.lst .frozen k b xss) v
  tok : (g.T t = none ∧ (∀ base cap, v = .slice base xss.length cap → cap = xss.length)) ∨ (g.T t = some (xss.length, k) ∧ v = g.hd t)
theorem sizeMax_eq : sizeMax = 140737488351232 := rfl
theorem relLst_own {g' : GG} {t k b : Nat} {xss : List (List PV)} {v : Value} (h : RelD g'.S g'.w (.lst .frozen k b xss) v) (hT : g'.T t = some (xss.length, k)) (hh : g'.hd t = v) : Rel g' (.lst (.own t) k b xss) v :=
  by simp only [Rel, RelA, Rel1]; exact ⟨h, xss.length, hT, Nat.le_refl _, fun _ => hh.symm⟩
theorem append_core (h : InvG Gl S0 w0 s a g) {ty t t' e tk k b : Nat} {xss yss : List (List PV)} {v u : Value} (hk : appK P t = some (e, k, b)) (ht' : sliceT P t' = true) (hb : Base g tk k b xss v) {b' : Nat} (hy : RelD g.S g.w (.lst .frozen k b' yss) u)
    (hs1 : (xss.length + yss.length) * b ≤ sizeMax) (hs2 : xss.length + yss.length ≤ sizeMax) :
    ∃ v' g', (Builtin.append_ #[t, t'] ty #[v, u]).run P g.w = .ok v' g'.w ∧ InvG Gl S0 w0 { s with T := upd s.T tk (some (xss.length + yss.length, k)) } a g' ∧ Rel g' (.lst (.own tk) k b (xss ++ yss)) v' := by
  rw [sizeMax_eq] at hs1 hs2
  obtain ⟨i, z, k1, k2, k3, k4, k5, k6, k7⟩ := appK_spec hk
  have hX : s.X tk = none := h.noX fun n e => by
    rcases hb.tok with ⟨q, _⟩ | ⟨q, _⟩
    · rw [q] at e; cases e
    · rw [q] at e; cases e; exact k7 rfl
  obtain ⟨e', ht2⟩ := sliceT_spec ht'
  obtain ⟨base, cap, rfl, x1, x2, x3, olds, o1, o2, o3, o4⟩ := lst_values hb.data
  obtain ⟨ybase, ycap, rfl, y1, y2, y3, news, n1, n2, n3, n4⟩ := lst_values hy
  -- the source
  have hsrc : Src P i.size t' (.slice ybase yss.length ycap) yss.length news g.w := by
    cases ybase with
    | none =>
      obtain ⟨q1, q2⟩ := y3 rfl
      subst q2
      subst q1
      have hn0 : news = [] := List.eq_nil_of_length_eq_zero (by simpa using n1)
      rw [hn0]
      exact Src.ofNil g.w ht2 0
    | some ad =>
      obtain ⟨B, off, sp⟩ := ad
      have hsp : sp = none := by
        have := hy
        simp only [RelD] at this
        obtain ⟨_, _, _, ⟨q, _⟩ | ⟨_, _, _, q, _⟩⟩ := this <;> cases q
        rfl
      subst hsp
      exact Src.ofSlice g.w ht2 _ _ _ news (by rw [n1, k3]) (fun j u hu => by rw [Addr.add_mid]; exact (n4 B off rfl).2 j u hu) n3
  have hbase : base = none ∨ ∃ B off, base = some ⟨B, off, none⟩ := by
    have := hb.data
    simp only [RelD] at this
    obtain ⟨_, _, _, ⟨q, _⟩ | ⟨B, off, _, q, _⟩⟩ := this
    · exact .inl (by injection q)
    · exact .inr ⟨B, off, by injection q⟩
  have hall : ∀ cs ∈ xss ++ yss, cs.length = k := fun cs hcs => (List.mem_append.1 hcs).elim (x2 cs) (y2 cs)
  have hlen : (xss ++ yss).length = xss.length + yss.length := List.length_append
  by_cases hroom : xss.length + yss.length ≤ cap
  · by_cases hm : yss = []
    · -- nothing is appended
      subst hm
      have hnews : news = [] := List.eq_nil_of_length_eq_zero (by simpa using n1)
      subst hnews
      have hrun : (Builtin.append_ #[t, t'] ty #[.slice base xss.length cap, .slice ybase ([] : List (List PV)).length ycap]).run P g.w = .ok (.slice base xss.length cap) g.w := by
        rcases hbase with rfl | ⟨B, off, rfl⟩
        · have hx := (x3 rfl).2
          subst hx
          have hc0 := (x3 rfl).1
          subst hc0
          have hcl := hsrc.cells
          simp only [List.length_nil] at hcl
          simp [Builtin.append_, run_underlying k1, run_underlying ht2, Go.sizeOf, typeInfo, k2, Builtin.lenOf, hcl]
        · have := run_append_room_src g.w t t' ty e i k1 k2 B off xss.length cap _ _ [] hsrc (by simpa using x1) (by simp) (by simp)
          simpa [World.setCells] using this
      simp only [List.append_nil, List.length_nil, Nat.add_zero]
      rcases hb.tok with ⟨ht0, hfull⟩ | ⟨ht0, hv⟩
      · have hcap := hfull base cap rfl
        obtain ⟨h2, g2⟩ := h.setTok (t := tk) (n := xss.length) (k := k) (v := .slice base xss.length cap) (fun n0 k0 e => by rw [ht0] at e; cases e) k7
          (fun g' hw' hS' hhd => by
            rcases hbase with rfl | ⟨B, off, rfl⟩
            · obtain ⟨q1, q2⟩ := x3 rfl
              subst q1; subst q2
              exact .inl ⟨hhd, rfl⟩
            · exact .inr ⟨B, off, cap, hhd, x1, fun hlt => by rcases hlt with q | ⟨q, _⟩ <;> omega⟩)
          (fun B off c e hlt => by cases e; rcases hlt with q | ⟨q, _⟩ <;> omega) hX
        exact ⟨_, { g with hd := fun x => if x = tk then .slice base xss.length cap else g.hd x, T := upd g.T tk (some (xss.length, k)) }, hrun, h2, relLst_own (hb.data.mono g2.S g2.cell g2.blk) (by simp [upd]) (by simp)⟩
      · have hs : ({ s with T := upd s.T tk (some (xss.length, k)) } : PSt) = s := by
          have : upd s.T tk (some (xss.length, k)) = s.T := by
            funext x
            by_cases hx : x = tk
            · subst hx; rw [upd_same, ← h.hT, ht0]
            · rw [upd_other _ _ _ _ hx]
          rw [this]
        rw [hs]
        exact ⟨_, g, hrun, h, relLst_own hb.data ht0 hv.symm⟩
    · -- in place
      have hmpos : 0 < yss.length := List.length_pos_iff.2 hm
      rcases hb.tok with ⟨ht0, hfull⟩ | ⟨ht0, hv⟩
      · have := hfull base cap rfl; omega
      · rcases hbase with rfl | ⟨B, off, rfl⟩
        · have hc0 := (x3 rfl).1
          omega
        · have hsp : Spare g tk B := ⟨xss.length, k, off, cap, ht0, hv.symm, .of_lt (by omega)⟩
          have hthere : g.w.there B (off + xss.length * k) ((cap - xss.length) * k) := by
            rcases h.owns tk _ _ ht0 with ⟨q, _⟩ | ⟨B', off', cap', q, _, hr⟩
            · rw [q] at hv; cases hv
            · rw [q] at hv; cases hv
              intro j hj
              have hck : cap * k = xss.length * k + (cap - xss.length) * k := by rw [← Nat.add_mul]; congr 1; omega
              have := (hr (.of_lt (by omega))).2.2.1 (xss.length * k + j) (by omega)
              rwa [← Nat.add_assoc] at this
          have hmk : yss.length * k ≤ (cap - xss.length) * k := Nat.mul_le_mul_right _ (by omega)
          have hrun := run_append_room_src g.w t t' ty e i k1 k2 B off xss.length cap _ _ news hsrc hroom (fun j hj => by rw [k3]; exact (hthere j (by omega)).1) (fun j hj => by rw [k3]; exact (hthere j (by omega)).2)
          rw [k3] at hrun
          obtain ⟨h2, g2⟩ := h.tokRoom ht0 hv.symm hmpos hroom n1 k7 hX
          refine ⟨_, { g with w := g.w.setCells B (off + xss.length * k) news, S := fun b o => g.S b o ∨ (b = B ∧ off + xss.length * k ≤ o ∧ o < off + (xss.length + yss.length) * k), hd := fun x => if x = tk then .slice (some ⟨B, off, none⟩) (xss.length + yss.length) cap else g.hd x, T := upd g.T tk (some (xss.length + yss.length, k)) }, hrun, h2, relLst_own ?_ (by rw [hlen]; simp [upd]) (by simp)⟩
          have hx := o4 B off rfl
          simp only [RelD]
          rw [hlen]
          refine ⟨hs1, hs2, by simp, .inr ⟨B, off, cap, rfl, hroom, by simp, ?_⟩⟩
          have hcellNew : ∀ j u, news[j]? = some u → (g.w.setCells B (off + xss.length * k) news).cell? ⟨B, off + xss.length * k + j, none⟩ = some u := fun j u hu => by
            have hj : j < news.length := (List.getElem?_eq_some_iff.1 hu).1
            rw [World.cell?_setCells_in B news _ g.w (fun i hi => (hthere i (by omega)).1) j hj, ← hu, List.getElem?_eq_getElem hj]
          refine relEls_of_values hall (vs := olds ++ news) ?_ (fun j u hu => ?_) (fun j hj => ?_)
          · rw [List.flatten_append]
            exact (o2.monoD g2.S g2.cell g2.blk).append (n2.monoD g2.S g2.cell g2.blk)
          · rw [List.getElem?_append] at hu
            by_cases hj : j < olds.length
            · rw [if_pos hj] at hu
              rw [World.cell?_setCells_out _ _ _ _ _ (fun _ _ => .inl (by show off + j < _; omega))]
              exact hx.2 j u hu
            · rw [if_neg hj] at hu
              have := hcellNew _ u hu
              rwa [show off + xss.length * k + (j - olds.length) = off + j by omega] at this
          · rw [List.length_append] at hj
            by_cases hj2 : j < xss.length * k
            · have hcells := (relCells_iff _ _ _).1 hx.1.cells.1
              have hfl : j < xss.flatten.length := by rw [hx.1.cells.2]; exact hj2
              exact .inl (hcells j _ (List.getElem?_eq_getElem hfl)).2.1
            · refine .inr ⟨rfl, by omega, ?_⟩
              rw [Nat.add_mul]; omega
  · -- a new block
    have hmpos : 0 < yss.length := by omega
    have hneed : xss.length + yss.length ≤ grownCap g.w (xss.length + yss.length) cap e := grownCap_ge _ _ _ _
    have holds : (Builtin.firstCells i.size xss.length (.slice base xss.length cap)).run P g.w.drew = .ok olds.toArray g.w.drew := by
      rcases hbase with rfl | ⟨B, off, rfl⟩
      · obtain ⟨q1, q2⟩ := x3 rfl
        have : olds = [] := List.eq_nil_of_length_eq_zero (by rw [o1, q2]; simp)
        rw [this]
        exact run_firstCells_none g.w.drew _ _ _ _
      · exact run_firstCells_some g.w.drew i.size xss.length _ _ _ olds (by rw [o1, k3]) (fun j u hu => by rw [Addr.add_mid]; simpa using (o4 B off rfl).2 j u hu)
    have hrun := run_append_grow_src g.w t t' ty e i z k1 k2 k5 base xss.length cap olds holds _ _ news hsrc (by omega) (by omega) (growslice_fits (by omega) (by rw [k4]; omega))
    generalize hC : grownCap g.w (xss.length + yss.length) cap e = C at *
    generalize hA : ((olds ++ news).toArray ++ Builtin.zeroCells z.cells (C - (xss.length + yss.length))) = arr at *
    have harr : arr.size = C * k := by
      rw [← hA]
      have h1 : (olds ++ news).length = (xss.length + yss.length) * k := by rw [List.length_append, o1, n1, Nat.add_mul]
      have h2 : C = (xss.length + yss.length) + (C - (xss.length + yss.length)) := by omega
      rw [Array.size_append, List.size_toArray, size_zeroCells, k6, h1, ← Nat.add_mul]
      congr 1
      omega
    have hdrew := h.drew
    obtain ⟨h1, g1⟩ := hdrew
    obtain ⟨h2, g2⟩ := h1.newRow arr e ((xss.length + yss.length) * k)
    obtain ⟨h3, g3⟩ := h2.setTok (t := tk) (n := xss.length + yss.length) (k := k) (v := .slice (some ⟨g.w.heap.size, 0, none⟩) (xss.length + yss.length) C)
      (fun n0 k0 e => by
        rcases hb.tok with ⟨ht0, _⟩ | ⟨ht0, _⟩
        · have : g.T tk = some (n0, k0) := e
          rw [ht0] at this; cases this
        · have : g.T tk = some (n0, k0) := e
          rw [ht0] at this; cases this
          exact ⟨rfl, by omega⟩) k7
      (fun g' hw' hS' hhd => .inr ⟨g.w.heap.size, 0, C, hhd, hneed, fun hlt => by
        rw [hw', hS']
        refine ⟨fun _ => ⟨h.below.size, rfl⟩, by simp, fun j hj => ?_, fun _ o ho => ?_⟩
        · have := there_alloc g.w.drew arr e j (by rw [harr]; exact hj)
          simpa using this
        · rcases ho with ho | ⟨_, ho⟩
          · have := h.lt _ _ ho; omega
          · simpa using ho⟩)
      (fun B off c q hlt => by
        cases q
        refine ⟨fun t' ht' => h.spare_lt t' (ht'.congr rfl rfl), fun l hl => h.phi_lt l hl, fun t' ht' => h.xb_lt t' (ht'.congr rfl)⟩) hX
    refine ⟨_, { g with w := g.w.drew.alloc (.cells arr e), S := fun b o => g.S b o ∨ (b = g.w.drew.heap.size ∧ o < (xss.length + yss.length) * k), hd := fun x => if x = tk then .slice (some ⟨g.w.heap.size, 0, none⟩) (xss.length + yss.length) C else g.hd x, T := upd g.T tk (some (xss.length + yss.length, k)) }, hrun, h3, relLst_own ?_ (by rw [hlen]; simp [upd]) (by simp)⟩
    have gle := (g1.trans g2).trans g3
    simp only [RelD]
    rw [hlen]
    refine ⟨hs1, hs2, by simp, .inr ⟨g.w.heap.size, 0, C, rfl, hneed, by simp, ?_⟩⟩
    refine relEls_of_values hall (vs := olds ++ news) ?_ (fun j u hu => ?_) (fun j hj => .inr ⟨rfl, ?_⟩)
    · rw [List.flatten_append]
      exact (o2.monoD gle.S gle.cell gle.blk).append (n2.monoD gle.S gle.cell gle.blk)
    · have := rangeAt_alloc g.w.drew arr e j u (by
        rw [← hA]
        have hj : j < (olds ++ news).length := (List.getElem?_eq_some_iff.1 hu).1
        simp only [Array.toList_append]
        rw [List.getElem?_append_left hj]
        exact hu)
      simpa using this
    · rw [List.length_append, o1, n1] at hj
      rw [Nat.add_mul]
      omega
/-- A made list without elements, with room for some. -/
theorem does_makeSlice (h : InvG Gl S0 w0 s a g) (o : Oper) {t e : TypeId} {n c : Operand} {k b d : Nat} {kn kc : IntKind} {m : Int} (hop : o.op = .makeSlice t n c) (hk : appK P t = some (e, k, b)) (hT : s.T d = none)
    (hn : s.ev n = .int kn 0) (hc : s.ev c = .int kc m) (h0 : 0 ≤ m) (h1 : m.toNat * b ≤ sizeMax) (h2 : m.toNat ≤ sizeMax) :
    Does P o a g.w (fun a' w' => Inv Gl S0 w0 (({ s with T := upd s.T d (some (0, k)) } : PSt).put o.dst (.lst (.own d) k b [])) a' w') := by
  obtain ⟨i, z, k1, k2, k3, k4, k5, k6, k7⟩ := appK_spec hk
  have hnv := h.ev n
  rw [hn, relInt] at hnv
  have hcv := h.ev c
  rw [hc, relInt] at hcv
  have hm : ((m.toNat : Nat) : Int) = m := by omega
  unfold sizeMax at h1 h2
  have hb' : (i.bytes : Int) * m ≤ 281474976710656 := by
    rw [k4, ← hm, ← Int.natCast_mul]
    have := Nat.mul_comm m.toNat b
    omega
  have hrun := run_make (P := P) g.w t e i z k1 k2 k5 kn kc 0 m (Int.le_refl _) h0 hb' (by omega)
  simp only [Int.toNat_zero] at hrun
  have hsz : (madeCells z.cells (m.toNat * i.size)).size = m.toNat * k := by rw [size_madeCells, k3]
  obtain ⟨h3, g3⟩ := h.newRow (madeCells z.cells (m.toNat * i.size)) e 0
  have hTd : g.T d = none := by rw [h.hT]; exact hT
  obtain ⟨h4, g4⟩ := h3.setTok (t := d) (n := 0) (k := k) (v := .slice (some ⟨g.w.heap.size, 0, none⟩) 0 m.toNat) (fun n0 k0 e => by have : g.T d = some (n0, k0) := e; rw [hTd] at this; cases this) k7
    (fun g' hw' hS' hhd => .inr ⟨g.w.heap.size, 0, m.toNat, hhd, Nat.zero_le _, fun hlt => by
      rw [hw', hS']
      refine ⟨fun _ => ⟨h.below.size, rfl⟩, by simp, fun j hj => ?_, fun _ o ho => ?_⟩
      · have := there_alloc g.w (madeCells z.cells (m.toNat * i.size)) e j (by rw [hsz]; exact hj)
        simpa using this
      · rcases ho with ho | ⟨_, ho⟩
        · have := h.lt _ _ ho; omega
        · omega⟩)
    (fun B off c q hlt => by
      cases q
      exact ⟨fun t' ht' => h.spare_lt t' (ht'.congr rfl rfl), fun l hl => h.phi_lt l hl, fun t' ht' => h.xb_lt t' (ht'.congr rfl)⟩) (h.noX fun n e => by rw [hTd] at e; cases e)
  refine .inl ⟨.slice (some ⟨g.w.heap.size, 0, none⟩) 0 m.toNat, _, ?_, ⟨_, rfl, h4.put _ ?_⟩⟩
  · simp [execOp, hop, hnv, hcv, hrun]
  · simp only [Rel, RelA, Rel1, RelD, List.length_nil]
    refine ⟨⟨by simp, by simp, .inl trivial, .inr ⟨g.w.heap.size, 0, m.toNat, rfl, Nat.zero_le _, fun e => (by cases e), trivial⟩⟩, 0, upd_same _ _ _, Nat.le_refl _, fun _ => by simp⟩
end
end PM
