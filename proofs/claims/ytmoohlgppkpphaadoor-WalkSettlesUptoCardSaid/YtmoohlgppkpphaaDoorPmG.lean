/-
  THE PURE MACHINE, G: loads, slices, lengths, composites: values again; all such operations in one function (ev1), and its soundness.
-/
import Derived.Test.YtmoohlgppkpphaaDoorPmF
namespace PM
open Go Go.RowKit

/-- The fields' (offset, size). -/
def placesF (P : Program) : List Field → Option (List (Nat × Nat))
  | [] => some []
  | f :: fs => match P.info? f.type, placesF P fs with
    | some i, some r => some ((f.offset, i.size) :: r)
    | _, _ => none
def placesK (P : Program) (t : TypeId) : Option (List (Nat × Nat)) :=
  match P.underlying t with
  | some (.struct fs) => placesF P fs.toList
  | _ => none
/-- The parts are laid over the zero cells. -/
def pfill (pl : List (Nat × Nat)) : List (Nat × PV) → List PV → Option (List PV)
  | [], cs => some cs
  | (i, v) :: rest, cs => match pl[i]? with
    | some (off, n) =>
      if v.cells.length = n ∧ off + n ≤ cs.length ∧ v.cells.all PV.okCell then pfill pl rest (cs.take off ++ v.cells ++ cs.drop (off + n)) else none
    | none => none
 where
  /-- A cell that is known to be one. -/
  PV.okCell : PV → Bool := PV.one
def evBuild (P : Program) (t : TypeId) (parts : List (Nat × PV)) : Option PV :=
  match zeroK P t, placesK P t, parts, arrK P t with
  | some (.agg z), some pl, parts, _ => (pfill pl parts z).map .agg
  | some (.agg z), none, [], some _ => some (.agg z)
  | _, _, _, _ => none

section
variable {P : Program} {Gl : Nat → Option (List PV)} {S0 : Bs} {w0 : World} {s : PSt} {a : Act} {g : GG} {w : World}

theorem isRow_eq (d : TypeDesc) : d.isRow = isRowD d := by cases d <;> rfl
/-- A bound of a slice expression, present or not. -/
def RelO (g : GG) : Option PV → Option Value → Prop
  | none, none => True
  | some p, some v => Rel g p v
  | _, _ => False
theorem run_loadFrom {t : TypeId} {cs : List PV} {r : PV} {B o : Nat} (h : loadFrom P t cs = some r) (vs : List Value) (hvs : All2 (RelC g) cs vs) (hr : w.rangeAt B o vs) :
    ∃ z, (Instr.loadAt t (.pointer (some ⟨B, o, none⟩))).run P w = .ok z w ∧ Rel g r z := by
  unfold loadFrom at h
  split at h
  · rename_i n hk
    obtain ⟨i, d, h1, h2, h3⟩ := tyK_spec hk
    obtain ⟨h3a, h3b⟩ := Prod.mk.inj h3
    by_cases hn : n ≤ cs.length
    · rw [if_pos hn] at h; cases h
      have hrow : d.isRow = true := by rw [isRow_eq]; exact h3a.symm
      have hlen : (vs.take n).length = n := by rw [List.length_take, ← hvs.1]; omega
      refine ⟨_, run_loadAt_mid w B o t (vs.take n) d (fun j v hv => ?_) h2 hrow (by rw [h1, hlen, h3b]; rfl), ?_⟩
      · rw [List.getElem?_take] at hv
        by_cases hj : j < n
        · rw [if_pos hj] at hv; exact hr j v hv
        · rw [if_neg hj] at hv; cases hv
      · simp only [Rel, RelA]
        refine ⟨_, rfl, ?_⟩
        unfold takeN
        split
        · rename_i he
          rw [show (vs.take n) = vs from List.take_of_length_le (by rw [← hvs.1, he]; exact Nat.le_refl _)]
          exact hvs
        · exact hvs.take n
    · rw [if_neg hn] at h; cases h
  · rename_i n hk
    obtain ⟨i, d, h1, h2, h3⟩ := tyK_spec hk
    obtain ⟨h3a, h3b⟩ := Prod.mk.inj h3
    cases cs with
    | nil => cases h
    | cons c cs =>
      cases h
      obtain ⟨v, vs', rfl, hc, _⟩ := hvs.cons_left
      have hcell := hr 0 v rfl
      rw [Nat.add_zero] at hcell
      refine ⟨v, ?_, hc.rel⟩
      simp only [Instr.loadAt, Instr.sureAddr, Sem.run_bind, Sem.run_pure, Result.andThen_ok, loadVar, run_isAgg h2, ← h3a, Bool.false_eq_true, if_false, load]
      simp [Sem.run, hcell]
  · cases h
theorem RelCells.forC {cs : List PV} {B o : Nat} (h : RelCells g.S g.w cs B o) : ∃ vs, All2 (RelC g) cs vs ∧ g.w.rangeAt B o vs := by
  obtain ⟨vs, h1, h2, h3⟩ := h.values
  refine ⟨vs, ⟨h1.1, fun i x y hx hy => ?_⟩, h2⟩
  have := h1.2 i x y hx hy
  have hone := ((relCells_iff cs B o).1 h i x hx).1
  exact ⟨.of_data this hone, (this.oneCell hone).1⟩
theorem rangeAt_drop {w : World} {B o : Nat} {vs : List Value} (h : w.rangeAt B o vs) (n : Nat) : w.rangeAt B (o + n) (vs.drop n) := fun j v hv => by
  rw [List.getElem?_drop] at hv
  have := h _ v hv
  rwa [show o + (n + j) = o + n + j by omega] at this
theorem rangeAt_take {w : World} {B o : Nat} {vs : List Value} (h : w.rangeAt B o vs) (n : Nat) : w.rangeAt B o (vs.take n) := fun j v hv => by
  rw [List.getElem?_take] at hv
  split at hv
  · exact h j v hv
  · cases hv
theorem flat_drop {k : Nat} : ∀ {xss : List (List PV)} {j : Nat} {cs : List PV}, (∀ c ∈ xss, c.length = k) → xss[j]? = some cs → ∀ o, xss.flatten.drop (j * k + o) = cs.drop o ++ (xss.drop (j + 1)).flatten ∨ cs.length < o
  | [], j, cs, _, h, _ => by simp at h
  | c :: r, 0, cs, hk, h, o => by
    simp at h; subst h
    by_cases ho : c.length < o
    · exact .inr ho
    · left
      rw [Nat.zero_mul, Nat.zero_add, List.flatten_cons, List.drop_append_of_le_length (by omega)]
      simp
  | c :: r, j + 1, cs, hk, h, o => by
    have hc : c.length = k := hk c (by simp)
    rcases flat_drop (k := k) (xss := r) (j := j) (cs := cs) (fun x hx => hk x (by simp [hx])) (by simpa using h) o with e | e
    · left
      rw [List.flatten_cons, List.drop_append, List.drop_eq_nil_of_le (by rw [hc, Nat.succ_mul]; omega), List.nil_append, hc, show (j + 1) * k + o - k = j * k + o by rw [Nat.succ_mul]; omega, e]
      simp
    · exact .inr e
theorem run_evLoad (h : InvG Gl S0 w0 s a g) {t : TypeId} {p r : PV} {v : Value} (he : evLoad P Gl s.H s.X t p = some r) (hv : Rel g p v) :
    ∃ z, (Instr.loadAt t v).run P g.w = .ok z g.w ∧ Rel g r z := by
  cases p <;> simp only [evLoad] at he <;> try cases he
  case cptr cs =>
    rw [relCptr] at hv
    obtain ⟨B, o, rfl, hc⟩ := hv
    obtain ⟨vs, h1, h2⟩ := hc.forC
    exact run_loadFrom he vs h1 h2
  case eref tk k N j o =>
    split at he
    · rename_i k' b' xss hx
      by_cases hc : k' = k ∧ xss.length = N
      · rw [if_pos hc] at he
        obtain ⟨rfl, hN⟩ := hc
        obtain ⟨cs, hcs, hl⟩ := Option.bind_eq_some_iff.1 he
        obtain ⟨q1, q2, q3, q4, q5, q6⟩ := h.exs tk _ _ _ hx
        simp only [Rel, RelA, Rel1] at hv
        obtain ⟨⟨B, q, rfl⟩, N', r1, r2, r3⟩ := hv
        rw [q1] at r1; cases r1
        obtain ⟨B1, cap1, e1, e2⟩ := r3 hN.symm
        cases e2
        have hj : j < xss.length := (List.getElem?_eq_some_iff.1 hcs).1
        rcases q6 with ⟨_, rfl⟩ | ⟨B2, cap2, e3, _, _, _, _, _, ⟨vs, v1, v2⟩, _⟩
        · simp at hj
        · rw [e3] at e1
          simp only [Value.slice.injEq, Option.some.injEq, Addr.mk.injEq, and_true] at e1
          obtain ⟨rfl, _⟩ := e1
          have h3 := rangeAt_drop v2 (j * k' + o)
          rw [Nat.zero_add] at h3
          have h4 : All2 (RelC g) (xss.flatten.drop (j * k' + o)) (vs.drop (j * k' + o)) := (v1.mono fun _ _ q => ⟨Rel1.of_data q.1 q.2, (q.1.oneCell q.2).1⟩).drop _
          have h5 : xss.flatten.drop (j * k' + o) = cs.drop o ++ (xss.drop (j + 1)).flatten ∨ cs.length < o := flat_drop q3 hcs o
          rcases h5 with h5 | h5
          · rw [h5] at h4
            have h6 := h4.take (cs.drop o).length
            rw [List.take_left'] at h6
            · exact run_loadFrom hl _ h6 (rangeAt_take h3 _)
            · rfl
          · rw [List.drop_eq_nil_of_le (by omega)] at hl
            exact run_loadFrom hl [] .nil (fun j v hv => by simp at hv)
      · rw [if_neg hc] at he; cases he
    · cases he
  case ref l o =>
    rw [relRef] at hv
    obtain ⟨rfl, hl⟩ := hv
    split at he
    · rename_i cs hcs
      obtain ⟨_, _, _, vs, h1, h2, _⟩ := h.objs l _ (by rw [h.hH]; exact hcs)
      have h3 := rangeAt_drop h2 o
      rw [Nat.zero_add] at h3
      exact run_loadFrom he _ (h1.drop o) h3
    · cases he
  case gptr i o =>
    rw [relGptr] at hv
    subst hv
    split at he
    · rename_i cs hcs
      obtain ⟨vs, h1, h2⟩ := ((h.glob i cs hcs).drop o).forC
      rw [Nat.zero_add] at h2
      exact run_loadFrom he vs h1 h2
    · cases he

theorem bnd_spec {x : Option PV} {d n : Nat} {ρ : Option Value} (h : bnd x d = some n) (hρ : RelO g x ρ) :
    (x = none ∧ ρ = none ∧ n = d) ∨ ∃ (k : IntKind) (m : Int), x = some (.int k m) ∧ ρ = some (.int k m) ∧ 0 ≤ m ∧ m = n := by
  cases x with
  | none =>
    cases ρ with
    | none => cases h; exact .inl ⟨rfl, rfl, rfl⟩
    | some v => exact hρ.elim
  | some p =>
    cases ρ with
    | none => exact hρ.elim
    | some v =>
      cases p <;> simp only [bnd] at h <;> try cases h
      rename_i k m
      by_cases hm : 0 ≤ m
      · rw [if_pos hm] at h; cases h
        have hρ' : Rel g (.int k m) v := hρ
        rw [relInt] at hρ'
        subst hρ'
        exact .inr ⟨k, m, rfl, rfl, hm, by omega⟩
      · rw [if_neg hm] at h; cases h
/-- What a slice expression's bounds come to. -/
theorem run_bounds {isS : Bool} {len cap l h m : Nat} {lo hi mx : Option PV} {ρl ρh ρm : Option Value}
    (hl : (lo = none ∧ ρl = none ∧ l = 0) ∨ ∃ (k : IntKind) (n : Int), lo = some (.int k n) ∧ ρl = some (.int k n) ∧ 0 ≤ n ∧ n = l)
    (hh : (hi = none ∧ ρh = none ∧ h = len) ∨ ∃ (k : IntKind) (n : Int), hi = some (.int k n) ∧ ρh = some (.int k n) ∧ 0 ≤ n ∧ n = h)
    (hm : (mx = none ∧ ρm = none ∧ m = len) ∨ ∃ (k : IntKind) (n : Int), mx = some (.int k n) ∧ ρm = some (.int k n) ∧ 0 ≤ n ∧ n = m)
    (h1 : l ≤ h) (h2 : h ≤ m) (h3 : m ≤ len) (h4 : len ≤ cap) (h5 : mx = none ∨ hi ≠ none) :
    (Instr.sliceBounds isS len cap ρl ρh ρm).run P w = .ok (l, h, if mx = none then cap else m) w := by
  have sb : ∀ (k : IntKind) (n : Int) (c y : Nat) (code : BoundsCode), 0 ≤ n → n = c → c ≤ y → (Instr.sliceBound (.int k n) y code).run P w = .ok c w := fun k n c y code e1 e2 e3 => by
    rw [run_sliceBound w k n y code e1 (by omega)]
    congr 1
    omega
  rcases hm with ⟨rfl, rfl, rfl⟩ | ⟨km, nm, rfl, rfl, e3, e4⟩
  · rcases hh with ⟨rfl, rfl, rfl⟩ | ⟨kh, nh, rfl, rfl, f3, f4⟩ <;> rcases hl with ⟨rfl, rfl, rfl⟩ | ⟨kl, nl, rfl, rfl, g3, g4⟩
    · simp [Instr.sliceBounds]
    · simp [Instr.sliceBounds, sb kl nl l _ _ g3 g4 h1]
    · simp [Instr.sliceBounds, sb kh nh h cap _ f3 f4 (by omega)]
    · simp [Instr.sliceBounds, sb kh nh h cap _ f3 f4 (by omega), sb kl nl l _ _ g3 g4 h1]
  · rcases hh with ⟨rfl, rfl, rfl⟩ | ⟨kh, nh, rfl, rfl, f3, f4⟩
    · simp at h5
    · rcases hl with ⟨rfl, rfl, rfl⟩ | ⟨kl, nl, rfl, rfl, g3, g4⟩
      · simp [Instr.sliceBounds, sb km nm m cap _ e3 e4 (by omega), sb kh nh h m _ f3 f4 h2]
      · simp [Instr.sliceBounds, sb km nm m cap _ e3 e4 (by omega), sb kh nh h m _ f3 f4 h2, sb kl nl l _ _ g3 g4 h1]
theorem RelEls.slice {S : Cells} {k : Nat} {xss : List (List PV)} {B o : Nat} (h : RelEls S w k xss B o) (l n : Nat) : RelEls S w k ((xss.take n).drop l) B (o + l * k) := by
  rw [relEls_iff] at h ⊢
  intro i cs hcs
  rw [List.getElem?_drop, List.getElem?_take] at hcs
  by_cases hi : l + i < n
  · rw [if_pos hi] at hcs
    have := h _ cs hcs
    rwa [show o + (l + i) * k = o + l * k + i * k by rw [Nat.add_mul]; omega] at this
  · rw [if_neg hi] at hcs; cases hcs
theorem run_evSlice {t : TypeId} {lo hi mx : Option PV} {ρl ρh ρm : Option Value} {p r : PV} {v : Value} (he : evSlice P t lo hi mx p = some r) (hv : Rel g p v) (hgw : g.w = w)
    (hl : RelO g lo ρl)
    (hh : RelO g hi ρh)
    (hm : RelO g mx ρm) :
    ∃ z, (Instr.sliceAt t v ρl ρh ρm).run P w = .ok z w ∧ Rel g r z := by
  subst hgw
  cases p <;> simp only [evSlice] at he <;> try cases he
  case lst o k b xss =>
    split at he
    · rename_i e x k1 b1 l h m hk e1 e2 e3
      split at he
      · rename_i hc
        obtain ⟨rfl, c1, c2, c3, c4⟩ := hc
        cases he
        obtain ⟨i, d, q1, q2, q3, q4, q5, q6⟩ := elemK_spec hk
        have hd := relLst hv
        simp only [RelD] at hd
        obtain ⟨d1, d2, d3, d4⟩ := hd
        have hlen : ((xss.take h).drop l).length = h - l := by rw [List.length_drop, List.length_take]; omega
        have d1' : (h - l) * b ≤ 140737488351232 := Nat.le_trans (Nat.mul_le_mul_right _ (by omega)) d1
        have hAt : ∀ (base : Option Addr) (len cap : Nat), len = xss.length → len ≤ cap → (Instr.sliceAt t (.slice base len cap) ρl ρh ρm).run P g.w =
            .ok (.slice (if (if mx = none then cap else m) = l then base else base.map (·.add (l * k1))) (h - l) ((if mx = none then cap else m) - l)) g.w := by
          intro base len cap hlen' hcap
          subst hlen'
          have hb := run_bounds (P := P) (w := g.w) (isS := true) (cap := cap) (bnd_spec e1 hl) (bnd_spec e2 hh) (bnd_spec e3 hm) c1 c2 c3 hcap c4
          simp only [Instr.sliceAt, Sem.run_bind, run_underlying q1, Result.andThen_ok, Instr.slice, hb, run_sizeOf q2, Sem.run_pure, q5]
        rcases d4 with ⟨rfl, hnil⟩ | ⟨B, off, cap, rfl, d5, d6, d7⟩
        · subst hnil
          have h0 : l = 0 ∧ h = 0 ∧ m = 0 := by simp at c3; omega
          obtain ⟨rfl, rfl, rfl⟩ := h0
          refine ⟨_, hAt none 0 0 rfl (Nat.le_refl _), ?_⟩
          have hz : (if mx = none then 0 else 0) = 0 := by split <;> rfl
          have : ∀ o', (o' = Own.frozen ∨ o' = Own.full) → Rel g (.lst o' k1 b ((([] : List (List PV)).take 0).drop 0)) (.slice none 0 0) := by
            intro o' ho'
            rcases ho' with rfl | rfl <;> (simp only [Rel, RelA, Rel1, RelD]; exact ⟨by simp, by simp, by simp, .inl (by simp)⟩)
          have h2 := this (if mx ≠ none ∧ 0 = 0 ∨ o = Own.full ∧ hi = none then Own.full else Own.frozen) (by split <;> simp)
          simpa [hz] using h2
        · refine ⟨_, hAt _ _ _ rfl d5, ?_⟩
          have hfrozen : ∀ (o' : Own) (base : Option Addr) (cap' : Nat), (o' = .frozen ∨ o' = .full) → (o' = .full → cap' = h - l) → h - l ≤ cap' → (base = some ⟨B, off + l * k1, none⟩ ∨ (h - l = 0 ∧ base = some ⟨B, off, none⟩)) →
              Rel g (.lst o' k1 b ((xss.take h).drop l)) (.slice base (h - l) cap') := by
            intro o' base cap' ho' hf hcap' hbase
            have hD : RelD g.S g.w (.lst o' k1 b ((xss.take h).drop l)) (.slice base (h - l) cap') := by
              simp only [RelD]
              rw [hlen]
              refine ⟨d1', by omega, ho', .inr ?_⟩
              rcases hbase with rfl | ⟨hz, rfl⟩
              · exact ⟨B, off + l * k1, cap', rfl, hcap', hf, d7.slice l h⟩
              · refine ⟨B, off, cap', rfl, hcap', hf, ?_⟩
                have hnil : (xss.take h).drop l = [] := List.eq_nil_of_length_eq_zero (by rw [hlen]; exact hz)
                rw [hnil]
                simp [RelEls]
            rcases ho' with rfl | rfl <;> exact hD
          have hC : m ≤ (if mx = none then cap else m) := by split <;> omega
          have hfull : (if (mx ≠ none ∧ m = h) ∨ (o = .full ∧ hi = none) then Own.full else Own.frozen) = .full → (if mx = none then cap else m) - l = h - l := by
            intro hfull
            split at hfull
            · rename_i hor
              rcases hor with ⟨hmx, rfl⟩ | ⟨rfl, rfl⟩
              · rw [if_neg hmx]
              · cases mx with
                | some _ => simp at c4
                | none =>
                  simp only [if_true]
                  have hcap2 : cap = xss.length := by
                    have hv' : RelD g.S g.w (.lst .full k1 b xss) (.slice (some ⟨B, off, none⟩) xss.length cap) := hv
                    simp only [RelD] at hv'
                    obtain ⟨_, _, _, ⟨hh', _⟩ | ⟨_, _, _, hh', _, hf, _⟩⟩ := hv'
                    · cases hh'
                    · cases hh'; exact hf trivial
                  have : h = xss.length := by
                    rcases bnd_spec e2 hh with ⟨_, _, e⟩ | ⟨_, _, e, _⟩
                    · exact e
                    · cases e
                  omega
            · cases hfull
          generalize (if mx = none then cap else m) = C at *
          refine hfrozen _ _ _ ?_ hfull (by omega) ?_
          · split <;> simp
          · by_cases hz : C = l
            · exact .inr ⟨by omega, by rw [if_pos hz]⟩
            · left; rw [if_neg hz]; simp only [Option.map_some, Addr.add_lit]
      · cases he
    · cases he
  case nil =>
    have hv' : v = .slice none 0 0 := by simpa [Rel, RelA, Rel1, RelD] using hv
    subst hv'
    split at he
    · rename_i x hk e1 e2 e3
      by_cases c4 : mx = none ∨ hi ≠ none
      · rw [if_pos c4] at he; cases he
        obtain ⟨e, x2, k1, b1⟩ := x
        obtain ⟨i, d, q1, q2, q3, q4, q5, q6⟩ := elemK_spec hk
        have hb := run_bounds (P := P) (w := g.w) (isS := true) (len := 0) (cap := 0) (bnd_spec e1 hl) (bnd_spec e2 hh) (bnd_spec e3 hm) (Nat.le_refl 0) (Nat.le_refl 0) (Nat.le_refl 0) (Nat.le_refl 0) c4
        have hz : (if mx = none then 0 else 0) = 0 := by split <;> rfl
        rw [hz] at hb
        exact ⟨.slice none 0 0, by simp only [Instr.sliceAt, Sem.run_bind, run_underlying q1, Result.andThen_ok, Instr.slice, hb, run_sizeOf q2, Sem.run_pure, if_true, Nat.sub_self], by simp [Rel, RelA, Rel1, RelD]⟩
      · rw [if_neg c4] at he; cases he
    · cases he
  case sl l o len k b =>
    split at he
    · rename_i e x k1 b1 a h hk e1 e2
      split at he
      · rename_i hc
        obtain ⟨rfl, c1, c2, rfl⟩ := hc
        cases he
        obtain ⟨i, d, q1, q2, q3, q4, q5, q6⟩ := elemK_spec hk
        have hρm : ρm = none := by cases ρm with | none => rfl | some _ => exact hm.elim
        subst hρm
        simp only [Rel, RelA, Rel1] at hv
        obtain ⟨⟨off, cap, rfl, hcap, hoff⟩, cs, hcs, hlen⟩ := hv
        have hb := run_bounds (P := P) (w := g.w) (isS := true) (len := len) (cap := cap) (m := len) (mx := none) (ρm := none) (bnd_spec e1 hl) (bnd_spec e2 hh) (.inl ⟨rfl, rfl, rfl⟩) c1 c2 (Nat.le_refl _) hcap (.inl rfl)
        refine ⟨_, by simp only [Instr.sliceAt, Sem.run_bind, run_underlying q1, Result.andThen_ok, Instr.slice, hb, run_sizeOf q2, Sem.run_pure, if_true]; rfl, ?_⟩
        simp only [Rel, RelA, Rel1]
        have hle : (o + a + (h - a)) * k1 ≤ (o + len) * k1 := Nat.mul_le_mul_right _ (by omega)
        by_cases hz : cap = a
        · rw [if_pos hz]
          exact ⟨⟨off, cap - a, rfl, by omega, .inr (by omega)⟩, cs, hcs, by omega⟩
        · rw [if_neg hz]
          refine ⟨⟨off + a * i.size, cap - a, by simp only [Option.map_some, Addr.add_lit], by omega, ?_⟩, cs, hcs, by omega⟩
          rcases hoff with rfl | h0
          · left; rw [← q5, Nat.add_mul]
          · right; omega
      · cases he
    · cases he
  case ex tk k b N o len =>
    split at he
    · rename_i e x k1 b1 a h hk e1 e2
      split at he
      · rename_i hc
        obtain ⟨rfl, c1, c2, rfl⟩ := hc
        cases he
        obtain ⟨i, d, q1, q2, q3, q4, q5, q6⟩ := elemK_spec hk
        have hρm : ρm = none := by cases ρm with | none => rfl | some _ => exact hm.elim
        subst hρm
        simp only [Rel, RelA, Rel1] at hv
        obtain ⟨⟨base, cap, rfl, hcap, hbase⟩, N', r1, r2, r3⟩ := hv
        have hb := run_bounds (P := P) (w := g.w) (isS := true) (len := len) (cap := cap) (m := len) (mx := none) (ρm := none) (bnd_spec e1 hl) (bnd_spec e2 hh) (.inl ⟨rfl, rfl, rfl⟩) c1 c2 (Nat.le_refl _) hcap (.inl rfl)
        refine ⟨_, by simp only [Instr.sliceAt, Sem.run_bind, run_underlying q1, Result.andThen_ok, Instr.slice, hb, run_sizeOf q2, Sem.run_pure, if_true]; rfl, ?_⟩
        simp only [Rel, RelA, Rel1]
        refine ⟨⟨_, _, rfl, by omega, fun hp => ?_⟩, N', r1, r2, fun e => ?_⟩
        · obtain ⟨B, off, rfl⟩ := hbase (by omega)
          rw [if_neg (by omega)]
          exact ⟨B, off + a * i.size, by simp only [Option.map_some, Addr.add_lit]⟩
        · rcases r3 e with ⟨s1, s2, s3, s4⟩ | ⟨B, cap', off, s1, s2, s3, s4, s5, s6⟩
          · subst s3; subst s4
            obtain rfl : a = 0 := by omega
            obtain rfl : h = 0 := by omega
            left
            refine ⟨?_, s2, rfl, rfl⟩
            rw [← s1]
            by_cases hz : cap = 0
            · subst hz; simp
            · rw [if_neg hz]
              cases base with
              | none => simp
              | some ad => simp [Addr.add]
          · simp only [Value.slice.injEq] at s5
            obtain ⟨rfl, _, rfl⟩ := s5
            refine .inr ⟨B, cap', if cap' - o = a then off else off + a * i.size, s1, s2, s3, by omega, ?_, ?_⟩
            · rw [show cap' - o - a = cap' - (o + a) by omega]
              by_cases hz : cap' - o = a
              · rw [if_pos hz, if_pos hz]
              · rw [if_neg hz, if_neg hz]; simp only [Option.map_some, Addr.add_lit]
            · by_cases hz : cap' - o = a
              · right; omega
              · rw [if_neg hz]
                rcases s6 with rfl | s6
                · left; rw [← q5, Nat.add_mul]
                · right; omega
      · cases he
    · cases he
  case str st =>
    rw [relStr] at hv; subst hv
    split at he
    · rename_i l h e1 e2
      split at he
      · rename_i hc
        obtain ⟨c1, c2, c3, rfl⟩ := hc
        cases he
        have hρm : ρm = none := by cases ρm with | none => rfl | some _ => exact hm.elim
        subst hρm
        have hb := run_bounds (P := P) (w := g.w) (isS := false) (len := st.size) (cap := st.size) (m := st.size) (mx := none) (ρm := none) (bnd_spec e1 hl) (bnd_spec e2 hh) (.inl ⟨rfl, rfl, rfl⟩) c2 c3 (Nat.le_refl _) (Nat.le_refl _) (.inl rfl)
        exact ⟨_, by simp [Instr.sliceAt, Sem.run_bind, run_underlying (strT_spec c1), Instr.slice, hb], relStr.2 rfl⟩
      · cases he
    · cases he
theorem mapT_spec {t : TypeId} (h : mapT P t = true) : ∃ k e, P.underlying t = some (.map k e) := by
  unfold mapT at h
  split at h
  · rename_i k e he; exact ⟨k, e, he⟩
  · cases h
theorem run_evLen (h : InvG Gl S0 w0 s a g) {t ty : TypeId} {p r : PV} {v : Value} (he : evLen P s.H t p = some r) (hv : Rel g p v) : ∃ z, (Builtin.len_ #[t] ty #[v]).run P g.w = .ok z g.w ∧ Rel g r z := by
  cases p <;> simp only [evLen] at he <;> try cases he
  case lst o k b xss =>
    split at he
    · rename_i hs
      cases he
      obtain ⟨e, hu⟩ := sliceT_spec hs
      have hd := relLst hv
      simp only [RelD] at hd
      obtain ⟨_, _, _, ⟨rfl, rfl⟩ | ⟨B, off, cap, rfl, _⟩⟩ := hd
      · exact ⟨_, by simp [Builtin.len_, run_underlying hu, goInt], relInt.2 rfl⟩
      · exact ⟨_, by simp [Builtin.len_, run_underlying hu, goInt], relInt.2 rfl⟩
    · cases he
  case sl l o n k b =>
    split at he
    · rename_i hs
      cases he
      obtain ⟨e, hu⟩ := sliceT_spec hs
      simp only [Rel, RelA, Rel1] at hv
      obtain ⟨⟨_, _, rfl, _⟩, _⟩ := hv
      exact ⟨_, by simp [Builtin.len_, run_underlying hu, goInt], relInt.2 rfl⟩
    · cases he
  case ex tk k b N o n =>
    split at he
    · rename_i hs
      cases he
      obtain ⟨e, hu⟩ := sliceT_spec hs
      simp only [Rel, RelA, Rel1] at hv
      obtain ⟨⟨_, _, rfl, _⟩, _⟩ := hv
      exact ⟨_, by simp [Builtin.len_, run_underlying hu, goInt], relInt.2 rfl⟩
    · cases he
  case nil =>
    split at he
    · rename_i hs
      cases he
      obtain ⟨e, hu⟩ := sliceT_spec hs
      have hv' : v = .slice none 0 0 := by simpa [Rel, RelA, Rel1, RelD] using hv
      subst hv'
      exact ⟨_, by simp [Builtin.len_, run_underlying hu, goInt], relInt.2 rfl⟩
    · cases he
  case str st =>
    split at he
    · rename_i hs
      cases he
      rw [relStr] at hv; subst hv
      exact ⟨_, by simp [Builtin.len_, run_underlying (strT_spec hs), goInt], relInt.2 rfl⟩
    · cases he
  case mp l =>
    split at he
    · rename_i es hes
      split at he
      · rename_i hs
        cases he
        obtain ⟨k, e, hu⟩ := mapT_spec hs
        simp only [Rel, RelA, Rel1] at hv
        obtain ⟨rfl, _⟩ := hv
        obtain ⟨_, _, _, arr, clock, h1, h2⟩ := h.objs l _ (by rw [h.hH]; exact hes)
        refine ⟨.int .i64 arr.size, ?_, relInt.2 (by rw [h2.1]; simp)⟩
        simp [Builtin.len_, run_underlying hu, goInt, getObj, Sem.run, h1]
      · cases he
    · cases he
end
end PM
