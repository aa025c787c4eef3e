/-
  THE PURE MACHINE, R: calls that only read lists and variables that nobody else holds: they return numbers, or a list of numbers in new memory.
-/
import Derived.Test.YtmbcgmlgbcookaaDoorPmQa
namespace PM
open Go Go.RowKit

/-- An argument: a variable's address is read as the address of data. -/
def bdV (ts : List Nat) (s : PSt) (l : Nat) : Option (PV × List (Nat × Nat)) := match s.H l with
  | some (.cells cs) => match bdL ts s cs with
    | some x => if x.1.all PV.one = true then some (.cptr x.1, x.2) else none
    | none => none
  | _ => none
/-- What a closure holds. -/
def bdC (ts : List Nat) (s : PSt) : PV → Option (PV × List (Nat × Nat))
  | .ref l o => if o = 0 then bdV ts s l else none
  | p => some (p, [])
def bdCs (ts : List Nat) (s : PSt) : List PV → Option (List PV × List (Nat × Nat))
  | [] => some ([], [])
  | p :: ps => match bdC ts s p, bdCs ts s ps with
    | some a, some b => some (a.1 :: b.1, a.2 ++ b.2)
    | _, _ => none
def bdP (ts : List Nat) (s : PSt) : PV → Option (PV × List (Nat × Nat))
  | .ref l o => if o = 0 then bdV ts s l else none
  | .fn f caps => match bdCs ts s caps with
    | some x => some (.fn f x.1, x.2)
    | none => none
  | p => bdA ts s p
def bdPs (ts : List Nat) (s : PSt) : List PV → Option (List PV × List (Nat × Nat))
  | [] => some ([], [])
  | p :: ps => match bdP ts s p, bdPs ts s ps with
    | some a, some b => some (a.1 :: b.1, a.2 ++ b.2)
    | _, _ => none
section
variable {P : Program} {Gl : Nat → Option (List PV)} {S0 : Bs} {w0 : World} {s : PSt} {a : Act} {g : GG}
theorem InvG.borrowR (h : InvG Gl S0 w0 s a g) (ts : List Nat) : ∃ S1 : Cells, (∀ B o, g.S B o → S1 B o) ∧ (∀ B o, S1 B o → B < g.w.heap.size) ∧ (∀ i cs, Gl i = some cs → RelTab S1 g.w cs i) ∧
    (∀ t, t ∈ ts → ∀ k b xss, s.X t = some (k, b, xss) → ∀ v, View (g.hd t) xss.length k 0 xss.length v → RelD S1 g.w (.lst .frozen k b xss) v) ∧ ∀ l cs o, g.H l = some (.cells cs) → o < cs.length → S1 (g.φ l) o := by
  obtain ⟨S1, b1, b2, b3, b4⟩ := h.borrow ts
  refine ⟨fun B o => S1 B o ∨ ∃ l cs, g.H l = some (.cells cs) ∧ B = g.φ l ∧ o < cs.length, fun B o e => .inl (b1 B o e), ?_, fun i cs e => (b3 i cs e).mono (fun _ _ q => .inl q) (fun _ _ _ => rfl) (fun _ _ => rfl),
    fun t ht k b xss hx v hv => (b4 t ht k b xss hx v hv).mono (fun _ _ q => .inl q) (fun _ _ _ => rfl) (fun _ _ => rfl), fun l cs o hl ho => .inr ⟨l, cs, hl, rfl, ho⟩⟩
  rintro B o (e | ⟨l, cs, hl, rfl, _⟩)
  · exact b2 B o e
  · exact (h.objs l _ hl).2.1
theorem bdL_one {ts : List Nat} : ∀ {cs : List PV} {q : List PV × List (Nat × Nat)}, bdL ts s cs = some q → q.1.length = cs.length
  | [], q, h => by simp only [bdL] at h; cases h; rfl
  | c :: cs, q, h => by
    simp only [bdL] at h
    split at h
    · rename_i x y e1 e2
      cases h
      simp [bdL_one e2]
    · cases h
theorem bdV_spec (h : InvG Gl S0 w0 s a g) {ts : List Nat} {S1 : Cells} (hS : ∀ B o, g.S B o → S1 B o) (hb : ∀ t, t ∈ ts → ∀ k b xss, s.X t = some (k, b, xss) → ∀ v, View (g.hd t) xss.length k 0 xss.length v → RelD S1 g.w (.lst .frozen k b xss) v)
    (hl : ∀ l cs o, g.H l = some (.cells cs) → o < cs.length → S1 (g.φ l) o) {l : Nat} {q : PV × List (Nat × Nat)} (hd : bdV ts s l = some q) (he : q.2.map (·.1) = q.2.map (·.2)) : RelD S1 g.w q.1 (.pointer (some ⟨g.φ l, 0, none⟩)) := by
  unfold bdV at hd
  split at hd
  · rename_i cs hcs
    split at hd
    · rename_i x hx
      split at hd
      · rename_i hone
        cases hd
        have hcs' : g.H l = some (.cells cs) := by rw [h.hH]; exact hcs
        obtain ⟨_, _, _, vs, v1, v2, v3⟩ := h.objs l _ hcs'
        have hall := bdL_spec h hS hb v1 hx he
        simp only [RelD]
        refine ⟨g.φ l, 0, rfl, ?_⟩
        rw [relCells_iff]
        intro i c hc
        obtain ⟨u, hu, hrel⟩ := hall.right hc
        refine ⟨List.all_eq_true.1 hone c (List.mem_of_getElem? hc), ?_, u, v2 i u hu, hrel⟩
        rw [Nat.zero_add]
        refine hl l cs i hcs' ?_
        have := (List.getElem?_eq_some_iff.1 hc).1
        rw [bdL_one hx] at this; exact this
      · cases hd
    · cases hd
  · cases hd
theorem bdCs_spec (h : InvG Gl S0 w0 s a g) {ts : List Nat} {S1 : Cells} (hS : ∀ B o, g.S B o → S1 B o) (hb : ∀ t, t ∈ ts → ∀ k b xss, s.X t = some (k, b, xss) → ∀ v, View (g.hd t) xss.length k 0 xss.length v → RelD S1 g.w (.lst .frozen k b xss) v)
    (hl : ∀ l cs o, g.H l = some (.cells cs) → o < cs.length → S1 (g.φ l) o) : ∀ {ps : List PV} {q : List PV × List (Nat × Nat)} {vs : List Value}, All2 (Rel0 g) ps vs → bdCs ts s ps = some q → q.2.map (·.1) = q.2.map (·.2) → All2 (RelD S1 g.w) q.1 vs
  | [], q, vs, hr, hd, _ => by
    simp only [bdCs] at hd; cases hd
    rw [hr.nil_left]; exact .nil
  | c :: cs, q, vs, hr, hd, he => by
    simp only [bdCs] at hd
    split at hd
    · rename_i x y e1 e2
      cases hd
      obtain ⟨v, vs', rfl, h1, h2⟩ := hr.cons_left
      obtain ⟨he1, he2⟩ := all_eq he
      refine .cons ?_ (bdCs_spec h hS hb hl h2 e2 he2)
      cases c
      case ref l o =>
        simp only [bdC] at e1
        split at e1
        · rename_i ho
          subst ho
          simp only [Rel0] at h1
          rw [h1.1]
          exact bdV_spec h hS hb hl e1 he1
        · cases e1
      all_goals
        simp only [bdC] at e1
        cases e1
        simp only [Rel0] at h1
        exact h1.mono hS (fun _ _ _ => rfl) (fun _ _ => rfl)
    · cases hd
theorem bdP_spec (h : InvG Gl S0 w0 s a g) {ts : List Nat} {S1 : Cells} (hS : ∀ B o, g.S B o → S1 B o) (hb : ∀ t, t ∈ ts → ∀ k b xss, s.X t = some (k, b, xss) → ∀ v, View (g.hd t) xss.length k 0 xss.length v → RelD S1 g.w (.lst .frozen k b xss) v)
    (hl : ∀ l cs o, g.H l = some (.cells cs) → o < cs.length → S1 (g.φ l) o) {p : PV} {q : PV × List (Nat × Nat)} {v : Value} (hr : Rel g p v) (hd : bdP ts s p = some q) (he : q.2.map (·.1) = q.2.map (·.2)) : RelD S1 g.w q.1 v := by
  have hA : (∀ vs, p ≠ .tup vs) → RelA g p v := fun hn => by cases p <;> first | exact hr | exact absurd rfl (hn _)
  have old : bdA ts s p = some q → RelD S1 g.w q.1 v := fun e => bdA_spec h hS hb (hA fun vs ev => by subst ev; simp [bdA, bd1, datum1] at e) e he
  cases p
  case ref l o =>
    simp only [bdP] at hd
    split at hd
    · rename_i ho
      subst ho
      rw [relRef] at hr
      obtain ⟨rfl, _⟩ := hr
      exact bdV_spec h hS hb hl hd he
    · cases hd
  case fn f caps =>
    simp only [bdP] at hd
    split at hd
    · rename_i x hx
      cases hd
      have hr : Rel1 g (.fn f caps) v := hA fun vs ev => by cases ev
      simp only [Rel1] at hr
      obtain ⟨arr, rfl, h1⟩ := hr
      simp only [RelD]
      exact ⟨arr, rfl, (relDs_iff _ _).2 (bdCs_spec h hS hb hl h1 hx he)⟩
    · cases hd
  all_goals exact old hd
theorem bdPs_spec (h : InvG Gl S0 w0 s a g) {ts : List Nat} {S1 : Cells} (hS : ∀ B o, g.S B o → S1 B o) (hb : ∀ t, t ∈ ts → ∀ k b xss, s.X t = some (k, b, xss) → ∀ v, View (g.hd t) xss.length k 0 xss.length v → RelD S1 g.w (.lst .frozen k b xss) v)
    (hl : ∀ l cs o, g.H l = some (.cells cs) → o < cs.length → S1 (g.φ l) o) : ∀ {ps : List PV} {q : List PV × List (Nat × Nat)} {vs : List Value}, All2 (Rel g) ps vs → bdPs ts s ps = some q → q.2.map (·.1) = q.2.map (·.2) → All2 (RelD S1 g.w) q.1 vs
  | [], q, vs, hr, hd, _ => by
    simp only [bdPs] at hd; cases hd
    rw [hr.nil_left]; exact .nil
  | c :: cs, q, vs, hr, hd, he => by
    simp only [bdPs] at hd
    split at hd
    · rename_i x y e1 e2
      cases hd
      obtain ⟨v, vs', rfl, h1, h2⟩ := hr.cons_left
      obtain ⟨he1, he2⟩ := all_eq he
      exact .cons (bdP_spec h hS hb hl h1 e1 he1) (bdPs_spec h hS hb hl h2 e2 he2)
    · cases hd
def callHdR (ts : List Nat) : List (Oper × Gd) → PSt → Option (FuncId × List PV × List (Nat × Nat))
  | (o, .always) :: _, s => match callOf o.op with
    | some (x, args) => match s.ev x with
      | .fn f caps => if caps.all capOK = true then (bdPs ts s (args.map s.ev ++ caps)).map fun q => (f, q) else none
      | _ => none
    | none => none
  | _, _ => none
/-- What all these calls have in common: what the function is called with. -/
theorem callR {Ls : List (Oper × Gd)} {f : FuncId} {as : List PV} {o : Oper} {rest : List (Oper × Gd)} (ts : List Nat) (hL : Ls = (o, .always) :: rest) (hF : FnOK P f)
    (h0 : (callHdR ts Ls s).map (fun x => (x.1, dcoAL as x.2.1, x.2.2.map (·.1))) = (callHdR ts Ls s).map (fun x => (f, as, x.2.2.map (·.2)))) (hs0 : (callHdR ts Ls s).isSome = true) (hg : InvG Gl S0 w0 s a g) :
    isMove o.op = false ∧ ∃ vs : List Value, (execOp a.eval o).run P g.w = .ok (.enter f vs.toArray) g.w ∧ ∃ S1 : Cells, (∀ B o, g.S B o → S1 B o) ∧ (∀ B o, S1 B o → B < g.w.heap.size) ∧ (∀ i cs, Gl i = some cs → RelTab S1 g.w cs i) ∧ All2 (RelD S1 g.w) as vs := by
  subst hL
  obtain ⟨y0, h⟩ := Option.isSome_iff_exists.1 hs0
  rw [h] at h0
  obtain ⟨f0, qs, eqs⟩ := y0
  simp only [Option.map_some, Option.some.injEq, Prod.mk.injEq] at h0
  obtain ⟨rfl, hdc, heq⟩ := h0
  simp only [callHdR] at h
  split at h
  · rename_i x args hco
    split at h
    · rename_i f' caps e1
      split at h
      · rename_i hcapok
        obtain ⟨qs', e3, h'⟩ := Option.map_eq_some_iff.1 h
        simp only [Prod.mk.injEq] at h'
        obtain ⟨rfl, h'⟩ := h'
        subst h'
        obtain ⟨c, hop, hcal, hargs⟩ := callOf_spec hco
        obtain ⟨fn, hfn1, hfn2, hfn3⟩ := hF
        refine ⟨by rw [hop]; rfl, ?_⟩
        have hx := hg.ev x
        rw [e1] at hx
        simp only [Rel, RelA, Rel1] at hx
        obtain ⟨arr, hfv, hcaps⟩ := hx
        have hcapsR : All2 (Rel g) caps arr.toList := ⟨hcaps.1, fun i p v hp hv => by
          have h1 := hcaps.2 i p v hp hv
          have h2 := List.all_eq_true.1 hcapok p (List.mem_of_getElem? hp)
          cases p <;> simp only [capOK] at h2 <;> try cases h2
          all_goals exact h1⟩
        have hall : All2 (Rel g) (args.map s.ev ++ caps) (args.map a.eval ++ arr.toList) := All2.append ⟨by simp, fun i p v hp hv => by
          rw [List.getElem?_map] at hp hv
          cases hi : args[i]? with
          | none => rw [hi] at hp; cases hp
          | some y => rw [hi] at hp hv; cases hp; cases hv; exact hg.ev y⟩ hcapsR
        obtain ⟨S1, b1, b2, b3, b4, b5⟩ := hg.borrowR ts
        have hD := dcoAL_rel (ps := as) (bdPs_spec hg b1 b4 b5 hall e3 heq)
        rw [hdc] at hD
        refine ⟨args.map a.eval ++ arr.toList, ?_, S1, b1, b2, b3, hD⟩
        have hname : fn.name ≠ "runtime.NumGoroutine" := by simpa using hfn2
        have hbody : fn.body ≠ none := fun e => by rw [e] at hfn3; cases hfn3
        have hca : c.args.map a.eval ++ arr = (args.map a.eval ++ arr.toList).toArray := Array.toList_inj.1 (by simp [hargs])
        simp [execOp, hop, resolve, hcal, hfv, Deferred.ofValue, invoke, callFunc, run_program, hfn1, hname, hbody]
        simpa using hca
      · cases h
    · cases h
  · cases h
theorem headR {ts : List Nat} {Ls : List (Oper × Gd)} (hs0 : (callHdR ts Ls s).isSome = true) : ∃ o rest, Ls = (o, .always) :: rest := by
  unfold callHdR at hs0
  split at hs0
  · exact ⟨_, _, rfl⟩
  · cases hs0
/-- It returns numbers. -/
theorem p_callR {Ls : List (Oper × Gd)} {Q : PSt → Prop} {f : FuncId} {as : List PV} {r : PV} (ts : List Nat) (hc : PCall P Gl f as r) (h0 : (callHdR ts Ls s).map (fun x => (x.1, dcoAL as x.2.1, x.2.2.map (·.1))) = (callHdR ts Ls s).map (fun x => (f, as, x.2.2.map (·.2)))) (hs0 : (callHdR ts Ls s).isSome = true) (hs : scal r = true)
    (h2 : pops P Gl false (Ls.drop 1) (s.put (dstHd Ls) r) Q) : pops P Gl false Ls s Q := by
  obtain ⟨o, rest, rfl⟩ := headR hs0
  by_cases hm : isMove o.op = false
  · refine p_sem (n := s) (v := r) hm ?_ h2
    intro S0 w0 a g K Q' hg hK
    obtain ⟨_, vs, hrun, S1, b1, b2, b3, hD⟩ := callR ts rfl hc.1 h0 hs0 hg
    unfold Oper.wp
    rw [hrun]
    refine (hc.2 S1 g.w _ b2 b3 (by simpa using hD)).mono fun e w' he => ?_
    obtain ⟨v, g', rfl, rfl, ha⟩ := he
    obtain ⟨k1, k2⟩ := hg.grow' ha.below
    exact hK v { g with w := g'.w } k1 k2 (scal_rel hs ha.rel)
  · have : callOf o.op = none := by cases hop : o.op <;> simp [isMove, hop] at hm <;> rfl
    simp [callHdR, this] at hs0
theorem flatten_len {k : Nat} {xss : List (List PV)} (h : ∀ cs ∈ xss, cs.length = k) : xss.flatten.length = xss.length * k := by
  rw [List.length_flatten]
  have : xss.map List.length = List.replicate xss.length k := by
    rw [List.eq_replicate_iff]
    exact ⟨by simp, fun b hb => by obtain ⟨x, hx, rfl⟩ := List.mem_map.1 hb; exact h x hx⟩
  rw [this]; simp
theorem scal1_relD {S S' : Cells} {w w' : World} {p : PV} {v : Value} (hs : scal1 p = true) (h : RelD S w p v) : RelD S' w' p v := by
  cases p <;> simp only [scal1, Bool.false_eq_true] at hs <;> (simp only [RelD] at h ⊢; exact h)
theorem numbers {α : Type} [Enc α] (hsc : ∀ x : α, (cellsOf x).all scal1 = true) (L : List α) {S S' : Cells} {w w' : World} {us : List Value} (h : All2 (fun p v => RelD S w p v ∧ p.one = true) (L.map cellsOf).flatten us) : All2 (fun p v => RelD S' w' p v ∧ p.one = true) (L.map cellsOf).flatten us := by
  refine ⟨h.1, fun i p v hp hv => ?_⟩
  obtain ⟨h1, h2⟩ := h.2 i p v hp hv
  obtain ⟨cs, hcs, hpm⟩ := List.mem_flatten.1 (List.mem_of_getElem? hp)
  obtain ⟨x, _, rfl⟩ := List.mem_map.1 hcs
  exact ⟨scal1_relD (List.all_eq_true.1 (hsc x) p hpm) h1, h2⟩
/-- It returns a list of numbers in new memory, which is not changed any more. -/
theorem p_callF {α : Type} [Enc α] {Ls : List (Oper × Gd)} {Q : PSt → Prop} {f : FuncId} {as : List PV} {L : List α} (ts : List Nat) (hc : PCallX P Gl f as (Enc.k α) (Enc.b α) (L.map cellsOf)) (hsc : ∀ x : α, (cellsOf x).all scal1 = true)
    (h0 : (callHdR ts Ls s).map (fun x => (x.1, dcoAL as x.2.1, x.2.2.map (·.1))) = (callHdR ts Ls s).map (fun x => (f, as, x.2.2.map (·.2)))) (hs0 : (callHdR ts Ls s).isSome = true)
    (h2 : pops P Gl false (Ls.drop 1) (s.put (dstHd Ls) (lstOf .frozen L)) Q) : pops P Gl false Ls s Q := by
  obtain ⟨o, rest, rfl⟩ := headR hs0
  by_cases hm : isMove o.op = false
  · refine p_sem (n := s) (v := lstOf .frozen L) hm ?_ h2
    intro S0 w0 a g K Q' hg hK
    obtain ⟨_, vs, hrun, S1, b1, b2, b3, hD⟩ := callR ts rfl hc.1 h0 hs0 hg
    unfold Oper.wp
    rw [hrun]
    refine (hc.2 S1 g.w _ b2 b3 (by simpa using hD)).mono fun e w' he => ?_
    obtain ⟨v, S', rfl, s1, s2, s3, s4, s5⟩ := he
    rcases s4.lies with ⟨q1, q2⟩ | ⟨B, cap, q1, q2, q3, q4, q5, ⟨us, q6, q7⟩, q8⟩
    · obtain ⟨k1, k2⟩ := hg.grow' s1
      refine hK v _ k1 k2 ?_
      show RelD _ _ (.lst .frozen _ _ _) _
      simp only [RelD]
      exact ⟨s4.l1, s4.l2, .inl trivial, .inl ⟨q1, q2⟩⟩
    · have hB : g.w.heap.size ≤ B := s5 B ⟨_, _, _, q1, q2⟩
      have hfl := flatten_len s4.ks
      obtain ⟨k1, k2⟩ := hg.grow (w' := w') (S' := fun B' o => g.S B' o ∨ (B' = B ∧ o < (L.map cellsOf).length * Enc.k α)) s1 (fun _ _ e => .inl e) (fun B' o e => by
        rcases e with e | ⟨rfl, _⟩
        · exact .inl e
        · exact .inr ⟨hB, q4⟩)
      refine hK v _ k1 k2 ?_
      show RelD _ _ (.lst .frozen _ _ _) _
      simp only [RelD]
      refine ⟨s4.l1, s4.l2, .inl trivial, .inr ⟨B, 0, cap, q1, q3, fun e => (by cases e), ?_⟩⟩
      refine relEls_of_values s4.ks (numbers hsc L q6) q7 fun j hj => .inr ⟨rfl, ?_⟩
      have := q6.1
      rw [hfl] at this
      omega
  · have : callOf o.op = none := by cases hop : o.op <;> simp [isMove, hop] at hm <;> rfl
    simp [callHdR, this] at hs0
/-- It returns a list of numbers that nobody else holds. -/
theorem p_callRX {α : Type} [Enc α] {Ls : List (Oper × Gd)} {Q : PSt → Prop} {f : FuncId} {as : List PV} {L : List α} (ts : List Nat) (tk : Nat) (hc : PCallX P Gl f as (Enc.k α) (Enc.b α) (L.map cellsOf)) (hsc : ∀ x : α, (cellsOf x).all scal1 = true)
    (h0 : (callHdR ts Ls s).map (fun x => (x.1, dcoAL as x.2.1, x.2.2.map (·.1))) = (callHdR ts Ls s).map (fun x => (f, as, x.2.2.map (·.2)))) (hs0 : (callHdR ts Ls s).isSome = true) (hT : ((s.T tk).isNone && decide (tk < 1000000000)) = true)
    (h2 : pops P Gl false (Ls.drop 1) (({ s with T := upd s.T tk (some ((L.map cellsOf).length, 0)), X := upd s.X tk (some (Enc.k α, Enc.b α, L.map cellsOf)) } : PSt).put (dstHd Ls) (.ex tk (Enc.k α) (Enc.b α) (L.map cellsOf).length 0 (L.map cellsOf).length)) Q) : pops P Gl false Ls s Q := by
  obtain ⟨o, rest, rfl⟩ := headR hs0
  simp only [Bool.and_eq_true, decide_eq_true_eq] at hT
  obtain ⟨hT1, hT2⟩ := hT
  have hT1' : s.T tk = none := by simpa using hT1
  by_cases hm : isMove o.op = false
  · refine p_sem (n := { s with T := upd s.T tk (some ((L.map cellsOf).length, 0)), X := upd s.X tk (some (Enc.k α, Enc.b α, L.map cellsOf)) }) (v := .ex tk (Enc.k α) (Enc.b α) (L.map cellsOf).length 0 (L.map cellsOf).length) hm ?_ h2
    intro S0 w0 a g K Q' hg hK
    obtain ⟨_, vs, hrun, S1, b1, b2, b3, hD⟩ := callR ts rfl hc.1 h0 hs0 hg
    unfold Oper.wp
    rw [hrun]
    refine (hc.2 S1 g.w _ b2 b3 (by simpa using hD)).mono fun e w' he => ?_
    obtain ⟨v, S', rfl, s1, s2, s3, s4, s5⟩ := he
    obtain ⟨h1, g1⟩ := hg.grow' s1
    have hgT : g.T tk = none := by rw [hg.hT]; exact hT1'
    have hin : (Nilish v ∧ L.map cellsOf = []) ∨ ∃ B cap, v = .slice (some ⟨B, 0, none⟩) (L.map cellsOf).length cap ∧ 0 < cap ∧ ExB { g with w := w' } S0.E w0.heap.size tk (Enc.k α) (L.map cellsOf) B cap ∧ ∀ t', t' ≠ tk → ¬ XB s.X { g with w := w' } t' B := by
      rcases s4.lies with q | ⟨B, cap, q1, q2, q3, q4, q5, ⟨us, q6, q6'⟩, q7⟩
      · exact .inl q
      · have hB : g.w.heap.size ≤ B := s5 B ⟨_, _, _, q1, q2⟩
        refine .inr ⟨B, cap, q1, q2, ⟨q3, .inl (Nat.le_trans hg.below.size hB), q4, fun o ho => (by have := hg.lt B o ho; omega), ⟨us, numbers hsc L q6, q6'⟩, q7, fun l hl e => ?_, fun t' hs => ?_⟩, fun t' _ hs => ?_⟩
        · obtain ⟨ob, hob⟩ := Option.isSome_iff_exists.1 hl
          have hlt := (hg.objs l ob hob).2.1
          have e : g.φ l = B := e
          omega
        · have := Spare.lt hg (B := B) (hs.congr rfl rfl)
          omega
        · have := (XB.lt hg (hs.congr rfl)).1
          omega
    obtain ⟨h3, g3⟩ := h1.exHead (t := tk) (k := Enc.k α) (b := Enc.b α) (xss := L.map cellsOf) (v := v) (fun n0 k0 e => by have e : g.T tk = some (n0, k0) := e; rw [hgT] at e; cases e) (fun _ => hT2) (fun q => absurd hgT q) s4.k0 s4.ks s4.l1 s4.l2 hin
    refine hK v _ h3 (g1.trans g3) ?_
    simp only [Rel, RelA, Rel1]
    have hview : View v (L.map cellsOf).length (Enc.k α) 0 (L.map cellsOf).length v := by
      rcases s4.lies with ⟨_, q⟩ | ⟨B, cap, q1, q2, q3, _⟩
      · exact .inl ⟨rfl, by rw [q]; rfl, rfl, by rw [q]; rfl⟩
      · exact .inr ⟨B, cap, 0, q1, q2, q3, by omega, by rw [q1]; simp, by simp⟩
    exact ⟨View.ex s4 (Nat.le_refl _) hview, _, upd_same _ _ _, Nat.le_refl _, fun _ => by simpa using hview⟩
  · have : callOf o.op = none := by cases hop : o.op <;> simp [isMove, hop] at hm <;> rfl
    simp [callHdR, this] at hs0
end
end PM
