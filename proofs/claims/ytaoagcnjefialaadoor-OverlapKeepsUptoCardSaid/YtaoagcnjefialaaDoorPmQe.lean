/-
  THE PURE MACHINE, Qe: calls that change a list in place (XCall), calls that return a list that nobody else holds (PCallX).
-/
import Derived.Test.YtaoagcnjefialaaDoorPmQd
namespace PM
open Go Go.RowKit

theorem BelowE.mono {E E' : Nat → Prop} {a b : World} (h : BelowE E a b) (hE : ∀ B, E B → E' B) : BelowE E' a b := ⟨h.os, h.tape, h.output, h.size, fun k hk he => h.block k hk fun e => he (hE k e), h.dr⟩
/-- The block of a slice with room. -/
def HB (hv : Value) (B : Nat) : Prop := ∃ off m cap, hv = .slice (some ⟨B, off, none⟩) m cap ∧ 0 < cap
/-- A list that nobody else holds. -/
structure XIn (S : Cells) (w : World) (k b : Nat) (xss : List (List PV)) (hv : Value) : Prop where
  k0 : k ≠ 0
  ks : ∀ cs ∈ xss, cs.length = k
  l1 : xss.length * b ≤ 140737488351232
  l2 : xss.length ≤ 140737488351232
  lies : (Nilish hv ∧ xss = []) ∨ ∃ B cap, hv = .slice (some ⟨B, 0, none⟩) xss.length cap ∧ 0 < cap ∧ xss.length ≤ cap ∧ B < w.heap.size ∧ (∀ o, ¬ S B o) ∧ (∃ us, All2 (fun p v => RelD S w p v ∧ p.one = true) xss.flatten us ∧ w.rangeAt B 0 us) ∧ w.there B 0 (cap * k)
/-- A CONTRACT: called with a list that nobody else holds and with data, the function leaves other elements in it; it returns nothing (m = none), or the first m elements. -/
def XCall (P : Program) (Gl : Nat → Option (List PV)) (f : FuncId) (k b : Nat) (xss : List (List PV)) (args : List PV) (m : Option Nat) (xss' : List (List PV)) : Prop :=
  FnOK P f ∧ ∀ (S : Cells) (w : World) (hv : Value) (vs : Array Value), (∀ B o, S B o → B < w.heap.size) → (∀ i cs, Gl i = some cs → RelCells S w cs i 0) → XIn S w k b xss hv → All2 (RelD S w) args vs.toList →
    Calls P f (#[hv] ++ vs) w fun e w' => ∃ v S', e = .returned v ∧ BelowE (HB hv) w w' ∧ (∀ B o, S B o → S' B o) ∧ (∀ B o, S' B o → S B o ∨ (w.heap.size ≤ B ∧ B < w'.heap.size)) ∧ XIn S' w' k b xss' hv ∧ xss'.length = xss.length ∧ ∀ m', m = some m' → m' ≤ xss'.length ∧ View hv xss'.length k 0 m' v
/-- A CONTRACT: called with data, the function returns a list that nobody else holds. -/
def PCallX (P : Program) (Gl : Nat → Option (List PV)) (f : FuncId) (args : List PV) (k b : Nat) (xss : List (List PV)) : Prop :=
  FnOK P f ∧ ∀ (S : Cells) (w : World) (vs : Array Value), (∀ B o, S B o → B < w.heap.size) → (∀ i cs, Gl i = some cs → RelCells S w cs i 0) → All2 (RelD S w) args vs.toList →
    Calls P f vs w fun e w' => ∃ v S', e = .returned v ∧ BelowD w.heap.size w w' ∧ (∀ B o, S B o → S' B o) ∧ (∀ B o, S' B o → S B o ∨ (w.heap.size ≤ B ∧ B < w'.heap.size)) ∧ XIn S' w' k b xss v ∧ ∀ B, HB v B → w.heap.size ≤ B
section
variable {P : Program} {Gl : Nat → Option (List PV)} {S0 : Bs} {w0 : World} {s : PSt} {a : Act} {g : GG} {Ls r : List (Oper × Gd)} {Q : PSt → Prop}
theorem InvG.xin (h : InvG Gl S0 w0 s a g) {t k b : Nat} {xss : List (List PV)} (hx : s.X t = some (k, b, xss)) : XIn g.S g.w k b xss (g.hd t) := by
  obtain ⟨_, q2, q3, q4, q5, q6⟩ := h.exs t k b xss hx
  refine ⟨q2, q3, q4, q5, ?_⟩
  rcases q6 with q | ⟨B, cap, e1, hc, r1, r2, r3, r4, r5, r6, _⟩
  · exact .inl q
  · exact .inr ⟨B, cap, e1, hc, r1, r3, r4, r5, r6⟩
/-- What a call in place leaves. -/
theorem InvG.xafter (h : InvG Gl S0 w0 s a g) {t k b : Nat} {xss xss' : List (List PV)} {w' : World} {S' : Cells} (hx : s.X t = some (k, b, xss)) (hb : BelowE (HB (g.hd t)) g.w w') (hS1 : ∀ B o, g.S B o → S' B o) (hS2 : ∀ B o, S' B o → g.S B o ∨ (g.w.heap.size ≤ B ∧ B < w'.heap.size))
    (hin : XIn S' w' k b xss' (g.hd t)) (hl : xss'.length = xss.length) : InvG Gl S0 w0 { s with X := upd s.X t (some (k, b, xss')) } a { g with w := w', S := S' } ∧ GLe g { g with w := w', S := S' } := by
  obtain ⟨q1, q2, q3, q4, q5, q6⟩ := h.exs t k b xss hx
  rcases q6 with ⟨e1, e2⟩ | ⟨B, cap, e1, hc, _⟩
  · have hno : ∀ B, ¬ HB (g.hd t) B := by
      rintro B ⟨off, m, cap, e, hc⟩
      rcases e1 with e1 | ⟨_, _, e1⟩
      · rw [e1] at e; cases e
      · rw [e1] at e; cases e; omega
    subst e2
    have e3 : xss' = [] := List.eq_nil_of_length_eq_zero (by rw [hl]; rfl)
    subst e3
    have hX2 : upd s.X t (some (k, b, [])) = s.X := by
      funext y
      by_cases e : y = t
      · subst e; rw [upd_same, hx]
      · rw [upd_other _ _ _ _ e]
    rw [hX2]
    exact h.grow (hb.toBelow hno) hS1 hS2
  · have hE : ∀ B', HB (g.hd t) B' → B' = B := by
      rintro B' ⟨off, m, cap', e, _⟩
      rw [e1] at e; cases e; rfl
    rcases hin.lies with ⟨f1, f2⟩ | ⟨B', cap', f1, f2, f3, f4, f5, ⟨us, f6, f7⟩, f8⟩
    · rcases f1 with f1 | ⟨_, _, f1⟩
      · rw [f1] at e1; cases e1
      · rw [f1] at e1; simp only [Value.slice.injEq] at e1; omega
    · rw [e1] at f1; simp only [Value.slice.injEq, Option.some.injEq, Addr.mk.injEq, and_true] at f1
      obtain ⟨rfl, _, rfl⟩ := f1
      exact h.exWorld hx e1 hc (hb.mono hE) hS1 hS2 hl hin.ks f8 f6 f7
theorem View.ex {S : Cells} {w : World} {k b m : Nat} {xss : List (List PV)} {hv v : Value} (hin : XIn S w k b xss hv) (hm : m ≤ xss.length) (hv' : View hv xss.length k 0 m v) : ∃ x cap, v = .slice x m cap ∧ m ≤ cap ∧ (0 < m → ∃ B off, x = some ⟨B, off, none⟩) := by
  rcases hv' with ⟨e1, e2, _, e4⟩ | ⟨B, cap, off, e1, e2, e3, e4, e5, _⟩
  · subst e1; subst e4
    rcases hin.lies with ⟨f1 | ⟨_, _, f1⟩, _⟩ | ⟨B', cap', f1, _⟩
    · exact ⟨_, _, f1, Nat.le_refl _, fun q => by omega⟩
    · exact ⟨_, _, f1, Nat.le_refl _, fun q => by omega⟩
    · rw [e2] at f1; exact ⟨_, _, f1, Nat.zero_le _, fun q => by omega⟩
  · exact ⟨_, _, e5, by omega, fun _ => ⟨_, _, rfl⟩⟩
/-- The call at the head: function, token, cells and bytes of an element, the view, the other arguments. -/
def xcallHd : List (Oper × Gd) → PSt → Option (FuncId × (Nat × Nat × Nat × Nat × Nat) × List PV)
  | (o, .always) :: _, s => match callOf o.op with
    | some (x, y :: args) => match s.ev x, s.ev y, datumAs (args.map s.ev) with
      | .fn f [], .ex t k b N 0 n, some as => some (f, (t, k, b, N, n), as)
      | _, _, _ => none
    | _ => none
  | _, _ => none
theorem xcall_core {f : FuncId} {t k b N : Nat} {xss xss' : List (List PV)} {as : List PV} {m : Option Nat} (h0 : (xcallHd Ls s).map (fun x => (x.1, x.2.1, dcoAL as x.2.2)) = some (f, (t, k, b, N, N), as)) (hX : s.X t = some (k, b, xss)) (hT : s.T t = some (N, 0)) (hc : XCall P Gl f k b xss as m xss') :
    ∃ o rest, Ls = (o, .always) :: rest ∧ isMove o.op = false ∧
      OpSem P Gl o s { s with X := upd s.X t (some (k, b, xss')) } .any ∧
      ∀ m', m = some m' → OpSem P Gl o s { s with X := upd s.X t (some (k, b, xss')) } (.ex t k b N 0 m') ∧ OpSem P Gl o s { s with X := upd s.X t none } (.lst .frozen k b (xss'.take m')) := by
  obtain ⟨y0, h, hy0⟩ := Option.map_eq_some_iff.1 h0
  clear h0
  obtain ⟨f0, p0, qs⟩ := y0
  simp only [Prod.mk.injEq] at hy0
  obtain ⟨rfl, rfl, hdc⟩ := hy0
  unfold xcallHd at h
  split at h
  · rename_i s0 o rest
    split at h
    · rename_i x y args hco
      split at h
      · rename_i f' t' k' b' N' n as' e1 e2 e3
        simp only [Option.some.injEq, Prod.mk.injEq] at h
        obtain ⟨rfl, ⟨rfl, rfl, rfl, rfl, hn'⟩, rfl⟩ := h
        subst hn'
        obtain ⟨c, hop, hcal, hargs⟩ := callOf_spec hco
        have hmv : isMove o.op = false := by rw [hop]; rfl
        obtain ⟨⟨fn, hfn1, hfn2, hfn3⟩, hcall⟩ := hc
        have key : ∀ (S0 : Bs) (w0 : World) (a : Act) (g : GG) (K : Act → World → Prop) (Q : Exit → Act → World → Prop), InvG Gl S0 w0 s a g →
            (∀ z g', InvG Gl S0 w0 { s with X := upd s.X t' (some (k', b', xss')) } a g' → GLe g g' → (∀ m', m = some m' → m' ≤ xss'.length ∧ View (g'.hd t') xss'.length k' 0 m' z ∧ g'.T t' = some (xss'.length, 0)) → K (a.put o.dst z) g'.w) → o.wp P a g.w K Q := by
          intro S0 w0 a g K Q hg hK
          have hx := hg.ev x
          rw [e1] at hx
          simp only [Rel, RelA, Rel1] at hx
          obtain ⟨arr, hfv, hcaps⟩ := hx
          have harr : arr = #[] := Array.toList_inj.1 (by rw [hcaps.nil_left])
          subst harr
          have hall : All2 (Rel g) (args.map s.ev) (args.map a.eval) := ⟨by simp, fun i p v hp hv => by
            rw [List.getElem?_map] at hp hv
            cases hi : args[i]? with
            | none => rw [hi] at hp; cases hp
            | some y => rw [hi] at hp hv; cases hp; cases hv; exact hg.ev y⟩
          have hD := dcoAL_rel (ps := as) (datumAs_spec hall e3)
          rw [hdc] at hD
          have hy := hg.ev y
          rw [e2] at hy
          simp only [Rel, RelA, Rel1] at hy
          obtain ⟨_, N2, f1, f2, f3⟩ := hy
          obtain ⟨q1, q2, q3, q4, q5, q6⟩ := hg.exs t' k' b' xss hX
          have hNx : n = xss.length := by
            have := q1
            rw [hg.hT, hT] at this; simp only [Option.some.injEq, Prod.mk.injEq] at this; exact this.1
          rw [q1] at f1; cases f1
          have hvh : a.eval y = g.hd t' := by
            rcases f3 hNx with ⟨e1, _⟩ | ⟨B, cap, off, e1, e0, _, _, e2, e3⟩
            · exact e1
            · rw [e1, e2, show off = 0 by omega]; simp
          have hrun : (execOp a.eval o).run P g.w = .ok (.enter f' (#[a.eval y] ++ (args.map a.eval).toArray)) g.w := by
            have hname : fn.name ≠ "runtime.NumGoroutine" := by simpa using hfn2
            have hbody : fn.body ≠ none := fun e => by rw [e] at hfn3; cases hfn3
            have hca : c.args.map a.eval ++ #[] = #[a.eval y] ++ (args.map a.eval).toArray := Array.toList_inj.1 (by simp [hargs])
            simp [execOp, hop, resolve, hcal, hfv, Deferred.ofValue, invoke, callFunc, run_program, hfn1, hname, hbody]
            simpa using hca
          unfold Oper.wp
          rw [hrun, hvh]
          refine (hcall g.S g.w (g.hd t') _ hg.lt hg.glob (hg.xin hX) (by simpa using hD)).mono fun e w' he => ?_
          obtain ⟨v, S', rfl, s1, s2, s3, s4, s5, s6⟩ := he
          obtain ⟨h1, g3⟩ := hg.xafter hX s1 s2 s3 s4 s5
          exact hK v _ h1 g3 fun m' e => ⟨(s6 m' e).1, (s6 m' e).2, by rw [s5]; exact q1⟩
        refine ⟨o, rest, rfl, hmv, fun S0 w0 a g K Q hg hK => key S0 w0 a g K Q hg fun z g' i1 i2 _ => hK z g' i1 i2 (Rel.any _ _), fun m' hm' => ⟨fun S0 w0 a g K Q hg hK => key S0 w0 a g K Q hg fun z g' i1 i2 i3 => ?_, fun S0 w0 a g K Q hg hK => key S0 w0 a g K Q hg fun z g' i1 i2 i3 => ?_⟩⟩
        · obtain ⟨j1, j2, j3⟩ := i3 m' hm'
          refine hK z g' i1 i2 ?_
          have hN : n = xss'.length := by
            rw [i1.hT] at j3
            have : s.T t' = some (xss'.length, 0) := j3
            rw [hT] at this; simp only [Option.some.injEq, Prod.mk.injEq] at this; exact this.1
          simp only [Rel, RelA, Rel1]
          exact ⟨View.ex (i1.xin (upd_same _ _ _)) j1 j2, xss'.length, j3, Nat.le_of_eq hN, fun _ => by rw [hN]; exact j2⟩
        · obtain ⟨j1, j2, _⟩ := i3 m' hm'
          obtain ⟨S', k1, k2, k3⟩ := i1.exShare (t := t') (k := k') (b := b') (xss := xss') (upd_same _ _ _)
          refine hK z { g' with S := S' } (by rw [upd_upd] at k1; exact k1) (i2.trans k2) (Rel.of1 ?_)
          have := k3 0 m' z (by omega) j2
          exact Rel1.of_data (by simpa using this) rfl
      · cases h
    · cases h
  · cases h
section
variable {α : Type} [Enc α]
theorem p_xcall {f : FuncId} {t N : Nat} {L L' : List α} {as : List PV} (h : (xcallHd Ls s).map (fun x => (x.1, x.2.1, dcoAL as x.2.2)) = some (f, (t, Enc.k α, Enc.b α, N, N), as)) (hX : s.X t = some (Enc.k α, Enc.b α, L.map cellsOf)) (hT : s.T t = some (N, 0))
    (hc : XCall P Gl f (Enc.k α) (Enc.b α) (L.map cellsOf) as none (L'.map cellsOf))
    (h2 : pops P Gl false (Ls.drop 1) (({ s with X := upd s.X t (some (Enc.k α, Enc.b α, L'.map cellsOf)) } : PSt).put (dstHd Ls) .any) Q) : pops P Gl false Ls s Q := by
  obtain ⟨o, rest, rfl, h3, h4, _⟩ := xcall_core h hX hT hc
  exact p_sem h3 h4 h2
/-- The first m elements are returned; the list becomes data. -/
theorem p_xcallS {f : FuncId} {t m N : Nat} {L L' : List α} {as : List PV} (h : (xcallHd Ls s).map (fun x => (x.1, x.2.1, dcoAL as x.2.2)) = some (f, (t, Enc.k α, Enc.b α, N, N), as)) (hX : s.X t = some (Enc.k α, Enc.b α, L.map cellsOf)) (hT : s.T t = some (N, 0))
    (hc : XCall P Gl f (Enc.k α) (Enc.b α) (L.map cellsOf) as (some m) (L'.map cellsOf))
    (h2 : pops P Gl false (Ls.drop 1) (({ s with X := upd s.X t none } : PSt).put (dstHd Ls) (lstOf .frozen (L'.take m))) Q) : pops P Gl false Ls s Q := by
  obtain ⟨o, rest, rfl, h3, _, h4⟩ := xcall_core h hX hT hc
  refine p_sem h3 (h4 m rfl).2 ?_
  simpa [semNew, lstOf, List.map_take, dstHd] using h2
/-- A call that returns a list that nobody else holds. -/
theorem p_callx {f : FuncId} {as : List PV} {L : List α} (tk : Nat) (hc : PCallX P Gl f as (Enc.k α) (Enc.b α) (L.map cellsOf)) (h0 : (callHd Ls s).map (fun x => (x.1, dcoAL as x.2)) = some (f, as)) (hT : ((s.T tk).isNone && decide (tk < 1000000000)) = true)
    (h2 : pops P Gl false (Ls.drop 1) (({ s with T := upd s.T tk (some ((L.map cellsOf).length, 0)), X := upd s.X tk (some (Enc.k α, Enc.b α, L.map cellsOf)) } : PSt).put (dstHd Ls) (.ex tk (Enc.k α) (Enc.b α) (L.map cellsOf).length 0 (L.map cellsOf).length)) Q) : pops P Gl false Ls s Q := by
  simp only [Bool.and_eq_true, decide_eq_true_eq] at hT
  obtain ⟨hT1, hT2⟩ := hT
  have hT1' : s.T tk = none := by simpa using hT1
  obtain ⟨y0, h, hy0⟩ := Option.map_eq_some_iff.1 h0
  clear h0
  obtain ⟨f0, qs⟩ := y0
  simp only [Prod.mk.injEq] at hy0
  obtain ⟨rfl, hdc⟩ := hy0
  unfold callHd at h
  split at h
  · rename_i s0 o rest
    split at h
    · rename_i x args hco
      split at h
      · rename_i f' caps e1
        split at h
        · rename_i hcapok
          obtain ⟨qs', e3, h'⟩ := Option.map_eq_some_iff.1 h
          simp only [Prod.mk.injEq] at h'
          obtain ⟨rfl, rfl⟩ := h'
          obtain ⟨c, hop, hcal, hargs⟩ := callOf_spec hco
          obtain ⟨⟨fn, hfn1, hfn2, hfn3⟩, hcall⟩ := hc
          refine p_sem (n := { s with T := upd s.T tk (some ((L.map cellsOf).length, 0)), X := upd s.X tk (some (Enc.k α, Enc.b α, L.map cellsOf)) }) (v := .ex tk (Enc.k α) (Enc.b α) (L.map cellsOf).length 0 (L.map cellsOf).length) (by rw [hop]; rfl) ?_ h2
          intro S0 w0 a g K Q' hg hK
          have hx := hg.ev x
          rw [e1] at hx
          simp only [Rel, RelA, Rel1] at hx
          obtain ⟨arr, hfv, hcaps⟩ := hx
          have hcapsR : All2 (Rel g) caps arr.toList := ⟨hcaps.1, fun i p v hp hv => by
            have h1 := hcaps.2 i p v hp hv
            have h2 := List.all_eq_true.1 hcapok p (List.mem_of_getElem? hp)
            cases p <;> simp only [capOK] at h2 <;> try cases h2
            all_goals exact h1⟩
          have hall : All2 (Rel g) (args.map s.ev ++ caps) (args.map a.eval ++ arr.toList) := All2.append ⟨by simp, fun i p v hp hv => by
            rw [List.getElem?_map] at hp hv
            cases hi : args[i]? with
            | none => rw [hi] at hp; cases hp
            | some y => rw [hi] at hp hv; cases hp; cases hv; exact hg.ev y⟩ hcapsR
          have hD := dcoAL_rel (ps := as) (datumAs_spec hall e3)
          rw [hdc] at hD
          have hrun : (execOp a.eval o).run P g.w = .ok (.enter f' ((args.map a.eval ++ arr.toList).toArray)) g.w := by
            have hname : fn.name ≠ "runtime.NumGoroutine" := by simpa using hfn2
            have hbody : fn.body ≠ none := fun e => by rw [e] at hfn3; cases hfn3
            have hca : c.args.map a.eval ++ arr = (args.map a.eval ++ arr.toList).toArray := Array.toList_inj.1 (by simp [hargs])
            simp [execOp, hop, resolve, hcal, hfv, Deferred.ofValue, invoke, callFunc, run_program, hfn1, hname, hbody]
            simpa using hca
          unfold Oper.wp
          rw [hrun]
          refine (hcall g.S g.w _ hg.lt hg.glob (by simpa using hD)).mono fun e w' he => ?_
          obtain ⟨v, S', rfl, s1, s2, s3, s4, s5⟩ := he
          obtain ⟨h1, g1⟩ := hg.grow s1 s2 s3
          have hgT : g.T tk = none := by rw [hg.hT]; exact hT1'
          have hin : (Nilish v ∧ L.map cellsOf = []) ∨ ∃ B cap, v = .slice (some ⟨B, 0, none⟩) (L.map cellsOf).length cap ∧ 0 < cap ∧ ExB { g with w := w', S := S' } S0.E w0.heap.size tk (Enc.k α) (L.map cellsOf) B cap ∧ ∀ t', t' ≠ tk → ¬ XB s.X { g with w := w', S := S' } t' B := by
            rcases s4.lies with q | ⟨B, cap, q1, q2, q3, q4, q5, q6, q7⟩
            · exact .inl q
            · have hB : g.w.heap.size ≤ B := s5 B ⟨_, _, _, q1, q2⟩
              refine .inr ⟨B, cap, q1, q2, ⟨q3, .inl (Nat.le_trans hg.below.size hB), q4, q5, q6, q7, fun l hl e => ?_, fun t' hs => ?_⟩, fun t' _ hs => ?_⟩
              · obtain ⟨ob, hob⟩ := Option.isSome_iff_exists.1 hl
                have hlt := (hg.objs l ob hob).2.1
                have e' : g.φ l = B := e
                omega
              · have := Spare.lt hg (hs.congr rfl rfl)
                omega
              · have := (XB.lt hg (hs.congr rfl)).1
                omega
          obtain ⟨h3, g3⟩ := h1.exHead (t := tk) (k := Enc.k α) (b := Enc.b α) (xss := L.map cellsOf) (v := v) (fun n0 k0 q => by have : g.T tk = some (n0, k0) := q; rw [hgT] at this; cases this) (fun _ => hT2) s4.k0 s4.ks s4.l1 s4.l2 hin
          refine hK v _ h3 (g1.trans g3) ?_
          simp only [Rel, RelA, Rel1]
          have hview : View v (L.map cellsOf).length (Enc.k α) 0 (L.map cellsOf).length v := by
            rcases s4.lies with ⟨_, q⟩ | ⟨B, cap, q1, q2, q3, _⟩
            · exact .inl ⟨rfl, by rw [q]; rfl, rfl, by rw [q]; rfl⟩
            · exact .inr ⟨B, cap, 0, q1, q2, q3, by omega, by rw [q1]; simp, by simp⟩
          exact ⟨View.ex s4 (Nat.le_refl _) hview, _, upd_same _ _ _, Nat.le_refl _, fun _ => by simpa using hview⟩
        · cases h
      · cases h
    · cases h
  · cases h
end
/-! ### Whole functions -/
def T0 : Nat := 1000000000
def xst0 (k b : Nat) (xss : List (List PV)) (args : List PV) (n : Nat) : PSt := ⟨.ex T0 k b xss.length 0 xss.length :: args ++ List.replicate (n - args.length - 1) .any, fun _ => none, upd (fun _ => none) T0 (some (xss.length, 0)), upd (fun _ => none) T0 (some (k, b, xss)), 0⟩
def xfinal (P : Program) (Gl : Nat → Option (List PV)) (rs : List ResultVar) (k b N : Nat) (m : Option Nat) (xss' : List (List PV)) (s : PSt) : Prop :=
  (s.X T0, s.T T0, resPV P Gl s rs) = (some (k, b, xss'), some (N, 0), some (match m with | none => [] | some m' => [.ex T0 k b N 0 m']))
def xbodyQ (P : Program) (Gl : Nat → Option (List PV)) (rs : List ResultVar) (k b N : Nat) (m : Option Nat) (xss' : List (List PV)) : Exit → PSt → Prop
  | .normal, s => xfinal P Gl rs k b N m xss' s
  | .ret, s => xfinal P Gl rs k b N m xss' s
  | _, _ => False
theorem q_xret {rs : List ResultVar} {k b N : Nat} {m : Option Nat} {xss' : List (List PV)} (h : (s.X T0, s.T T0, resPV P Gl s rs) = (some (k, b, xss'), some (N, 0), some (match m with | none => [] | some m' => [.ex T0 k b N 0 m']))) : xbodyQ P Gl rs k b N m xss' .ret s := h
theorem xcall_of_pwp {f : FuncId} {fn : Func} {c : Code} {args : List PV} {k b n : Nat} {xss xss' : List (List PV)} {m : Option Nat} {rs : List ResultVar} (hf : P.funcs[f]? = some fn) (hname : (fn.name == "runtime.NumGoroutine") = false) (hb : fn.body = some c)
    (hn : fn.ntmps = n) (hrs : fn.results.toList = rs) (hflat : args.all flatArg = true) (h : pwp P Gl c (xbodyQ P Gl rs k b xss.length m xss') (xst0 k b xss args n)) : XCall P Gl f k b xss args m xss' := by
  refine ⟨⟨fn, hf, hname, by rw [hb]; rfl⟩, fun S w hv vs hS hglob hin hargs => ?_⟩
  subst hn; subst hrs
  refine calls_of_wp hf hb ?_
  have hsz : args.length = vs.size := by rw [hargs.1]; simp
  have hview : View hv xss.length k 0 xss.length hv := by
    rcases hin.lies with ⟨_, q⟩ | ⟨B, cap, q1, q2, q3, _⟩
    · exact .inl ⟨rfl, by rw [q]; rfl, rfl, by rw [q]; rfl⟩
    · exact .inr ⟨B, cap, 0, q1, q2, q3, by omega, by rw [q1]; simp, by simp⟩
  have hT0 : ∀ t x, upd (fun _ => none) T0 (some (xss.length, 0)) t = some x → t = T0 ∧ x = (xss.length, 0) := fun t x e => by
    by_cases q : t = T0
    · rw [q, upd_same] at e; cases e; exact ⟨q, rfl⟩
    · rw [upd_other _ _ _ _ q] at e; cases e
  have hX0 : ∀ t x, upd (fun _ => none) T0 (some (k, b, xss)) t = some x → t = T0 ∧ x = (k, b, xss) := fun t x e => by
    by_cases q : t = T0
    · rw [q, upd_same] at e; cases e; exact ⟨q, rfl⟩
    · rw [upd_other _ _ _ _ q] at e; cases e
  have hEB : ∀ B, Bs.E ⟨S, fun _ _ => False, fun t v n => t = T0 ∧ v = hv ∧ n = xss.length, [], []⟩ B → HB hv B := by
    rintro B (⟨_, q⟩ | ⟨t, v, n, ⟨_, rfl, _⟩, off, m, cap, q1, q2⟩)
    · exact q.elim
    · exact ⟨off, m, cap, q1, q2⟩
  have hinit : Inv Gl ⟨S, fun _ _ => False, fun t v n => t = T0 ∧ v = hv ∧ n = xss.length, [], []⟩ w (xst0 k b xss args fn.ntmps) { tmps := (#[hv] ++ vs) ++ Array.replicate (fn.ntmps - (#[hv] ++ vs).size) undef, defers := [] } w := by
    refine ⟨⟨S, w, fun _ => 0, fun _ => hv, fun _ => none, upd (fun _ => none) T0 (some (xss.length, 0))⟩, rfl, { hH := rfl, hT := rfl, defers := rfl, len := ?_, tm := fun i p v hp hv' => ?_, sub := fun _ _ h => h, new := fun _ _ h => .inl h, lt := hS, below := BelowE.refl _ _, objs := (fun l ob e => by cases e), inj := (fun l l' e => by cases e), owns := fun t n' k' e => ?_, ownsEx := fun t t' B hs hs' => ?_, ownsObj := (fun t B l _ hl => by cases hl), glob := hglob, exs := fun t k' b' xss0 e => ?_, exsEx := fun t t' B hs hs' => ?_, fix := fun _ _ e => e.elim, fixT := fun t v n hF => ?_ }⟩
    · simp [xst0, hsz]; omega
    · simp only [xst0] at hp
      simp only [List.append_nil, Array.getElem?_toList] at hv'
      cases i with
      | zero =>
        simp only [List.cons_append, List.getElem?_cons_zero] at hp
        cases hp
        have hv0 : v = hv := by
          rw [Array.append_assoc, Array.getElem?_append_left (by simp)] at hv'
          simpa using hv'.symm
        subst hv0
        simp only [Rel, RelA, Rel1]
        exact ⟨View.ex hin (Nat.le_refl _) hview, _, upd_same _ _ _, Nat.le_refl _, fun _ => hview⟩
      | succ i =>
        simp only [List.cons_append, List.getElem?_cons_succ] at hp
        have hv1 : (vs ++ Array.replicate (fn.ntmps - (#[hv] ++ vs).size) undef)[i]? = some v := by
          rw [Array.append_assoc, Array.getElem?_append_right (by simp)] at hv'
          simpa using hv'
        rw [List.getElem?_append] at hp
        by_cases hi : i < args.length
        · rw [if_pos hi] at hp
          rw [Array.getElem?_append_left (by omega)] at hv1
          exact Rel.ofData (g := ⟨S, w, _, _, _, _⟩) (hargs.2 i p v hp (by simpa using hv1)) (List.all_eq_true.1 hflat p (List.mem_of_getElem? hp))
        · rw [if_neg hi, List.getElem?_replicate] at hp
          split at hp
          · cases hp; trivial
          · cases hp
    · obtain ⟨rfl, e2⟩ := hT0 t _ e
      cases e2
      rcases hin.lies with ⟨q1 | ⟨B, off, q1⟩, q2⟩ | ⟨B, cap, q1, q2, q3, q4, _⟩
      · exact .inl ⟨q1, by rw [q2]; rfl⟩
      · exact .inr ⟨B, off, 0, by rw [q2]; exact q1, by rw [q2]; exact Nat.le_refl _, fun q => by have := q.pos; omega⟩
      · exact .inr ⟨B, 0, cap, q1, q3, fun _ => ⟨fun q => absurd rfl q, q4, fun j hj => by simp at hj, fun q => absurd rfl q⟩⟩
    · obtain ⟨n1, k1, o1, c1, e1, _⟩ := hs
      obtain ⟨n2, k2, o2, c2, e2, _⟩ := hs'
      exact (hT0 t _ e1).1.trans (hT0 t' _ e2).1.symm
    · obtain ⟨rfl, e2⟩ := hX0 t _ e
      cases e2
      refine ⟨(by show upd (fun _ => none) T0 (some (xss.length, 0)) T0 = some (xss.length, 0); exact upd_same _ _ _), hin.k0, hin.ks, hin.l1, hin.l2, ?_⟩
      rcases hin.lies with q | ⟨B, cap, q1, q2, q3, q4, q5, q6, q7⟩
      · exact .inl q
      · refine .inr ⟨B, cap, q1, q2, q3, .inr (.inr ⟨T0, hv, xss.length, ⟨rfl, rfl, rfl⟩, 0, _, cap, q1, q2⟩), q4, q5, q6, q7, (fun l hl => by cases hl), fun t' hs => ?_⟩
        obtain ⟨n1, k1, o1, c1, e1, _⟩ := hs
        exact (hT0 t' _ e1).1
    · obtain ⟨x, hx⟩ := Option.isSome_iff_exists.1 hs.1
      obtain ⟨x', hx'⟩ := Option.isSome_iff_exists.1 hs'.1
      exact (hX0 t _ hx).1.trans (hX0 t' _ hx').1.symm
    · obtain ⟨rfl, rfl, rfl⟩ := hF
      exact ⟨Nat.le_refl _, fun n0 e => by
        have e' : upd (fun _ => none) T0 (some (xss.length, 0)) T0 = some (n0, 0) := e
        cases (hT0 _ _ e').2; exact ⟨Nat.le_refl _, fun _ => rfl⟩⟩
  refine wp_mono (fun e a' w' hq => ?_) (h ⟨S, fun _ _ => False, fun t v n => t = T0 ∧ v = hv ∧ n = xss.length, [], []⟩ w _ w hinit)
  obtain ⟨s', hq, g, rfl, hg⟩ := hq
  have fin : xfinal P Gl fn.results.toList k b xss.length m xss' s' → a'.defers = [] ∧ ∃ v, (results fn a'.tmps).run P g.w = .ok v g.w ∧ ∃ v_1 S', Ending.returned v = .returned v_1 ∧ BelowE (HB hv) w g.w ∧ (∀ B o, S B o → S' B o) ∧ (∀ B o, S' B o → S B o ∨ (w.heap.size ≤ B ∧ B < g.w.heap.size)) ∧ XIn S' g.w k b xss' hv ∧ xss'.length = xss.length ∧ ∀ m', m = some m' → m' ≤ xss'.length ∧ View hv xss'.length k 0 m' v_1 := by
    intro hfin
    simp only [xfinal, Prod.mk.injEq] at hfin
    obtain ⟨f1, f2, f3⟩ := hfin
    refine ⟨hg.defers, ?_⟩
    obtain ⟨us, r1, r2⟩ := run_resPV hg _ _ f3
    have hlen : xss'.length = xss.length := by
      have := (hg.exs _ _ _ _ f1).1
      rw [hg.hT, f2] at this; simp only [Option.some.injEq, Prod.mk.injEq] at this; exact this.1.symm
    have hgT : g.T T0 = some (xss.length, 0) := by rw [hg.hT]; exact f2
    have hhd : g.hd T0 = hv := (((hg.fixT T0 hv xss.length ⟨rfl, rfl, rfl⟩).2 _ hgT).2 rfl)
    have hxin := hg.xin f1
    rw [hhd] at hxin
    refine ⟨if h : us.toArray.size = 1 then us.toArray[0] else .tuple us.toArray, ?_, _, g.S, rfl, hg.below.mono hEB, hg.sub, fun B o ho => ?_, hxin, hlen, fun m' hm' => ?_⟩
    · rw [results_eq, Array.mapM_eq_mapM_toList]
      simp only [Sem.run_bind, Sem.run_map, r1, Result.andThen_ok, Sem.run_pure]
    · rcases hg.new B o ho with e | e | e
      · exact .inl e
      · exact .inr ⟨e, hg.lt B o ho⟩
      · obtain ⟨off, mm, cap, e1, e2⟩ := hEB B e
        rcases hxin.lies with ⟨q1 | ⟨_, _, q1⟩, _⟩ | ⟨B', cap', q1, _, _, _, q5, _⟩
        · rw [q1] at e1; cases e1
        · rw [q1] at e1; cases e1; omega
        · rw [q1] at e1; cases e1; exact absurd ho (q5 o)
    · subst hm'
      obtain ⟨v, vs', rfl, r3, r4⟩ := r2.cons_left
      rw [r4.nil_left]
      simp only [Rel, RelA, Rel1] at r3
      obtain ⟨_, N', t1, t2, t3⟩ := r3
      rw [hgT] at t1; cases t1
      have ht3 := t3 rfl
      rw [hhd] at ht3
      refine ⟨?_, ?_⟩
      · rw [hlen]
        rcases ht3 with ⟨_, q, _, q2⟩ | ⟨_, _, _, _, _, _, q, _⟩ <;> omega
      · rw [hlen]
        simpa using ht3
  cases e with
  | normal => exact fin hq
  | ret => exact fin hq
  | exit id => exact hq.elim
  | goto l => exact hq.elim
  | panic ch => exact hq.elim
  | outgrown => exact hq.elim
end
end PM
