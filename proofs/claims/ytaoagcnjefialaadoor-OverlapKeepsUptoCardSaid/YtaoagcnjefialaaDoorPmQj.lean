/-
  THE PURE MACHINE, Qj: calls that only read lists that nobody else holds, and return numbers: the lists stay as they are.
-/
import Derived.Test.YtaoagcnjefialaaDoorPmQi
namespace PM
open Go Go.RowKit

section
variable {P : Program} {Gl : Nat → Option (List PV)} {S0 : Bs} {w0 : World} {s : PSt} {a : Act} {g : GG}
def callHdB (ts : List Nat) : List (Oper × Gd) → PSt → Option (FuncId × List PV × List (Nat × Nat))
  | (o, .always) :: _, s => match callOf o.op with
    | some (x, args) => match s.ev x with
      | .fn f caps => if caps.all capOK = true then (bdAs ts s (args.map s.ev ++ caps)).map fun q => (f, q) else none
      | _ => none
    | none => none
  | _, _ => none
/-- A call that reads lists that nobody else holds (those of the tokens ts). -/
theorem p_callB {Ls : List (Oper × Gd)} {Q : PSt → Prop} {f : FuncId} {as : List PV} {r : PV} (ts : List Nat) (hc : PCall P Gl f as r) (h0 : (callHdB ts Ls s).map (fun x => (x.1, dcoAL as x.2.1, x.2.2.map (·.1))) = (callHdB ts Ls s).map (fun x => (f, as, x.2.2.map (·.2)))) (hs0 : (callHdB ts Ls s).isSome = true) (hs : scal r = true)
    (h2 : pops P Gl false (Ls.drop 1) (s.put (dstHd Ls) r) Q) : pops P Gl false Ls s Q := by
  obtain ⟨y0, h⟩ := Option.isSome_iff_exists.1 hs0
  rw [h] at h0
  obtain ⟨f0, qs, eqs⟩ := y0
  simp only [Option.map_some, Option.some.injEq, Prod.mk.injEq] at h0
  obtain ⟨rfl, hdc, heq⟩ := h0
  unfold callHdB at h
  split at h
  · rename_i s0 o rest
    split at h
    · rename_i x args hco
      split at h
      · rename_i f' caps e1
        split at h
        · rename_i hcapok
          obtain ⟨qs', e3, h'⟩ := Option.map_eq_some_iff.1 h
          simp only [Prod.mk.injEq] at h'
          obtain ⟨rfl, h'⟩ := h'
          subst h'
          obtain ⟨c, hop, hcal, hargs⟩ := callOf_spec hco
          obtain ⟨⟨fn, hfn1, hfn2, hfn3⟩, hcall⟩ := hc
          refine p_sem (n := s) (v := r) (by rw [hop]; rfl) ?_ h2
          intro S0 w0 a g K Q' hg hK
          have hx := hg.ev x
          rw [e1] at hx
          simp only [Rel, RelA, Rel1] at hx
          obtain ⟨arr, hfv, hcaps⟩ := hx
          have hcapsR : All2 (Rel g) caps arr.toList := ⟨hcaps.1, fun i p v hp hv => by
            have h1 := hcaps.2 i p v hp hv
            have h2 := List.all_eq_true.1 hcapok p (List.mem_of_getElem? hp)
            cases p <;> simp only [capOK] at h2 <;> try cases h2
            all_goals exact h1⟩
          have hall : All2 (Rel g) (args.map s.ev ++ caps) (args.map a.eval ++ arr.toList) := All2.append ⟨by simp, fun i p v hp hv => by
            rw [List.getElem?_map] at hp hv
            cases hi : args[i]? with
            | none => rw [hi] at hp; cases hp
            | some y => rw [hi] at hp hv; cases hp; cases hv; exact hg.ev y⟩ hcapsR
          obtain ⟨S1, b1, b2, b3, b4⟩ := hg.borrow ts
          have hD := dcoAL_rel (ps := as) (bdAs_spec hg b1 b4 hall e3 heq)
          rw [hdc] at hD
          have hrun : (execOp a.eval o).run P g.w = .ok (.enter f' ((args.map a.eval ++ arr.toList).toArray)) g.w := by
            have hname : fn.name ≠ "runtime.NumGoroutine" := by simpa using hfn2
            have hbody : fn.body ≠ none := fun e => by rw [e] at hfn3; cases hfn3
            have hca : c.args.map a.eval ++ arr = (args.map a.eval ++ arr.toList).toArray := Array.toList_inj.1 (by simp [hargs])
            simp [execOp, hop, resolve, hcal, hfv, Deferred.ofValue, invoke, callFunc, run_program, hfn1, hname, hbody]
            simpa using hca
          unfold Oper.wp
          rw [hrun]
          refine (hcall S1 g.w _ b2 b3 (by simpa using hD)).mono fun e w' he => ?_
          obtain ⟨v, g', rfl, rfl, ha⟩ := he
          obtain ⟨k1, k2⟩ := hg.grow' ha.below
          exact hK v { g with w := g'.w } k1 k2 (scal_rel hs ha.rel)
        · cases h
      · cases h
    · cases h
  · cases h
/-- The same, in a region that may draw its order: the tokens are locked. -/
theorem p_callL {Ls : List (Oper × Gd)} {d : Bool} {Q : PSt → Prop} {f : FuncId} {as : List PV} {r : PV} (ts : List Nat) (hc : PCall P Gl f as r) (h0 : (callHdB ts Ls s).map (fun x => (x.1, dcoAL as x.2.1, x.2.2.map (·.1))) = (callHdB ts Ls s).map (fun x => (f, as, x.2.2.map (·.2)))) (hs0 : ((callHdB ts Ls s).isSome && ts.all lockTk) = true) (hs : scal r = true)
    (h2 : pops P Gl d (Ls.drop 1) (s.put (dstHd Ls) r) Q) : pops P Gl d Ls s Q := by
  obtain ⟨hs1, hts⟩ := Bool.and_eq_true_iff.1 hs0
  obtain ⟨y0, h⟩ := Option.isSome_iff_exists.1 hs1
  rw [h] at h0
  obtain ⟨f0, qs, eqs⟩ := y0
  simp only [Option.map_some, Option.some.injEq, Prod.mk.injEq] at h0
  obtain ⟨rfl, hdc, heq⟩ := h0
  match Ls, h, h2 with
  | (o, .always) :: rest, h, h2 =>
    simp only [callHdB] at h
    simp only [pops, gdStep]
    refine .inl ?_
    simp only [stepO]
    cases hco : callOf o.op with
    | none => simp [hco] at h
    | some xa =>
      obtain ⟨x, args⟩ := xa
      simp only [hco] at h ⊢
      split at h
      · rename_i f' caps hx
        split at h
        · rename_i hcap
          obtain ⟨q', h5, h'⟩ := Option.map_eq_some_iff.1 h
          simp only [Prod.mk.injEq] at h'
          obtain ⟨rfl, rfl⟩ := h'
          exact .inr ⟨f', caps, qs, r, ts, eqs, hx, hcap, h5, heq, hts, hc.coerce hdc, hs, h2⟩
        · cases h
      · cases h
/-- These tokens are locked, or unlocked. -/
def swpK (K : Nat) (ts : List Nat) (i : Nat) : Nat := match ts.contains i with
  | true => i + K
  | false => match decide (K ≤ i), ts.contains (i - K) with
    | true, true => i - K
    | _, _ => i
theorem swpK_swpK {K : Nat} {ts : List Nat} (h : (ts.all fun t => decide (t < K)) = true) (i : Nat) : swpK K ts (swpK K ts i) = i := by
  have hlt : ∀ t, ts.contains t = true → t < K := fun t ht => by simpa using List.all_eq_true.1 h t (by simpa using ht)
  unfold swpK
  cases h1 : ts.contains i with
  | true =>
    have := hlt i h1
    have h2 : ts.contains (i + K) = false := by
      cases q : ts.contains (i + K) with
      | false => rfl
      | true => have := hlt _ q; omega
    simp only [h2]
    rw [decide_eq_true (by omega), Nat.add_sub_cancel, h1]
  | false =>
    cases h2 : decide (K ≤ i) with
    | false => simp only [h1, h2]
    | true =>
      cases h3 : ts.contains (i - K) with
      | true =>
        have h2 := of_decide_eq_true h2
        simp only [h3]; omega
      | false => simp only [h1, h2, h3]
theorem swpK_fix {K : Nat} {ts : List Nat} (h : (ts.all fun t => decide (t < K)) = true) (i : Nat) (hi : K + K ≤ i) : swpK K ts i = i := by
  have hlt : ∀ t, ts.contains t = true → t < K := fun t ht => by simpa using List.all_eq_true.1 h t (by simpa using ht)
  unfold swpK
  cases h1 : ts.contains i with
  | true => have := hlt i h1; omega
  | false =>
    cases h3 : ts.contains (i - K) with
    | true => have := hlt _ h3; omega
    | false => cases decide (K ≤ i) <;> rfl
def swpL (ts : List Nat) (i : Nat) : Nat := swpK 500000000 ts i
theorem wkr_lock (ts : List Nat) (J : JS) (n : Nat) (hts : (ts.all fun t => decide (t < 500000000)) = true) (hok : J.ok = true) (h : J.seen (renS id (swpL ts) s) = J.told n) : Wkr s (J.st n) :=
  Wkr.trans (s2 := renS id (swpL ts) s) (fun Gl S0 w0 a w hi => by
    obtain ⟨g, rfl, hg⟩ := hi
    exact ⟨renG id (swpL ts) g, rfl, hg.ren (fun _ => rfl) (swpK_swpK hts) (fun _ _ => rfl) (fun i hi => swpK_fix hts i hi)⟩) (.of hok h)
end
end PM
