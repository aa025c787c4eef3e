/-
  THE PURE MACHINE, M: calls; the operations of a region in the order of the text.
-/
import Derived.Test.YtdhkjmlafmokjaaDoorPmL
import Derived.Tactics
namespace PM
open Go Go.RowKit

section
variable {P : Program} {Gl : Nat → Option (List PV)} {S0 : Bs} {w0 : World} {s : PSt} {a : Act} {g : GG} {w : World}

theorem Rel0.noH {g' : GG} (hH : ∀ l, g'.H l = none) {p : PV} {v : Value} (h : Rel0 g' p v) : RelD g'.S g'.w p v := by
  cases p <;> simp only [Rel0] at h
  case ref l off => rw [hH l] at h; simp at h
  all_goals exact h
/-- A result of a call, in the caller's terms. -/
theorem rel1_retok {g' g2 : GG} {d : Nat} {r : PV} {v : Value} (hw : g2.w = g'.w) (hS : g2.S = g'.S) (hH : ∀ l, g'.H l = none) (hk0 : ∀ t n, g'.T t ≠ some (n, 0))
    (hT : ∀ t n k, (t, (n, k)) ∈ toks1 r → g2.T (1000 * d + t) = some (n, k) ∧ g2.hd (1000 * d + t) = g'.hd t) (hfun : ∀ t n k n' k', g'.T t = some (n', k') → (t, (n, k)) ∈ toks1 r → (n, k) = (n', k')) (h : Rel1 g' r v) : Rel1 g2 (retok1 d r) v := by
  cases r
  case lst o k b xss =>
    cases o
    case own t =>
      simp only [Rel1] at h
      obtain ⟨h1, n, h2, h3, h4⟩ := h
      obtain ⟨e1, e2⟩ := hT t xss.length k (by simp [toks1])
      have e3 := hfun t xss.length k n k h2 (by simp [toks1])
      have e4 : xss.length = n := (Prod.mk.inj e3).1
      simp only [retok1, Rel1]
      exact ⟨by rw [hS, hw]; exact h1, xss.length, e1, Nat.le_refl _, fun _ => by rw [e2]; exact h4 e4⟩
    all_goals (simp only [retok1]; simp only [Rel1] at h ⊢; rw [hS, hw]; exact h)
  case ref l off => simp only [Rel1] at h; rw [hH l] at h; simp at h
  case mp l => simp only [Rel1] at h; rw [hH l] at h; simp at h
  case sl l _ len k b => simp only [Rel1] at h; obtain ⟨_, cs, h2, _⟩ := h; rw [hH l] at h2; cases h2
  case ex => obtain ⟨_, _, h2, _⟩ := h; exact absurd h2 (hk0 _ _)
  case eref => obtain ⟨_, _, h2, _⟩ := h; exact absurd h2 (hk0 _ _)
  case ub => exact h
  case fn f caps =>
    simp only [retok1, Rel1] at h ⊢
    obtain ⟨arr, h1, h2⟩ := h
    refine ⟨arr, h1, h2.mono fun x y hxy => ?_⟩
    have := hxy.noH hH
    cases x <;> simp only [Rel0] <;> first | (rw [hS, hw]; exact this) | (simp only [RelD] at this)
  all_goals (simp only [retok1]; simp only [Rel1] at h ⊢; try (rw [hS, hw]; exact h))
theorem relA_retok {g' g2 : GG} {d : Nat} {r : PV} {v : Value} (hw : g2.w = g'.w) (hS : g2.S = g'.S) (hH : ∀ l, g'.H l = none) (hk0 : ∀ t n, g'.T t ≠ some (n, 0))
    (hT : ∀ t n k, (t, (n, k)) ∈ toksA r → g2.T (1000 * d + t) = some (n, k) ∧ g2.hd (1000 * d + t) = g'.hd t) (hfun : ∀ t n k n' k', g'.T t = some (n', k') → (t, (n, k)) ∈ toksA r → (n, k) = (n', k')) (h : RelA g' r v) : RelA g2 (retokA d r) v := by
  cases r
  case agg cs =>
    simp only [RelA, retokA] at h ⊢
    obtain ⟨arr, h1, h2⟩ := h
    refine ⟨arr, h1, by simp [h2.1], fun i x y hx hy => ?_⟩
    rw [List.getElem?_map] at hx
    cases hc : cs[i]? with
    | none => rw [hc] at hx; cases hx
    | some c =>
      rw [hc] at hx; cases hx
      have hmem : c ∈ cs := List.mem_of_getElem? hc
      have := h2.2 i c y hc hy
      have sub : ∀ z, z ∈ toks1 c → z ∈ toksA (.agg cs) := fun z hz => List.mem_flatMap.2 ⟨c, hmem, hz⟩
      exact ⟨rel1_retok hw hS hH hk0 (fun t n k hm => hT t n k (sub _ hm)) (fun t n k n' k' e hm => hfun t n k n' k' e (sub _ hm)) this.1, this.2⟩
  all_goals
    (simp only [RelA] at h
     simp only [toksA] at hT hfun
     exact (rel1_retok hw hS hH hk0 hT hfun h).relA')
theorem rel_retok {g' g2 : GG} {d : Nat} {r : PV} {v : Value} (hw : g2.w = g'.w) (hS : g2.S = g'.S) (hH : ∀ l, g'.H l = none) (hk0 : ∀ t n, g'.T t ≠ some (n, 0))
    (hT : ∀ t n k, (t, (n, k)) ∈ toksV r → g2.T (1000 * d + t) = some (n, k) ∧ g2.hd (1000 * d + t) = g'.hd t) (hfun : ∀ t n k n' k', g'.T t = some (n', k') → (t, (n, k)) ∈ toksV r → (n, k) = (n', k')) (h : Rel g' r v) : Rel g2 (retokV d r) v := by
  cases r
  case tup cs =>
    simp only [Rel, retokV] at h ⊢
    obtain ⟨arr, h1, h2⟩ := h
    refine ⟨arr, h1, by simp [h2.1], fun i x y hx hy => ?_⟩
    rw [List.getElem?_map] at hx
    cases hc : cs[i]? with
    | none => rw [hc] at hx; cases hx
    | some c =>
      rw [hc] at hx; cases hx
      have hmem : c ∈ cs := List.mem_of_getElem? hc
      have sub : ∀ z, z ∈ toksA c → z ∈ toksV (.tup cs) := fun z hz => List.mem_flatMap.2 ⟨c, hmem, hz⟩
      exact relA_retok hw hS hH hk0 (fun t n k hm => hT t n k (sub _ hm)) (fun t n k n' k' e hm => hfun t n k n' k' e (sub _ hm)) (h2.2 i c y hc hy)
  all_goals
    (simp only [Rel] at h
     simp only [toksV] at hT hfun
     exact (relA_retok hw hS hH hk0 hT hfun h).rel)
theorem InvG.after (h : InvG Gl S0 w0 s a g) {r : PV} {v : Value} {g' : GG} (ha : After g.S g.w r v g') (d : Nat) (hf : toksFree d s.T (toksV r)) :
    ∃ g2, InvG Gl S0 w0 (PM.addToks d s (toksV r)) a g2 ∧ g2.w = g'.w ∧ Rel g2 (retokV d r) v := by
  obtain ⟨h1, g1⟩ := h.grow ha.below ha.sub ha.new
  obtain ⟨g2, k1, k2, k3, k4, k5, k6⟩ := InvG.addToks (d := d) (g' := g') (base := g.w.heap.size) h.below.size ha.owns ha.ownsEx (toksV r) s _ h1 rfl rfl (fun x hx => (ha.T x.1 x.2.1 x.2.2).2 hx) hf
    (fun t B hs => .inl ((hs.congr (g := g) rfl rfl).lt h)) (fun l' hl' => by
      obtain ⟨ob, hob⟩ := Option.isSome_iff_exists.1 hl'
      exact (h.objs l' ob hob).2.1) (fun t B hx => ((hx.congr (g := g) rfl).lt h).1)
  refine ⟨g2, k1, k3, rel_retok (g' := g') k3 k4 ha.H (fun t n e => toksFree_k hf _ ((ha.T _ _ _).1 e) rfl) (fun t n k hm => k5 (t, (n, k)) hm) (fun t n k n' k' e hm => ?_) ha.rel⟩
  have := (ha.T t n k).2 hm
  rw [e] at this
  cases this; rfl

/-- A call, by contract. -/
def callStep (P : Program) (Gl : Nat → Option (List PV)) (draw : Bool) (dst : Option Nat) (x : PV) (args : List PV) (s : PSt) (K : PSt → Prop) : Prop :=
  ∃ f caps as r, x = .fn f caps ∧ caps.all capOK = true ∧ datumAs (args ++ caps) = some as ∧ PCall P Gl f as r ∧ toksFree (dst.getD 0) s.T (toksV r) ∧ (draw = true → toksV r = []) ∧ K ((addToks (dst.getD 0) s (toksV r)).put dst (retokV (dst.getD 0) r))
/-- There is a value, and it is such. -/
def ok {α : Type} (o : Option α) (K : α → Prop) : Prop := ∃ x, o = some x ∧ K x
def stepO (P : Program) (Gl : Nat → Option (List PV)) (draw : Bool) (o : Oper) (s : PSt) (K : PSt → Prop) : Prop :=
  match callOf o.op with
  | some (x, args) => callStep P Gl draw o.dst (s.ev x) (args.map s.ev) s K
  | none => ok (evO P Gl o.dst o.op s.ev s.H s.T s.X) fun x => K ((x.2.app s).put o.dst x.1)

theorem callOf_spec {op : Op} {x : Operand} {args : List Operand} (h : callOf op = some (x, args)) : ∃ c, op = .call c ∧ c.callee = .value x ∧ c.args.toList = args := by
  unfold callOf at h
  split at h
  · rename_i c
    split at h
    · rename_i f hf
      cases h
      exact ⟨c, rfl, hf, rfl⟩
    · cases h
  · cases h
/-- One step is sound. -/
theorem stepO_sound {draw : Bool} (h : InvG Gl S0 w0 s a g) {o : Oper} {K : PSt → Prop} (hs : stepO P Gl draw o s K) {K' : Act → World → Prop} {Q : Exit → Act → World → Prop} (hK : ∀ s' a' w', K s' → Inv Gl S0 w0 s' a' w' → K' a' w') :
    o.wp P a g.w K' Q := by
  unfold stepO at hs
  split at hs
  · rename_i x args hc
    obtain ⟨c, hop, hcal, hargs⟩ := callOf_spec hc
    obtain ⟨f, caps, as, r, e1, ecap, e2, ⟨⟨fn, hfn1, hfn2, hfn3⟩, hcall⟩, e4, _, e6⟩ := hs
    have hx := h.ev x
    rw [e1] at hx
    simp only [Rel, RelA, Rel1] at hx
    obtain ⟨arr, hfv, hcaps⟩ := hx
    have hall : All2 (Rel g) (args.map s.ev ++ caps) ((c.args.map a.eval ++ arr).toList) := by
      rw [Array.toList_append, Array.toList_map, hargs]
      refine All2.append ⟨by simp, fun i p v hp hv => ?_⟩ ⟨hcaps.1, fun i p v hp hv => ?_⟩
      · rw [List.getElem?_map] at hp hv
        cases hi : args[i]? with
        | none => rw [hi] at hp; cases hp
        | some y => rw [hi] at hp hv; cases hp; cases hv; exact h.ev y
      · have hpv := hcaps.2 i p v hp hv
        have hcap := List.all_eq_true.1 ecap p (List.mem_of_getElem? hp)
        cases p <;> simp only [capOK] at hcap <;> try cases hcap
        all_goals exact hpv
    have hD := datumAs_spec hall e2
    have hrun : (execOp a.eval o).run P g.w = .ok (.enter f (c.args.map a.eval ++ arr)) g.w := by
      have hname : fn.name ≠ "runtime.NumGoroutine" := by simpa using hfn2
      have hbody : fn.body ≠ none := fun e => by rw [e] at hfn3; cases hfn3
      simp [execOp, hop, resolve, hcal, hfv, Deferred.ofValue, invoke, callFunc, run_program, hfn1, hname, hbody]
    unfold Oper.wp
    rw [hrun]
    refine (hcall g.S g.w _ h.lt h.glob hD).mono fun e w' he => ?_
    obtain ⟨v, g', rfl, rfl, ha⟩ := he
    obtain ⟨g2, q1, q2, q3⟩ := h.after ha (o.dst.getD 0) e4
    exact hK _ _ _ e6 ⟨g2, q2, q1.put _ q3⟩
  · obtain ⟨x, e1, e2⟩ := hs
    unfold evO at e1
    split at e1
    · rcases does_evE h o e1 with ⟨v, w', r1, r2⟩ | ⟨w', r1, r2⟩ <;> (unfold Oper.wp; rw [r1]; exact hK _ _ _ e2 r2)
    · obtain ⟨p, hp, rfl⟩ := Option.map_eq_some_iff.1 e1
      obtain ⟨z, r1, r2⟩ := run_ev1 h o hp
      unfold Oper.wp
      rw [r1]
      exact hK _ _ _ e2 ⟨g, rfl, h.put _ r2⟩
/-- What else an operation may do: it yields v, and H, T, X are those of n behind it. -/
def semNew (s n : PSt) : PSt := { s with H := n.H, T := n.T, X := n.X }
def OpSem (P : Program) (Gl : Nat → Option (List PV)) (o : Oper) (s n : PSt) (v : PV) : Prop :=
  ∀ (S0 : Bs) (w0 : World) (a : Act) (g : GG) (K : Act → World → Prop) (Q : Exit → Act → World → Prop), InvG Gl S0 w0 s a g →
    (∀ z g', InvG Gl S0 w0 (semNew s n) a g' → GLe g g' → Rel g' v z → K (a.put o.dst z) g'.w) → o.wp P a g.w K Q
def isMove : Op → Bool
  | .move _ => true
  | _ => false
def stepOp (P : Program) (Gl : Nat → Option (List PV)) (draw : Bool) (o : Oper) (s : PSt) (K : PSt → Prop) : Prop :=
  stepO P Gl draw o s K ∨ (draw = false ∧ isMove o.op = false ∧ ∃ n v, OpSem P Gl o s n v ∧ K ((semNew s n).put o.dst v))
theorem stepOp_sound {draw : Bool} (h : InvG Gl S0 w0 s a g) {o : Oper} {K : PSt → Prop} (hs : stepOp P Gl draw o s K) {K' : Act → World → Prop} {Q : Exit → Act → World → Prop} (hK : ∀ s' a' w', K s' → Inv Gl S0 w0 s' a' w' → K' a' w') :
    o.wp P a g.w K' Q := by
  rcases hs with hs | ⟨_, _, n, v, h1, h2⟩
  · exact stepO_sound h hs hK
  · exact h1 S0 w0 a g K' Q h fun z g' e1 _ e3 => hK _ _ _ h2 ⟨g', rfl, e1.put _ e3⟩
end
end PM
