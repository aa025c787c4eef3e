import Derived.Test.YtmbcgmlgbcookaaDoorPmJ
import Derived.KernelRfl
/-
  THE PURE MACHINE, N: code, loops, whole functions.
-/
namespace PM
open Go Go.RowKit

/-- When an operation of a region is carried out. -/
inductive Gd where
  | always
  | slot (t : Nat) (want : Bool)
  | never
  | bad
def gdOf (ops : Array Oper) (o : Oper) : Gd :=
  match o.guard with
  | none => .always
  | some (j, w) => match (ops[j]?).bind (·.dst) with
    | some t => .slot t w
    | none => .bad
def withGd (ops : Array Oper) : List (Oper × Gd) := ops.toList.map fun o => (o, gdOf ops o)
def gdStep (g : Gd) (s : PSt) (yes no : Prop) : Prop :=
  match g with
  | .always => yes
  | .slot t w => match s.get t with
    | .bool b => (b = w → yes) ∧ (b = !w → no)
    | .tup [] => no
    | _ => False
  | .never => no
  | .bad => False
def pops (P : Program) (Gl : Nat → Option (List PV)) (draw : Bool) : List (Oper × Gd) → PSt → (PSt → Prop) → Prop
  | [], s, Q => Q s
  | (o, gd) :: r, s, Q => gdStep gd s (stepOp P Gl draw o s fun s' => pops P Gl draw r s' Q) (pops P Gl draw r (s.put o.dst (.tup [])) Q)

section
variable {P : Program} {Gl : Nat → Option (List PV)} {S0 : Bs} {w0 : World} {s : PSt} {a : Act} {g : GG} {w : World}
theorem Rel.und (g : GG) : Rel g (.tup []) undef := by
  simp only [Rel]
  exact ⟨#[], rfl, .nil⟩
theorem InvG.slotUnd (h : InvG Gl S0 w0 s a g) {t : Nat} (hb : s.get t = .tup []) : ∀ b, a.tmps[t]? ≠ some (.bool b) := by
  intro b hab
  have h1 := h.get t
  rw [hb] at h1
  simp only [Rel] at h1
  obtain ⟨arr, h2, _⟩ := h1
  rw [Array.getD_eq_getD_getElem?, hab] at h2
  cases h2
theorem InvG.slotBool (h : InvG Gl S0 w0 s a g) {t : Nat} {b : Bool} (hb : s.get t = .bool b) : a.tmps[t]? = some (.bool b) := by
  have h1 := h.get t
  rw [hb, relBool] at h1
  by_cases ht : t < a.tmps.size
  · rw [Array.getElem?_eq_getElem ht] at *
    simpa [ht] using h1
  · exfalso
    rw [Array.getD_eq_getD_getElem?, Array.getElem?_eq_none (by omega)] at h1
    simp [undef] at h1
theorem wanted_gd (h : InvG Gl S0 w0 s a g) {ops : Array Oper} {o : Oper} {yes no : Prop} (hs : gdStep (gdOf ops o) s yes no) :
    (Region.wanted o (yielded ops a.tmps) = true ∧ yes) ∨ (Region.wanted o (yielded ops a.tmps) = false ∧ no) := by
  unfold gdStep gdOf at hs
  unfold Region.wanted
  cases hg : o.guard with
  | none => simp only [hg] at hs; exact .inl ⟨rfl, hs⟩
  | some jw =>
    obtain ⟨j, want⟩ := jw
    simp only [hg] at hs
    cases hd : (ops[j]?).bind (·.dst) with
    | none => simp [hd] at hs
    | some t =>
      simp only [hd] at hs
      split at hs
      · rename_i b hb
        have hy : yielded ops a.tmps j = some b := by
          unfold yielded
          rw [hd]
          simp only [Option.bind_some]
          rw [h.slotBool hb]
        simp only [hy]
        cases b <;> cases want <;> simp_all
      · rename_i hb
        have hy : yielded ops a.tmps j = none := by
          unfold yielded
          rw [hd]
          simp only [Option.bind_some]
          have := h.slotUnd hb
          split
          · rename_i b hb'; exact absurd hb' (this b)
          · rfl
        simp only [hy]
        exact .inr ⟨by simp, hs⟩
      · exact hs.elim
theorem pops_sound {ops : Array Oper} {Q' : Exit → Act → World → Prop} {Q : PSt → Prop} (hQ : ∀ s' a' w', Q s' → Inv Gl S0 w0 s' a' w' → Q' .normal a' w') :
    ∀ (l : List Oper) (s : PSt) (a : Act) (w : World), Inv Gl S0 w0 s a w → pops P Gl false (l.map fun o => (o, gdOf ops o)) s Q → wpList P ops Q' l a w
  | [], s, a, w, h, hp => hQ s a w hp h
  | o :: l, s, a, w, h, hp => by
    obtain ⟨g, rfl, h⟩ := h
    unfold wpList
    simp only [List.map_cons, pops] at hp
    rcases wanted_gd h hp with ⟨h1, h2⟩ | ⟨h1, h2⟩
    · rw [if_pos h1]
      exact .inl (stepOp_sound h h2 fun s' a' w' hs' hi' => pops_sound hQ l s' a' w' hi' hs')
    · rw [if_neg (by rw [h1]; simp)]
      exact pops_sound hQ l _ _ _ ⟨g, rfl, h.put _ (Rel.und _)⟩ h2

/-- What code does to a state. -/
def pwp (P : Program) (Gl : Nat → Option (List PV)) (c : Code) (Q : Exit → PSt → Prop) (s : PSt) : Prop :=
  ∀ (S0 : Bs) (w0 : World) (a : Act) (w : World), Inv Gl S0 w0 s a w → c.wp P (fun e a' w' => ∃ s', Q e s' ∧ Inv Gl S0 w0 s' a' w') a w
theorem wp_mono {c : Code} {Q Q' : Exit → Act → World → Prop} (h : ∀ e a w, Q e a w → Q' e a w) (hw : c.wp P Q a w) : c.wp P Q' a w :=
  fun b k cs => let ⟨e, a', w', hq, r⟩ := hw b k cs; ⟨e, a', w', h _ _ _ hq, r⟩
section
variable {Q Q' : Exit → PSt → Prop} {c x y : Code}
theorem pwp_mono (h : ∀ e s, Q e s → Q' e s) (hw : pwp P Gl c Q s) : pwp P Gl c Q' s :=
  fun S0 w0 a w hi => wp_mono (fun _ _ _ ⟨s', q, i⟩ => ⟨s', h _ _ q, i⟩) (hw S0 w0 a w hi)
theorem pwp_weak {s' : PSt} (hw : Weaker s s') (h : pwp P Gl c Q s') : pwp P Gl c Q s := fun S0 w0 a w hi => h S0 w0 a w (hi.weak hw)
theorem pwp_skip (h : Q .normal s) : pwp P Gl .skip Q s := fun _ _ _ _ hi => wp_skip ⟨s, h, hi⟩
theorem pwp_exit {id : Nat} (h : Q (.exit id) s) : pwp P Gl (.exit id) Q s := fun _ _ _ _ hi => wp_exit ⟨s, h, hi⟩
theorem pwp_ret (h : Q .ret s) : pwp P Gl .ret Q s := fun _ _ _ _ hi => wp_ret ⟨s, h, hi⟩
/-- What must hold behind the first of two pieces. -/
def seqQ (P : Program) (Gl : Nat → Option (List PV)) (y : Code) (Q : Exit → PSt → Prop) : Exit → PSt → Prop
  | .normal, s => pwp P Gl y Q s
  | e, s => Q e s
theorem pwp_seq (h : pwp P Gl x (seqQ P Gl y Q) s) : pwp P Gl (.seq x y) Q s := fun S0 w0 a w hi =>
  wp_seq (wp_mono (fun e _ _ ⟨s', q, i⟩ => by
    cases e <;> simp only [Exit.then]
    case normal => exact q S0 w0 _ _ i
    all_goals exact ⟨s', q, i⟩) (h S0 w0 a w hi))
theorem pwp_cond {c : Operand} {b : Bool} (hb : s.ev c = .bool b) (ht : b = true → pwp P Gl x Q s) (hf : b = false → pwp P Gl y Q s) : pwp P Gl (.cond c x y) Q s := fun S0 w0 a w hi => by
  obtain ⟨g, rfl, hg⟩ := hi
  have := hg.ev c
  rw [hb, relBool] at this
  exact wp_cond_split this (fun e => ht e S0 w0 a g.w ⟨g, rfl, hg⟩) (fun e => hf e S0 w0 a g.w ⟨g, rfl, hg⟩)
theorem pwp_condU {c : Operand} {e : Bool} (hb : s.ev c = .ub e) (ht : e = true → pwp P Gl x Q s) (hf : pwp P Gl y Q s) : pwp P Gl (.cond c x y) Q s := fun S0 w0 a w hi => by
  obtain ⟨g, rfl, hg⟩ := hi
  have := hg.ev c
  rw [hb] at this
  obtain ⟨b, h1, h2⟩ : ∃ b : Bool, a.eval c = .bool b ∧ (b = true → e = true) := this
  exact wp_cond_split h1 (fun q => ht (h2 q) S0 w0 a g.w ⟨g, rfl, hg⟩) (fun _ => hf S0 w0 a g.w ⟨g, rfl, hg⟩)
def blockQ (id : Nat) (Q : Exit → PSt → Prop) : Exit → PSt → Prop
  | .exit id', s => if id' = id then Q .normal s else Q (.exit id') s
  | e, s => Q e s
theorem pwp_block {id : Nat} (h : pwp P Gl c (blockQ id Q) s) : pwp P Gl (.block id c) Q s := fun S0 w0 a w hi =>
  wp_block (wp_mono (fun e a w ⟨s', q, i⟩ => by
    cases e <;> simp only [Exit.inBlock]
    case exit id' =>
      simp only [blockQ] at q
      split
      · rename_i h1; rw [if_pos h1] at q; exact ⟨s', q, i⟩
      · rename_i h1; rw [if_neg h1] at q; exact ⟨s', q, i⟩
    all_goals exact ⟨s', q, i⟩) (h S0 w0 a w hi))
theorem pwp_region {id : Nat} {ops : Array Oper} (h : pops P Gl false (withGd ops) s (Q .normal)) : pwp P Gl (.region id ops false) Q s := fun S0 w0 a w hi =>
  wp_region_list (pops_sound (S0 := S0) (w0 := w0) (fun s' _ _ q i => ⟨s', q, i⟩) ops.toList s a w hi h)
/-- A loop: what holds at the head of each round, and a number that goes down. -/
def loopQ (I : Nat → PSt → Prop) (n : Nat) (Q : Exit → PSt → Prop) : Exit → PSt → Prop
  | .normal, s => ∃ m s', m < n ∧ I m s' ∧ Weaker s s'
  | e, s => Q e s
theorem pwp_loop (I : Nat → PSt → Prop) (n : Nat) {s' : PSt} (h0 : I n s') (hw : Weaker s s') (hr : ∀ n s, I n s → pwp P Gl c (loopQ I n Q) s) : pwp P Gl (.loop c) Q s := by
  intro S0 w0 a w hi
  have key : ∀ n (a : Act) (w : World), (∃ s, I n s ∧ Inv Gl S0 w0 s a w) → ∀ (b : Frame) (k : List Item) (cs : List Frame),
      ∃ e a' w', (∃ s', Q e s' ∧ Inv Gl S0 w0 s' a' w') ∧ Arrives P (lone (b.at a (.code c :: .inLoop c :: k)) cs w) b k cs e a' w' := by
    intro n
    induction n using Nat.strongRecOn with
    | _ n ih =>
      rintro a w ⟨s, hI, hi⟩ b k cs
      obtain ⟨e, a1, w1, ⟨s1, hq, hi1⟩, harr⟩ := hr n s hI S0 w0 a w hi b (.inLoop c :: k) cs
      cases e with
      | normal =>
        obtain ⟨m, s2, hm, hI2, hw2⟩ := hq
        obtain ⟨e2, a2, w2, hq2, harr2⟩ := ih m hm a1 w1 ⟨s2, hI2, hi1.weak hw2⟩ b k cs
        exact ⟨e2, a2, w2, hq2, .of_steps (Steps.trans harr (.one step_inLoop)) harr2⟩
      | exit id => exact ⟨_, a1, w1, ⟨s1, hq, hi1⟩, .pass (x := .inLoop c) rfl (fun _ _ => .inl (by simp)) harr⟩
      | goto l => exact ⟨_, a1, w1, ⟨s1, hq, hi1⟩, .pass (x := .inLoop c) rfl (fun _ _ => .inl (by simp)) harr⟩
      | ret => exact ⟨_, a1, w1, ⟨s1, hq, hi1⟩, .pass (x := .inLoop c) rfl (fun _ _ => .inl (by simp)) harr⟩
      | panic ch => exact ⟨_, a1, w1, ⟨s1, hq, hi1⟩, .pass (x := .inLoop c) rfl (fun _ _ => .inl (by simp)) harr⟩
      | outgrown => exact ⟨_, a1, w1, ⟨s1, hq, hi1⟩, .pass (x := .inLoop c) rfl (fun _ _ => .inl (by simp)) harr⟩
  intro b k cs
  obtain ⟨e, a', w', hq, harr⟩ := key n a w ⟨s', h0, hi.weak hw⟩ b k cs
  exact ⟨e, a', w', hq, .of_steps (.one step_loop) harr⟩
end

/-! ### Whole functions -/
def resPV (P : Program) (Gl : Nat → Option (List PV)) (s : PSt) : List ResultVar → Option (List PV)
  | [] => some []
  | .tmp t :: r => (resPV P Gl s r).map (s.get t :: ·)
  | .cell x t :: r => match evLoad P Gl s.H s.X t (s.get x), resPV P Gl s r with
    | some p, some ps => some (p :: ps)
    | _, _ => none
def noTup : PV → Bool
  | .tup _ => false
  | _ => true
def onePV : List PV → Option PV
  | [x] => some x
  | vs => if vs.all noTup = true then some (.tup vs) else none
def tokT (r : PV) : Nat → Option (Nat × Nat) := fun t => (toksV r).lookup t
def finalQ (P : Program) (Gl : Nat → Option (List PV)) (rs : List ResultVar) (r : PV) (s : PSt) : Prop :=
  ∃ vs pv, resPV P Gl s rs = some vs ∧ onePV vs = some pv ∧ WkV (fun _ => none) (tokT r) pv r ∧ ∀ x ∈ toksV r, s.T x.1 = some x.2
def bodyQ (P : Program) (Gl : Nat → Option (List PV)) (rs : List ResultVar) (r : PV) : Exit → PSt → Prop
  | .normal, s => finalQ P Gl rs r s
  | .ret, s => finalQ P Gl rs r s
  | _, _ => False
theorem pointer_of_evLoad {t : TypeId} {p r : PV} {v : Value} (he : evLoad P Gl s.H s.X t p = some r) (hv : Rel g p v) : ∃ ad, v = .pointer (some ad) := by
  cases p <;> simp only [evLoad] at he <;> try cases he
  case eref =>
    simp only [Rel, RelA, Rel1] at hv
    obtain ⟨⟨B, o, rfl⟩, _⟩ := hv
    exact ⟨_, rfl⟩
  · rw [relRef] at hv; exact ⟨_, hv.1⟩
  · rw [relCptr] at hv; obtain ⟨B, o, e, _⟩ := hv; exact ⟨_, e⟩
  · rw [relGptr] at hv; exact ⟨_, hv⟩
def resOf (tmps : Array Value) : ResultVar → Sem Value
  | .tmp t => pure (tmps.getD t undef)
  | .cell x t => do loadVar t (← asAddr (tmps.getD x undef))
theorem results_eq (fn : Func) (tmps : Array Value) : results fn tmps = (do
    let vs ← fn.results.mapM (resOf tmps)
    pure (if h : vs.size = 1 then vs[0] else .tuple vs)) := rfl
theorem run_resPV (h : InvG Gl S0 w0 s a g) : ∀ (rs : List ResultVar) (ps : List PV), resPV P Gl s rs = some ps →
    ∃ vs, (rs.mapM (resOf a.tmps)).run P g.w = .ok vs g.w ∧ All2 (Rel g) ps vs
  | [], ps, he => by simp only [resPV] at he; cases he; exact ⟨[], by simp, .nil⟩
  | .tmp t :: rs, ps, he => by
    simp only [resPV] at he
    obtain ⟨ps', h1, rfl⟩ := Option.map_eq_some_iff.1 he
    obtain ⟨vs, h2, h3⟩ := run_resPV h rs ps' h1
    exact ⟨_ :: vs, by simp only [List.mapM_cons, resOf, Sem.run_bind, Sem.run_pure, h2, Result.andThen_ok], .cons (h.get t) h3⟩
  | .cell x t :: rs, ps, he => by
    simp only [resPV] at he
    split at he
    · rename_i p ps' h1 h2
      cases he
      obtain ⟨vs, h3, h4⟩ := run_resPV h rs ps' h2
      obtain ⟨z, h5, h6⟩ := run_evLoad h h1 (h.get x)
      obtain ⟨ad, had⟩ := pointer_of_evLoad h1 (h.get x)
      have h7 : (loadVar t ad).run P g.w = .ok z g.w := by
        rw [had] at h5
        simpa [Instr.loadAt, Instr.sureAddr] using h5
      exact ⟨z :: vs, by rw [List.mapM_cons, Sem.run_bind, resOf, had]; simp only [asAddr, Sem.run_bind, Sem.run_pure, h7, h3, Result.andThen_ok], .cons h6 h4⟩
    · cases he
theorem mem_of_lookup {t : Nat} {x : Nat × Nat} : ∀ {l : List (Nat × (Nat × Nat))}, l.lookup t = some x → (t, x) ∈ l
  | [], h => by cases h
  | (t', y) :: l, h => by
    rw [List.lookup_cons] at h
    split at h
    · rename_i he
      cases h
      have : t = t' := by simpa using he
      subst this; simp
    · exact List.mem_cons_of_mem _ (mem_of_lookup h)
theorem lookup_of_mem {t : Nat} {x : Nat × Nat} : ∀ {l : List (Nat × (Nat × Nat))}, (∀ y ∈ l, y.1 = t → y.2 = x) → (t, x) ∈ l → l.lookup t = some x
  | [], _, h => by cases h
  | (t', y) :: l, hf, h => by
    rw [List.lookup_cons]
    split
    · rename_i he
      have : t = t' := by simpa using he
      subst this
      exact congrArg some (hf (t, y) (by simp) rfl)
    · rename_i he
      rcases List.mem_cons.1 h with h | h
      · cases h; simp at he
      · exact lookup_of_mem (fun y hy => hf y (by simp [hy])) h
theorem onePV_spec {ps : List PV} {pv : PV} {vs : List Value} (h : onePV ps = some pv) (hr : All2 (Rel g) ps vs) : Rel g pv (if h : vs.toArray.size = 1 then vs.toArray[0] else .tuple vs.toArray) := by
  unfold onePV at h
  split at h
  · rename_i x
    cases h
    obtain ⟨v, vs', rfl, h1, h2⟩ := hr.cons_left
    rw [h2.nil_left]
    simpa using h1
  · rename_i hne
    split at h
    · rename_i hall
      cases h
      have hlen : ¬ vs.toArray.size = 1 := by
        intro e
        have : ps.length = 1 := by rw [hr.1]; simpa using e
        match ps, this, hne with
        | [x], _, hne => exact hne x rfl
      rw [dif_neg hlen]
      simp only [Rel]
      refine ⟨_, rfl, hr.1, fun i x y hx hy => ?_⟩
      have h1 := hr.2 i x y hx hy
      have h2 := List.all_eq_true.1 hall x (List.mem_of_getElem? hx)
      cases x <;> first | exact h1 | (simp [noTup] at h2)
    · cases h
/-- An argument: one cell, or a flat aggregate. -/
def flatArg : PV → Bool
  | .agg cs => cs.all PV.one
  | .tup _ => false
  | .any => false
  | _ => true
theorem Rel.ofData {p : PV} {v : Value} (h : RelD g.S g.w p v) (hf : flatArg p = true) : Rel g p v := by
  cases p
  case agg cs =>
    simp only [RelD] at h
    obtain ⟨arr, h1, h2⟩ := h
    simp only [Rel, RelA]
    refine ⟨arr, h1, ((relDs_iff _ _).1 h2).1, fun i x y hx hy => ?_⟩
    have h3 := ((relDs_iff _ _).1 h2).2 i x y hx hy
    have h4 := List.all_eq_true.1 hf x (List.mem_of_getElem? hx)
    exact ⟨.of_data h3 h4, (h3.oneCell h4).1⟩
  case tup vs => simp [flatArg] at hf
  case any => simp [flatArg] at hf
  all_goals exact .of1 (.of_data h rfl)
def st0 (args : List PV) (n : Nat) : PSt := ⟨args ++ List.replicate (n - args.length) .any, fun _ => none, fun _ => none, fun _ => none, 0⟩
theorem pcall_of_pwp {f : FuncId} {fn : Func} {c : Code} {args : List PV} {r : PV} {n : Nat} {rs : List ResultVar} (hf : P.funcs[f]? = some fn) (hname : (fn.name == "runtime.NumGoroutine") = false) (hb : fn.body = some c)
    (hn : fn.ntmps = n) (hrs : fn.results.toList = rs) (hflat : args.all flatArg = true) (h : pwp P Gl c (bodyQ P Gl rs r) (st0 args n)) : PCall P Gl f args r := by
  refine ⟨⟨fn, hf, hname, by rw [hb]; rfl⟩, fun S w vs hS hglob hargs => ?_⟩
  subst hn; subst hrs
  refine calls_of_wp hf hb ?_
  have hsz : args.length = vs.size := by rw [hargs.1]; simp
  have hinit : Inv Gl ⟨S, fun _ _ => False, fun _ _ _ => False, [], []⟩ w (st0 args fn.ntmps) { tmps := vs ++ Array.replicate (fn.ntmps - vs.size) undef, defers := [] } w := by
    refine ⟨⟨S, w, fun _ => 0, fun _ => undef, fun _ => none, fun _ => none⟩, rfl, { hH := rfl, hT := rfl, defers := rfl, len := by simp [st0, hsz], tm := fun i p v hp hv => ?_, sub := fun _ _ h => h, new := fun _ _ h => .inl h, lt := hS, below := BelowE.refl _ _, objs := (fun l ob e => by cases e), inj := (fun l l' e => by cases e), owns := (fun t n k e => by cases e), ownsEx := (fun t t' B hs => by obtain ⟨_, _, _, _, e, _⟩ := hs; cases e), ownsObj := (fun t B l hs => by obtain ⟨_, _, _, _, e, _⟩ := hs; cases e), glob := hglob, exs := (fun t k b xss e => by cases e), exsEx := (fun t t' B hs => by have := hs.1; cases this), fix := fun _ _ e => e.elim, fixT := fun _ _ _ e => e.elim }⟩
    simp only [st0] at hp
    simp only [List.append_nil, Array.getElem?_toList] at hv
    rw [List.getElem?_append] at hp
    by_cases hi : i < args.length
    · rw [if_pos hi] at hp
      rw [Array.getElem?_append_left (by omega)] at hv
      exact Rel.ofData (g := ⟨S, w, _, _, _, _⟩) (hargs.2 i p v hp (by simpa using hv)) (List.all_eq_true.1 hflat p (List.mem_of_getElem? hp))
    · rw [if_neg hi, List.getElem?_replicate] at hp
      split at hp
      · cases hp; trivial
      · cases hp
  refine wp_mono (fun e a' w' hq => ?_) (h ⟨S, fun _ _ => False, fun _ _ _ => False, [], []⟩ w _ w hinit)
  obtain ⟨s', hq, g, rfl, hg⟩ := hq
  have fin : finalQ P Gl fn.results.toList r s' → a'.defers = [] ∧ ∃ v, (results fn a'.tmps).run P g.w = .ok v g.w ∧ ∃ v_1 g', Ending.returned v = .returned v_1 ∧ g'.w = g.w ∧ After S w r v_1 g' := by
    rintro ⟨ps, pv, h1, h2, h3, h4⟩
    refine ⟨hg.defers, ?_⟩
    obtain ⟨us, r1, r2⟩ := run_resPV hg _ _ h1
    have hcut : Cut g (fun _ => none) (tokT r) := ⟨fun t x hx => by
      have := h4 _ (mem_of_lookup hx)
      rw [hg.hT]; exact this, fun l cs _ e => (by cases e)⟩
    refine ⟨_, ?_, _, { g with H := fun _ => none, T := tokT r }, rfl, rfl, ⟨hg.below.toBelow (fun _ e => e.elim (fun q => q.elim fun _ q => q) fun q => by obtain ⟨_, _, _, q, _⟩ := q; exact q), hg.sub, fun B o hB => (hg.new B o hB).imp id fun e => ⟨e.resolve_right (fun e => e.elim (fun q => q.elim fun _ q => q) fun q => by obtain ⟨_, _, _, q, _⟩ := q; exact q), hg.lt B o hB⟩, fun _ => rfl, fun t n k => ⟨fun e => mem_of_lookup e, fun e => lookup_of_mem (fun y hy hyt => ?_) e⟩, (onePV_spec h2 r2).weak hcut h3, fun t n k e => hg.owns t n k (hcut.T t _ e), fun t t' B hs hs' => ?_⟩⟩
    · rw [results_eq, Array.mapM_eq_mapM_toList]
      simp only [Sem.run_bind, Sem.run_map, r1, Result.andThen_ok, Sem.run_pure]
    · have e1 := h4 y hy
      have e2 := h4 _ e
      rw [hyt] at e1
      rw [e1] at e2
      simpa using e2
    · obtain ⟨n, k, off, cap, e1, e2, e3⟩ := hs
      obtain ⟨n', k', off', cap', e1', e2', e3'⟩ := hs'
      exact hg.ownsEx t t' B ⟨n, k, off, cap, hcut.T t _ e1, e2, e3⟩ ⟨n', k', off', cap', hcut.T t' _ e1', e2', e3'⟩
  cases e with
  | normal => exact fin hq
  | ret => exact fin hq
  | exit id => exact hq.elim
  | goto l => exact hq.elim
  | panic ch => exact hq.elim
  | outgrown => exact hq.elim
end
end PM
/-
  THE PURE MACHINE, X: walking by steps whose side goals the kernel works out: runs of plain operations, guards, joins, loops, calls, results.
-/
namespace PM
open Go Go.RowKit

/-- Plain operations, one after the other; the second part tells whether all could be worked out. -/
def pxr (P : Program) (Gl : Nat → Option (List PV)) : List (Oper × Gd) → PSt → PSt × Bool
  | [], s => (s, true)
  | (o, .always) :: r, s => match callOf o.op with
    | none => match evO P Gl o.dst o.op s.ev s.H s.T s.X with
      | some (v, e) => pxr P Gl r ((e.app s).put o.dst v)
      | none => (s, false)
    | some _ => (s, false)
  | (o, .never) :: r, s => pxr P Gl r (s.put o.dst (.tup []))
  | (o, .slot t _) :: r, s => match s.get t with
    | .tup [] => pxr P Gl r (s.put o.dst (.tup []))
    | _ => (s, false)
  | (_, .bad) :: _, s => (s, false)

section
variable {P : Program} {Gl : Nat → Option (List PV)} {d : Bool} {L : List (Oper × Gd)} {s : PSt} {Q : PSt → Prop}
theorem pops_pxr : ∀ (l1 l2 : List (Oper × Gd)) (s : PSt), (pxr P Gl l1 s).2 = true → pops P Gl d l2 (pxr P Gl l1 s).1 Q → pops P Gl d (l1 ++ l2) s Q
  | [], l2, s, _, h => h
  | (o, .always) :: r, l2, s, h1, h2 => by
    simp only [List.cons_append, pops, gdStep]
    refine .inl ?_
    simp only [stepO]
    unfold pxr at h1 h2
    cases hc : callOf o.op with
    | some y => simp [hc] at h1
    | none =>
      simp only [hc] at h1 h2 ⊢
      cases he : evO P Gl o.dst o.op s.ev s.H s.T s.X with
      | none => simp [he] at h1
      | some y =>
        simp only [he] at h1 h2 ⊢
        exact ⟨y, rfl, pops_pxr r l2 _ h1 h2⟩
  | (o, .never) :: r, l2, s, h1, h2 => by
    simp only [List.cons_append, pops, gdStep]
    exact pops_pxr r l2 _ h1 h2
  | (o, .slot t w) :: r, l2, s, h1, h2 => by
    simp only [List.cons_append, pops, gdStep]
    unfold pxr at h1 h2
    split at h1
    · rename_i hu
      simp only [hu] at h2 ⊢
      exact pops_pxr r l2 _ h1 h2
    · cases h1
  | (o, .bad) :: r, l2, s, h1, h2 => by simp [pxr] at h1
/-- The next n operations are plain. -/
theorem p_run (n : Nat) (h : (pxr P Gl (L.take n) s).2 = true) (h2 : pops P Gl d (L.drop n) (pxr P Gl (L.take n) s).1 Q) : pops P Gl d L s Q := by
  have := pops_pxr (d := d) (Q := Q) (L.take n) (L.drop n) s h h2
  rwa [List.take_append_drop] at this
/-- All that is left is plain. -/
theorem p_end (h : (pxr P Gl L s).2 = true) (h2 : Q (pxr P Gl L s).1) : pops P Gl d L s Q := by
  have := pops_pxr (d := d) (Q := Q) L [] s h h2
  rwa [List.append_nil] at this
/-- The operation at the head, if it is no call. -/
def evHd (P : Program) (Gl : Nat → Option (List PV)) : List (Oper × Gd) → PSt → Option (PV × Eff)
  | (o, .always) :: _, s => match callOf o.op with
    | none => evO P Gl o.dst o.op s.ev s.H s.T s.X
    | some _ => none
  | _, _ => none
def dstHd : List (Oper × Gd) → Option Nat
  | (o, _) :: _ => o.dst
  | [] => none
theorem p_step {v : PV} {e : Eff} (h : evHd P Gl L s = some (v, e)) (h2 : pops P Gl d (L.drop 1) ((e.app s).put (dstHd L) v) Q) : pops P Gl d L s Q := by
  match L, h, h2 with
  | (o, .always) :: r, h, h2 =>
    simp only [evHd] at h
    simp only [pops, gdStep]
    refine .inl ?_
    simp only [stepO]
    cases hc : callOf o.op with
    | some y => simp [hc] at h
    | none => simp only [hc] at h ⊢; exact ⟨(v, e), h, h2⟩

/-! ### Values said less of, by computation -/
def coerce1 (p q : PV) : PV :=
  match p with
  | .any => .any
  | .lst .frozen k b _ => match q with
    | .lst (.own _) k b xss => .lst .frozen k b xss
    | .lst .full k b xss => .lst .frozen k b xss
    | .nil => .lst .frozen k b []
    | q => q
  | .lst .full k b _ => match q with
    | .nil => .lst .full k b []
    | q => q
  | _ => q
def coerceL : List PV → List PV → List PV
  | p :: ps, q :: qs => coerce1 p q :: coerceL ps qs
  | _, qs => qs
def coerceA (p q : PV) : PV :=
  match p with
  | .agg ps => match q with
    | .agg qs => .agg (coerceL ps qs)
    | q => q
  | p => coerce1 p q
def coerceAL : List PV → List PV → List PV
  | p :: ps, q :: qs => coerceA p q :: coerceAL ps qs
  | _, qs => qs
def coerceV (p q : PV) : PV :=
  match p with
  | .tup ps => match q with
    | .tup qs => .tup (coerceAL ps qs)
    | q => q
  | p => coerceA p q
def coerceO (p q : PObj) : PObj :=
  match p with
  | .cells ps => match q with
    | .cells qs => .cells (coerceL ps qs)
    | q => q
  | .map _ => q
  | .iter _ _ => q
  | .miter _ _ _ _ => q
  | .mapo _ _ _ _ => q

section
variable {H : Nat → Option PObj} {T : Nat → Option (Nat × Nat)}
theorem coerce1_cases (p q : PV) : coerce1 p q = q ∨ Wk1 H T q (coerce1 p q) := by
  unfold coerce1
  split
  · exact .inr (.any _)
  · split
    · exact .inr (.thaw _ _ _ _)
    · exact .inr (.full _ _ _)
    · exact .inr (.nil _ _ _ (.inl rfl))
    · exact .inl rfl
  · split
    · exact .inr (.nil _ _ _ (.inr rfl))
    · exact .inl rfl
  · exact .inl rfl
theorem coerce1_wk {p q : PV} (h : live1 H T (coerce1 p q) = true) : Wk1 H T q (coerce1 p q) := by
  rcases coerce1_cases (H := H) (T := T) p q with e | e
  · rw [e] at h ⊢; exact .same _ h
  · exact e
theorem coerceL_wk : ∀ {ps qs : List PV}, (coerceL ps qs).all (live1 H T) = true → All2 (Wk1 H T) qs (coerceL ps qs)
  | p :: ps, q :: qs, h => by
    simp only [coerceL, List.all_cons, Bool.and_eq_true] at h ⊢
    exact .cons (coerce1_wk h.1) (coerceL_wk h.2)
  | [], qs, h => by
    simp only [coerceL] at h ⊢
    exact ⟨rfl, fun i x y hx hy => by rw [hx] at hy; cases hy; exact .same _ (List.all_eq_true.1 h x (List.mem_of_getElem? hx))⟩
  | p :: ps, [], h => by simp only [coerceL]; exact .nil
theorem Wk1.wkA {p q : PV} (h : Wk1 H T p q) (hp : ∀ vs, p ≠ .tup vs) (hq : ∀ cs, p = .agg cs → q = .any) : WkA H T p q := by
  cases h with
  | any => exact .any _
  | same _ h =>
    refine .same _ ?_ hp
    cases p <;> first | exact h | (have := hq _ rfl; cases this)
  | thaw => exact .thaw _ _ _ _
  | full => exact .full _ _ _
  | nil o k b ho => exact .nil _ _ _ ho
theorem coerce1_agg (p : PV) (cs : List PV) : coerce1 p (.agg cs) = .agg cs ∨ p = .any := by
  unfold coerce1
  split
  · exact .inr rfl
  all_goals exact .inl rfl
theorem coerce1_one (p q : PV) : coerce1 p q = q ∨ coerce1 p q = .any ∨ (coerce1 p q).one = true := by
  unfold coerce1
  split
  · exact .inr (.inl rfl)
  · split <;> first | exact .inr (.inr rfl) | exact .inl rfl
  · split <;> first | exact .inr (.inr rfl) | exact .inl rfl
  · exact .inl rfl
theorem live_one {p : PV} (h : p.one = true ∨ p = .any) : liveA H T p = live1 H T p := by
  cases p <;> first | rfl | (rcases h with h | h <;> cases h)
theorem coerce1_wkA {p q : PV} (hq : ∀ vs, q ≠ .tup vs) (h : liveA H T (coerce1 p q) = true) : WkA H T q (coerce1 p q) := by
  rcases coerce1_one p q with e | e | e
  · rw [e] at h ⊢; exact .same _ h hq
  · rw [e]; exact .any _
  · rw [live_one (.inl e)] at h
    refine Wk1.wkA (coerce1_wk h) hq fun cs hc => ?_
    subst hc
    rcases coerce1_agg p cs with e' | rfl
    · rw [e'] at e; cases e
    · rfl
theorem coerceA_wk {p q : PV} (hq : ∀ vs, q ≠ .tup vs) (h : liveA H T (coerceA p q) = true) : WkA H T q (coerceA p q) := by
  cases p
  case agg ps =>
    cases q
    case agg qs =>
      simp only [coerceA, liveA] at h ⊢
      exact .agg _ _ (coerceL_wk h)
    all_goals (simp only [coerceA] at h ⊢; exact .same _ h hq)
  all_goals (simp only [coerceA] at h ⊢; exact coerce1_wkA hq h)
theorem coerceAL_wk : ∀ {ps qs : List PV}, (∀ q ∈ qs, ∀ vs, q ≠ .tup vs) → (coerceAL ps qs).all (liveA H T) = true → All2 (WkA H T) qs (coerceAL ps qs)
  | p :: ps, q :: qs, hq, h => by
    simp only [coerceAL, List.all_cons, Bool.and_eq_true] at h ⊢
    exact .cons (coerceA_wk (hq q (by simp)) h.1) (coerceAL_wk (fun q hq' => hq q (by simp [hq'])) h.2)
  | [], qs, hq, h => by
    simp only [coerceAL] at h ⊢
    exact ⟨rfl, fun i x y hx hy => by rw [hx] at hy; cases hy; exact .same _ (List.all_eq_true.1 h x (List.mem_of_getElem? hx)) (hq x (List.mem_of_getElem? hx))⟩
  | p :: ps, [], hq, h => by simp only [coerceAL]; exact .nil
def noTups : PV → Bool
  | .tup vs => vs.all noTup
  | _ => true
theorem noTup_ne {q : PV} (h : noTup q = true) (vs : List PV) : q ≠ .tup vs := fun e => by subst e; cases h
theorem coerceA_ne {p q : PV} (hq : ∀ vs, q ≠ .tup vs) (vs : List PV) : coerceA p q ≠ .tup vs := by
  intro hz
  have other : ∀ p, coerce1 p q ≠ .tup vs := fun p hz => by
    rcases coerce1_one p q with e | e | e
    · exact hq vs (e.symm.trans hz)
    · rw [hz] at e; cases e
    · rw [hz] at e; cases e
  cases p
  case agg ps =>
    cases q
    case tup vs' => exact hq vs' rfl
    all_goals (simp only [coerceA] at hz; cases hz)
  all_goals (simp only [coerceA] at hz; exact other _ hz)
theorem coerceV_wk {p q : PV} (hn : noTups q = true) (h : liveV H T (coerceV p q) = true) : WkV H T q (coerceV p q) := by
  have other : ∀ p : PV, (∀ vs, q ≠ .tup vs) → liveV H T (coerceA p q) = true → WkV H T q (coerceA p q) := fun p hq h => by
    refine .part _ _ (coerceA_wk hq ?_)
    have hne := coerceA_ne (p := p) hq
    generalize coerceA p q = z at h hne
    cases z
    case tup vs => exact absurd rfl (hne vs)
    all_goals exact h
  by_cases hq : ∃ vs, q = .tup vs
  · obtain ⟨qs, rfl⟩ := hq
    by_cases hp : ∃ ps, p = .tup ps
    · obtain ⟨ps, rfl⟩ := hp
      simp only [coerceV, liveV] at h ⊢
      exact .tup _ _ (coerceAL_wk (fun q hq => noTup_ne (List.all_eq_true.1 hn q hq)) h)
    · by_cases ha : p = .any
      · subst ha; exact .any _
      · have e : coerceV p (.tup qs) = .tup qs := by
          cases p <;> first | exact absurd rfl ha | exact absurd ⟨_, rfl⟩ hp | rfl | skip
          rename_i o k b xss
          cases o <;> rfl
        rw [e] at h ⊢
        exact .same _ h
  · have hq' : ∀ vs, q ≠ .tup vs := fun vs e => hq ⟨vs, e⟩
    cases p
    case tup ps =>
      have e : coerceV (.tup ps) q = q := by cases q <;> first | rfl | exact absurd rfl (hq' _)
      rw [e] at h ⊢
      exact .same _ h
    all_goals (simp only [coerceV] at h ⊢; exact other _ hq' h)
end
end
end PM
/-
  THE PURE MACHINE, Y: states given by what is live in them (JS); joins, loops, guards, calls and results by computation.
-/
namespace PM
open Go Go.RowKit

/-- A state, by its live parts. -/
structure JS where
  tm : List (Nat × PV)
  H : List (Nat × PObj)
  T : List (Nat × (Nat × Nat))
  X : List (Nat × (Nat × Nat × List (List PV)))
def fnOf {α : Type} (l : List (Nat × α)) : Nat → Option α := fun i => l.lookup i
def tmFrom (l : List (Nat × PV)) : Nat → Nat → List PV
  | 0, _ => []
  | n + 1, i => (l.lookup i).getD .any :: tmFrom l n (i + 1)
/-- n: the number of slots, and 100000 for each value that is laid aside. -/
def JS.st (n : Nat) (j : JS) : PSt := ⟨tmFrom j.tm (n % 100000) 0, fnOf j.H, fnOf j.T, fnOf j.X, n / 100000⟩
def liveO (H : Nat → Option PObj) (T : Nat → Option (Nat × Nat)) : PObj → Bool
  | .cells cs => cs.all (live1 H T)
  | .map _ => true
  | .iter _ _ => true
  | .miter _ _ _ _ => true
  | .mapo _ _ _ _ => false
/-- All that is kept is live. -/
def JS.ok (j : JS) : Bool := (j.tm.all fun x => liveV (fnOf j.H) (fnOf j.T) x.2) && (j.H.all fun x => liveO (fnOf j.H) (fnOf j.T) x.2) && (j.X.all fun x => (fnOf j.T x.1).isSome)
/-- What the state says of j's parts. -/
def JS.seen (j : JS) (s : PSt) : (Nat × Nat) × Bool × List PV × List (Option PObj) × List (Option (Nat × Nat)) × List (Option (Nat × Nat × List (List PV))) :=
  ((s.tm.length, s.m), j.tm.all (fun x => noTups (s.tm.getD x.1 .any)), j.tm.map (fun x => coerceV x.2 (s.tm.getD x.1 .any)), j.H.map (fun x => (s.H x.1).map (coerceO x.2)), j.T.map (fun x => s.T x.1), j.X.map fun x => s.X x.1)
def JS.told (n : Nat) (j : JS) : (Nat × Nat) × Bool × List PV × List (Option PObj) × List (Option (Nat × Nat)) × List (Option (Nat × Nat × List (List PV))) :=
  ((n % 100000, n / 100000), true, j.tm.map (·.2), j.H.map (fun x => some x.2), j.T.map (fun x => some x.2), j.X.map fun x => some x.2)

section
variable {P : Program} {Gl : Nat → Option (List PV)} {s : PSt} {n : Nat} {j : JS}
theorem mem_lookup {α : Type} {l : List (Nat × α)} {i : Nat} {x : α} (h : l.lookup i = some x) : (i, x) ∈ l := by
  induction l with
  | nil => cases h
  | cons y l ih =>
    obtain ⟨k, y⟩ := y
    rw [List.lookup_cons] at h
    by_cases e : i == k
    · rw [e] at h; simp at h; have : i = k := by simpa using e
      subst this; subst h; simp
    · simp [e] at h; exact List.mem_cons_of_mem _ (ih h)
theorem tmFrom_length (l : List (Nat × PV)) : ∀ (n i : Nat), (tmFrom l n i).length = n
  | 0, _ => rfl
  | n + 1, i => by simp [tmFrom, tmFrom_length l n]
theorem tmFrom_get (l : List (Nat × PV)) : ∀ (n i k : Nat), k < n → (tmFrom l n i)[k]? = some ((l.lookup (i + k)).getD .any)
  | 0, _, _, h => by omega
  | n + 1, i, 0, _ => by simp [tmFrom]
  | n + 1, i, k + 1, h => by
    simp only [tmFrom, List.getElem?_cons_succ]
    rw [tmFrom_get l n (i + 1) k (by omega), show i + 1 + k = i + (k + 1) by omega]
theorem coerceO_wk {H : Nat → Option PObj} {T : Nat → Option (Nat × Nat)} {p q : PObj} (h : liveO H T (coerceO p q) = true) : WkO H T q (coerceO p q) := by
  have same : ∀ q, liveO H T q = true → WkO H T q q := fun q h => by
    cases q with
    | cells cs => exact .cells _ _ ⟨rfl, fun i x y hx hy => by rw [hx] at hy; cases hy; exact .same _ (List.all_eq_true.1 h x (List.mem_of_getElem? hx))⟩
    | map es => exact .map _
    | iter b pos => exact .iter _ _
    | miter ks vs left cur => exact .miter _ _ _ _
    | mapo es k b tk => cases h
  cases p with
  | cells ps =>
    cases q with
    | cells qs => exact .cells _ _ (coerceL_wk h)
    | map es => exact same _ h
    | iter b pos => exact same _ h
    | miter ks vs left cur => exact same _ h
    | mapo es k b tk => exact same _ h
  | map es => exact same _ h
  | iter b pos => exact same _ h
  | miter ks vs left cur => exact same _ h
  | mapo es k b tk => exact same _ h
theorem map_told {α β : Type} {f g : α → β} : ∀ {l : List α}, l.map f = l.map g → ∀ x ∈ l, f x = g x
  | [], _, x, hx => by cases hx
  | y :: l, h, x, hx => by
    simp only [List.map_cons, List.cons.injEq] at h
    rcases List.mem_cons.1 hx with rfl | hx
    · exact h.1
    · exact map_told h.2 x hx
theorem JS.weaker (hok : j.ok = true) (h : j.seen s = j.told n) : Weaker s (j.st n) := by
  simp only [JS.seen, JS.told, Prod.mk.injEq] at h
  obtain ⟨h1, h2, h3, h4, h5, h6'⟩ := h
  simp only [JS.ok, Bool.and_eq_true] at hok
  obtain ⟨hok, hokX⟩ := hok
  have hn1 : n % 100000 = s.tm.length := h1.1.symm
  have hn2 : n / 100000 = s.m := h1.2.symm
  refine ⟨⟨by simp [JS.st, tmFrom_length, hn1], fun i q p hq hp => ?_⟩, fun l ob' hob => ?_, fun t x hx => ?_, fun t x hx => ⟨map_told h6' _ (mem_lookup hx), List.all_eq_true.1 hokX _ (mem_lookup hx)⟩, hn2⟩
  · have hi : i < n % 100000 := by rw [hn1]; exact (List.getElem?_eq_some_iff.1 hq).1
    simp only [JS.st] at hp
    rw [tmFrom_get _ _ _ _ hi, Nat.zero_add] at hp
    cases hl : j.tm.lookup i with
    | none => rw [hl] at hp; cases hp; exact .any _
    | some p' =>
      rw [hl] at hp
      have hpp : p' = p := by simpa using hp
      subst hpp
      have hm := mem_lookup hl
      have e := map_told h3 _ hm
      have hg : s.tm.getD i .any = q := by rw [List.getD_eq_getElem?_getD, hq]; rfl
      simp only [hg] at e
      have hn := List.all_eq_true.1 h2 _ hm
      have hlive := List.all_eq_true.1 hok.1 _ hm
      simp only [hg] at hn
      have := coerceV_wk (p := p') (q := q) (H := fnOf j.H) (T := fnOf j.T) hn (by rw [e]; exact hlive)
      rwa [e] at this
  · have hm := mem_lookup hob
    have e := map_told h4 _ hm
    obtain ⟨ob, h6, h7⟩ := Option.map_eq_some_iff.1 e
    refine ⟨ob, h6, ?_⟩
    have := coerceO_wk (p := ob') (q := ob) (H := fnOf j.H) (T := fnOf j.T) (by rw [h7]; exact List.all_eq_true.1 hok.2 _ hm)
    rwa [h7] at this
  · exact map_told h5 _ (mem_lookup hx)
/-- Behind this point, only j is known. -/
theorem r_weak {c : Code} {Q : Exit → PSt → Prop} (j : JS) (n : Nat) (hok : j.ok = true) (h : j.seen s = j.told n) (hp : pwp P Gl c Q (j.st n)) : pwp P Gl c Q s := pwp_weak (JS.weaker hok h) hp

/-! ### Structure -/
section
variable {Q : Exit → PSt → Prop} {x y : Code} {id k : Nat}
theorem q_next (h : pwp P Gl y Q s) : seqQ P Gl y Q .normal s := h
theorem q_seq_exit (h : Q (.exit k) s) : seqQ P Gl y Q (.exit k) s := h
theorem q_seq_ret (h : Q .ret s) : seqQ P Gl y Q .ret s := h
theorem q_block (h : Q .normal s) : blockQ id Q .normal s := h
theorem q_block_ret (h : Q .ret s) : blockQ id Q .ret s := h
theorem q_block_hit (h : Q .normal s) : blockQ id Q (.exit id) s := by simpa [blockQ] using h
theorem q_block_miss (hk : (k == id) = false) (h : Q (.exit k) s) : blockQ id Q (.exit k) s := by
  have : k ≠ id := by simpa using hk
  simpa [blockQ, this] using h
theorem r_cond_t {c : Operand} {b : Bool} (hb : b = true) (h : s.ev c = .bool b) (hp : pwp P Gl x Q s) : pwp P Gl (.cond c x y) Q s := pwp_cond h (fun _ => hp) (fun e => by rw [hb] at e; cases e)
theorem r_cond_f {c : Operand} {b : Bool} (hb : b = false) (h : s.ev c = .bool b) (hp : pwp P Gl y Q s) : pwp P Gl (.cond c x y) Q s := pwp_cond h (fun e => by rw [hb] at e; cases e) (fun _ => hp)
end

/-! ### Guards -/
section
variable {d : Bool} {L : List (Oper × Gd)} {Q : PSt → Prop}
/-- A choice by a condition that is known. -/
def sop (t : Nat) (b : Bool) (o : Oper) : Oper :=
  match o.op with
  | .pick (.tmp t') x y => if t' == t then { o with op := .move (if b = true then x else y) } else o
  | _ => o
theorem sop_dst (t : Nat) (b : Bool) (o : Oper) : (sop t b o).dst = o.dst := by
  unfold sop; split
  · split <;> rfl
  · rfl
theorem sop_step {t : Nat} {b : Bool} {o : Oper} {K : PSt → Prop} (hg : s.get t = .bool b) (h : stepO P Gl d (sop t b o) s K) : stepO P Gl d o s K := by
  unfold sop at h
  split at h
  · rename_i t' x y hop
    split at h
    · rename_i ht
      have ht : t' = t := by simpa using ht
      subst ht
      simp only [stepO, callOf, evO, memOp, Bool.false_eq_true, if_false, ev1] at h
      simp only [stepO, hop, callOf, evO, memOp, Bool.false_eq_true, if_false, ev1]
      have : s.ev (.tmp t') = .bool b := hg
      rw [this]
      cases b <;> simpa using h
    · exact h
  · exact h
theorem sop_eq {t : Nat} {b : Bool} {o : Oper} (h : isMove (sop t b o).op = false) : sop t b o = o := by
  unfold sop at h ⊢
  split
  · rename_i t' x y hop
    split
    · rename_i ht
      simp only [hop] at h
      rw [if_pos ht] at h
      simp [isMove] at h
    · rfl
  · rfl
def settle (t : Nat) (b : Bool) : List (Oper × Gd) → List (Oper × Gd)
  | [] => []
  | (o, .slot t' w) :: r => (sop t b o, if t' == t then (if b == w then .always else .never) else .slot t' w) :: settle t b r
  | (o, .always) :: r => (sop t b o, .always) :: settle t b r
  | (o, .never) :: r => (sop t b o, .never) :: settle t b r
  | (o, .bad) :: r => (sop t b o, .bad) :: settle t b r
def spares (t : Nat) : List (Oper × Gd) → Bool
  | [] => true
  | (o, _) :: r => (o.dst != some t) && spares t r
theorem get_put_ne {t : Nat} {dst : Option Nat} {v : PV} (h : (dst != some t) = true) : (s.put dst v).get t = s.get t := by
  cases dst with
  | none => rfl
  | some i =>
    have hit : i ≠ t := by simpa using h
    by_cases hi : i + s.m < s.tm.length
    · rw [s.put_in v hi]
      by_cases ht : t + s.m < s.tm.length
      · rw [PSt.get_in s ht, PSt.get_in _ (by simpa using ht), List.getD_eq_getElem?_getD, List.getD_eq_getElem?_getD, List.getElem?_set_ne hit]
      · rw [PSt.get_out s ht, PSt.get_out _ (by simpa using ht)]
    · rw [s.put_out v hi]
theorem addToks_tm (d : Nat) : ∀ (l : List (Nat × (Nat × Nat))) (s : PSt), (addToks d s l).tm = s.tm
  | [], s => rfl
  | (t, x) :: r, s => by simp only [addToks]; rw [addToks_tm d r]
theorem addToks_m (d : Nat) : ∀ (l : List (Nat × (Nat × Nat))) (s : PSt), (addToks d s l).m = s.m
  | [], s => rfl
  | (t, x) :: r, s => by simp only [addToks]; rw [addToks_m d r]
theorem settle_sound {t : Nat} {b : Bool} : ∀ (L : List (Oper × Gd)) (s : PSt), spares t L = true → s.get t = .bool b → pops P Gl d (settle t b L) s Q → pops P Gl d L s Q
  | [], s, _, _, h => h
  | (o, g) :: r, s, hs, hg, h => by
    simp only [spares, Bool.and_eq_true] at hs
    have rest : ∀ v, pops P Gl d (settle t b r) (s.put o.dst v) Q → pops P Gl d r (s.put o.dst v) Q := fun v h => settle_sound r _ hs.2 ((get_put_ne hs.1).trans hg) h
    have step : stepOp P Gl d (sop t b o) s (fun s' => pops P Gl d (settle t b r) s' Q) → stepOp P Gl d o s (fun s' => pops P Gl d r s' Q) := by
      rintro (h | ⟨d1, d2, C, n, v, h1, h2⟩)
      rotate_left
      · have e := sop_eq d2
        rw [e] at d2 h1 h2
        refine .inr ⟨d1, d2, C, n, v, h1, fun x hx => settle_sound r _ hs.2 ?_ (h2 x hx)⟩
        rw [get_put_ne hs.1]
        exact hg
      refine .inl ?_
      have h := sop_step hg h
      revert h
      unfold stepO
      split
      · rintro (⟨f, caps, as, rr, e1, e2, e3, e4, e5, e6, e7⟩ | ⟨f, caps, as, rr, ts, eqs, e1, e2, e3, e4, e5, e6, e7, e8⟩)
        · refine .inl ⟨f, caps, as, rr, e1, e2, e3, e4, e5, e6, settle_sound r _ hs.2 ?_ e7⟩
          rw [get_put_ne hs.1]
          rw [← hg]; unfold PSt.get; rw [addToks_tm, addToks_m]
        · refine .inr ⟨f, caps, as, rr, ts, eqs, e1, e2, e3, e4, e5, e6, e7, settle_sound r _ hs.2 ?_ e8⟩
          rw [get_put_ne hs.1]; exact hg
      · rintro ⟨x, e1, e2⟩
        refine ⟨x, e1, settle_sound r _ hs.2 ?_ e2⟩
        rw [get_put_ne hs.1]
        rw [← hg]; cases x.2 <;> rfl
    cases g with
    | always => simp only [settle, pops, gdStep] at h ⊢; exact step h
    | never => simp only [settle, pops, gdStep, sop_dst] at h ⊢; exact rest _ h
    | bad => simp only [settle, pops, gdStep] at h
    | slot t' w =>
      simp only [settle] at h
      by_cases ht : t' = t
      · subst ht
        simp only [beq_self_eq_true, if_true] at h
        simp only [pops, gdStep, hg]
        by_cases hw : b = w
        · subst hw
          simp only [beq_self_eq_true, if_true, pops, gdStep] at h
          exact ⟨fun _ => step h, fun e => by cases b <;> cases e⟩
        · rw [if_neg (by simpa using hw)] at h
          simp only [pops, gdStep, sop_dst] at h
          exact ⟨fun e => absurd e hw, fun _ => rest _ h⟩
      · rw [if_neg (by simpa using ht)] at h
        simp only [pops, gdStep, sop_dst] at h ⊢
        split
        · rename_i b' hb'
          simp only [hb'] at h
          exact ⟨fun e => step (h.1 e), fun e => rest _ (h.2 e)⟩
        · rename_i hu
          simp only [hu] at h
          exact rest _ h
        · rename_i hne hnu
          split at h
          · rename_i b' hb'; exact absurd hb' (hne _)
          · rename_i hu; exact absurd hu hnu
          · exact h
/-- A guard's condition is known. -/
theorem p_settle {b c : Bool} (t : Nat) (hb : b = c) (hg : s.get t = .bool b) (hs : spares t L = true) (h : pops P Gl d (settle t c L) s Q) : pops P Gl d L s Q := by
  subst hb; exact settle_sound L s hs hg h
/-- The first m operations end in a state of which only this is kept: the slots that they write are forgotten, but for one. -/
def wipe : List (Oper × Gd) → PSt → PSt
  | [], s => s
  | (o, _) :: r, s => wipe r (s.put o.dst .any)
theorem pops_append : ∀ (l1 l2 : List (Oper × Gd)) (s : PSt), pops P Gl d l1 s (fun s' => pops P Gl d l2 s' Q) → pops P Gl d (l1 ++ l2) s Q
  | [], l2, s, h => h
  | (o, g) :: r, l2, s, h => by
    simp only [List.cons_append, pops] at h ⊢
    have step : stepOp P Gl d o s (fun s' => pops P Gl d r s' fun s' => pops P Gl d l2 s' Q) → stepOp P Gl d o s (fun s' => pops P Gl d (r ++ l2) s' Q) := by
      rintro (h | ⟨d1, d2, C, n, v, h1, h2⟩)
      rotate_left
      · exact .inr ⟨d1, d2, C, n, v, h1, fun x hx => pops_append r l2 _ (h2 x hx)⟩
      refine .inl ?_
      revert h
      unfold stepO
      split
      · rintro (⟨f, caps, as, rr, e1, e2, e3, e4, e5, e6, e7⟩ | ⟨f, caps, as, rr, ts, eqs, e1, e2, e3, e4, e5, e6, e7, e8⟩)
        · exact .inl ⟨f, caps, as, rr, e1, e2, e3, e4, e5, e6, pops_append r l2 _ e7⟩
        · exact .inr ⟨f, caps, as, rr, ts, eqs, e1, e2, e3, e4, e5, e6, e7, pops_append r l2 _ e8⟩
      · rintro ⟨x, e1, e2⟩
        exact ⟨x, e1, pops_append r l2 _ e2⟩
    have rest := pops_append r l2 (s.put o.dst (.tup []))
    cases g with
    | always => exact step h
    | never => exact rest h
    | bad => exact h
    | slot t w =>
      simp only [gdStep] at h ⊢
      split at h
      · exact ⟨fun e => step (h.1 e), fun e => rest (h.2 e)⟩
      · exact rest h
      · exact h.elim
end
end
end PM
/-
  THE PURE MACHINE, Z: what is worked out with less known stays true with more known (Fade).
-/
namespace PM
open Go Go.RowKit

section
variable {P : Program} {Gl : Nat → Option (List PV)} {H : Nat → Option PObj} {T : Nat → Option (Nat × Nat)} {X : XT} {ρ ρ' : Operand → PV}
theorem map_fade {α : Type} (h : ∀ x, ρ x = ρ' x ∨ ρ x = .any) : ∀ (l : List (α × Operand)), l.map (fun x => (x.1, ρ x.2)) = l.map (fun x => (x.1, ρ' x.2)) ∨ ∃ x ∈ l.map (fun x => (x.1, ρ x.2)), x.2 = .any
  | [] => .inl rfl
  | y :: l => by
    rcases h y.2 with e | e
    · rcases map_fade h l with e' | ⟨z, hz, hz'⟩
      · exact .inl (by simp [e, e'])
      · exact .inr ⟨z, by simp only [List.map_cons, List.mem_cons]; exact .inr hz, hz'⟩
    · exact .inr ⟨(y.1, ρ y.2), by simp, e⟩
theorem map_fade1 (h : ∀ x, ρ x = ρ' x ∨ ρ x = .any) : ∀ (l : List Operand), l.map ρ = l.map ρ' ∨ .any ∈ l.map ρ
  | [] => .inl rfl
  | y :: l => by
    rcases h y with e | e
    · rcases map_fade1 h l with e' | e'
      · exact .inl (by simp [e, e'])
      · exact .inr (by simp only [List.map_cons, List.mem_cons]; exact .inr e')
    · exact .inr (by simp [e])
theorem pfill_any {pl : List (Nat × Nat)} : ∀ {ps : List (Nat × PV)} {cs : List PV}, (∃ x ∈ ps, x.2 = .any) → pfill pl ps cs = none
  | [], _, h => by obtain ⟨x, hx, _⟩ := h; cases hx
  | (i, p) :: ps, cs, h => by
    obtain ⟨x, hx, hxa⟩ := h
    simp only [pfill]
    split
    · split
      · rename_i hc
        rcases List.mem_cons.1 hx with rfl | hx
        · simp only at hxa; subst hxa
          exact absurd hc.2.2 (by simp [PV.cells, pfill.PV.okCell, PV.one])
        · exact pfill_any ⟨x, hx, hxa⟩
      · rfl
    · rfl
theorem elemsOf_any {k : Nat} : ∀ {ps : List (Nat × PV)} {j : Nat}, (∃ x ∈ ps, x.2 = .any) → elemsOf k ps j = none
  | [], _, h => by obtain ⟨x, hx, _⟩ := h; cases hx
  | (i, p) :: ps, j, h => by
    obtain ⟨x, hx, hxa⟩ := h
    simp only [elemsOf]
    split
    · rcases List.mem_cons.1 hx with rfl | hx
      · simp only at hxa; subst hxa
        simp [PV.cells, datumL, datum1]
      · rw [elemsOf_any ⟨x, hx, hxa⟩]
        split <;> simp_all
    · rfl
theorem datumAs_any : ∀ {ps : List PV}, .any ∈ ps → datumAs ps = none
  | p :: ps, h => by
    simp only [datumAs]
    rcases List.mem_cons.1 h with rfl | h
    · simp [datumA, datum1]
    · rw [datumAs_any h]
      split <;> simp_all
theorem evBin_any1 {op : BinOp} {t : TypeId} {q : PV} : evBin P op t .any q = none := by unfold evBin; rfl
theorem evBin_any2 {op : BinOp} {t : TypeId} {p : PV} : evBin P op t p .any = none := by unfold evBin; cases p <;> rfl
theorem bnd_any {n : Nat} : bnd (some .any) n = none := rfl
theorem opt_fade (h : ∀ x, ρ x = ρ' x ∨ ρ x = .any) (x : Option Operand) : x.map ρ = x.map ρ' ∨ x.map ρ = some .any := by
  cases x with
  | none => exact .inl rfl
  | some x => exact (h x).imp (fun e => by simp [e]) (fun e => by simp [e])
theorem evSlice_any {t : TypeId} {lo hi mx : Option PV} {p : PV} (h : lo = some .any ∨ hi = some .any ∨ mx = some .any ∨ p = .any) (hne : evSlice P t lo hi mx p ≠ none) (hstr : mx = some .any → ∀ s, p ≠ .str s) : False := by
  apply hne
  unfold evSlice
  cases p
  case lst o k b xss =>
    rcases h with rfl | rfl | rfl | h
    · simp only [bnd_any]; split <;> simp_all
    · simp only [bnd_any]; split <;> simp_all
    · simp only [bnd_any]; split <;> simp_all
    · cases h
  case nil =>
    rcases h with rfl | rfl | rfl | h
    · simp only [bnd_any]; split <;> simp_all
    · simp only [bnd_any]; split <;> simp_all
    · simp only [bnd_any]; split <;> simp_all
    · cases h
  case str s =>
    rcases h with rfl | rfl | h | h
    · simp only [bnd_any]
    · simp only [bnd_any]; split <;> simp_all
    · exact absurd rfl (hstr h s)
    · cases h
  case sl l o len k b =>
    rcases h with rfl | rfl | rfl | h
    · simp only [bnd_any]; split <;> simp_all
    · simp only [bnd_any]; split <;> simp_all
    · show (match elemK P t, bnd lo 0, bnd hi len with
        | some (_, _, k', _), some a, some h => if k' = k ∧ a ≤ h ∧ h ≤ len ∧ (some PV.any : Option PV) = none then some (PV.sl l (o + a) (h - a) k b) else none
        | _, _, _ => none) = none
      split
      · rw [if_neg (by simp)]
      · rfl
    · cases h
  case ex l k b N o len =>
    rcases h with rfl | rfl | rfl | h
    · simp only [bnd_any]; split <;> simp_all
    · simp only [bnd_any]; split <;> simp_all
    · show (match elemK P t, bnd lo 0, bnd hi len with
        | some (_, _, k', _), some a, some h => if k' = k ∧ a ≤ h ∧ h ≤ len ∧ (some PV.any : Option PV) = none then some (PV.ex l k b N (o + a) (h - a)) else none
        | _, _, _ => none) = none
      split
      · rw [if_neg (by simp)]
      · rfl
    · cases h
  all_goals rfl
theorem evIndexAddr_any1 {t : TypeId} {i : PV} : evIndexAddr P t .any i = none := by cases i <;> rfl
theorem evIndexAddr_any2 {t : TypeId} {p : PV} : evIndexAddr P t p .any = none := by cases p <;> rfl
theorem evIndex_any1 {t : TypeId} {i : PV} : evIndex P t .any i = none := by cases i <;> rfl
theorem evIndex_any2 {t : TypeId} {p : PV} : evIndex P t p .any = none := by cases p <;> rfl
theorem evMinMax_any1 {m : Bool} {q : PV} : evMinMax m .any q = none := by cases q <;> rfl
theorem evMinMax_any2 {m : Bool} {p : PV} : evMinMax m p .any = none := by cases p <;> rfl
theorem evAppend_any {dst : Option Nat} {t t' : TypeId} {x y : PV} (h : x = .any ∨ y = .any) : evAppend P dst T t t' x y = none := by
  unfold evAppend
  split
  · rcases h with rfl | rfl
    · split <;> rfl
    · rfl
  · rfl
theorem keyD_any (d : TypeDesc) : keyD d .any = false := by cases d <;> rfl
theorem evLookup_any {t : TypeId} {es : List (PV × PV)} {ok : Bool} : evLookup P t es .any ok = none := by
  unfold evLookup
  split
  · rw [if_neg (by rw [keyD_any]; exact Bool.false_ne_true)]
  · rfl
theorem evLookupO_any {t : TypeId} {es : List (PV × List (List PV))} {k b : Nat} {tk : Nat → Nat} {ok : Bool} : evLookupO P t es k b tk .any ok = none := by
  unfold evLookupO
  split
  · rw [if_neg (by rw [keyD_any]; exact Bool.false_ne_true)]
  · rfl
theorem evUpdO_any {d : TypeDesc} {l : Nat} {es : List (PV × List (List PV))} {k b : Nat} {tk : Nat → Nat} {x : PV} : evUpdO d l es k b tk .any x = none := by
  unfold evUpdO
  split
  · rw [if_neg (by rw [keyD_any]; simp)]
  · rfl
theorem ev1_fade (h : ∀ x, ρ x = ρ' x ∨ ρ x = .any) {op : Op} {v : PV} (he : ev1 P Gl op ρ H X = some v) : ∃ v', ev1 P Gl op ρ' H X = some v' ∧ (v = v' ∨ v = .any) := by
  cases op <;> simp only [ev1] at he ⊢ <;> try cases he
  case move.refl x => exact ⟨_, rfl, h x⟩
  case assign.refl x => exact ⟨_, rfl, h x⟩
  case pick c x y =>
    rcases h c with e | e
    · rw [← e]
      split at he
      · cases he
        refine ⟨_, rfl, ?_⟩
        split
        · exact h x
        · exact h y
      · cases he
    · rw [e] at he; cases he
  case lookup t x k ok =>
    rcases h x with e | e
    · rcases h k with e' | e'
      · rw [← e, ← e']; exact ⟨v, he, .inl rfl⟩
      · rw [e'] at he
        split at he
        · split at he
          · rw [evLookup_any] at he; cases he
          · rw [evLookupO_any] at he; cases he
          · cases he
        · rw [evLookup_any] at he; cases he
        · cases he
    · rw [e] at he; cases he
  case nilCheck x =>
    rcases h x with e | e
    · rw [← e]; exact ⟨v, he, .inl rfl⟩
    · rw [e] at he; cases he
  case binOp op t x y u =>
    rcases h x with e | e
    · rcases h y with e' | e'
      · rw [← e, ← e']; exact ⟨v, he, .inl rfl⟩
      · rw [e', evBin_any2] at he; cases he
    · rw [e, evBin_any1] at he; cases he
  case unOp op t x =>
    rcases h x with e | e
    · rw [← e]; exact ⟨v, he, .inl rfl⟩
    · rw [e] at he; cases he
  case convert src dst x =>
    rcases h x with e | e
    · rw [← e]; exact ⟨v, he, .inl rfl⟩
    · rw [e] at he; cases he
  case fieldAddr t x f =>
    rcases h x with e | e
    · rw [← e]; exact ⟨v, he, .inl rfl⟩
    · rw [e] at he; cases he
  case field t x f =>
    rcases h x with e | e
    · rw [← e]; exact ⟨v, he, .inl rfl⟩
    · rw [e] at he; cases he
  case indexAddr t x i =>
    rcases h x with e | e
    · rcases h i with e' | e'
      · rw [← e, ← e']; exact ⟨v, he, .inl rfl⟩
      · rw [e', evIndexAddr_any2] at he; cases he
    · rw [e, evIndexAddr_any1] at he; cases he
  case index t x i =>
    rcases h x with e | e
    · rcases h i with e' | e'
      · rw [← e, ← e']; exact ⟨v, he, .inl rfl⟩
      · rw [e', evIndex_any2] at he; cases he
    · rw [e, evIndex_any1] at he; cases he
  case load t x =>
    rcases h x with e | e
    · rw [← e]; exact ⟨v, he, .inl rfl⟩
    · rw [e] at he; cases he
  case extract x i =>
    rcases h x with e | e
    · rw [← e]; exact ⟨v, he, .inl rfl⟩
    · rw [e] at he; cases he
  case slice t x lo hi mx =>
    have nope : ∀ {q}, evSlice P t (lo.map ρ) (hi.map ρ) (mx.map ρ) (ρ x) = some q → (lo.map ρ = some .any ∨ hi.map ρ = some .any ∨ mx.map ρ = some .any ∨ ρ x = .any) → False := fun {q} hq hc => by
      refine evSlice_any hc (by rw [hq]; simp) fun hm s hs => ?_
      rw [hs, hm] at hq
      simp only [evSlice] at hq
      split at hq
      · simp at hq
      · cases hq
    rcases opt_fade h lo with e1 | e1
    · rcases opt_fade h hi with e2 | e2
      · rcases opt_fade h mx with e3 | e3
        · rcases h x with e4 | e4
          · rw [← e1, ← e2, ← e3, ← e4]; exact ⟨v, he, .inl rfl⟩
          · exact (nope he (.inr (.inr (.inr e4)))).elim
        · exact (nope he (.inr (.inr (.inl e3)))).elim
      · exact (nope he (.inr (.inl e2))).elim
    · exact (nope he (.inl e1)).elim
  case build t parts =>
    rcases map_fade h parts.toList with e | e
    · rw [← e]; exact ⟨v, he, .inl rfl⟩
    · exfalso
      unfold evBuild at he
      split at he
      · rw [pfill_any e] at he; cases he
      · rename_i h1 h2 h3 h4
        obtain ⟨i, hi, _⟩ := e
        rw [h3] at hi
        exact absurd hi (by simp)
      · cases he
  case makeFunc fn first caps =>
    cases fn <;> simp only at he ⊢ <;> try cases he
    rcases map_fade1 h caps.toList with e | e
    · rw [← e]; exact ⟨v, he, .inl rfl⟩
    · exfalso
      split at he
      · rename_i hc
        have := List.all_eq_true.1 hc.2 _ e
        cases this
      · cases he
  case call c =>
    split at he
    · rename_i x t h1 h2 h3
      rcases h x with e | e
      · rw [← e]; exact ⟨v, he, .inl rfl⟩
      · rw [e] at he; cases he
    · rename_i x y h1 h2
      rcases h x with e | e
      · rcases h y with e' | e'
        · rw [← e, ← e']; exact ⟨v, he, .inl rfl⟩
        · rw [e', evMinMax_any2] at he; cases he
      · rw [e, evMinMax_any1] at he; cases he
    · rename_i x y h1 h2
      rcases h x with e | e
      · rcases h y with e' | e'
        · rw [← e, ← e']; exact ⟨v, he, .inl rfl⟩
        · rw [e', evMinMax_any2] at he; cases he
      · rw [e, evMinMax_any1] at he; cases he
    · cases he
theorem evE_fade (h : ∀ x, ρ x = ρ' x ∨ ρ x = .any) {dst : Option Nat} {op : Op} {v : PV × Eff} (he : evE P dst op ρ H T X = some v) : evE P dst op ρ' H T X = some v := by
  cases op <;> simp only [evE] at he ⊢ <;> try cases he
  case alloc t => exact he
  case box t x =>
    rcases h x with e | e
    · rw [← e]; exact he
    · rw [e] at he
      split at he
      · simp [boxOK, PV.one] at he
      · cases he
  case store t x y =>
    rcases h x with e | e
    · rcases h y with e' | e'
      · rw [← e, ← e']; exact he
      · rw [e'] at he
        split at he
        · split at he
          · simp [boxOK, PV.one] at he
          · cases he
        · split at he
          · simp [boxOK, PV.one] at he
          · cases he
        · cases he
    · rw [e] at he; cases he
  case buildSlice t n parts =>
    rcases map_fade h parts.toList with e | e
    · rw [← e]; exact he
    · rw [elemsOf_any e] at he
      split at he
      · rename_i h2; cases h2
      · cases he
  case makeMap t r => exact he
  case makeSlice t n c =>
    rcases h n with e | e
    · rcases h c with e' | e'
      · rw [← e, ← e']; exact he
      · rw [e'] at he
        split at he
        · rename_i h4; cases h4
        · cases he
    · rw [e] at he
      split at he
      · rename_i h3 _; cases h3
      · cases he
  case mapUpdate t m k x =>
    rcases h m with e | e
    · rcases h k with e' | e'
      · rcases h x with e2 | e2
        · rw [← e, ← e', ← e2]; exact he
        · rw [e2] at he
          split at he
          · split at he
            · rename_i h3; cases h3
            · rename_i h3; cases h3
            · cases he
          · cases he
      · rw [e'] at he
        split at he
        · split at he
          · rw [if_neg (by rw [keyD_any]; simp)] at he; cases he
          · rw [evUpdO_any] at he; cases he
          · cases he
        · cases he
    · rw [e] at he; cases he
  case call c =>
    split at he
    · rename_i x y t t' h1 h2 h3
      rcases h x with e | e
      · rcases h y with e' | e'
        · rw [← e, ← e']; exact he
        · rw [evAppend_any (.inr e')] at he; cases he
      · rw [evAppend_any (.inl e)] at he; cases he
    · cases he
theorem evO_fade (h : ∀ x, ρ x = ρ' x ∨ ρ x = .any) {dst : Option Nat} {op : Op} {v : PV × Eff} (he : evO P Gl dst op ρ H T X = some v) : ∃ v', evO P Gl dst op ρ' H T X = some (v', v.2) ∧ (v.1 = v' ∨ v.1 = .any) := by
  unfold evO at he ⊢
  split at he
  · rename_i hm
    rw [if_pos hm]
    exact ⟨v.1, evE_fade h he, .inl rfl⟩
  · rename_i hm
    rw [if_neg hm]
    obtain ⟨u, h1, rfl⟩ := Option.map_eq_some_iff.1 he
    obtain ⟨v', h2, h3⟩ := ev1_fade h h1
    exact ⟨v', by rw [h2]; rfl, h3⟩
end

theorem bdAs_any {ts : List Nat} {s : PSt} : ∀ {ps : List PV}, PV.any ∈ ps → bdAs ts s ps = none
  | [], h => by cases h
  | p :: ps, h => by
    rcases List.mem_cons.1 h with rfl | h
    · simp [bdAs, bdA, bd1, datum1]
    · rw [bdAs, bdAs_any h]
      cases bdA ts s p <;> rfl
theorem bd1_congr (ts : List Nat) {s s' : PSt} (h : ∀ t, t ∈ ts → s'.X t = s.X t ∧ s'.T t = s.T t) (p : PV) : bd1 ts s' p = bd1 ts s p := by
  cases p
  case ex t k b N o n =>
    simp only [bd1]
    cases hc : ts.contains t with
    | false => rfl
    | true =>
      obtain ⟨h1, h2⟩ := h t (by simpa using hc)
      rw [h1, h2]
  all_goals rfl
theorem bdL_congr (ts : List Nat) {s s' : PSt} (h : ∀ t, t ∈ ts → s'.X t = s.X t ∧ s'.T t = s.T t) : ∀ ps : List PV, bdL ts s' ps = bdL ts s ps
  | [] => rfl
  | p :: ps => by rw [bdL, bdL, bd1_congr ts h, bdL_congr ts h ps]
theorem bdA_congr (ts : List Nat) {s s' : PSt} (h : ∀ t, t ∈ ts → s'.X t = s.X t ∧ s'.T t = s.T t) (p : PV) : bdA ts s' p = bdA ts s p := by
  cases p
  case agg cs => simp only [bdA]; rw [bdL_congr ts h]
  all_goals
    simp only [bdA]
    exact bd1_congr ts h _
theorem bdAs_congr' (ts : List Nat) {s s' : PSt} (h : ∀ t, t ∈ ts → s'.X t = s.X t ∧ s'.T t = s.T t) : ∀ ps : List PV, bdAs ts s' ps = bdAs ts s ps
  | [] => rfl
  | p :: ps => by rw [bdAs, bdAs, bdA_congr ts h, bdAs_congr' ts h ps]
theorem bdAs_congr (ts : List Nat) {s s' : PSt} (hT : s.T = s'.T) (hX : s.X = s'.X) (ps : List PV) : bdAs ts s ps = bdAs ts s' ps := (bdAs_congr' ts (fun _ _ => ⟨by rw [hX], by rw [hT]⟩) ps).symm
/-- Some slots are forgotten. -/
structure Fade (s s1 : PSt) : Prop where
  H : s.H = s1.H
  T : s.T = s1.T
  X : s.X = s1.X
  tm : All2 (fun q p => p = q ∨ p = .any) s.tm s1.tm
  m : s.m = s1.m
/-- So it is, but for slots that are forgotten. -/
def Up (Q : PSt → Prop) (s : PSt) : Prop := ∃ s1, Fade s s1 ∧ Q s1
section
variable {P : Program} {Gl : Nat → Option (List PV)} {s s1 s2 : PSt} {Q : PSt → Prop} {d : Bool} {L : List (Oper × Gd)}
theorem Fade.refl (s : PSt) : Fade s s := ⟨rfl, rfl, rfl, ⟨rfl, fun i x y hx hy => by rw [hx] at hy; cases hy; exact .inl rfl⟩, rfl⟩
theorem Fade.trans (h : Fade s s1) (h' : Fade s1 s2) : Fade s s2 := by
  refine ⟨h.H.trans h'.H, h.T.trans h'.T, h.X.trans h'.X, ⟨h.tm.1.trans h'.tm.1, fun i x z hx hz => ?_⟩, h.m.trans h'.m⟩
  obtain ⟨y, hy, hyz⟩ := h'.tm.left hz
  rcases hyz with rfl | rfl
  · exact h.tm.2 i x _ hx hy
  · exact .inr rfl
theorem Up.intro (h : Q s) : Up Q s := ⟨s, Fade.refl s, h⟩
theorem Up.fade (hf : Fade s s1) (h : Up Q s1) : Up Q s := let ⟨s2, h1, h2⟩ := h; ⟨s2, hf.trans h1, h2⟩
theorem Fade.get (hf : Fade s s1) (i : Nat) : s1.get i = s.get i ∨ s1.get i = .any := by
  have hl := hf.tm.1
  have hm := hf.m
  by_cases hi : i + s.m < s.tm.length
  · rw [s.get_in hi, s1.get_in (by omega)]
    have := hf.tm.2 i s.tm[i] s1.tm[i] (List.getElem?_eq_getElem (by omega)) (List.getElem?_eq_getElem (by omega))
    rw [List.getD_eq_getElem?_getD, List.getD_eq_getElem?_getD, List.getElem?_eq_getElem (show i < s.tm.length by omega), List.getElem?_eq_getElem (show i < s1.tm.length by omega)]
    simpa using this
  · right
    exact s1.get_out (by omega)
theorem Fade.ev (hf : Fade s s1) (x : Operand) : s1.ev x = s.ev x ∨ s1.ev x = .any := by
  cases x with
  | tmp t => exact hf.get t
  | const v => exact .inl rfl
  | global g => exact .inl rfl
  | func f => exact .inl rfl
theorem Fade.put (hf : Fade s s1) (dst : Option Nat) {p q : PV} (h : p = q ∨ p = .any) : Fade (s.put dst q) (s1.put dst p) := by
  cases dst with
  | none => exact hf
  | some i =>
    have hl := hf.tm.1
    have hm := hf.m
    by_cases hi : i + s.m < s.tm.length
    · rw [s.put_in q hi, s1.put_in p (by omega)]
      refine ⟨hf.H, hf.T, hf.X, ⟨by simpa using hl, fun j x y hx hy => ?_⟩, hm⟩
      simp only [List.getElem?_set] at hx hy
      by_cases hij : i = j
      · rw [if_pos hij] at hx hy
        split at hx
        · split at hy
          · cases hx; cases hy; exact h
          · cases hy
        · cases hx
      · rw [if_neg hij] at hx hy; exact hf.tm.2 j x y hx hy
    · rw [s.put_out q hi, s1.put_out p (by omega)]; exact hf
theorem Fade.eff (hf : Fade s s1) (e : Eff) : Fade (e.app s) (e.app s1) := by
  cases e with
  | none => exact hf
  | obj l ob => exact ⟨by simp [Eff.app, hf.H], hf.T, hf.X, hf.tm, hf.m⟩
  | tok t n k => exact ⟨hf.H, by simp [Eff.app, hf.T], hf.X, hf.tm, hf.m⟩
  | xs t x => exact ⟨hf.H, hf.T, by simp [Eff.app, hf.X], hf.tm, hf.m⟩
theorem Fade.toks (dd : Nat) : ∀ (l : List (Nat × (Nat × Nat))) {s s1 : PSt}, Fade s s1 → Fade (addToks dd s l) (addToks dd s1 l)
  | [], _, _, h => h
  | (t, x) :: r, s, s1, h => Fade.toks dd r ⟨h.H, by simp [h.T], h.X, h.tm, h.m⟩
theorem InvG.fade {S0 : Bs} {w0 : World} {a : Act} {g : GG} (hg : InvG Gl S0 w0 s a g) (hf : Fade s s1) : InvG Gl S0 w0 s1 a g := by
  refine { hg with hH := hg.hH.trans hf.H, hT := hg.hT.trans hf.T, exs := hf.X ▸ hg.exs, exsEx := hf.X ▸ hg.exsEx, len := ⟨by rw [← hf.tm.1, ← hf.m]; exact hg.len.1, by rw [← hf.m]; exact hg.len.2⟩, tm := fun i p v hp hv => ?_ }
  obtain ⟨q, hq, e⟩ := hf.tm.left hp
  rcases e with rfl | rfl
  · exact hg.tm i _ v hq hv
  · exact Rel.any _ _
theorem OpAny.fade {o : Oper} {C : Nat → Prop} {n : Nat → PSt} {v : PV} (h : OpAny P Gl o s1 C n v) (hf : Fade s s1) : OpAny P Gl o s C n v := fun S0 w0 a g K Q hg hK =>
  h S0 w0 a g K Q (hg.fade hf) fun x z g' hx e1 e2 e3 => hK x z g' hx { e1 with len := hg.len, tm := fun i p v hp hv => (hg.tm i p v hp hv).mono e2 } e2 e3
/-- More known: the same can be shown. -/
theorem pops_fade (hQ : ∀ s s1, Fade s s1 → Q s1 → Q s) : ∀ (L : List (Oper × Gd)) {s s1 : PSt}, Fade s s1 → pops P Gl d L s1 Q → pops P Gl d L s Q
  | [], s, s1, hf, h => hQ _ _ hf h
  | (o, g) :: r, s, s1, hf, h => by
    have rest : pops P Gl d r (s1.put o.dst (.tup [])) Q → pops P Gl d r (s.put o.dst (.tup [])) Q := fun h => pops_fade hQ r (hf.put _ (.inl rfl)) h
    have step : stepOp P Gl d o s1 (fun s' => pops P Gl d r s' Q) → stepOp P Gl d o s (fun s' => pops P Gl d r s' Q) := by
      rintro (h | ⟨d1, d2, C, n, v, h1, h2⟩)
      rotate_left
      · refine .inr ⟨d1, d2, C, n, v, h1.fade hf, fun x hx => pops_fade hQ r (Fade.put (s := semNew s (n x)) (s1 := semNew s1 (n x)) ⟨rfl, rfl, rfl, hf.tm, hf.m⟩ _ (.inl rfl)) (h2 x hx)⟩
      refine .inl ?_
      revert h
      unfold stepO
      split
      · rename_i x args hc
        have hx : ∀ {f caps}, s1.ev x = .fn f caps → s.ev x = .fn f caps := fun {f caps} e1 => by
          rcases hf.ev x with e | e
          · rw [← e]; exact e1
          · rw [e] at e1; cases e1
        rintro (⟨f, caps, as, rr, e1, e2, e3, e4, e5, e6, e7⟩ | ⟨f, caps, as, rr, ts, eqs, e1, e2, e3, e4, e5, e6, e7, e8⟩)
        · have hargs : args.map s1.ev = args.map s.ev := by
            rcases map_fade1 hf.ev args with e | e
            · exact e
            · rw [datumAs_any (by simp [e])] at e3; cases e3
          refine .inl ⟨f, caps, as, rr, hx e1, e2, by rw [← hargs]; exact e3, e4, by rw [hf.T]; exact e5, e6, pops_fade hQ r ((Fade.toks _ _ hf).put _ (.inl rfl)) e7⟩
        · have hargs : args.map s1.ev = args.map s.ev := by
            rcases map_fade1 hf.ev args with e | e
            · exact e
            · rw [bdAs_any (by simp [e])] at e3; cases e3
          refine .inr ⟨f, caps, as, rr, ts, eqs, hx e1, e2, by rw [← hargs, bdAs_congr ts hf.T hf.X]; exact e3, e4, e5, e6, e7, pops_fade hQ r (hf.put _ (.inl rfl)) e8⟩
      · rintro ⟨x, e1, e2⟩
        rw [← hf.H, ← hf.T, ← hf.X] at e1
        obtain ⟨v', h1, h2⟩ := evO_fade hf.ev e1
        exact ⟨_, h1, pops_fade hQ r ((hf.eff _).put _ h2) e2⟩
    simp only [pops] at h ⊢
    cases g with
    | always => exact step h
    | never => exact rest h
    | bad => exact h
    | slot t w =>
      simp only [gdStep] at h ⊢
      rcases hf.get t with e | e
      · rw [← e]
        split at h
        · exact ⟨fun e => step (h.1 e), fun e => rest (h.2 e)⟩
        · exact rest h
        · exact h.elim
      · rw [e] at h; exact h.elim
theorem pops_mono {Q Q' : PSt → Prop} (hQ : ∀ s, Q s → Q' s) : ∀ (L : List (Oper × Gd)) (s : PSt), pops P Gl d L s Q → pops P Gl d L s Q'
  | [], s, h => hQ _ h
  | (o, g) :: r, s, h => by
    have rest := pops_mono hQ r (s.put o.dst (.tup []))
    have step : stepOp P Gl d o s (fun s' => pops P Gl d r s' Q) → stepOp P Gl d o s (fun s' => pops P Gl d r s' Q') := by
      rintro (h | ⟨d1, d2, C, n, v, h1, h2⟩)
      rotate_left
      · exact .inr ⟨d1, d2, C, n, v, h1, fun x hx => pops_mono hQ r _ (h2 x hx)⟩
      refine .inl ?_
      revert h
      unfold stepO
      split
      · rintro (⟨f, caps, as, rr, e1, e2, e3, e4, e5, e6, e7⟩ | ⟨f, caps, as, rr, ts, eqs, e1, e2, e3, e4, e5, e6, e7, e8⟩)
        · exact .inl ⟨f, caps, as, rr, e1, e2, e3, e4, e5, e6, pops_mono hQ r _ e7⟩
        · exact .inr ⟨f, caps, as, rr, ts, eqs, e1, e2, e3, e4, e5, e6, e7, pops_mono hQ r _ e8⟩
      · rintro ⟨x, e1, e2⟩
        exact ⟨x, e1, pops_mono hQ r _ e2⟩
    simp only [pops] at h ⊢
    cases g with
    | always => exact step h
    | never => exact rest h
    | bad => exact h
    | slot t w =>
      simp only [gdStep] at h ⊢
      split
      · rename_i b hb
        simp only [hb] at h
        exact ⟨fun e => step (h.1 e), fun e => rest (h.2 e)⟩
      · rename_i hu
        simp only [hu] at h
        exact rest h
      · rename_i hne hnu
        split at h
        · rename_i b hb; exact absurd hb (hne _)
        · rename_i hu; exact absurd hu hnu
        · exact h
/-- The first m operations end, on every way, in a state that is s1 but for slots forgotten. -/
theorem p_seg (m : Nat) (s1 : PSt) (h1 : pops P Gl d (L.take m) s fun s' => Fade s' s1) (h2 : pops P Gl d (L.drop m) s1 (Up Q)) : pops P Gl d L s (Up Q) := by
  have := pops_append (P := P) (Gl := Gl) (d := d) (Q := Up Q) (L.take m) (L.drop m) s (pops_mono (fun s' hf => pops_fade (fun _ _ hf h => Up.fade hf h) _ hf h2) _ _ h1)
  rwa [List.take_append_drop] at this
end
end PM
/-
  THE PURE MACHINE, U: the rules of a typed walk: regions, calls, results, loops, elements, lengths, appends.
-/
namespace PM
open Go Go.RowKit

section
variable {P : Program} {Gl : Nat → Option (List PV)} {s s1 : PSt} {d : Bool} {L : List (Oper × Gd)}
/-! ### Regions -/
theorem Inv.fade {S0 : Bs} {w0 w : World} {a : Act} (h : Inv Gl S0 w0 s a w) (hf : Fade s s1) : Inv Gl S0 w0 s1 a w := by
  obtain ⟨g, rfl, hg⟩ := h
  refine ⟨g, rfl, { hg with hH := hg.hH.trans hf.H, hT := hg.hT.trans hf.T, exs := hf.X ▸ hg.exs, exsEx := hf.X ▸ hg.exsEx, len := ⟨by rw [← hf.tm.1, ← hf.m]; exact hg.len.1, by rw [← hf.m]; exact hg.len.2⟩, tm := fun i p v hp hv => ?_ }⟩
  obtain ⟨q, hq, e⟩ := hf.tm.left hp
  rcases e with rfl | rfl
  · exact hg.tm i _ v hq hv
  · exact Rel.any _ _
section
variable {Q : Exit → PSt → Prop} {id : Nat} {ops : Array Oper}
theorem r_reg (h : pops P Gl false (withGd ops) s (Up (Q .normal))) : pwp P Gl (.region id ops false) Q s := fun S0 w0 a w hi =>
  wp_region_list (pops_sound (S0 := S0) (w0 := w0) (fun _ _ _ q i => let ⟨s2, h1, h2⟩ := q; ⟨s2, h2, i.fade h1⟩) ops.toList s a w hi h)
end
section
variable {Q : PSt → Prop}
/-- All that is left is plain. -/
theorem e_end (h : (pxr P Gl L s).2 = true) (h2 : Q (pxr P Gl L s).1) : pops P Gl d L s (Up Q) := p_end h (.intro h2)
theorem e_nil (h : L.isEmpty = true) (h2 : Q s) : pops P Gl d L s (Up Q) := by
  have : L = [] := by simpa using h
  subst this; exact .intro h2
def fadeTm : List PV → List PV → List PV
  | p :: ps, q :: qs => (match p with | .any => .any | _ => q) :: fadeTm ps qs
  | _, qs => qs
theorem fadeTm_spec : ∀ {ps qs : List PV}, fadeTm ps qs = ps → qs.length = ps.length → All2 (fun q p => p = q ∨ p = .any) qs ps
  | [], [], _, _ => .nil
  | p :: ps, q :: qs, h, hl => by
    simp only [fadeTm, List.cons.injEq] at h
    refine .cons ?_ (fadeTm_spec h.2 (by simpa using hl))
    have h1 := h.1
    split at h1
    · exact .inr rfl
    · exact .inl h1.symm
theorem fade_of (h : (s.H, s.T, s.X, (s.tm.length, s.m), fadeTm s1.tm s.tm) = (s1.H, s1.T, s1.X, (s1.tm.length, s1.m), s1.tm)) : Fade s s1 := by
  simp only [Prod.mk.injEq] at h
  exact ⟨h.1, h.2.1, h.2.2.1, fadeTm_spec h.2.2.2.2 h.2.2.2.1.1, h.2.2.2.1.2⟩
def segSt (m t : Nat) (v : PV) (L : List (Oper × Gd)) (s : PSt) : PSt := (wipe (L.take m) s).put (some t) v
/-- m operations work out one slot's value, on several ways. -/
theorem e_seg (m t : Nat) (v : PV) (h1 : pops P Gl d (L.take m) s fun s' => Fade s' (segSt m t v L s)) (h2 : pops P Gl d (L.drop m) (segSt m t v L s) (Up Q)) : pops P Gl d L s (Up Q) := p_seg m _ h1 h2
/-- One of these ways ends. -/
theorem f_end (h : (pxr P Gl L s).2 = true) (h2 : (((pxr P Gl L s).1).H, ((pxr P Gl L s).1).T, ((pxr P Gl L s).1).X, (((pxr P Gl L s).1).tm.length, ((pxr P Gl L s).1).m), fadeTm s1.tm ((pxr P Gl L s).1).tm) = (s1.H, s1.T, s1.X, (s1.tm.length, s1.m), s1.tm)) : pops P Gl d L s fun s' => Fade s' s1 :=
  p_end h (fade_of h2)
theorem f_nil (h : L.isEmpty = true) (h2 : (s.H, s.T, s.X, (s.tm.length, s.m), fadeTm s1.tm s.tm) = (s1.H, s1.T, s1.X, (s1.tm.length, s1.m), s1.tm)) : pops P Gl d L s fun s' => Fade s' s1 := by
  have : L = [] := by simpa using h
  subst this; exact fade_of h2

/-! ### Calls -/
def dco1 (p q : PV) : PV :=
  match p with
  | .lst .frozen k b _ => match q with
    | .lst .full k b xss => .lst .frozen k b xss
    | .nil => .lst .frozen k b []
    | q => q
  | .lst .full k b _ => match q with
    | .nil => .lst .full k b []
    | q => q
  | _ => q
def dcoL : List PV → List PV → List PV
  | p :: ps, q :: qs => dco1 p q :: dcoL ps qs
  | _, qs => qs
def dcoA (p q : PV) : PV :=
  match p with
  | .agg ps => match q with
    | .agg qs => .agg (dcoL ps qs)
    | q => q
  | p => dco1 p q
def dcoAL : List PV → List PV → List PV
  | p :: ps, q :: qs => dcoA p q :: dcoAL ps qs
  | _, qs => qs
theorem dco1_rel {S : Cells} {w : World} {p q : PV} {v : Value} (h : RelD S w q v) : RelD S w (dco1 p q) v := by
  unfold dco1
  split
  · split
    · exact RelD.unfull h
    · exact RelD.ofNil _ _ (.inl rfl) h
    · exact h
  · split
    · exact RelD.ofNil _ _ (.inr rfl) h
    · exact h
  · exact h
theorem dcoL_rel {S : Cells} {w : World} : ∀ {ps qs : List PV} {vs : List Value}, All2 (RelD S w) qs vs → All2 (RelD S w) (dcoL ps qs) vs
  | p :: ps, q :: qs, vs, h => by
    obtain ⟨v, vs', rfl, h1, h2⟩ := h.cons_left
    exact .cons (dco1_rel h1) (dcoL_rel h2)
  | [], _, _, h => h
  | _ :: _, [], _, h => h
theorem dcoA_rel {S : Cells} {w : World} {p q : PV} {v : Value} (h : RelD S w q v) : RelD S w (dcoA p q) v := by
  unfold dcoA
  split
  · split
    · simp only [RelD] at h ⊢
      obtain ⟨arr, e, h⟩ := h
      exact ⟨arr, e, (relDs_iff _ _).2 (dcoL_rel ((relDs_iff _ _).1 h))⟩
    · exact h
  · exact dco1_rel h
theorem dcoAL_rel {S : Cells} {w : World} : ∀ {ps qs : List PV} {vs : List Value}, All2 (RelD S w) qs vs → All2 (RelD S w) (dcoAL ps qs) vs
  | p :: ps, q :: qs, vs, h => by
    obtain ⟨v, vs', rfl, h1, h2⟩ := h.cons_left
    exact .cons (dcoA_rel h1) (dcoAL_rel h2)
  | [], _, _, h => h
  | _ :: _, [], _, h => h
theorem PCall.coerce {f : FuncId} {as qs : List PV} {r : PV} (h : PCall P Gl f as r) (e : dcoAL as qs = as) : PCall P Gl f qs r :=
  ⟨h.1, fun S w vs hS hG hr => h.2 S w vs hS hG (by rw [← e]; exact dcoAL_rel hr)⟩
/-- The call at the head: function and arguments. -/
def callHd : List (Oper × Gd) → PSt → Option (FuncId × List PV)
  | (o, .always) :: _, s => match callOf o.op with
    | some (x, args) => match s.ev x with
      | .fn f caps => if caps.all capOK = true then (datumAs (args.map s.ev ++ caps)).map fun qs => (f, qs) else none
      | _ => none
    | none => none
  | _, _ => none
def tokB (draw : Bool) (dd : Nat) (T : Nat → Option (Nat × Nat)) : List (Nat × (Nat × Nat)) → Bool
  | [] => true
  | (t, x) :: r => !draw && (T (1000 * dd + t)).isNone && ((r.all fun x => x.1 != t) && x.2 != 0) && tokB draw dd T r
theorem tokB_free {draw : Bool} {dd : Nat} {T : Nat → Option (Nat × Nat)} : ∀ {l : List (Nat × (Nat × Nat))}, tokB draw dd T l = true → toksFree dd T l ∧ (draw = true → l = [])
  | [], _ => ⟨trivial, fun _ => rfl⟩
  | (t, x) :: r, h => by
    rw [tokB, Bool.and_eq_true, Bool.and_eq_true, Bool.and_eq_true, Bool.not_eq_true'] at h
    obtain ⟨⟨⟨h1, h2⟩, h3⟩, h4⟩ := h
    exact ⟨⟨by simpa using h2, h3, (tokB_free h4).1⟩, fun e => by rw [e] at h1; cases h1⟩
/-- A call, by its contract. -/
theorem p_call {f : FuncId} {as : List PV} {r : PV} (hc : PCall P Gl f as r) (h : (callHd L s).map (fun x => (x.1, dcoAL as x.2)) = some (f, as)) (ht : tokB d ((dstHd L).getD 0) s.T (toksV r) = true)
    (h2 : pops P Gl d (L.drop 1) ((addToks ((dstHd L).getD 0) s (toksV r)).put (dstHd L) (retokV ((dstHd L).getD 0) r)) Q) : pops P Gl d L s Q := by
  obtain ⟨y, h3, h4⟩ := Option.map_eq_some_iff.1 h
  match L, h3, ht, h2 with
  | (o, .always) :: rest, h3, ht, h2 =>
    simp only [callHd] at h3
    simp only [pops, gdStep]
    refine .inl ?_
    simp only [stepO]
    cases hco : callOf o.op with
    | none => simp [hco] at h3
    | some xa =>
      obtain ⟨x, args⟩ := xa
      simp only [hco] at h3 ⊢
      split at h3
      · rename_i f' caps hx
        split at h3
        · rename_i hcap
          obtain ⟨qs, h5, rfl⟩ := Option.map_eq_some_iff.1 h3
          simp only [Prod.mk.injEq] at h4
          obtain ⟨rfl, h6⟩ := h4
          exact .inl ⟨f', caps, qs, r, hx, hcap, h5, hc.coerce h6, (tokB_free ht).1, (tokB_free ht).2, h2⟩
        · cases h3
      · cases h3
end

/-! ### Results -/
def finRes (P : Program) (Gl : Nat → Option (List PV)) (rs : List ResultVar) (s : PSt) : Option PV := (resPV P Gl s rs).bind onePV
theorem r_fin {rs : List ResultVar} {r : PV} (h : (finRes P Gl rs s).map (fun v => (noTups v, coerceV r v)) = some (true, r)) (hl : liveV (fun _ => none) (tokT r) r = true)
    (ht : (toksV r).map (fun x => s.T x.1) = (toksV r).map fun x => some x.2) : finalQ P Gl rs r s := by
  obtain ⟨pv, h1, h2⟩ := Option.map_eq_some_iff.1 h
  obtain ⟨vs, h3, h4⟩ := Option.bind_eq_some_iff.1 h1
  simp only [Prod.mk.injEq] at h2
  refine ⟨vs, pv, h3, h4, ?_, fun x hx => map_told ht x hx⟩
  have := coerceV_wk (p := r) (q := pv) (H := fun _ => none) (T := tokT r) h2.1 (by rw [h2.2]; exact hl)
  rwa [h2.2] at this
theorem q_ret {rs : List ResultVar} {r : PV} (h : (finRes P Gl rs s).map (fun v => (noTups v, coerceV r v)) = some (true, r)) (hl : liveV (fun _ => none) (tokT r) r = true)
    (ht : (toksV r).map (fun x => s.T x.1) = (toksV r).map fun x => some x.2) : bodyQ P Gl rs r .ret s := r_fin h hl ht
end

/-! ### Loops -/
section
variable {σ ρ : Type}
inductive LoopN (step : σ → Option (σ ⊕ ρ)) : Nat → σ → ρ → Prop
  | done {s : σ} {r : ρ} (h : step s = some (.inr r)) : LoopN step 0 s r
  | more {s s' : σ} {r : ρ} {n : Nat} (h : step s = some (.inl s')) (hn : LoopN step n s' r) : LoopN step (n + 1) s r
theorem LoopN.det {step : σ → Option (σ ⊕ ρ)} {n m : Nat} {s : σ} {r r' : ρ} (h : LoopN step n s r) (h' : LoopN step m s r') : r = r' := by
  induction h generalizing m with
  | done h =>
    cases h' with
    | done h1 => rw [h] at h1; cases h1; rfl
    | more h1 _ => rw [h] at h1; cases h1
  | more h _ ih =>
    cases h' with
    | done h1 => rw [h] at h1; cases h1
    | more h1 h2 => rw [h] at h1; cases h1; exact ih h2
open Classical in
/-- What a loop comes to. -/
noncomputable def loopC (step : σ → Option (σ ⊕ ρ)) (s : σ) : Option ρ := if h : ∃ r n, LoopN step n s r then some (choose h) else none
theorem loopC_some {step : σ → Option (σ ⊕ ρ)} {s : σ} {r : ρ} : loopC step s = some r ↔ ∃ n, LoopN step n s r := by
  unfold loopC
  constructor
  · intro h
    split at h
    · rename_i hx
      cases h
      exact Classical.choose_spec hx
    · cases h
  · rintro ⟨n, hn⟩
    have hx : ∃ r n, LoopN step n s r := ⟨r, n, hn⟩
    rw [dif_pos hx]
    obtain ⟨m, hm⟩ := Classical.choose_spec hx
    exact congrArg some (hm.det hn)
theorem loopC_eq (step : σ → Option (σ ⊕ ρ)) (s : σ) : loopC step s = (step s).bind fun o => match o with | .inl s' => loopC step s' | .inr r => some r := by
  cases hs : step s with
  | none =>
    cases h : loopC step s with
    | none => rfl
    | some r =>
      obtain ⟨n, hn⟩ := loopC_some.1 h
      cases hn with
      | done h1 => rw [hs] at h1; cases h1
      | more h1 _ => rw [hs] at h1; cases h1
  | some o =>
    simp only [Option.bind_some]
    cases o with
    | inr r => exact loopC_some.2 ⟨0, .done hs⟩
    | inl s' =>
      simp only
      cases h : loopC step s' with
      | some r =>
        obtain ⟨n, hn⟩ := loopC_some.1 h
        exact loopC_some.2 ⟨n + 1, .more hs hn⟩
      | none =>
        cases h' : loopC step s with
        | none => rfl
        | some r =>
          exfalso
          obtain ⟨n, hn⟩ := loopC_some.1 h'
          cases hn with
          | done h1 => rw [hs] at h1; cases h1
          | more h1 h2 =>
            rw [hs] at h1; cases h1
            rw [loopC_some.2 ⟨_, h2⟩] at h; cases h
/-- The same, the first rounds of it in plain words (for closed loops). -/
noncomputable def loopU (step : σ → Option (σ ⊕ ρ)) : Nat → σ → Option ρ
  | 0, s => loopC step s
  | n + 1, s => match step s with
    | some (.inl s') => loopU step n s'
    | some (.inr r) => some r
    | none => none
theorem loopU_eq (step : σ → Option (σ ⊕ ρ)) : ∀ n s, loopU step n s = loopC step s
  | 0, _ => rfl
  | n + 1, s => by
    rw [loopC_eq, loopU]
    cases step s with
    | none => rfl
    | some o => cases o with
      | inl s' => exact loopU_eq step n s'
      | inr r => rfl
noncomputable def loopO (step : σ → Option (σ ⊕ ρ)) (s : σ) : Option ρ := loopU step 65536 s
theorem loopO_C (step : σ → Option (σ ⊕ ρ)) (s : σ) : loopO step s = loopC step s := loopU_eq step 65536 s
theorem loopO_some {step : σ → Option (σ ⊕ ρ)} {s : σ} {r : ρ} : loopO step s = some r ↔ ∃ n, LoopN step n s r := by rw [loopO_C]; exact loopC_some
theorem loopO_eq (step : σ → Option (σ ⊕ ρ)) (s : σ) : loopO step s = (step s).bind fun o => match o with | .inl s' => loopO step s' | .inr r => some r := by
  simp only [loopO_C]; exact loopC_eq step s
def loopPost (J : σ → JS) (n : Nat) (Q : Exit → PSt → Prop) (r : ρ) (o : σ ⊕ ρ) (e : Exit) (s' : PSt) : Prop :=
  match o with
  | .inl v' => e = .normal ∧ (J v').seen s' = (J v').told n
  | .inr r' => r' = r → e ≠ .normal ∧ Q e s'
section
variable {P : Program} {Gl : Nat → Option (List PV)} {s : PSt} {Q : Exit → PSt → Prop} {J : σ → JS} {n k : Nat} {r r' : ρ} {v' : σ}
theorem q_back (h : (J v').seen s = (J v').told n) : loopPost J n Q r (.inl v') .normal s := ⟨rfl, h⟩
theorem q_out_exit (h : r' = r → Q (.exit k) s) : loopPost J n Q r (.inr r') (.exit k) s := fun e => ⟨by simp, h e⟩
theorem q_out_ret (h : r' = r → Q .ret s) : loopPost J n Q r (.inr r') .ret s := fun e => ⟨by simp, h e⟩
theorem r_loop {step : σ → Option (σ ⊕ ρ)} {v : σ} {c : Code} (n : Nat) (J : σ → JS) (hl : loopO step v = some r) (h0 : (J v).seen s = (J v).told n) (hok : ∀ v, (J v).ok = true)
    (hb : ∀ v o, step v = some o → pwp P Gl c (loopPost J n Q r o) ((J v).st n)) : pwp P Gl (.loop c) Q s := by
  obtain ⟨m, hm⟩ := loopO_some.1 hl
  refine pwp_loop (fun m s => ∃ v, LoopN step m v r ∧ s = (J v).st n) m ⟨v, hm, rfl⟩ (JS.weaker (hok v) h0) ?_
  rintro m _ ⟨v, hv, rfl⟩
  cases hv with
  | done h1 =>
    refine pwp_mono (fun e s' hp => ?_) (hb v _ h1)
    obtain ⟨h2, h3⟩ := hp rfl
    cases e <;> first | exact absurd rfl h2 | exact h3
  | more h1 h2 =>
    refine pwp_mono (fun e s' hp => ?_) (hb v _ h1)
    obtain ⟨rfl, h3⟩ := hp
    exact ⟨_, _, Nat.lt_succ_self _, ⟨_, h2, rfl⟩, JS.weaker (hok _) h3⟩
end
end
end PM
