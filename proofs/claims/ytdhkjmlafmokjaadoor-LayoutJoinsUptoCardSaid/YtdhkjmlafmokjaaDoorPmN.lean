/-
  THE PURE MACHINE, N: code, loops, whole functions.
-/
import Derived.Test.YtdhkjmlafmokjaaDoorPmM
namespace PM
open Go Go.RowKit

/-- When an operation of a region is carried out. -/
inductive Gd where
  | always
  | slot (t : Nat) (want : Bool)
  | never
  | bad
def gdOf (ops : Array Oper) (o : Oper) : Gd :=
  match o.guard with
  | none => .always
  | some (j, w) => match (ops[j]?).bind (·.dst) with
    | some t => .slot t w
    | none => .bad
def withGd (ops : Array Oper) : List (Oper × Gd) := ops.toList.map fun o => (o, gdOf ops o)
def gdStep (g : Gd) (s : PSt) (yes no : Prop) : Prop :=
  match g with
  | .always => yes
  | .slot t w => match s.get t with
    | .bool b => (b = w → yes) ∧ (b = !w → no)
    | .tup [] => no
    | _ => False
  | .never => no
  | .bad => False
def pops (P : Program) (Gl : Nat → Option (List PV)) (draw : Bool) : List (Oper × Gd) → PSt → (PSt → Prop) → Prop
  | [], s, Q => Q s
  | (o, gd) :: r, s, Q => gdStep gd s (stepOp P Gl draw o s fun s' => pops P Gl draw r s' Q) (pops P Gl draw r (s.put o.dst (.tup [])) Q)

section
variable {P : Program} {Gl : Nat → Option (List PV)} {S0 : Bs} {w0 : World} {s : PSt} {a : Act} {g : GG} {w : World}
theorem Rel.und (g : GG) : Rel g (.tup []) undef := by
  simp only [Rel]
  exact ⟨#[], rfl, .nil⟩
theorem InvG.slotUnd (h : InvG Gl S0 w0 s a g) {t : Nat} (hb : s.get t = .tup []) : ∀ b, a.tmps[t]? ≠ some (.bool b) := by
  intro b hab
  have h1 := h.get t
  rw [hb] at h1
  simp only [Rel] at h1
  obtain ⟨arr, h2, _⟩ := h1
  rw [Array.getD_eq_getD_getElem?, hab] at h2
  cases h2
theorem InvG.slotBool (h : InvG Gl S0 w0 s a g) {t : Nat} {b : Bool} (hb : s.get t = .bool b) : a.tmps[t]? = some (.bool b) := by
  have h1 := h.get t
  rw [hb, relBool] at h1
  by_cases ht : t < a.tmps.size
  · rw [Array.getElem?_eq_getElem ht] at *
    simpa [ht] using h1
  · exfalso
    rw [Array.getD_eq_getD_getElem?, Array.getElem?_eq_none (by omega)] at h1
    simp [undef] at h1
theorem wanted_gd (h : InvG Gl S0 w0 s a g) {ops : Array Oper} {o : Oper} {yes no : Prop} (hs : gdStep (gdOf ops o) s yes no) :
    (Region.wanted o (yielded ops a.tmps) = true ∧ yes) ∨ (Region.wanted o (yielded ops a.tmps) = false ∧ no) := by
  unfold gdStep gdOf at hs
  unfold Region.wanted
  cases hg : o.guard with
  | none => simp only [hg] at hs; exact .inl ⟨rfl, hs⟩
  | some jw =>
    obtain ⟨j, want⟩ := jw
    simp only [hg] at hs
    cases hd : (ops[j]?).bind (·.dst) with
    | none => simp [hd] at hs
    | some t =>
      simp only [hd] at hs
      split at hs
      · rename_i b hb
        have hy : yielded ops a.tmps j = some b := by
          unfold yielded
          rw [hd]
          simp only [Option.bind_some]
          rw [h.slotBool hb]
        simp only [hy]
        cases b <;> cases want <;> simp_all
      · rename_i hb
        have hy : yielded ops a.tmps j = none := by
          unfold yielded
          rw [hd]
          simp only [Option.bind_some]
          have := h.slotUnd hb
          split
          · rename_i b hb'; exact absurd hb' (this b)
          · rfl
        simp only [hy]
        exact .inr ⟨by simp, hs⟩
      · exact hs.elim
theorem pops_sound {ops : Array Oper} {Q' : Exit → Act → World → Prop} {Q : PSt → Prop} (hQ : ∀ s' a' w', Q s' → Inv Gl S0 w0 s' a' w' → Q' .normal a' w') :
    ∀ (l : List Oper) (s : PSt) (a : Act) (w : World), Inv Gl S0 w0 s a w → pops P Gl false (l.map fun o => (o, gdOf ops o)) s Q → wpList P ops Q' l a w
  | [], s, a, w, h, hp => hQ s a w hp h
  | o :: l, s, a, w, h, hp => by
    obtain ⟨g, rfl, h⟩ := h
    unfold wpList
    simp only [List.map_cons, pops] at hp
    rcases wanted_gd h hp with ⟨h1, h2⟩ | ⟨h1, h2⟩
    · rw [if_pos h1]
      exact .inl (stepOp_sound h h2 fun s' a' w' hs' hi' => pops_sound hQ l s' a' w' hi' hs')
    · rw [if_neg (by rw [h1]; simp)]
      exact pops_sound hQ l _ _ _ ⟨g, rfl, h.put _ (Rel.und _)⟩ h2

/-- What code does to a state. -/
def pwp (P : Program) (Gl : Nat → Option (List PV)) (c : Code) (Q : Exit → PSt → Prop) (s : PSt) : Prop :=
  ∀ (S0 : Bs) (w0 : World) (a : Act) (w : World), Inv Gl S0 w0 s a w → c.wp P (fun e a' w' => ∃ s', Q e s' ∧ Inv Gl S0 w0 s' a' w') a w
theorem wp_mono {c : Code} {Q Q' : Exit → Act → World → Prop} (h : ∀ e a w, Q e a w → Q' e a w) (hw : c.wp P Q a w) : c.wp P Q' a w :=
  fun b k cs => let ⟨e, a', w', hq, r⟩ := hw b k cs; ⟨e, a', w', h _ _ _ hq, r⟩
section
variable {Q Q' : Exit → PSt → Prop} {c x y : Code}
theorem pwp_mono (h : ∀ e s, Q e s → Q' e s) (hw : pwp P Gl c Q s) : pwp P Gl c Q' s :=
  fun S0 w0 a w hi => wp_mono (fun _ _ _ ⟨s', q, i⟩ => ⟨s', h _ _ q, i⟩) (hw S0 w0 a w hi)
theorem pwp_weak {s' : PSt} (hw : Weaker s s') (h : pwp P Gl c Q s') : pwp P Gl c Q s := fun S0 w0 a w hi => h S0 w0 a w (hi.weak hw)
theorem pwp_skip (h : Q .normal s) : pwp P Gl .skip Q s := fun _ _ _ _ hi => wp_skip ⟨s, h, hi⟩
theorem pwp_exit {id : Nat} (h : Q (.exit id) s) : pwp P Gl (.exit id) Q s := fun _ _ _ _ hi => wp_exit ⟨s, h, hi⟩
theorem pwp_ret (h : Q .ret s) : pwp P Gl .ret Q s := fun _ _ _ _ hi => wp_ret ⟨s, h, hi⟩
/-- What must hold behind the first of two pieces. -/
def seqQ (P : Program) (Gl : Nat → Option (List PV)) (y : Code) (Q : Exit → PSt → Prop) : Exit → PSt → Prop
  | .normal, s => pwp P Gl y Q s
  | e, s => Q e s
theorem pwp_seq (h : pwp P Gl x (seqQ P Gl y Q) s) : pwp P Gl (.seq x y) Q s := fun S0 w0 a w hi =>
  wp_seq (wp_mono (fun e _ _ ⟨s', q, i⟩ => by
    cases e <;> simp only [Exit.then]
    case normal => exact q S0 w0 _ _ i
    all_goals exact ⟨s', q, i⟩) (h S0 w0 a w hi))
theorem pwp_cond {c : Operand} {b : Bool} (hb : s.ev c = .bool b) (ht : b = true → pwp P Gl x Q s) (hf : b = false → pwp P Gl y Q s) : pwp P Gl (.cond c x y) Q s := fun S0 w0 a w hi => by
  obtain ⟨g, rfl, hg⟩ := hi
  have := hg.ev c
  rw [hb, relBool] at this
  exact wp_cond_split this (fun e => ht e S0 w0 a g.w ⟨g, rfl, hg⟩) (fun e => hf e S0 w0 a g.w ⟨g, rfl, hg⟩)
theorem pwp_condU {c : Operand} {e : Bool} (hb : s.ev c = .ub e) (ht : e = true → pwp P Gl x Q s) (hf : pwp P Gl y Q s) : pwp P Gl (.cond c x y) Q s := fun S0 w0 a w hi => by
  obtain ⟨g, rfl, hg⟩ := hi
  have := hg.ev c
  rw [hb] at this
  obtain ⟨b, h1, h2⟩ : ∃ b : Bool, a.eval c = .bool b ∧ (b = true → e = true) := this
  exact wp_cond_split h1 (fun q => ht (h2 q) S0 w0 a g.w ⟨g, rfl, hg⟩) (fun _ => hf S0 w0 a g.w ⟨g, rfl, hg⟩)
def blockQ (id : Nat) (Q : Exit → PSt → Prop) : Exit → PSt → Prop
  | .exit id', s => if id' = id then Q .normal s else Q (.exit id') s
  | e, s => Q e s
theorem pwp_block {id : Nat} (h : pwp P Gl c (blockQ id Q) s) : pwp P Gl (.block id c) Q s := fun S0 w0 a w hi =>
  wp_block (wp_mono (fun e a w ⟨s', q, i⟩ => by
    cases e <;> simp only [Exit.inBlock]
    case exit id' =>
      simp only [blockQ] at q
      split
      · rename_i h1; rw [if_pos h1] at q; exact ⟨s', q, i⟩
      · rename_i h1; rw [if_neg h1] at q; exact ⟨s', q, i⟩
    all_goals exact ⟨s', q, i⟩) (h S0 w0 a w hi))
theorem pwp_region {id : Nat} {ops : Array Oper} (h : pops P Gl false (withGd ops) s (Q .normal)) : pwp P Gl (.region id ops false) Q s := fun S0 w0 a w hi =>
  wp_region_list (pops_sound (S0 := S0) (w0 := w0) (fun s' _ _ q i => ⟨s', q, i⟩) ops.toList s a w hi h)
/-- A loop: what holds at the head of each round, and a number that goes down. -/
def loopQ (I : Nat → PSt → Prop) (n : Nat) (Q : Exit → PSt → Prop) : Exit → PSt → Prop
  | .normal, s => ∃ m s', m < n ∧ I m s' ∧ Weaker s s'
  | e, s => Q e s
theorem pwp_loop (I : Nat → PSt → Prop) (n : Nat) {s' : PSt} (h0 : I n s') (hw : Weaker s s') (hr : ∀ n s, I n s → pwp P Gl c (loopQ I n Q) s) : pwp P Gl (.loop c) Q s := by
  intro S0 w0 a w hi
  have key : ∀ n (a : Act) (w : World), (∃ s, I n s ∧ Inv Gl S0 w0 s a w) → ∀ (b : Frame) (k : List Item) (cs : List Frame),
      ∃ e a' w', (∃ s', Q e s' ∧ Inv Gl S0 w0 s' a' w') ∧ Arrives P (lone (b.at a (.code c :: .inLoop c :: k)) cs w) b k cs e a' w' := by
    intro n
    induction n using Nat.strongRecOn with
    | _ n ih =>
      rintro a w ⟨s, hI, hi⟩ b k cs
      obtain ⟨e, a1, w1, ⟨s1, hq, hi1⟩, harr⟩ := hr n s hI S0 w0 a w hi b (.inLoop c :: k) cs
      cases e with
      | normal =>
        obtain ⟨m, s2, hm, hI2, hw2⟩ := hq
        obtain ⟨e2, a2, w2, hq2, harr2⟩ := ih m hm a1 w1 ⟨s2, hI2, hi1.weak hw2⟩ b k cs
        exact ⟨e2, a2, w2, hq2, .of_steps (Steps.trans harr (.one step_inLoop)) harr2⟩
      | exit id => exact ⟨_, a1, w1, ⟨s1, hq, hi1⟩, .pass (x := .inLoop c) rfl (fun _ _ => .inl (by simp)) harr⟩
      | goto l => exact ⟨_, a1, w1, ⟨s1, hq, hi1⟩, .pass (x := .inLoop c) rfl (fun _ _ => .inl (by simp)) harr⟩
      | ret => exact ⟨_, a1, w1, ⟨s1, hq, hi1⟩, .pass (x := .inLoop c) rfl (fun _ _ => .inl (by simp)) harr⟩
      | panic ch => exact ⟨_, a1, w1, ⟨s1, hq, hi1⟩, .pass (x := .inLoop c) rfl (fun _ _ => .inl (by simp)) harr⟩
      | outgrown => exact ⟨_, a1, w1, ⟨s1, hq, hi1⟩, .pass (x := .inLoop c) rfl (fun _ _ => .inl (by simp)) harr⟩
  intro b k cs
  obtain ⟨e, a', w', hq, harr⟩ := key n a w ⟨s', h0, hi.weak hw⟩ b k cs
  exact ⟨e, a', w', hq, .of_steps (.one step_loop) harr⟩
end

/-! ### Whole functions -/
def resPV (P : Program) (Gl : Nat → Option (List PV)) (s : PSt) : List ResultVar → Option (List PV)
  | [] => some []
  | .tmp t :: r => (resPV P Gl s r).map (s.get t :: ·)
  | .cell x t :: r => match evLoad P Gl s.H s.X t (s.get x), resPV P Gl s r with
    | some p, some ps => some (p :: ps)
    | _, _ => none
def noTup : PV → Bool
  | .tup _ => false
  | _ => true
def onePV : List PV → Option PV
  | [x] => some x
  | vs => if vs.all noTup = true then some (.tup vs) else none
def tokT (r : PV) : Nat → Option (Nat × Nat) := fun t => (toksV r).lookup t
def finalQ (P : Program) (Gl : Nat → Option (List PV)) (rs : List ResultVar) (r : PV) (s : PSt) : Prop :=
  ∃ vs pv, resPV P Gl s rs = some vs ∧ onePV vs = some pv ∧ WkV (fun _ => none) (tokT r) pv r ∧ ∀ x ∈ toksV r, s.T x.1 = some x.2
def bodyQ (P : Program) (Gl : Nat → Option (List PV)) (rs : List ResultVar) (r : PV) : Exit → PSt → Prop
  | .normal, s => finalQ P Gl rs r s
  | .ret, s => finalQ P Gl rs r s
  | _, _ => False
theorem pointer_of_evLoad {t : TypeId} {p r : PV} {v : Value} (he : evLoad P Gl s.H s.X t p = some r) (hv : Rel g p v) : ∃ ad, v = .pointer (some ad) := by
  cases p <;> simp only [evLoad] at he <;> try cases he
  case eref =>
    simp only [Rel, RelA, Rel1] at hv
    obtain ⟨⟨B, o, rfl⟩, _⟩ := hv
    exact ⟨_, rfl⟩
  · rw [relRef] at hv; exact ⟨_, hv.1⟩
  · rw [relCptr] at hv; obtain ⟨B, o, e, _⟩ := hv; exact ⟨_, e⟩
  · rw [relGptr] at hv; exact ⟨_, hv⟩
def resOf (tmps : Array Value) : ResultVar → Sem Value
  | .tmp t => pure (tmps.getD t undef)
  | .cell x t => do loadVar t (← asAddr (tmps.getD x undef))
theorem results_eq (fn : Func) (tmps : Array Value) : results fn tmps = (do
    let vs ← fn.results.mapM (resOf tmps)
    pure (if h : vs.size = 1 then vs[0] else .tuple vs)) := rfl
theorem run_resPV (h : InvG Gl S0 w0 s a g) : ∀ (rs : List ResultVar) (ps : List PV), resPV P Gl s rs = some ps →
    ∃ vs, (rs.mapM (resOf a.tmps)).run P g.w = .ok vs g.w ∧ All2 (Rel g) ps vs
  | [], ps, he => by simp only [resPV] at he; cases he; exact ⟨[], by simp, .nil⟩
  | .tmp t :: rs, ps, he => by
    simp only [resPV] at he
    obtain ⟨ps', h1, rfl⟩ := Option.map_eq_some_iff.1 he
    obtain ⟨vs, h2, h3⟩ := run_resPV h rs ps' h1
    exact ⟨_ :: vs, by simp only [List.mapM_cons, resOf, Sem.run_bind, Sem.run_pure, h2, Result.andThen_ok], .cons (h.get t) h3⟩
  | .cell x t :: rs, ps, he => by
    simp only [resPV] at he
    split at he
    · rename_i p ps' h1 h2
      cases he
      obtain ⟨vs, h3, h4⟩ := run_resPV h rs ps' h2
      obtain ⟨z, h5, h6⟩ := run_evLoad h h1 (h.get x)
      obtain ⟨ad, had⟩ := pointer_of_evLoad h1 (h.get x)
      have h7 : (loadVar t ad).run P g.w = .ok z g.w := by
        rw [had] at h5
        simpa [Instr.loadAt, Instr.sureAddr] using h5
      exact ⟨z :: vs, by rw [List.mapM_cons, Sem.run_bind, resOf, had]; simp only [asAddr, Sem.run_bind, Sem.run_pure, h7, h3, Result.andThen_ok], .cons h6 h4⟩
    · cases he
theorem mem_of_lookup {t : Nat} {x : Nat × Nat} : ∀ {l : List (Nat × (Nat × Nat))}, l.lookup t = some x → (t, x) ∈ l
  | [], h => by cases h
  | (t', y) :: l, h => by
    rw [List.lookup_cons] at h
    split at h
    · rename_i he
      cases h
      have : t = t' := by simpa using he
      subst this; simp
    · exact List.mem_cons_of_mem _ (mem_of_lookup h)
theorem lookup_of_mem {t : Nat} {x : Nat × Nat} : ∀ {l : List (Nat × (Nat × Nat))}, (∀ y ∈ l, y.1 = t → y.2 = x) → (t, x) ∈ l → l.lookup t = some x
  | [], _, h => by cases h
  | (t', y) :: l, hf, h => by
    rw [List.lookup_cons]
    split
    · rename_i he
      have : t = t' := by simpa using he
      subst this
      exact congrArg some (hf (t, y) (by simp) rfl)
    · rename_i he
      rcases List.mem_cons.1 h with h | h
      · cases h; simp at he
      · exact lookup_of_mem (fun y hy => hf y (by simp [hy])) h
theorem onePV_spec {ps : List PV} {pv : PV} {vs : List Value} (h : onePV ps = some pv) (hr : All2 (Rel g) ps vs) : Rel g pv (if h : vs.toArray.size = 1 then vs.toArray[0] else .tuple vs.toArray) := by
  unfold onePV at h
  split at h
  · rename_i x
    cases h
    obtain ⟨v, vs', rfl, h1, h2⟩ := hr.cons_left
    rw [h2.nil_left]
    simpa using h1
  · rename_i hne
    split at h
    · rename_i hall
      cases h
      have hlen : ¬ vs.toArray.size = 1 := by
        intro e
        have : ps.length = 1 := by rw [hr.1]; simpa using e
        match ps, this, hne with
        | [x], _, hne => exact hne x rfl
      rw [dif_neg hlen]
      simp only [Rel]
      refine ⟨_, rfl, hr.1, fun i x y hx hy => ?_⟩
      have h1 := hr.2 i x y hx hy
      have h2 := List.all_eq_true.1 hall x (List.mem_of_getElem? hx)
      cases x <;> first | exact h1 | (simp [noTup] at h2)
    · cases h
/-- An argument: one cell, or a flat aggregate. -/
def flatArg : PV → Bool
  | .agg cs => cs.all PV.one
  | .tup _ => false
  | .any => false
  | _ => true
theorem Rel.ofData {p : PV} {v : Value} (h : RelD g.S g.w p v) (hf : flatArg p = true) : Rel g p v := by
  cases p
  case agg cs =>
    simp only [RelD] at h
    obtain ⟨arr, h1, h2⟩ := h
    simp only [Rel, RelA]
    refine ⟨arr, h1, ((relDs_iff _ _).1 h2).1, fun i x y hx hy => ?_⟩
    have h3 := ((relDs_iff _ _).1 h2).2 i x y hx hy
    have h4 := List.all_eq_true.1 hf x (List.mem_of_getElem? hx)
    exact ⟨.of_data h3 h4, (h3.oneCell h4).1⟩
  case tup vs => simp [flatArg] at hf
  case any => simp [flatArg] at hf
  all_goals exact .of1 (.of_data h rfl)
def st0 (args : List PV) (n : Nat) : PSt := ⟨args ++ List.replicate (n - args.length) .any, fun _ => none, fun _ => none, fun _ => none⟩
theorem pcall_of_pwp {f : FuncId} {fn : Func} {c : Code} {args : List PV} {r : PV} {n : Nat} {rs : List ResultVar} (hf : P.funcs[f]? = some fn) (hname : (fn.name == "runtime.NumGoroutine") = false) (hb : fn.body = some c)
    (hn : fn.ntmps = n) (hrs : fn.results.toList = rs) (hflat : args.all flatArg = true) (h : pwp P Gl c (bodyQ P Gl rs r) (st0 args n)) : PCall P Gl f args r := by
  refine ⟨⟨fn, hf, hname, by rw [hb]; rfl⟩, fun S w vs hS hglob hargs => ?_⟩
  subst hn; subst hrs
  refine calls_of_wp hf hb ?_
  have hsz : args.length = vs.size := by rw [hargs.1]; simp
  have hinit : Inv Gl ⟨S, fun _ _ => False, fun _ _ _ => False⟩ w (st0 args fn.ntmps) { tmps := vs ++ Array.replicate (fn.ntmps - vs.size) undef, defers := [] } w := by
    refine ⟨⟨S, w, fun _ => 0, fun _ => undef, fun _ => none, fun _ => none⟩, rfl, { hH := rfl, hT := rfl, defers := rfl, len := by simp [st0, hsz], tm := fun i p v hp hv => ?_, sub := fun _ _ h => h, new := fun _ _ h => .inl h, lt := hS, below := BelowE.refl _ _, objs := (fun l ob e => by cases e), inj := (fun l l' e => by cases e), owns := (fun t n k e => by cases e), ownsEx := (fun t t' B hs => by obtain ⟨_, _, _, _, e, _⟩ := hs; cases e), ownsObj := (fun t B l hs => by obtain ⟨_, _, _, _, e, _⟩ := hs; cases e), glob := hglob, exs := (fun t k b xss e => by cases e), exsEx := (fun t t' B hs => by have := hs.1; cases this), fix := fun _ _ e => e.elim, fixT := fun _ _ _ e => e.elim }⟩
    simp only [st0] at hp
    rw [List.getElem?_append] at hp
    by_cases hi : i < args.length
    · rw [if_pos hi] at hp
      rw [Array.getElem?_append_left (by omega)] at hv
      exact Rel.ofData (g := ⟨S, w, _, _, _, _⟩) (hargs.2 i p v hp (by simpa using hv)) (List.all_eq_true.1 hflat p (List.mem_of_getElem? hp))
    · rw [if_neg hi, List.getElem?_replicate] at hp
      split at hp
      · cases hp; trivial
      · cases hp
  refine wp_mono (fun e a' w' hq => ?_) (h ⟨S, fun _ _ => False, fun _ _ _ => False⟩ w _ w hinit)
  obtain ⟨s', hq, g, rfl, hg⟩ := hq
  have fin : finalQ P Gl fn.results.toList r s' → a'.defers = [] ∧ ∃ v, (results fn a'.tmps).run P g.w = .ok v g.w ∧ ∃ v_1 g', Ending.returned v = .returned v_1 ∧ g'.w = g.w ∧ After S w r v_1 g' := by
    rintro ⟨ps, pv, h1, h2, h3, h4⟩
    refine ⟨hg.defers, ?_⟩
    obtain ⟨us, r1, r2⟩ := run_resPV hg _ _ h1
    have hcut : Cut g (fun _ => none) (tokT r) := ⟨fun t x hx => by
      have := h4 _ (mem_of_lookup hx)
      rw [hg.hT]; exact this, fun l cs _ e => (by cases e)⟩
    refine ⟨_, ?_, _, { g with H := fun _ => none, T := tokT r }, rfl, rfl, ⟨hg.below.toBelow (fun _ e => e.elim (fun q => q.elim fun _ q => q) fun q => by obtain ⟨_, _, _, q, _⟩ := q; exact q), hg.sub, fun B o hB => (hg.new B o hB).imp id fun e => ⟨e.resolve_right (fun e => e.elim (fun q => q.elim fun _ q => q) fun q => by obtain ⟨_, _, _, q, _⟩ := q; exact q), hg.lt B o hB⟩, fun _ => rfl, fun t n k => ⟨fun e => mem_of_lookup e, fun e => lookup_of_mem (fun y hy hyt => ?_) e⟩, (onePV_spec h2 r2).weak hcut h3, fun t n k e => hg.owns t n k (hcut.T t _ e), fun t t' B hs hs' => ?_⟩⟩
    · rw [results_eq, Array.mapM_eq_mapM_toList]
      simp only [Sem.run_bind, Sem.run_map, r1, Result.andThen_ok, Sem.run_pure]
    · have e1 := h4 y hy
      have e2 := h4 _ e
      rw [hyt] at e1
      rw [e1] at e2
      simpa using e2
    · obtain ⟨n, k, off, cap, e1, e2, e3⟩ := hs
      obtain ⟨n', k', off', cap', e1', e2', e3'⟩ := hs'
      exact hg.ownsEx t t' B ⟨n, k, off, cap, hcut.T t _ e1, e2, e3⟩ ⟨n', k', off', cap', hcut.T t' _ e1', e2', e3'⟩
  cases e with
  | normal => exact fin hq
  | ret => exact fin hq
  | exit id => exact hq.elim
  | goto l => exact hq.elim
  | panic ch => exact hq.elim
  | outgrown => exact hq.elim
end
end PM
