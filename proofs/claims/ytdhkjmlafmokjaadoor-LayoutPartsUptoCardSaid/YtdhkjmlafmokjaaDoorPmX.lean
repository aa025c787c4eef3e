/-
  THE PURE MACHINE, X: walking by steps whose side goals the kernel works out: runs of plain operations, guards, joins, loops, calls, results.
-/
import Derived.Test.YtdhkjmlafmokjaaDoorPmN
import Derived.KernelRfl
namespace PM
open Go Go.RowKit

/-- Plain operations, one after the other; the second part tells whether all could be worked out. -/
def pxr (P : Program) (Gl : Nat → Option (List PV)) : List (Oper × Gd) → PSt → PSt × Bool
  | [], s => (s, true)
  | (o, .always) :: r, s => match callOf o.op with
    | none => match evO P Gl o.dst o.op s.ev s.H s.T s.X with
      | some (v, e) => pxr P Gl r ((e.app s).put o.dst v)
      | none => (s, false)
    | some _ => (s, false)
  | (o, .never) :: r, s => pxr P Gl r (s.put o.dst (.tup []))
  | (o, .slot t _) :: r, s => match s.get t with
    | .tup [] => pxr P Gl r (s.put o.dst (.tup []))
    | _ => (s, false)
  | (_, .bad) :: _, s => (s, false)

section
variable {P : Program} {Gl : Nat → Option (List PV)} {d : Bool} {L : List (Oper × Gd)} {s : PSt} {Q : PSt → Prop}
theorem pops_pxr : ∀ (l1 l2 : List (Oper × Gd)) (s : PSt), (pxr P Gl l1 s).2 = true → pops P Gl d l2 (pxr P Gl l1 s).1 Q → pops P Gl d (l1 ++ l2) s Q
  | [], l2, s, _, h => h
  | (o, .always) :: r, l2, s, h1, h2 => by
    simp only [List.cons_append, pops, gdStep]
    refine .inl ?_
    simp only [stepO]
    unfold pxr at h1 h2
    cases hc : callOf o.op with
    | some y => simp [hc] at h1
    | none =>
      simp only [hc] at h1 h2 ⊢
      cases he : evO P Gl o.dst o.op s.ev s.H s.T s.X with
      | none => simp [he] at h1
      | some y =>
        simp only [he] at h1 h2 ⊢
        exact ⟨y, rfl, pops_pxr r l2 _ h1 h2⟩
  | (o, .never) :: r, l2, s, h1, h2 => by
    simp only [List.cons_append, pops, gdStep]
    exact pops_pxr r l2 _ h1 h2
  | (o, .slot t w) :: r, l2, s, h1, h2 => by
    simp only [List.cons_append, pops, gdStep]
    unfold pxr at h1 h2
    split at h1
    · rename_i hu
      simp only [hu] at h2 ⊢
      exact pops_pxr r l2 _ h1 h2
    · cases h1
  | (o, .bad) :: r, l2, s, h1, h2 => by simp [pxr] at h1
/-- The next n operations are plain. -/
theorem p_run (n : Nat) (h : (pxr P Gl (L.take n) s).2 = true) (h2 : pops P Gl d (L.drop n) (pxr P Gl (L.take n) s).1 Q) : pops P Gl d L s Q := by
  have := pops_pxr (d := d) (Q := Q) (L.take n) (L.drop n) s h h2
  rwa [List.take_append_drop] at this
/-- All that is left is plain. -/
theorem p_end (h : (pxr P Gl L s).2 = true) (h2 : Q (pxr P Gl L s).1) : pops P Gl d L s Q := by
  have := pops_pxr (d := d) (Q := Q) L [] s h h2
  rwa [List.append_nil] at this
/-- The operation at the head, if it is no call. -/
def evHd (P : Program) (Gl : Nat → Option (List PV)) : List (Oper × Gd) → PSt → Option (PV × Eff)
  | (o, .always) :: _, s => match callOf o.op with
    | none => evO P Gl o.dst o.op s.ev s.H s.T s.X
    | some _ => none
  | _, _ => none
def dstHd : List (Oper × Gd) → Option Nat
  | (o, _) :: _ => o.dst
  | [] => none
theorem p_step {v : PV} {e : Eff} (h : evHd P Gl L s = some (v, e)) (h2 : pops P Gl d (L.drop 1) ((e.app s).put (dstHd L) v) Q) : pops P Gl d L s Q := by
  match L, h, h2 with
  | (o, .always) :: r, h, h2 =>
    simp only [evHd] at h
    simp only [pops, gdStep]
    refine .inl ?_
    simp only [stepO]
    cases hc : callOf o.op with
    | some y => simp [hc] at h
    | none => simp only [hc] at h ⊢; exact ⟨(v, e), h, h2⟩

/-! ### Values said less of, by computation -/
def coerce1 (p q : PV) : PV :=
  match p with
  | .any => .any
  | .lst .frozen k b _ => match q with
    | .lst (.own _) k b xss => .lst .frozen k b xss
    | .lst .full k b xss => .lst .frozen k b xss
    | .nil => .lst .frozen k b []
    | q => q
  | .lst .full k b _ => match q with
    | .nil => .lst .full k b []
    | q => q
  | _ => q
def coerceL : List PV → List PV → List PV
  | p :: ps, q :: qs => coerce1 p q :: coerceL ps qs
  | _, qs => qs
def coerceA (p q : PV) : PV :=
  match p with
  | .agg ps => match q with
    | .agg qs => .agg (coerceL ps qs)
    | q => q
  | p => coerce1 p q
def coerceAL : List PV → List PV → List PV
  | p :: ps, q :: qs => coerceA p q :: coerceAL ps qs
  | _, qs => qs
def coerceV (p q : PV) : PV :=
  match p with
  | .tup ps => match q with
    | .tup qs => .tup (coerceAL ps qs)
    | q => q
  | p => coerceA p q
def coerceO (p q : PObj) : PObj :=
  match p with
  | .cells ps => match q with
    | .cells qs => .cells (coerceL ps qs)
    | q => q
  | .map _ => q
  | .iter _ _ => q

section
variable {H : Nat → Option PObj} {T : Nat → Option (Nat × Nat)}
theorem coerce1_cases (p q : PV) : coerce1 p q = q ∨ Wk1 H T q (coerce1 p q) := by
  unfold coerce1
  split
  · exact .inr (.any _)
  · split
    · exact .inr (.thaw _ _ _ _)
    · exact .inr (.full _ _ _)
    · exact .inr (.nil _ _ _ (.inl rfl))
    · exact .inl rfl
  · split
    · exact .inr (.nil _ _ _ (.inr rfl))
    · exact .inl rfl
  · exact .inl rfl
theorem coerce1_wk {p q : PV} (h : live1 H T (coerce1 p q) = true) : Wk1 H T q (coerce1 p q) := by
  rcases coerce1_cases (H := H) (T := T) p q with e | e
  · rw [e] at h ⊢; exact .same _ h
  · exact e
theorem coerceL_wk : ∀ {ps qs : List PV}, (coerceL ps qs).all (live1 H T) = true → All2 (Wk1 H T) qs (coerceL ps qs)
  | p :: ps, q :: qs, h => by
    simp only [coerceL, List.all_cons, Bool.and_eq_true] at h ⊢
    exact .cons (coerce1_wk h.1) (coerceL_wk h.2)
  | [], qs, h => by
    simp only [coerceL] at h ⊢
    exact ⟨rfl, fun i x y hx hy => by rw [hx] at hy; cases hy; exact .same _ (List.all_eq_true.1 h x (List.mem_of_getElem? hx))⟩
  | p :: ps, [], h => by simp only [coerceL]; exact .nil
theorem Wk1.wkA {p q : PV} (h : Wk1 H T p q) (hp : ∀ vs, p ≠ .tup vs) (hq : ∀ cs, p = .agg cs → q = .any) : WkA H T p q := by
  cases h with
  | any => exact .any _
  | same _ h =>
    refine .same _ ?_ hp
    cases p <;> first | exact h | (have := hq _ rfl; cases this)
  | thaw => exact .thaw _ _ _ _
  | full => exact .full _ _ _
  | nil o k b ho => exact .nil _ _ _ ho
theorem coerce1_agg (p : PV) (cs : List PV) : coerce1 p (.agg cs) = .agg cs ∨ p = .any := by
  unfold coerce1
  split
  · exact .inr rfl
  all_goals exact .inl rfl
theorem coerce1_one (p q : PV) : coerce1 p q = q ∨ coerce1 p q = .any ∨ (coerce1 p q).one = true := by
  unfold coerce1
  split
  · exact .inr (.inl rfl)
  · split <;> first | exact .inr (.inr rfl) | exact .inl rfl
  · split <;> first | exact .inr (.inr rfl) | exact .inl rfl
  · exact .inl rfl
theorem live_one {p : PV} (h : p.one = true ∨ p = .any) : liveA H T p = live1 H T p := by
  cases p <;> first | rfl | (rcases h with h | h <;> cases h)
theorem coerce1_wkA {p q : PV} (hq : ∀ vs, q ≠ .tup vs) (h : liveA H T (coerce1 p q) = true) : WkA H T q (coerce1 p q) := by
  rcases coerce1_one p q with e | e | e
  · rw [e] at h ⊢; exact .same _ h hq
  · rw [e]; exact .any _
  · rw [live_one (.inl e)] at h
    refine Wk1.wkA (coerce1_wk h) hq fun cs hc => ?_
    subst hc
    rcases coerce1_agg p cs with e' | rfl
    · rw [e'] at e; cases e
    · rfl
theorem coerceA_wk {p q : PV} (hq : ∀ vs, q ≠ .tup vs) (h : liveA H T (coerceA p q) = true) : WkA H T q (coerceA p q) := by
  cases p
  case agg ps =>
    cases q
    case agg qs =>
      simp only [coerceA, liveA] at h ⊢
      exact .agg _ _ (coerceL_wk h)
    all_goals (simp only [coerceA] at h ⊢; exact .same _ h hq)
  all_goals (simp only [coerceA] at h ⊢; exact coerce1_wkA hq h)
theorem coerceAL_wk : ∀ {ps qs : List PV}, (∀ q ∈ qs, ∀ vs, q ≠ .tup vs) → (coerceAL ps qs).all (liveA H T) = true → All2 (WkA H T) qs (coerceAL ps qs)
  | p :: ps, q :: qs, hq, h => by
    simp only [coerceAL, List.all_cons, Bool.and_eq_true] at h ⊢
    exact .cons (coerceA_wk (hq q (by simp)) h.1) (coerceAL_wk (fun q hq' => hq q (by simp [hq'])) h.2)
  | [], qs, hq, h => by
    simp only [coerceAL] at h ⊢
    exact ⟨rfl, fun i x y hx hy => by rw [hx] at hy; cases hy; exact .same _ (List.all_eq_true.1 h x (List.mem_of_getElem? hx)) (hq x (List.mem_of_getElem? hx))⟩
  | p :: ps, [], hq, h => by simp only [coerceAL]; exact .nil
def noTups : PV → Bool
  | .tup vs => vs.all noTup
  | _ => true
theorem noTup_ne {q : PV} (h : noTup q = true) (vs : List PV) : q ≠ .tup vs := fun e => by subst e; cases h
theorem coerceA_ne {p q : PV} (hq : ∀ vs, q ≠ .tup vs) (vs : List PV) : coerceA p q ≠ .tup vs := by
  intro hz
  have other : ∀ p, coerce1 p q ≠ .tup vs := fun p hz => by
    rcases coerce1_one p q with e | e | e
    · exact hq vs (e.symm.trans hz)
    · rw [hz] at e; cases e
    · rw [hz] at e; cases e
  cases p
  case agg ps =>
    cases q
    case tup vs' => exact hq vs' rfl
    all_goals (simp only [coerceA] at hz; cases hz)
  all_goals (simp only [coerceA] at hz; exact other _ hz)
theorem coerceV_wk {p q : PV} (hn : noTups q = true) (h : liveV H T (coerceV p q) = true) : WkV H T q (coerceV p q) := by
  have other : ∀ p : PV, (∀ vs, q ≠ .tup vs) → liveV H T (coerceA p q) = true → WkV H T q (coerceA p q) := fun p hq h => by
    refine .part _ _ (coerceA_wk hq ?_)
    have hne := coerceA_ne (p := p) hq
    generalize coerceA p q = z at h hne
    cases z
    case tup vs => exact absurd rfl (hne vs)
    all_goals exact h
  by_cases hq : ∃ vs, q = .tup vs
  · obtain ⟨qs, rfl⟩ := hq
    by_cases hp : ∃ ps, p = .tup ps
    · obtain ⟨ps, rfl⟩ := hp
      simp only [coerceV, liveV] at h ⊢
      exact .tup _ _ (coerceAL_wk (fun q hq => noTup_ne (List.all_eq_true.1 hn q hq)) h)
    · by_cases ha : p = .any
      · subst ha; exact .any _
      · have e : coerceV p (.tup qs) = .tup qs := by
          cases p <;> first | exact absurd rfl ha | exact absurd ⟨_, rfl⟩ hp | rfl | skip
          rename_i o k b xss
          cases o <;> rfl
        rw [e] at h ⊢
        exact .same _ h
  · have hq' : ∀ vs, q ≠ .tup vs := fun vs e => hq ⟨vs, e⟩
    cases p
    case tup ps =>
      have e : coerceV (.tup ps) q = q := by cases q <;> first | rfl | exact absurd rfl (hq' _)
      rw [e] at h ⊢
      exact .same _ h
    all_goals (simp only [coerceV] at h ⊢; exact other _ hq' h)
end
end
end PM
