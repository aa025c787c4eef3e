/-
  THE PURE MACHINE, Y: states given by what is live in them (JS); joins, loops, guards, calls and results by computation.
-/
import Derived.Test.YtdhkjmlafmokjaaDoorPmX
namespace PM
open Go Go.RowKit

/-- A state, by its live parts. -/
structure JS where
  tm : List (Nat × PV)
  H : List (Nat × PObj)
  T : List (Nat × (Nat × Nat))
  X : List (Nat × (Nat × Nat × List (List PV)))
def fnOf {α : Type} (l : List (Nat × α)) : Nat → Option α := fun i => l.lookup i
def tmFrom (l : List (Nat × PV)) : Nat → Nat → List PV
  | 0, _ => []
  | n + 1, i => (l.lookup i).getD .any :: tmFrom l n (i + 1)
def JS.st (n : Nat) (j : JS) : PSt := ⟨tmFrom j.tm n 0, fnOf j.H, fnOf j.T, fnOf j.X⟩
def liveO (H : Nat → Option PObj) (T : Nat → Option (Nat × Nat)) : PObj → Bool
  | .cells cs => cs.all (live1 H T)
  | .map _ => true
  | .iter _ _ => true
/-- All that is kept is live. -/
def JS.ok (j : JS) : Bool := (j.tm.all fun x => liveV (fnOf j.H) (fnOf j.T) x.2) && (j.H.all fun x => liveO (fnOf j.H) (fnOf j.T) x.2) && (j.X.all fun x => (fnOf j.T x.1).isSome)
/-- What the state says of j's parts. -/
def JS.seen (j : JS) (s : PSt) : Nat × Bool × List PV × List (Option PObj) × List (Option (Nat × Nat)) × List (Option (Nat × Nat × List (List PV))) :=
  (s.tm.length, j.tm.all (fun x => noTups (s.get x.1)), j.tm.map (fun x => coerceV x.2 (s.get x.1)), j.H.map (fun x => (s.H x.1).map (coerceO x.2)), j.T.map (fun x => s.T x.1), j.X.map fun x => s.X x.1)
def JS.told (n : Nat) (j : JS) : Nat × Bool × List PV × List (Option PObj) × List (Option (Nat × Nat)) × List (Option (Nat × Nat × List (List PV))) :=
  (n, true, j.tm.map (·.2), j.H.map (fun x => some x.2), j.T.map (fun x => some x.2), j.X.map fun x => some x.2)

section
variable {P : Program} {Gl : Nat → Option (List PV)} {s : PSt} {n : Nat} {j : JS}
theorem mem_lookup {α : Type} {l : List (Nat × α)} {i : Nat} {x : α} (h : l.lookup i = some x) : (i, x) ∈ l := by
  induction l with
  | nil => cases h
  | cons y l ih =>
    obtain ⟨k, y⟩ := y
    rw [List.lookup_cons] at h
    by_cases e : i == k
    · rw [e] at h; simp at h; have : i = k := by simpa using e
      subst this; subst h; simp
    · simp [e] at h; exact List.mem_cons_of_mem _ (ih h)
theorem tmFrom_length (l : List (Nat × PV)) : ∀ (n i : Nat), (tmFrom l n i).length = n
  | 0, _ => rfl
  | n + 1, i => by simp [tmFrom, tmFrom_length l n]
theorem tmFrom_get (l : List (Nat × PV)) : ∀ (n i k : Nat), k < n → (tmFrom l n i)[k]? = some ((l.lookup (i + k)).getD .any)
  | 0, _, _, h => by omega
  | n + 1, i, 0, _ => by simp [tmFrom]
  | n + 1, i, k + 1, h => by
    simp only [tmFrom, List.getElem?_cons_succ]
    rw [tmFrom_get l n (i + 1) k (by omega), show i + 1 + k = i + (k + 1) by omega]
theorem coerceO_wk {H : Nat → Option PObj} {T : Nat → Option (Nat × Nat)} {p q : PObj} (h : liveO H T (coerceO p q) = true) : WkO H T q (coerceO p q) := by
  have same : ∀ q, liveO H T q = true → WkO H T q q := fun q h => by
    cases q with
    | cells cs => exact .cells _ _ ⟨rfl, fun i x y hx hy => by rw [hx] at hy; cases hy; exact .same _ (List.all_eq_true.1 h x (List.mem_of_getElem? hx))⟩
    | map es => exact .map _
    | iter b pos => exact .iter _ _
  cases p with
  | cells ps =>
    cases q with
    | cells qs => exact .cells _ _ (coerceL_wk h)
    | map es => exact same _ h
    | iter b pos => exact same _ h
  | map es => exact same _ h
  | iter b pos => exact same _ h
theorem map_told {α β : Type} {f g : α → β} : ∀ {l : List α}, l.map f = l.map g → ∀ x ∈ l, f x = g x
  | [], _, x, hx => by cases hx
  | y :: l, h, x, hx => by
    simp only [List.map_cons, List.cons.injEq] at h
    rcases List.mem_cons.1 hx with rfl | hx
    · exact h.1
    · exact map_told h.2 x hx
theorem JS.weaker (hok : j.ok = true) (h : j.seen s = j.told n) : Weaker s (j.st n) := by
  simp only [JS.seen, JS.told, Prod.mk.injEq] at h
  obtain ⟨h1, h2, h3, h4, h5, h6'⟩ := h
  simp only [JS.ok, Bool.and_eq_true] at hok
  obtain ⟨hok, hokX⟩ := hok
  refine ⟨⟨by simp [JS.st, tmFrom_length, h1], fun i q p hq hp => ?_⟩, fun l ob' hob => ?_, fun t x hx => ?_, fun t x hx => ⟨map_told h6' _ (mem_lookup hx), List.all_eq_true.1 hokX _ (mem_lookup hx)⟩⟩
  · have hi : i < n := by rw [← h1]; exact (List.getElem?_eq_some_iff.1 hq).1
    simp only [JS.st] at hp
    rw [tmFrom_get _ _ _ _ hi, Nat.zero_add] at hp
    cases hl : j.tm.lookup i with
    | none => rw [hl] at hp; cases hp; exact .any _
    | some p' =>
      rw [hl] at hp
      have hpp : p' = p := by simpa using hp
      subst hpp
      have hm := mem_lookup hl
      have e := map_told h3 _ hm
      have hg : s.get i = q := by simp [PSt.get, hq]
      simp only [hg] at e
      have hn := List.all_eq_true.1 h2 _ hm
      have hlive := List.all_eq_true.1 hok.1 _ hm
      simp only [hg] at hn
      have := coerceV_wk (p := p') (q := q) (H := fnOf j.H) (T := fnOf j.T) hn (by rw [e]; exact hlive)
      rwa [e] at this
  · have hm := mem_lookup hob
    have e := map_told h4 _ hm
    obtain ⟨ob, h6, h7⟩ := Option.map_eq_some_iff.1 e
    refine ⟨ob, h6, ?_⟩
    have := coerceO_wk (p := ob') (q := ob) (H := fnOf j.H) (T := fnOf j.T) (by rw [h7]; exact List.all_eq_true.1 hok.2 _ hm)
    rwa [h7] at this
  · exact map_told h5 _ (mem_lookup hx)
/-- Behind this point, only j is known. -/
theorem r_weak {c : Code} {Q : Exit → PSt → Prop} (j : JS) (n : Nat) (hok : j.ok = true) (h : j.seen s = j.told n) (hp : pwp P Gl c Q (j.st n)) : pwp P Gl c Q s := pwp_weak (JS.weaker hok h) hp

/-! ### Structure -/
section
variable {Q : Exit → PSt → Prop} {x y : Code} {id k : Nat}
theorem q_next (h : pwp P Gl y Q s) : seqQ P Gl y Q .normal s := h
theorem q_seq_exit (h : Q (.exit k) s) : seqQ P Gl y Q (.exit k) s := h
theorem q_seq_ret (h : Q .ret s) : seqQ P Gl y Q .ret s := h
theorem q_block (h : Q .normal s) : blockQ id Q .normal s := h
theorem q_block_ret (h : Q .ret s) : blockQ id Q .ret s := h
theorem q_block_hit (h : Q .normal s) : blockQ id Q (.exit id) s := by simpa [blockQ] using h
theorem q_block_miss (hk : (k == id) = false) (h : Q (.exit k) s) : blockQ id Q (.exit k) s := by
  have : k ≠ id := by simpa using hk
  simpa [blockQ, this] using h
theorem r_cond_t {c : Operand} {b : Bool} (hb : b = true) (h : s.ev c = .bool b) (hp : pwp P Gl x Q s) : pwp P Gl (.cond c x y) Q s := pwp_cond h (fun _ => hp) (fun e => by rw [hb] at e; cases e)
theorem r_cond_f {c : Operand} {b : Bool} (hb : b = false) (h : s.ev c = .bool b) (hp : pwp P Gl y Q s) : pwp P Gl (.cond c x y) Q s := pwp_cond h (fun e => by rw [hb] at e; cases e) (fun _ => hp)
end

/-! ### Guards -/
section
variable {d : Bool} {L : List (Oper × Gd)} {Q : PSt → Prop}
/-- A choice by a condition that is known. -/
def sop (t : Nat) (b : Bool) (o : Oper) : Oper :=
  match o.op with
  | .pick (.tmp t') x y => if t' == t then { o with op := .move (if b = true then x else y) } else o
  | _ => o
theorem sop_dst (t : Nat) (b : Bool) (o : Oper) : (sop t b o).dst = o.dst := by
  unfold sop; split
  · split <;> rfl
  · rfl
theorem sop_step {t : Nat} {b : Bool} {o : Oper} {K : PSt → Prop} (hg : s.get t = .bool b) (h : stepO P Gl d (sop t b o) s K) : stepO P Gl d o s K := by
  unfold sop at h
  split at h
  · rename_i t' x y hop
    split at h
    · rename_i ht
      have ht : t' = t := by simpa using ht
      subst ht
      simp only [stepO, callOf, evO, memOp, Bool.false_eq_true, if_false, ev1] at h
      simp only [stepO, hop, callOf, evO, memOp, Bool.false_eq_true, if_false, ev1]
      have : s.ev (.tmp t') = .bool b := hg
      rw [this]
      cases b <;> simpa using h
    · exact h
  · exact h
theorem sop_eq {t : Nat} {b : Bool} {o : Oper} (h : isMove (sop t b o).op = false) : sop t b o = o := by
  unfold sop at h ⊢
  split
  · rename_i t' x y hop
    split
    · rename_i ht
      simp only [hop] at h
      rw [if_pos ht] at h
      simp [isMove] at h
    · rfl
  · rfl
def settle (t : Nat) (b : Bool) : List (Oper × Gd) → List (Oper × Gd)
  | [] => []
  | (o, .slot t' w) :: r => (sop t b o, if t' == t then (if b == w then .always else .never) else .slot t' w) :: settle t b r
  | (o, .always) :: r => (sop t b o, .always) :: settle t b r
  | (o, .never) :: r => (sop t b o, .never) :: settle t b r
  | (o, .bad) :: r => (sop t b o, .bad) :: settle t b r
def spares (t : Nat) : List (Oper × Gd) → Bool
  | [] => true
  | (o, _) :: r => (o.dst != some t) && spares t r
theorem get_put_ne {t : Nat} {dst : Option Nat} {v : PV} (h : (dst != some t) = true) : (s.put dst v).get t = s.get t := by
  cases dst with
  | none => rfl
  | some i =>
    have : i ≠ t := by simpa using h
    simp [PSt.get, PSt.put, this]
theorem addToks_tm (d : Nat) : ∀ (l : List (Nat × (Nat × Nat))) (s : PSt), (addToks d s l).tm = s.tm
  | [], s => rfl
  | (t, x) :: r, s => by simp only [addToks]; rw [addToks_tm d r]
theorem settle_sound {t : Nat} {b : Bool} : ∀ (L : List (Oper × Gd)) (s : PSt), spares t L = true → s.get t = .bool b → pops P Gl d (settle t b L) s Q → pops P Gl d L s Q
  | [], s, _, _, h => h
  | (o, g) :: r, s, hs, hg, h => by
    simp only [spares, Bool.and_eq_true] at hs
    have rest : ∀ v, pops P Gl d (settle t b r) (s.put o.dst v) Q → pops P Gl d r (s.put o.dst v) Q := fun v h => settle_sound r _ hs.2 ((get_put_ne hs.1).trans hg) h
    have step : stepOp P Gl d (sop t b o) s (fun s' => pops P Gl d (settle t b r) s' Q) → stepOp P Gl d o s (fun s' => pops P Gl d r s' Q) := by
      rintro (h | ⟨d1, d2, n, v, h1, h2⟩)
      rotate_left
      · have e := sop_eq d2
        rw [e] at d2 h1 h2
        refine .inr ⟨d1, d2, n, v, h1, settle_sound r _ hs.2 ?_ h2⟩
        rw [get_put_ne hs.1]
        simpa [PSt.get, semNew] using hg
      refine .inl ?_
      have h := sop_step hg h
      revert h
      unfold stepO
      split
      · rintro ⟨f, caps, as, rr, e1, e2, e3, e4, e5, e6, e7⟩
        refine ⟨f, caps, as, rr, e1, e2, e3, e4, e5, e6, settle_sound r _ hs.2 ?_ e7⟩
        rw [get_put_ne hs.1]
        simpa [PSt.get, addToks_tm] using hg
      · rintro ⟨x, e1, e2⟩
        refine ⟨x, e1, settle_sound r _ hs.2 ?_ e2⟩
        rw [get_put_ne hs.1]
        cases hx : x.2 <;> simpa [Eff.app, PSt.get] using hg
    cases g with
    | always => simp only [settle, pops, gdStep] at h ⊢; exact step h
    | never => simp only [settle, pops, gdStep, sop_dst] at h ⊢; exact rest _ h
    | bad => simp only [settle, pops, gdStep] at h
    | slot t' w =>
      simp only [settle] at h
      by_cases ht : t' = t
      · subst ht
        simp only [beq_self_eq_true, if_true] at h
        simp only [pops, gdStep, hg]
        by_cases hw : b = w
        · subst hw
          simp only [beq_self_eq_true, if_true, pops, gdStep] at h
          exact ⟨fun _ => step h, fun e => by cases b <;> cases e⟩
        · rw [if_neg (by simpa using hw)] at h
          simp only [pops, gdStep, sop_dst] at h
          exact ⟨fun e => absurd e hw, fun _ => rest _ h⟩
      · rw [if_neg (by simpa using ht)] at h
        simp only [pops, gdStep, sop_dst] at h ⊢
        split
        · rename_i b' hb'
          simp only [hb'] at h
          exact ⟨fun e => step (h.1 e), fun e => rest _ (h.2 e)⟩
        · rename_i hu
          simp only [hu] at h
          exact rest _ h
        · rename_i hne hnu
          split at h
          · rename_i b' hb'; exact absurd hb' (hne _)
          · rename_i hu; exact absurd hu hnu
          · exact h
/-- A guard's condition is known. -/
theorem p_settle {b c : Bool} (t : Nat) (hb : b = c) (hg : s.get t = .bool b) (hs : spares t L = true) (h : pops P Gl d (settle t c L) s Q) : pops P Gl d L s Q := by
  subst hb; exact settle_sound L s hs hg h
/-- The first m operations end in a state of which only this is kept: the slots that they write are forgotten, but for one. -/
def wipe : List (Oper × Gd) → PSt → PSt
  | [], s => s
  | (o, _) :: r, s => wipe r (s.put o.dst .any)
theorem pops_append : ∀ (l1 l2 : List (Oper × Gd)) (s : PSt), pops P Gl d l1 s (fun s' => pops P Gl d l2 s' Q) → pops P Gl d (l1 ++ l2) s Q
  | [], l2, s, h => h
  | (o, g) :: r, l2, s, h => by
    simp only [List.cons_append, pops] at h ⊢
    have step : stepOp P Gl d o s (fun s' => pops P Gl d r s' fun s' => pops P Gl d l2 s' Q) → stepOp P Gl d o s (fun s' => pops P Gl d (r ++ l2) s' Q) := by
      rintro (h | ⟨d1, d2, n, v, h1, h2⟩)
      rotate_left
      · exact .inr ⟨d1, d2, n, v, h1, pops_append r l2 _ h2⟩
      refine .inl ?_
      revert h
      unfold stepO
      split
      · rintro ⟨f, caps, as, rr, e1, e2, e3, e4, e5, e6, e7⟩
        exact ⟨f, caps, as, rr, e1, e2, e3, e4, e5, e6, pops_append r l2 _ e7⟩
      · rintro ⟨x, e1, e2⟩
        exact ⟨x, e1, pops_append r l2 _ e2⟩
    have rest := pops_append r l2 (s.put o.dst (.tup []))
    cases g with
    | always => exact step h
    | never => exact rest h
    | bad => exact h
    | slot t w =>
      simp only [gdStep] at h ⊢
      split at h
      · exact ⟨fun e => step (h.1 e), fun e => rest (h.2 e)⟩
      · exact rest h
      · exact h.elim
end
end
end PM
