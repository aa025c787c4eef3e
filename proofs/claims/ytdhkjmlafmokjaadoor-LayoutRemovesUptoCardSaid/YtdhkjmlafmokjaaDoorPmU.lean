/-
  THE PURE MACHINE, U: the rules of a typed walk: regions, calls, results, loops, elements, lengths, appends.
-/
import Derived.Test.YtdhkjmlafmokjaaDoorPmZ
namespace PM
open Go Go.RowKit

section
variable {P : Program} {Gl : Nat → Option (List PV)} {s s1 : PSt} {d : Bool} {L : List (Oper × Gd)}
/-! ### Regions -/
theorem Inv.fade {S0 : Bs} {w0 w : World} {a : Act} (h : Inv Gl S0 w0 s a w) (hf : Fade s s1) : Inv Gl S0 w0 s1 a w := by
  obtain ⟨g, rfl, hg⟩ := h
  refine ⟨g, rfl, { hg with hH := hg.hH.trans hf.H, hT := hg.hT.trans hf.T, exs := hf.X ▸ hg.exs, exsEx := hf.X ▸ hg.exsEx, len := hf.tm.1.symm.trans hg.len, tm := fun i p v hp hv => ?_ }⟩
  obtain ⟨q, hq, e⟩ := hf.tm.left hp
  rcases e with rfl | rfl
  · exact hg.tm i _ v hq hv
  · exact Rel.any _ _
section
variable {Q : Exit → PSt → Prop} {id : Nat} {ops : Array Oper}
theorem r_reg (h : pops P Gl false (withGd ops) s (Up (Q .normal))) : pwp P Gl (.region id ops false) Q s := fun S0 w0 a w hi =>
  wp_region_list (pops_sound (S0 := S0) (w0 := w0) (fun _ _ _ q i => let ⟨s2, h1, h2⟩ := q; ⟨s2, h2, i.fade h1⟩) ops.toList s a w hi h)
end
section
variable {Q : PSt → Prop}
/-- All that is left is plain. -/
theorem e_end (h : (pxr P Gl L s).2 = true) (h2 : Q (pxr P Gl L s).1) : pops P Gl d L s (Up Q) := p_end h (.intro h2)
theorem e_nil (h : L.isEmpty = true) (h2 : Q s) : pops P Gl d L s (Up Q) := by
  have : L = [] := by simpa using h
  subst this; exact .intro h2
def fadeTm : List PV → List PV → List PV
  | p :: ps, q :: qs => (match p with | .any => .any | _ => q) :: fadeTm ps qs
  | _, qs => qs
theorem fadeTm_spec : ∀ {ps qs : List PV}, fadeTm ps qs = ps → qs.length = ps.length → All2 (fun q p => p = q ∨ p = .any) qs ps
  | [], [], _, _ => .nil
  | p :: ps, q :: qs, h, hl => by
    simp only [fadeTm, List.cons.injEq] at h
    refine .cons ?_ (fadeTm_spec h.2 (by simpa using hl))
    have h1 := h.1
    split at h1
    · exact .inr rfl
    · exact .inl h1.symm
theorem fade_of (h : (s.H, s.T, s.X, s.tm.length, fadeTm s1.tm s.tm) = (s1.H, s1.T, s1.X, s1.tm.length, s1.tm)) : Fade s s1 := by
  simp only [Prod.mk.injEq] at h
  exact ⟨h.1, h.2.1, h.2.2.1, fadeTm_spec h.2.2.2.2 h.2.2.2.1⟩
def segSt (m t : Nat) (v : PV) (L : List (Oper × Gd)) (s : PSt) : PSt := (wipe (L.take m) s).put (some t) v
/-- m operations work out one slot's value, on several ways. -/
theorem e_seg (m t : Nat) (v : PV) (h1 : pops P Gl d (L.take m) s fun s' => Fade s' (segSt m t v L s)) (h2 : pops P Gl d (L.drop m) (segSt m t v L s) (Up Q)) : pops P Gl d L s (Up Q) := p_seg m _ h1 h2
/-- One of these ways ends. -/
theorem f_end (h : (pxr P Gl L s).2 = true) (h2 : (((pxr P Gl L s).1).H, ((pxr P Gl L s).1).T, ((pxr P Gl L s).1).X, ((pxr P Gl L s).1).tm.length, fadeTm s1.tm ((pxr P Gl L s).1).tm) = (s1.H, s1.T, s1.X, s1.tm.length, s1.tm)) : pops P Gl d L s fun s' => Fade s' s1 :=
  p_end h (fade_of h2)
theorem f_nil (h : L.isEmpty = true) (h2 : (s.H, s.T, s.X, s.tm.length, fadeTm s1.tm s.tm) = (s1.H, s1.T, s1.X, s1.tm.length, s1.tm)) : pops P Gl d L s fun s' => Fade s' s1 := by
  have : L = [] := by simpa using h
  subst this; exact fade_of h2

/-! ### Calls -/
def dco1 (p q : PV) : PV :=
  match p with
  | .lst .frozen k b _ => match q with
    | .lst .full k b xss => .lst .frozen k b xss
    | .nil => .lst .frozen k b []
    | q => q
  | .lst .full k b _ => match q with
    | .nil => .lst .full k b []
    | q => q
  | _ => q
def dcoL : List PV → List PV → List PV
  | p :: ps, q :: qs => dco1 p q :: dcoL ps qs
  | _, qs => qs
def dcoA (p q : PV) : PV :=
  match p with
  | .agg ps => match q with
    | .agg qs => .agg (dcoL ps qs)
    | q => q
  | p => dco1 p q
def dcoAL : List PV → List PV → List PV
  | p :: ps, q :: qs => dcoA p q :: dcoAL ps qs
  | _, qs => qs
theorem dco1_rel {S : Cells} {w : World} {p q : PV} {v : Value} (h : RelD S w q v) : RelD S w (dco1 p q) v := by
  unfold dco1
  split
  · split
    · exact RelD.unfull h
    · exact RelD.ofNil _ _ (.inl rfl) h
    · exact h
  · split
    · exact RelD.ofNil _ _ (.inr rfl) h
    · exact h
  · exact h
theorem dcoL_rel {S : Cells} {w : World} : ∀ {ps qs : List PV} {vs : List Value}, All2 (RelD S w) qs vs → All2 (RelD S w) (dcoL ps qs) vs
  | p :: ps, q :: qs, vs, h => by
    obtain ⟨v, vs', rfl, h1, h2⟩ := h.cons_left
    exact .cons (dco1_rel h1) (dcoL_rel h2)
  | [], _, _, h => h
  | _ :: _, [], _, h => h
theorem dcoA_rel {S : Cells} {w : World} {p q : PV} {v : Value} (h : RelD S w q v) : RelD S w (dcoA p q) v := by
  unfold dcoA
  split
  · split
    · simp only [RelD] at h ⊢
      obtain ⟨arr, e, h⟩ := h
      exact ⟨arr, e, (relDs_iff _ _).2 (dcoL_rel ((relDs_iff _ _).1 h))⟩
    · exact h
  · exact dco1_rel h
theorem dcoAL_rel {S : Cells} {w : World} : ∀ {ps qs : List PV} {vs : List Value}, All2 (RelD S w) qs vs → All2 (RelD S w) (dcoAL ps qs) vs
  | p :: ps, q :: qs, vs, h => by
    obtain ⟨v, vs', rfl, h1, h2⟩ := h.cons_left
    exact .cons (dcoA_rel h1) (dcoAL_rel h2)
  | [], _, _, h => h
  | _ :: _, [], _, h => h
theorem PCall.coerce {f : FuncId} {as qs : List PV} {r : PV} (h : PCall P Gl f as r) (e : dcoAL as qs = as) : PCall P Gl f qs r :=
  ⟨h.1, fun S w vs hS hG hr => h.2 S w vs hS hG (by rw [← e]; exact dcoAL_rel hr)⟩
/-- The call at the head: function and arguments. -/
def callHd : List (Oper × Gd) → PSt → Option (FuncId × List PV)
  | (o, .always) :: _, s => match callOf o.op with
    | some (x, args) => match s.ev x with
      | .fn f caps => if caps.all capOK = true then (datumAs (args.map s.ev ++ caps)).map fun qs => (f, qs) else none
      | _ => none
    | none => none
  | _, _ => none
def tokB (draw : Bool) (dd : Nat) (T : Nat → Option (Nat × Nat)) : List (Nat × (Nat × Nat)) → Bool
  | [] => true
  | (t, x) :: r => !draw && (T (1000 * dd + t)).isNone && ((r.all fun x => x.1 != t) && x.2 != 0) && tokB draw dd T r
theorem tokB_free {draw : Bool} {dd : Nat} {T : Nat → Option (Nat × Nat)} : ∀ {l : List (Nat × (Nat × Nat))}, tokB draw dd T l = true → toksFree dd T l ∧ (draw = true → l = [])
  | [], _ => ⟨trivial, fun _ => rfl⟩
  | (t, x) :: r, h => by
    rw [tokB, Bool.and_eq_true, Bool.and_eq_true, Bool.and_eq_true, Bool.not_eq_true'] at h
    obtain ⟨⟨⟨h1, h2⟩, h3⟩, h4⟩ := h
    exact ⟨⟨by simpa using h2, h3, (tokB_free h4).1⟩, fun e => by rw [e] at h1; cases h1⟩
/-- A call, by its contract. -/
theorem p_call {f : FuncId} {as : List PV} {r : PV} (hc : PCall P Gl f as r) (h : (callHd L s).map (fun x => (x.1, dcoAL as x.2)) = some (f, as)) (ht : tokB d ((dstHd L).getD 0) s.T (toksV r) = true)
    (h2 : pops P Gl d (L.drop 1) ((addToks ((dstHd L).getD 0) s (toksV r)).put (dstHd L) (retokV ((dstHd L).getD 0) r)) Q) : pops P Gl d L s Q := by
  obtain ⟨y, h3, h4⟩ := Option.map_eq_some_iff.1 h
  match L, h3, ht, h2 with
  | (o, .always) :: rest, h3, ht, h2 =>
    simp only [callHd] at h3
    simp only [pops, gdStep]
    refine .inl ?_
    simp only [stepO]
    cases hco : callOf o.op with
    | none => simp [hco] at h3
    | some xa =>
      obtain ⟨x, args⟩ := xa
      simp only [hco] at h3 ⊢
      split at h3
      · rename_i f' caps hx
        split at h3
        · rename_i hcap
          obtain ⟨qs, h5, rfl⟩ := Option.map_eq_some_iff.1 h3
          simp only [Prod.mk.injEq] at h4
          obtain ⟨rfl, h6⟩ := h4
          exact ⟨f', caps, qs, r, hx, hcap, h5, hc.coerce h6, (tokB_free ht).1, (tokB_free ht).2, h2⟩
        · cases h3
      · cases h3
end

/-! ### Results -/
def finRes (P : Program) (Gl : Nat → Option (List PV)) (rs : List ResultVar) (s : PSt) : Option PV := (resPV P Gl s rs).bind onePV
theorem r_fin {rs : List ResultVar} {r : PV} (h : (finRes P Gl rs s).map (fun v => (noTups v, coerceV r v)) = some (true, r)) (hl : liveV (fun _ => none) (tokT r) r = true)
    (ht : (toksV r).map (fun x => s.T x.1) = (toksV r).map fun x => some x.2) : finalQ P Gl rs r s := by
  obtain ⟨pv, h1, h2⟩ := Option.map_eq_some_iff.1 h
  obtain ⟨vs, h3, h4⟩ := Option.bind_eq_some_iff.1 h1
  simp only [Prod.mk.injEq] at h2
  refine ⟨vs, pv, h3, h4, ?_, fun x hx => map_told ht x hx⟩
  have := coerceV_wk (p := r) (q := pv) (H := fun _ => none) (T := tokT r) h2.1 (by rw [h2.2]; exact hl)
  rwa [h2.2] at this
theorem q_ret {rs : List ResultVar} {r : PV} (h : (finRes P Gl rs s).map (fun v => (noTups v, coerceV r v)) = some (true, r)) (hl : liveV (fun _ => none) (tokT r) r = true)
    (ht : (toksV r).map (fun x => s.T x.1) = (toksV r).map fun x => some x.2) : bodyQ P Gl rs r .ret s := r_fin h hl ht
end

/-! ### Loops -/
section
variable {σ ρ : Type}
inductive LoopN (step : σ → Option (σ ⊕ ρ)) : Nat → σ → ρ → Prop
  | done {s : σ} {r : ρ} (h : step s = some (.inr r)) : LoopN step 0 s r
  | more {s s' : σ} {r : ρ} {n : Nat} (h : step s = some (.inl s')) (hn : LoopN step n s' r) : LoopN step (n + 1) s r
theorem LoopN.det {step : σ → Option (σ ⊕ ρ)} {n m : Nat} {s : σ} {r r' : ρ} (h : LoopN step n s r) (h' : LoopN step m s r') : r = r' := by
  induction h generalizing m with
  | done h =>
    cases h' with
    | done h1 => rw [h] at h1; cases h1; rfl
    | more h1 _ => rw [h] at h1; cases h1
  | more h _ ih =>
    cases h' with
    | done h1 => rw [h] at h1; cases h1
    | more h1 h2 => rw [h] at h1; cases h1; exact ih h2
open Classical in
/-- What a loop comes to. -/
noncomputable def loopC (step : σ → Option (σ ⊕ ρ)) (s : σ) : Option ρ := if h : ∃ r n, LoopN step n s r then some (choose h) else none
theorem loopC_some {step : σ → Option (σ ⊕ ρ)} {s : σ} {r : ρ} : loopC step s = some r ↔ ∃ n, LoopN step n s r := by
  unfold loopC
  constructor
  · intro h
    split at h
    · rename_i hx
      cases h
      exact Classical.choose_spec hx
    · cases h
  · rintro ⟨n, hn⟩
    have hx : ∃ r n, LoopN step n s r := ⟨r, n, hn⟩
    rw [dif_pos hx]
    obtain ⟨m, hm⟩ := Classical.choose_spec hx
    exact congrArg some (hm.det hn)
theorem loopC_eq (step : σ → Option (σ ⊕ ρ)) (s : σ) : loopC step s = (step s).bind fun o => match o with | .inl s' => loopC step s' | .inr r => some r := by
  cases hs : step s with
  | none =>
    cases h : loopC step s with
    | none => rfl
    | some r =>
      obtain ⟨n, hn⟩ := loopC_some.1 h
      cases hn with
      | done h1 => rw [hs] at h1; cases h1
      | more h1 _ => rw [hs] at h1; cases h1
  | some o =>
    simp only [Option.bind_some]
    cases o with
    | inr r => exact loopC_some.2 ⟨0, .done hs⟩
    | inl s' =>
      simp only
      cases h : loopC step s' with
      | some r =>
        obtain ⟨n, hn⟩ := loopC_some.1 h
        exact loopC_some.2 ⟨n + 1, .more hs hn⟩
      | none =>
        cases h' : loopC step s with
        | none => rfl
        | some r =>
          exfalso
          obtain ⟨n, hn⟩ := loopC_some.1 h'
          cases hn with
          | done h1 => rw [hs] at h1; cases h1
          | more h1 h2 =>
            rw [hs] at h1; cases h1
            rw [loopC_some.2 ⟨_, h2⟩] at h; cases h
/-- The same, the first rounds of it in plain words (for closed loops). -/
noncomputable def loopU (step : σ → Option (σ ⊕ ρ)) : Nat → σ → Option ρ
  | 0, s => loopC step s
  | n + 1, s => match step s with
    | some (.inl s') => loopU step n s'
    | some (.inr r) => some r
    | none => none
theorem loopU_eq (step : σ → Option (σ ⊕ ρ)) : ∀ n s, loopU step n s = loopC step s
  | 0, _ => rfl
  | n + 1, s => by
    rw [loopC_eq, loopU]
    cases step s with
    | none => rfl
    | some o => cases o with
      | inl s' => exact loopU_eq step n s'
      | inr r => rfl
noncomputable def loopO (step : σ → Option (σ ⊕ ρ)) (s : σ) : Option ρ := loopU step 65536 s
theorem loopO_C (step : σ → Option (σ ⊕ ρ)) (s : σ) : loopO step s = loopC step s := loopU_eq step 65536 s
theorem loopO_some {step : σ → Option (σ ⊕ ρ)} {s : σ} {r : ρ} : loopO step s = some r ↔ ∃ n, LoopN step n s r := by rw [loopO_C]; exact loopC_some
theorem loopO_eq (step : σ → Option (σ ⊕ ρ)) (s : σ) : loopO step s = (step s).bind fun o => match o with | .inl s' => loopO step s' | .inr r => some r := by
  simp only [loopO_C]; exact loopC_eq step s
def loopPost (J : σ → JS) (n : Nat) (Q : Exit → PSt → Prop) (r : ρ) (o : σ ⊕ ρ) (e : Exit) (s' : PSt) : Prop :=
  match o with
  | .inl v' => e = .normal ∧ (J v').seen s' = (J v').told n
  | .inr r' => r' = r → e ≠ .normal ∧ Q e s'
section
variable {P : Program} {Gl : Nat → Option (List PV)} {s : PSt} {Q : Exit → PSt → Prop} {J : σ → JS} {n k : Nat} {r r' : ρ} {v' : σ}
theorem q_back (h : (J v').seen s = (J v').told n) : loopPost J n Q r (.inl v') .normal s := ⟨rfl, h⟩
theorem q_out_exit (h : r' = r → Q (.exit k) s) : loopPost J n Q r (.inr r') (.exit k) s := fun e => ⟨by simp, h e⟩
theorem q_out_ret (h : r' = r → Q .ret s) : loopPost J n Q r (.inr r') .ret s := fun e => ⟨by simp, h e⟩
theorem r_loop {step : σ → Option (σ ⊕ ρ)} {v : σ} {c : Code} (n : Nat) (J : σ → JS) (hl : loopO step v = some r) (h0 : (J v).seen s = (J v).told n) (hok : ∀ v, (J v).ok = true)
    (hb : ∀ v o, step v = some o → pwp P Gl c (loopPost J n Q r o) ((J v).st n)) : pwp P Gl (.loop c) Q s := by
  obtain ⟨m, hm⟩ := loopO_some.1 hl
  refine pwp_loop (fun m s => ∃ v, LoopN step m v r ∧ s = (J v).st n) m ⟨v, hm, rfl⟩ (JS.weaker (hok v) h0) ?_
  rintro m _ ⟨v, hv, rfl⟩
  cases hv with
  | done h1 =>
    refine pwp_mono (fun e s' hp => ?_) (hb v _ h1)
    obtain ⟨h2, h3⟩ := hp rfl
    cases e <;> first | exact absurd rfl h2 | exact h3
  | more h1 h2 =>
    refine pwp_mono (fun e s' hp => ?_) (hb v _ h1)
    obtain ⟨rfl, h3⟩ := hp
    exact ⟨_, _, Nat.lt_succ_self _, ⟨_, h2, rfl⟩, JS.weaker (hok _) h3⟩
end
end
end PM
