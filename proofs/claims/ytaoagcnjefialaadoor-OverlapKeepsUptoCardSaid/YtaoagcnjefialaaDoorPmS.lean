/-
  THE PURE MACHINE, S: regions that draw their order, continued: the rule r_regd.
-/
import Derived.Test.YtaoagcnjefialaaDoorPmR
namespace PM
open Go Go.RowKit

section
variable {P : Program} {Gl : Nat → Option (List PV)} {ops : Array Oper} {s : PSt} {md : Region.Mode}
def gOn (ops : Array Oper) (o : Oper) (s : PSt) : Option Bool :=
  match gdOf ops o with
  | .always => some true
  | .never => some false
  | .slot t w => match s.get t with
    | .bool b => some (b == w)
    | .tup [] => some false
    | _ => none
  | .bad => none
/-- An operation that is carried out yields this. -/
def StepVal (P : Program) (Gl : Nat → Option (List PV)) (o : Oper) (x : PV × Eff) (s : PSt) : Prop :=
  match callOf o.op with
  | some (f, args) => x.2 = .none ∧ ∃ f' caps as r, s.ev f = .fn f' caps ∧ caps.all capOK = true ∧ PCall P Gl f' as r ∧ ((datumAs (args.map s.ev ++ caps) = some as ∧ toksV r = [] ∧ x.1 = retokV (o.dst.getD 0) r) ∨
    ∃ ts eqs, bdAs ts s (args.map s.ev ++ caps) = some (as, eqs) ∧ eqs.map (·.1) = eqs.map (·.2) ∧ (ts.all lockTk) = true ∧ scal r = true ∧ x.1 = r)
  | none => evO P Gl o.dst o.op s.ev s.H s.T s.X = some x
def YieldsP (P : Program) (Gl : Nat → Option (List PV)) (ops : Array Oper) (o : Oper) (x : PV × Eff) (s : PSt) : Prop :=
  (gOn ops o s = some true ∧ StepVal P Gl o x s) ∨ (gOn ops o s = some false ∧ x = (.tup [], .none))
/-- The state behind it. -/
def goTo (o : Oper) (x : PV × Eff) (s : PSt) : PSt := (x.2.app s).put o.dst x.1
def gOp (P : Program) (Gl : Nat → Option (List PV)) (ops : Array Oper) (o : Oper) (K : PSt → Prop) (s : PSt) : Prop := gdStep (gdOf ops o) s (stepO P Gl true o s K) (K (s.put o.dst (.tup [])))
theorem gOp_iff {o : Oper} {K : PSt → Prop} : gOp P Gl ops o K s ↔ ∃ x, YieldsP P Gl ops o x s ∧ K (goTo o x s) := by
  have hstep : stepO P Gl true o s K ↔ ∃ x, StepVal P Gl o x s ∧ K (goTo o x s) := by
    unfold stepO StepVal goTo
    cases hco : callOf o.op with
    | some fa =>
      obtain ⟨fx, args⟩ := fa
      simp only
      constructor
      · rintro (⟨f, caps, as, r, e1, e2, e3, e4, e5, e6, e7⟩ | ⟨f, caps, as, r, ts, eqs, e1, e2, e3, e4, e5, e6, e7, e8⟩)
        · have ht := e6 rfl
          rw [ht] at e7
          exact ⟨(_, .none), ⟨rfl, f, caps, as, r, e1, e2, e4, .inl ⟨e3, ht, rfl⟩⟩, e7⟩
        · exact ⟨(r, .none), ⟨rfl, f, caps, as, r, e1, e2, e6, .inr ⟨ts, eqs, e3, e4, e5, e7, rfl⟩⟩, e8⟩
      · rintro ⟨⟨v, e⟩, ⟨rfl, f, caps, as, r, e1, e2, e4, ⟨e3, ht, rfl⟩ | ⟨ts, eqs, e3, e5, e6, e7, rfl⟩⟩, hK⟩
        · refine .inl ⟨f, caps, as, r, e1, e2, e3, e4, by rw [ht]; trivial, fun _ => ht, ?_⟩
          rw [ht]; exact hK
        · exact .inr ⟨f, caps, as, _, ts, eqs, e1, e2, e3, e5, e6, e4, e7, hK⟩
    | none =>
      simp only
      constructor
      · rintro ⟨x, e1, e2⟩; exact ⟨x, e1, e2⟩
      · rintro ⟨x, e1, e2⟩; exact ⟨x, e1, e2⟩
  unfold gOp YieldsP gOn gdStep
  cases gdOf ops o with
  | always =>
    simp only [hstep]
    constructor
    · rintro ⟨x, h1, h2⟩; exact ⟨x, .inl ⟨trivial, h1⟩, h2⟩
    · rintro ⟨x, ⟨_, h1⟩ | ⟨h1, _⟩, h2⟩
      · exact ⟨x, h1, h2⟩
      · cases h1
  | never =>
    constructor
    · intro h; exact ⟨(.tup [], .none), .inr ⟨rfl, rfl⟩, h⟩
    · rintro ⟨x, ⟨h1, _⟩ | ⟨_, rfl⟩, h2⟩
      · cases h1
      · exact h2
  | bad => simp
  | slot t w =>
    simp only [hstep]
    cases hg : s.get t
    case bool b =>
      by_cases hb : b = w
      · subst hb
        simp only [beq_self_eq_true, true_and]
        constructor
        · rintro ⟨h1, _⟩
          obtain ⟨x, h2, h3⟩ := h1 trivial
          exact ⟨x, .inl h2, h3⟩
        · rintro ⟨x, h1 | ⟨h1, _⟩, h2⟩
          · exact ⟨fun _ => ⟨x, h1, h2⟩, fun e => by cases b <;> cases e⟩
          · simp at h1
      · have hbw : (b == w) = false := by simpa using hb
        simp only [hbw]
        constructor
        · rintro ⟨_, h1⟩
          exact ⟨(.tup [], .none), .inr ⟨trivial, rfl⟩, h1 (by cases b <;> cases w <;> simp_all)⟩
        · rintro ⟨x, ⟨h1, _⟩ | ⟨_, rfl⟩, h2⟩
          · cases h1
          · exact ⟨fun e => absurd e hb, fun _ => h2⟩
    case tup vs =>
      cases vs with
      | nil =>
        constructor
        · intro h; exact ⟨(.tup [], .none), .inr ⟨rfl, rfl⟩, h⟩
        · rintro ⟨x, ⟨h1, _⟩ | ⟨_, rfl⟩, h2⟩
          · cases h1
          · exact h2
      | cons v vs => simp
    all_goals simp
/-- Whatever order is drawn. -/
def pAny (P : Program) (Gl : Nat → Option (List PV)) (md : Region.Mode) (ops : Array Oper) (Q : PSt → Prop) : Nat → Array Bool → PSt → Prop
  | 0, listed, s => Region.ready md ops listed = [] ∧ Q s
  | fuel + 1, listed, s => (Region.ready md ops listed = [] → Q s) ∧ ∀ i ∈ Region.ready md ops listed, ∃ o, ops[i]? = some o ∧ gOp P Gl ops o (pAny P Gl md ops Q fuel (listed.setIfInBounds i true)) s
theorem gOp_mono {o : Oper} {K K' : PSt → Prop} (h : ∀ s, K s → K' s) (hg : gOp P Gl ops o K s) : gOp P Gl ops o K' s := by
  rw [gOp_iff] at hg ⊢
  obtain ⟨x, h1, h2⟩ := hg
  exact ⟨x, h1, h _ h2⟩
theorem pAny_sound {S0 : Bs} {w0 : World} {Q : PSt → Prop} {Q' : Exit → Act → World → Prop} (hQ : ∀ s' a' w', Q s' → Inv Gl S0 w0 s' a' w' → Q' .normal a' w') :
    ∀ (fuel : Nat) (listed : Array Bool) (s : PSt) (a : Act) (w : World), Inv Gl S0 w0 s a w → pAny P Gl md ops Q fuel listed s → wpAny P md ops Q' fuel listed a w
  | 0, _, _, _, _, hi, h => ⟨h.1, hQ _ _ _ h.2 hi⟩
  | fuel + 1, listed, s, a, w, hi, h => by
    refine ⟨fun h0 => hQ _ _ _ (h.1 h0) hi, fun i hir => ?_⟩
    obtain ⟨o, ho, hg⟩ := h.2 i hir
    unfold wpOp
    simp only [ho]
    obtain ⟨g, rfl, hg'⟩ := hi
    unfold gOp at hg
    rcases wanted_gd hg' hg with ⟨h1, h2⟩ | ⟨h1, h2⟩
    · rw [if_pos h1]
      exact .inl (stepO_sound hg' h2 fun s' a' w' hs' hi' => pAny_sound hQ fuel _ s' a' w' hi' hs')
    · rw [if_neg (by rw [h1]; simp)]
      exact pAny_sound hQ fuel _ _ _ _ ⟨g, rfl, hg'.put _ (Rel.und _)⟩ h2

/-! ### Two operations change places -/
theorem ev_put {dst : Option Nat} {v : PV} {x : Operand} (h : ∀ d, dst = some d → x ≠ .tmp d) : (s.put dst v).ev x = s.ev x := by
  cases dst with
  | none => rfl
  | some d =>
    cases x with
    | tmp t =>
      have : d ≠ t := fun e => h d rfl (by rw [e])
      show (s.put (some d) v).get t = s.get t
      exact get_put_ne (by simpa using this)
    | const v => rfl
    | global g => rfl
    | func f => rfl
theorem ev_app (e : Eff) (x : Operand) : (e.app s).ev x = s.ev x := by
  cases e <;> cases x <;> rfl
theorem get_app (e : Eff) (t : Nat) : (e.app s).get t = s.get t := by cases e <;> rfl
theorem looks_ops {o : Oper} {x : Operand} {d : Nat} (hd : d ∉ o.looksAt ops) (hx : x ∈ o.op.operands) : x ≠ .tmp d := by
  rintro rfl
  exact hd (by simp only [Oper.looksAt, List.mem_append, List.mem_filterMap]; exact .inl ⟨.tmp d, by simpa using hx, rfl⟩)
theorem gOn_goTo {o o' : Oper} {x : PV × Eff} (h : ∀ d, o'.dst = some d → d ∉ o.looksAt ops) : gOn ops o (goTo o' x s) = gOn ops o s := by
  unfold gOn gdOf
  cases hg : o.guard with
  | none => rfl
  | some jw =>
    obtain ⟨j, w⟩ := jw
    simp only
    cases hd : (ops[j]?).bind (·.dst) with
    | none => rfl
    | some t =>
      simp only
      have : (goTo o' x s).get t = s.get t := by
        unfold goTo
        rw [get_put_ne, get_app]
        cases hd' : o'.dst with
        | none => rfl
        | some d =>
          have := h d hd'
          have hne : d ≠ t := fun e => this (by subst e; simp only [Oper.looksAt, hg, hd]; simp)
          simpa using hne
      rw [this]
theorem put_put_comm {a b : Option Nat} {u v : PV} (h : ∀ d, a = some d → b ≠ some d) : (s.put a u).put b v = (s.put b v).put a u := by
  cases a with
  | none => rfl
  | some i =>
    cases b with
    | none => rfl
    | some j =>
      have hne : i ≠ j := fun e => h i rfl (by rw [e])
      by_cases hi : i + s.m < s.tm.length
      · by_cases hj : j + s.m < s.tm.length
        · rw [s.put_in u hi, s.put_in v hj, PSt.put_in _ v (by simpa using hj), PSt.put_in _ u (by simpa using hi)]
          simp only
          rw [List.set_comm _ _ hne]
        · rw [s.put_in u hi, s.put_out v hj, PSt.put_out _ v (by simpa using hj), s.put_in u hi]
      · rw [s.put_out u hi]
        by_cases hj : j + s.m < s.tm.length
        · rw [s.put_in v hj, PSt.put_out _ u (by simpa using hi)]
        · rw [s.put_out v hj, s.put_out u hi]
theorem app_put (e : Eff) (a : Option Nat) (u : PV) : e.app (s.put a u) = (e.app s).put a u := by
  cases a with
  | none => cases e <;> rfl
  | some i =>
    have em : (e.app s).m = s.m := by cases e <;> rfl
    have et : (e.app s).tm = s.tm := by cases e <;> rfl
    by_cases hi : i + s.m < s.tm.length
    · rw [s.put_in u hi, PSt.put_in _ u (by rw [em, et]; exact hi)]
      cases e <;> rfl
    · rw [s.put_out u hi, PSt.put_out _ u (by rw [em, et]; exact hi)]
theorem operands_call {o : Oper} {f : Operand} {args : List Operand} (h : callOf o.op = some (f, args)) : f ∈ o.op.operands ∧ ∀ x ∈ args, x ∈ o.op.operands := by
  obtain ⟨c, h1, h2, h3⟩ := callOf_spec h
  rw [h1]
  simp only [Op.operands, Call.operands, h2, ← h3]
  exact ⟨by simp, fun x hx => by simp only [Array.mem_append]; exact .inr (by simpa using hx)⟩
theorem clOf_call {o : Oper} {y : Operand × List Operand} (h : callOf o.op = some y) : clOf o.op = .pure := by
  obtain ⟨f, args⟩ := y
  obtain ⟨c, h1, h2, h3⟩ := callOf_spec h
  rw [h1]; simp [clOf, h2]
/-- What locked tokens hold is the same. -/
def KeepL (s s' : PSt) : Prop := ∀ t N', lockTk t = true → s.T t = some (N', 0) → s'.X t = s.X t ∧ s'.T t = s.T t
theorem KeepL.of_eq {s s' : PSt} (hT : s'.T = s.T) (hX : s'.X = s.X) : KeepL s s' := fun t _ _ _ => ⟨by rw [hX], by rw [hT]⟩
theorem bd1_keep {ts : List Nat} (hts : (ts.all lockTk) = true) {s s' : PSt} (hk : KeepL s s') {p : PV} {q : PV × List (Nat × Nat)} (h : bd1 ts s p = some q) : bd1 ts s' p = some q := by
  cases p
  case ex t k b N o n =>
    simp only [bd1] at h ⊢
    cases hc : ts.contains t with
    | false => rw [hc] at h; cases h
    | true =>
      rw [hc] at h
      have ht : lockTk t = true := List.all_eq_true.1 hts t (by simpa using hc)
      simp only at h ⊢
      split at h
      · rename_i k' b' xss N' e1 e2
        obtain ⟨h1, h2⟩ := hk t N' ht e2
        rw [h1, h2, e1, e2]
        exact h
      · cases h
  all_goals exact h
theorem bdL_keep {ts : List Nat} (hts : (ts.all lockTk) = true) {s s' : PSt} (hk : KeepL s s') : ∀ {ps : List PV} {q : List PV × List (Nat × Nat)}, bdL ts s ps = some q → bdL ts s' ps = some q
  | [], q, h => h
  | p :: ps, q, h => by
    simp only [bdL] at h ⊢
    split at h
    · rename_i x y e1 e2
      rw [bd1_keep hts hk e1, bdL_keep hts hk e2]; exact h
    · cases h
theorem bdA_keep {ts : List Nat} (hts : (ts.all lockTk) = true) {s s' : PSt} (hk : KeepL s s') {p : PV} {q : PV × List (Nat × Nat)} (h : bdA ts s p = some q) : bdA ts s' p = some q := by
  cases p
  case agg cs =>
    simp only [bdA] at h ⊢
    obtain ⟨x, h1, rfl⟩ := Option.map_eq_some_iff.1 h
    rw [bdL_keep hts hk h1]; rfl
  all_goals
    simp only [bdA] at h ⊢
    exact bd1_keep hts hk h
theorem bdAs_keep {ts : List Nat} (hts : (ts.all lockTk) = true) {s s' : PSt} (hk : KeepL s s') : ∀ {ps : List PV} {q : List PV × List (Nat × Nat)}, bdAs ts s ps = some q → bdAs ts s' ps = some q
  | [], q, h => h
  | p :: ps, q, h => by
    simp only [bdAs] at h ⊢
    split at h
    · rename_i x y e1 e2
      rw [bdA_keep hts hk e1, bdAs_keep hts hk e2]; exact h
    · cases h
/-- What an operation does to tokens. -/
def TokE (T : Nat → Option (Nat × Nat)) : Eff → Prop
  | .tok t _ k => k ≠ 0 ∧ (T t = none ∨ ∃ n, T t = some (n, k))
  | .xs t _ => lockTk t = false
  | _ => True
theorem appK_ne {t e : TypeId} {k b : Nat} (h : appK P t = some (e, k, b)) : k ≠ 0 := let ⟨_, _, _, _, _, _, _, _, k7⟩ := appK_spec h; k7
theorem evO_tokE {dst : Option Nat} {op : Op} {ρ : Operand → PV} {H : Nat → Option PObj} {T : Nat → Option (Nat × Nat)} {X : XT} {v : PV} {e : Eff} (h : evO P Gl dst op ρ H T X = some (v, e)) : TokE T e := by
  unfold evO at h
  split at h
  · cases op <;> simp only [evE] at h <;> try cases h
    case alloc t =>
      split at h
      · split at h
        · cases h; trivial
        · cases h
      · cases h
    case box t x =>
      split at h
      · split at h
        · cases h; trivial
        · cases h
      · cases h
    case store t x y =>
      split at h
      · split at h
        · split at h
          · cases h; trivial
          · cases h
        · cases h
      · split at h
        · split at h
          · rename_i hc
            obtain ⟨cs, _, hl⟩ := Option.bind_eq_some_iff.1 h
            split at hl
            · cases hl
              have hlt := (by simpa using (Bool.and_eq_true_iff.1 hc.1).2)
              exact hlt
            · cases hl
          · cases h
        · cases h
      · cases h
    case buildSlice t n parts =>
      split at h
      · split at h
        · cases h; trivial
        · cases h
      · cases h
    case makeMap t r =>
      split at h
      · split at h
        · cases h; trivial
        · cases h
      · cases h
    case makeSlice t n c =>
      split at h
      · split at h
        · rename_i hc
          split at h
          · cases h
            exact ⟨appK_ne (by assumption), .inl hc.2⟩
          · cases h
        · cases h
      · cases h
    case mapUpdate t m k x =>
      split at h
      · split at h
        · split at h
          · obtain ⟨es', _, he⟩ := Option.map_eq_some_iff.1 h
            cases he; trivial
          · cases h
        · cases h
      · cases h
    case call c =>
      split at h
      · unfold evAppend at h
        split at h
        · split at h
          · split at h
            · split at h
              · rename_i hT
                split at h
                · cases h; exact ⟨appK_ne (by assumption), .inl hT⟩
                · cases h
              · cases h
            · split at h
              · rename_i hT
                split at h
                · cases h; exact ⟨appK_ne (by assumption), .inl hT.2.2⟩
                · cases h
              · cases h
            · split at h
              · rename_i hT
                split at h
                · cases h; exact ⟨appK_ne (by assumption), .inr ⟨_, hT.2.2⟩⟩
                · cases h
              · cases h
            · cases h
          · cases h
        · cases h
      · cases h
  · obtain ⟨p, _, he⟩ := Option.map_eq_some_iff.1 h
    cases he; trivial
theorem keep_fwd {e : Eff} (h : TokE s.T e) : KeepL s (e.app s) := by
  intro t N' ht hT
  cases e with
  | none => exact ⟨rfl, rfl⟩
  | obj l ob => exact ⟨rfl, rfl⟩
  | tok t0 n k =>
    refine ⟨rfl, ?_⟩
    show upd s.T t0 _ t = _
    by_cases q : t = t0
    · subst q
      obtain ⟨h1, h2 | ⟨n', h2⟩⟩ := h
      · rw [h2] at hT; cases hT
      · rw [h2] at hT; simp only [Option.some.injEq, Prod.mk.injEq] at hT; exact absurd hT.2 h1
    · rw [upd_other _ _ _ _ q]
  | xs t0 x =>
    refine ⟨?_, rfl⟩
    show upd s.X t0 _ t = _
    have h : lockTk t0 = false := h
    rw [upd_other _ _ _ _ (by rintro rfl; rw [h] at ht; cases ht)]
theorem keep_bwd {e : Eff} (h : TokE s.T e) : KeepL (e.app s) s := by
  intro t N' ht hT
  cases e with
  | none => exact ⟨rfl, rfl⟩
  | obj l ob => exact ⟨rfl, rfl⟩
  | tok t0 n k =>
    refine ⟨rfl, ?_⟩
    have hT : upd s.T t0 (some (n, k)) t = some (N', 0) := hT
    show _ = upd s.T t0 _ t
    by_cases q : t = t0
    · subst q
      rw [upd_same] at hT
      simp only [Option.some.injEq, Prod.mk.injEq] at hT; exact absurd hT.2 h.1
    · rw [upd_other _ _ _ _ q]
  | xs t0 x =>
    refine ⟨?_, rfl⟩
    show _ = upd s.X t0 _ t
    have h : lockTk t0 = false := h
    rw [upd_other _ _ _ _ (by rintro rfl; rw [h] at ht; cases ht)]
theorem goTo_T {o : Oper} {x : PV × Eff} : (goTo o x s).T = (x.2.app s).T := (PSt.put_H _ _ _).2.1
theorem goTo_X {o : Oper} {x : PV × Eff} : (goTo o x s).X = (x.2.app s).X := (PSt.put_H _ _ _).2.2
theorem KeepL.goTo_r {s s' : PSt} {o : Oper} {x : PV × Eff} (h : KeepL s (x.2.app s')) : KeepL s (goTo o x s') := fun t N' h1 h2 => by rw [goTo_T, goTo_X]; exact h t N' h1 h2
theorem KeepL.goTo_l {s s' : PSt} {o : Oper} {x : PV × Eff} (h : KeepL (x.2.app s) s') : KeepL (goTo o x s) s' := fun t N' h1 h2 => by rw [goTo_T] at h2; rw [goTo_T, goTo_X]; exact h t N' h1 h2
/-- A call, or an operation that touches nothing: it yields the same wherever its operands are the same. -/
theorem StepVal.pure {o : Oper} {x : PV × Eff} (hc : clOf o.op = .pure) (h : StepVal P Gl o x s) : x.2 = .none ∧ ∀ s' : PSt, (∀ y ∈ o.op.operands, s'.ev y = s.ev y) → KeepL s s' → StepVal P Gl o x s' := by
  unfold StepVal at h ⊢
  cases hcall : callOf o.op with
  | some y =>
    obtain ⟨f, args⟩ := y
    simp only [hcall] at h ⊢
    obtain ⟨e, f', caps, as, r, h1, h2, h3, h4⟩ := h
    obtain ⟨k1, k2⟩ := operands_call hcall
    refine ⟨e, fun s' hs hk => ⟨e, f', caps, as, r, by rw [hs f k1]; exact h1, h2, h3, ?_⟩⟩
    rw [List.map_congr_left (g := s.ev) fun y hy => hs y (k2 y hy)]
    exact h4.imp id fun ⟨ts, eqs, q1, q2, q3, q4⟩ => ⟨ts, eqs, bdAs_keep q3 hk q1, q2, q3, q4⟩
  | none =>
    simp only [hcall] at h ⊢
    obtain ⟨v, e⟩ := x
    obtain ⟨h1, h2⟩ := evO_pure hc h
    exact ⟨h1, fun s' hs _ => by rw [evO_congr hs]; exact h2 _ _ _⟩
theorem StepVal.ev_iff {o : Oper} {x : PV × Eff} (hc : clOf o.op ≠ .pure) : StepVal P Gl o x s ↔ evO P Gl o.dst o.op s.ev s.H s.T s.X = some x := by
  unfold StepVal
  cases hcall : callOf o.op with
  | some y => exact absurd (clOf_call hcall) hc
  | none => exact Iff.rfl
theorem StepVal.move {o : Oper} {x : PV × Eff} {s s' : PSt} (hc : clOf o.op ≠ .pure) (hs : ∀ y ∈ o.op.operands, s'.ev y = s.ev y) (h : evO P Gl o.dst o.op s.ev s'.H s'.T s'.X = some x) : StepVal P Gl o x s' := by
  rw [StepVal.ev_iff hc, evO_congr hs]; exact h
/-- The two may change places. -/
theorem swap {oi oj : Oper} {x y : PV × Eff} (hap : oi.apart ops oj = true) (hcm : compat (clOf oi.op) (clOf oj.op) = true) (hi : StepVal P Gl oi x s) (hj : StepVal P Gl oj y (goTo oi x s)) :
    StepVal P Gl oj y s ∧ StepVal P Gl oi x (goTo oj y s) ∧ x.2.app (y.2.app s) = y.2.app (x.2.app s) := by
  obtain ⟨a1, a2, a3⟩ := Oper.apart_spec hap
  have ej : ∀ z ∈ oj.op.operands, (goTo oi x s).ev z = s.ev z := fun z hz => by
    unfold goTo; rw [ev_put (fun d hd => looks_ops (a1 d hd) hz), ev_app]
  have ei : ∀ z ∈ oi.op.operands, (goTo oj y s).ev z = s.ev z := fun z hz => by
    unfold goTo; rw [ev_put (fun d hd => looks_ops (a3 d hd) hz), ev_app]
  have hH : (goTo oi x s).H = (x.2.app s).H := by unfold goTo; exact (PSt.put_H _ _ _).1
  have hT : (goTo oi x s).T = (x.2.app s).T := by unfold goTo; exact (PSt.put_H _ _ _).2.1
  have hX : (goTo oi x s).X = (x.2.app s).X := by unfold goTo; exact (PSt.put_H _ _ _).2.2
  have hH' : (goTo oj y s).H = (y.2.app s).H := by unfold goTo; exact (PSt.put_H _ _ _).1
  have hT' : (goTo oj y s).T = (y.2.app s).T := by unfold goTo; exact (PSt.put_H _ _ _).2.1
  have hX' : (goTo oj y s).X = (y.2.app s).X := by unfold goTo; exact (PSt.put_H _ _ _).2.2
  by_cases pi : clOf oi.op = .pure
  · obtain ⟨e1, e2⟩ := StepVal.pure pi hi
    have hTi : (goTo oi x s).T = s.T := by rw [goTo_T, e1]; rfl
    have hXi : (goTo oi x s).X = s.X := by rw [goTo_X, e1]; rfl
    have hkj : KeepL s (goTo oj y s) := by
      refine KeepL.goTo_r ?_
      by_cases pj : clOf oj.op = .pure
      · rw [(StepVal.pure pj hj).1]; exact fun _ _ _ _ => ⟨rfl, rfl⟩
      · have := evO_tokE ((StepVal.ev_iff pj).1 hj)
        rw [hTi] at this
        exact keep_fwd this
    refine ⟨?_, e2 _ ei hkj, by rw [e1]; rfl⟩
    by_cases pj : clOf oj.op = .pure
    · exact (StepVal.pure pj hj).2 _ (fun z hz => (ej z hz).symm) (KeepL.of_eq hTi.symm hXi.symm)
    · rw [StepVal.ev_iff pj, evO_congr ej, hH, hT, hX, e1] at hj
      rw [StepVal.ev_iff pj]; exact hj
  · by_cases pj : clOf oj.op = .pure
    · obtain ⟨e1, e2⟩ := StepVal.pure pj hj
      have hki : KeepL (goTo oi x s) s := KeepL.goTo_l (keep_bwd (evO_tokE ((StepVal.ev_iff pi).1 hi)))
      refine ⟨e2 _ (fun z hz => (ej z hz).symm) hki, ?_, by rw [e1]; rfl⟩
      refine StepVal.move pi ei ?_
      rw [hH', hT', hX', e1]
      exact (StepVal.ev_iff pi).1 hi
    · rw [StepVal.ev_iff pi] at hi
      rw [StepVal.ev_iff pj, evO_congr ej, hH, hT, hX] at hj
      obtain ⟨v, e⟩ := x
      obtain ⟨u, f⟩ := y
      simp only at hj hH' hT' hX' ⊢
      rw [StepVal.ev_iff pj]
      have fin : evO P Gl oj.dst oj.op s.ev s.H s.T s.X = some (u, f) → evO P Gl oi.dst oi.op s.ev (f.app s).H (f.app s).T (f.app s).X = some (v, e) → e.app (f.app s) = f.app (e.app s) →
          evO P Gl oj.dst oj.op s.ev s.H s.T s.X = some (u, f) ∧ StepVal P Gl oi (v, e) (goTo oj (u, f) s) ∧ e.app (f.app s) = f.app (e.app s) := fun q1 q2 q3 =>
        ⟨q1, StepVal.move pi ei (by rw [hH', hT', hX']; exact q2), q3⟩
      cases ci : clOf oi.op <;> first | exact absurd ci pi | skip
      case rd =>
        obtain ⟨rfl, r1, r2⟩ := evO_rd (by rw [ci]; rfl) hi
        cases cj : clOf oj.op <;> first | exact absurd cj pj | (rw [ci, cj] at hcm; cases hcm; done) | skip
        case rd =>
          obtain ⟨rfl, _, _⟩ := evO_rd (by rw [cj]; rfl) hj
          exact fin hj hi rfl
        case ld =>
          obtain ⟨rfl, _, _⟩ := evO_rd (by rw [cj]; rfl) hj
          exact fin hj hi rfl
        case al =>
          obtain ⟨d, ob, k1, rfl, _, k2⟩ := evO_al cj hj
          exact fin hj (r2 d _ _ k1) rfl
        case ap =>
          obtain ⟨t, n, k, rfl, _⟩ := evO_ap cj hj
          exact fin hj (r1 _) rfl
      case ld =>
        obtain ⟨rfl, r1, r2⟩ := evO_rd (by rw [ci]; rfl) hi
        cases cj : clOf oj.op <;> first | exact absurd cj pj | (rw [ci, cj] at hcm; cases hcm; done) | skip
        case rd =>
          obtain ⟨rfl, _, _⟩ := evO_rd (by rw [cj]; rfl) hj
          exact fin hj hi rfl
        case ld =>
          obtain ⟨rfl, _, _⟩ := evO_rd (by rw [cj]; rfl) hj
          exact fin hj hi rfl
        case al =>
          obtain ⟨d, ob, k1, rfl, _, k2⟩ := evO_al cj hj
          exact fin hj (r2 d _ _ k1) rfl
        case ap =>
          obtain ⟨t, n, k, rfl, _⟩ := evO_ap cj hj
          exact fin hj (r1 _) rfl
        case ms =>
          obtain ⟨l, es, es', k1, rfl⟩ := evO_ms cj hj
          exact fin hj (evO_ld ci hi k1) rfl
      case al =>
        obtain ⟨d, ob, k1, rfl, k0, k2⟩ := evO_al ci hi
        cases cj : clOf oj.op <;> first | exact absurd cj pj | (rw [ci, cj] at hcm; cases hcm; done) | skip
        case al =>
          obtain ⟨d', ob', m1, rfl, m0, m2⟩ := evO_al cj hj
          have hne : d' ≠ d := fun e => by subst e; simp [Eff.app, upd] at m1
          have m1' : s.H d' = none := by
            have : upd s.H d (some ob) d' = none := m1
            rwa [upd_other _ _ _ _ hne] at this
          refine fin (m2 _ _ _ m1') (k2 _ _ _ ?_) ?_
          · show upd s.H d' _ d = none
            rw [upd_other _ _ _ _ (Ne.symm hne)]; exact k1
          · simp only [Eff.app]; rw [upd_comm _ _ _ _ _ hne]
        case ap =>
          obtain ⟨t, n, k, rfl, m2⟩ := evO_ap cj hj
          exact fin (m2 _ _) (k2 _ _ _ k1) rfl
      case st =>
        rcases evO_st (by rw [ci]; rfl) hi with ⟨l, ob, k1, rfl, k2⟩ | ⟨l, ob, rfl, k2⟩
        · cases cj : clOf oj.op <;> first | exact absurd cj pj | (rw [ci, cj] at hcm; cases hcm; done) | skip
          case al =>
            obtain ⟨d', ob', m1, rfl, m0, m2⟩ := evO_al cj hj
            have hne : d' ≠ l := fun e => by subst e; simp [Eff.app, upd] at m1
            have m1' : s.H d' = none := by
              have : upd s.H l (some ob) d' = none := m1
              rwa [upd_other _ _ _ _ hne] at this
            refine fin (m2 _ _ _ m1') (k2 _ _ ?_) ?_
            · show upd s.H d' _ l = s.H l
              rw [upd_other _ _ _ _ (Ne.symm hne)]
            · simp only [Eff.app]; rw [upd_comm _ _ _ _ _ hne]
          case ap =>
            obtain ⟨t, n, k, rfl, m2⟩ := evO_ap cj hj
            exact fin (m2 _ _) (k2 _ _ rfl) rfl
        · cases cj : clOf oj.op <;> first | exact absurd cj pj | (rw [ci, cj] at hcm; cases hcm; done) | skip
          case al =>
            obtain ⟨d', ob', m1, rfl, m0, m2⟩ := evO_al cj hj
            exact fin (m2 _ _ _ m1) (k2 _ _) rfl
          case ap =>
            obtain ⟨t, n, k, rfl, m2⟩ := evO_ap cj hj
            exact fin (m2 _ _) (k2 _ _) rfl
      case ms =>
        rcases evO_st (by rw [ci]; rfl) hi with ⟨l, ob, k1, rfl, k2⟩ | ⟨l, ob, rfl, k2⟩
        · cases cj : clOf oj.op <;> first | exact absurd cj pj | (rw [ci, cj] at hcm; cases hcm; done) | skip
          case al =>
            obtain ⟨d', ob', m1, rfl, m0, m2⟩ := evO_al cj hj
            have hne : d' ≠ l := fun e => by subst e; simp [Eff.app, upd] at m1
            have m1' : s.H d' = none := by
              have : upd s.H l (some ob) d' = none := m1
              rwa [upd_other _ _ _ _ hne] at this
            refine fin (m2 _ _ _ m1') (k2 _ _ ?_) ?_
            · show upd s.H d' _ l = s.H l
              rw [upd_other _ _ _ _ (Ne.symm hne)]
            · simp only [Eff.app]; rw [upd_comm _ _ _ _ _ hne]
          case ap =>
            obtain ⟨t, n, k, rfl, m2⟩ := evO_ap cj hj
            exact fin (m2 _ _) (k2 _ _ rfl) rfl
        · cases cj : clOf oj.op <;> first | exact absurd cj pj | (rw [ci, cj] at hcm; cases hcm; done) | skip
          case al =>
            obtain ⟨d', ob', m1, rfl, m0, m2⟩ := evO_al cj hj
            exact fin (m2 _ _ _ m1) (k2 _ _) rfl
          case ap =>
            obtain ⟨t, n, k, rfl, m2⟩ := evO_ap cj hj
            exact fin (m2 _ _) (k2 _ _) rfl
      case ap =>
        obtain ⟨t, n, k, rfl, k2⟩ := evO_ap ci hi
        cases cj : clOf oj.op <;> first | exact absurd cj pj | (rw [ci, cj] at hcm; cases hcm; done) | skip
        case rd =>
          obtain ⟨rfl, m1, _⟩ := evO_rd (by rw [cj]; rfl) hj
          exact fin (m1 _) hi rfl
        case ld =>
          obtain ⟨rfl, m1, _⟩ := evO_rd (by rw [cj]; rfl) hj
          exact fin (m1 _) hi rfl
        case al =>
          obtain ⟨d', ob', m1, rfl, m0, m2⟩ := evO_al cj hj
          exact fin (m2 _ _ _ m1) (k2 _ _) rfl
        case st =>
          rcases evO_st (by rw [cj]; rfl) hj with ⟨l, ob, m1, rfl, m2⟩ | ⟨l, ob, rfl, m2⟩
          · exact fin (m2 _ _ rfl) (k2 _ _) rfl
          · exact fin (m2 _ _) (k2 _ _) rfl
        case ms =>
          rcases evO_st (by rw [cj]; rfl) hj with ⟨l, ob, m1, rfl, m2⟩ | ⟨l, ob, rfl, m2⟩
          · exact fin (m2 _ _ rfl) (k2 _ _) rfl
          · exact fin (m2 _ _) (k2 _ _) rfl
      case bad => rw [ci] at hcm; cases hcm
theorem StepVal.congr {o : Oper} {x : PV × Eff} {s s' : PSt} (hs : ∀ y ∈ o.op.operands, s'.ev y = s.ev y) (hH : s'.H = s.H) (hT : s'.T = s.T) (hX : s'.X = s.X) (h : StepVal P Gl o x s) : StepVal P Gl o x s' := by
  by_cases pc : clOf o.op = .pure
  · exact (StepVal.pure pc h).2 _ hs (KeepL.of_eq hT hX)
  · refine StepVal.move pc hs ?_
    rw [hH, hT, hX]; exact (StepVal.ev_iff pc).1 h
theorem YieldsP.swap {oi oj : Oper} {x y : PV × Eff} (hap : oi.apart ops oj = true) (hcm : compat (clOf oi.op) (clOf oj.op) = true) (hi : YieldsP P Gl ops oi x s) (hj : YieldsP P Gl ops oj y (goTo oi x s)) :
    YieldsP P Gl ops oj y s ∧ YieldsP P Gl ops oi x (goTo oj y s) ∧ goTo oi x (goTo oj y s) = goTo oj y (goTo oi x s) := by
  obtain ⟨a1, a2, a3⟩ := Oper.apart_spec hap
  have ej : ∀ z ∈ oj.op.operands, (goTo oi x s).ev z = s.ev z := fun z hz => by
    unfold goTo; rw [ev_put (fun d hd => looks_ops (a1 d hd) hz), ev_app]
  have ei : ∀ z ∈ oi.op.operands, (goTo oj y s).ev z = s.ev z := fun z hz => by
    unfold goTo; rw [ev_put (fun d hd => looks_ops (a3 d hd) hz), ev_app]
  have gj := gOn_goTo (s := s) (x := x) (o := oj) (o' := oi) a1
  have gi := gOn_goTo (s := s) (x := y) (o := oi) (o' := oj) a3
  have keepH : ∀ (o : Oper) (z : PV × Eff), z.2 = .none → (goTo o z s).H = s.H ∧ (goTo o z s).T = s.T ∧ (goTo o z s).X = s.X := fun o z hz => by
    unfold goTo; rw [hz]; exact PSt.put_H _ _ _
  have fin : x.2.app (y.2.app s) = y.2.app (x.2.app s) → goTo oi x (goTo oj y s) = goTo oj y (goTo oi x s) := fun h => by
    unfold goTo
    rw [app_put, app_put, h, put_put_comm a2]
  unfold YieldsP at hi hj ⊢
  rw [gj] at hj
  rw [gi]
  rcases hi with ⟨g1, h1⟩ | ⟨g1, rfl⟩
  · rcases hj with ⟨g2, h2⟩ | ⟨g2, rfl⟩
    · obtain ⟨k1, k2, k3⟩ := PM.swap hap hcm h1 h2
      exact ⟨.inl ⟨g2, k1⟩, .inl ⟨g1, k2⟩, fin k3⟩
    · obtain ⟨q1, q2, q3⟩ := keepH oj (.tup [], .none) rfl
      exact ⟨.inr ⟨g2, rfl⟩, .inl ⟨g1, h1.congr ei q1 q2 q3⟩, fin rfl⟩
  · rcases hj with ⟨g2, h2⟩ | ⟨g2, rfl⟩
    · obtain ⟨q1, q2, q3⟩ := keepH oi (.tup [], .none) rfl
      exact ⟨.inl ⟨g2, h2.congr (fun z hz => (ej z hz).symm) q1.symm q2.symm q3.symm⟩, .inr ⟨g1, rfl⟩, fin rfl⟩
    · exact ⟨.inr ⟨g2, rfl⟩, .inr ⟨g1, rfl⟩, fin rfl⟩
/-- Operation j must wait for operation i, by at most n edges. -/
def dep (md : Region.Mode) (ops : Array Oper) (i : Nat) : Nat → Nat → Bool
  | 0, _ => false
  | n + 1, j => match ops[j]? with
    | some o => o.after.any fun e => Region.binds md e && (e.on == i || dep md ops i n e.on)
    | none => false
/-- What is listed waits for nothing that isn't. -/
def Inv2 (md : Region.Mode) (ops : Array Oper) (listed : Array Bool) : Prop := ∀ i j n, listed.getD i true = false → listed.getD j false = true → dep md ops i n j = false
theorem getD_false {l : Array Bool} {i : Nat} (h : l.getD i true = false) : l.getD i false = false := by
  rcases Nat.lt_or_ge i l.size with h' | h'
  · simp [h'] at h ⊢; exact h
  · simp [Array.getElem?_eq_none h'] at h
theorem ready_dep {listed : Array Bool} {i j : Nat} (hI : Inv2 md ops listed) (hj : j ∈ Region.ready md ops listed) (hi : listed.getD i true = false) : ∀ n, dep md ops i n j = false
  | 0 => rfl
  | n + 1 => by
    obtain ⟨_, oj, hoj, hall⟩ := mem_ready.1 hj
    simp only [dep, hoj]
    rw [Array.any_eq_false']
    intro e he hb
    simp only [Bool.and_eq_true, Bool.or_eq_true, beq_iff_eq] at hb
    have h1 := hall e he hb.1
    rcases hb.2 with h2 | h2
    · rw [h2, getD_false hi] at h1; cases h1
    · rw [hI i e.on n hi h1] at h2; cases h2
theorem Inv2.list {listed : Array Bool} {j : Nat} (hI : Inv2 md ops listed) (hj : j ∈ Region.ready md ops listed) : Inv2 md ops (listed.setIfInBounds j true) := by
  intro i k n hi hk
  by_cases hij : j = i
  · subst hij
    rcases Nat.lt_or_ge j listed.size with h' | h'
    · simp [Array.getD_eq_getD_getElem?, h'] at hi
    · simp [Array.getD_eq_getD_getElem?] at hi
  · rw [getD_set_ne true hij] at hi
    by_cases hjk : j = k
    · subst hjk; exact ready_dep hI hj hi n
    · rw [getD_set_ne false hjk] at hk
      exact hI i k n hi hk
/-- An operation that may go first does. -/
theorem pAny_first {Q : PSt → Prop} {i : Nat} {oi : Oper} {x : PV × Eff} (hi : ops[i]? = some oi) : ∀ (fuel : Nat) (listed : Array Bool) (s : PSt), Inv2 md ops listed →
    (∀ j oj, ops[j]? = some oj → j ≠ i → listed.getD j true = false → (∀ n, dep md ops i n j = false) → oi.apart ops oj = true ∧ compat (clOf oi.op) (clOf oj.op) = true) →
      i ∈ Region.ready md ops listed → YieldsP P Gl ops oi x s → pAny P Gl md ops Q fuel (listed.setIfInBounds i true) (goTo oi x s) → pAny P Gl md ops Q (fuel + 1) listed s := by
  intro fuel
  induction fuel with
  | zero =>
    intro listed s _ _ hr hy Hh
    refine ⟨fun h => (by rw [h] at hr; cases hr), fun j hj => ?_⟩
    by_cases hji : j = i
    · subst hji; exact ⟨oi, hi, gOp_iff.2 ⟨x, hy, Hh⟩⟩
    · have := ready_mono hj hji
      rw [Hh.1] at this
      cases this
  | succ fuel ih =>
    intro listed s hI hfree hr hy Hh
    refine ⟨fun h => (by rw [h] at hr; cases hr), fun j hj => ?_⟩
    by_cases hji : j = i
    · subst hji; exact ⟨oi, hi, gOp_iff.2 ⟨x, hy, Hh⟩⟩
    · obtain ⟨oj', hoj', h1⟩ := Hh.2 j (ready_mono hj hji)
      obtain ⟨hjun, oj, hoj, hall⟩ := mem_ready.1 hj
      rw [hoj] at hoj'
      have hjj := Option.some.inj hoj'
      subst hjj
      have hnot := ready_dep hI hj (mem_ready.1 hr).1
      obtain ⟨hap, hcm⟩ := hfree j oj hoj hji hjun hnot
      obtain ⟨y, hyj, hK⟩ := gOp_iff.1 h1
      obtain ⟨k1, k2, k3⟩ := YieldsP.swap hap hcm hy hyj
      refine ⟨oj, hoj, gOp_iff.2 ⟨y, k1, ih (listed.setIfInBounds j true) _ (hI.list hj) (fun k ok hk hki hun hno => ?_) (ready_mono hr (Ne.symm hji)) k2 ?_⟩⟩
      · refine hfree k ok hk hki ?_ hno
        by_cases hjk : j = k
        · subst hjk; exact hjun
        · rw [getD_set_ne true hjk] at hun; exact hun
      · rw [k3, Array.setIfInBounds_comm _ _ hji]
        exact hK
/-- Of each operation: the operations that it must wait for, as bits. -/
def maskOf (ms : List Nat) (es : List Edge) : Nat := es.foldl (fun acc e => if Region.binds .any e = true then (acc ||| (1 <<< e.on)) ||| ms.getD e.on 0 else acc) 0
def masks : List Oper → List Nat → List Nat
  | [], ms => ms
  | o :: r, ms => masks r (ms ++ [maskOf ms o.after.toList])
def MaskOK (ops : Array Oper) (ms : List Nat) : Prop := ∀ (j m i : Nat), ms[j]? = some m → m.testBit i = true → ∃ n, dep .any ops i n j = true
theorem maskOf_spec {ops : Array Oper} {ms : List Nat} (hm : MaskOK ops ms) : ∀ (es : List Edge) (acc i : Nat), (es.foldl (fun acc e => if Region.binds .any e = true then (acc ||| (1 <<< e.on)) ||| ms.getD e.on 0 else acc) acc).testBit i = true → acc.testBit i = true ∨ ∃ e ∈ es, Region.binds .any e = true ∧ (e.on = i ∨ ∃ n, dep .any ops i n e.on = true)
  | [], acc, i, h => .inl h
  | e :: es, acc, i, h => by
    rw [List.foldl_cons] at h
    rcases maskOf_spec hm es _ i h with h1 | ⟨e', h2, h3⟩
    · by_cases hb : Region.binds .any e = true
      · rw [if_pos hb, Nat.testBit_or, Nat.testBit_or, Bool.or_eq_true, Bool.or_eq_true] at h1
        rcases h1 with (h1 | h1) | h1
        · exact .inl h1
        · refine .inr ⟨e, by simp, hb, .inl ?_⟩
          rw [Nat.testBit_shiftLeft] at h1
          simp only [Bool.and_eq_true, decide_eq_true_eq] at h1
          have h2 := h1.2
          by_cases hz : i - e.on = 0
          · omega
          · obtain ⟨q, hq⟩ := Nat.exists_eq_succ_of_ne_zero hz
            rw [hq, Nat.testBit_succ] at h2
            simp at h2
        · cases hms : ms[e.on]? with
          | none => rw [List.getD, hms] at h1; simp at h1
          | some m =>
            rw [List.getD, hms] at h1
            exact .inr ⟨e, by simp, hb, .inr (hm e.on m i hms h1)⟩
      · rw [if_neg hb] at h1; exact .inl h1
    · exact .inr ⟨e', by simp [h2], h3⟩
theorem masks_spec {ops : Array Oper} : ∀ (l : List Oper) (ms : List Nat), MaskOK ops ms → (∀ j, l[j]? = ops[ms.length + j]?) → MaskOK ops (masks l ms)
  | [], ms, hm, _ => hm
  | o :: l, ms, hm, hl => by
    rw [masks]
    refine masks_spec l _ (fun j m i hj hi => ?_) fun j => ?_
    · rw [List.getElem?_append] at hj
      by_cases hlt : j < ms.length
      · rw [if_pos hlt] at hj; exact hm j m i hj hi
      · rw [if_neg hlt] at hj
        have hj0 : j - ms.length = 0 := by
          have := (List.getElem?_eq_some_iff.1 hj).1
          simp at this; omega
        rw [hj0] at hj
        simp only [List.getElem?_cons_zero, Option.some.injEq] at hj
        subst hj
        have hjl : j = ms.length := by omega
        subst hjl
        have ho : ops[ms.length]? = some o := by rw [← Nat.add_zero ms.length, ← hl 0]; rfl
        rcases maskOf_spec hm o.after.toList 0 i hi with h1 | ⟨e, h2, h3, h4⟩
        · simp at h1
        · rcases h4 with h4 | ⟨n, h4⟩
          · refine ⟨1, ?_⟩
            simp only [dep, ho, Array.any_eq_true']
            exact ⟨e, by simpa using h2, by simp [h3, h4]⟩
          · refine ⟨n + 1, ?_⟩
            simp only [dep, ho, Array.any_eq_true']
            exact ⟨e, by simpa using h2, by simp [h3, h4]⟩
    · have := hl (j + 1)
      rw [List.getElem?_cons_succ] at this
      rw [this, List.length_append, List.length_singleton]
      congr 1; omega
def freeP (ms : List Nat) (ops : Array Oper) (listed : Array Bool) (i : Nat) : Bool :=
  match ops[i]? with
  | none => false
  | some oi => (List.range ops.size).all fun j => j == i || listed.getD j true || match ops[j]? with
      | some oj => (ms.getD j 0).testBit i || (oi.apart ops oj && compat (clOf oi.op) (clOf oj.op))
      | none => true
theorem freeP_spec {ms : List Nat} (hms : MaskOK ops ms) {i : Nat} {oi : Oper} {listed : Array Bool} (hi : ops[i]? = some oi) (h : freeP ms ops listed i = true) (j : Nat) (oj : Oper)
    (hj : ops[j]? = some oj) (hne : j ≠ i) (hun : listed.getD j true = false) (hno : ∀ n, dep .any ops i n j = false) :
    oi.apart ops oj = true ∧ compat (clOf oi.op) (clOf oj.op) = true := by
  simp only [freeP, hi, List.all_eq_true, List.mem_range] at h
  have h1 := h j (Array.getElem?_eq_some_iff.1 hj).1
  simp only [hj, Bool.or_eq_true, beq_iff_eq, hne, false_or, hun, Bool.false_eq_true, Bool.and_eq_true] at h1
  rcases h1 with h1 | h1
  · cases hm : ms[j]? with
    | none => rw [List.getD, hm] at h1; simp at h1
    | some m =>
      rw [List.getD, hm] at h1
      obtain ⟨n, hn⟩ := hms j m i hm h1
      rw [hno] at hn; cases hn
  · exact h1
def lexP (ms : List Nat) (ops : Array Oper) : Nat → Nat → Array Bool → Bool
  | 0, _, listed => (Region.ready .any ops listed).isEmpty
  | fuel + 1, k, listed => (Region.ready .any ops listed).contains k && freeP ms ops listed k && lexP ms ops fuel (k + 1) (listed.setIfInBounds k true)
theorem gdStep_mono {gd : Gd} {y y' n : Prop} (hy : y → y') (h : gdStep gd s y n) : gdStep gd s y' n := by
  cases gd with
  | always => exact hy h
  | never => exact h
  | bad => exact h
  | slot t w =>
    simp only [gdStep] at h ⊢
    split
    · rename_i b hb
      simp only [hb] at h
      exact ⟨fun e => hy (h.1 e), h.2⟩
    · rename_i hu
      simp only [hu] at h
      exact h
    · rename_i hne hnu
      split at h
      · rename_i b hb; exact absurd hb (hne _)
      · rename_i hu; exact absurd hu hnu
      · exact h
theorem pAny_lex {Q : PSt → Prop} {ms : List Nat} (hms : MaskOK ops ms) : ∀ (l : List Oper) (k : Nat) (listed : Array Bool) (s : PSt), Inv2 .any ops listed → (∀ j, l[j]? = ops[k + j]?) →
    lexP ms ops l.length k listed = true → pops P Gl true (l.map fun o => (o, gdOf ops o)) s Q → pAny P Gl .any ops Q l.length listed s
  | [], _, _, _, _, _, hB, h => ⟨by simpa [lexP] using hB, h⟩
  | o :: l, k, listed, s, hI, hl, hB, h => by
    have h0 : ops[k]? = some o := by simpa using (hl 0).symm
    simp only [List.length_cons, lexP, Bool.and_eq_true] at hB
    obtain ⟨⟨hr, hf⟩, hB'⟩ := hB
    have hr' : k ∈ Region.ready .any ops listed := by simpa using hr
    simp only [List.map_cons, pops] at h
    obtain ⟨x, hy, hK⟩ := gOp_iff.1 (show gOp P Gl ops o (fun s' => pops P Gl true (l.map fun o => (o, gdOf ops o)) s' Q) s from gdStep_mono (y := stepOp P Gl true o s fun s' => pops P Gl true (l.map fun o => (o, gdOf ops o)) s' Q) (fun q => Or.resolve_right q fun e => (by cases e.1)) h)
    exact pAny_first h0 l.length listed s hI (freeP_spec hms h0 hf) hr' hy
      (pAny_lex hms l (k + 1) _ _ (hI.list hr') (fun j => by have := hl (j + 1); simpa [Nat.add_assoc, Nat.add_comm 1 j] using this) hB' hK)
theorem Inv2.none (n : Nat) : Inv2 md ops (Array.replicate n false) := by
  intro i j m _ hj
  rcases Nat.lt_or_ge j n with h' | h'
  · simp [Array.getD_eq_getD_getElem?, h'] at hj
  · simp [Array.getD_eq_getD_getElem?, h'] at hj
/-- A region that draws its order. -/
theorem r_regd {Q : Exit → PSt → Prop} {id : Nat} (hm : P.follows .mixedOrders = true) (hB : lexP (masks ops.toList []) ops ops.size 0 (Array.replicate ops.size false) = true) (h : pops P Gl true (withGd ops) s (Up (Q .normal))) :
    pwp P Gl (.region id ops true) Q s := fun S0 w0 a w hi => by
  have hA := pAny_lex (Q := Up (Q .normal)) (masks_spec ops.toList [] (fun j m i hj => by simp at hj) (by simp)) ops.toList 0 (Array.replicate ops.size false) s (Inv2.none _) (by simp) (by simpa using hB) h
  obtain ⟨g, rfl, hg⟩ := hi
  refine wp_region_any hm ?_
  have := pAny_sound (S0 := S0) (w0 := w0) (P := P) (Gl := Gl) (Q' := fun e a' w' => ∃ s', Q e s' ∧ Inv Gl S0 w0 s' a' w') (fun s' a' w' q i => let ⟨s2, h1, h2⟩ := q; ⟨s2, h2, i.fade h1⟩) ops.toList.length (Array.replicate ops.size false) s a _ ⟨_, rfl, hg.drew.1⟩ hA
  simpa using this
end
end PM
