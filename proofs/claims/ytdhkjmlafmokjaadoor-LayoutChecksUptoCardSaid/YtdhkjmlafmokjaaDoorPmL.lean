/-
  THE PURE MACHINE, L: one step; calls by contract (PCall); a region's operations in the order of the text.
-/
import Derived.Test.YtdhkjmlafmokjaaDoorPmK
namespace PM
open Go Go.RowKit

/-- Does the operation touch memory of the call's own (beyond reading it)? -/
def memOp : Op → Bool
  | .alloc _ | .box _ _ | .store _ _ _ | .buildSlice _ _ _ | .makeMap _ _ | .mapUpdate _ _ _ _ | .makeSlice _ _ _ => true
  | .call c => match c.callee with | .builtin .append => true | _ => false
  | _ => false
/-- A call of a function value. -/
def callOf : Op → Option (Operand × List Operand)
  | .call c => match c.callee with | .value f => some (f, c.args.toList) | _ => none
  | _ => none
def evO (P : Program) (Gl : Nat → Option (List PV)) (dst : Option Nat) (op : Op) (ρ : Operand → PV) (H : Nat → Option PObj) (T : Nat → Option (Nat × Nat)) (X : XT) : Option (PV × Eff) :=
  if memOp op = true then evE P dst op ρ H T X else (ev1 P Gl op ρ H X).map fun v => (v, .none)

def toks1 : PV → List (Nat × (Nat × Nat))
  | .lst (.own t) k _ xss => [(t, (xss.length, k))]
  | _ => []
def toksA : PV → List (Nat × (Nat × Nat))
  | .agg cs => cs.flatMap toks1
  | p => toks1 p
def toksV : PV → List (Nat × (Nat × Nat))
  | .tup vs => vs.flatMap toksA
  | p => toksA p
/-- The tokens of a result, renamed for the slot that it goes to. -/
def retok1 (d : Nat) : PV → PV
  | .lst (.own t) k b xss => .lst (.own (1000 * d + t)) k b xss
  | p => p
def retokA (d : Nat) : PV → PV
  | .agg cs => .agg (cs.map (retok1 d))
  | p => retok1 d p
def retokV (d : Nat) : PV → PV
  | .tup vs => .tup (vs.map (retokA d))
  | p => retokA d p
def addToks (d : Nat) (s : PSt) : List (Nat × (Nat × Nat)) → PSt
  | [] => s
  | (t, x) :: r => addToks d { s with T := upd s.T (1000 * d + t) (some x) } r
/-- The tokens are free, and none comes twice. -/
def toksFree (d : Nat) (T : Nat → Option (Nat × Nat)) : List (Nat × (Nat × Nat)) → Prop
  | [] => True
  | (t, x) :: r => T (1000 * d + t) = none ∧ ((r.all fun y => y.1 != t) && x.2 != 0) = true ∧ toksFree d T r

def FnOK (P : Program) (f : FuncId) : Prop := ∃ fn, P.funcs[f]? = some fn ∧ (fn.name == "runtime.NumGoroutine") = false ∧ fn.body.isNone = false
/-- What a call leaves: a value, in memory that only grew. -/
structure After (S : Cells) (w : World) (r : PV) (v : Value) (g' : GG) : Prop where
  below : BelowD w.heap.size w g'.w
  sub : ∀ B o, S B o → g'.S B o
  new : ∀ B o, g'.S B o → S B o ∨ (w.heap.size ≤ B ∧ B < g'.w.heap.size)
  H : ∀ l, g'.H l = none
  T : ∀ t n k, g'.T t = some (n, k) ↔ (t, (n, k)) ∈ toksV r
  rel : Rel g' r v
  owns : ∀ t n k, g'.T t = some (n, k) → OwnOK g' w.heap.size t n k
  ownsEx : ∀ t t' B, Spare g' t B → Spare g' t' B → t = t'
/-- A CONTRACT: called with these data, the function returns that. -/
def PCall (P : Program) (Gl : Nat → Option (List PV)) (f : FuncId) (args : List PV) (r : PV) : Prop :=
  FnOK P f ∧ ∀ (S : Cells) (w : World) (vs : Array Value), (∀ B o, S B o → B < w.heap.size) → (∀ i cs, Gl i = some cs → RelCells S w cs i 0) → All2 (RelD S w) args vs.toList →
    Calls P f vs w fun e w' => ∃ v g', e = .returned v ∧ g'.w = w' ∧ After S w r v g'

section
variable {P : Program} {Gl : Nat → Option (List PV)} {S0 : Bs} {w0 : World} {s : PSt} {a : Act} {g : GG} {w : World}

theorem does_evE (h : InvG Gl S0 w0 s a g) (o : Oper) {x : PV × Eff} (he : evE P o.dst o.op s.ev s.H s.T s.X = some x) : Does P o a g.w (fun a' w' => Inv Gl S0 w0 ((x.2.app s).put o.dst x.1) a' w') := by
  unfold evE at he
  split at he
  · rename_i t hop
    split at he
    · rename_i d z hd hzk
      split at he
      · rename_i hc
        cases he
        obtain ⟨hc1, hc2⟩ := hc
        simp only [Bool.and_eq_true, decide_eq_true_eq] at hc1
        exact does_alloc h o hop hzk (by simpa using hc1.1) hc1.2 hc2
      · cases he
    · cases he
  · rename_i t x hop
    split at he
    · rename_i d hd
      split at he
      · rename_i hc
        cases he
        obtain ⟨hc1, hc2⟩ := hc
        simp only [Bool.and_eq_true, decide_eq_true_eq] at hc1
        exact does_box h o hop (by simpa using hc1.1) hc1.2 hc2
      · cases he
    · cases he
  · rename_i t x y hop
    split at he
    · rename_i l off hx
      split at he
      · rename_i cs r n hl ht
        split at he
        · rename_i hc
          cases he
          exact does_store h o hop hx hl ht hc.1 hc.2.1 hc.2.2
        · cases he
      · cases he
    · rename_i tk k N j off hx
      split at he
      · rename_i k' b xss r n ds hX ht hd
        split at he
        · rename_i hc
          obtain ⟨c1, rfl, c3, c4⟩ := hc
          obtain ⟨cs, hcs, hl⟩ := Option.bind_eq_some_iff.1 he
          split at hl
          · rename_i ho
            cases hl
            exact does_xstore h o hop hx hX c3 ht c1 hd c4 hcs ho
          · cases hl
        · cases he
      · cases he
    · cases he
  · rename_i t n parts hop
    split at he
    · rename_i e k b xss hk hx
      split at he
      · rename_i hc
        cases he
        rw [hk] at hx
        exact does_buildSlice h o hop hk hx hc.1 hc.2.1 hc.2.2
      · cases he
    · cases he
  · rename_i t r hop
    split at he
    · rename_i d hd
      split at he
      · rename_i hc
        cases he
        simp only [Bool.and_eq_true, decide_eq_true_eq] at hc
        exact does_makeMap h o hop (by simpa using hc.1) hc.2
      · cases he
    · cases he
  · rename_i t n c hop
    split at he
    · rename_i e k b d kn n0 kc m hk hd hn hc
      split at he
      · rename_i h1
        obtain ⟨rfl, hT⟩ := h1
        split at he
        · rename_i h2
          cases he
          exact does_makeSlice h o hop hk hT hn hc h2.1 h2.2.1 h2.2.2
        · cases he
      · cases he
    · cases he
  · rename_i t m k x hop
    split at he
    · rename_i l hl
      split at he
      · rename_i es d z dv h1 h2 h3
        split at he
        · rename_i hc
          obtain ⟨es', hp, rfl⟩ := Option.map_eq_some_iff.1 he
          exact does_mapUpdate h o hop hl h1 h2 h3 hc.1 hc.2 hp
        · cases he
      · cases he
    · cases he
  · rename_i c hop
    split at he
    · rename_i x y t t' h1 h2 h3
      have hxr := h.ev x
      have hyr := h.ev y
      unfold evAppend at he
      split at he
      · rename_i e k b d hk ht' hd
        split at he
        · rename_i yss hys
          have hy : ∃ b', RelD g.S g.w (.lst .frozen k b' yss) (a.eval y) := by
            unfold ysOf at hys
            split at hys
            · rename_i hyn
              cases hys
              rw [hyn] at hyr
              exact ⟨0, RelD.ofNil k 0 (.inl rfl) hyr⟩
            · rename_i oy k' b' yss' hyl
              split at hys
              · rename_i hkk
                cases hys
                rw [hyl] at hyr
                rw [← hkk]
                exact ⟨b', relLst hyr⟩
              · cases hys
            · cases hys
          obtain ⟨b', hy⟩ := hy
          have fin : ∀ (tk : Nat) (xss : List (List PV)), Base g tk k b xss (a.eval x) → (xss.length + yss.length) * b ≤ sizeMax → xss.length + yss.length ≤ sizeMax →
              Does P o a g.w (fun a' w' => Inv Gl S0 w0 (((Eff.tok tk (xss.length + yss.length) k).app s).put o.dst (.lst (.own tk) k b (xss ++ yss))) a' w') := by
            intro tk xss hb q1 q2
            obtain ⟨v', g', r1, r2, r3⟩ := append_core (P := P) (ty := o.type) h hk ht' hb hy q1 q2
            refine .inl ⟨v', g'.w, ?_, ⟨g', rfl, r2.put _ r3⟩⟩
            simp [execOp, hop, resolve, h1, toList_two h2, toList_two h3, invoke, builtin, r1]
          split at he
          · rename_i hxn
            rw [hxn] at hxr
            split at he
            · rename_i hT
              split at he
              · rename_i hc
                cases he
                have hv : a.eval x = .slice none 0 0 := by simpa [Rel, RelA, Rel1, RelD] using hxr
                have := fin d [] ⟨RelD.ofNil k b (.inl rfl) (by rw [hv]; simp [RelD]), .inl ⟨by rw [h.hT]; exact hT, fun base cap e => (by rw [hv] at e; cases e; rfl)⟩⟩ (by simpa using hc.1) (by simpa using hc.2)
                simpa using this
              · cases he
            · cases he
          · rename_i k' b' xss hxl
            rw [hxl] at hxr
            split at he
            · rename_i hT
              obtain ⟨rfl, rfl, hT⟩ := hT
              split at he
              · rename_i hc
                cases he
                refine fin d xss ⟨relLst hxr, .inl ⟨by rw [h.hT]; exact hT, fun base cap e => ?_⟩⟩ hc.1 hc.2
                have hxr' : RelD g.S g.w (.lst .full k' b' xss) (a.eval x) := hxr
                simp only [RelD] at hxr'
                obtain ⟨_, _, _, ⟨q, q2⟩ | ⟨_, _, _, q, _, hf, _⟩⟩ := hxr'
                · rw [q] at e; subst q2; injection e with e1 e2 e3; exact e3.symm
                · rw [q] at e; injection e with e1 e2 e3; rw [← e3]; exact hf trivial
              · cases he
            · cases he
          · rename_i tk k' b' xss hxl
            rw [hxl] at hxr
            split at he
            · rename_i hT
              obtain ⟨rfl, rfl, hT⟩ := hT
              split at he
              · rename_i hc
                cases he
                have hxr' : Rel1 g (.lst (.own tk) k' b' xss) (a.eval x) := hxr
                simp only [Rel1] at hxr'
                obtain ⟨q1, n, q2, q3, q4⟩ := hxr'
                have hT' : g.T tk = some (xss.length, k') := by rw [h.hT]; exact hT
                rw [hT'] at q2; cases q2
                exact fin tk xss ⟨q1, .inr ⟨hT', q4 rfl⟩⟩ hc.1 hc.2
              · cases he
            · cases he
          · cases he
        · cases he
      · cases he
    · cases he
  · cases he

theorem toksFree_spec {d : Nat} {T : Nat → Option (Nat × Nat)} : ∀ {l : List (Nat × (Nat × Nat))}, toksFree d T l → ∀ x ∈ l, T (1000 * d + x.1) = none
  | [], _, x, hx => by cases hx
  | (t, y) :: r, h, x, hx => by
    rcases List.mem_cons.1 hx with rfl | hx
    · exact h.1
    · exact toksFree_spec h.2.2 x hx
theorem toksFree_k {d : Nat} {T : Nat → Option (Nat × Nat)} : ∀ {l : List (Nat × (Nat × Nat))}, toksFree d T l → ∀ x ∈ l, x.2.2 ≠ 0
  | [], _, x, hx => by cases hx
  | (t, y) :: r, h, x, hx => by
    rcases List.mem_cons.1 hx with rfl | hx
    · have := h.2.1
      simp only [Bool.and_eq_true] at this
      simpa using this.2
    · exact toksFree_k h.2.2 x hx
/-- A result's tokens come into the caller's hands. -/
theorem InvG.addToks {d : Nat} {g' : GG} {base : Nat} (hb : w0.heap.size ≤ base) (hown : ∀ t n k, g'.T t = some (n, k) → OwnOK g' base t n k) (hex : ∀ t t' B, Spare g' t B → Spare g' t' B → t = t')
    : ∀ (l : List (Nat × (Nat × Nat))) (s : PSt) (g : GG), InvG Gl S0 w0 s a g → g.w = g'.w → g.S = g'.S → (∀ x ∈ l, g'.T x.1 = some x.2) → toksFree d s.T l →
      (∀ t B, Spare g t B → B < base ∨ ∃ t0, t = 1000 * d + t0 ∧ Spare g' t0 B ∧ ∀ x ∈ l, x.1 ≠ t0) → (∀ l', (g.H l').isSome = true → g.φ l' < base) → (∀ t B, XB s.X g t B → B < base) →
      ∃ g2, InvG Gl S0 w0 (PM.addToks d s l) a g2 ∧ GLe g g2 ∧ g2.w = g.w ∧ g2.S = g.S ∧ (∀ x ∈ l, g2.T (1000 * d + x.1) = some x.2 ∧ g2.hd (1000 * d + x.1) = g'.hd x.1) ∧ (∀ t, (∀ x ∈ l, t ≠ 1000 * d + x.1) → g2.T t = g.T t ∧ g2.hd t = g.hd t)
  | [], s, g, h, _, _, _, _, _, _, _ => ⟨g, h, GLe.refl g, rfl, rfl, by simp, by simp⟩
  | (t, (n, k)) :: r, s, g, h, hw, hS, hT, hf, hsp, hφ, hxb => by
    obtain ⟨f1, f2', f3⟩ := hf
    simp only [Bool.and_eq_true] at f2'
    obtain ⟨f2, fk⟩ := f2'
    have hk0 : k ≠ 0 := by simpa using fk
    have hX : s.X (1000 * d + t) = none := h.noX fun n e => by rw [h.hT, f1] at e; cases e
    have hgT : g'.T t = some (n, k) := hT (t, (n, k)) (by simp)
    have hok := hown t n k hgT
    have hne : ∀ x ∈ r, x.1 ≠ t := fun x hx => by
      have := List.all_eq_true.1 f2 x hx
      simpa using this
    obtain ⟨h2, g2⟩ := h.setTok (t := 1000 * d + t) (n := n) (k := k) (v := g'.hd t) (fun n0 k0 e => by rw [h.hT, f1] at e; cases e) hk0
      (fun gg e1 e2 e3 => by
        rcases hok with ⟨q1, q2⟩ | ⟨B, off, cap, q1, q2, q3⟩
        · exact .inl ⟨by rw [e3]; exact q1, q2⟩
        · refine .inr ⟨B, off, cap, by rw [e3]; exact q1, q2, fun hlt => ?_⟩
          obtain ⟨r1, r2, r3, r4⟩ := q3 hlt
          rw [e1, e2, hw, hS]
          exact ⟨fun q => ⟨by have := (r1 q).1; omega, (r1 q).2⟩, r2, r3, r4⟩)
      (fun B off cap e hlt => by
        have hspt : Spare g' t B := ⟨n, k, off, cap, hgT, e, hlt⟩
        have hBb : base ≤ B := by
          rcases hok with ⟨q1, _⟩ | ⟨B', off', cap', q1, _, q3⟩
          · rw [q1] at e; cases e
          · rw [q1] at e; cases e; exact ((q3 hlt).1 hk0).1
        refine ⟨fun t' ht' => ?_, fun l hl hBB => ?_, fun t' ht' => by have := hxb t' B ht'; omega⟩
        · rcases hsp t' B ht' with q | ⟨t0, _, q2, q3⟩
          · omega
          · exact q3 (t, (n, k)) (by simp) (hex t t0 B hspt q2)
        · have := hφ l hl; omega) hX
    have hfree : toksFree d ({ s with T := upd s.T (1000 * d + t) (some (n, k)) } : PSt).T r := by
      have aux : ∀ l : List (Nat × (Nat × Nat)), (∀ x ∈ l, x.1 ≠ t) → toksFree d s.T l → toksFree d (upd s.T (1000 * d + t) (some (n, k))) l := by
        intro l
        induction l with
        | nil => intro _ _; trivial
        | cons x l ih =>
          intro q1 q2
          obtain ⟨tx, y⟩ := x
          have : tx ≠ t := q1 (tx, y) (by simp)
          exact ⟨by rw [upd_other _ _ _ _ (by omega)]; exact q2.1, q2.2.1, ih (fun x hx => q1 x (by simp [hx])) q2.2.2⟩
      exact aux r hne f3
    obtain ⟨g3, k1, k2, k3, k4, k5, k6⟩ := InvG.addToks hb hown hex r _ _ h2 hw hS (fun x hx => hT x (by simp [hx])) hfree
      (fun t' B hs' => by
        obtain ⟨n', k', off', cap', e1, e2, e3⟩ := hs'
        by_cases ht' : t' = 1000 * d + t
        · subst ht'
          have e1' : upd g.T (1000 * d + t) (some (n, k)) (1000 * d + t) = some (n', k') := e1
          rw [upd_same] at e1'
          cases e1'
          simp only [if_true] at e2
          exact .inr ⟨t, rfl, ⟨n, k, off', cap', hgT, e2, e3⟩, hne⟩
        · have e1' : upd g.T (1000 * d + t) (some (n, k)) t' = some (n', k') := e1
          rw [upd_other _ _ _ _ ht'] at e1'
          simp only [if_neg ht'] at e2
          rcases hsp t' B ⟨n', k', off', cap', e1', e2, e3⟩ with q | ⟨t0, q1, q2, q3⟩
          · exact .inl q
          · exact .inr ⟨t0, q1, q2, fun x hx => q3 x (by simp [hx])⟩) (fun l' hl' => hφ l' hl') (fun t' B hx => hxb t' B (by
        obtain ⟨x1, off', n', cap', x2⟩ := hx
        have hne' : t' ≠ 1000 * d + t := fun e => by rw [e] at x1; rw [hX] at x1; cases x1
        simp only [if_neg hne'] at x2
        exact ⟨x1, off', n', cap', x2⟩))
    refine ⟨g3, k1, g2.trans k2, k3, k4, fun x hx => ?_, fun t' ht' => ?_⟩
    · rcases List.mem_cons.1 hx with rfl | hx
      · have := k6 (1000 * d + t) (fun x hx => by have := hne x hx; omega)
        rw [this.1, this.2]
        exact ⟨upd_same _ _ _, by simp⟩
      · exact k5 x hx
    · have h0 := ht' (t, (n, k)) (by simp)
      have := k6 t' (fun x hx => ht' x (by simp [hx]))
      rw [this.1, this.2]
      exact ⟨upd_other _ _ _ _ h0, by simp [show t' ≠ 1000 * d + t from h0]⟩
end
end PM
