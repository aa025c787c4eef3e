/-
  THE PURE MACHINE, Qt: a region that draws its order, all orders walked.
-/
import Derived.Test.YtmbcgmlgbcookaaDoorPmQh
import Derived.Scope
namespace PM
open Go Go.RowKit

section
variable {P : Program} {Gl : Nat → Option (List PV)} {s : PSt} {ops : Array Oper} {Q : PSt → Prop} {n : Nat} {listed : Array Bool}
def pEach (f : Nat → Prop) : List Nat → Prop
  | [] => True
  | i :: r => f i ∧ pEach f r
theorem pEach_mem {f : Nat → Prop} : ∀ {l : List Nat}, pEach f l → ∀ i ∈ l, f i
  | [], _, i, h => by cases h
  | j :: r, h, i, hi => by
    rcases List.mem_cons.1 hi with rfl | hi
    · exact h.1
    · exact pEach_mem h.2 i hi
theorem pAny_node (is : List Nat) (h : (Region.ready .any ops listed, is.isEmpty) = (is, false))
    (hk : pEach (fun i => ∃ o, ops[i]? = some o ∧ pops P Gl true [(o, gdOf ops o)] s (pAny P Gl .any ops Q n (listed.setIfInBounds i true))) is) : pAny P Gl .any ops Q (n + 1) listed s := by
  simp only [Prod.mk.injEq] at h
  obtain ⟨h1, h2⟩ := h
  refine ⟨fun e => ?_, fun i hi => ?_⟩
  · rw [h1] at e; subst e; cases h2
  · rw [h1] at hi
    obtain ⟨o, ho, hp⟩ := pEach_mem hk i hi
    refine ⟨o, ho, ?_⟩
    simp only [pops] at hp
    exact gdStep_mono (fun q => Or.resolve_right q fun e => (by cases e.1)) hp
theorem pAny_leaf (h : (Region.ready .any ops listed).isEmpty = true) (hq : Q s) : pAny P Gl .any ops Q 0 listed s := ⟨by simpa using h, hq⟩
theorem p_nil {d : Bool} (h : Q s) : pops P Gl d [] s Q := h
theorem r_any {Q : Exit → PSt → Prop} {id : Nat} (n : Nat) (J : JS) (hm : P.follows .mixedOrders = true) (h : pAny P Gl .any ops (fun s' => Wkr s' (J.st n)) ops.size (Array.replicate ops.size false) s) (hk : Q .normal (J.st n)) : pwp P Gl (.region id ops true) Q s := fun S0 w0 a w hi => by
  obtain ⟨g, rfl, hg⟩ := hi
  refine wp_region_any hm ?_
  exact pAny_sound (S0 := S0) (w0 := w0) (P := P) (Gl := Gl) (Q' := fun e a' w' => ∃ s', Q e s' ∧ Inv Gl S0 w0 s' a' w') (fun s' a' w' q i => ⟨_, hk, q Gl S0 w0 a' w' i⟩) ops.size (Array.replicate ops.size false) s a _ ⟨_, rfl, hg.drew.1⟩ h
end
/-! ### A region that draws its order: runs of operations that touch nothing in common with those that may still come; else all orders -/
section
variable {P : Program} {Gl : Nat → Option (List PV)} {s : PSt} {ops : Array Oper} {Q : PSt → Prop}
def pI (P : Program) (Gl : Nat → Option (List PV)) (ops : Array Oper) (Q : PSt → Prop) (n : Nat) (listed : Array Bool) (s : PSt) : Prop := Inv2 .any ops listed → pAny P Gl .any ops Q n listed s
def opsAt (ops : Array Oper) (is : List Nat) : List (Oper × Gd) := is.filterMap fun i => (ops[i]?).map fun o => (o, gdOf ops o)
def setAll : List Nat → Array Bool → Array Bool
  | [], l => l
  | i :: is, l => setAll is (l.setIfInBounds i true)
def runB (ms : List Nat) (ops : Array Oper) : List Nat → Array Bool → Bool
  | [], _ => true
  | i :: is, l => (Region.ready .any ops l).contains i && freeP ms ops l i && runB ms ops is (l.setIfInBounds i true)
theorem pI_runL (n : Nat) : ∀ (is : List Nat) (listed : Array Bool) (s : PSt), runB (masks ops.toList []) ops is listed = true → pops P Gl true (opsAt ops is) s (pI P Gl ops Q n (setAll is listed)) → pI P Gl ops Q (is.length + n) listed s
  | [], listed, s, _, h => by
    simp only [opsAt, List.filterMap_nil, pops, setAll] at h
    simpa using h
  | i :: is, listed, s, hB, h => by
    simp only [runB, Bool.and_eq_true] at hB
    obtain ⟨⟨hr, hf⟩, hB'⟩ := hB
    have hr' : i ∈ Region.ready .any ops listed := by simpa using hr
    have ho : ∃ o, ops[i]? = some o := by
      cases he : ops[i]? with
      | none => simp [freeP, he] at hf
      | some o => exact ⟨o, rfl⟩
    obtain ⟨o, ho⟩ := ho
    have hop : opsAt ops (i :: is) = (o, gdOf ops o) :: opsAt ops is := by simp [opsAt, ho]
    rw [hop] at h
    simp only [pops] at h
    obtain ⟨x, hy, hK⟩ := gOp_iff.1 (show gOp P Gl ops o (fun s' => pops P Gl true (opsAt ops is) s' (pI P Gl ops Q n (setAll is (listed.setIfInBounds i true)))) s from gdStep_mono (y := stepOp P Gl true o s fun s' => pops P Gl true (opsAt ops is) s' (pI P Gl ops Q n (setAll is (listed.setIfInBounds i true)))) (fun q => Or.resolve_right q fun e => (by cases e.1)) h)
    intro hI
    have hms := masks_spec ops.toList [] (ops := ops) (fun j m i hj => by simp at hj) (by simp)
    rw [show (i :: is).length + n = (is.length + n) + 1 by simp; omega]
    exact pAny_first ho (is.length + n) listed s hI (freeP_spec hms ho hf) hr' hy (pI_runL n is _ _ hB' hK (hI.list hr'))
theorem pI_run {m : Nat} {listed : Array Bool} (is : List Nat) (n : Nat) (h : (runB (masks ops.toList []) ops is listed && (m == is.length + n)) = true) (hk : pops P Gl true (opsAt ops is) s (pI P Gl ops Q n (setAll is listed))) : pI P Gl ops Q m listed s := by
  simp only [Bool.and_eq_true, beq_iff_eq] at h
  rw [h.2]; exact pI_runL n is listed s h.1 hk
theorem pI_node {n m : Nat} {listed : Array Bool} (is : List Nat) (h : (Region.ready .any ops listed, is.isEmpty, m == n + 1) = (is, false, true))
    (hk : pEach (fun i => ∃ o, ops[i]? = some o ∧ pops P Gl true [(o, gdOf ops o)] s (pI P Gl ops Q n (listed.setIfInBounds i true))) is) : pI P Gl ops Q m listed s := by
  simp only [Prod.mk.injEq, beq_iff_eq] at h
  obtain ⟨h1, h2, rfl⟩ := h
  intro hI
  refine ⟨fun e => ?_, fun i hi => ?_⟩
  · rw [h1] at e; subst e; cases h2
  · have hi' := hi
    rw [h1] at hi
    obtain ⟨o, ho, hp⟩ := pEach_mem hk i hi
    refine ⟨o, ho, ?_⟩
    simp only [pops] at hp
    exact gOp_mono (fun s' hs => hs (hI.list hi')) (show gOp P Gl ops o (pI P Gl ops Q n (listed.setIfInBounds i true)) s from gdStep_mono (fun q => Or.resolve_right q fun e => (by cases e.1)) hp)
theorem pI_leaf {m : Nat} {listed : Array Bool} (h : ((Region.ready .any ops listed).isEmpty && (m == 0)) = true) (hq : Q s) : pI P Gl ops Q m listed s := by
  simp only [Bool.and_eq_true, beq_iff_eq] at h
  rw [h.2]
  exact fun _ => ⟨by simpa using h.1, hq⟩
theorem p_nilK {Ls : List (Oper × Gd)} {d : Bool} (h : Ls.isEmpty = true) (hq : Q s) : pops P Gl d Ls s Q := by
  cases Ls with
  | nil => exact hq
  | cons x l => simp at h
theorem r_anyI {Q : Exit → PSt → Prop} {id : Nat} (n : Nat) (J : JS) (hm : P.follows .mixedOrders = true) (h : pI P Gl ops (fun s' => Wkr s' (J.st n)) ops.size (Array.replicate ops.size false) s) (hk : Q .normal (J.st n)) : pwp P Gl (.region id ops true) Q s :=
  r_any n J hm (h (Inv2.none _)) hk
end
/-! ### A scope with one label at its head: jumps back to it -/
section
variable {P : Program} {Gl : Nat → Option (List PV)} {s : PSt}
def scopeQ (I : Nat → PSt → Prop) (n l : Nat) (Q : Exit → PSt → Prop) : Exit → PSt → Prop
  | .goto l', s => l' = l ∧ ∃ m s', m < n ∧ I m s' ∧ Weaker s s'
  | e, s => Q e s
theorem pwp_scope {B : Code} {l : Nat} {Q : Exit → PSt → Prop} (I : Nat → PSt → Prop) (n : Nat) {s' : PSt} (h0 : I n s') (hw : Weaker s s') (hr : ∀ n s, I n s → pwp P Gl B (scopeQ I n l Q) s) : pwp P Gl (.scope (.seq (.label l) B)) Q s := by
  intro S0 w0 a w hi
  have hg : ∀ k, gotoIn l (.inScope (.seq (.label l) B) :: k) = some (.code (.seq .skip B) :: .inScope (.seq (.label l) B) :: k) := fun k => by simp [gotoIn, findLabel]
  have key : ∀ n (a : Act) (w : World), (∃ s, I n s ∧ Inv Gl S0 w0 s a w) → ∀ (b : Frame) (k : List Item) (cs : List Frame),
      ∃ e a' w', (∃ s', Q e s' ∧ Inv Gl S0 w0 s' a' w') ∧ Arrives P (lone (b.at a (.code B :: .inScope (.seq (.label l) B) :: k)) cs w) b k cs e a' w' := by
    intro n
    induction n using Nat.strongRecOn with
    | _ n ih =>
      rintro a w ⟨s, hI, hi⟩ b k cs
      obtain ⟨e, a1, w1, ⟨s1, hq, hi1⟩, harr⟩ := hr n s hI S0 w0 a w hi b (.inScope (.seq (.label l) B) :: k) cs
      cases e with
      | normal => exact ⟨.normal, a1, w1, ⟨s1, hq, hi1⟩, Steps.trans harr (.one step_inScope)⟩
      | exit id => exact ⟨.exit id, a1, w1, ⟨s1, hq, hi1⟩, fun k' hk => harr k' (by simp [exitTo, hk])⟩
      | goto l' =>
        obtain ⟨rfl, m, s2, hm, hI2, hw2⟩ := hq
        obtain ⟨e2, a2, w2, hq2, harr2⟩ := ih m hm a1 w1 ⟨s2, hI2, hi1.weak hw2⟩ b k cs
        exact ⟨e2, a2, w2, hq2, .of_steps (Steps.trans (harr _ (hg k)) (.head step_seq (.one step_skip))) harr2⟩
      | ret => exact ⟨_, a1, w1, ⟨s1, hq, hi1⟩, harr⟩
      | panic ch => exact ⟨_, a1, w1, ⟨s1, hq, hi1⟩, harr⟩
      | outgrown => exact ⟨_, a1, w1, ⟨s1, hq, hi1⟩, harr⟩
  intro b k cs
  obtain ⟨e, a', w', hq, harr⟩ := key n a w ⟨s', h0, hi.weak hw⟩ b k cs
  exact ⟨e, a', w', hq, .of_steps (.head step_scope (.head step_seq (.one step_label))) harr⟩
theorem pwp_goto {l : Nat} {Q : Exit → PSt → Prop} (h : Q (.goto l) s) : pwp P Gl (.goto l) Q s := fun _ _ _ _ hi => wp_goto ⟨s, h, hi⟩
theorem q_seq_goto {y : Code} {k : Nat} {Q : Exit → PSt → Prop} (h : Q (.goto k) s) : seqQ P Gl y Q (.goto k) s := h
theorem q_block_goto {id k : Nat} {Q : Exit → PSt → Prop} (h : Q (.goto k) s) : blockQ id Q (.goto k) s := h
variable {α β σ : Type} {n l k : Nat} {J : σ → JS} {J0 : α → JS} {Q : Exit → PSt → Prop} {v' : σ} {v : α} {b : β} {r : α ⊕ β}
theorem q_jout_goto {J : α → JS} (h : Q (.goto k) s) : joinPost J n Q (.inr b) (.goto k) s := ⟨by simp, h⟩
theorem q_lout_goto {id : Nat} (h : .inr b = r → Q (.goto k) s) : loopPost2 J J0 n id Q r (.inr (.inr b)) (.goto k) s := fun e => ⟨by simp, h e⟩
def scopePost (J : σ → JS) (J0 : α → JS) (n l : Nat) (Q : Exit → PSt → Prop) (r : α ⊕ β) (o : σ ⊕ (α ⊕ β)) (e : Exit) (s' : PSt) : Prop :=
  match o with
  | .inl v' => e = .goto l ∧ (J v').seen s' = (J v').told n
  | .inr (.inl v) => e = .normal ∧ Wkr s' ((J0 v).st n)
  | .inr (.inr b) => .inr b = r → e ≠ .normal ∧ (∀ k, e ≠ .goto k) ∧ Q e s'
theorem q_sback (h : (J v').seen s = (J v').told n) : scopePost J J0 n l Q r (.inl v') (.goto l) s := ⟨rfl, h⟩
theorem q_sexit (hok : (J0 v).ok = true) (h : (J0 v).seen s = (J0 v).told n) : scopePost J J0 n l Q r (.inr (.inl v)) .normal s := ⟨rfl, .of hok h⟩
theorem q_sexit_w {s' : PSt} (hs : Wkr s' s) (hok : (J0 v).ok = true) (h : (J0 v).seen s = (J0 v).told n) : scopePost J J0 n l Q r (.inr (.inl v)) .normal s' := ⟨rfl, hs.trans (.of hok h)⟩
theorem q_sout_exit (h : .inr b = r → Q (.exit k) s) : scopePost J J0 n l Q r (.inr (.inr b)) (.exit k) s := fun e => ⟨by simp, by simp, h e⟩
theorem q_sout_ret (h : .inr b = r → Q .ret s) : scopePost J J0 n l Q r (.inr (.inr b)) .ret s := fun e => ⟨by simp, by simp, h e⟩
theorem r_scope {step : σ → Option (σ ⊕ (α ⊕ β))} {v : σ} {B : Code} (n l : Nat) (J : σ → JS) (J0 : α → JS) (hl : loopO step v = some r) (h0 : (J v).seen s = (J v).told n) (hok : ∀ v, (J v).ok = true)
    (hb : ∀ v o, step v = some o → pwp P Gl B (scopePost J J0 n l Q r o) ((J v).st n)) (h2 : ∀ v s', r = .inl v → Wkr s' ((J0 v).st n) → Q .normal s') : pwp P Gl (.scope (.seq (.label l) B)) Q s := by
  obtain ⟨m, hm⟩ := loopO_some.1 hl
  refine pwp_scope (fun m s => ∃ v, LoopN step m v r ∧ s = (J v).st n) m ⟨v, hm, rfl⟩ (JS.weaker (hok v) h0) ?_
  rintro m _ ⟨v, hv, rfl⟩
  cases hv with
  | done h1 =>
    refine pwp_mono (fun e s' hp => ?_) (hb v _ h1)
    rcases r with x | x
    · obtain ⟨rfl, h3⟩ := hp
      exact h2 x s' rfl h3
    · obtain ⟨h3, h4, h5⟩ := hp rfl
      cases e <;> first | exact absurd rfl h3 | exact absurd rfl (h4 _) | exact h5
  | more h1 h2 =>
    refine pwp_mono (fun e s' hp => ?_) (hb v _ h1)
    obtain ⟨rfl, h3⟩ := hp
    exact ⟨rfl, _, _, Nat.lt_succ_self _, ⟨_, h2, rfl⟩, JS.weaker (hok _) h3⟩
end
/-! ### A key is taken out of a map -/
section
variable {κ ν : Type} [Key κ] [Enc ν] {P : Program} {Gl : Nat → Option (List PV)} {s : PSt} {Ls : List (Oper × Gd)} {Q : PSt → Prop}
def mdel (k : κ) : List (κ × ν) → List (κ × ν)
  | [] => []
  | e :: es => if k = e.1 then es else e :: mdel k es
def mdHd (P : Program) : List (Oper × Gd) → PSt → Option (Nat × PV)
  | (o, .always) :: _, s => match o.op with
    | .call c => match c.callee, c.args.toList, c.argTypes.toList with
      | .builtin .delete, [m, k], t :: _ => match s.ev m, mapKD P t with
        | .mp l, some (d, _) => if keyD d (s.ev k) = true then some (l, s.ev k) else none
        | _, _ => none
      | _, _, _ => none
    | _ => none
  | _, _ => none
theorem pset_any (k : κ) : ∀ m : List (κ × ν), ∃ i, pset (Enc.pv k) .any (mpOf m) = some (if i < m.length then (mpOf m).set i (Enc.pv k, .any) else mpOf m ++ [(Enc.pv k, .any)]) ∧ mpOf (mdel k m) = (mpOf m).eraseIdx i ∧ i ≤ m.length
  | [] => ⟨0, rfl, rfl, Nat.le_refl _⟩
  | e :: es => by
    by_cases h : k = e.1
    · exact ⟨0, by simp [mpOf, pset, Key.keq, h], by simp [mpOf, mdel, h], Nat.zero_le _⟩
    · obtain ⟨i, i1, i2, i3⟩ := pset_any k es
      unfold mpOf at i1 i2 ⊢
      refine ⟨i + 1, ?_, by simp [mdel, h, i2], by simp; omega⟩
      simp only [List.map_cons, pset, Key.keq, h, decide_false, i1, Option.map_some, List.length_cons, Nat.add_lt_add_iff_right]
      split <;> simp
theorem All2.eraseIdx {α β : Type} {R : α → β → Prop} {xs : List α} {ys : List β} (h : All2 R xs ys) (i : Nat) : All2 R (xs.eraseIdx i) (ys.eraseIdx i) := by
  refine ⟨by simp [List.length_eraseIdx, h.1], fun j a b ha hb => ?_⟩
  rw [List.getElem?_eraseIdx] at ha hb
  by_cases hj : j < i
  · rw [if_pos hj] at ha hb; exact h.2 j a b ha hb
  · rw [if_neg hj] at ha hb; exact h.2 (j + 1) a b ha hb
theorem toList_two' {α : Type} {x : Array α} {a b : α} (h : x.toList = [a, b]) : x = #[a, b] := Array.toList_inj.1 h
theorem p_mdel {m : List (κ × ν)} {k : κ} (l : Nat) (hH : s.H l = some (.map (mpOf m))) (h : mdHd P Ls s = some (l, Enc.pv k))
    (h2 : pops P Gl false (Ls.drop 1) (({ s with H := upd s.H l (some (.map (mpOf (mdel k m)))) } : PSt).put (dstHd Ls) .any) Q) : pops P Gl false Ls s Q := by
  unfold mdHd at h
  split at h
  · rename_i s0 o rest
    split at h
    · rename_i c hop
      split at h
      · rename_i x y t ts hcal hargs htys
        split at h
        · rename_i l' d z hx hm
          split at h
          · rename_i hd
            simp only [Option.some.injEq, Prod.mk.injEq] at h
            obtain ⟨rfl, hk⟩ := h
            refine p_sem (n := { s with H := upd s.H l' (some (.map (mpOf (mdel k m)))) }) (v := .any) (by rw [hop]; rfl) ?_ h2
            intro S0 w0 a g K Q' hg hK
            have hgl : g.H l' = some (.map (mpOf m)) := by rw [hg.hH]; exact hH
            obtain ⟨o1, o2, o3, arr, clock, ⟨b1, b0⟩, b2⟩ := hg.objs l' _ hgl
            obtain ⟨kt, et, m1, m2, m3, m4, m5⟩ := mapKD_spec hm
            have hmx : a.eval x = .map (some (g.φ l')) := by have := hg.ev x; rw [hx] at this; exact this.1
            have hky := hg.ev y
            rw [hk] at hd hky
            have hkv : RelD g.S g.w (Enc.pv k) (a.eval y) := by
              revert hky hd
              cases (Enc.pv k : PV) <;> intro hd hky <;> first | exact hky | (cases d <;> simp [keyD] at hd; done) | skip
              cases d <;> simp only [keyD] at hd <;> try cases hd
              obtain ⟨x1, y1, e⟩ := keyD_pair hd
              rw [e] at hky ⊢
              exact rel_pair hky
            have hc := checkKey_run (P := P) (w := g.w) m2 m5 hd hkv arr.isEmpty
            obtain ⟨i, i1, i2, i3⟩ := pset_any (ν := ν) k m
            have fin : ∀ arr' : Array MapEntry, BornOK arr' clock → (∀ g' : GG, GLe g g' → All2 (RelE g'.S g'.w) (mpOf (mdel k m)) arr'.toList) → (Builtin.delete_ c.argTypes o.type #[a.eval x, a.eval y]).run P g.w = .ok (.tuple #[]) { g.w with heap := g.w.heap.setIfInBounds (g.φ l') (.map arr' clock) } → o.wp P a g.w K Q' := by
              intro arr' hbo hall hrun
              obtain ⟨hs1, hs2⟩ := MapKept.heap_set (o' := .map arr' clock) b1
              obtain ⟨h3, e3⟩ := hg.setObj (l := l') (ob' := .map (mpOf (mdel k m))) (w' := { g.w with heap := g.w.heap.setIfInBounds (g.φ l') (.map arr' clock) }) hgl
                ⟨rfl, rfl, rfl, by simp, fun r hr => hs2 r hr, rfl⟩ (fun cs e => by cases e) (fun g' hg' hw' => ⟨arr', clock, ⟨by rw [hw']; exact hs1, hbo⟩, hall g' hg'⟩)
              have hrun2 : (execOp a.eval o).run P g.w = .ok (.value (.tuple #[])) { g.w with heap := g.w.heap.setIfInBounds (g.φ l') (.map arr' clock) } := by
                have h1 : c.args = #[x, y] := toList_two' hargs
                simp [execOp, hop, resolve, hcal, h1, invoke, builtin, hrun]
              unfold Oper.wp
              rw [hrun2]
              exact hK _ _ h3 e3 (Rel.any _ _)
            have hat : c.argTypes[0]? = some t := by rw [← Array.getElem?_toList, htys]; rfl
            have up : ∀ g' : GG, GLe g g' → All2 (RelE g'.S g'.w) (mpOf m) arr.toList := fun g' hg' => b2.mono fun _ _ q => ⟨q.1.mono hg'.S hg'.cell hg'.blk, q.2.1.mono hg'.S hg'.cell hg'.blk, q.2.2⟩
            have hml : (mpOf m).length = m.length := by simp [mpOf]
            rcases pset_run (P := P) m2 m5 hd hkv b2 i1 with ⟨e1, hfk⟩ | ⟨j, m', hfk, h3, h4, e1⟩
            · have hi : ¬ i < m.length := fun hi => by
                rw [if_pos hi] at e1
                have := congrArg List.length e1
                simp at this
              refine fin arr b0 (fun g' hg' => ?_) ?_
              · rw [i2, List.eraseIdx_of_length_le (by omega)]; exact up g' hg'
              · simp [Builtin.delete_, hat, run_underlying m1, hmx, MapKept.run_getObj_map b1, hc, hfk, MapKept.run_setObj_map _ b1]
            · have hi : i = j := by
                have hjl : j < (mpOf m).length := by rw [b2.1]; exact (List.getElem?_eq_some_iff.1 h3).1
                by_cases hi : i < m.length
                · rw [if_pos hi] at e1
                  by_cases hij : i = j
                  · exact hij
                  · exfalso
                    have := congrArg (fun l : List (PV × PV) => l[j]?) e1
                    simp only [List.getElem?_set, hij, if_false, if_true] at this
                    rw [if_pos hjl] at this
                    obtain ⟨q1, q2, q3⟩ := b2.2 j _ m' this h3
                    simp [flatV] at q3
                · exfalso
                  rw [if_neg hi] at e1
                  have := congrArg List.length e1
                  simp at this
              subst hi
              refine fin (arr.eraseIdxIfInBounds i) (b0.erase i) (fun g' hg' => ?_) ?_
              · rw [i2, show (arr.eraseIdxIfInBounds i).toList = arr.toList.eraseIdx i by simp]; exact (up g' hg').eraseIdx i
              · simp [Builtin.delete_, hat, run_underlying m1, hmx, MapKept.run_getObj_map b1, hc, hfk, MapKept.run_setObj_map _ b1]
          · cases h
        · cases h
      · cases h
    · cases h
  · cases h
end
/-! ### The end of a function that changes a list in place, behind a loop -/
section
variable {P : Program} {Gl : Nat → Option (List PV)} {s : PSt}
theorem pwp_wkrPost {c : Code} {Q : Exit → PSt → Prop} (h : pwp P Gl c (fun e s1 => ∃ s, Wkr s1 s ∧ Q e s) s) : pwp P Gl c Q s :=
  fun S0 w0 a w hi => wp_mono (fun _ _ _ ⟨_, ⟨s, hw, q⟩, i⟩ => ⟨s, q, hw _ _ _ _ _ i⟩) (h S0 w0 a w hi)
def xbodyQW (P : Program) (Gl : Nat → Option (List PV)) (rs : List ResultVar) (k b N : Nat) (m : Option Nat) (xss' : List (List PV)) (e : Exit) (s1 : PSt) : Prop := ∃ s, Wkr s1 s ∧ xbodyQ P Gl rs k b N m xss' e s
theorem q_xretW {rs : List ResultVar} {k b N : Nat} {m : Option Nat} {xss' : List (List PV)} (h : (s.X T0, s.T T0, resPV P Gl s rs) = (some (k, b, xss'), some (N, 0), some (match m with | none => [] | some m' => [.ex T0 k b N 0 m']))) : xbodyQW P Gl rs k b N m xss' .ret s := ⟨s, fun _ _ _ _ _ hi => hi, h⟩
theorem q_xretW_w {s1 : PSt} {rs : List ResultVar} {k b N : Nat} {m : Option Nat} {xss' : List (List PV)} (hw : Wkr s1 s) (h : (s.X T0, s.T T0, resPV P Gl s rs) = (some (k, b, xss'), some (N, 0), some (match m with | none => [] | some m' => [.ex T0 k b N 0 m']))) : xbodyQW P Gl rs k b N m xss' .ret s1 := ⟨s, hw, h⟩
theorem xcall_of_pwpW {f : FuncId} {fn : Func} {c : Code} {args : List PV} {k b n : Nat} {xss xss' : List (List PV)} {m : Option Nat} {rs : List ResultVar} (hf : P.funcs[f]? = some fn) (hname : (fn.name == "runtime.NumGoroutine") = false) (hb : fn.body = some c)
    (hn : fn.ntmps = n) (hrs : fn.results.toList = rs) (hflat : args.all flatArg = true) (h : pwp P Gl c (xbodyQW P Gl rs k b xss.length m xss') (xst0 k b xss args n)) : XCall P Gl f k b xss args m xss' :=
  xcall_of_pwp hf hname hb hn hrs hflat (pwp_wkrPost h)
end
end PM
