/-
  THE PURE MACHINE, R: regions that draw their order: the order of the text suffices, where operations that no edge orders do not touch the same things.
-/
import Derived.Test.YtaoagcnjefialaaDoorPmN
import Derived.Still
namespace PM
open Go Go.RowKit

/-- What an operation touches beyond its slots. -/
inductive Cl where
  | pure | rd | ld | al | st | ms | ap | bad
  deriving DecidableEq
def clOf : Op → Cl
  | .move _ | .assign _ | .pick _ _ _ | .nilCheck _ | .binOp _ _ _ _ _ | .unOp _ _ _ | .convert _ _ _ | .fieldAddr _ _ _ | .field _ _ _ | .indexAddr _ _ _ | .index _ _ _ | .extract _ _ | .slice _ _ _ _ _ | .build _ _ | .makeFunc _ _ _ | .buildSlice _ _ _ => .pure
  | .load _ _ => .ld
  | .lookup _ _ _ _ => .rd
  | .alloc _ | .box _ _ | .makeMap _ _ => .al
  | .store _ _ _ => .st
  | .mapUpdate _ _ _ _ => .ms
  | .call c => match c.callee with
    | .value _ => .pure
    | .builtin .len => .rd
    | .builtin .min | .builtin .max => .pure
    | .builtin .append => .ap
    | _ => .bad
  | .makeSlice _ _ _ => .ap
  | _ => .bad
/-- May the first be moved behind the second? -/
def compat : Cl → Cl → Bool
  | .bad, _ | _, .bad => false
  | .pure, _ | _, .pure => true
  | .rd, .rd | .rd, .ld | .rd, .al | .rd, .ap => true
  | .ld, .rd | .ld, .ld | .ld, .al | .ld, .ap | .ld, .ms => true
  | .al, .al | .al, .ap => true
  | .st, .al | .st, .ap => true
  | .ms, .al | .ms, .ap => true
  | .ap, .rd | .ap, .ld | .ap, .al | .ap, .st | .ap, .ms => true
  | _, _ => false
def clR : Cl → Cl
  | .ld => .rd
  | c => c
def clS : Cl → Cl
  | .ms => .st
  | c => c

section
variable {P : Program} {Gl : Nat → Option (List PV)} {H H' : Nat → Option PObj} {T T' : Nat → Option (Nat × Nat)} {X : XT} {ρ ρ' : Operand → PV} {dst : Option Nat} {op : Op} {v : PV} {e : Eff}
theorem evO_congr (h : ∀ x ∈ op.operands, ρ x = ρ' x) : evO P Gl dst op ρ H T X = evO P Gl dst op ρ' H T X := by
  unfold evO
  cases op <;> simp only [memOp, Bool.false_eq_true, if_false, if_true, ev1, evE]
  case pick c x y => simp only [Op.operands] at h; rw [h c (by simp), h x (by simp), h y (by simp)]
  case move x => simp only [Op.operands] at h; rw [h x (by simp)]
  case assign x => simp only [Op.operands] at h; rw [h x (by simp)]
  case box t x => simp only [Op.operands] at h; rw [h x (by simp)]
  case nilCheck x => simp only [Op.operands] at h; rw [h x (by simp)]
  case unOp op t x => simp only [Op.operands] at h; rw [h x (by simp)]
  case convert a b x => simp only [Op.operands] at h; rw [h x (by simp)]
  case fieldAddr t x f => simp only [Op.operands] at h; rw [h x (by simp)]
  case field t x f => simp only [Op.operands] at h; rw [h x (by simp)]
  case load t x => simp only [Op.operands] at h; rw [h x (by simp)]
  case makeSlice t n c => simp only [Op.operands] at h; rw [h n (by simp), h c (by simp)]
  case lookup t x k ok => simp only [Op.operands] at h; rw [h x (by simp), h k (by simp)]
  case mapUpdate t m k x => simp only [Op.operands] at h; rw [h m (by simp), h k (by simp), h x (by simp)]
  case extract x i => simp only [Op.operands] at h; rw [h x (by simp)]
  case store t x y => simp only [Op.operands] at h; rw [h x (by simp), h y (by simp)]
  case binOp op t x y u => simp only [Op.operands] at h; rw [h x (by simp), h y (by simp)]
  case indexAddr t x y => simp only [Op.operands] at h; rw [h x (by simp), h y (by simp)]
  case index t x y => simp only [Op.operands] at h; rw [h x (by simp), h y (by simp)]
  case slice t x lo hi mx =>
    simp only [Op.operands] at h
    rw [h x (by simp)]
    have e : ∀ y : Option Operand, (∀ z ∈ y, ρ z = ρ' z) → y.map ρ = y.map ρ' := fun y hy => by
      cases y with
      | none => rfl
      | some z => simp [hy z rfl]
    rw [e lo (fun z hz => h z (by simp at hz; subst hz; simp)), e hi (fun z hz => h z (by simp at hz; subst hz; simp)), e mx (fun z hz => h z (by simp at hz; subst hz; simp))]
  case build t ps =>
    simp only [Op.operands] at h
    have : ps.toList.map (fun x => (x.1, ρ x.2)) = ps.toList.map (fun x => (x.1, ρ' x.2)) := List.map_congr_left fun x hx => by
      rw [h x.2 (by simp; exact ⟨x.1, by simpa using hx⟩)]
    rw [this]
  case buildSlice t n ps =>
    simp only [Op.operands] at h
    have : ps.toList.map (fun x => (x.1, ρ x.2)) = ps.toList.map (fun x => (x.1, ρ' x.2)) := List.map_congr_left fun x hx => by
      rw [h x.2 (by simp; exact ⟨x.1, by simpa using hx⟩)]
    rw [this]
  case makeFunc fn first caps =>
    simp only [Op.operands] at h
    have : caps.toList.map ρ = caps.toList.map ρ' := List.map_congr_left fun x hx => h x (by simp; exact .inr (by simpa using hx))
    cases fn <;> simp only [this]
  case call c =>
    simp only [Op.operands, Call.operands] at h
    have hargs : ∀ x ∈ c.args.toList, ρ x = ρ' x := fun x hx => h x (by simp; exact .inr (by simpa using hx))
    obtain ⟨cal, args, tys⟩ := c
    cases cal with
    | value f => simp only [Bool.false_eq_true, if_false]
    | invoke r m => simp only [Bool.false_eq_true, if_false]
    | builtin b =>
      cases b <;> simp only [Bool.false_eq_true, if_false, if_true]
      all_goals
        (split
         all_goals first
           | rfl
           | (rename_i x y _ h2; rw [hargs x (by rw [h2]; simp), hargs y (by rw [h2]; simp)]; done)
           | (rename_i x y h2; rw [hargs x (by rw [h2]; simp), hargs y (by rw [h2]; simp)]; done)
           | (rename_i x _ _ h2 _; rw [hargs x (by rw [h2]; simp)]; done)
           | (rename_i x y _ _ _ h2 _; rw [hargs x (by rw [h2]; simp), hargs y (by rw [h2]; simp)]; done))
theorem evO_pure (hc : clOf op = .pure) (h : evO P Gl dst op ρ H T X = some (v, e)) : e = .none ∧ ∀ H' T' X', evO P Gl dst op ρ H' T' X' = some (v, e) := by
  unfold evO at h ⊢
  cases op <;> simp only [clOf] at hc <;> try cases hc
  case buildSlice.intro t n ps =>
    simp only [memOp, if_true, evE] at h ⊢
    split at h
    · rename_i e k b xss h1 h2
      split at h
      · rename_i h3
        cases h
        exact ⟨rfl, fun H' T' X' => by rw [if_pos h3]⟩
      · cases h
    · cases h
  case call c =>
    obtain ⟨cal, args, tys⟩ := c
    cases cal with
    | value f => simp [memOp, ev1] at h
    | invoke r m => cases hc
    | builtin b =>
      cases b <;> try cases hc
      all_goals
        (simp only [memOp, Bool.false_eq_true, if_false, ev1] at h ⊢
         obtain ⟨u, h1, h2⟩ := Option.map_eq_some_iff.1 h
         simp only [Prod.mk.injEq] at h2
         obtain ⟨rfl, rfl⟩ := h2
         split at h1 <;> first | cases h1 | skip
         all_goals
           first
             | (rename_i e _ _; cases e; done)
             | (rename_i e _; cases e; done)
             | (refine ⟨rfl, fun _ _ _ => ?_⟩; rw [h1]; rfl))
  case makeFunc.intro fn first caps =>
    cases fn <;> simp only [memOp, Bool.false_eq_true, if_false, ev1, Option.map_none] at h ⊢ <;> try cases h
    obtain ⟨u, h1, h2⟩ := Option.map_eq_some_iff.1 h
    simp only [Prod.mk.injEq] at h2
    obtain ⟨rfl, rfl⟩ := h2
    exact ⟨rfl, fun _ _ _ => h⟩
  all_goals
    (simp only [memOp, Bool.false_eq_true, if_false, ev1] at h ⊢
     obtain ⟨u, h1, h2⟩ := Option.map_eq_some_iff.1 h
     simp only [Prod.mk.injEq] at h2
     obtain ⟨rfl, rfl⟩ := h2
     exact ⟨rfl, fun _ _ _ => h⟩)
theorem evO_rd0 (hc : clOf op = .rd) (h : evO P Gl dst op ρ H T X = some (v, e)) : e = .none ∧ (∀ T', evO P Gl dst op ρ H T' X = some (v, e)) ∧ ∀ d x T', H d = none → evO P Gl dst op ρ (upd H d x) T' X = some (v, e) := by
  unfold evO at h ⊢
  cases op <;> simp only [clOf] at hc <;> try cases hc
  case lookup.intro t x k ok =>
    simp only [memOp, Bool.false_eq_true, if_false, ev1] at h ⊢
    obtain ⟨u, h1, h2⟩ := Option.map_eq_some_iff.1 h
    simp only [Prod.mk.injEq] at h2
    obtain ⟨rfl, rfl⟩ := h2
    refine ⟨rfl, fun _ => h, fun d x' T' hd => ?_⟩
    cases hx : ρ x <;> rw [hx] at h h1 <;> simp only at h h1 ⊢ <;> first | exact h | (cases h1; done) | skip
    rename_i l
    have : l ≠ d := fun e => by subst e; rw [hd] at h1; cases h1
    rw [upd_other _ _ _ _ this]; exact h
  case call c =>
    split at hc <;> try cases hc
    rename_i hcal
    simp only [memOp, hcal, Bool.false_eq_true, if_false, ev1] at h ⊢
    obtain ⟨u, h1, h2⟩ := Option.map_eq_some_iff.1 h
    simp only [Prod.mk.injEq] at h2
    obtain ⟨rfl, rfl⟩ := h2
    refine ⟨rfl, fun _ => h, fun d x' T' hd => ?_⟩
    split at h1
    · rename_i x t _ h3 h4
      have : evLen P (upd H d x') t (ρ x) = some u := by
        cases hx : ρ x <;> rw [hx] at h1 <;> simp only [evLen] at h1 ⊢ <;> try exact h1
        rename_i l
        have : l ≠ d := fun e => by subst e; rw [hd] at h1; cases h1
        rw [upd_other _ _ _ _ this]; exact h1
      rw [this]; rfl
    all_goals first | (rename_i h5 _; cases h5) | cases h1
theorem evO_ld0 (hc : clOf op = .ld) (h : evO P Gl dst op ρ H T X = some (v, e)) : e = .none ∧ (∀ T', evO P Gl dst op ρ H T' X = some (v, e)) ∧ ∀ d x T', H d = none → evO P Gl dst op ρ (upd H d x) T' X = some (v, e) := by
  unfold evO at h ⊢
  cases op <;> simp only [clOf] at hc <;> try cases hc
  case load.intro t x =>
    simp only [memOp, Bool.false_eq_true, if_false, ev1] at h ⊢
    obtain ⟨u, h1, h2⟩ := Option.map_eq_some_iff.1 h
    simp only [Prod.mk.injEq] at h2
    obtain ⟨rfl, rfl⟩ := h2
    refine ⟨rfl, fun _ => h, fun d x' T' hd => ?_⟩
    have : evLoad P Gl (upd H d x') X t (ρ x) = some u := by
      cases hx : ρ x <;> rw [hx] at h1 <;> simp only [evLoad] at h1 ⊢ <;> try exact h1
      rename_i l o
      have : l ≠ d := fun e => by subst e; rw [hd] at h1; cases h1
      rw [upd_other _ _ _ _ this]; exact h1
    rw [this]; rfl
  case call c => split at hc <;> cases hc
theorem evO_rd (hc : clR (clOf op) = .rd) (h : evO P Gl dst op ρ H T X = some (v, e)) : e = .none ∧ (∀ T', evO P Gl dst op ρ H T' X = some (v, e)) ∧ ∀ d x T', H d = none → evO P Gl dst op ρ (upd H d x) T' X = some (v, e) := by
  cases h0 : clOf op <;> rw [h0] at hc <;> first | exact evO_rd0 h0 h | exact evO_ld0 h0 h | cases hc
theorem evO_al (hc : clOf op = .al) (h : evO P Gl dst op ρ H T X = some (v, e)) : ∃ d ob, H d = none ∧ e = .obj d ob ∧ dst = some d ∧ ∀ H' T' X', H' d = none → evO P Gl dst op ρ H' T' X' = some (v, e) := by
  unfold evO at h ⊢
  cases op <;> simp only [clOf] at hc <;> try cases hc
  case alloc.intro t =>
    simp only [memOp, if_true, evE] at h ⊢
    split at h
    · rename_i d z h1
      split at h
      · rename_i h2
        cases h
        obtain ⟨h21, h22⟩ := h2
        simp only [Bool.and_eq_true, decide_eq_true_eq] at h21
        exact ⟨d, _, by simpa using h21.1, rfl, rfl, fun H' T' X' hd => by rw [if_pos ⟨by simp [hd, h21.2], h22⟩]⟩
      · cases h
    · cases h
  case box.intro t x =>
    simp only [memOp, if_true, evE] at h ⊢
    split at h
    · rename_i d
      split at h
      · rename_i h2
        cases h
        obtain ⟨h21, h22⟩ := h2
        simp only [Bool.and_eq_true, decide_eq_true_eq] at h21
        exact ⟨d, _, by simpa using h21.1, rfl, rfl, fun H' T' X' hd => by rw [if_pos ⟨by simp [hd, h21.2], h22⟩]⟩
      · cases h
    · cases h
  case makeMap.intro t r =>
    simp only [memOp, if_true, evE] at h ⊢
    split at h
    · rename_i d
      split at h
      · rename_i h2
        cases h
        simp only [Bool.and_eq_true, decide_eq_true_eq] at h2
        exact ⟨d, _, by simpa using h2.1, rfl, rfl, fun H' T' X' hd => by rw [if_pos (by simp [hd, h2.2])]⟩
      · cases h
    · cases h
  case call c => split at hc <;> cases hc
theorem evO_st0 (hc : clOf op = .st) (h : evO P Gl dst op ρ H T X = some (v, e)) : (∃ l ob, (H l).isSome = true ∧ e = .obj l ob ∧ ∀ H' T', H' l = H l → evO P Gl dst op ρ H' T' X = some (v, e)) ∨ ∃ t x, e = .xs t x ∧ ∀ H' T', evO P Gl dst op ρ H' T' X = some (v, e) := by
  unfold evO at h ⊢
  cases op <;> simp only [clOf] at hc <;> try cases hc
  case store.intro t x y =>
    simp only [memOp, if_true, evE] at h ⊢
    split at h
    · rename_i l o hx
      split at h
      · rename_i cs r n h1 h2
        split at h
        · rename_i h3
          cases h
          exact .inl ⟨l, _, by rw [h1]; rfl, rfl, fun H' T' hl => by rw [hl, h1, h2]; simp only; rw [if_pos h3]⟩
        · cases h
      · cases h
    · rename_i tk k N j o hx
      refine .inr ?_
      have key : ∃ t x, e = .xs t x := by
        split at h
        · split at h
          · obtain ⟨cs, _, hl⟩ := Option.bind_eq_some_iff.1 h
            split at hl
            · cases hl; exact ⟨_, _, rfl⟩
            · cases hl
          · cases h
        · cases h
      obtain ⟨t, x, he⟩ := key
      exact ⟨t, x, he, fun _ _ => h⟩
    · cases h
  case call c => split at hc <;> cases hc
theorem evO_ms0 (hc : clOf op = .ms) (h : evO P Gl dst op ρ H T X = some (v, e)) : (∃ l ob, (H l).isSome = true ∧ e = .obj l ob ∧ ∀ H' T', H' l = H l → evO P Gl dst op ρ H' T' X = some (v, e)) ∨ ∃ t x, e = .xs t x ∧ ∀ H' T', evO P Gl dst op ρ H' T' X = some (v, e) := by
  unfold evO at h ⊢
  cases op <;> simp only [clOf] at hc <;> try cases hc
  case mapUpdate.intro t m k x =>
    simp only [memOp, if_true, evE] at h ⊢
    split at h
    · rename_i l hx
      split at h
      · rename_i es d z dv h1 h2 h4
        split at h
        · rename_i h3
          obtain ⟨es', hp, he⟩ := Option.map_eq_some_iff.1 h
          cases he
          exact .inl ⟨l, _, by rw [h1]; rfl, rfl, fun H' T' hl => by simp [hl, h1, h2, h4, h3.1, h3.2, hp]⟩
        · cases h
      · cases h
    · cases h
  case call c => split at hc <;> cases hc
theorem evO_st (hc : clS (clOf op) = .st) (h : evO P Gl dst op ρ H T X = some (v, e)) : (∃ l ob, (H l).isSome = true ∧ e = .obj l ob ∧ ∀ H' T', H' l = H l → evO P Gl dst op ρ H' T' X = some (v, e)) ∨ ∃ t x, e = .xs t x ∧ ∀ H' T', evO P Gl dst op ρ H' T' X = some (v, e) := by
  cases h0 : clOf op <;> rw [h0] at hc <;> first | exact evO_st0 h0 h | exact evO_ms0 h0 h | cases hc
/-- A load reads no map. -/
theorem evO_ld (hc : clOf op = .ld) (h : evO P Gl dst op ρ H T X = some (v, e)) {l : Nat} {es es' : List (PV × PV)} (hl : H l = some (.map es)) : evO P Gl dst op ρ (upd H l (some (.map es'))) T X = some (v, e) := by
  unfold evO at h ⊢
  cases op <;> simp only [clOf] at hc <;> try cases hc
  case load.intro t x =>
    simp only [memOp, Bool.false_eq_true, if_false, ev1] at h ⊢
    obtain ⟨u, h1, h2⟩ := Option.map_eq_some_iff.1 h
    simp only [Prod.mk.injEq] at h2
    obtain ⟨rfl, rfl⟩ := h2
    have : evLoad P Gl (upd H l (some (.map es'))) X t (ρ x) = some u := by
      cases hx : ρ x <;> rw [hx] at h1 <;> simp only [evLoad] at h1 ⊢ <;> try exact h1
      rename_i l' o
      have : l' ≠ l := fun e => by subst e; rw [hl] at h1; cases h1
      rw [upd_other _ _ _ _ this]; exact h1
    rw [this]; rfl
  case call c => split at hc <;> cases hc
theorem evO_ms (hc : clOf op = .ms) (h : evO P Gl dst op ρ H T X = some (v, e)) : ∃ l es es', H l = some (.map es) ∧ e = .obj l (.map es') := by
  unfold evO at h
  cases op <;> simp only [clOf] at hc <;> try cases hc
  case mapUpdate.intro t m k x =>
    simp only [memOp, if_true, evE] at h
    split at h
    · rename_i l hx
      split at h
      · rename_i es d z dv h1 h2 h4
        split at h
        · obtain ⟨es', hp, he⟩ := Option.map_eq_some_iff.1 h
          cases he
          exact ⟨l, es, es', h1, rfl⟩
        · cases h
      · cases h
    · cases h
  case call c => split at hc <;> cases hc
theorem evO_ap (hc : clOf op = .ap) (h : evO P Gl dst op ρ H T X = some (v, e)) : ∃ t n k, e = .tok t n k ∧ ∀ H' X', evO P Gl dst op ρ H' T X' = some (v, e) := by
  unfold evO at h ⊢
  cases op <;> simp only [clOf] at hc <;> try cases hc
  case makeSlice.intro t n c =>
    simp only [memOp, if_true, evE] at h ⊢
    have key : ∃ t n k, e = .tok t n k := by
      split at h
      · split at h
        · split at h
          · cases h; exact ⟨_, _, _, rfl⟩
          · cases h
        · cases h
      · cases h
    obtain ⟨t, n, k, he⟩ := key
    exact ⟨t, n, k, he, fun _ _ => h⟩
  case call c =>
    split at hc <;> try cases hc
    rename_i hcal
    simp only [memOp, hcal, if_true, evE] at h ⊢
    have key : ∃ t n k, e = .tok t n k := by
      split at h
      · unfold evAppend at h
        split at h
        · split at h
          · split at h
            all_goals first | (split at h <;> first | (split at h <;> first | (cases h; exact ⟨_, _, _, rfl⟩) | cases h) | cases h) | cases h
          · cases h
        · cases h
      · cases h
    obtain ⟨t, n, k, he⟩ := key
    exact ⟨t, n, k, he, fun _ _ => h⟩
end
end PM
