/-
  THE PURE MACHINE, T: joins and loops with ports; ghost steps; further typed rules.
-/
import Derived.Test.YtaoagcnjefialaaDoorPmV
import Derived.Test.YtaoagcnjefialaaDoorPmS
namespace PM
open Go Go.RowKit

def w64 (n : Int) : Int := IntKind.i64.wrap n
def onOut {α β : Type} (f : α → Option β) (o : α ⊕ β) : Option β := match o with | .inl v => f v | .inr b => some b
def onInl {α β : Type} (D : Option (α ⊕ β)) (f : α → Option β) : Option β := D.bind (onOut f)
section
variable {α β σ : Type}
theorem o_inl {D : Option (α ⊕ β)} {f : α → Option β} {r : β} (h : onInl D f = some r) : ∃ o, D = some o ∧ onOut f o = some r := o_bind h
theorem o_outl {f : α → Option β} {v : α} {r : β} (h : onOut f (.inl v) = some r) : f v = some r := h
theorem o_outr {f : α → Option β} {b r : β} (h : onOut f (.inr b) = some r) : some b = some r := h
variable {P : Program} {Gl : Nat → Option (List PV)} {s : PSt} {Q : Exit → PSt → Prop} {n k : Nat}
/-- Whatever s describes, s' describes. -/
def Wkr (s s' : PSt) : Prop := ∀ (Gl : Nat → Option (List PV)) (S0 : Bs) (w0 : World) (a : Act) (w : World), Inv Gl S0 w0 s a w → Inv Gl S0 w0 s' a w
theorem Wkr.of {j : JS} (hok : j.ok = true) (h : j.seen s = j.told n) : Wkr s (j.st n) := fun _ _ _ _ _ hi => hi.weak (JS.weaker hok h)
theorem Wkr.trans {s1 s2 s3 : PSt} (h : Wkr s1 s2) (h' : Wkr s2 s3) : Wkr s1 s3 := fun Gl S0 w0 a w hi => h' Gl S0 w0 a w (h Gl S0 w0 a w hi)
theorem pwp_wkr {s' : PSt} {c : Code} (hw : Wkr s s') (h : pwp P Gl c Q s') : pwp P Gl c Q s := fun S0 w0 a w hi => h S0 w0 a w (hw Gl S0 w0 a w hi)
/-- What one way of a piece of code must reach: the join, or the end of the scope. -/
def joinPost (J : α → JS) (n : Nat) (Q : Exit → PSt → Prop) (o : α ⊕ β) (e : Exit) (s' : PSt) : Prop :=
  match o with
  | .inl v => e = .normal ∧ Wkr s' ((J v).st n)
  | .inr _ => e ≠ .normal ∧ Q e s'
section
variable {J : α → JS} {v : α} {b : β}
theorem q_join (hok : (J v).ok = true) (h : (J v).seen s = (J v).told n) : joinPost (β := β) J n Q (.inl v) .normal s := ⟨rfl, .of hok h⟩
theorem q_join_w {s' : PSt} (hs : Wkr s' s) (hok : (J v).ok = true) (h : (J v).seen s = (J v).told n) : joinPost (β := β) J n Q (.inl v) .normal s' := ⟨rfl, hs.trans (.of hok h)⟩
theorem q_jout_exit (h : Q (.exit k) s) : joinPost J n Q (.inr b) (.exit k) s := ⟨by simp, h⟩
theorem q_jout_ret (h : Q .ret s) : joinPost J n Q (.inr b) .ret s := ⟨by simp, h⟩
theorem r_join {x y : Code} {o : α ⊕ β} (n : Nat) (J : α → JS) (h1 : pwp P Gl x (joinPost J n Q o) s) (h2 : ∀ v, o = .inl v → pwp P Gl y Q ((J v).st n)) : pwp P Gl (.seq x y) Q s := by
  refine pwp_seq (pwp_mono (fun e s' hp => ?_) h1)
  cases o with
  | inl v =>
    obtain ⟨rfl, h3⟩ := hp
    exact pwp_wkr h3 (h2 v rfl)
  | inr b =>
    obtain ⟨h3, h4⟩ := hp
    cases e <;> first | exact absurd rfl h3 | exact h4
end
def loopPost2 (J : σ → JS) (J0 : α → JS) (n id : Nat) (Q : Exit → PSt → Prop) (r : α ⊕ β) (o : σ ⊕ (α ⊕ β)) (e : Exit) (s' : PSt) : Prop :=
  match o with
  | .inl v' => e = .normal ∧ (J v').seen s' = (J v').told n
  | .inr (.inl v) => e = .exit id ∧ Wkr s' ((J0 v).st n)
  | .inr (.inr b) => .inr b = r → e ≠ .normal ∧ Q e s'
section
variable {J : σ → JS} {J0 : α → JS} {id : Nat} {v' : σ} {v : α} {b : β} {r : α ⊕ β}
theorem q_lback (h : (J v').seen s = (J v').told n) : loopPost2 J J0 n id Q r (.inl v') .normal s := ⟨rfl, h⟩
theorem q_lexit (hok : (J0 v).ok = true) (h : (J0 v).seen s = (J0 v).told n) : loopPost2 J J0 n id Q r (.inr (.inl v)) (.exit id) s := ⟨rfl, .of hok h⟩
theorem q_lexit_w {s' : PSt} (hs : Wkr s' s) (hok : (J0 v).ok = true) (h : (J0 v).seen s = (J0 v).told n) : loopPost2 J J0 n id Q r (.inr (.inl v)) (.exit id) s' := ⟨rfl, hs.trans (.of hok h)⟩
theorem q_lout_exit (h : .inr b = r → Q (.exit k) s) : loopPost2 J J0 n id Q r (.inr (.inr b)) (.exit k) s := fun e => ⟨by simp, h e⟩
theorem q_lout_ret (h : .inr b = r → Q .ret s) : loopPost2 J J0 n id Q r (.inr (.inr b)) .ret s := fun e => ⟨by simp, h e⟩
theorem r_loop2 {step : σ → Option (σ ⊕ (α ⊕ β))} {v : σ} {c : Code} (n id : Nat) (J : σ → JS) (J0 : α → JS) (hl : loopO step v = some r) (h0 : (J v).seen s = (J v).told n) (hok : ∀ v, (J v).ok = true)
    (hb : ∀ v o, step v = some o → pwp P Gl c (loopPost2 J J0 n id Q r o) ((J v).st n)) (h2 : ∀ v s', r = .inl v → Wkr s' ((J0 v).st n) → Q (.exit id) s') : pwp P Gl (.loop c) Q s := by
  refine r_loop n J hl h0 hok fun v o hv => pwp_mono (fun e s' hp => ?_) (hb v o hv)
  rcases o with v' | v | b
  · exact hp
  · obtain ⟨he, hq⟩ := hp
    subst he
    exact fun e => ⟨by simp, h2 v s' e.symm hq⟩
  · exact hp
end
/-! ### Short circuits -/
section
variable {d : Bool} {L : List (Oper × Gd)} {Q : PSt → Prop}
theorem e_segb (m t : Nat) (E : Bool) (h1 : ∀ x, E = x → pops P Gl d (L.take m) s fun s' => Fade s' (segSt m t (.bool x) L s)) (h2 : pops P Gl d (L.drop m) (segSt m t (.bool E) L s) (Up Q)) : pops P Gl d L s (Up Q) := e_seg m t _ (h1 E rfl) h2
theorem f_seg {s1 : PSt} (m t : Nat) (v : PV) (h1 : pops P Gl d (L.take m) s fun s' => Fade s' (segSt m t v L s)) (h2 : pops P Gl d (L.drop m) (segSt m t v L s) fun s' => Fade s' s1) : pops P Gl d L s fun s' => Fade s' s1 :=
  pops_mono (fun _ hu => let ⟨_, h3, h4⟩ := hu; h3.trans h4) _ _ (e_seg (Q := fun s' => Fade s' s1) m t v h1 (pops_mono (fun _ h => .intro h) _ _ h2))
theorem f_segb {s1 : PSt} (m t : Nat) (E : Bool) (h1 : ∀ x, E = x → pops P Gl d (L.take m) s fun s' => Fade s' (segSt m t (.bool x) L s)) (h2 : pops P Gl d (L.drop m) (segSt m t (.bool E) L s) fun s' => Fade s' s1) : pops P Gl d L s fun s' => Fade s' s1 := f_seg m t _ (h1 E rfl) h2
end
/-! ### Ghost steps -/
theorem InvG.reput {S0 : Bs} {w0 : World} {a : Act} {g : GG} (h : InvG Gl S0 w0 s a g) (i : Nat) {p : PV} (hv : Rel g p (a.tmps.getD i undef)) : InvG Gl S0 w0 (s.put (some i) p) a g := by
  have hl := h.len.1
  by_cases hi : i + s.m < s.tm.length
  · rw [s.put_in p hi]
    refine { h with hH := h.hH, hT := h.hT, len := ⟨by simpa using hl, h.len.2⟩, tm := fun j q u hq hu => ?_ }
    simp only [List.getElem?_set] at hq
    by_cases hij : i = j
    · subst hij
      rw [if_pos rfl] at hq
      split at hq
      · cases hq
        rw [List.getElem?_append_left (by rw [Array.length_toList]; omega), Array.getElem?_toList] at hu
        rwa [Array.getD_eq_getD_getElem?, hu] at hv
      · cases hq
    · rw [if_neg hij] at hq; exact h.tm j q u hq hu
  · rw [s.put_out p hi]; exact h
theorem InvG.nilOwn {S0 : Bs} {w0 : World} {a : Act} {g : GG} (h : InvG Gl S0 w0 s a g) {i t k b : Nat} (hs : s.get i = .nil) (hT : ((s.T t).isNone && (k != 0)) = true) :
    ∃ g', InvG Gl S0 w0 (({ s with T := upd s.T t (some (0, k)) } : PSt).put (some i) (.lst (.own t) k b [])) a g' ∧ g'.w = g.w := by
  have hv : a.tmps.getD i undef = .slice none 0 0 := by
    have := h.get i
    rw [hs] at this
    simpa [Rel, RelA, Rel1, RelD] using this
  obtain ⟨h1, h2⟩ := h.setTok (t := t) (n := 0) (k := k) (v := .slice none 0 0) (fun n0 k0 e => by rw [h.hT] at e; rw [e] at hT; cases hT) (fun e => by subst e; simp at hT) (fun g' _ _ e => .inl ⟨e, rfl⟩) (fun B off cap e _ => by cases e) (h.noX fun n e => by rw [h.hT] at e; rw [e] at hT; cases hT)
  refine ⟨_, h1.reput i ?_, rfl⟩
  rw [hv]
  simp only [Rel, RelA, Rel1, RelD, List.length_nil]
  exact ⟨⟨by simp, by simp, .inl trivial, .inl ⟨trivial, trivial⟩⟩, 0, upd_same _ _ _, Nat.le_refl _, fun _ => by simp⟩
/-- A list that is still nil becomes one that may grow in place. -/
theorem g_nil {c : Code} (i t k b : Nat) (hs : s.get i = .nil) (hT : ((s.T t).isNone && (k != 0)) = true) (h : pwp P Gl c Q (({ s with T := upd s.T t (some (0, k)) } : PSt).put (some i) (.lst (.own t) k b []))) : pwp P Gl c Q s := fun S0 w0 a w hi => by
  obtain ⟨g, rfl, hg⟩ := hi
  obtain ⟨g', h1, h2⟩ := hg.nilOwn (k := k) (b := b) hs hT
  exact h S0 w0 a _ ⟨g', h2, h1⟩
end
end PM
