/-
  THE PURE MACHINE, Z: what is worked out with less known stays true with more known (Fade).
-/
import Derived.Test.YtdhkjmlafmokjaaDoorPmY
namespace PM
open Go Go.RowKit

section
variable {P : Program} {Gl : Nat → Option (List PV)} {H : Nat → Option PObj} {T : Nat → Option (Nat × Nat)} {X : XT} {ρ ρ' : Operand → PV}
theorem map_fade {α : Type} (h : ∀ x, ρ x = ρ' x ∨ ρ x = .any) : ∀ (l : List (α × Operand)), l.map (fun x => (x.1, ρ x.2)) = l.map (fun x => (x.1, ρ' x.2)) ∨ ∃ x ∈ l.map (fun x => (x.1, ρ x.2)), x.2 = .any
  | [] => .inl rfl
  | y :: l => by
    rcases h y.2 with e | e
    · rcases map_fade h l with e' | ⟨z, hz, hz'⟩
      · exact .inl (by simp [e, e'])
      · exact .inr ⟨z, by simp only [List.map_cons, List.mem_cons]; exact .inr hz, hz'⟩
    · exact .inr ⟨(y.1, ρ y.2), by simp, e⟩
theorem map_fade1 (h : ∀ x, ρ x = ρ' x ∨ ρ x = .any) : ∀ (l : List Operand), l.map ρ = l.map ρ' ∨ .any ∈ l.map ρ
  | [] => .inl rfl
  | y :: l => by
    rcases h y with e | e
    · rcases map_fade1 h l with e' | e'
      · exact .inl (by simp [e, e'])
      · exact .inr (by simp only [List.map_cons, List.mem_cons]; exact .inr e')
    · exact .inr (by simp [e])
theorem pfill_any {pl : List (Nat × Nat)} : ∀ {ps : List (Nat × PV)} {cs : List PV}, (∃ x ∈ ps, x.2 = .any) → pfill pl ps cs = none
  | [], _, h => by obtain ⟨x, hx, _⟩ := h; cases hx
  | (i, p) :: ps, cs, h => by
    obtain ⟨x, hx, hxa⟩ := h
    simp only [pfill]
    split
    · split
      · rename_i hc
        rcases List.mem_cons.1 hx with rfl | hx
        · simp only at hxa; subst hxa
          exact absurd hc.2.2 (by simp [PV.cells, pfill.PV.okCell, PV.one])
        · exact pfill_any ⟨x, hx, hxa⟩
      · rfl
    · rfl
theorem elemsOf_any {k : Nat} : ∀ {ps : List (Nat × PV)} {j : Nat}, (∃ x ∈ ps, x.2 = .any) → elemsOf k ps j = none
  | [], _, h => by obtain ⟨x, hx, _⟩ := h; cases hx
  | (i, p) :: ps, j, h => by
    obtain ⟨x, hx, hxa⟩ := h
    simp only [elemsOf]
    split
    · rcases List.mem_cons.1 hx with rfl | hx
      · simp only at hxa; subst hxa
        simp [PV.cells, datumL, datum1]
      · rw [elemsOf_any ⟨x, hx, hxa⟩]
        split <;> simp_all
    · rfl
theorem datumAs_any : ∀ {ps : List PV}, .any ∈ ps → datumAs ps = none
  | p :: ps, h => by
    simp only [datumAs]
    rcases List.mem_cons.1 h with rfl | h
    · simp [datumA, datum1]
    · rw [datumAs_any h]
      split <;> simp_all
theorem evBin_any1 {op : BinOp} {t : TypeId} {q : PV} : evBin P op t .any q = none := by unfold evBin; rfl
theorem evBin_any2 {op : BinOp} {t : TypeId} {p : PV} : evBin P op t p .any = none := by unfold evBin; cases p <;> rfl
theorem bnd_any {n : Nat} : bnd (some .any) n = none := rfl
theorem opt_fade (h : ∀ x, ρ x = ρ' x ∨ ρ x = .any) (x : Option Operand) : x.map ρ = x.map ρ' ∨ x.map ρ = some .any := by
  cases x with
  | none => exact .inl rfl
  | some x => exact (h x).imp (fun e => by simp [e]) (fun e => by simp [e])
theorem evSlice_any {t : TypeId} {lo hi mx : Option PV} {p : PV} (h : lo = some .any ∨ hi = some .any ∨ mx = some .any ∨ p = .any) (hne : evSlice P t lo hi mx p ≠ none) (hstr : mx = some .any → ∀ s, p ≠ .str s) : False := by
  apply hne
  unfold evSlice
  cases p
  case lst o k b xss =>
    rcases h with rfl | rfl | rfl | h
    · simp only [bnd_any]; split <;> simp_all
    · simp only [bnd_any]; split <;> simp_all
    · simp only [bnd_any]; split <;> simp_all
    · cases h
  case nil =>
    rcases h with rfl | rfl | rfl | h
    · simp only [bnd_any]; split <;> simp_all
    · simp only [bnd_any]; split <;> simp_all
    · simp only [bnd_any]; split <;> simp_all
    · cases h
  case str s =>
    rcases h with rfl | rfl | h | h
    · simp only [bnd_any]
    · simp only [bnd_any]; split <;> simp_all
    · exact absurd rfl (hstr h s)
    · cases h
  case sl l o len k b =>
    rcases h with rfl | rfl | rfl | h
    · simp only [bnd_any]; split <;> simp_all
    · simp only [bnd_any]; split <;> simp_all
    · show (match elemK P t, bnd lo 0, bnd hi len with
        | some (_, _, k', _), some a, some h => if k' = k ∧ a ≤ h ∧ h ≤ len ∧ (some PV.any : Option PV) = none then some (PV.sl l (o + a) (h - a) k b) else none
        | _, _, _ => none) = none
      split
      · rw [if_neg (by simp)]
      · rfl
    · cases h
  case ex l k b N o len =>
    rcases h with rfl | rfl | rfl | h
    · simp only [bnd_any]; split <;> simp_all
    · simp only [bnd_any]; split <;> simp_all
    · show (match elemK P t, bnd lo 0, bnd hi len with
        | some (_, _, k', _), some a, some h => if k' = k ∧ a ≤ h ∧ h ≤ len ∧ (some PV.any : Option PV) = none then some (PV.ex l k b N (o + a) (h - a)) else none
        | _, _, _ => none) = none
      split
      · rw [if_neg (by simp)]
      · rfl
    · cases h
  all_goals rfl
theorem evIndexAddr_any1 {t : TypeId} {i : PV} : evIndexAddr P t .any i = none := by cases i <;> rfl
theorem evIndexAddr_any2 {t : TypeId} {p : PV} : evIndexAddr P t p .any = none := by cases p <;> rfl
theorem evIndex_any1 {t : TypeId} {i : PV} : evIndex P t .any i = none := by cases i <;> rfl
theorem evIndex_any2 {t : TypeId} {p : PV} : evIndex P t p .any = none := by cases p <;> rfl
theorem evMinMax_any1 {m : Bool} {q : PV} : evMinMax m .any q = none := by cases q <;> rfl
theorem evMinMax_any2 {m : Bool} {p : PV} : evMinMax m p .any = none := by cases p <;> rfl
theorem evAppend_any {dst : Option Nat} {t t' : TypeId} {x y : PV} (h : x = .any ∨ y = .any) : evAppend P dst T t t' x y = none := by
  unfold evAppend
  split
  · rcases h with rfl | rfl
    · split <;> rfl
    · rfl
  · rfl
theorem keyD_any (d : TypeDesc) : keyD d .any = false := by cases d <;> rfl
theorem evLookup_any {t : TypeId} {es : List (PV × PV)} {ok : Bool} : evLookup P t es .any ok = none := by
  unfold evLookup
  split
  · rw [if_neg (by rw [keyD_any]; exact Bool.false_ne_true)]
  · rfl
theorem ev1_fade (h : ∀ x, ρ x = ρ' x ∨ ρ x = .any) {op : Op} {v : PV} (he : ev1 P Gl op ρ H X = some v) : ∃ v', ev1 P Gl op ρ' H X = some v' ∧ (v = v' ∨ v = .any) := by
  cases op <;> simp only [ev1] at he ⊢ <;> try cases he
  case move.refl x => exact ⟨_, rfl, h x⟩
  case assign.refl x => exact ⟨_, rfl, h x⟩
  case pick c x y =>
    rcases h c with e | e
    · rw [← e]
      split at he
      · cases he
        refine ⟨_, rfl, ?_⟩
        split
        · exact h x
        · exact h y
      · cases he
    · rw [e] at he; cases he
  case lookup t x k ok =>
    rcases h x with e | e
    · rcases h k with e' | e'
      · rw [← e, ← e']; exact ⟨v, he, .inl rfl⟩
      · rw [e'] at he
        split at he
        · split at he
          · rw [evLookup_any] at he; cases he
          · cases he
        · rw [evLookup_any] at he; cases he
        · cases he
    · rw [e] at he; cases he
  case nilCheck x =>
    rcases h x with e | e
    · rw [← e]; exact ⟨v, he, .inl rfl⟩
    · rw [e] at he; cases he
  case binOp op t x y u =>
    rcases h x with e | e
    · rcases h y with e' | e'
      · rw [← e, ← e']; exact ⟨v, he, .inl rfl⟩
      · rw [e', evBin_any2] at he; cases he
    · rw [e, evBin_any1] at he; cases he
  case unOp op t x =>
    rcases h x with e | e
    · rw [← e]; exact ⟨v, he, .inl rfl⟩
    · rw [e] at he; cases he
  case convert src dst x =>
    rcases h x with e | e
    · rw [← e]; exact ⟨v, he, .inl rfl⟩
    · rw [e] at he; cases he
  case fieldAddr t x f =>
    rcases h x with e | e
    · rw [← e]; exact ⟨v, he, .inl rfl⟩
    · rw [e] at he; cases he
  case field t x f =>
    rcases h x with e | e
    · rw [← e]; exact ⟨v, he, .inl rfl⟩
    · rw [e] at he; cases he
  case indexAddr t x i =>
    rcases h x with e | e
    · rcases h i with e' | e'
      · rw [← e, ← e']; exact ⟨v, he, .inl rfl⟩
      · rw [e', evIndexAddr_any2] at he; cases he
    · rw [e, evIndexAddr_any1] at he; cases he
  case index t x i =>
    rcases h x with e | e
    · rcases h i with e' | e'
      · rw [← e, ← e']; exact ⟨v, he, .inl rfl⟩
      · rw [e', evIndex_any2] at he; cases he
    · rw [e, evIndex_any1] at he; cases he
  case load t x =>
    rcases h x with e | e
    · rw [← e]; exact ⟨v, he, .inl rfl⟩
    · rw [e] at he; cases he
  case extract x i =>
    rcases h x with e | e
    · rw [← e]; exact ⟨v, he, .inl rfl⟩
    · rw [e] at he; cases he
  case slice t x lo hi mx =>
    have nope : ∀ {q}, evSlice P t (lo.map ρ) (hi.map ρ) (mx.map ρ) (ρ x) = some q → (lo.map ρ = some .any ∨ hi.map ρ = some .any ∨ mx.map ρ = some .any ∨ ρ x = .any) → False := fun {q} hq hc => by
      refine evSlice_any hc (by rw [hq]; simp) fun hm s hs => ?_
      rw [hs, hm] at hq
      simp only [evSlice] at hq
      split at hq
      · simp at hq
      · cases hq
    rcases opt_fade h lo with e1 | e1
    · rcases opt_fade h hi with e2 | e2
      · rcases opt_fade h mx with e3 | e3
        · rcases h x with e4 | e4
          · rw [← e1, ← e2, ← e3, ← e4]; exact ⟨v, he, .inl rfl⟩
          · exact (nope he (.inr (.inr (.inr e4)))).elim
        · exact (nope he (.inr (.inr (.inl e3)))).elim
      · exact (nope he (.inr (.inl e2))).elim
    · exact (nope he (.inl e1)).elim
  case build t parts =>
    rcases map_fade h parts.toList with e | e
    · rw [← e]; exact ⟨v, he, .inl rfl⟩
    · exfalso
      unfold evBuild at he
      split at he
      · rw [pfill_any e] at he; cases he
      · rename_i h1 h2 h3 h4
        obtain ⟨i, hi, _⟩ := e
        rw [h3] at hi
        exact absurd hi (by simp)
      · cases he
  case makeFunc fn first caps =>
    cases fn <;> simp only at he ⊢ <;> try cases he
    rcases map_fade1 h caps.toList with e | e
    · rw [← e]; exact ⟨v, he, .inl rfl⟩
    · exfalso
      split at he
      · rename_i hc
        have := List.all_eq_true.1 hc.2 _ e
        cases this
      · cases he
  case call c =>
    split at he
    · rename_i x t h1 h2 h3
      rcases h x with e | e
      · rw [← e]; exact ⟨v, he, .inl rfl⟩
      · rw [e] at he; cases he
    · rename_i x y h1 h2
      rcases h x with e | e
      · rcases h y with e' | e'
        · rw [← e, ← e']; exact ⟨v, he, .inl rfl⟩
        · rw [e', evMinMax_any2] at he; cases he
      · rw [e, evMinMax_any1] at he; cases he
    · rename_i x y h1 h2
      rcases h x with e | e
      · rcases h y with e' | e'
        · rw [← e, ← e']; exact ⟨v, he, .inl rfl⟩
        · rw [e', evMinMax_any2] at he; cases he
      · rw [e, evMinMax_any1] at he; cases he
    · cases he
theorem evE_fade (h : ∀ x, ρ x = ρ' x ∨ ρ x = .any) {dst : Option Nat} {op : Op} {v : PV × Eff} (he : evE P dst op ρ H T X = some v) : evE P dst op ρ' H T X = some v := by
  cases op <;> simp only [evE] at he ⊢ <;> try cases he
  case alloc t => exact he
  case box t x =>
    rcases h x with e | e
    · rw [← e]; exact he
    · rw [e] at he
      split at he
      · simp [boxOK, PV.one] at he
      · cases he
  case store t x y =>
    rcases h x with e | e
    · rcases h y with e' | e'
      · rw [← e, ← e']; exact he
      · rw [e'] at he
        split at he
        · split at he
          · simp [boxOK, PV.one] at he
          · cases he
        · split at he
          · simp [boxOK, PV.one] at he
          · cases he
        · cases he
    · rw [e] at he; cases he
  case buildSlice t n parts =>
    rcases map_fade h parts.toList with e | e
    · rw [← e]; exact he
    · rw [elemsOf_any e] at he
      split at he
      · rename_i h2; cases h2
      · cases he
  case makeMap t r => exact he
  case makeSlice t n c =>
    rcases h n with e | e
    · rcases h c with e' | e'
      · rw [← e, ← e']; exact he
      · rw [e'] at he
        split at he
        · rename_i h4; cases h4
        · cases he
    · rw [e] at he
      split at he
      · rename_i h3 _; cases h3
      · cases he
  case mapUpdate t m k x =>
    rcases h m with e | e
    · rcases h k with e' | e'
      · rcases h x with e2 | e2
        · rw [← e, ← e', ← e2]; exact he
        · rw [e2] at he
          split at he
          · split at he
            · rename_i h3; cases h3
            · cases he
          · cases he
      · rw [e'] at he
        split at he
        · split at he
          · rw [if_neg (by rw [keyD_any]; simp)] at he; cases he
          · cases he
        · cases he
    · rw [e] at he; cases he
  case call c =>
    split at he
    · rename_i x y t t' h1 h2 h3
      rcases h x with e | e
      · rcases h y with e' | e'
        · rw [← e, ← e']; exact he
        · rw [evAppend_any (.inr e')] at he; cases he
      · rw [evAppend_any (.inl e)] at he; cases he
    · cases he
theorem evO_fade (h : ∀ x, ρ x = ρ' x ∨ ρ x = .any) {dst : Option Nat} {op : Op} {v : PV × Eff} (he : evO P Gl dst op ρ H T X = some v) : ∃ v', evO P Gl dst op ρ' H T X = some (v', v.2) ∧ (v.1 = v' ∨ v.1 = .any) := by
  unfold evO at he ⊢
  split at he
  · rename_i hm
    rw [if_pos hm]
    exact ⟨v.1, evE_fade h he, .inl rfl⟩
  · rename_i hm
    rw [if_neg hm]
    obtain ⟨u, h1, rfl⟩ := Option.map_eq_some_iff.1 he
    obtain ⟨v', h2, h3⟩ := ev1_fade h h1
    exact ⟨v', by rw [h2]; rfl, h3⟩
end

/-- Some slots are forgotten. -/
structure Fade (s s1 : PSt) : Prop where
  H : s.H = s1.H
  T : s.T = s1.T
  X : s.X = s1.X
  tm : All2 (fun q p => p = q ∨ p = .any) s.tm s1.tm
/-- So it is, but for slots that are forgotten. -/
def Up (Q : PSt → Prop) (s : PSt) : Prop := ∃ s1, Fade s s1 ∧ Q s1
section
variable {P : Program} {Gl : Nat → Option (List PV)} {s s1 s2 : PSt} {Q : PSt → Prop} {d : Bool} {L : List (Oper × Gd)}
theorem Fade.refl (s : PSt) : Fade s s := ⟨rfl, rfl, rfl, rfl, fun i x y hx hy => by rw [hx] at hy; cases hy; exact .inl rfl⟩
theorem Fade.trans (h : Fade s s1) (h' : Fade s1 s2) : Fade s s2 := by
  refine ⟨h.H.trans h'.H, h.T.trans h'.T, h.X.trans h'.X, h.tm.1.trans h'.tm.1, fun i x z hx hz => ?_⟩
  obtain ⟨y, hy, hyz⟩ := h'.tm.left hz
  rcases hyz with rfl | rfl
  · exact h.tm.2 i x _ hx hy
  · exact .inr rfl
theorem Up.intro (h : Q s) : Up Q s := ⟨s, Fade.refl s, h⟩
theorem Up.fade (hf : Fade s s1) (h : Up Q s1) : Up Q s := let ⟨s2, h1, h2⟩ := h; ⟨s2, hf.trans h1, h2⟩
theorem Fade.get (hf : Fade s s1) (i : Nat) : s1.get i = s.get i ∨ s1.get i = .any := by
  unfold PSt.get
  by_cases hi : i < s.tm.length
  · have hi1 : i < s1.tm.length := hf.tm.1 ▸ hi
    have := hf.tm.2 i _ _ (List.getElem?_eq_getElem hi) (List.getElem?_eq_getElem hi1)
    simpa [List.getD, List.getElem?_eq_getElem hi, List.getElem?_eq_getElem hi1] using this
  · right
    rw [List.getD_eq_getElem?_getD, List.getElem?_eq_none (by have := hf.tm.1; omega)]
    rfl
theorem Fade.ev (hf : Fade s s1) (x : Operand) : s1.ev x = s.ev x ∨ s1.ev x = .any := by
  cases x with
  | tmp t => exact hf.get t
  | const v => exact .inl rfl
  | global g => exact .inl rfl
  | func f => exact .inl rfl
theorem Fade.put (hf : Fade s s1) (dst : Option Nat) {p q : PV} (h : p = q ∨ p = .any) : Fade (s.put dst q) (s1.put dst p) := by
  cases dst with
  | none => exact hf
  | some i =>
    refine ⟨hf.H, hf.T, hf.X, by simpa [PSt.put] using hf.tm.1, fun j x y hx hy => ?_⟩
    simp only [PSt.put, List.getElem?_set] at hx hy
    by_cases hij : i = j
    · rw [if_pos hij] at hx hy
      split at hx
      · split at hy
        · cases hx; cases hy; exact h
        · cases hy
      · cases hx
    · rw [if_neg hij] at hx hy; exact hf.tm.2 j x y hx hy
theorem Fade.eff (hf : Fade s s1) (e : Eff) : Fade (e.app s) (e.app s1) := by
  cases e with
  | none => exact hf
  | obj l ob => exact ⟨by simp [Eff.app, hf.H], hf.T, hf.X, hf.tm⟩
  | tok t n k => exact ⟨hf.H, by simp [Eff.app, hf.T], hf.X, hf.tm⟩
  | xs t x => exact ⟨hf.H, hf.T, by simp [Eff.app, hf.X], hf.tm⟩
theorem Fade.toks (dd : Nat) : ∀ (l : List (Nat × (Nat × Nat))) {s s1 : PSt}, Fade s s1 → Fade (addToks dd s l) (addToks dd s1 l)
  | [], _, _, h => h
  | (t, x) :: r, s, s1, h => Fade.toks dd r ⟨h.H, by simp [h.T], h.X, h.tm⟩
theorem InvG.fade {S0 : Bs} {w0 : World} {a : Act} {g : GG} (hg : InvG Gl S0 w0 s a g) (hf : Fade s s1) : InvG Gl S0 w0 s1 a g := by
  refine { hg with hH := hg.hH.trans hf.H, hT := hg.hT.trans hf.T, exs := hf.X ▸ hg.exs, exsEx := hf.X ▸ hg.exsEx, len := hf.tm.1.symm.trans hg.len, tm := fun i p v hp hv => ?_ }
  obtain ⟨q, hq, e⟩ := hf.tm.left hp
  rcases e with rfl | rfl
  · exact hg.tm i _ v hq hv
  · exact Rel.any _ _
theorem OpSem.fade {o : Oper} {n : PSt} {v : PV} (h : OpSem P Gl o s1 n v) (hf : Fade s s1) : OpSem P Gl o s n v := fun S0 w0 a g K Q hg hK =>
  h S0 w0 a g K Q (hg.fade hf) fun z g' e1 e2 e3 => hK z g' { e1 with len := hg.len, tm := fun i p v hp hv => (hg.tm i p v hp hv).mono e2 } e2 e3
/-- More known: the same can be shown. -/
theorem pops_fade (hQ : ∀ s s1, Fade s s1 → Q s1 → Q s) : ∀ (L : List (Oper × Gd)) {s s1 : PSt}, Fade s s1 → pops P Gl d L s1 Q → pops P Gl d L s Q
  | [], s, s1, hf, h => hQ _ _ hf h
  | (o, g) :: r, s, s1, hf, h => by
    have rest : pops P Gl d r (s1.put o.dst (.tup [])) Q → pops P Gl d r (s.put o.dst (.tup [])) Q := fun h => pops_fade hQ r (hf.put _ (.inl rfl)) h
    have step : stepOp P Gl d o s1 (fun s' => pops P Gl d r s' Q) → stepOp P Gl d o s (fun s' => pops P Gl d r s' Q) := by
      rintro (h | ⟨d1, d2, n, v, h1, h2⟩)
      rotate_left
      · refine .inr ⟨d1, d2, n, v, h1.fade hf, pops_fade hQ r (Fade.put (s := semNew s n) (s1 := semNew s1 n) ⟨rfl, rfl, rfl, hf.tm⟩ _ (.inl rfl)) h2⟩
      refine .inl ?_
      revert h
      unfold stepO
      split
      · rename_i x args hc
        rintro ⟨f, caps, as, rr, e1, e2, e3, e4, e5, e6, e7⟩
        have hx : s.ev x = .fn f caps := by
          rcases hf.ev x with e | e
          · rw [← e]; exact e1
          · rw [e] at e1; cases e1
        have hargs : args.map s1.ev = args.map s.ev := by
          rcases map_fade1 hf.ev args with e | e
          · exact e
          · rw [datumAs_any (by simp [e])] at e3; cases e3
        refine ⟨f, caps, as, rr, hx, e2, by rw [← hargs]; exact e3, e4, by rw [hf.T]; exact e5, e6, pops_fade hQ r ((Fade.toks _ _ hf).put _ (.inl rfl)) e7⟩
      · rintro ⟨x, e1, e2⟩
        rw [← hf.H, ← hf.T, ← hf.X] at e1
        obtain ⟨v', h1, h2⟩ := evO_fade hf.ev e1
        exact ⟨_, h1, pops_fade hQ r ((hf.eff _).put _ h2) e2⟩
    simp only [pops] at h ⊢
    cases g with
    | always => exact step h
    | never => exact rest h
    | bad => exact h
    | slot t w =>
      simp only [gdStep] at h ⊢
      rcases hf.get t with e | e
      · rw [← e]
        split at h
        · exact ⟨fun e => step (h.1 e), fun e => rest (h.2 e)⟩
        · exact rest h
        · exact h.elim
      · rw [e] at h; exact h.elim
theorem pops_mono {Q Q' : PSt → Prop} (hQ : ∀ s, Q s → Q' s) : ∀ (L : List (Oper × Gd)) (s : PSt), pops P Gl d L s Q → pops P Gl d L s Q'
  | [], s, h => hQ _ h
  | (o, g) :: r, s, h => by
    have rest := pops_mono hQ r (s.put o.dst (.tup []))
    have step : stepOp P Gl d o s (fun s' => pops P Gl d r s' Q) → stepOp P Gl d o s (fun s' => pops P Gl d r s' Q') := by
      rintro (h | ⟨d1, d2, n, v, h1, h2⟩)
      rotate_left
      · exact .inr ⟨d1, d2, n, v, h1, pops_mono hQ r _ h2⟩
      refine .inl ?_
      revert h
      unfold stepO
      split
      · rintro ⟨f, caps, as, rr, e1, e2, e3, e4, e5, e6, e7⟩
        exact ⟨f, caps, as, rr, e1, e2, e3, e4, e5, e6, pops_mono hQ r _ e7⟩
      · rintro ⟨x, e1, e2⟩
        exact ⟨x, e1, pops_mono hQ r _ e2⟩
    simp only [pops] at h ⊢
    cases g with
    | always => exact step h
    | never => exact rest h
    | bad => exact h
    | slot t w =>
      simp only [gdStep] at h ⊢
      split
      · rename_i b hb
        simp only [hb] at h
        exact ⟨fun e => step (h.1 e), fun e => rest (h.2 e)⟩
      · rename_i hu
        simp only [hu] at h
        exact rest h
      · rename_i hne hnu
        split at h
        · rename_i b hb; exact absurd hb (hne _)
        · rename_i hu; exact absurd hu hnu
        · exact h
/-- The first m operations end, on every way, in a state that is s1 but for slots forgotten. -/
theorem p_seg (m : Nat) (s1 : PSt) (h1 : pops P Gl d (L.take m) s fun s' => Fade s' s1) (h2 : pops P Gl d (L.drop m) s1 (Up Q)) : pops P Gl d L s (Up Q) := by
  have := pops_append (P := P) (Gl := Gl) (d := d) (Q := Up Q) (L.take m) (L.drop m) s (pops_mono (fun s' hf => pops_fade (fun _ _ hf h => Up.fade hf h) _ hf h2) _ _ h1)
  rwa [List.take_append_drop] at this
end
end PM
