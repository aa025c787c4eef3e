import Derived.Test.YtfndelfalfplaaaDoorPmQ
import Derived.Defers
import Derived.Recover
/-
  THE PURE MACHINE, Qh: a call whose body is walked in place: the caller's slots are laid aside.
-/
namespace PM
open Go Go.RowKit

/-- What is left of a region comes to a state of which Q holds. -/
def wl (P : Program) (Gl : Nat → Option (List PV)) (ops : Array Oper) (L : List Oper) (s : PSt) (Q : PSt → Prop) : Prop :=
  ∀ (S0 : Bs) (w0 : World) (a : Act) (w : World) (Q' : Exit → Act → World → Prop), (∀ s' a' w', Q s' → Inv Gl S0 w0 s' a' w' → Q' .normal a' w') → Inv Gl S0 w0 s a w → wpList P ops Q' L a w
section
variable {P : Program} {Gl : Nat → Option (List PV)} {s : PSt} {ops : Array Oper} {Q : PSt → Prop}
theorem wl_end (h : Q s) : wl P Gl ops [] s Q := fun S0 w0 a w Q' hQ hi => hQ s a w h hi
theorem wl_pops : ∀ (l1 : List Oper) {l2 : List Oper} {s : PSt}, pops P Gl false (l1.map fun o => (o, gdOf ops o)) s (Up fun s' => wl P Gl ops l2 s' Q) → wl P Gl ops (l1 ++ l2) s Q
  | [], l2, s, h => fun S0 w0 a w Q' hQ hi => let ⟨s2, h1, h2⟩ := h; h2 S0 w0 a w Q' hQ (hi.fade h1)
  | o :: l, l2, s, hp => fun S0 w0 a w Q' hQ hi => by
    obtain ⟨g, rfl, h⟩ := hi
    simp only [List.cons_append]
    unfold wpList
    simp only [List.map_cons, pops] at hp
    rcases wanted_gd h hp with ⟨h1, h2⟩ | ⟨h1, h2⟩
    · rw [if_pos h1]
      exact .inl (stepOp_sound h h2 fun s' a' w' hs' hi' => wl_pops l hs' S0 w0 a' w' Q' hQ hi')
    · rw [if_neg (by rw [h1]; simp)]
      exact wl_pops l h2 S0 w0 _ _ Q' hQ ⟨g, rfl, h.put _ (Rel.und _)⟩
/-- n operations, and what is behind them. -/
theorem wl_run (k n : Nat) (h : pops P Gl false (((withGd ops).drop k).take n) s (Up fun s' => wl P Gl ops (ops.toList.drop (k + n)) s' Q)) : wl P Gl ops (ops.toList.drop k) s Q := by
  have e : ops.toList.drop k = (ops.toList.drop k).take n ++ ops.toList.drop (k + n) := by
    rw [← List.drop_drop, List.take_append_drop]
  rw [e]
  refine wl_pops _ ?_
  simpa [withGd, List.map_drop, List.map_take] using h
theorem r_regi {Q : Exit → PSt → Prop} {id : Nat} (h : wl P Gl ops (ops.toList.drop 0) s (Q .normal)) : pwp P Gl (.region id ops false) Q s := fun S0 w0 a w hi =>
  wp_region_list (h S0 w0 a w _ (fun s' _ _ q i => ⟨s', q, i⟩) hi)
/-- The state in which the body of a call begins. -/
def inlSt (n : Nat) (as : List PV) (s : PSt) : PSt := { s with tm := (as ++ List.replicate (n - as.length) .any) ++ s.tm, m := s.tm.length }
/-- The caller's state behind the body. -/
def outSt (m0 : Nat) (dst : Option Nat) (r : PV) (s : PSt) : PSt := ({ s with tm := s.tm.drop (s.tm.length - s.m), m := m0 } : PSt).put dst r
def inlQ (P : Program) (Gl : Nat → Option (List PV)) (rs : List ResultVar) (m0 : Nat) (dst : Option Nat) (K : PSt → Prop) : Exit → PSt → Prop
  | .normal, s | .ret, s => ∃ vs r, resPV P Gl s rs = some vs ∧ onePV vs = some r ∧ K (outSt m0 dst r s)
  | _, _ => False
theorem q_inl {rs : List ResultVar} {m0 : Nat} {dst : Option Nat} {K : PSt → Prop} {r : PV} (h : (resPV P Gl s rs).bind onePV = some r) (h2 : K (outSt m0 dst r s)) : inlQ P Gl rs m0 dst K .ret s := by
  obtain ⟨vs, e1, e2⟩ := Option.bind_eq_some_iff.1 h
  exact ⟨vs, r, e1, e2, h2⟩
theorem q_inln {rs : List ResultVar} {m0 : Nat} {dst : Option Nat} {K : PSt → Prop} {r : PV} (h : (resPV P Gl s rs).bind onePV = some r) (h2 : K (outSt m0 dst r s)) : inlQ P Gl rs m0 dst K .normal s := by
  obtain ⟨vs, e1, e2⟩ := Option.bind_eq_some_iff.1 h
  exact ⟨vs, r, e1, e2, h2⟩
/-- All ways of the body end in a state that is such. -/
def inlPost (J : JS) (n : Nat) (e : Exit) (s : PSt) : Prop := (e = .normal ∨ e = .ret) ∧ Wkr s (J.st n)
theorem q_ij {J : JS} {n : Nat} (hok : J.ok = true) (h : J.seen s = J.told n) : inlPost J n .ret s := ⟨.inr rfl, .of hok h⟩
theorem q_ijn {J : JS} {n : Nat} (hok : J.ok = true) (h : J.seen s = J.told n) : inlPost J n .normal s := ⟨.inl rfl, .of hok h⟩
theorem q_ij_w {s1 : PSt} {J : JS} {n : Nat} (hw : Wkr s s1) (hok : J.ok = true) (h : J.seen s1 = J.told n) : inlPost J n .ret s := ⟨.inr rfl, hw.trans (.of hok h)⟩
theorem q_ijn_w {s1 : PSt} {J : JS} {n : Nat} (hw : Wkr s s1) (hok : J.ok = true) (h : J.seen s1 = J.told n) : inlPost J n .normal s := ⟨.inl rfl, hw.trans (.of hok h)⟩
theorem r_joinI {c : Code} {rs : List ResultVar} {m0 : Nat} {dst : Option Nat} {K : PSt → Prop} {α : Type} (o : α) (n : Nat) (J : α → JS) (h1 : pwp P Gl c (inlPost (J o) n) s) (h2 : inlQ P Gl rs m0 dst K .ret ((J o).st n)) : pwp P Gl c (inlQ P Gl rs m0 dst K) s := fun S0 w0 a w hi =>
  wp_mono (fun e a' w' ⟨s', ⟨he, hw⟩, hi'⟩ => by
    have hi2 := hw Gl S0 w0 a' w' hi'
    rcases he with rfl | rfl
    · exact ⟨_, h2, hi2⟩
    · exact ⟨_, h2, hi2⟩) (h1 S0 w0 a w hi)
/-- The call at the head: function, and all that it gets. -/
def inlHd : List Oper → PSt → Option (FuncId × List PV)
  | o :: _, s => match o.guard, callOf o.op with
    | none, some (x, args) => match s.ev x with
      | .fn f caps => if caps.all capOK = true then some (f, args.map s.ev ++ caps) else none
      | _ => none
    | _, _ => none
  | [], _ => none
def dstO : List Oper → Option Nat
  | o :: _ => o.dst
  | [] => none
theorem p_inl {f n : Nat} {fn : Func} {c : Code} {asx : List PV} {rs : List ResultVar} {L : List Oper} (h : inlHd L s = some (f, asx)) (hf : P.funcs[f]? = some fn) (hname : (fn.name == "runtime.NumGoroutine") = false) (hb : fn.body = some c) (hn : fn.ntmps = n) (hrs : fn.results.toList = rs)
    (h2 : pwp P Gl c (inlQ P Gl rs s.m (dstO L) fun s' => wl P Gl ops (L.drop 1) s' Q) (inlSt n asx s)) : wl P Gl ops L s Q := by
  subst hn; subst hrs
  cases L with
  | nil => cases h
  | cons o r =>
    simp only [inlHd] at h
    split at h
    · rename_i x args hg hco
      split at h
      · rename_i f' caps e1
        split at h
        rotate_left
        · cases h
        rename_i hcap
        simp only [Option.some.injEq, Prod.mk.injEq] at h
        obtain ⟨rfl, rfl⟩ := h
        obtain ⟨cl, hop, hcal, hargs⟩ := callOf_spec hco
        intro S0 w0 a w Q' hQ hi
        obtain ⟨g, rfl, hI⟩ := hi
        have hx := hI.ev x
        rw [e1] at hx
        simp only [Rel, RelA, Rel1] at hx
        obtain ⟨arr, hfv, hcaps⟩ := hx
        have hall : All2 (Rel g) (args.map s.ev ++ caps) ((cl.args.map a.eval ++ arr).toList) := by
          rw [Array.toList_append, Array.toList_map, hargs]
          refine All2.append ⟨by simp, fun i p v hp hv => ?_⟩ ⟨hcaps.1, fun i p v hp hv => ?_⟩
          · rw [List.getElem?_map] at hp hv
            cases hi : args[i]? with
            | none => rw [hi] at hp; cases hp
            | some y => rw [hi] at hp hv; cases hp; cases hv; exact hI.ev y
          · have hpv := hcaps.2 i p v hp hv
            have h2 := List.all_eq_true.1 hcap p (List.mem_of_getElem? hp)
            cases p <;> simp only [capOK] at h2 <;> try cases h2
            all_goals exact hpv
        have hrun : (execOp a.eval o).run P g.w = .ok (.enter f' (cl.args.map a.eval ++ arr)) g.w := by
          have hne : fn.name ≠ "runtime.NumGoroutine" := by simpa using hname
          have hbody : fn.body ≠ none := fun e => by rw [e] at hb; cases hb
          simp [execOp, hop, resolve, hcal, hfv, Deferred.ofValue, invoke, callFunc, run_program, hf, hne, hbody]
        generalize hVS : cl.args.map a.eval ++ arr = VS at hall hrun
        generalize hAS : args.map s.ev ++ caps = AS at hall h2
        unfold wpList
        have hw : Region.wanted o (yielded ops a.tmps) = true := by unfold Region.wanted; rw [hg]
        rw [if_pos hw]
        left
        unfold Oper.wp
        rw [hrun]
        refine calls_of_wp hf hb ?_
        have hlen := hI.len
        have hsz : AS.length = VS.size := by rw [hall.1]; simp
        let S1 : Bs := { S0 with St := a.tmps.toList ++ S0.St, D := [] }
        have hinit : Inv Gl S1 w0 (inlSt fn.ntmps AS s) { tmps := VS ++ Array.replicate (fn.ntmps - VS.size) undef, defers := [] } g.w := by
          refine ⟨g, rfl, { hI with defers := rfl, len := ⟨?_, ?_⟩, tm := fun i p v hp hv => ?_ }⟩
          · simp only [inlSt, List.length_append, List.length_replicate, Array.size_append, Array.size_replicate, hsz]
          · simp only [inlSt]
            show (a.tmps.toList ++ S0.St).length = _
            rw [List.length_append, Array.length_toList]; omega
          · simp only [inlSt] at hp
            have hl2 : (AS ++ List.replicate (fn.ntmps - AS.length) PV.any).length = (VS ++ Array.replicate (fn.ntmps - VS.size) undef).toList.length := by
              simp [hsz]
            rw [List.getElem?_append] at hp
            have hv : ((VS ++ Array.replicate (fn.ntmps - VS.size) undef).toList ++ (a.tmps.toList ++ S0.St))[i]? = some v := hv
            rw [List.getElem?_append, ← hl2] at hv
            by_cases hi : i < (AS ++ List.replicate (fn.ntmps - AS.length) PV.any).length
            · rw [if_pos hi] at hp hv
              rw [List.getElem?_append] at hp
              by_cases hi2 : i < AS.length
              · rw [if_pos hi2] at hp
                rw [Array.toList_append, List.getElem?_append_left (by rw [← hall.1]; exact hi2)] at hv
                exact hall.2 i p v hp hv
              · rw [if_neg hi2, List.getElem?_replicate] at hp
                split at hp
                · cases hp; trivial
                · cases hp
            · rw [if_neg hi] at hp hv
              exact hI.tm _ p v hp hv
        refine wp_mono (fun e a' w' hq => ?_) (h2 S1 w0 _ g.w hinit)
        obtain ⟨s', hq, g', rfl, hg'⟩ := hq
        have fin : (∃ vs r', resPV P Gl s' fn.results.toList = some vs ∧ onePV vs = some r' ∧ wl P Gl ops r (outSt s.m o.dst r' s') Q) → a'.defers = [] ∧ ∃ v, (results fn a'.tmps).run P g'.w = .ok v g'.w ∧ wpList P ops Q' r (a.put o.dst v) g'.w := by
          rintro ⟨vs, r', k1, k2, k3⟩
          refine ⟨hg'.defers, ?_⟩
          obtain ⟨us, r1, r2⟩ := run_resPV hg' _ _ k1
          refine ⟨if h : us.toArray.size = 1 then us.toArray[0] else .tuple us.toArray, ?_, k3 S0 w0 _ _ Q' hQ ⟨g', rfl, ?_⟩⟩
          · rw [results_eq, Array.mapM_eq_mapM_toList]
            simp only [Sem.run_bind, Sem.run_map, r1, Result.andThen_ok, Sem.run_pure]
          · have hl' := hg'.len
            have hm : s'.m = s.tm.length := by
              have := hl'.2
              have e : (a.tmps.toList ++ S0.St).length = s'.m := this
              rw [List.length_append, Array.length_toList] at e; omega
            have hbase : InvG Gl S0 w0 { s' with tm := s'.tm.drop (s'.tm.length - s'.m), m := s.m } a g' := by
              refine { hg' with defers := hI.defers, len := ⟨?_, hlen.2⟩, tm := fun i p v hp hv => ?_ }
              · show (s'.tm.drop (s'.tm.length - s'.m)).length = a.tmps.size + s.m
                rw [List.length_drop]; omega
              · have hp : (s'.tm.drop (s'.tm.length - s'.m))[i]? = some p := hp
                rw [List.getElem?_drop] at hp
                refine hg'.tm _ p v hp ?_
                show (a'.tmps.toList ++ (a.tmps.toList ++ S0.St))[_]? = some v
                have e : s'.tm.length - s'.m = a'.tmps.toList.length := by rw [Array.length_toList]; omega
                rw [e, List.getElem?_append_right (by omega), Nat.add_sub_cancel_left]
                exact hv
            exact hbase.put _ (onePV_spec k2 r2)
        cases e with
        | normal => exact fin hq
        | ret => exact fin hq
        | exit id => exact hq.elim
        | goto l => exact hq.elim
        | panic ch => exact hq.elim
        | outgrown => exact hq.elim
      · cases h
    · cases h
end
end PM
/-
  THE PURE MACHINE, Qi: labels and tokens get other names.
-/
namespace PM
open Go Go.RowKit

def ren0 (ρ : Nat → Nat) : PV → PV
  | .ref l o => .ref (ρ l) o
  | p => p
def ren1 (ρ τ : Nat → Nat) : PV → PV
  | .lst (.own t) k b xss => .lst (.own (τ t)) k b xss
  | .ref l o => .ref (ρ l) o
  | .mp l => .mp (ρ l)
  | .sl l o n k b => .sl (ρ l) o n k b
  | .fn f caps => .fn f (caps.map (ren0 ρ))
  | .ex t k b N o n => .ex (τ t) k b N o n
  | .eref t k N j o => .eref (τ t) k N j o
  | p => p
def renA (ρ τ : Nat → Nat) : PV → PV
  | .agg cs => .agg (cs.map (ren1 ρ τ))
  | p => ren1 ρ τ p
def renV (ρ τ : Nat → Nat) : PV → PV
  | .tup vs => .tup (vs.map (renA ρ τ))
  | p => renA ρ τ p
def renO (ρ τ : Nat → Nat) : PObj → PObj
  | .cells cs => .cells (cs.map (ren1 ρ τ))
  | .map es => .map es
  | .iter b p => .iter b p
def renS (ρ τ : Nat → Nat) (s : PSt) : PSt := ⟨s.tm.map (renV ρ τ), fun l => (s.H (ρ l)).map (renO ρ τ), fun t => s.T (τ t), fun t => s.X (τ t), s.m⟩
def renG (ρ τ : Nat → Nat) (g : GG) : GG := ⟨g.S, g.w, fun l => g.φ (ρ l), fun t => g.hd (τ t), fun l => (g.H (ρ l)).map (renO ρ τ), fun t => g.T (τ t)⟩
section
variable {ρ τ : Nat → Nat} {g : GG} {p : PV} {v : Value}
theorem rel0_ren (hρ : ∀ l, ρ (ρ l) = l) (h : Rel0 g p v) : Rel0 (renG ρ τ g) (ren0 ρ p) v := by
  cases p
  case ref l o =>
    simp only [Rel0, ren0, renG, hρ, Option.isSome_map] at h ⊢
    exact h
  all_goals exact h
theorem rel1_ren (hρ : ∀ l, ρ (ρ l) = l) (hτ : ∀ l, τ (τ l) = l) (h : Rel1 g p v) : Rel1 (renG ρ τ g) (ren1 ρ τ p) v := by
  cases p
  case lst o k b xss =>
    cases o
    case own t =>
      simp only [Rel1, ren1, renG, hτ] at h ⊢
      exact h
    all_goals exact h
  case ref l o =>
    simp only [Rel1, ren1, renG, hρ, Option.isSome_map] at h ⊢
    exact h
  case mp l =>
    simp only [Rel1, ren1, renG, hρ, Option.isSome_map] at h ⊢
    exact h
  case sl l o n k b =>
    simp only [Rel1, ren1, renG, hρ] at h ⊢
    obtain ⟨h1, cs, h2, h3⟩ := h
    exact ⟨h1, cs.map (ren1 ρ τ), by rw [h2]; rfl, by simpa using h3⟩
  case fn f caps =>
    simp only [Rel1, ren1] at h ⊢
    obtain ⟨arr, h1, h2⟩ := h
    refine ⟨arr, h1, by simpa using h2.1, fun i p v hp hv => ?_⟩
    rw [List.getElem?_map] at hp
    obtain ⟨q, hq, rfl⟩ := Option.map_eq_some_iff.1 hp
    exact rel0_ren hρ (h2.2 i q v hq hv)
  case ex t k b N o n =>
    simp only [Rel1, ren1, renG, hτ] at h ⊢
    exact h
  case eref t k N j o =>
    simp only [Rel1, ren1, renG, hτ] at h ⊢
    exact h
  all_goals exact h
theorem oneCell_ren (hρ : ∀ l, ρ (ρ l) = l) (hτ : ∀ l, τ (τ l) = l) (h : RelC g p v) : RelC (renG ρ τ g) (ren1 ρ τ p) v := ⟨rel1_ren hρ hτ h.1, h.2⟩
theorem relA_ren (hρ : ∀ l, ρ (ρ l) = l) (hτ : ∀ l, τ (τ l) = l) (h : RelA g p v) : RelA (renG ρ τ g) (renA ρ τ p) v := by
  cases p
  case agg cs =>
    simp only [RelA, renA] at h ⊢
    obtain ⟨arr, h1, h2⟩ := h
    refine ⟨arr, h1, by simpa using h2.1, fun i p v hp hv => ?_⟩
    rw [List.getElem?_map] at hp
    obtain ⟨q, hq, rfl⟩ := Option.map_eq_some_iff.1 hp
    exact oneCell_ren hρ hτ (h2.2 i q v hq hv)
  case lst o k b xss =>
    simp only [RelA] at h
    exact (rel1_ren hρ hτ h).relA'
  all_goals
    simp only [RelA, renA] at h ⊢
    exact rel1_ren hρ hτ h
theorem rel_ren (hρ : ∀ l, ρ (ρ l) = l) (hτ : ∀ l, τ (τ l) = l) (h : Rel g p v) : Rel (renG ρ τ g) (renV ρ τ p) v := by
  cases p
  case tup cs =>
    simp only [Rel, renV] at h ⊢
    obtain ⟨arr, h1, h2⟩ := h
    refine ⟨arr, h1, by simpa using h2.1, fun i p v hp hv => ?_⟩
    rw [List.getElem?_map] at hp
    obtain ⟨q, hq, rfl⟩ := Option.map_eq_some_iff.1 hp
    exact relA_ren hρ hτ (h2.2 i q v hq hv)
  case lst o k b xss =>
    simp only [Rel] at h
    exact (relA_ren hρ hτ h).rel
  all_goals
    simp only [Rel, renV] at h ⊢
    exact relA_ren hρ hτ h
theorem objOK_ren (hρ : ∀ l, ρ (ρ l) = l) (hτ : ∀ l, τ (τ l) = l) {B : Nat} {ob : PObj} (h : ObjOK g B ob) : ObjOK (renG ρ τ g) B (renO ρ τ ob) := by
  cases ob with
  | cells cs =>
    obtain ⟨vs, h1, h2, h3⟩ := h
    refine ⟨vs, ⟨by simpa using h1.1, fun i p v hp hv => ?_⟩, h2, h3⟩
    rw [List.getElem?_map] at hp
    obtain ⟨q, hq, rfl⟩ := Option.map_eq_some_iff.1 hp
    exact oneCell_ren hρ hτ (h1.2 i q v hq hv)
  | map es => exact h
  | iter b p => exact h
end
section
variable {Gl : Nat → Option (List PV)} {S0 : Bs} {w0 : World} {s : PSt} {a : Act} {g : GG} {ρ τ : Nat → Nat}
theorem InvG.ren (h : InvG Gl S0 w0 s a g) (hρ : ∀ l, ρ (ρ l) = l) (hτ : ∀ l, τ (τ l) = l) (fρ : ∀ l, 1000000 ≤ l → ρ l = l) (fτ : ∀ t, 1000000000 ≤ t → τ t = t) : InvG Gl S0 w0 (renS ρ τ s) a (renG ρ τ g) := by
  have iρ : ∀ {l l'}, ρ l = ρ l' → l = l' := fun {l l'} e => by rw [← hρ l, ← hρ l', e]
  have iτ : ∀ {l l'}, τ l = τ l' → l = l' := fun {l l'} e => by rw [← hτ l, ← hτ l', e]
  have hs : ∀ {l}, ((renG ρ τ g).H l).isSome = true → (g.H (ρ l)).isSome = true := fun {l} e => by simpa [renG] using e
  refine { hH := by simp only [renG, renS, h.hH], hT := by simp only [renG, renS, h.hT], defers := h.defers, len := ⟨by simpa [renS] using h.len.1, h.len.2⟩, tm := fun i p v hp hv => ?_, sub := h.sub, new := h.new, lt := h.lt, below := h.below, objs := fun l ob hob => ?_, inj := fun l l' h1 h2 e => iρ (h.inj _ _ (hs h1) (hs h2) e), owns := fun t n k ht => h.owns (τ t) n k ht, ownsEx := fun t t' B h1 h2 => iτ (h.ownsEx (τ t) (τ t') B h1 h2), ownsObj := fun t B l h1 h2 => h.ownsObj (τ t) B (ρ l) h1 (hs h2), glob := h.glob, exs := fun t k b xss hx => ?_, exsEx := fun t t' B h1 h2 => iτ (h.exsEx (τ t) (τ t') B h1 h2), fix := fun l B hF => ?_, fixT := fun t v n hF => ?_ }
  · simp only [renS, List.getElem?_map] at hp
    obtain ⟨q, hq, rfl⟩ := Option.map_eq_some_iff.1 hp
    exact rel_ren hρ hτ (h.tm i q v hq hv)
  · simp only [renG] at hob
    obtain ⟨ob0, h1, rfl⟩ := Option.map_eq_some_iff.1 hob
    obtain ⟨o1, o2, o3, o4⟩ := h.objs (ρ l) ob0 h1
    exact ⟨o1, o2, o3, objOK_ren hρ hτ o4⟩
  · obtain ⟨q1, q2, q3, q4, q5, q6⟩ := h.exs (τ t) k b xss hx
    refine ⟨q1, q2, q3, q4, q5, q6.imp id ?_⟩
    rintro ⟨B, cap, e, hc, f1, f2, f3, f4, f5, f6, f7, f8⟩
    exact ⟨B, cap, e, hc, f1, f2, f3, f4, f5, f6, fun l hl => f7 (ρ l) (hs hl), fun t' ht' => iτ (f8 (τ t') ht')⟩
  · obtain ⟨k1, k2⟩ := h.fix l B hF
    refine ⟨k1, fun e => ?_⟩
    have e' := hs e
    rw [fρ l k1] at e'
    show g.φ (ρ l) = B
    rw [fρ l k1]; exact k2 e'
  · obtain ⟨k1, k2⟩ := h.fixT t v n hF
    refine ⟨k1, fun n0 e => ?_⟩
    have e' : g.T (τ t) = some (n0, 0) := e
    show n ≤ n0 ∧ (n0 = n → g.hd (τ t) = v)
    rw [fτ t k1] at e' ⊢
    exact k2 n0 e'
/-- The first K names and those from c * K on change places. -/
def swp (K c i : Nat) : Nat := match decide (i < K) with
  | true => i + c * K
  | false => match decide (c * K ≤ i), decide (i < c * K + K) with
    | true, true => i - c * K
    | _, _ => i
theorem swp_swp {K c : Nat} (hc : 1 ≤ c) (i : Nat) : swp K c (swp K c i) = i := by
  have hck : K ≤ c * K := Nat.le_mul_of_pos_left K hc
  unfold swp
  by_cases h1 : i < K
  · simp only [h1, decide_true]
    rw [decide_eq_false (by omega), decide_eq_true (show c * K ≤ i + c * K by omega), decide_eq_true (show i + c * K < c * K + K by omega)]
    simp
  · simp only [h1, decide_false]
    by_cases h2 : c * K ≤ i
    · by_cases h3 : i < c * K + K
      · simp only [h2, h3, decide_true]
        rw [decide_eq_true (show i - c * K < K by omega)]
        simp only; omega
      · simp [h2, h3, h1]
    · simp [h2, h1]
theorem swp_fix {K c b : Nat} (h : c * K + K ≤ b) (hc : 1 ≤ c) (i : Nat) (hi : b ≤ i) : swp K c i = i := by
  unfold swp
  rw [decide_eq_false (by omega), decide_eq_false (show ¬ i < c * K + K by omega)]
  cases decide (c * K ≤ i) <;> rfl
/-- The labels below 1000 and the tokens below 1000000 get other names. -/
theorem wkr_ren (c : Nat) (hc : (decide (1 ≤ c) && decide (c ≤ 999)) = true) : Wkr s (renS (swp 1000 c) (swp 1000000 c) s) := fun Gl S0 w0 a w hi => by
  simp only [Bool.and_eq_true, decide_eq_true_eq] at hc
  obtain ⟨g, rfl, hg⟩ := hi
  exact ⟨renG (swp 1000 c) (swp 1000000 c) g, rfl, hg.ren (swp_swp hc.1) (swp_swp hc.1) (swp_fix (K := 1000) (b := 1000000) (by omega) hc.1) (swp_fix (K := 1000000) (b := 1000000000) (by omega) hc.1)⟩
theorem wl_wkr {P : Program} {ops : Array Oper} {L : List Oper} {Q : PSt → Prop} {s' : PSt} (hw : Wkr s s') (h : wl P Gl ops L s' Q) : wl P Gl ops L s Q := fun S0 w0 a w Q' hQ hi => h S0 w0 a w Q' hQ (hw Gl S0 w0 a w hi)
/-- Other names; only what J says is kept. -/
theorem wl_ren {P : Program} {ops : Array Oper} {L : List Oper} {Q : PSt → Prop} (c : Nat) (J : JS) (n : Nat) (hc : (decide (1 ≤ c) && decide (c ≤ 999)) = true) (hok : J.ok = true) (h : J.seen (renS (swp 1000 c) (swp 1000000 c) s) = J.told n) (h2 : wl P Gl ops L (J.st n) Q) : wl P Gl ops L s Q :=
  wl_wkr ((wkr_ren c hc).trans (.of hok h)) h2
/-- Only what J says is kept. -/
theorem wl_weak {P : Program} {ops : Array Oper} {L : List Oper} {Q : PSt → Prop} (J : JS) (n : Nat) (hok : J.ok = true) (h : J.seen s = J.told n) (h2 : wl P Gl ops L (J.st n) Q) : wl P Gl ops L s Q := wl_wkr (.of hok h) h2
end
end PM
/-
  THE PURE MACHINE, Qj: calls that only read lists that nobody else holds, and return numbers: the lists stay as they are.
-/
namespace PM
open Go Go.RowKit

section
variable {P : Program} {Gl : Nat → Option (List PV)} {S0 : Bs} {w0 : World} {s : PSt} {a : Act} {g : GG}
def callHdB (ts : List Nat) : List (Oper × Gd) → PSt → Option (FuncId × List PV × List (Nat × Nat))
  | (o, .always) :: _, s => match callOf o.op with
    | some (x, args) => match s.ev x with
      | .fn f caps => if caps.all capOK = true then (bdAs ts s (args.map s.ev ++ caps)).map fun q => (f, q) else none
      | _ => none
    | none => none
  | _, _ => none
/-- A call that reads lists that nobody else holds (those of the tokens ts). -/
theorem p_callB {Ls : List (Oper × Gd)} {Q : PSt → Prop} {f : FuncId} {as : List PV} {r : PV} (ts : List Nat) (hc : PCall P Gl f as r) (h0 : (callHdB ts Ls s).map (fun x => (x.1, dcoAL as x.2.1, x.2.2.map (·.1))) = (callHdB ts Ls s).map (fun x => (f, as, x.2.2.map (·.2)))) (hs0 : (callHdB ts Ls s).isSome = true) (hs : scal r = true)
    (h2 : pops P Gl false (Ls.drop 1) (s.put (dstHd Ls) r) Q) : pops P Gl false Ls s Q := by
  obtain ⟨y0, h⟩ := Option.isSome_iff_exists.1 hs0
  rw [h] at h0
  obtain ⟨f0, qs, eqs⟩ := y0
  simp only [Option.map_some, Option.some.injEq, Prod.mk.injEq] at h0
  obtain ⟨rfl, hdc, heq⟩ := h0
  unfold callHdB at h
  split at h
  · rename_i s0 o rest
    split at h
    · rename_i x args hco
      split at h
      · rename_i f' caps e1
        split at h
        · rename_i hcapok
          obtain ⟨qs', e3, h'⟩ := Option.map_eq_some_iff.1 h
          simp only [Prod.mk.injEq] at h'
          obtain ⟨rfl, h'⟩ := h'
          subst h'
          obtain ⟨c, hop, hcal, hargs⟩ := callOf_spec hco
          obtain ⟨⟨fn, hfn1, hfn2, hfn3⟩, hcall⟩ := hc
          refine p_sem (n := s) (v := r) (by rw [hop]; rfl) ?_ h2
          intro S0 w0 a g K Q' hg hK
          have hx := hg.ev x
          rw [e1] at hx
          simp only [Rel, RelA, Rel1] at hx
          obtain ⟨arr, hfv, hcaps⟩ := hx
          have hcapsR : All2 (Rel g) caps arr.toList := ⟨hcaps.1, fun i p v hp hv => by
            have h1 := hcaps.2 i p v hp hv
            have h2 := List.all_eq_true.1 hcapok p (List.mem_of_getElem? hp)
            cases p <;> simp only [capOK] at h2 <;> try cases h2
            all_goals exact h1⟩
          have hall : All2 (Rel g) (args.map s.ev ++ caps) (args.map a.eval ++ arr.toList) := All2.append ⟨by simp, fun i p v hp hv => by
            rw [List.getElem?_map] at hp hv
            cases hi : args[i]? with
            | none => rw [hi] at hp; cases hp
            | some y => rw [hi] at hp hv; cases hp; cases hv; exact hg.ev y⟩ hcapsR
          obtain ⟨S1, b1, b2, b3, b4⟩ := hg.borrow ts
          have hD := dcoAL_rel (ps := as) (bdAs_spec hg b1 b4 hall e3 heq)
          rw [hdc] at hD
          have hrun : (execOp a.eval o).run P g.w = .ok (.enter f' ((args.map a.eval ++ arr.toList).toArray)) g.w := by
            have hname : fn.name ≠ "runtime.NumGoroutine" := by simpa using hfn2
            have hbody : fn.body ≠ none := fun e => by rw [e] at hfn3; cases hfn3
            have hca : c.args.map a.eval ++ arr = (args.map a.eval ++ arr.toList).toArray := Array.toList_inj.1 (by simp [hargs])
            simp [execOp, hop, resolve, hcal, hfv, Deferred.ofValue, invoke, callFunc, run_program, hfn1, hname, hbody]
            simpa using hca
          unfold Oper.wp
          rw [hrun]
          refine (hcall S1 g.w _ b2 b3 (by simpa using hD)).mono fun e w' he => ?_
          obtain ⟨v, g', rfl, rfl, ha⟩ := he
          obtain ⟨k1, k2⟩ := hg.grow' ha.below
          exact hK v { g with w := g'.w } k1 k2 (scal_rel hs ha.rel)
        · cases h
      · cases h
    · cases h
  · cases h
/-- The same, in a region that may draw its order: the tokens are locked. -/
theorem p_callL {Ls : List (Oper × Gd)} {d : Bool} {Q : PSt → Prop} {f : FuncId} {as : List PV} {r : PV} (ts : List Nat) (hc : PCall P Gl f as r) (h0 : (callHdB ts Ls s).map (fun x => (x.1, dcoAL as x.2.1, x.2.2.map (·.1))) = (callHdB ts Ls s).map (fun x => (f, as, x.2.2.map (·.2)))) (hs0 : ((callHdB ts Ls s).isSome && ts.all lockTk) = true) (hs : scal r = true)
    (h2 : pops P Gl d (Ls.drop 1) (s.put (dstHd Ls) r) Q) : pops P Gl d Ls s Q := by
  obtain ⟨hs1, hts⟩ := Bool.and_eq_true_iff.1 hs0
  obtain ⟨y0, h⟩ := Option.isSome_iff_exists.1 hs1
  rw [h] at h0
  obtain ⟨f0, qs, eqs⟩ := y0
  simp only [Option.map_some, Option.some.injEq, Prod.mk.injEq] at h0
  obtain ⟨rfl, hdc, heq⟩ := h0
  match Ls, h, h2 with
  | (o, .always) :: rest, h, h2 =>
    simp only [callHdB] at h
    simp only [pops, gdStep]
    refine .inl ?_
    simp only [stepO]
    cases hco : callOf o.op with
    | none => simp [hco] at h
    | some xa =>
      obtain ⟨x, args⟩ := xa
      simp only [hco] at h ⊢
      split at h
      · rename_i f' caps hx
        split at h
        · rename_i hcap
          obtain ⟨q', h5, h'⟩ := Option.map_eq_some_iff.1 h
          simp only [Prod.mk.injEq] at h'
          obtain ⟨rfl, rfl⟩ := h'
          exact .inr ⟨f', caps, qs, r, ts, eqs, hx, hcap, h5, heq, hts, hc.coerce hdc, hs, h2⟩
        · cases h
      · cases h
/-- These tokens are locked, or unlocked. -/
def swpK (K : Nat) (ts : List Nat) (i : Nat) : Nat := match ts.contains i with
  | true => i + K
  | false => match decide (K ≤ i), ts.contains (i - K) with
    | true, true => i - K
    | _, _ => i
theorem swpK_swpK {K : Nat} {ts : List Nat} (h : (ts.all fun t => decide (t < K)) = true) (i : Nat) : swpK K ts (swpK K ts i) = i := by
  have hlt : ∀ t, ts.contains t = true → t < K := fun t ht => by simpa using List.all_eq_true.1 h t (by simpa using ht)
  unfold swpK
  cases h1 : ts.contains i with
  | true =>
    have := hlt i h1
    have h2 : ts.contains (i + K) = false := by
      cases q : ts.contains (i + K) with
      | false => rfl
      | true => have := hlt _ q; omega
    simp only [h2]
    rw [decide_eq_true (by omega), Nat.add_sub_cancel, h1]
  | false =>
    cases h2 : decide (K ≤ i) with
    | false => simp only [h1, h2]
    | true =>
      cases h3 : ts.contains (i - K) with
      | true =>
        have h2 := of_decide_eq_true h2
        simp only [h3]; omega
      | false => simp only [h1, h2, h3]
theorem swpK_fix {K : Nat} {ts : List Nat} (h : (ts.all fun t => decide (t < K)) = true) (i : Nat) (hi : K + K ≤ i) : swpK K ts i = i := by
  have hlt : ∀ t, ts.contains t = true → t < K := fun t ht => by simpa using List.all_eq_true.1 h t (by simpa using ht)
  unfold swpK
  cases h1 : ts.contains i with
  | true => have := hlt i h1; omega
  | false =>
    cases h3 : ts.contains (i - K) with
    | true => have := hlt _ h3; omega
    | false => cases decide (K ≤ i) <;> rfl
def swpL (ts : List Nat) (i : Nat) : Nat := swpK 500000000 ts i
theorem wkr_lock (ts : List Nat) (J : JS) (n : Nat) (hts : (ts.all fun t => decide (t < 500000000)) = true) (hok : J.ok = true) (h : J.seen (renS id (swpL ts) s) = J.told n) : Wkr s (J.st n) :=
  Wkr.trans (s2 := renS id (swpL ts) s) (fun Gl S0 w0 a w hi => by
    obtain ⟨g, rfl, hg⟩ := hi
    exact ⟨renG id (swpL ts) g, rfl, hg.ren (fun _ => rfl) (swpK_swpK hts) (fun _ _ => rfl) (fun i hi => swpK_fix hts i hi)⟩) (.of hok h)
end
end PM
/-
  THE PURE MACHINE, Qk: a list that is written out, and that nobody else holds.
-/
namespace PM
open Go Go.RowKit

def xlitHd (P : Program) : List (Oper × Gd) → PSt → Option (Nat × Nat × Nat × List (List PV))
  | (o, .always) :: _, s => match o.op with
    | .buildSlice t n parts => match appK P t with
      | some (_, k, b) => (elemsOf k (parts.toList.map fun x => (x.1, s.ev x.2)) 0).map fun xss => (k, b, n, xss)
      | none => none
    | _ => none
  | _, _ => none
section
variable {α : Type} [Enc α] {P : Program} {Gl : Nat → Option (List PV)} {s : PSt} {Q : PSt → Prop} {Ls : List (Oper × Gd)}
theorem p_xlit {L : List α} {n : Nat} (tk : Nat) (h : xlitHd P Ls s = some (Enc.k α, Enc.b α, n, L.map cellsOf)) (hT : ((s.T tk).isNone && decide (tk < 1000000000) && decide ((L.map cellsOf).length = n) && decide (n * Enc.k α ≤ 16777216) && decide (n * Enc.b α ≤ 140737488351232)) = true)
    (h2 : pops P Gl false (Ls.drop 1) (({ s with T := upd s.T tk (some ((L.map cellsOf).length, 0)), X := upd s.X tk (some (Enc.k α, Enc.b α, L.map cellsOf)) } : PSt).put (dstHd Ls) (.ex tk (Enc.k α) (Enc.b α) (L.map cellsOf).length 0 (L.map cellsOf).length)) Q) : pops P Gl false Ls s Q := by
  simp only [Bool.and_eq_true, decide_eq_true_eq] at hT
  obtain ⟨⟨⟨⟨hT1, hT2⟩, hn⟩, hb1⟩, hb2⟩ := hT
  have hT1' : s.T tk = none := by simpa using hT1
  unfold xlitHd at h
  split at h
  · rename_i s0 o rest
    split at h
    · rename_i t n' parts hop
      split at h
      · rename_i e k b hk
        obtain ⟨xss, he, h'⟩ := Option.map_eq_some_iff.1 h
        simp only [Prod.mk.injEq] at h'
        obtain ⟨rfl, rfl, rfl, rfl⟩ := h'
        refine p_sem (n := { s with T := upd s.T tk (some ((L.map cellsOf).length, 0)), X := upd s.X tk (some (Enc.k α, Enc.b α, L.map cellsOf)) }) (v := .ex tk (Enc.k α) (Enc.b α) (L.map cellsOf).length 0 (L.map cellsOf).length) (by rw [hop]; rfl) ?_ h2
        intro S0 w0 a g K Q' hg hK
        generalize hxs : L.map cellsOf = xss at he hn hK ⊢
        obtain ⟨i, z, k1, k2, k3, k4, k5, k6, k7⟩ := appK_spec hk
        obtain ⟨e1, e2⟩ := elemsOf_length he
        have hp : All2 (fun (x : Nat × PV) (y : Nat × Value) => x.1 = y.1 ∧ Rel g x.2 y.2) (parts.toList.map fun x => (x.1, s.ev x.2)) (parts.toList.map fun x => (x.1, a.eval x.2)) :=
          ⟨by simp, fun i x y hx hy => by
            simp only [List.getElem?_map] at hx hy
            cases hp : parts.toList[i]? with
            | none => rw [hp] at hx; cases hx
            | some q =>
              rw [hp] at hx hy
              cases hx; cases hy
              exact ⟨rfl, hg.ev q.2⟩⟩
        have hzero : ((Array.range (n' * Enc.k α)).map (z.cells[· % z.cells.size]!)).size = (0 + (parts.toList.map fun x => (x.1, s.ev x.2)).length) * Enc.k α := by simp at e1 ⊢; rw [← e1, hn]
        obtain ⟨cells', f1, f2, f3, f4⟩ := fill_row (g := g) k7 _ _ 0 xss _ hp he hzero
        simp only [Nat.zero_mul, List.drop_zero] at f4
        have hle : ¬ (16777216 < n' * Enc.k α) := by omega
        have hrun : (Instr.buildSlice t n' (parts.map fun (i, x) => (i, a.eval x))).run P g.w = .ok (.slice (some ⟨g.w.heap.size, 0, none⟩) n' n') (g.w.alloc (.cells cells' e)) := by
          have f1' : Instr.fill (fun i => some (i * Enc.k α, Enc.k α)) ((Array.range (n' * Enc.k α)).map (z.cells[· % z.cells.size]!)) (parts.toList.map fun x => (x.1, a.eval x.2)) = some cells' := f1
          by_cases hz0 : n' * Enc.k α = 0
          · have hr1 : ∀ f : Nat → Value, (Array.range 0).map f = #[] := fun f => by simp [Array.range]
            rw [hz0, hr1] at f1'
            simp only [Instr.buildSlice, Sem.run_bind, run_underlying k1, Result.andThen_ok, run_sizeOf k2, k3]
            simp [hz0, hr1, f1', newRow]
          · simp only [Instr.buildSlice, Sem.run_bind, run_underlying k1, Result.andThen_ok, run_sizeOf k2, k3]
            simp [hle, hz0, zeroValue, typeInfo, k2, k5, f1', newRow]
        obtain ⟨h1, g1⟩ := hg.grow' (below_alloc g.w (.cells cells' e))
        have hgT : g.T tk = none := by rw [hg.hT]; exact hT1'
        have hfl : xss.flatten.length = n' * Enc.k α := by
          rw [List.length_flatten]
          have : xss.map List.length = List.replicate xss.length (Enc.k α) := by
            rw [List.eq_replicate_iff]
            exact ⟨by simp, fun b hb => by obtain ⟨x, hx, rfl⟩ := List.mem_map.1 hb; exact e2 x hx⟩
          rw [this, hn]; simp
        have hcs : cells'.size = n' * Enc.k α := by
          have := f4.1
          rw [hfl] at this; simpa using this.symm
        have hvals : All2 (fun p v => RelD g.S (g.w.alloc (.cells cells' e)) p v ∧ p.one = true) xss.flatten cells'.toList :=
          (f4.mono fun _ _ q => (⟨q.1, q.2.1⟩ : RelD g.S g.w _ _ ∧ _)).monoD g1.S g1.cell g1.blk
        have hk1 : 1 ≤ Enc.k α := Nat.pos_of_ne_zero k7
        have hlt : n' ≤ 140737488351232 := by
          have : n' * 1 ≤ n' * Enc.k α := Nat.mul_le_mul_left n' hk1
          omega
        obtain ⟨h3, g3⟩ := h1.exHead (t := tk) (k := Enc.k α) (b := Enc.b α) (xss := xss) (v := .slice (some ⟨g.w.heap.size, 0, none⟩) n' n')
          (fun n0 k0 q => by have : g.T tk = some (n0, k0) := q; rw [hgT] at this; cases this) (fun _ => hT2) k7 e2 (by rw [hn]; exact hb2) (by rw [hn]; exact hlt)
          (by
            by_cases hc0 : n' = 0
            · left
              rw [hc0]
              exact ⟨.inr ⟨_, _, rfl⟩, List.eq_nil_of_length_eq_zero (by rw [hn, hc0])⟩
            · right
              exact ⟨g.w.heap.size, n', by rw [hn], by omega, ⟨by rw [hn]; omega, .inl hg.below.size, by simp, fun o ho => (by have := hg.lt _ _ ho; omega), ⟨_, hvals, rangeAt_alloc g.w _ e⟩, fun j hj => there_alloc g.w _ e j (by rw [hcs]; exact hj), fun l hl => hg.phi_lt l hl, fun t2 h2 => (hg.spare_lt t2 (h2.congr rfl rfl)).elim⟩, fun t2 _ h2 => hg.xb_lt t2 (h2.congr rfl)⟩)
        have hrun2 : (execOp a.eval o).run P g.w = .ok (.value (.slice (some ⟨g.w.heap.size, 0, none⟩) n' n')) (g.w.alloc (.cells cells' e)) := by
          simp [execOp, hop, hrun]
        unfold Oper.wp
        rw [hrun2]
        refine hK _ _ h3 (g1.trans g3) ?_
        simp only [Rel, RelA, Rel1]
        refine ⟨⟨_, _, by rw [hn], by rw [hn]; omega, fun _ => ⟨_, _, rfl⟩⟩, _, upd_same _ _ _, Nat.le_refl _, fun _ => ?_⟩
        by_cases hc0 : n' = 0
        · exact .inl ⟨by simp, by rw [hn]; omega, rfl, by rw [hn]; omega⟩
        · exact .inr ⟨g.w.heap.size, n', 0, by rw [hn]; simp, by omega, by rw [hn]; omega, by omega, by rw [hn]; simp, by simp⟩
      · cases h
    · cases h
  · cases h
end
end PM
/-
  THE PURE MACHINE, Ql: the end of a list that may grow: a slice that takes over the room (a new token), and tokens that change names.
-/
namespace PM
open Go Go.RowKit

section
variable {P : Program} {Gl : Nat → Option (List PV)} {S0 : Bs} {w0 : World} {s : PSt} {a : Act} {g : GG}
theorem Room.none {n k : Nat} (hk : k ≠ 0) : ¬ Room n k n := by
  rintro (h | ⟨h, _⟩)
  · exact Nat.lt_irrefl _ h
  · exact hk h
theorem there_sub {w : World} {B off n o m : Nat} (h : w.there B off n) (h1 : o + m ≤ n) : w.there B (off + o) m := fun j hj => by
  have := h (o + j) (by omega)
  rwa [← Nat.add_assoc] at this
/-- The list of token t goes over to token d, from element j on. -/
theorem InvG.rebase (h : InvG Gl S0 w0 s a g) {t d n k j : Nat} {z : Value} (ht : g.T t = some (n, k)) (hk : k ≠ 0) (hd : g.T d = none) (hj : j ≤ n)
    (hz : (g.hd t = .slice none 0 0 ∧ n = 0 ∧ z = .slice none 0 0) ∨ ∃ B off cap, g.hd t = .slice (some ⟨B, off, none⟩) n cap ∧ n ≤ cap ∧ z = .slice (some ⟨B, if cap = j then off else off + j * k, none⟩) (n - j) (cap - j)) :
    ∃ g', InvG Gl S0 w0 { s with T := upd (upd s.T t (some (n + 1, k))) d (some (n - j, k)) } a g' ∧ GLe g g' ∧ g'.w = g.w ∧ g'.S = g.S ∧ g'.hd d = z ∧ g'.T d = some (n - j, k) := by
  have hne : d ≠ t := fun e => by rw [e, ht] at hd; cases hd
  have hXt : s.X t = none := h.noX fun n' e => by rw [ht] at e; cases e; exact hk rfl
  have hXd : s.X d = none := h.noX fun n' e => by rw [hd] at e; cases e
  obtain ⟨i1, l1⟩ := h.setTok (t := t) (n := n + 1) (k := k) (v := .slice (some ⟨0, 0, none⟩) (n + 1) (n + 1)) (fun n0 k0 e => by rw [ht] at e; cases e; exact ⟨rfl, by omega⟩) hk
    (fun g' _ _ e => .inr ⟨0, 0, n + 1, e, Nat.le_refl _, fun q => absurd q (Room.none hk)⟩)
    (fun B off cap e q => by cases e; exact absurd q (Room.none hk)) hXt
  have hsp1 : ∀ t' B, Spare { g with hd := fun x => if x = t then .slice (some ⟨0, 0, none⟩) (n + 1) (n + 1) else g.hd x, T := upd g.T t (some (n + 1, k)) } t' B → t' ≠ t ∧ Spare g t' B := by
    rintro t' B ⟨n', k', off, cap, h1, h2, h3⟩
    have h1 : upd g.T t (some (n + 1, k)) t' = some (n', k') := h1
    by_cases e : t' = t
    · subst e
      rw [upd_same] at h1; cases h1
      simp only [if_true] at h2
      cases h2
      exact absurd h3 (Room.none hk)
    · rw [upd_other _ _ _ _ e] at h1
      simp only [if_neg e] at h2
      exact ⟨e, n', k', off, cap, h1, h2, h3⟩
  obtain ⟨i2, l2⟩ := i1.setTok (t := d) (n := n - j) (k := k) (v := z) (fun n0 k0 e => by
      have e : upd g.T t (some (n + 1, k)) d = some (n0, k0) := e
      rw [upd_other _ _ _ _ hne, hd] at e; cases e) hk
    (fun g' ew eS e => by
      rcases hz with ⟨z1, z2, z3⟩ | ⟨B, off, cap, z1, z2, z3⟩
      · exact .inl ⟨by rw [e, z3], by omega⟩
      · refine .inr ⟨B, _, cap - j, by rw [e, z3], by omega, fun q => ?_⟩
        have hroom : n < cap := by
          rcases q with q | ⟨q, _⟩
          · omega
          · exact absurd q hk
        have hcj : cap ≠ j := by omega
        rw [if_neg hcj]
        have eS' : ∀ o, g'.S B o → g.S B o := fun o ho => by rw [eS] at ho; exact ho
        have ew' : g'.w = g.w := ew
        rcases h.owns t n k ht with ⟨e1, _⟩ | ⟨B', off', cap', e1, _, hr⟩
        · rw [e1] at z1; cases z1
        · rw [e1] at z1; cases z1
          obtain ⟨q1, q2, q3, q4⟩ := hr (.of_lt hroom)
          have hmul : cap * k = j * k + (cap - j) * k := by rw [← Nat.add_mul]; congr 1; omega
          have hmul2 : n * k = j * k + (n - j) * k := by rw [← Nat.add_mul]; congr 1; omega
          refine ⟨q1, by rw [ew']; exact q2, by rw [ew']; exact there_sub q3 (by omega), fun _ o ho => ?_⟩
          have := q4 hk o (eS' o ho)
          omega)
    (fun B off cap e q => by
      rcases hz with ⟨z1, z2, z3⟩ | ⟨B', off', cap', z1, z2, z3⟩
      · rw [z3] at e; cases e
      · rw [z3] at e
        have hroom : n < cap' := by
          rcases q with q | ⟨q, _⟩
          · have e2 := (Value.slice.inj e).2.2; omega
          · exact absurd q hk
        rw [if_neg (show cap' ≠ j by omega)] at e
        simp only [Value.slice.injEq, Option.some.injEq, Addr.mk.injEq, and_true] at e
        obtain ⟨⟨hB, -⟩, -⟩ := e
        have hsp : Spare g t B := by rw [← hB]; exact ⟨n, k, off', cap', ht, z1, .of_lt hroom⟩
        refine ⟨fun t' q => ?_, fun l hl => h.ownsObj t B l hsp hl, fun t' q => ?_⟩
        · obtain ⟨q1, q2⟩ := hsp1 t' B q
          exact q1 (h.ownsEx t' t B q2 hsp)
        · obtain ⟨q1, off2, n2, cap2, q2, q3⟩ := q
          have hne2 : t' ≠ t := fun e => by
            have q1 : (s.X t').isSome = true := q1
            rw [e, hXt] at q1; cases q1
          simp only [if_neg hne2] at q2
          have := (XB.lt h (show XB s.X g t' B from ⟨q1, off2, n2, cap2, q2, q3⟩)).2.2.2.2 t hsp
          exact hne2 this.symm)
    hXd
  refine ⟨_, i2, l1.trans l2, rfl, rfl, if_pos rfl, upd_same _ _ _⟩
end

section
variable {α : Type} [Enc α] {P : Program} {Gl : Nat → Option (List PV)} {s : PSt} {Ls : List (Oper × Gd)} {Q : PSt → Prop}
def slLoO (L : List α) (lo : Int) : Option (List α) := if 0 ≤ lo ∧ lo ≤ (L.length : Int) then some (L.drop lo.toNat) else none
/-- The end of a list that may grow: it takes over the room. -/
theorem p_slR {L M : List α} {lo : Int} (t tk : Nat) (hM : slLoO L lo = some M) (h : slHd P Ls s = some (Enc.k α, lstOf (.own t) L, some (.int .i64 lo), none, none))
    (hT : (s.T t, (s.T tk).isNone && (Enc.k α != 0)) = (some ((L.map cellsOf).length, Enc.k α), true))
    (h2 : pops P Gl false (Ls.drop 1) (({ s with T := upd (upd s.T t (some ((L.map cellsOf).length + 1, Enc.k α))) tk (some ((M.map cellsOf).length, Enc.k α)) } : PSt).put (dstHd Ls) (lstOf (.own tk) M)) Q) : pops P Gl false Ls s Q := by
  obtain ⟨hT1, hT2⟩ := Prod.mk.inj hT
  simp only [Bool.and_eq_true] at hT2
  have hTn : s.T tk = none := by simpa using hT2.1
  have hk0 : Enc.k α ≠ 0 := by simpa using hT2.2
  unfold slLoO at hM
  split at hM
  · rename_i hc
    cases hM
    unfold slHd at h
    split at h
    · rename_i s0 o rest
      split at h
      · rename_i ty x lo' hi' mx' hop
        split at h
        · rename_i e row k' b' hel
          simp only [Option.some.injEq, Prod.mk.injEq] at h
          obtain ⟨rfl, hx, hlo, hhi, hmx⟩ := h
          refine p_sem (n := { s with T := upd (upd s.T t (some ((L.map cellsOf).length + 1, Enc.k α))) tk (some (((L.drop lo.toNat).map cellsOf).length, Enc.k α)) }) (v := lstOf (.own tk) (L.drop lo.toNat)) (by rw [hop]; rfl) ?_ h2
          intro S0 w0 a g K Q' hg hK
          obtain ⟨i, d, q1, q2, q3, q4, q5, q6⟩ := elemK_spec hel
          have hxr := hg.ev x
          rw [hx] at hxr
          have hxr' : Rel1 g (.lst (.own t) (Enc.k α) (Enc.b α) (L.map cellsOf)) (a.eval x) := hxr
          simp only [Rel1] at hxr'
          obtain ⟨hD, n, hTg, hle, hhd⟩ := hxr'
          have hTs : g.T t = some ((L.map cellsOf).length, Enc.k α) := by rw [hg.hT]; exact hT1
          have hn : n = (L.map cellsOf).length := by rw [hTs] at hTg; cases hTg; rfl
          subst hn
          have hxv := hhd rfl
          have hlen : (L.map cellsOf).length = L.length := List.length_map ..
          obtain ⟨lo0, rfl⟩ : ∃ y, lo' = some y := by cases lo' with | none => cases hlo | some y => exact ⟨y, rfl⟩
          have hloe : s.ev lo0 = .int .i64 lo := by simpa using hlo
          have hlv := hg.ev lo0
          rw [hloe, relInt] at hlv
          have hhi0 : hi' = none := by cases hi' with | none => rfl | some _ => cases hhi
          have hmx0 : mx' = none := by cases mx' with | none => rfl | some _ => cases hmx
          subst hhi0; subst hmx0
          have hrun : ∀ (base : Option Addr) (cap : Nat), L.length ≤ cap → (Instr.sliceAt ty (.slice base L.length cap) (some (.int .i64 lo)) none none).run P g.w =
              .ok (.slice (if cap = lo.toNat then base else base.map (·.add (lo.toNat * Enc.k α))) (L.length - lo.toNat) (cap - lo.toNat)) g.w := by
            intro base cap hcap
            have hb := run_bounds (P := P) (w := g.w) (isS := true) (len := L.length) (cap := cap) (l := lo.toNat) (h := L.length) (m := L.length) (lo := some (.int .i64 lo)) (hi := none) (mx := none) (ρl := some (.int .i64 lo)) (ρh := none) (ρm := none)
              (.inr ⟨.i64, lo, rfl, rfl, hc.1, by omega⟩) (.inl ⟨rfl, rfl, rfl⟩) (.inl ⟨rfl, rfl, rfl⟩) (by omega) (Nat.le_refl _) (Nat.le_refl _) hcap (.inl rfl)
            simp only [if_true] at hb
            simp only [Instr.sliceAt, Sem.run_bind, run_underlying q1, Result.andThen_ok, Instr.slice, hb, run_sizeOf q2, Sem.run_pure, q5]
          have hz : ∃ z, (Instr.sliceAt ty (a.eval x) (some (.int .i64 lo)) none none).run P g.w = .ok z g.w ∧
              ((g.hd t = .slice none 0 0 ∧ (L.map cellsOf).length = 0 ∧ z = .slice none 0 0) ∨ ∃ B off cap, g.hd t = .slice (some ⟨B, off, none⟩) (L.map cellsOf).length cap ∧ (L.map cellsOf).length ≤ cap ∧ z = .slice (some ⟨B, if cap = lo.toNat then off else off + lo.toNat * Enc.k α, none⟩) ((L.map cellsOf).length - lo.toNat) (cap - lo.toNat)) := by
            rcases hg.owns t _ _ hTs with ⟨e1, e2⟩ | ⟨B, off, cap, e1, e2, _⟩
            · have h0 : lo.toNat = 0 := by omega
              have hL0 : L.length = 0 := by omega
              refine ⟨.slice none 0 0, ?_, .inl ⟨e1, e2, rfl⟩⟩
              have := hrun none 0 (by omega)
              rw [hL0, h0] at this
              rw [hxv, e1]
              simpa using this
            · rw [hlen] at e1 e2
              refine ⟨_, ?_, .inr ⟨B, off, cap, by rw [hlen]; exact e1, by rw [hlen]; exact e2, rfl⟩⟩
              rw [hxv, e1, hrun _ _ e2, hlen]
              by_cases hcz : cap = lo.toNat
              · rw [if_pos hcz, if_pos hcz]
              · rw [if_neg hcz, if_neg hcz]; simp only [Option.map_some, Addr.add_lit]
          obtain ⟨z, hz1, hz2⟩ := hz
          obtain ⟨g', i1, i2, i3, i4, i5, i6⟩ := hg.rebase (j := lo.toNat) hTs hk0 (show g.T tk = none by rw [hg.hT]; exact hTn) (by omega) hz2
          have hml : ((L.drop lo.toNat).map cellsOf).length = (L.map cellsOf).length - lo.toNat := by simp
          have hDz : RelD g.S g.w (.lst .frozen (Enc.k α) (Enc.b α) ((L.drop lo.toNat).map cellsOf)) z := by
            have hev : evSlice P ty (some (.int .i64 lo)) none none (.lst .frozen (Enc.k α) (Enc.b α) (L.map cellsOf)) = some (.lst .frozen (Enc.k α) (Enc.b α) ((L.drop lo.toNat).map cellsOf)) := by
              simp only [evSlice, hel, bnd, if_pos hc.1]
              rw [if_pos ⟨trivial, by omega, Nat.le_refl _, Nat.le_refl _, .inl trivial⟩]
              simp [List.take_of_length_le, List.map_drop]
            obtain ⟨z', y1, y2⟩ := run_evSlice (g := g) (ρl := some (.int .i64 lo)) (ρh := none) (ρm := none) hev (show Rel g (.lst .frozen _ _ _) (a.eval x) from hD) rfl (show Rel g (.int .i64 lo) (.int .i64 lo) by rw [relInt]) trivial trivial
            rw [hz1] at y1
            simp only [Result.ok.injEq] at y1
            obtain ⟨rfl, _⟩ := y1
            exact y2
          have hrun2 : (execOp a.eval o).run P g.w = .ok (.value z) g.w := by
            simp [execOp, hop, hlv, hz1]
          unfold Oper.wp
          rw [hrun2, ← i3]
          refine hK z g' ?_ i2 ?_
          · rw [hml]; exact i1
          · show Rel1 g' (.lst (.own tk) (Enc.k α) (Enc.b α) ((L.drop lo.toNat).map cellsOf)) z
            simp only [Rel1]
            refine ⟨hDz.mono (fun B o q => by rw [i4]; exact q) (fun B o _ => by rw [i3]) (fun B _ => by rw [i3]), _, i6, Nat.le_of_eq hml, fun _ => i5.symm⟩
        · cases h
      · cases h
    · cases h
  · cases hM
end
/-- Two tokens change names. -/
def swpT (t d i : Nat) : Nat := if i = t then d else if i = d then t else i
theorem swpT_swpT (t d i : Nat) : swpT t d (swpT t d i) = i := by
  unfold swpT
  by_cases h1 : i = t
  · subst h1
    by_cases h2 : d = i
    · simp [h2]
    · simp [h2]
  · by_cases h2 : i = d
    · subst h2; simp [h1]
    · simp [h1, h2]
theorem wkr_swap {s : PSt} (t d : Nat) (J : JS) (n : Nat) (htd : (decide (t < 1000000000) && decide (d < 1000000000)) = true) (hok : J.ok = true) (h : J.seen (renS id (swpT t d) s) = J.told n) : Wkr s (J.st n) :=
  Wkr.trans (s2 := renS id (swpT t d) s) (fun Gl S0 w0 a w hi => by
    simp only [Bool.and_eq_true, decide_eq_true_eq] at htd
    obtain ⟨g, rfl, hg⟩ := hi
    exact ⟨renG id (swpT t d) g, rfl, hg.ren (fun _ => rfl) (swpT_swpT t d) (fun _ _ => rfl) (fun i hi => by
      unfold swpT
      rw [if_neg (by omega), if_neg (by omega)])⟩) (.of hok h)
end PM
/-
  THE PURE MACHINE, Qm: a body that defers one call of a closure, which is walked in place at each return.
-/
namespace PM
open Go Go.RowKit

/-- How deep a recursive function may call itself. -/
def recFuel : Nat := 4194304
section
variable {P : Program} {Gl : Nat → Option (List PV)} {s : PSt}
/-- Behind the deferred closure: what the caller returns. -/
def dPostQ (P : Program) (Gl : Nat → Option (List PV)) (rs : List ResultVar) (r : PV) : Exit → PSt → Prop
  | .normal, s | .ret, s => finalQ P Gl rs r { s with tm := s.tm.drop (s.tm.length - s.m), m := 1 }
  | _, _ => False
/-- The body is at its end, the closure is called. -/
def dEndS (P : Program) (Gl : Nat → Option (List PV)) (rs : List ResultVar) (r : PV) (s : PSt) : Prop :=
  ∃ f caps fn c, s.tm.getLast? = some (.fn f caps) ∧ s.m = 1 ∧ caps.all capOK = true ∧ P.funcs[f]? = some fn ∧ (fn.name == "runtime.NumGoroutine") = false ∧ fn.body = some c ∧ fn.results.toList = [] ∧ pwp P Gl c (dPostQ P Gl rs r) (inlSt fn.ntmps caps s)
def dEndQ (P : Program) (Gl : Nat → Option (List PV)) (rs : List ResultVar) (r : PV) : Exit → PSt → Prop
  | .normal, s | .ret, s => dEndS P Gl rs r s
  | _, _ => False
/-- Code of a body that may defer a closure: Q of the ends without, QD of those with it. -/
def pwpD (P : Program) (Gl : Nat → Option (List PV)) (c : Code) (Q QD : Exit → PSt → Prop) (s : PSt) : Prop :=
  ∀ (S0 : Bs) (w0 : World) (a : Act) (w : World), S0.D = [] → S0.St = [] → Inv Gl S0 w0 s a w →
    c.wp P (fun e a' w' => (∃ s', Q e s' ∧ Inv Gl S0 w0 s' a' w') ∨ ∃ s' fv cap, QD e s' ∧ Inv Gl { S0 with D := [{ target := .fn fv cap, args := #[] }], St := [.func fv #[] cap] } w0 s' a' w') a w
def seqDQ (P : Program) (Gl : Nat → Option (List PV)) (y : Code) (Q QD : Exit → PSt → Prop) : Exit → PSt → Prop
  | .normal, s => pwpD P Gl y Q QD s
  | e, s => Q e s
variable {Q QD : Exit → PSt → Prop} {x y : Code}
theorem pwpD_of (h : pwp P Gl x Q s) : pwpD P Gl x Q QD s := fun S0 w0 a w _ _ hi => wp_mono (fun _ _ _ q => .inl q) (h S0 w0 a w hi)
theorem pwpD_seq (h : pwp P Gl x (seqDQ P Gl y Q QD) s) : pwpD P Gl (.seq x y) Q QD s := fun S0 w0 a w h1 h2 hi =>
  wp_seq (wp_mono (fun e _ _ ⟨s', q, i⟩ => by
    cases e <;> simp only [Exit.then]
    case normal => exact q S0 w0 _ _ h1 h2 i
    all_goals exact .inl ⟨s', q, i⟩) (h S0 w0 a w hi))
theorem qd_next (h : pwpD P Gl y Q QD s) : seqDQ P Gl y Q QD .normal s := h
theorem qd_ret (h : Q .ret s) : seqDQ P Gl y Q QD .ret s := h
/-- The deferred closure. -/
def deferHd (o : Oper) (s : PSt) : Option (FuncId × List PV) :=
  match o.guard, o.dst, o.op with
  | none, none, .defer c => match c.callee, c.args.toList with
    | .value x, [] => match s.ev x with
      | .fn f caps => some (f, caps)
      | _ => none
    | _, _ => none
  | _, _, _ => none
def layD (f : FuncId) (caps : List PV) (s : PSt) : PSt := { s with tm := s.tm ++ [.fn f caps], m := 1 }
theorem list_pops {S0 : Bs} {w0 : World} {ops : Array Oper} {Q' : Exit → Act → World → Prop} {l2 : List Oper} : ∀ (l1 : List Oper) {s : PSt}, pops P Gl false (l1.map fun o => (o, gdOf ops o)) s (Up fun s' => ∀ a w, Inv Gl S0 w0 s' a w → wpList P ops Q' l2 a w) → ∀ a w, Inv Gl S0 w0 s a w → wpList P ops Q' (l1 ++ l2) a w
  | [], s, h => fun a w hi => let ⟨s2, h1, h2⟩ := h; h2 a w (hi.fade h1)
  | o :: l, s, hp => fun a w hi => by
    obtain ⟨g, rfl, h⟩ := hi
    simp only [List.cons_append]
    unfold wpList
    simp only [List.map_cons, pops] at hp
    rcases wanted_gd h hp with ⟨h1, h2⟩ | ⟨h1, h2⟩
    · rw [if_pos h1]
      exact .inl (stepOp_sound h h2 fun s' a' w' hs' hi' => list_pops l hs' a' w' hi')
    · rw [if_neg (by rw [h1]; simp)]
      exact list_pops l h2 _ _ ⟨g, rfl, h.put _ (Rel.und _)⟩
/-- A region that ends with a defer, and what is behind it. -/
theorem pwpD_defer {id : Nat} {ops : Array Oper} (k : Nat) (f : FuncId) (caps : List PV) (hk : ops.toList.length = k + 1) 
    (h : pops P Gl false ((withGd ops).take k) s (Up fun s1 => ((ops.toList.drop k).head?.bind fun o => deferHd o s1) = some (f, caps) ∧ (ops.toList.drop k).all (fun o => o.guard.isNone && o.dst.isNone) = true ∧ s1.m = 0 ∧ pwp P Gl y QD (layD f caps s1))) : pwpD P Gl (.seq (.region id ops false) y) Q QD s := fun S0 w0 a w hD hSt hi => by
  refine wp_seq (wp_region_list ?_)
  have e : ops.toList = ops.toList.take k ++ ops.toList.drop k := (List.take_append_drop _ _).symm
  rw [e]
  have h' : pops P Gl false ((ops.toList.take k).map fun o => (o, gdOf ops o)) s (Up fun s1 => ((ops.toList.drop k).head?.bind fun o => deferHd o s1) = some (f, caps) ∧ (ops.toList.drop k).all (fun o => o.guard.isNone && o.dst.isNone) = true ∧ s1.m = 0 ∧ pwp P Gl y QD (layD f caps s1)) := by
    simpa [withGd, List.map_take] using h
  refine list_pops (S0 := S0) (w0 := w0) (ops.toList.take k) (pops_mono ?_ _ _ h') a w hi
  rintro s0 ⟨s1, hf, h1, h2, h3, h4⟩
  refine ⟨s1, hf, fun a w hi => ?_⟩
  obtain ⟨o, ho, hdf⟩ := Option.bind_eq_some_iff.1 h1
  have hl : ops.toList.drop k = [o] := by
    have hlen : (ops.toList.drop k).length = 1 := by rw [List.length_drop]; omega
    obtain ⟨o', ho'⟩ := List.length_eq_one_iff.1 hlen
    rw [ho'] at ho ⊢
    simpa using ho
  rw [hl]
  unfold deferHd at hdf
  split at hdf
  · rename_i c hg hd hop
    split at hdf
    · rename_i x hcal hargs
      split at hdf
      · rename_i f' caps' hev
        simp only [Option.some.injEq, Prod.mk.injEq] at hdf
        obtain ⟨rfl, rfl⟩ := hdf
        obtain ⟨g, rfl, hI⟩ := hi
        have hx := hI.ev x
        rw [hev] at hx
        have hx0 := hx
        simp only [Rel, RelA, Rel1] at hx
        obtain ⟨arr, hfv, hcaps⟩ := hx
        have hca : c.args = #[] := by
          cases hc : c.args with | mk l => rw [hc] at hargs; simpa using hargs
        have hrun : (execOp a.eval o).run P g.w = .ok (.defer { target := .fn (.func f') arr, args := #[] }) g.w := by
          simp [execOp, hop, resolve, hcal, hfv, Deferred.ofValue, hca]
        unfold wpList
        have hw : Region.wanted o (yielded ops a.tmps) = true := by unfold Region.wanted; rw [hg]
        rw [if_pos hw]
        left
        unfold Oper.wp
        rw [hrun, Oper.upon_defer, hd]
        unfold wpList
        simp only [Exit.then]
        have hlen := hI.len
        have hinit : Inv Gl { S0 with D := [{ target := .fn (.func f') arr, args := #[] }], St := [.func (.func f') #[] arr] } w0 (layD f' caps' s1) ({ a with defers := { target := .fn (.func f') arr, args := #[] } :: a.defers }.put none undef) g.w := by
          refine ⟨g, rfl, { hI with defers := ?_, len := ⟨?_, rfl⟩, tm := fun i p v hp hv => ?_ }⟩
          · show { target := Target.fn (.func f') arr, args := #[] } :: a.defers = _
            rw [hI.defers, hD]
          · show (s1.tm ++ [PV.fn f' caps']).length = a.tmps.size + 1
            rw [List.length_append]
            have := hlen.1
            simp only [List.length_singleton]; omega
          · have hp : (s1.tm ++ [PV.fn f' caps'])[i]? = some p := hp
            have hv : (a.tmps.toList ++ [Value.func (.func f') #[] arr])[i]? = some v := hv
            have hl1 : s1.tm.length = a.tmps.toList.length := by rw [Array.length_toList]; omega
            rw [List.getElem?_append] at hp hv
            rw [← hl1] at hv
            by_cases hi : i < s1.tm.length
            · rw [if_pos hi] at hp hv
              exact hI.tm i p v hp (by rw [List.getElem?_append_left (by omega)]; exact hv)
            · rw [if_neg hi] at hp hv
              cases hi2 : i - s1.tm.length with
              | zero =>
                rw [hi2] at hp hv
                cases hp; cases hv
                rw [← hfv]; exact hx0
              | succ m => rw [hi2] at hp; cases hp
        exact wp_mono (fun e a' w' ⟨s', q, i⟩ => .inr ⟨s', _, _, q, i⟩) (h4 _ w0 _ _ hinit)
      · cases hdf
    · cases hdf
  · cases hdf
theorem fin_pure {S : Cells} {w : World} {St : List Value} {D : List Deferred} {s' : PSt} {a' : Act} {g : GG} {fn : Func} {r : PV} (hg : InvG Gl ⟨S, fun _ _ => False, fun _ _ _ => False, St, D⟩ w s' a' g) (h : finalQ P Gl fn.results.toList r s') :
    ∃ v, (results fn a'.tmps).run P g.w = .ok v g.w ∧ ∃ v_1 g', Ending.returned v = .returned v_1 ∧ g'.w = g.w ∧ After S w r v_1 g' := by
  obtain ⟨ps, pv, h1, h2, h3, h4⟩ := h
  obtain ⟨us, r1, r2⟩ := run_resPV hg _ _ h1
  have hcut : Cut g (fun _ => none) (tokT r) := ⟨fun t x hx => by
    have := h4 _ (mem_of_lookup hx)
    rw [hg.hT]; exact this, fun l cs _ e => (by cases e)⟩
  refine ⟨_, ?_, _, { g with H := fun _ => none, T := tokT r }, rfl, rfl, ⟨hg.below.toBelow (fun _ e => e.elim (fun q => q.elim fun _ q => q) fun q => by obtain ⟨_, _, _, q, _⟩ := q; exact q), hg.sub, fun B o hB => (hg.new B o hB).imp id fun e => ⟨e.resolve_right (fun e => e.elim (fun q => q.elim fun _ q => q) fun q => by obtain ⟨_, _, _, q, _⟩ := q; exact q), hg.lt B o hB⟩, fun _ => rfl, fun t n k => ⟨fun e => mem_of_lookup e, fun e => lookup_of_mem (fun y hy hyt => ?_) e⟩, (onePV_spec h2 r2).weak hcut h3, fun t n k e => hg.owns t n k (hcut.T t _ e), fun t t' B hs hs' => ?_⟩⟩
  · rw [results_eq, Array.mapM_eq_mapM_toList]
    simp only [Sem.run_bind, Sem.run_map, r1, Result.andThen_ok, Sem.run_pure]
  · have e1 := h4 y hy
    have e2 := h4 _ e
    rw [hyt] at e1
    rw [e1] at e2
    simpa using e2
  · obtain ⟨n, k, off, cap, e1, e2, e3⟩ := hs
    obtain ⟨n', k', off', cap', e1', e2', e3'⟩ := hs'
    exact hg.ownsEx t t' B ⟨n, k, off, cap, hcut.T t _ e1, e2, e3⟩ ⟨n', k', off', cap', hcut.T t' _ e1', e2', e3'⟩
theorem pcall_of_pwpD {f : FuncId} {fn : Func} {c : Code} {args : List PV} {r : PV} {n : Nat} {rs : List ResultVar} (hf : P.funcs[f]? = some fn) (hname : (fn.name == "runtime.NumGoroutine") = false) (hb : fn.body = some c)
    (hn : fn.ntmps = n) (hrs : fn.results.toList = rs) (hflat : args.all flatArg = true) (h : pwpD P Gl c (bodyQ P Gl rs r) (dEndQ P Gl rs r) (st0 args n)) : PCall P Gl f args r := by
  refine ⟨⟨fn, hf, hname, by rw [hb]; rfl⟩, fun S w vs hS hglob hargs => ?_⟩
  subst hn; subst hrs
  refine calls_of_wp_defers hf hb ?_
  have hsz : args.length = vs.size := by rw [hargs.1]; simp
  have hinit : Inv Gl ⟨S, fun _ _ => False, fun _ _ _ => False, [], []⟩ w (st0 args fn.ntmps) { tmps := vs ++ Array.replicate (fn.ntmps - vs.size) undef, defers := [] } w := by
    refine ⟨⟨S, w, fun _ => 0, fun _ => undef, fun _ => none, fun _ => none⟩, rfl, { hH := rfl, hT := rfl, defers := rfl, len := by simp [st0, hsz], tm := fun i p v hp hv => ?_, sub := fun _ _ h => h, new := fun _ _ h => .inl h, lt := hS, below := BelowE.refl _ _, objs := (fun l ob e => by cases e), inj := (fun l l' e => by cases e), owns := (fun t n k e => by cases e), ownsEx := (fun t t' B hs => by obtain ⟨_, _, _, _, e, _⟩ := hs; cases e), ownsObj := (fun t B l hs => by obtain ⟨_, _, _, _, e, _⟩ := hs; cases e), glob := hglob, exs := (fun t k b xss e => by cases e), exsEx := (fun t t' B hs => by have := hs.1; cases this), fix := fun _ _ e => e.elim, fixT := fun _ _ _ e => e.elim }⟩
    simp only [st0] at hp
    simp only [List.append_nil, Array.getElem?_toList] at hv
    rw [List.getElem?_append] at hp
    by_cases hi : i < args.length
    · rw [if_pos hi] at hp
      rw [Array.getElem?_append_left (by omega)] at hv
      exact Rel.ofData (g := ⟨S, w, _, _, _, _⟩) (hargs.2 i p v hp (by simpa using hv)) (List.all_eq_true.1 hflat p (List.mem_of_getElem? hp))
    · rw [if_neg hi, List.getElem?_replicate] at hp
      split at hp
      · cases hp; trivial
      · cases hp
  refine wp_mono (fun e a' w' hq => ?_) (h ⟨S, fun _ _ => False, fun _ _ _ => False, [], []⟩ w _ w rfl rfl hinit)
  rcases hq with ⟨s', hq, g, rfl, hg⟩ | ⟨s', fv, cap, hq, g, rfl, hg⟩
  · have fin : finalQ P Gl fn.results.toList r s' → Leaves P fn a'.tmps (fun e w' => ∃ v g', e = .returned v ∧ g'.w = w' ∧ After S w r v g') a'.defers .returning g.w := fun q => by
      rw [hg.defers]
      exact fin_pure hg q
    cases e with
    | normal => exact fin hq
    | ret => exact fin hq
    | exit id => exact hq.elim
    | goto l => exact hq.elim
    | panic ch => exact hq.elim
    | outgrown => exact hq.elim
  · have fin : dEndS P Gl fn.results.toList r s' → Leaves P fn a'.tmps (fun e w' => ∃ v g', e = .returned v ∧ g'.w = w' ∧ After S w r v g') a'.defers .returning g.w := fun q => by
      obtain ⟨f2, caps, fn2, c2, k1, k2, k3, k4, k5, k6, k7, k8⟩ := q
      rw [hg.defers]
      have hl := hg.len
      have hl1 : s'.tm.length = a'.tmps.size + 1 := by rw [hl.1, k2]
      have hlast : s'.tm[a'.tmps.size]? = some (.fn f2 caps) := by
        rw [List.getLast?_eq_getElem?] at k1
        rwa [hl1, Nat.add_sub_cancel] at k1
      have hfr := hg.tm a'.tmps.size _ (.func fv #[] cap) hlast (by
        show (a'.tmps.toList ++ [Value.func fv #[] cap])[a'.tmps.size]? = _
        rw [List.getElem?_append_right (by simp)]; simp)
      simp only [Rel, RelA, Rel1] at hfr
      obtain ⟨arr, hfv, hcaps⟩ := hfr
      cases hfv
      have hne : fn2.name ≠ "runtime.NumGoroutine" := by simpa using k5
      have hbody : fn2.body ≠ none := fun e => by rw [e] at k6; cases k6
      refine leaves_cons (f := f2) (args := cap) (by simp) (by simp [invoke, callFunc, run_program, k4, hne, hbody]) ?_
      have hall : All2 (Rel g) caps cap.toList := ⟨hcaps.1, fun i p v hp hv => by
        have hpv := hcaps.2 i p v hp hv
        have h2 := List.all_eq_true.1 k3 p (List.mem_of_getElem? hp)
        cases p <;> simp only [capOK] at h2 <;> try cases h2
        all_goals exact hpv⟩
      refine CallsD.mono (callsD_of_wp (R := fun e w' => ∃ v, e = .returned v ∧ Leaves P fn a'.tmps (fun e w' => ∃ v g', e = .returned v ∧ g'.w = w' ∧ After S w r v g') [] .returning w') k4 k6 ?_) ?_
      · have hsz2 : caps.length = cap.size := by rw [hall.1]; simp
        have hinit2 : Inv Gl ⟨S, fun _ _ => False, fun _ _ _ => False, a'.tmps.toList ++ [Value.func (.func f2) #[] cap], []⟩ w (inlSt fn2.ntmps caps s') { tmps := cap ++ Array.replicate (fn2.ntmps - cap.size) undef, defers := [] } g.w := by
          refine ⟨g, rfl, { hg with defers := rfl, len := ⟨?_, ?_⟩, tm := fun i p v hp hv => ?_ }⟩
          · simp only [inlSt, List.length_append, List.length_replicate, Array.size_append, Array.size_replicate, hsz2]
          · show (a'.tmps.toList ++ [Value.func (.func f2) #[] cap]).length = s'.tm.length
            rw [List.length_append, Array.length_toList]; simp only [List.length_singleton]; omega
          · simp only [inlSt] at hp
            have hl2 : (caps ++ List.replicate (fn2.ntmps - caps.length) PV.any).length = (cap ++ Array.replicate (fn2.ntmps - cap.size) undef).toList.length := by
              simp [hsz2]
            rw [List.getElem?_append] at hp
            have hv : ((cap ++ Array.replicate (fn2.ntmps - cap.size) undef).toList ++ (a'.tmps.toList ++ [Value.func (.func f2) #[] cap]))[i]? = some v := hv
            rw [List.getElem?_append, ← hl2] at hv
            by_cases hi : i < (caps ++ List.replicate (fn2.ntmps - caps.length) PV.any).length
            · rw [if_pos hi] at hp hv
              rw [List.getElem?_append] at hp
              by_cases hi2 : i < caps.length
              · rw [if_pos hi2] at hp
                rw [Array.toList_append, List.getElem?_append_left (by rw [← hall.1]; exact hi2)] at hv
                exact hall.2 i p v hp hv
              · rw [if_neg hi2, List.getElem?_replicate] at hp
                split at hp
                · cases hp; trivial
                · cases hp
            · rw [if_neg hi] at hp hv
              exact hg.tm _ p v hp hv
        refine wp_mono (fun e3 a3 w3 hq3 => ?_) (k8 _ w _ g.w hinit2)
        obtain ⟨s3, hq3, g3, rfl, hg3⟩ := hq3
        have fin3 : finalQ P Gl fn.results.toList r { s3 with tm := s3.tm.drop (s3.tm.length - s3.m), m := 1 } → a3.defers = [] ∧ ∃ v, (results fn2 a3.tmps).run P g3.w = .ok v g3.w ∧ ∃ v2, Ending.returned v = .returned v2 ∧ Leaves P fn a'.tmps (fun e w' => ∃ v g', e = .returned v ∧ g'.w = w' ∧ After S w r v g') [] .returning g3.w := fun q => by
          have hl3 := hg3.len
          have hm3 : s3.m = a'.tmps.size + 1 := by
            have e : (a'.tmps.toList ++ [Value.func (.func f2) #[] cap]).length = s3.m := hl3.2
            rw [List.length_append, Array.length_toList] at e
            simp only [List.length_singleton] at e; omega
          have hbase : InvG Gl ⟨S, fun _ _ => False, fun _ _ _ => False, [Value.func (.func f2) #[] cap], []⟩ w { s3 with tm := s3.tm.drop (s3.tm.length - s3.m), m := 1 } { tmps := a'.tmps, defers := [] } g3 := by
            refine { hg3 with defers := rfl, len := ⟨?_, rfl⟩, tm := fun i p v hp hv => ?_ }
            · show (s3.tm.drop (s3.tm.length - s3.m)).length = a'.tmps.size + 1
              rw [List.length_drop]; omega
            · have hp : (s3.tm.drop (s3.tm.length - s3.m))[i]? = some p := hp
              rw [List.getElem?_drop] at hp
              refine hg3.tm _ p v hp ?_
              show (a3.tmps.toList ++ (a'.tmps.toList ++ [Value.func (.func f2) #[] cap]))[_]? = some v
              have e : s3.tm.length - s3.m = a3.tmps.toList.length := by rw [Array.length_toList]; omega
              rw [e, List.getElem?_append_right (by omega), Nat.add_sub_cancel_left]
              exact hv
          refine ⟨hg3.defers, .tuple #[], ?_, _, rfl, fin_pure (a' := { tmps := a'.tmps, defers := [] }) hbase q⟩
          rw [results_eq, Array.mapM_eq_mapM_toList, k7]
          simp
        cases e3 with
        | normal => exact fin3 hq3
        | ret => exact fin3 hq3
        | exit id => exact hq3.elim
        | goto l => exact hq3.elim
        | panic ch => exact hq3.elim
        | outgrown => exact hq3.elim
      · rintro e3 u3 w3 ⟨rfl, v3, rfl, hL⟩
        exact hL
    cases e with
    | normal => exact fin hq
    | ret => exact fin hq
    | exit id => exact hq.elim
    | goto l => exact hq.elim
    | panic ch => exact hq.elim
    | outgrown => exact hq.elim
/-- A return: the deferred closure's body. -/
theorem q_dend {f n : Nat} {caps : List PV} {fn : Func} {c : Code} {rs : List ResultVar} {r : PV} (h : (s.tm.getLast?, s.m, caps.all capOK) = (some (.fn f caps), 1, true)) (hf : P.funcs[f]? = some fn) (hname : (fn.name == "runtime.NumGoroutine") = false) (hb : fn.body = some c)
    (hn : fn.ntmps = n) (hres : fn.results.toList = []) (h2 : pwp P Gl c (dPostQ P Gl rs r) (inlSt n caps s)) : dEndQ P Gl rs r .ret s := by
  subst hn
  simp only [Prod.mk.injEq] at h
  exact ⟨f, caps, fn, c, h.1, h.2.1, h.2.2, hf, hname, hb, hres, h2⟩
def outD (s : PSt) : PSt := { s with tm := s.tm.drop (s.tm.length - s.m), m := 1 }
theorem q_dfin {rs : List ResultVar} {r : PV} (h : (finRes P Gl rs (outD s)).map (fun v => (noTups v, coerceV r v)) = some (true, r)) (hl : liveV (fun _ => none) (tokT r) r = true)
    (ht : (toksV r).map (fun x => s.T x.1) = (toksV r).map fun x => some x.2) : dPostQ P Gl rs r .normal s := r_fin (s := outD s) h hl ht
theorem q_dfinr {rs : List ResultVar} {r : PV} (h : (finRes P Gl rs (outD s)).map (fun v => (noTups v, coerceV r v)) = some (true, r)) (hl : liveV (fun _ => none) (tokT r) r = true)
    (ht : (toksV r).map (fun x => s.T x.1) = (toksV r).map fun x => some x.2) : dPostQ P Gl rs r .ret s := r_fin (s := outD s) h hl ht
/-- A region, behind which tokens change names. -/
theorem r_reg_w {id : Nat} {ops : Array Oper} (h : pops P Gl false (withGd ops) s (Up fun s1 => ∃ s2, Wkr s1 s2 ∧ Q .normal s2)) : pwp P Gl (.region id ops false) Q s := fun S0 w0 a w hi =>
  wp_region_list (pops_sound (S0 := S0) (w0 := w0) (fun _ _ _ q i => let ⟨_, h1, s3, h2, h3⟩ := q; ⟨s3, h3, h2 Gl S0 w0 _ _ (i.fade h1)⟩) ops.toList s a w hi h)
end
end PM
/-
  THE PURE MACHINE, Qn: functions that may panic (PCallP), regions that end so.
-/
namespace PM
open Go Go.RowKit

/-- A panic with a value, which nobody has recovered yet. -/
def PanOK (ch : List PanicEntry) : Prop := ∃ t v, ch = [{ v := .iface t v, recovered := false }]
/-- A CONTRACT with panics: none: the function panics. -/
def PCallP (P : Program) (Gl : Nat → Option (List PV)) (f : FuncId) (args : List PV) (o : Option PV) : Prop :=
  FnOK P f ∧ ∀ (S : Cells) (w : World) (vs : Array Value), (∀ B o, S B o → B < w.heap.size) → (∀ i cs, Gl i = some cs → RelCells S w cs i 0) → All2 (RelD S w) args vs.toList →
    Calls P f vs w fun e w' => (∃ r v g', o = some r ∧ e = .returned v ∧ g'.w = w' ∧ After S w r v g') ∨ (∃ ch g', o = none ∧ e = .panicked ch ∧ PanOK ch ∧ g'.w = w' ∧ After S w (.tup []) (.tuple #[]) g')
theorem PCall.toP {P : Program} {Gl : Nat → Option (List PV)} {f : FuncId} {args : List PV} {r : PV} (h : PCall P Gl f args r) : PCallP P Gl f args (some r) :=
  ⟨h.1, fun S w vs h1 h2 h3 => (h.2 S w vs h1 h2 h3).mono fun _ _ ⟨v, g', e1, e2, e3⟩ => .inl ⟨r, v, g', rfl, e1, e2, e3⟩⟩
/-- A call that may panic: z is what the panic leads to. -/
def panB {α β : Type} (D : Option (Option α)) (z : Option β) (f : α → Option β) : Option β := D.bind fun o => match o with
  | none => z
  | some r => f r
theorem o_pan {α β : Type} {D : Option (Option α)} {z : Option β} {f : α → Option β} {b : β} (h : panB D z f = some b) : (D = some none ∧ z = some b) ∨ ∃ r, D = some (some r) ∧ f r = some b := by
  unfold panB at h
  obtain ⟨o, h1, h2⟩ := Option.bind_eq_some_iff.1 h
  cases o with
  | none => exact .inl ⟨h1, h2⟩
  | some r => exact .inr ⟨r, h1, h2⟩
section
variable {P : Program} {Gl : Nat → Option (List PV)} {s : PSt}
def bodyQP (P : Program) (Gl : Nat → Option (List PV)) (rs : List ResultVar) (o : Option PV) : Exit → PSt → Prop
  | .normal, s | .ret, s => ∃ r, o = some r ∧ finalQ P Gl rs r s
  | .panic ch, _ => o = none ∧ PanOK ch
  | _, _ => False
theorem after_pan {S : Cells} {w : World} {St : List Value} {D : List Deferred} {s' : PSt} {a' : Act} {g : GG} (hg : InvG Gl ⟨S, fun _ _ => False, fun _ _ _ => False, St, D⟩ w s' a' g) :
    After S w (.tup []) (.tuple #[]) { g with H := fun _ => none, T := fun _ => none } :=
  ⟨hg.below.toBelow (fun _ e => e.elim (fun q => q.elim fun _ q => q) fun q => by obtain ⟨_, _, _, q, _⟩ := q; exact q), hg.sub,
    fun B o hB => (hg.new B o hB).imp id fun e => ⟨e.resolve_right (fun e => e.elim (fun q => q.elim fun _ q => q) fun q => by obtain ⟨_, _, _, q, _⟩ := q; exact q), hg.lt B o hB⟩,
    fun _ => rfl, fun t n k => ⟨(fun e => by cases e), (fun e => by simp [toksV] at e)⟩, by simp [Rel, All2], (fun t n k e => by cases e), (fun t t' B hs => by obtain ⟨_, _, _, _, e, _⟩ := hs; cases e)⟩
theorem inv_start {S : Cells} {w : World} {vs : Array Value} {args : List PV} {n : Nat} (hS : ∀ B o, S B o → B < w.heap.size) (hglob : ∀ i cs, Gl i = some cs → RelCells S w cs i 0) (hargs : All2 (RelD S w) args vs.toList) (hflat : args.all flatArg = true) :
    Inv Gl ⟨S, fun _ _ => False, fun _ _ _ => False, [], []⟩ w (st0 args n) { tmps := vs ++ Array.replicate (n - vs.size) undef, defers := [] } w := by
  have hsz : args.length = vs.size := by rw [hargs.1]; simp
  refine ⟨⟨S, w, fun _ => 0, fun _ => undef, fun _ => none, fun _ => none⟩, rfl, { hH := rfl, hT := rfl, defers := rfl, len := by simp [st0, hsz], tm := fun i p v hp hv => ?_, sub := fun _ _ h => h, new := fun _ _ h => .inl h, lt := hS, below := BelowE.refl _ _, objs := (fun l ob e => by cases e), inj := (fun l l' e => by cases e), owns := (fun t n k e => by cases e), ownsEx := (fun t t' B hs => by obtain ⟨_, _, _, _, e, _⟩ := hs; cases e), ownsObj := (fun t B l hs => by obtain ⟨_, _, _, _, e, _⟩ := hs; cases e), glob := hglob, exs := (fun t k b xss e => by cases e), exsEx := (fun t t' B hs => by have := hs.1; cases this), fix := fun _ _ e => e.elim, fixT := fun _ _ _ e => e.elim }⟩
  simp only [st0] at hp
  simp only [List.append_nil, Array.getElem?_toList] at hv
  rw [List.getElem?_append] at hp
  by_cases hi : i < args.length
  · rw [if_pos hi] at hp
    rw [Array.getElem?_append_left (by omega)] at hv
    exact Rel.ofData (g := ⟨S, w, _, _, _, _⟩) (hargs.2 i p v hp (by simpa using hv)) (List.all_eq_true.1 hflat p (List.mem_of_getElem? hp))
  · rw [if_neg hi, List.getElem?_replicate] at hp
    split at hp
    · cases hp; trivial
    · cases hp
theorem pcallp_of_pwp {f : FuncId} {fn : Func} {c : Code} {args : List PV} {o : Option PV} {n : Nat} {rs : List ResultVar} (hf : P.funcs[f]? = some fn) (hname : (fn.name == "runtime.NumGoroutine") = false) (hb : fn.body = some c)
    (hn : fn.ntmps = n) (hrs : fn.results.toList = rs) (hflat : args.all flatArg = true) (h : pwp P Gl c (bodyQP P Gl rs o) (st0 args n)) : PCallP P Gl f args o := by
  refine ⟨⟨fn, hf, hname, by rw [hb]; rfl⟩, fun S w vs hS hglob hargs => ?_⟩
  subst hn; subst hrs
  refine calls_of_wp hf hb ?_
  refine wp_mono (fun e a' w' hq => ?_) (h ⟨S, fun _ _ => False, fun _ _ _ => False, [], []⟩ w _ w (inv_start hS hglob hargs hflat))
  obtain ⟨s', hq, g, rfl, hg⟩ := hq
  have fin : (∃ r, o = some r ∧ finalQ P Gl fn.results.toList r s') → a'.defers = [] ∧ ∃ v, (results fn a'.tmps).run P g.w = .ok v g.w ∧ ((∃ r v' g', o = some r ∧ Ending.returned v = .returned v' ∧ g'.w = g.w ∧ After S w r v' g') ∨ (∃ ch g', o = none ∧ Ending.returned v = .panicked ch ∧ PanOK ch ∧ g'.w = g.w ∧ After S w (.tup []) (.tuple #[]) g')) := by
    rintro ⟨r, ho, hr⟩
    obtain ⟨v, q1, v', g', q2, q3, q4⟩ := fin_pure (fn := fn) hg hr
    exact ⟨hg.defers, v, q1, .inl ⟨r, v', g', ho, q2, q3, q4⟩⟩
  cases e with
  | normal => exact fin hq
  | ret => exact fin hq
  | exit id => exact hq.elim
  | goto l => exact hq.elim
  | panic ch => exact ⟨hg.defers, .inr ⟨ch, { g with H := fun _ => none, T := fun _ => none }, hq.1, rfl, hq.2, rfl, after_pan hg⟩⟩
  | outgrown => exact hq.elim
/-! ### Results and ways out -/
theorem qp_ret {rs : List ResultVar} {r : PV} (h : bodyQ P Gl rs r .ret s) : bodyQP P Gl rs (some r) .ret s := ⟨r, rfl, h⟩
theorem qp_end {rs : List ResultVar} {r : PV} (h : bodyQ P Gl rs r .normal s) : bodyQP P Gl rs (some r) .normal s := ⟨r, rfl, h⟩
theorem qp_pan {rs : List ResultVar} {ch : List PanicEntry} (h : PanOK ch) : bodyQP P Gl rs none (.panic ch) s := ⟨rfl, h⟩
theorem qd_pan {y : Code} {Q QD : Exit → PSt → Prop} {ch : List PanicEntry} (h : Q (.panic ch) s) : seqDQ P Gl y Q QD (.panic ch) s := h
theorem q_seq_pan {y : Code} {Q : Exit → PSt → Prop} {ch : List PanicEntry} (h : Q (.panic ch) s) : seqQ P Gl y Q (.panic ch) s := h
theorem q_block_pan {id : Nat} {Q : Exit → PSt → Prop} {ch : List PanicEntry} (h : Q (.panic ch) s) : blockQ id Q (.panic ch) s := h
theorem q_jout_pan {α β : Type} {J : α → JS} {b : β} {n : Nat} {Q : Exit → PSt → Prop} {ch : List PanicEntry} (h : Q (.panic ch) s) : joinPost J n Q (.inr b) (.panic ch) s := ⟨by simp, h⟩
theorem q_lout_pan {α β σ : Type} {J : σ → JS} {J0 : α → JS} {n id : Nat} {Q : Exit → PSt → Prop} {b : β} {r : α ⊕ β} {ch : List PanicEntry} (h : .inr b = r → Q (.panic ch) s) : loopPost2 J J0 n id Q r (.inr (.inr b)) (.panic ch) s := fun e => ⟨by simp, h e⟩
/-! ### Regions with several ways out -/
def wlE (P : Program) (Gl : Nat → Option (List PV)) (ops : Array Oper) (L : List Oper) (s : PSt) (Q : Exit → PSt → Prop) : Prop :=
  ∀ (S0 : Bs) (w0 : World) (a : Act) (w : World) (Q' : Exit → Act → World → Prop), (∀ e s' a' w', Q e s' → Inv Gl S0 w0 s' a' w' → Q' e a' w') → Inv Gl S0 w0 s a w → wpList P ops Q' L a w
variable {ops : Array Oper} {Q : Exit → PSt → Prop}
theorem wlE_end (h : Q .normal s) : wlE P Gl ops [] s Q := fun S0 w0 a w Q' hQ hi => hQ _ s a w h hi
theorem wlE_pops : ∀ (l1 : List Oper) {l2 : List Oper} {s : PSt}, pops P Gl false (l1.map fun o => (o, gdOf ops o)) s (Up fun s' => wlE P Gl ops l2 s' Q) → wlE P Gl ops (l1 ++ l2) s Q
  | [], l2, s, h => fun S0 w0 a w Q' hQ hi => let ⟨s2, h1, h2⟩ := h; h2 S0 w0 a w Q' hQ (hi.fade h1)
  | o :: l, l2, s, hp => fun S0 w0 a w Q' hQ hi => by
    obtain ⟨g, rfl, h⟩ := hi
    simp only [List.cons_append]
    unfold wpList
    simp only [List.map_cons, pops] at hp
    rcases wanted_gd h hp with ⟨h1, h2⟩ | ⟨h1, h2⟩
    · rw [if_pos h1]
      exact .inl (stepOp_sound h h2 fun s' a' w' hs' hi' => wlE_pops l hs' S0 w0 a' w' Q' hQ hi')
    · rw [if_neg (by rw [h1]; simp)]
      exact wlE_pops l h2 S0 w0 _ _ Q' hQ ⟨g, rfl, h.put _ (Rel.und _)⟩
theorem wlE_run (k n : Nat) (h : pops P Gl false (((withGd ops).drop k).take n) s (Up fun s' => wlE P Gl ops (ops.toList.drop (k + n)) s' Q)) : wlE P Gl ops (ops.toList.drop k) s Q := by
  have e : ops.toList.drop k = (ops.toList.drop k).take n ++ ops.toList.drop (k + n) := by
    rw [← List.drop_drop, List.take_append_drop]
  rw [e]
  refine wlE_pops _ ?_
  simpa [withGd, List.map_drop, List.map_take] using h
theorem r_regE {id : Nat} (h : wlE P Gl ops (ops.toList.drop 0) s Q) : pwp P Gl (.region id ops false) Q s := fun S0 w0 a w hi =>
  wp_region_list (h S0 w0 a w _ (fun _ s' _ _ q i => ⟨s', q, i⟩) hi)
/-- The call at the head, its arguments as data. -/
def callHdE (L : List Oper) (s : PSt) : Option (FuncId × List PV) := (inlHd L s).bind fun x => (datumAs x.2).map fun d => (x.1, d)
theorem p_callE {f : FuncId} {as : List PV} {o : Option PV} {L : List Oper} (hc : PCallP P Gl f as o) (h : (callHdE L s).map (fun x => (x.1, dcoAL as x.2)) = some (f, as))
    (h1 : ∀ r, o = some r → toksFree ((dstO L).getD 0) s.T (toksV r) ∧ wlE P Gl ops (L.drop 1) ((addToks ((dstO L).getD 0) s (toksV r)).put (dstO L) (retokV ((dstO L).getD 0) r)) Q)
    (h2 : o = none → ∀ ch, PanOK ch → Q (.panic ch) s) : wlE P Gl ops L s Q := by
  cases L with
  | nil => cases h
  | cons p r =>
    obtain ⟨⟨f', as'⟩, hh, heq⟩ := Option.map_eq_some_iff.1 h
    simp only [Prod.mk.injEq] at heq
    obtain ⟨rfl, heq⟩ := heq
    obtain ⟨⟨f'', AS⟩, hh1, hh2⟩ := Option.bind_eq_some_iff.1 hh
    obtain ⟨d, hd, hd2⟩ := Option.map_eq_some_iff.1 hh2
    simp only [Prod.mk.injEq] at hd2
    obtain ⟨rfl, rfl⟩ := hd2
    simp only [inlHd] at hh1
    split at hh1
    · rename_i x args hg hco
      split at hh1
      · rename_i f' caps e1
        split at hh1
        rotate_left
        · cases hh1
        rename_i hcap
        simp only [Option.some.injEq, Prod.mk.injEq] at hh1
        obtain ⟨rfl, rfl⟩ := hh1
        obtain ⟨cl, hop, hcal, hargs⟩ := callOf_spec hco
        intro S0 w0 a w Q' hQ hi
        obtain ⟨g, rfl, hI⟩ := hi
        have hx := hI.ev x
        rw [e1] at hx
        simp only [Rel, RelA, Rel1] at hx
        obtain ⟨arr, hfv, hcaps⟩ := hx
        have hall : All2 (Rel g) (args.map s.ev ++ caps) ((cl.args.map a.eval ++ arr).toList) := by
          rw [Array.toList_append, Array.toList_map, hargs]
          refine All2.append ⟨by simp, fun i p v hp hv => ?_⟩ ⟨hcaps.1, fun i p v hp hv => ?_⟩
          · rw [List.getElem?_map] at hp hv
            cases hi : args[i]? with
            | none => rw [hi] at hp; cases hp
            | some y => rw [hi] at hp hv; cases hp; cases hv; exact hI.ev y
          · have hpv := hcaps.2 i p v hp hv
            have h2 := List.all_eq_true.1 hcap p (List.mem_of_getElem? hp)
            cases p <;> simp only [capOK] at h2 <;> try cases h2
            all_goals exact hpv
        obtain ⟨⟨fn, hf, hname, hb⟩, hcall⟩ := hc
        have hrun : (execOp a.eval p).run P g.w = .ok (.enter f' (cl.args.map a.eval ++ arr)) g.w := by
          have hne : fn.name ≠ "runtime.NumGoroutine" := by simpa using hname
          have hbody : fn.body ≠ none := fun e => by rw [e] at hb; cases hb
          simp [execOp, hop, resolve, hcal, hfv, Deferred.ofValue, invoke, callFunc, run_program, hf, hne, hbody]
        have hD0 := datumAs_spec hall hd
        have hD : All2 (RelD g.S g.w) as (cl.args.map a.eval ++ arr).toList := by have := dcoAL_rel (ps := as) hD0; rw [heq] at this; exact this
        unfold wpList
        have hw : Region.wanted p (yielded ops a.tmps) = true := by unfold Region.wanted; rw [hg]
        rw [if_pos hw]
        left
        unfold Oper.wp
        rw [hrun]
        refine (hcall g.S g.w _ hI.lt hI.glob hD).mono fun e w' he => ?_
        rcases he with ⟨r', v, g', ho, rfl, rfl, ha⟩ | ⟨ch, g', ho, rfl, hpan, rfl, ha⟩
        · obtain ⟨k1, k2⟩ := h1 r' ho
          obtain ⟨g2, q1, q2, q3⟩ := hI.after ha (p.dst.getD 0) k1
          exact k2 S0 w0 _ _ Q' hQ ⟨g2, q2, q1.put _ q3⟩
        · obtain ⟨g2, q1, q2, -⟩ := hI.after ha 0 (by simp [toksV, toksFree])
          simp only [toksV, List.flatMap_nil, addToks] at q1
          exact hQ _ _ _ _ (h2 ho ch hpan) ⟨g2, q2, q1⟩
      · cases hh1
    · cases hh1
theorem p_callS {f : FuncId} {as : List PV} {r : PV} {L : List Oper} (hc : PCallP P Gl f as (some r)) (h : (callHdE L s).map (fun x => (x.1, dcoAL as x.2)) = some (f, as)) (ht : tokB false ((dstO L).getD 0) s.T (toksV r) = true)
    (h1 : wlE P Gl ops (L.drop 1) ((addToks ((dstO L).getD 0) s (toksV r)).put (dstO L) (retokV ((dstO L).getD 0) r)) Q) : wlE P Gl ops L s Q :=
  p_callE hc h (fun r' e => by cases e; exact ⟨(tokB_free ht).1, h1⟩) (fun e => by cases e)
theorem p_callN {f : FuncId} {as : List PV} {L : List Oper} (hc : PCallP P Gl f as none) (h : (callHdE L s).map (fun x => (x.1, dcoAL as x.2)) = some (f, as)) (h2 : ∀ ch, PanOK ch → Q (.panic ch) s) : wlE P Gl ops L s Q :=
  p_callE hc h (fun r' e => by cases e) (fun _ => h2)
/-- A value is boxed and thrown. -/
def noIface : Option TypeDesc → Bool
  | some (.interface _) => false
  | some _ => true
  | none => false
def panHd (P : Program) : List Oper → PSt → Option Nat
  | [o1, o2], s => match o1.guard, o1.dst, o1.op, o2.guard, o2.op with
    | none, some d, .makeInterface t _, none, .panic (.tmp d') => if (d' == d && decide (d + s.m < s.tm.length) && noIface (P.underlying t)) = true then some d else none
    | _, _, _, _, _ => none
  | _, _ => none
theorem p_pan2 {L : List Oper} {d : Nat} (h : panHd P L s = some d) (hQ : ∀ ch, PanOK ch → Q (.panic ch) (s.put (some d) .any)) : wlE P Gl ops L s Q := by
  unfold panHd at h
  split at h
  · rename_i o1 o2
    split at h
    · rename_i d0 t x d' hg1 hd1 hop1 hg2 hop2
      split at h
      · rename_i hc
        cases h
        simp only [Bool.and_eq_true, beq_iff_eq, decide_eq_true_eq] at hc
        obtain ⟨⟨rfl, hlt⟩, hif⟩ := hc
        intro S0 w0 a w Q' hQ' hi
        obtain ⟨g, rfl, hI⟩ := hi
        have hlen := hI.len.1
        have hda : d' < a.tmps.size := by rw [hlen] at hlt; exact Nat.lt_of_add_lt_add_right hlt
        have hw1 : Region.wanted o1 (yielded ops a.tmps) = true := by unfold Region.wanted; rw [hg1]
        have hrun1 : (execOp a.eval o1).run P g.w = .ok (.value (.iface t (a.eval x))) g.w := by
          cases hu : P.underlying t with
          | none => rw [hu] at hif; cases hif
          | some D =>
            rw [hu] at hif
            cases D <;> first | (cases hif; done) | simp [execOp, hop1, Instr.makeInterface, run_underlying hu]
        unfold wpList
        rw [if_pos hw1]
        left
        unfold Oper.wp
        rw [hrun1, Oper.upon_value, hd1]
        unfold wpList
        have hw2 : ∀ y, Region.wanted o2 y = true := fun y => by unfold Region.wanted; rw [hg2]
        rw [if_pos (hw2 _)]
        left
        unfold Oper.wp
        have hev : (a.put (some d') (.iface t (a.eval x))).eval (.tmp d') = .iface t (a.eval x) := by simp [Act.put, Act.eval, hda]
        have hrun2 : (execOp (a.put (some d') (.iface t (a.eval x))).eval o2).run P g.w = .halt (.panic (.iface t (a.eval x))) g.w := by
          simp only [execOp, hop2, hev]
          rfl
        rw [hrun2]
        exact hQ' _ _ _ _ (hQ _ ⟨t, a.eval x, rfl⟩) ⟨g, rfl, hI.put _ (by trivial)⟩
      · cases h
    · cases h
  · cases h
end
end PM
/-
  THE PURE MACHINE, Qo: a deferred closure that recovers.
-/
namespace PM
open Go Go.RowKit

section
variable {P : Program} {Gl : Nat → Option (List PV)} {s : PSt}
theorem wpS_mono {c : Code} {Q Q' : Exit → Act → List Frame → World → Prop} {a : Act} {cs : List Frame} {w : World} (h : c.wpS P Q a cs w) (hm : ∀ e a cs w, Q e a cs w → Q' e a cs w) : c.wpS P Q' a cs w :=
  fun b k hb hr => let ⟨e, a', cs', w', q, r⟩ := h b k hb hr; ⟨e, a', cs', w', hm _ _ _ _ q, r⟩
/-- Code of a deferred closure; pan: it runs since there was a panic. -/
def pwpR (P : Program) (Gl : Nat → Option (List PV)) (pan : Bool) (c : Code) (Q : Exit → PSt → Prop) (s : PSt) : Prop :=
  ∀ (S0 : Bs) (w0 : World) (a : Act) (w : World) (c0 : Frame) (cs : List Frame), Inv Gl S0 w0 s a w → (pan = true → ∃ ch, PanOK ch ∧ c0.mode = .panicking ch) → (pan = false → c0.mode = .returning) →
    c.wpS P (fun e a' cs' w' => (∃ s', Q e s' ∧ Inv Gl S0 w0 s' a' w') ∧ ∃ u', cs' = { c0 with mode := u' } :: cs ∧ Go.settle u' = .returning) a (c0 :: cs) w
theorem pwpR_wkr {pan : Bool} {c : Code} {Q : Exit → PSt → Prop} {s' : PSt} (hw : Wkr s s') (h : pwpR P Gl pan c Q s') : pwpR P Gl pan c Q s := fun S0 w0 a w c0 cs hi => h S0 w0 a w c0 cs (hw Gl S0 w0 a w hi)
/-- What recover hands on, and the question whether it is nil. -/
structure RecOps (P : Program) (o0 o1 : Oper) (d0 d1 : Nat) : Prop where
  g0 : o0.guard = none
  g1 : o1.guard = none
  e0 : o0.dst = some d0
  e1 : o1.dst = some d1
  r0 : ∀ (ρ : Operand → Value) (w : World), (execOp ρ o0).run P w = .ok .recover w
  r1 : ∀ (ρ : Operand → Value) (w : World) (t : TypeId) (v : Value), ρ (.tmp d0) = .iface t v → (execOp ρ o1).run P w = .ok (.value (.bool true)) w
  r2 : ∀ (ρ : Operand → Value) (w : World), ρ (.tmp d0) = .nilIface → (execOp ρ o1).run P w = .ok (.value (.bool false)) w
theorem put_eval {a : Act} {d : Nat} {v : Value} (h : d < a.tmps.size) : (a.put (some d) v).eval (.tmp d) = v := by
  simp [Act.put, Act.eval, h]
theorem r_recover {pan : Bool} {id d0 d1 : Nat} {o0 o1 : Oper} {y : Code} {Q : Exit → PSt → Prop} (ho : RecOps P o0 o1 d0 d1) (hd : d0 + s.m < s.tm.length) (h : pwp P Gl y Q ((s.put (some d0) .any).put (some d1) (.bool pan))) :
    pwpR P Gl pan (.seq (.region id #[o0, o1] false) y) Q s := by
  intro S0 w0 a w c0 cs hi hp hn
  apply wpS_seq
  apply wpS_region
  obtain ⟨g, rfl, hI⟩ := hi
  have hlen := hI.len.1
  have hda : d0 < a.tmps.size := by omega
  have hw0 : ∀ y, Region.wanted o0 y = true := fun y => by unfold Region.wanted; rw [ho.g0]
  have hw1 : ∀ y, Region.wanted o1 y = true := fun y => by unfold Region.wanted; rw [ho.g1]
  have e2 : List.range (#[o0, o1] : Array Oper).size = [0, 1] := rfl
  rw [e2]
  have fin : ∀ (v : Value) (b : Bool) (cs1 : List Frame), (execOp (a.put (some d0) v).eval o1).run P g.w = .ok (.value (.bool b)) g.w → b = pan → (∃ u', cs1 = { c0 with mode := u' } :: cs ∧ Go.settle u' = .returning) →
      wpOpsS P #[o0, o1] (Exit.thenS (y.wpS P fun e a' cs' w' => (∃ s', Q e s' ∧ Inv Gl S0 w0 s' a' w') ∧ ∃ u', cs' = { c0 with mode := u' } :: cs ∧ Go.settle u' = .returning) fun e a' cs' w' => (∃ s', Q e s' ∧ Inv Gl S0 w0 s' a' w') ∧ ∃ u', cs' = { c0 with mode := u' } :: cs ∧ Go.settle u' = .returning) [1] (a.put (some d0) v) cs1 g.w := by
    intro v b cs1 hr hb hcs
    subst hb
    have hx : (#[o0, o1] : Array Oper)[1]? = some o1 := rfl
    unfold wpOpsS
    rw [hx]
    simp only [hw1, if_true, hr, Oper.upon_value, ho.e1]
    unfold wpOpsS
    simp only [Exit.thenS]
    refine wpS_of_wp ?_
    have h2 := h S0 w0 ((a.put (some d0) v).put (some d1) (.bool b)) g.w ⟨g, rfl, (hI.put (some d0) (p := .any) (by trivial)).put (some d1) (by rw [relBool])⟩
    exact wp_mono (fun e a' w' hq => ⟨hq, hcs⟩) h2
  unfold wpOpsS
  have hx : (#[o0, o1] : Array Oper)[0]? = some o0 := rfl
  rw [hx]
  simp only [hw0, if_true, ho.r0]
  cases pan with
  | true =>
    obtain ⟨ch, ⟨t, v, rfl⟩, hm⟩ := hp rfl
    simp only [recoverD, hm, ho.e0]
    exact fin _ true _ (ho.r1 _ _ t v (put_eval hda)) rfl ⟨_, rfl, by simp [Go.settle]⟩
  | false =>
    have hm := hn rfl
    simp only [recoverD, hm, ho.e0]
    exact fin _ false _ (ho.r2 _ _ (put_eval hda)) rfl ⟨.returning, by rw [← hm], rfl⟩
/-! ### Bodies -/
def dEndSR (P : Program) (Gl : Nat → Option (List PV)) (rs : List ResultVar) (r : PV) (pan : Bool) (s : PSt) : Prop :=
  ∃ f caps fn c, s.tm.getLast? = some (.fn f caps) ∧ s.m = 1 ∧ caps.all capOK = true ∧ P.funcs[f]? = some fn ∧ (fn.name == "runtime.NumGoroutine") = false ∧ fn.body = some c ∧ fn.results.toList = [] ∧ pwpR P Gl pan c (dPostQ P Gl rs r) (inlSt fn.ntmps caps s)
def dEndQR (P : Program) (Gl : Nat → Option (List PV)) (rs : List ResultVar) (r : PV) : Exit → PSt → Prop
  | .normal, s | .ret, s => dEndSR P Gl rs r false s
  | .panic ch, s => PanOK ch ∧ dEndSR P Gl rs r true s
  | _, _ => False
theorem pcall_of_pwpR {f : FuncId} {fn : Func} {c : Code} {args : List PV} {r : PV} {n : Nat} {rs : List ResultVar} (hf : P.funcs[f]? = some fn) (hname : (fn.name == "runtime.NumGoroutine") = false) (hb : fn.body = some c)
    (hn : fn.ntmps = n) (hrs : fn.results.toList = rs) (hflat : args.all flatArg = true) (h : pwpD P Gl c (bodyQ P Gl rs r) (dEndQR P Gl rs r) (st0 args n)) : PCall P Gl f args r := by
  refine ⟨⟨fn, hf, hname, by rw [hb]; rfl⟩, fun S w vs hS hglob hargs => ?_⟩
  subst hn; subst hrs
  refine calls_of_wp_defers hf hb ?_
  refine wp_mono (fun e a' w' hq => ?_) (h ⟨S, fun _ _ => False, fun _ _ _ => False, [], []⟩ w _ w rfl rfl (inv_start hS hglob hargs hflat))
  rcases hq with ⟨s', hq, g, rfl, hg⟩ | ⟨s', fv, cap, hq, g, rfl, hg⟩
  · have fin : finalQ P Gl fn.results.toList r s' → Leaves P fn a'.tmps (fun e w' => ∃ v g', e = .returned v ∧ g'.w = w' ∧ After S w r v g') a'.defers .returning g.w := fun q => by
      rw [hg.defers]
      exact fin_pure hg q
    cases e with
    | normal => exact fin hq
    | ret => exact fin hq
    | exit id => exact hq.elim
    | goto l => exact hq.elim
    | panic ch => exact hq.elim
    | outgrown => exact hq.elim
  · have fin : ∀ (pan : Bool) (u : FrameMode), u ≠ .run → (pan = true → ∃ ch, PanOK ch ∧ u = .panicking ch) → (pan = false → u = .returning) → dEndSR P Gl fn.results.toList r pan s' → Leaves P fn a'.tmps (fun e w' => ∃ v g', e = .returned v ∧ g'.w = w' ∧ After S w r v g') a'.defers u g.w := fun pan u hu hp hnp q => by
      obtain ⟨f2, caps, fn2, c2, k1, k2, k3, k4, k5, k6, k7, k8⟩ := q
      rw [hg.defers]
      have hl := hg.len
      have hl1 : s'.tm.length = a'.tmps.size + 1 := by rw [hl.1, k2]
      have hlast : s'.tm[a'.tmps.size]? = some (.fn f2 caps) := by
        rw [List.getLast?_eq_getElem?] at k1
        rwa [hl1, Nat.add_sub_cancel] at k1
      have hfr := hg.tm a'.tmps.size _ (.func fv #[] cap) hlast (by
        show (a'.tmps.toList ++ [Value.func fv #[] cap])[a'.tmps.size]? = _
        rw [List.getElem?_append_right (by simp)]; simp)
      simp only [Rel, RelA, Rel1] at hfr
      obtain ⟨arr, hfv, hcaps⟩ := hfr
      cases hfv
      have hne : fn2.name ≠ "runtime.NumGoroutine" := by simpa using k5
      have hbody : fn2.body ≠ none := fun e => by rw [e] at k6; cases k6
      refine leaves_cons (f := f2) (args := cap) hu (by simp [invoke, callFunc, run_program, k4, hne, hbody]) ?_
      have hall : All2 (Rel g) caps cap.toList := ⟨hcaps.1, fun i p v hp hv => by
        have hpv := hcaps.2 i p v hp hv
        have h2 := List.all_eq_true.1 k3 p (List.mem_of_getElem? hp)
        cases p <;> simp only [capOK] at h2 <;> try cases h2
        all_goals exact hpv⟩
      refine CallsD.mono (callsD_of_wpS (R := fun e u' w' => ∃ v, e = .returned v ∧ Go.settle u' = .returning ∧ Leaves P fn a'.tmps (fun e w' => ∃ v g', e = .returned v ∧ g'.w = w' ∧ After S w r v g') [] .returning w') k4 k6 fun c₀ cs hu => ?_) ?_
      · have hsz2 : caps.length = cap.size := by rw [hall.1]; simp
        have hinit2 : Inv Gl ⟨S, fun _ _ => False, fun _ _ _ => False, a'.tmps.toList ++ [Value.func (.func f2) #[] cap], []⟩ w (inlSt fn2.ntmps caps s') { tmps := cap ++ Array.replicate (fn2.ntmps - cap.size) undef, defers := [] } g.w := by
          refine ⟨g, rfl, { hg with defers := rfl, len := ⟨?_, ?_⟩, tm := fun i p v hp hv => ?_ }⟩
          · simp only [inlSt, List.length_append, List.length_replicate, Array.size_append, Array.size_replicate, hsz2]
          · show (a'.tmps.toList ++ [Value.func (.func f2) #[] cap]).length = s'.tm.length
            rw [List.length_append, Array.length_toList]; simp only [List.length_singleton]; omega
          · simp only [inlSt] at hp
            have hl2 : (caps ++ List.replicate (fn2.ntmps - caps.length) PV.any).length = (cap ++ Array.replicate (fn2.ntmps - cap.size) undef).toList.length := by
              simp [hsz2]
            rw [List.getElem?_append] at hp
            have hv : ((cap ++ Array.replicate (fn2.ntmps - cap.size) undef).toList ++ (a'.tmps.toList ++ [Value.func (.func f2) #[] cap]))[i]? = some v := hv
            rw [List.getElem?_append, ← hl2] at hv
            by_cases hi : i < (caps ++ List.replicate (fn2.ntmps - caps.length) PV.any).length
            · rw [if_pos hi] at hp hv
              rw [List.getElem?_append] at hp
              by_cases hi2 : i < caps.length
              · rw [if_pos hi2] at hp
                rw [Array.toList_append, List.getElem?_append_left (by rw [← hall.1]; exact hi2)] at hv
                exact hall.2 i p v hp hv
              · rw [if_neg hi2, List.getElem?_replicate] at hp
                split at hp
                · cases hp; trivial
                · cases hp
            · rw [if_neg hi] at hp hv
              exact hg.tm _ p v hp hv
        refine wpS_mono (k8 _ w _ g.w c₀ cs hinit2 (fun e => by rw [hu]; exact hp e) (fun e => by rw [hu]; exact hnp e)) ?_
        rintro e3 a3 cs3 w3 ⟨⟨s3, hq3, g3, rfl, hg3⟩, u3, rfl, hset⟩
        have fin3 : finalQ P Gl fn.results.toList r { s3 with tm := s3.tm.drop (s3.tm.length - s3.m), m := 1 } → a3.defers = [] ∧ ∃ u', ({ c₀ with mode := u3 } : Frame) :: cs = { c₀ with mode := u' } :: cs ∧ ∃ v, (results fn2 a3.tmps).run P g3.w = .ok v g3.w ∧ ∃ v2, Ending.returned v = .returned v2 ∧ Go.settle u' = .returning ∧ Leaves P fn a'.tmps (fun e w' => ∃ v g', e = .returned v ∧ g'.w = w' ∧ After S w r v g') [] .returning g3.w := fun q => by
          have hl3 := hg3.len
          have hm3 : s3.m = a'.tmps.size + 1 := by
            have e : (a'.tmps.toList ++ [Value.func (.func f2) #[] cap]).length = s3.m := hl3.2
            rw [List.length_append, Array.length_toList] at e
            simp only [List.length_singleton] at e; omega
          have hbase : InvG Gl ⟨S, fun _ _ => False, fun _ _ _ => False, [Value.func (.func f2) #[] cap], []⟩ w { s3 with tm := s3.tm.drop (s3.tm.length - s3.m), m := 1 } { tmps := a'.tmps, defers := [] } g3 := by
            refine { hg3 with defers := rfl, len := ⟨?_, rfl⟩, tm := fun i p v hp hv => ?_ }
            · show (s3.tm.drop (s3.tm.length - s3.m)).length = a'.tmps.size + 1
              rw [List.length_drop]; omega
            · have hp : (s3.tm.drop (s3.tm.length - s3.m))[i]? = some p := hp
              rw [List.getElem?_drop] at hp
              refine hg3.tm _ p v hp ?_
              show (a3.tmps.toList ++ (a'.tmps.toList ++ [Value.func (.func f2) #[] cap]))[_]? = some v
              have e : s3.tm.length - s3.m = a3.tmps.toList.length := by rw [Array.length_toList]; omega
              rw [e, List.getElem?_append_right (by omega), Nat.add_sub_cancel_left]
              exact hv
          refine ⟨hg3.defers, u3, rfl, .tuple #[], ?_, _, rfl, hset, fin_pure (a' := { tmps := a'.tmps, defers := [] }) hbase q⟩
          rw [results_eq, Array.mapM_eq_mapM_toList, k7]
          simp
        cases e3 with
        | normal => exact fin3 hq3
        | ret => exact fin3 hq3
        | exit id => exact hq3.elim
        | goto l => exact hq3.elim
        | panic ch => exact hq3.elim
        | outgrown => exact hq3.elim
      · rintro e3 u3 w3 ⟨v3, rfl, hset, hL⟩
        show Leaves _ _ _ _ [] (Go.settle u3) w3
        rw [hset]; exact hL
    cases e with
    | normal => exact fin false .returning (by simp) (fun e => by cases e) (fun _ => rfl) hq
    | ret => exact fin false .returning (by simp) (fun e => by cases e) (fun _ => rfl) hq
    | exit id => exact hq.elim
    | goto l => exact hq.elim
    | panic ch => exact fin true (.panicking ch) (by simp) (fun _ => ⟨ch, hq.1, rfl⟩) (fun e => by cases e) hq.2
    | outgrown => exact hq.elim
/-- The body's ways out: the closure's body. -/
theorem q_dendR {f n : Nat} {caps : List PV} {fn : Func} {c : Code} {rs : List ResultVar} {r : PV} {pan : Bool} (h : (s.tm.getLast?, s.m, caps.all capOK) = (some (.fn f caps), 1, true)) (hf : P.funcs[f]? = some fn) (hname : (fn.name == "runtime.NumGoroutine") = false) (hb : fn.body = some c)
    (hn : fn.ntmps = n) (hres : fn.results.toList = []) (h2 : pwpR P Gl pan c (dPostQ P Gl rs r) (inlSt n caps s)) : dEndSR P Gl rs r pan s := by
  subst hn
  simp only [Prod.mk.injEq] at h
  exact ⟨f, caps, fn, c, h.1, h.2.1, h.2.2, hf, hname, hb, hres, h2⟩
theorem qr_ret {rs : List ResultVar} {r : PV} (h : dEndSR P Gl rs r false s) : dEndQR P Gl rs r .ret s := h
theorem qr_end {rs : List ResultVar} {r : PV} (h : dEndSR P Gl rs r false s) : dEndQR P Gl rs r .normal s := h
theorem qr_pan {rs : List ResultVar} {r : PV} {ch : List PanicEntry} (hc : PanOK ch) (h : dEndSR P Gl rs r true s) : dEndQR P Gl rs r (.panic ch) s := ⟨hc, h⟩
end
end PM
