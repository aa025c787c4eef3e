import Derived.Test.YtoknlpdkocemfaaGreatDoorPmQ
import Derived.Defers
import Derived.Recover
/-
  THE PURE MACHINE, Qh: a call whose body is walked in place: the caller's slots are laid aside.
-/
namespace PM
open Go Go.RowKit

def wl (P : Program) (Gl : Nat → Option (List PV)) (ops : Array Oper) (L : List Oper) (s : PSt) (Q : PSt → Prop) : Prop :=
  ∀ (S0 : Bs) (w0 : World) (a : Act) (w : World) (Q' : Exit → Act → World → Prop), (∀ s' a' w', Q s' → Inv Gl S0 w0 s' a' w' → Q' .normal a' w') → Inv Gl S0 w0 s a w → wpList P ops Q' L a w
section
variable {P : Program} {Gl : Nat → Option (List PV)} {s : PSt} {ops : Array Oper} {Q : PSt → Prop}
theorem wl_end (h : Q s) : wl P Gl ops [] s Q := fun S0 w0 a w Q' hQ hi => hQ s a w h hi
theorem wl_pops : ∀ (l1 : List Oper) {l2 : List Oper} {s : PSt}, pops P Gl false (l1.map fun o => (o, gdOf ops o)) s (Up fun s' => wl P Gl ops l2 s' Q) → wl P Gl ops (l1 ++ l2) s Q
  | [], l2, s, h => fun S0 w0 a w Q' hQ hi => let ⟨s2, h1, h2⟩ := h; h2 S0 w0 a w Q' hQ (hi.fade h1)
  | o :: l, l2, s, hp => fun S0 w0 a w Q' hQ hi => by
    obtain ⟨g, rfl, h⟩ := hi
    simp only [List.cons_append]
    unfold wpList
    simp only [List.map_cons, pops] at hp
    rcases wanted_gd h hp with ⟨h1, h2⟩ | ⟨h1, h2⟩
    · rw [if_pos h1]
      exact .inl (stepOp_sound h h2 fun s' a' w' hs' hi' => wl_pops l hs' S0 w0 a' w' Q' hQ hi')
    · rw [if_neg (by rw [h1]; simp)]
      exact wl_pops l h2 S0 w0 _ _ Q' hQ ⟨g, rfl, h.put _ (Rel.und _)⟩
theorem wl_run (k n : Nat) (h : pops P Gl false (((withGd ops).drop k).take n) s (Up fun s' => wl P Gl ops (ops.toList.drop (k + n)) s' Q)) : wl P Gl ops (ops.toList.drop k) s Q := by
  have e : ops.toList.drop k = (ops.toList.drop k).take n ++ ops.toList.drop (k + n) := by
    rw [← List.drop_drop, List.take_append_drop]
  rw [e]
  refine wl_pops _ ?_
  simpa [withGd, List.map_drop, List.map_take] using h
theorem r_regi {Q : Exit → PSt → Prop} {id : Nat} (h : wl P Gl ops (ops.toList.drop 0) s (Q .normal)) : pwp P Gl (.region id ops false) Q s := fun S0 w0 a w hi =>
  wp_region_list (h S0 w0 a w _ (fun s' _ _ q i => ⟨s', q, i⟩) hi)
def inlSt (n : Nat) (as : List PV) (s : PSt) : PSt := { s with tm := (as ++ List.replicate (n - as.length) .any) ++ s.tm, m := s.tm.length }
def outSt (m0 : Nat) (dst : Option Nat) (r : PV) (s : PSt) : PSt := ({ s with tm := s.tm.drop (s.tm.length - s.m), m := m0 } : PSt).put dst r
def inlQ (P : Program) (Gl : Nat → Option (List PV)) (rs : List ResultVar) (m0 : Nat) (dst : Option Nat) (K : PSt → Prop) : Exit → PSt → Prop
  | .normal, s | .ret, s => ∃ vs r, resPV P Gl s rs = some vs ∧ onePV vs = some r ∧ K (outSt m0 dst r s)
  | _, _ => False
theorem q_inl {rs : List ResultVar} {m0 : Nat} {dst : Option Nat} {K : PSt → Prop} {r : PV} (h : (resPV P Gl s rs).bind onePV = some r) (h2 : K (outSt m0 dst r s)) : inlQ P Gl rs m0 dst K .ret s := by
  obtain ⟨vs, e1, e2⟩ := Option.bind_eq_some_iff.1 h
  exact ⟨vs, r, e1, e2, h2⟩
def inlPost (J : JS) (n : Nat) (e : Exit) (s : PSt) : Prop := (e = .normal ∨ e = .ret) ∧ Wkr s (J.st n)
theorem q_ij {J : JS} {n : Nat} (hok : J.ok = true) (h : J.seen s = J.told n) : inlPost J n .ret s := ⟨.inr rfl, .of hok h⟩
theorem r_joinI {c : Code} {rs : List ResultVar} {m0 : Nat} {dst : Option Nat} {K : PSt → Prop} {α : Type} (o : α) (n : Nat) (J : α → JS) (h1 : pwp P Gl c (inlPost (J o) n) s) (h2 : inlQ P Gl rs m0 dst K .ret ((J o).st n)) : pwp P Gl c (inlQ P Gl rs m0 dst K) s := fun S0 w0 a w hi =>
  wp_mono (fun e a' w' ⟨s', ⟨he, hw⟩, hi'⟩ => by
    have hi2 := hw Gl S0 w0 a' w' hi'
    rcases he with rfl | rfl
    · exact ⟨_, h2, hi2⟩
    · exact ⟨_, h2, hi2⟩) (h1 S0 w0 a w hi)
def inlHd : List Oper → PSt → Option (FuncId × List PV)
  | o :: _, s => match o.guard, callOf o.op with
    | none, some (x, args) => match s.ev x with
      | .fn f caps => if caps.all capOK = true then some (f, args.map s.ev ++ caps) else none
      | _ => none
    | _, _ => none
  | [], _ => none
def dstO : List Oper → Option Nat
  | o :: _ => o.dst
  | [] => none
theorem p_inl {f n : Nat} {fn : Func} {c : Code} {asx : List PV} {rs : List ResultVar} {L : List Oper} (h : inlHd L s = some (f, asx)) (hf : P.funcs[f]? = some fn) (hname : (fn.name == "runtime.NumGoroutine") = false) (hb : fn.body = some c) (hn : fn.ntmps = n) (hrs : fn.results.toList = rs)
    (h2 : pwp P Gl c (inlQ P Gl rs s.m (dstO L) fun s' => wl P Gl ops (L.drop 1) s' Q) (inlSt n asx s)) : wl P Gl ops L s Q := by
  subst hn; subst hrs
  cases L with
  | nil => cases h
  | cons o r =>
    simp only [inlHd] at h
    split at h
    · rename_i x args hg hco
      split at h
      · rename_i f' caps e1
        split at h
        rotate_left
        · cases h
        rename_i hcap
        simp only [Option.some.injEq, Prod.mk.injEq] at h
        obtain ⟨rfl, rfl⟩ := h
        obtain ⟨cl, hop, hcal, hargs⟩ := callOf_spec hco
        intro S0 w0 a w Q' hQ hi
        obtain ⟨g, rfl, hI⟩ := hi
        have hx := hI.ev x
        rw [e1] at hx
        simp only [Rel, RelA, Rel1] at hx
        obtain ⟨arr, hfv, hcaps⟩ := hx
        have hall : All2 (Rel g) (args.map s.ev ++ caps) ((cl.args.map a.eval ++ arr).toList) := by
          rw [Array.toList_append, Array.toList_map, hargs]
          refine All2.append ⟨by simp, fun i p v hp hv => ?_⟩ ⟨hcaps.1, fun i p v hp hv => ?_⟩
          · rw [List.getElem?_map] at hp hv
            cases hi : args[i]? with
            | none => rw [hi] at hp; cases hp
            | some y => rw [hi] at hp hv; cases hp; cases hv; exact hI.ev y
          · have hpv := hcaps.2 i p v hp hv
            have h2 := List.all_eq_true.1 hcap p (List.mem_of_getElem? hp)
            cases p <;> simp only [capOK] at h2 <;> try cases h2
            all_goals exact hpv
        have hrun : (execOp a.eval o).run P g.w = .ok (.enter f' (cl.args.map a.eval ++ arr)) g.w := by
          have hne : fn.name ≠ "runtime.NumGoroutine" := by simpa using hname
          have hbody : fn.body ≠ none := fun e => by rw [e] at hb; cases hb
          simp [execOp, hop, resolve, hcal, hfv, Deferred.ofValue, invoke, callFunc, run_program, hf, hne, hbody]
        generalize hVS : cl.args.map a.eval ++ arr = VS at hall hrun
        generalize hAS : args.map s.ev ++ caps = AS at hall h2
        unfold wpList
        have hw : Region.wanted o (yielded ops a.tmps) = true := by unfold Region.wanted; rw [hg]
        rw [if_pos hw]
        left
        unfold Oper.wp
        rw [hrun]
        refine calls_of_wp hf hb ?_
        have hlen := hI.len
        have hsz : AS.length = VS.size := by rw [hall.1]; simp
        let S1 : Bs := { S0 with St := a.tmps.toList ++ S0.St, D := [] }
        have hinit : Inv Gl S1 w0 (inlSt fn.ntmps AS s) { tmps := VS ++ Array.replicate (fn.ntmps - VS.size) undef, defers := [] } g.w := by
          refine ⟨g, rfl, { hI with defers := rfl, len := ⟨?_, ?_⟩, tm := fun i p v hp hv => ?_ }⟩
          · simp only [inlSt, List.length_append, List.length_replicate, Array.size_append, Array.size_replicate, hsz]
          · simp only [inlSt]
            show (a.tmps.toList ++ S0.St).length = _
            rw [List.length_append, Array.length_toList]; omega
          · simp only [inlSt] at hp
            have hl2 : (AS ++ List.replicate (fn.ntmps - AS.length) PV.any).length = (VS ++ Array.replicate (fn.ntmps - VS.size) undef).toList.length := by
              simp [hsz]
            rw [List.getElem?_append] at hp
            have hv : ((VS ++ Array.replicate (fn.ntmps - VS.size) undef).toList ++ (a.tmps.toList ++ S0.St))[i]? = some v := hv
            rw [List.getElem?_append, ← hl2] at hv
            by_cases hi : i < (AS ++ List.replicate (fn.ntmps - AS.length) PV.any).length
            · rw [if_pos hi] at hp hv
              rw [List.getElem?_append] at hp
              by_cases hi2 : i < AS.length
              · rw [if_pos hi2] at hp
                rw [Array.toList_append, List.getElem?_append_left (by rw [← hall.1]; exact hi2)] at hv
                exact hall.2 i p v hp hv
              · rw [if_neg hi2, List.getElem?_replicate] at hp
                split at hp
                · cases hp; trivial
                · cases hp
            · rw [if_neg hi] at hp hv
              exact hI.tm _ p v hp hv
        refine wp_mono (fun e a' w' hq => ?_) (h2 S1 w0 _ g.w hinit)
        obtain ⟨s', hq, g', rfl, hg'⟩ := hq
        have fin : (∃ vs r', resPV P Gl s' fn.results.toList = some vs ∧ onePV vs = some r' ∧ wl P Gl ops r (outSt s.m o.dst r' s') Q) → a'.defers = [] ∧ ∃ v, (results fn a'.tmps).run P g'.w = .ok v g'.w ∧ wpList P ops Q' r (a.put o.dst v) g'.w := by
          rintro ⟨vs, r', k1, k2, k3⟩
          refine ⟨hg'.defers, ?_⟩
          obtain ⟨us, r1, r2⟩ := run_resPV hg' _ _ k1
          refine ⟨if h : us.toArray.size = 1 then us.toArray[0] else .tuple us.toArray, ?_, k3 S0 w0 _ _ Q' hQ ⟨g', rfl, ?_⟩⟩
          · rw [results_eq, Array.mapM_eq_mapM_toList]
            simp only [Sem.run_bind, Sem.run_map, r1, Result.andThen_ok, Sem.run_pure]
          · have hl' := hg'.len
            have hm : s'.m = s.tm.length := by
              have := hl'.2
              have e : (a.tmps.toList ++ S0.St).length = s'.m := this
              rw [List.length_append, Array.length_toList] at e; omega
            have hbase : InvG Gl S0 w0 { s' with tm := s'.tm.drop (s'.tm.length - s'.m), m := s.m } a g' := by
              refine { hg' with defers := hI.defers, len := ⟨?_, hlen.2⟩, tm := fun i p v hp hv => ?_ }
              · show (s'.tm.drop (s'.tm.length - s'.m)).length = a.tmps.size + s.m
                rw [List.length_drop]; omega
              · have hp : (s'.tm.drop (s'.tm.length - s'.m))[i]? = some p := hp
                rw [List.getElem?_drop] at hp
                refine hg'.tm _ p v hp ?_
                show (a'.tmps.toList ++ (a.tmps.toList ++ S0.St))[_]? = some v
                have e : s'.tm.length - s'.m = a'.tmps.toList.length := by rw [Array.length_toList]; omega
                rw [e, List.getElem?_append_right (by omega), Nat.add_sub_cancel_left]
                exact hv
            exact hbase.put _ (onePV_spec k2 r2)
        cases e with
        | normal => exact fin hq
        | ret => exact fin hq
        | exit id => exact hq.elim
        | goto l => exact hq.elim
        | panic ch => exact hq.elim
        | outgrown => exact hq.elim
      · cases h
    · cases h
end
end PM
/-
  THE PURE MACHINE, Qi: labels and tokens get other names.
-/
namespace PM
open Go Go.RowKit

def ren0 (ρ : Nat → Nat) : PV → PV
  | .ref l o => .ref (ρ l) o
  | p => p
def ren1 (ρ τ : Nat → Nat) : PV → PV
  | .lst (.own t) k b xss => .lst (.own (τ t)) k b xss
  | .ref l o => .ref (ρ l) o
  | .mp l => .mp (ρ l)
  | .sl l o n k b => .sl (ρ l) o n k b
  | .fn f caps => .fn f (caps.map (ren0 ρ))
  | .ex t k b N o n => .ex (τ t) k b N o n
  | .eref t k N j o => .eref (τ t) k N j o
  | p => p
def renA (ρ τ : Nat → Nat) : PV → PV
  | .agg cs => .agg (cs.map (ren1 ρ τ))
  | p => ren1 ρ τ p
def renV (ρ τ : Nat → Nat) : PV → PV
  | .tup vs => .tup (vs.map (renA ρ τ))
  | p => renA ρ τ p
def renO (ρ τ : Nat → Nat) : PObj → PObj
  | .cells cs => .cells (cs.map (ren1 ρ τ))
  | .map es => .map es
  | .iter b p => .iter b p
  | .mapo es k b tk => .mapo es k b fun i => τ (tk i)
def renS (ρ τ : Nat → Nat) (s : PSt) : PSt := ⟨s.tm.map (renV ρ τ), fun l => (s.H (ρ l)).map (renO ρ τ), fun t => s.T (τ t), fun t => s.X (τ t), s.m⟩
def renG (ρ τ : Nat → Nat) (g : GG) : GG := ⟨g.S, g.w, fun l => g.φ (ρ l), fun t => g.hd (τ t), fun l => (g.H (ρ l)).map (renO ρ τ), fun t => g.T (τ t)⟩
section
variable {ρ τ : Nat → Nat} {g : GG} {p : PV} {v : Value}
theorem rel0_ren (hρ : ∀ l, ρ (ρ l) = l) (h : Rel0 g p v) : Rel0 (renG ρ τ g) (ren0 ρ p) v := by
  cases p
  case ref l o =>
    simp only [Rel0, ren0, renG, hρ, Option.isSome_map] at h ⊢
    exact h
  all_goals exact h
theorem rel1_ren (hρ : ∀ l, ρ (ρ l) = l) (hτ : ∀ l, τ (τ l) = l) (h : Rel1 g p v) : Rel1 (renG ρ τ g) (ren1 ρ τ p) v := by
  cases p
  case lst o k b xss =>
    cases o
    case own t =>
      simp only [Rel1, ren1, renG, hτ] at h ⊢
      exact h
    all_goals exact h
  case ref l o =>
    simp only [Rel1, ren1, renG, hρ, Option.isSome_map] at h ⊢
    exact h
  case mp l =>
    simp only [Rel1, ren1, renG, hρ, Option.isSome_map] at h ⊢
    exact h
  case sl l o n k b =>
    simp only [Rel1, ren1, renG, hρ] at h ⊢
    obtain ⟨h1, cs, h2, h3⟩ := h
    exact ⟨h1, cs.map (ren1 ρ τ), by rw [h2]; rfl, by simpa using h3⟩
  case fn f caps =>
    simp only [Rel1, ren1] at h ⊢
    obtain ⟨arr, h1, h2⟩ := h
    refine ⟨arr, h1, by simpa using h2.1, fun i p v hp hv => ?_⟩
    rw [List.getElem?_map] at hp
    obtain ⟨q, hq, rfl⟩ := Option.map_eq_some_iff.1 hp
    exact rel0_ren hρ (h2.2 i q v hq hv)
  case ex t k b N o n =>
    simp only [Rel1, ren1, renG, hτ] at h ⊢
    exact h
  case eref t k N j o =>
    simp only [Rel1, ren1, renG, hτ] at h ⊢
    exact h
  all_goals exact h
theorem oneCell_ren (hρ : ∀ l, ρ (ρ l) = l) (hτ : ∀ l, τ (τ l) = l) (h : RelC g p v) : RelC (renG ρ τ g) (ren1 ρ τ p) v := ⟨rel1_ren hρ hτ h.1, h.2⟩
theorem relA_ren (hρ : ∀ l, ρ (ρ l) = l) (hτ : ∀ l, τ (τ l) = l) (h : RelA g p v) : RelA (renG ρ τ g) (renA ρ τ p) v := by
  cases p
  case agg cs =>
    simp only [RelA, renA] at h ⊢
    obtain ⟨arr, h1, h2⟩ := h
    refine ⟨arr, h1, by simpa using h2.1, fun i p v hp hv => ?_⟩
    rw [List.getElem?_map] at hp
    obtain ⟨q, hq, rfl⟩ := Option.map_eq_some_iff.1 hp
    exact oneCell_ren hρ hτ (h2.2 i q v hq hv)
  case lst o k b xss =>
    simp only [RelA] at h
    exact (rel1_ren hρ hτ h).relA'
  all_goals
    simp only [RelA, renA] at h ⊢
    exact rel1_ren hρ hτ h
theorem rel_ren (hρ : ∀ l, ρ (ρ l) = l) (hτ : ∀ l, τ (τ l) = l) (h : Rel g p v) : Rel (renG ρ τ g) (renV ρ τ p) v := by
  cases p
  case tup cs =>
    simp only [Rel, renV] at h ⊢
    obtain ⟨arr, h1, h2⟩ := h
    refine ⟨arr, h1, by simpa using h2.1, fun i p v hp hv => ?_⟩
    rw [List.getElem?_map] at hp
    obtain ⟨q, hq, rfl⟩ := Option.map_eq_some_iff.1 hp
    exact relA_ren hρ hτ (h2.2 i q v hq hv)
  case lst o k b xss =>
    simp only [Rel] at h
    exact (relA_ren hρ hτ h).rel
  all_goals
    simp only [Rel, renV] at h ⊢
    exact relA_ren hρ hτ h
theorem objOK_ren (hρ : ∀ l, ρ (ρ l) = l) (hτ : ∀ l, τ (τ l) = l) {B : Nat} {ob : PObj} (h : ObjOK g B ob) : ObjOK (renG ρ τ g) B (renO ρ τ ob) := by
  cases ob with
  | cells cs =>
    obtain ⟨vs, h1, h2, h3⟩ := h
    refine ⟨vs, ⟨by simpa using h1.1, fun i p v hp hv => ?_⟩, h2, h3⟩
    rw [List.getElem?_map] at hp
    obtain ⟨q, hq, rfl⟩ := Option.map_eq_some_iff.1 hp
    exact oneCell_ren hρ hτ (h1.2 i q v hq hv)
  | map es => exact h
  | iter b p => exact h
  | mapo es k b tk =>
    obtain ⟨h0, arr, clock, h1, h2, h3⟩ := h
    exact ⟨h0, arr, clock, h1, h2, fun i e m he hm => ⟨(h3 i e m he hm).1, rel1_ren hρ hτ (h3 i e m he hm).2⟩⟩
end
section
variable {Gl : Nat → Option (List PV)} {S0 : Bs} {w0 : World} {s : PSt} {a : Act} {g : GG} {ρ τ : Nat → Nat}
theorem InvG.ren (h : InvG Gl S0 w0 s a g) (hρ : ∀ l, ρ (ρ l) = l) (hτ : ∀ l, τ (τ l) = l) (fρ : ∀ l, 1000000 ≤ l → ρ l = l) (fτ : ∀ t, 1000000000 ≤ t → τ t = t) : InvG Gl S0 w0 (renS ρ τ s) a (renG ρ τ g) := by
  have iρ : ∀ {l l'}, ρ l = ρ l' → l = l' := fun {l l'} e => by rw [← hρ l, ← hρ l', e]
  have iτ : ∀ {l l'}, τ l = τ l' → l = l' := fun {l l'} e => by rw [← hτ l, ← hτ l', e]
  have hs : ∀ {l}, ((renG ρ τ g).H l).isSome = true → (g.H (ρ l)).isSome = true := fun {l} e => by simpa [renG] using e
  refine { hH := by simp only [renG, renS, h.hH], hT := by simp only [renG, renS, h.hT], defers := h.defers, len := ⟨by simpa [renS] using h.len.1, h.len.2⟩, tm := fun i p v hp hv => ?_, sub := h.sub, new := h.new, lt := h.lt, below := h.below, objs := fun l ob hob => ?_, inj := fun l l' h1 h2 e => iρ (h.inj _ _ (hs h1) (hs h2) e), owns := fun t n k ht => h.owns (τ t) n k ht, ownsEx := fun t t' B h1 h2 => iτ (h.ownsEx (τ t) (τ t') B h1 h2), ownsObj := fun t B l h1 h2 => h.ownsObj (τ t) B (ρ l) h1 (hs h2), glob := h.glob, exs := fun t k b xss hx => ?_, exsEx := fun t t' B h1 h2 => iτ (h.exsEx (τ t) (τ t') B h1 h2), fix := fun l B hF => ?_, fixT := fun t v n hF => ?_ }
  · simp only [renS, List.getElem?_map] at hp
    obtain ⟨q, hq, rfl⟩ := Option.map_eq_some_iff.1 hp
    exact rel_ren hρ hτ (h.tm i q v hq hv)
  · simp only [renG] at hob
    obtain ⟨ob0, h1, rfl⟩ := Option.map_eq_some_iff.1 hob
    obtain ⟨o1, o2, o3, o4⟩ := h.objs (ρ l) ob0 h1
    exact ⟨o1, o2, o3, objOK_ren hρ hτ o4⟩
  · obtain ⟨q1, q2, q3, q4, q5, q6⟩ := h.exs (τ t) k b xss hx
    refine ⟨q1, q2, q3, q4, q5, q6.imp id ?_⟩
    rintro ⟨B, cap, e, hc, f1, f2, f3, f4, f5, f6, f7, f8⟩
    exact ⟨B, cap, e, hc, f1, f2, f3, f4, f5, f6, fun l hl => f7 (ρ l) (hs hl), fun t' ht' => iτ (f8 (τ t') ht')⟩
  · obtain ⟨k1, k2⟩ := h.fix l B hF
    refine ⟨k1, fun e => ?_⟩
    have e' := hs e
    rw [fρ l k1] at e'
    show g.φ (ρ l) = B
    rw [fρ l k1]; exact k2 e'
  · obtain ⟨k1, k2⟩ := h.fixT t v n hF
    refine ⟨k1, fun n0 e => ?_⟩
    have e' : g.T (τ t) = some (n0, 0) := e
    show n ≤ n0 ∧ (n0 = n → g.hd (τ t) = v) ∧ ∀ B, HB (g.hd (τ t)) B → HB v B ∨ w0.heap.size ≤ B
    rw [fτ t k1] at e' ⊢
    exact k2 n0 e'
def swp (K c i : Nat) : Nat := match decide (i < K) with
  | true => i + c * K
  | false => match decide (c * K ≤ i), decide (i < c * K + K) with
    | true, true => i - c * K
    | _, _ => i
theorem swp_swp {K c : Nat} (hc : 1 ≤ c) (i : Nat) : swp K c (swp K c i) = i := by
  have hck : K ≤ c * K := Nat.le_mul_of_pos_left K hc
  unfold swp
  by_cases h1 : i < K
  · simp only [h1, decide_true]
    rw [decide_eq_false (by omega), decide_eq_true (show c * K ≤ i + c * K by omega), decide_eq_true (show i + c * K < c * K + K by omega)]
    simp
  · simp only [h1, decide_false]
    by_cases h2 : c * K ≤ i
    · by_cases h3 : i < c * K + K
      · simp only [h2, h3, decide_true]
        rw [decide_eq_true (show i - c * K < K by omega)]
        simp only; omega
      · simp [h2, h3, h1]
    · simp [h2, h1]
theorem swp_fix {K c b : Nat} (h : c * K + K ≤ b) (hc : 1 ≤ c) (i : Nat) (hi : b ≤ i) : swp K c i = i := by
  unfold swp
  rw [decide_eq_false (by omega), decide_eq_false (show ¬ i < c * K + K by omega)]
  cases decide (c * K ≤ i) <;> rfl
theorem wkr_ren (c : Nat) (hc : (decide (1 ≤ c) && decide (c ≤ 999)) = true) : Wkr s (renS (swp 1000 c) (swp 1000000 c) s) := fun Gl S0 w0 a w hi => by
  simp only [Bool.and_eq_true, decide_eq_true_eq] at hc
  obtain ⟨g, rfl, hg⟩ := hi
  exact ⟨renG (swp 1000 c) (swp 1000000 c) g, rfl, hg.ren (swp_swp hc.1) (swp_swp hc.1) (swp_fix (K := 1000) (b := 1000000) (by omega) hc.1) (swp_fix (K := 1000000) (b := 1000000000) (by omega) hc.1)⟩
theorem wl_wkr {P : Program} {ops : Array Oper} {L : List Oper} {Q : PSt → Prop} {s' : PSt} (hw : Wkr s s') (h : wl P Gl ops L s' Q) : wl P Gl ops L s Q := fun S0 w0 a w Q' hQ hi => h S0 w0 a w Q' hQ (hw Gl S0 w0 a w hi)
theorem wl_ren {P : Program} {ops : Array Oper} {L : List Oper} {Q : PSt → Prop} (c : Nat) (J : JS) (n : Nat) (hc : (decide (1 ≤ c) && decide (c ≤ 999)) = true) (hok : J.ok = true) (h : J.seen (renS (swp 1000 c) (swp 1000000 c) s) = J.told n) (h2 : wl P Gl ops L (J.st n) Q) : wl P Gl ops L s Q :=
  wl_wkr ((wkr_ren c hc).trans (.of hok h)) h2
end
end PM
/-
  THE PURE MACHINE, Qj: calls that only read lists that nobody else holds, and return numbers: the lists stay as they are.
-/
namespace PM
open Go Go.RowKit

section
variable {P : Program} {Gl : Nat → Option (List PV)} {S0 : Bs} {w0 : World} {s : PSt} {a : Act} {g : GG}
end
end PM
/-
  THE PURE MACHINE, Qk: a list that is written out, and that nobody else holds.
-/
namespace PM
open Go Go.RowKit

section
variable {α : Type} [Enc α] {P : Program} {Gl : Nat → Option (List PV)} {s : PSt} {Q : PSt → Prop} {Ls : List (Oper × Gd)}
end
end PM
/-
  THE PURE MACHINE, Ql: the end of a list that may grow: a slice that takes over the room (a new token), and tokens that change names.
-/
namespace PM
open Go Go.RowKit

section
variable {P : Program} {Gl : Nat → Option (List PV)} {S0 : Bs} {w0 : World} {s : PSt} {a : Act} {g : GG}
theorem Room.none {n k : Nat} (hk : k ≠ 0) : ¬ Room n k n := by
  rintro (h | ⟨h, _⟩)
  · exact Nat.lt_irrefl _ h
  · exact hk h
end

section
variable {α : Type} [Enc α] {P : Program} {Gl : Nat → Option (List PV)} {s : PSt} {Ls : List (Oper × Gd)} {Q : PSt → Prop}
end
end PM
/-
  THE PURE MACHINE, Qm: a body that defers one call of a closure, which is walked in place at each return.
-/
namespace PM
open Go Go.RowKit

def recFuel : Nat := 4194304
section
variable {P : Program} {Gl : Nat → Option (List PV)} {s : PSt}
def dPostQ (P : Program) (Gl : Nat → Option (List PV)) (rs : List ResultVar) (r : PV) : Exit → PSt → Prop
  | .normal, s | .ret, s => finalQ P Gl rs r { s with tm := s.tm.drop (s.tm.length - s.m), m := 1 }
  | _, _ => False
def pwpD (P : Program) (Gl : Nat → Option (List PV)) (c : Code) (Q QD : Exit → PSt → Prop) (s : PSt) : Prop :=
  ∀ (S0 : Bs) (w0 : World) (a : Act) (w : World), S0.D = [] → S0.St = [] → Inv Gl S0 w0 s a w →
    c.wp P (fun e a' w' => (∃ s', Q e s' ∧ Inv Gl S0 w0 s' a' w') ∨ ∃ s' fv cap, QD e s' ∧ Inv Gl { S0 with D := [{ target := .fn fv cap, args := #[] }], St := [.func fv #[] cap] } w0 s' a' w') a w
def seqDQ (P : Program) (Gl : Nat → Option (List PV)) (y : Code) (Q QD : Exit → PSt → Prop) : Exit → PSt → Prop
  | .normal, s => pwpD P Gl y Q QD s
  | e, s => Q e s
variable {Q QD : Exit → PSt → Prop} {x y : Code}
theorem pwpD_seq (h : pwp P Gl x (seqDQ P Gl y Q QD) s) : pwpD P Gl (.seq x y) Q QD s := fun S0 w0 a w h1 h2 hi =>
  wp_seq (wp_mono (fun e _ _ ⟨s', q, i⟩ => by
    cases e <;> simp only [Exit.then]
    case normal => exact q S0 w0 _ _ h1 h2 i
    all_goals exact .inl ⟨s', q, i⟩) (h S0 w0 a w hi))
theorem qd_next (h : pwpD P Gl y Q QD s) : seqDQ P Gl y Q QD .normal s := h
def deferHd (o : Oper) (s : PSt) : Option (FuncId × List PV) :=
  match o.guard, o.dst, o.op with
  | none, none, .defer c => match c.callee, c.args.toList with
    | .value x, [] => match s.ev x with
      | .fn f caps => some (f, caps)
      | _ => none
    | _, _ => none
  | _, _, _ => none
def layD (f : FuncId) (caps : List PV) (s : PSt) : PSt := { s with tm := s.tm ++ [.fn f caps], m := 1 }
theorem list_pops {S0 : Bs} {w0 : World} {ops : Array Oper} {Q' : Exit → Act → World → Prop} {l2 : List Oper} : ∀ (l1 : List Oper) {s : PSt}, pops P Gl false (l1.map fun o => (o, gdOf ops o)) s (Up fun s' => ∀ a w, Inv Gl S0 w0 s' a w → wpList P ops Q' l2 a w) → ∀ a w, Inv Gl S0 w0 s a w → wpList P ops Q' (l1 ++ l2) a w
  | [], s, h => fun a w hi => let ⟨s2, h1, h2⟩ := h; h2 a w (hi.fade h1)
  | o :: l, s, hp => fun a w hi => by
    obtain ⟨g, rfl, h⟩ := hi
    simp only [List.cons_append]
    unfold wpList
    simp only [List.map_cons, pops] at hp
    rcases wanted_gd h hp with ⟨h1, h2⟩ | ⟨h1, h2⟩
    · rw [if_pos h1]
      exact .inl (stepOp_sound h h2 fun s' a' w' hs' hi' => list_pops l hs' a' w' hi')
    · rw [if_neg (by rw [h1]; simp)]
      exact list_pops l h2 _ _ ⟨g, rfl, h.put _ (Rel.und _)⟩
theorem pwpD_defer {id : Nat} {ops : Array Oper} (k : Nat) (f : FuncId) (caps : List PV) (hk : ops.toList.length = k + 1) 
    (h : pops P Gl false ((withGd ops).take k) s (Up fun s1 => ((ops.toList.drop k).head?.bind fun o => deferHd o s1) = some (f, caps) ∧ (ops.toList.drop k).all (fun o => o.guard.isNone && o.dst.isNone) = true ∧ s1.m = 0 ∧ pwp P Gl y QD (layD f caps s1))) : pwpD P Gl (.seq (.region id ops false) y) Q QD s := fun S0 w0 a w hD hSt hi => by
  refine wp_seq (wp_region_list ?_)
  have e : ops.toList = ops.toList.take k ++ ops.toList.drop k := (List.take_append_drop _ _).symm
  rw [e]
  have h' : pops P Gl false ((ops.toList.take k).map fun o => (o, gdOf ops o)) s (Up fun s1 => ((ops.toList.drop k).head?.bind fun o => deferHd o s1) = some (f, caps) ∧ (ops.toList.drop k).all (fun o => o.guard.isNone && o.dst.isNone) = true ∧ s1.m = 0 ∧ pwp P Gl y QD (layD f caps s1)) := by
    simpa [withGd, List.map_take] using h
  refine list_pops (S0 := S0) (w0 := w0) (ops.toList.take k) (pops_mono ?_ _ _ h') a w hi
  rintro s0 ⟨s1, hf, h1, h2, h3, h4⟩
  refine ⟨s1, hf, fun a w hi => ?_⟩
  obtain ⟨o, ho, hdf⟩ := Option.bind_eq_some_iff.1 h1
  have hl : ops.toList.drop k = [o] := by
    have hlen : (ops.toList.drop k).length = 1 := by rw [List.length_drop]; omega
    obtain ⟨o', ho'⟩ := List.length_eq_one_iff.1 hlen
    rw [ho'] at ho ⊢
    simpa using ho
  rw [hl]
  unfold deferHd at hdf
  split at hdf
  · rename_i c hg hd hop
    split at hdf
    · rename_i x hcal hargs
      split at hdf
      · rename_i f' caps' hev
        simp only [Option.some.injEq, Prod.mk.injEq] at hdf
        obtain ⟨rfl, rfl⟩ := hdf
        obtain ⟨g, rfl, hI⟩ := hi
        have hx := hI.ev x
        rw [hev] at hx
        have hx0 := hx
        simp only [Rel, RelA, Rel1] at hx
        obtain ⟨arr, hfv, hcaps⟩ := hx
        have hca : c.args = #[] := by
          cases hc : c.args with | mk l => rw [hc] at hargs; simpa using hargs
        have hrun : (execOp a.eval o).run P g.w = .ok (.defer { target := .fn (.func f') arr, args := #[] }) g.w := by
          simp [execOp, hop, resolve, hcal, hfv, Deferred.ofValue, hca]
        unfold wpList
        have hw : Region.wanted o (yielded ops a.tmps) = true := by unfold Region.wanted; rw [hg]
        rw [if_pos hw]
        left
        unfold Oper.wp
        rw [hrun, Oper.upon_defer, hd]
        unfold wpList
        simp only [Exit.then]
        have hlen := hI.len
        have hinit : Inv Gl { S0 with D := [{ target := .fn (.func f') arr, args := #[] }], St := [.func (.func f') #[] arr] } w0 (layD f' caps' s1) ({ a with defers := { target := .fn (.func f') arr, args := #[] } :: a.defers }.put none undef) g.w := by
          refine ⟨g, rfl, { hI with defers := ?_, len := ⟨?_, rfl⟩, tm := fun i p v hp hv => ?_ }⟩
          · show { target := Target.fn (.func f') arr, args := #[] } :: a.defers = _
            rw [hI.defers, hD]
          · show (s1.tm ++ [PV.fn f' caps']).length = a.tmps.size + 1
            rw [List.length_append]
            have := hlen.1
            simp only [List.length_singleton]; omega
          · have hp : (s1.tm ++ [PV.fn f' caps'])[i]? = some p := hp
            have hv : (a.tmps.toList ++ [Value.func (.func f') #[] arr])[i]? = some v := hv
            have hl1 : s1.tm.length = a.tmps.toList.length := by rw [Array.length_toList]; omega
            rw [List.getElem?_append] at hp hv
            rw [← hl1] at hv
            by_cases hi : i < s1.tm.length
            · rw [if_pos hi] at hp hv
              exact hI.tm i p v hp (by rw [List.getElem?_append_left (by omega)]; exact hv)
            · rw [if_neg hi] at hp hv
              cases hi2 : i - s1.tm.length with
              | zero =>
                rw [hi2] at hp hv
                cases hp; cases hv
                rw [← hfv]; exact hx0
              | succ m => rw [hi2] at hp; cases hp
        exact wp_mono (fun e a' w' ⟨s', q, i⟩ => .inr ⟨s', _, _, q, i⟩) (h4 _ w0 _ _ hinit)
      · cases hdf
    · cases hdf
  · cases hdf
theorem fin_pure {S : Cells} {w : World} {St : List Value} {D : List Deferred} {s' : PSt} {a' : Act} {g : GG} {fn : Func} {r : PV} (hg : InvG Gl ⟨S, fun _ _ => False, fun _ _ _ => False, St, D⟩ w s' a' g) (h : finalQ P Gl fn.results.toList r s') :
    ∃ v, (results fn a'.tmps).run P g.w = .ok v g.w ∧ ∃ v_1 g', Ending.returned v = .returned v_1 ∧ g'.w = g.w ∧ After S w r v_1 g' := by
  obtain ⟨ps, pv, h1, h2, h3, h4⟩ := h
  obtain ⟨us, r1, r2⟩ := run_resPV hg _ _ h1
  have hcut : Cut g (fun _ => none) (tokT r) := ⟨fun t x hx => by
    have := h4 _ (mem_of_lookup hx)
    rw [hg.hT]; exact this, fun l cs _ e => (by cases e)⟩
  refine ⟨_, ?_, _, { g with H := fun _ => none, T := tokT r }, rfl, rfl, ⟨hg.below.toBelow (fun _ e => e.elim (fun q => q.elim fun _ q => q) fun q => by obtain ⟨_, _, _, q, _⟩ := q; exact q), hg.sub, fun B o hB => (hg.new B o hB).imp id fun e => ⟨e.resolve_right (fun e => e.elim (fun q => q.elim fun _ q => q) fun q => by obtain ⟨_, _, _, q, _⟩ := q; exact q), hg.lt B o hB⟩, fun _ => rfl, fun t n k => ⟨fun e => mem_of_lookup e, fun e => lookup_of_mem (fun y hy hyt => ?_) e⟩, (onePV_spec h2 r2).weak hcut h3, fun t n k e => hg.owns t n k (hcut.T t _ e), fun t t' B hs hs' => ?_⟩⟩
  · rw [results_eq, Array.mapM_eq_mapM_toList]
    simp only [Sem.run_bind, Sem.run_map, r1, Result.andThen_ok, Sem.run_pure]
  · have e1 := h4 y hy
    have e2 := h4 _ e
    rw [hyt] at e1
    rw [e1] at e2
    simpa using e2
  · obtain ⟨n, k, off, cap, e1, e2, e3⟩ := hs
    obtain ⟨n', k', off', cap', e1', e2', e3'⟩ := hs'
    exact hg.ownsEx t t' B ⟨n, k, off, cap, hcut.T t _ e1, e2, e3⟩ ⟨n', k', off', cap', hcut.T t' _ e1', e2', e3'⟩
def outD (s : PSt) : PSt := { s with tm := s.tm.drop (s.tm.length - s.m), m := 1 }
theorem q_dfin {rs : List ResultVar} {r : PV} (h : (finRes P Gl rs (outD s)).map (fun v => (noTups v, coerceV r v)) = some (true, r)) (hl : liveV (fun _ => none) (tokT r) r = true)
    (ht : (toksV r).map (fun x => s.T x.1) = (toksV r).map fun x => some x.2) : dPostQ P Gl rs r .normal s := r_fin (s := outD s) h hl ht
end
end PM
/-
  THE PURE MACHINE, Qn: functions that may panic (PCallP), regions that end so.
-/
namespace PM
open Go Go.RowKit

def PanOK (ch : List PanicEntry) : Prop := ∃ t v, ch = [{ v := .iface t v, recovered := false }]
def PCallP (P : Program) (Gl : Nat → Option (List PV)) (f : FuncId) (args : List PV) (o : Option PV) : Prop :=
  FnOK P f ∧ ∀ (S : Cells) (w : World) (vs : Array Value), (∀ B o, S B o → B < w.heap.size) → (∀ i cs, Gl i = some cs → RelTab S w cs i) → All2 (RelD S w) args vs.toList →
    Calls P f vs w fun e w' => (∃ r v g', o = some r ∧ e = .returned v ∧ g'.w = w' ∧ After S w r v g') ∨ (∃ ch g', o = none ∧ e = .panicked ch ∧ PanOK ch ∧ g'.w = w' ∧ After S w (.tup []) (.tuple #[]) g')
section
variable {P : Program} {Gl : Nat → Option (List PV)} {s : PSt}
theorem after_pan {S : Cells} {w : World} {St : List Value} {D : List Deferred} {s' : PSt} {a' : Act} {g : GG} (hg : InvG Gl ⟨S, fun _ _ => False, fun _ _ _ => False, St, D⟩ w s' a' g) :
    After S w (.tup []) (.tuple #[]) { g with H := fun _ => none, T := fun _ => none } :=
  ⟨hg.below.toBelow (fun _ e => e.elim (fun q => q.elim fun _ q => q) fun q => by obtain ⟨_, _, _, q, _⟩ := q; exact q), hg.sub,
    fun B o hB => (hg.new B o hB).imp id fun e => ⟨e.resolve_right (fun e => e.elim (fun q => q.elim fun _ q => q) fun q => by obtain ⟨_, _, _, q, _⟩ := q; exact q), hg.lt B o hB⟩,
    fun _ => rfl, fun t n k => ⟨(fun e => by cases e), (fun e => by simp [toksV] at e)⟩, by simp [Rel, All2], (fun t n k e => by cases e), (fun t t' B hs => by obtain ⟨_, _, _, _, e, _⟩ := hs; cases e)⟩
theorem inv_start {S : Cells} {w : World} {vs : Array Value} {args : List PV} {n : Nat} (hS : ∀ B o, S B o → B < w.heap.size) (hglob : ∀ i cs, Gl i = some cs → RelTab S w cs i) (hargs : All2 (RelD S w) args vs.toList) (hflat : args.all flatArg = true) :
    Inv Gl ⟨S, fun _ _ => False, fun _ _ _ => False, [], []⟩ w (st0 args n) { tmps := vs ++ Array.replicate (n - vs.size) undef, defers := [] } w := by
  have hsz : args.length = vs.size := by rw [hargs.1]; simp
  refine ⟨⟨S, w, fun _ => 0, fun _ => undef, fun _ => none, fun _ => none⟩, rfl, { hH := rfl, hT := rfl, defers := rfl, len := by simp [st0, hsz], tm := fun i p v hp hv => ?_, sub := fun _ _ h => h, new := fun _ _ h => .inl h, lt := hS, below := BelowE.refl _ _, objs := (fun l ob e => by cases e), inj := (fun l l' e => by cases e), owns := (fun t n k e => by cases e), ownsEx := (fun t t' B hs => by obtain ⟨_, _, _, _, e, _⟩ := hs; cases e), ownsObj := (fun t B l hs => by obtain ⟨_, _, _, _, e, _⟩ := hs; cases e), glob := hglob, exs := (fun t k b xss e => by cases e), exsEx := (fun t t' B hs => by have := hs.1; cases this), fix := fun _ _ e => e.elim, fixT := fun _ _ _ e => e.elim }⟩
  simp only [st0] at hp
  simp only [List.append_nil, Array.getElem?_toList] at hv
  rw [List.getElem?_append] at hp
  by_cases hi : i < args.length
  · rw [if_pos hi] at hp
    rw [Array.getElem?_append_left (by omega)] at hv
    exact Rel.ofData (g := ⟨S, w, _, _, _, _⟩) (hargs.2 i p v hp (by simpa using hv)) (List.all_eq_true.1 hflat p (List.mem_of_getElem? hp))
  · rw [if_neg hi, List.getElem?_replicate] at hp
    split at hp
    · cases hp; trivial
    · cases hp
theorem q_seq_pan {y : Code} {Q : Exit → PSt → Prop} {ch : List PanicEntry} (h : Q (.panic ch) s) : seqQ P Gl y Q (.panic ch) s := h
theorem q_jout_pan {α β : Type} {J : α → JS} {b : β} {n : Nat} {Q : Exit → PSt → Prop} {ch : List PanicEntry} (h : Q (.panic ch) s) : joinPost J n Q (.inr b) (.panic ch) s := ⟨by simp, h⟩
def wlE (P : Program) (Gl : Nat → Option (List PV)) (ops : Array Oper) (L : List Oper) (s : PSt) (Q : Exit → PSt → Prop) : Prop :=
  ∀ (S0 : Bs) (w0 : World) (a : Act) (w : World) (Q' : Exit → Act → World → Prop), (∀ e s' a' w', Q e s' → Inv Gl S0 w0 s' a' w' → Q' e a' w') → Inv Gl S0 w0 s a w → wpList P ops Q' L a w
variable {ops : Array Oper} {Q : Exit → PSt → Prop}
theorem wlE_end (h : Q .normal s) : wlE P Gl ops [] s Q := fun S0 w0 a w Q' hQ hi => hQ _ s a w h hi
theorem wlE_pops : ∀ (l1 : List Oper) {l2 : List Oper} {s : PSt}, pops P Gl false (l1.map fun o => (o, gdOf ops o)) s (Up fun s' => wlE P Gl ops l2 s' Q) → wlE P Gl ops (l1 ++ l2) s Q
  | [], l2, s, h => fun S0 w0 a w Q' hQ hi => let ⟨s2, h1, h2⟩ := h; h2 S0 w0 a w Q' hQ (hi.fade h1)
  | o :: l, l2, s, hp => fun S0 w0 a w Q' hQ hi => by
    obtain ⟨g, rfl, h⟩ := hi
    simp only [List.cons_append]
    unfold wpList
    simp only [List.map_cons, pops] at hp
    rcases wanted_gd h hp with ⟨h1, h2⟩ | ⟨h1, h2⟩
    · rw [if_pos h1]
      exact .inl (stepOp_sound h h2 fun s' a' w' hs' hi' => wlE_pops l hs' S0 w0 a' w' Q' hQ hi')
    · rw [if_neg (by rw [h1]; simp)]
      exact wlE_pops l h2 S0 w0 _ _ Q' hQ ⟨g, rfl, h.put _ (Rel.und _)⟩
theorem wlE_run (k n : Nat) (h : pops P Gl false (((withGd ops).drop k).take n) s (Up fun s' => wlE P Gl ops (ops.toList.drop (k + n)) s' Q)) : wlE P Gl ops (ops.toList.drop k) s Q := by
  have e : ops.toList.drop k = (ops.toList.drop k).take n ++ ops.toList.drop (k + n) := by
    rw [← List.drop_drop, List.take_append_drop]
  rw [e]
  refine wlE_pops _ ?_
  simpa [withGd, List.map_drop, List.map_take] using h
theorem r_regE {id : Nat} (h : wlE P Gl ops (ops.toList.drop 0) s Q) : pwp P Gl (.region id ops false) Q s := fun S0 w0 a w hi =>
  wp_region_list (h S0 w0 a w _ (fun _ s' _ _ q i => ⟨s', q, i⟩) hi)
def callHdE (L : List Oper) (s : PSt) : Option (FuncId × List PV) := (inlHd L s).bind fun x => (datumAs x.2).map fun d => (x.1, d)
def noIface : Option TypeDesc → Bool
  | some (.interface _) => false
  | some _ => true
  | none => false
end
end PM
/-
  THE PURE MACHINE, Qo: a deferred closure that recovers.
-/
namespace PM
open Go Go.RowKit

section
variable {P : Program} {Gl : Nat → Option (List PV)} {s : PSt}
theorem wpS_mono {c : Code} {Q Q' : Exit → Act → List Frame → World → Prop} {a : Act} {cs : List Frame} {w : World} (h : c.wpS P Q a cs w) (hm : ∀ e a cs w, Q e a cs w → Q' e a cs w) : c.wpS P Q' a cs w :=
  fun b k hb hr => let ⟨e, a', cs', w', q, r⟩ := h b k hb hr; ⟨e, a', cs', w', hm _ _ _ _ q, r⟩
structure RecOps (P : Program) (o0 o1 : Oper) (d0 d1 : Nat) : Prop where
  g0 : o0.guard = none
  g1 : o1.guard = none
  e0 : o0.dst = some d0
  e1 : o1.dst = some d1
  r0 : ∀ (a : Act) (w : World), (execOp a.eval o0).run P w = .ok .recover w
  r1 : ∀ (a : Act) (w : World) (t : TypeId) (v : Value), a.eval (.tmp d0) = .iface t v → (execOp a.eval o1).run P w = .ok (.value (.bool true)) w
  r2 : ∀ (a : Act) (w : World), a.eval (.tmp d0) = .nilIface → (execOp a.eval o1).run P w = .ok (.value (.bool false)) w
theorem put_eval {a : Act} {d : Nat} {v : Value} (h : d < a.tmps.size) : (a.put (some d) v).eval (.tmp d) = v := by
  simp [Act.put, Act.eval, h]
end
end PM
