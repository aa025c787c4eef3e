import Derived.Test.YtoadiglkifiofaaDoorPmQ
import Derived.Defers
import Derived.Recover
/-
  THE PURE MACHINE, Qh: a call whose body is walked in place: the caller's slots are laid aside.
-/
namespace PM
open Go Go.RowKit

def wl (P : Program) (Gl : Nat → Option (List PV)) (ops : Array Oper) (L : List Oper) (s : PSt) (Q : PSt → Prop) : Prop :=
  ∀ (S0 : Bs) (w0 : World) (a : Act) (w : World) (Q' : Exit → Act → World → Prop), (∀ s' a' w', Q s' → Inv Gl S0 w0 s' a' w' → Q' .normal a' w') → Inv Gl S0 w0 s a w → wpList P ops Q' L a w
section
variable {P : Program} {Gl : Nat → Option (List PV)} {s : PSt} {ops : Array Oper} {Q : PSt → Prop}
theorem wl_end (h : Q s) : wl P Gl ops [] s Q := fun S0 w0 a w Q' hQ hi => hQ s a w h hi
theorem wl_pops : ∀ (l1 : List Oper) {l2 : List Oper} {s : PSt}, pops P Gl false (l1.map fun o => (o, gdOf ops o)) s (Up fun s' => wl P Gl ops l2 s' Q) → wl P Gl ops (l1 ++ l2) s Q
  | [], l2, s, h => fun S0 w0 a w Q' hQ hi => let ⟨s2, h1, h2⟩ := h; h2 S0 w0 a w Q' hQ (hi.fade h1)
  | o :: l, l2, s, hp => fun S0 w0 a w Q' hQ hi => by
    obtain ⟨g, rfl, h⟩ := hi
    simp only [List.cons_append]
    unfold wpList
    simp only [List.map_cons, pops] at hp
    rcases wanted_gd h hp with ⟨h1, h2⟩ | ⟨h1, h2⟩
    · rw [if_pos h1]
      exact .inl (stepOp_sound h h2 fun s' a' w' hs' hi' => wl_pops l hs' S0 w0 a' w' Q' hQ hi')
    · rw [if_neg (by rw [h1]; simp)]
      exact wl_pops l h2 S0 w0 _ _ Q' hQ ⟨g, rfl, h.put _ (Rel.und _)⟩
theorem wl_run (k n : Nat) (h : pops P Gl false (((withGd ops).drop k).take n) s (Up fun s' => wl P Gl ops (ops.toList.drop (k + n)) s' Q)) : wl P Gl ops (ops.toList.drop k) s Q := by
  have e : ops.toList.drop k = (ops.toList.drop k).take n ++ ops.toList.drop (k + n) := by
    rw [← List.drop_drop, List.take_append_drop]
  rw [e]
  refine wl_pops _ ?_
  simpa [withGd, List.map_drop, List.map_take] using h
theorem r_regi {Q : Exit → PSt → Prop} {id : Nat} (h : wl P Gl ops (ops.toList.drop 0) s (Q .normal)) : pwp P Gl (.region id ops false) Q s := fun S0 w0 a w hi =>
  wp_region_list (h S0 w0 a w _ (fun s' _ _ q i => ⟨s', q, i⟩) hi)
def inlSt (n : Nat) (as : List PV) (s : PSt) : PSt := { s with tm := (as ++ List.replicate (n - as.length) .any) ++ s.tm, m := s.tm.length }
def outSt (m0 : Nat) (dst : Option Nat) (r : PV) (s : PSt) : PSt := ({ s with tm := s.tm.drop (s.tm.length - s.m), m := m0 } : PSt).put dst r
def inlQ (P : Program) (Gl : Nat → Option (List PV)) (rs : List ResultVar) (m0 : Nat) (dst : Option Nat) (K : PSt → Prop) : Exit → PSt → Prop
  | .normal, s | .ret, s => ∃ vs r, resPV P Gl s rs = some vs ∧ onePV vs = some r ∧ K (outSt m0 dst r s)
  | _, _ => False
theorem q_inl {rs : List ResultVar} {m0 : Nat} {dst : Option Nat} {K : PSt → Prop} {r : PV} (h : (resPV P Gl s rs).bind onePV = some r) (h2 : K (outSt m0 dst r s)) : inlQ P Gl rs m0 dst K .ret s := by
  obtain ⟨vs, e1, e2⟩ := Option.bind_eq_some_iff.1 h
  exact ⟨vs, r, e1, e2, h2⟩
def inlPost (J : JS) (n : Nat) (e : Exit) (s : PSt) : Prop := (e = .normal ∨ e = .ret) ∧ Wkr s (J.st n)
theorem q_ij {J : JS} {n : Nat} (hok : J.ok = true) (h : J.seen s = J.told n) : inlPost J n .ret s := ⟨.inr rfl, .of hok h⟩
theorem q_ij_w {s1 : PSt} {J : JS} {n : Nat} (hw : Wkr s s1) (hok : J.ok = true) (h : J.seen s1 = J.told n) : inlPost J n .ret s := ⟨.inr rfl, hw.trans (.of hok h)⟩
theorem r_joinI {c : Code} {rs : List ResultVar} {m0 : Nat} {dst : Option Nat} {K : PSt → Prop} {α : Type} (o : α) (n : Nat) (J : α → JS) (h1 : pwp P Gl c (inlPost (J o) n) s) (h2 : inlQ P Gl rs m0 dst K .ret ((J o).st n)) : pwp P Gl c (inlQ P Gl rs m0 dst K) s := fun S0 w0 a w hi =>
  wp_mono (fun e a' w' ⟨s', ⟨he, hw⟩, hi'⟩ => by
    have hi2 := hw Gl S0 w0 a' w' hi'
    rcases he with rfl | rfl
    · exact ⟨_, h2, hi2⟩
    · exact ⟨_, h2, hi2⟩) (h1 S0 w0 a w hi)
def inlHd : List Oper → PSt → Option (FuncId × List PV)
  | o :: _, s => match o.guard, callOf o.op with
    | none, some (x, args) => match s.ev x with
      | .fn f caps => if caps.all capOK = true then some (f, args.map s.ev ++ caps) else none
      | _ => none
    | _, _ => none
  | [], _ => none
def dstO : List Oper → Option Nat
  | o :: _ => o.dst
  | [] => none
theorem p_inl {f n : Nat} {fn : Func} {c : Code} {asx : List PV} {rs : List ResultVar} {L : List Oper} (h : inlHd L s = some (f, asx)) (hf : P.funcs[f]? = some fn) (hname : (fn.name == "runtime.NumGoroutine") = false) (hb : fn.body = some c) (hn : fn.ntmps = n) (hrs : fn.results.toList = rs)
    (h2 : pwp P Gl c (inlQ P Gl rs s.m (dstO L) fun s' => wl P Gl ops (L.drop 1) s' Q) (inlSt n asx s)) : wl P Gl ops L s Q := by
  subst hn; subst hrs
  cases L with
  | nil => cases h
  | cons o r =>
    simp only [inlHd] at h
    split at h
    · rename_i x args hg hco
      split at h
      · rename_i f' caps e1
        split at h
        rotate_left
        · cases h
        rename_i hcap
        simp only [Option.some.injEq, Prod.mk.injEq] at h
        obtain ⟨rfl, rfl⟩ := h
        obtain ⟨cl, hop, hcal, hargs⟩ := callOf_spec hco
        intro S0 w0 a w Q' hQ hi
        obtain ⟨g, rfl, hI⟩ := hi
        have hx := hI.ev x
        rw [e1] at hx
        simp only [Rel, RelA, Rel1] at hx
        obtain ⟨arr, hfv, hcaps⟩ := hx
        have hall : All2 (Rel g) (args.map s.ev ++ caps) ((cl.args.map a.eval ++ arr).toList) := by
          rw [Array.toList_append, Array.toList_map, hargs]
          refine All2.append ⟨by simp, fun i p v hp hv => ?_⟩ ⟨hcaps.1, fun i p v hp hv => ?_⟩
          · rw [List.getElem?_map] at hp hv
            cases hi : args[i]? with
            | none => rw [hi] at hp; cases hp
            | some y => rw [hi] at hp hv; cases hp; cases hv; exact hI.ev y
          · have hpv := hcaps.2 i p v hp hv
            have h2 := List.all_eq_true.1 hcap p (List.mem_of_getElem? hp)
            cases p <;> simp only [capOK] at h2 <;> try cases h2
            all_goals exact hpv
        have hrun : (execOp a.eval o).run P g.w = .ok (.enter f' (cl.args.map a.eval ++ arr)) g.w := by
          have hne : fn.name ≠ "runtime.NumGoroutine" := by simpa using hname
          have hbody : fn.body ≠ none := fun e => by rw [e] at hb; cases hb
          simp [execOp, hop, resolve, hcal, hfv, Deferred.ofValue, invoke, callFunc, run_program, hf, hne, hbody]
        generalize hVS : cl.args.map a.eval ++ arr = VS at hall hrun
        generalize hAS : args.map s.ev ++ caps = AS at hall h2
        unfold wpList
        have hw : Region.wanted o (yielded ops a.tmps) = true := by unfold Region.wanted; rw [hg]
        rw [if_pos hw]
        left
        unfold Oper.wp
        rw [hrun]
        refine calls_of_wp hf hb ?_
        have hlen := hI.len
        have hsz : AS.length = VS.size := by rw [hall.1]; simp
        let S1 : Bs := { S0 with St := a.tmps.toList ++ S0.St, D := [] }
        have hinit : Inv Gl S1 w0 (inlSt fn.ntmps AS s) { tmps := VS ++ Array.replicate (fn.ntmps - VS.size) undef, defers := [] } g.w := by
          refine ⟨g, rfl, { hI with defers := rfl, len := ⟨?_, ?_⟩, tm := fun i p v hp hv => ?_ }⟩
          · simp only [inlSt, List.length_append, List.length_replicate, Array.size_append, Array.size_replicate, hsz]
          · simp only [inlSt]
            show (a.tmps.toList ++ S0.St).length = _
            rw [List.length_append, Array.length_toList]; omega
          · simp only [inlSt] at hp
            have hl2 : (AS ++ List.replicate (fn.ntmps - AS.length) PV.any).length = (VS ++ Array.replicate (fn.ntmps - VS.size) undef).toList.length := by
              simp [hsz]
            rw [List.getElem?_append] at hp
            have hv : ((VS ++ Array.replicate (fn.ntmps - VS.size) undef).toList ++ (a.tmps.toList ++ S0.St))[i]? = some v := hv
            rw [List.getElem?_append, ← hl2] at hv
            by_cases hi : i < (AS ++ List.replicate (fn.ntmps - AS.length) PV.any).length
            · rw [if_pos hi] at hp hv
              rw [List.getElem?_append] at hp
              by_cases hi2 : i < AS.length
              · rw [if_pos hi2] at hp
                rw [Array.toList_append, List.getElem?_append_left (by rw [← hall.1]; exact hi2)] at hv
                exact hall.2 i p v hp hv
              · rw [if_neg hi2, List.getElem?_replicate] at hp
                split at hp
                · cases hp; trivial
                · cases hp
            · rw [if_neg hi] at hp hv
              exact hI.tm _ p v hp hv
        refine wp_mono (fun e a' w' hq => ?_) (h2 S1 w0 _ g.w hinit)
        obtain ⟨s', hq, g', rfl, hg'⟩ := hq
        have fin : (∃ vs r', resPV P Gl s' fn.results.toList = some vs ∧ onePV vs = some r' ∧ wl P Gl ops r (outSt s.m o.dst r' s') Q) → a'.defers = [] ∧ ∃ v, (results fn a'.tmps).run P g'.w = .ok v g'.w ∧ wpList P ops Q' r (a.put o.dst v) g'.w := by
          rintro ⟨vs, r', k1, k2, k3⟩
          refine ⟨hg'.defers, ?_⟩
          obtain ⟨us, r1, r2⟩ := run_resPV hg' _ _ k1
          refine ⟨if h : us.toArray.size = 1 then us.toArray[0] else .tuple us.toArray, ?_, k3 S0 w0 _ _ Q' hQ ⟨g', rfl, ?_⟩⟩
          · rw [results_eq, Array.mapM_eq_mapM_toList]
            simp only [Sem.run_bind, Sem.run_map, r1, Result.andThen_ok, Sem.run_pure]
          · have hl' := hg'.len
            have hm : s'.m = s.tm.length := by
              have := hl'.2
              have e : (a.tmps.toList ++ S0.St).length = s'.m := this
              rw [List.length_append, Array.length_toList] at e; omega
            have hbase : InvG Gl S0 w0 { s' with tm := s'.tm.drop (s'.tm.length - s'.m), m := s.m } a g' := by
              refine { hg' with defers := hI.defers, len := ⟨?_, hlen.2⟩, tm := fun i p v hp hv => ?_ }
              · show (s'.tm.drop (s'.tm.length - s'.m)).length = a.tmps.size + s.m
                rw [List.length_drop]; omega
              · have hp : (s'.tm.drop (s'.tm.length - s'.m))[i]? = some p := hp
                rw [List.getElem?_drop] at hp
                refine hg'.tm _ p v hp ?_
                show (a'.tmps.toList ++ (a.tmps.toList ++ S0.St))[_]? = some v
                have e : s'.tm.length - s'.m = a'.tmps.toList.length := by rw [Array.length_toList]; omega
                rw [e, List.getElem?_append_right (by omega), Nat.add_sub_cancel_left]
                exact hv
            exact hbase.put _ (onePV_spec k2 r2)
        cases e with
        | normal => exact fin hq
        | ret => exact fin hq
        | exit id => exact hq.elim
        | goto l => exact hq.elim
        | panic ch => exact hq.elim
        | outgrown => exact hq.elim
      · cases h
    · cases h
end
end PM
/-
  THE PURE MACHINE, Qi: labels and tokens get other names.
-/
namespace PM
open Go Go.RowKit

def ren0 (ρ : Nat → Nat) : PV → PV
  | .ref l o => .ref (ρ l) o
  | p => p
def ren1 (ρ τ : Nat → Nat) : PV → PV
  | .lst (.own t) k b xss => .lst (.own (τ t)) k b xss
  | .ref l o => .ref (ρ l) o
  | .mp l => .mp (ρ l)
  | .sl l o n k b => .sl (ρ l) o n k b
  | .fn f caps => .fn f (caps.map (ren0 ρ))
  | .ex t k b N o n => .ex (τ t) k b N o n
  | .eref t k N j o => .eref (τ t) k N j o
  | p => p
def renA (ρ τ : Nat → Nat) : PV → PV
  | .agg cs => .agg (cs.map (ren1 ρ τ))
  | p => ren1 ρ τ p
def renV (ρ τ : Nat → Nat) : PV → PV
  | .tup vs => .tup (vs.map (renA ρ τ))
  | p => renA ρ τ p
def renO (ρ τ : Nat → Nat) : PObj → PObj
  | .cells cs => .cells (cs.map (ren1 ρ τ))
  | .map es => .map es
  | .iter b p => .iter b p
def renS (ρ τ : Nat → Nat) (s : PSt) : PSt := ⟨s.tm.map (renV ρ τ), fun l => (s.H (ρ l)).map (renO ρ τ), fun t => s.T (τ t), fun t => s.X (τ t), s.m⟩
def renG (ρ τ : Nat → Nat) (g : GG) : GG := ⟨g.S, g.w, fun l => g.φ (ρ l), fun t => g.hd (τ t), fun l => (g.H (ρ l)).map (renO ρ τ), fun t => g.T (τ t)⟩
section
variable {ρ τ : Nat → Nat} {g : GG} {p : PV} {v : Value}
theorem rel0_ren (hρ : ∀ l, ρ (ρ l) = l) (h : Rel0 g p v) : Rel0 (renG ρ τ g) (ren0 ρ p) v := by
  cases p
  case ref l o =>
    simp only [Rel0, ren0, renG, hρ, Option.isSome_map] at h ⊢
    exact h
  all_goals exact h
theorem rel1_ren (hρ : ∀ l, ρ (ρ l) = l) (hτ : ∀ l, τ (τ l) = l) (h : Rel1 g p v) : Rel1 (renG ρ τ g) (ren1 ρ τ p) v := by
  cases p
  case lst o k b xss =>
    cases o
    case own t =>
      simp only [Rel1, ren1, renG, hτ] at h ⊢
      exact h
    all_goals exact h
  case ref l o =>
    simp only [Rel1, ren1, renG, hρ, Option.isSome_map] at h ⊢
    exact h
  case mp l =>
    simp only [Rel1, ren1, renG, hρ, Option.isSome_map] at h ⊢
    exact h
  case sl l o n k b =>
    simp only [Rel1, ren1, renG, hρ] at h ⊢
    obtain ⟨h1, cs, h2, h3⟩ := h
    exact ⟨h1, cs.map (ren1 ρ τ), by rw [h2]; rfl, by simpa using h3⟩
  case fn f caps =>
    simp only [Rel1, ren1] at h ⊢
    obtain ⟨arr, h1, h2⟩ := h
    refine ⟨arr, h1, by simpa using h2.1, fun i p v hp hv => ?_⟩
    rw [List.getElem?_map] at hp
    obtain ⟨q, hq, rfl⟩ := Option.map_eq_some_iff.1 hp
    exact rel0_ren hρ (h2.2 i q v hq hv)
  case ex t k b N o n =>
    simp only [Rel1, ren1, renG, hτ] at h ⊢
    exact h
  case eref t k N j o =>
    simp only [Rel1, ren1, renG, hτ] at h ⊢
    exact h
  all_goals exact h
theorem oneCell_ren (hρ : ∀ l, ρ (ρ l) = l) (hτ : ∀ l, τ (τ l) = l) (h : RelC g p v) : RelC (renG ρ τ g) (ren1 ρ τ p) v := ⟨rel1_ren hρ hτ h.1, h.2⟩
theorem relA_ren (hρ : ∀ l, ρ (ρ l) = l) (hτ : ∀ l, τ (τ l) = l) (h : RelA g p v) : RelA (renG ρ τ g) (renA ρ τ p) v := by
  cases p
  case agg cs =>
    simp only [RelA, renA] at h ⊢
    obtain ⟨arr, h1, h2⟩ := h
    refine ⟨arr, h1, by simpa using h2.1, fun i p v hp hv => ?_⟩
    rw [List.getElem?_map] at hp
    obtain ⟨q, hq, rfl⟩ := Option.map_eq_some_iff.1 hp
    exact oneCell_ren hρ hτ (h2.2 i q v hq hv)
  case lst o k b xss =>
    simp only [RelA] at h
    exact (rel1_ren hρ hτ h).relA'
  all_goals
    simp only [RelA, renA] at h ⊢
    exact rel1_ren hρ hτ h
theorem rel_ren (hρ : ∀ l, ρ (ρ l) = l) (hτ : ∀ l, τ (τ l) = l) (h : Rel g p v) : Rel (renG ρ τ g) (renV ρ τ p) v := by
  cases p
  case tup cs =>
    simp only [Rel, renV] at h ⊢
    obtain ⟨arr, h1, h2⟩ := h
    refine ⟨arr, h1, by simpa using h2.1, fun i p v hp hv => ?_⟩
    rw [List.getElem?_map] at hp
    obtain ⟨q, hq, rfl⟩ := Option.map_eq_some_iff.1 hp
    exact relA_ren hρ hτ (h2.2 i q v hq hv)
  case lst o k b xss =>
    simp only [Rel] at h
    exact (relA_ren hρ hτ h).rel
  all_goals
    simp only [Rel, renV] at h ⊢
    exact relA_ren hρ hτ h
theorem objOK_ren (hρ : ∀ l, ρ (ρ l) = l) (hτ : ∀ l, τ (τ l) = l) {B : Nat} {ob : PObj} (h : ObjOK g B ob) : ObjOK (renG ρ τ g) B (renO ρ τ ob) := by
  cases ob with
  | cells cs =>
    obtain ⟨vs, h1, h2, h3⟩ := h
    refine ⟨vs, ⟨by simpa using h1.1, fun i p v hp hv => ?_⟩, h2, h3⟩
    rw [List.getElem?_map] at hp
    obtain ⟨q, hq, rfl⟩ := Option.map_eq_some_iff.1 hp
    exact oneCell_ren hρ hτ (h1.2 i q v hq hv)
  | map es => exact h
  | iter b p => exact h
end
section
variable {Gl : Nat → Option (List PV)} {S0 : Bs} {w0 : World} {s : PSt} {a : Act} {g : GG} {ρ τ : Nat → Nat}
theorem InvG.ren (h : InvG Gl S0 w0 s a g) (hρ : ∀ l, ρ (ρ l) = l) (hτ : ∀ l, τ (τ l) = l) (fρ : ∀ l, 1000000 ≤ l → ρ l = l) (fτ : ∀ t, 1000000000 ≤ t → τ t = t) : InvG Gl S0 w0 (renS ρ τ s) a (renG ρ τ g) := by
  have iρ : ∀ {l l'}, ρ l = ρ l' → l = l' := fun {l l'} e => by rw [← hρ l, ← hρ l', e]
  have iτ : ∀ {l l'}, τ l = τ l' → l = l' := fun {l l'} e => by rw [← hτ l, ← hτ l', e]
  have hs : ∀ {l}, ((renG ρ τ g).H l).isSome = true → (g.H (ρ l)).isSome = true := fun {l} e => by simpa [renG] using e
  refine { hH := by simp only [renG, renS, h.hH], hT := by simp only [renG, renS, h.hT], defers := h.defers, len := ⟨by simpa [renS] using h.len.1, h.len.2⟩, tm := fun i p v hp hv => ?_, sub := h.sub, new := h.new, lt := h.lt, below := h.below, objs := fun l ob hob => ?_, inj := fun l l' h1 h2 e => iρ (h.inj _ _ (hs h1) (hs h2) e), owns := fun t n k ht => h.owns (τ t) n k ht, ownsEx := fun t t' B h1 h2 => iτ (h.ownsEx (τ t) (τ t') B h1 h2), ownsObj := fun t B l h1 h2 => h.ownsObj (τ t) B (ρ l) h1 (hs h2), glob := h.glob, exs := fun t k b xss hx => ?_, exsEx := fun t t' B h1 h2 => iτ (h.exsEx (τ t) (τ t') B h1 h2), fix := fun l B hF => ?_, fixT := fun t v n hF => ?_ }
  · simp only [renS, List.getElem?_map] at hp
    obtain ⟨q, hq, rfl⟩ := Option.map_eq_some_iff.1 hp
    exact rel_ren hρ hτ (h.tm i q v hq hv)
  · simp only [renG] at hob
    obtain ⟨ob0, h1, rfl⟩ := Option.map_eq_some_iff.1 hob
    obtain ⟨o1, o2, o3, o4⟩ := h.objs (ρ l) ob0 h1
    exact ⟨o1, o2, o3, objOK_ren hρ hτ o4⟩
  · obtain ⟨q1, q2, q3, q4, q5, q6⟩ := h.exs (τ t) k b xss hx
    refine ⟨q1, q2, q3, q4, q5, q6.imp id ?_⟩
    rintro ⟨B, cap, e, hc, f1, f2, f3, f4, f5, f6, f7, f8⟩
    exact ⟨B, cap, e, hc, f1, f2, f3, f4, f5, f6, fun l hl => f7 (ρ l) (hs hl), fun t' ht' => iτ (f8 (τ t') ht')⟩
  · obtain ⟨k1, k2⟩ := h.fix l B hF
    refine ⟨k1, fun e => ?_⟩
    have e' := hs e
    rw [fρ l k1] at e'
    show g.φ (ρ l) = B
    rw [fρ l k1]; exact k2 e'
  · obtain ⟨k1, k2⟩ := h.fixT t v n hF
    refine ⟨k1, fun n0 e => ?_⟩
    have e' : g.T (τ t) = some (n0, 0) := e
    show n ≤ n0 ∧ (n0 = n → g.hd (τ t) = v) ∧ ∀ B, HB (g.hd (τ t)) B → HB v B ∨ w0.heap.size ≤ B
    rw [fτ t k1] at e' ⊢
    exact k2 n0 e'
def swp (K c i : Nat) : Nat := match decide (i < K) with
  | true => i + c * K
  | false => match decide (c * K ≤ i), decide (i < c * K + K) with
    | true, true => i - c * K
    | _, _ => i
theorem swp_swp {K c : Nat} (hc : 1 ≤ c) (i : Nat) : swp K c (swp K c i) = i := by
  have hck : K ≤ c * K := Nat.le_mul_of_pos_left K hc
  unfold swp
  by_cases h1 : i < K
  · simp only [h1, decide_true]
    rw [decide_eq_false (by omega), decide_eq_true (show c * K ≤ i + c * K by omega), decide_eq_true (show i + c * K < c * K + K by omega)]
    simp
  · simp only [h1, decide_false]
    by_cases h2 : c * K ≤ i
    · by_cases h3 : i < c * K + K
      · simp only [h2, h3, decide_true]
        rw [decide_eq_true (show i - c * K < K by omega)]
        simp only; omega
      · simp [h2, h3, h1]
    · simp [h2, h1]
theorem swp_fix {K c b : Nat} (h : c * K + K ≤ b) (hc : 1 ≤ c) (i : Nat) (hi : b ≤ i) : swp K c i = i := by
  unfold swp
  rw [decide_eq_false (by omega), decide_eq_false (show ¬ i < c * K + K by omega)]
  cases decide (c * K ≤ i) <;> rfl
theorem wkr_ren (c : Nat) (hc : (decide (1 ≤ c) && decide (c ≤ 999)) = true) : Wkr s (renS (swp 1000 c) (swp 1000000 c) s) := fun Gl S0 w0 a w hi => by
  simp only [Bool.and_eq_true, decide_eq_true_eq] at hc
  obtain ⟨g, rfl, hg⟩ := hi
  exact ⟨renG (swp 1000 c) (swp 1000000 c) g, rfl, hg.ren (swp_swp hc.1) (swp_swp hc.1) (swp_fix (K := 1000) (b := 1000000) (by omega) hc.1) (swp_fix (K := 1000000) (b := 1000000000) (by omega) hc.1)⟩
theorem wl_wkr {P : Program} {ops : Array Oper} {L : List Oper} {Q : PSt → Prop} {s' : PSt} (hw : Wkr s s') (h : wl P Gl ops L s' Q) : wl P Gl ops L s Q := fun S0 w0 a w Q' hQ hi => h S0 w0 a w Q' hQ (hw Gl S0 w0 a w hi)
theorem wl_ren {P : Program} {ops : Array Oper} {L : List Oper} {Q : PSt → Prop} (c : Nat) (J : JS) (n : Nat) (hc : (decide (1 ≤ c) && decide (c ≤ 999)) = true) (hok : J.ok = true) (h : J.seen (renS (swp 1000 c) (swp 1000000 c) s) = J.told n) (h2 : wl P Gl ops L (J.st n) Q) : wl P Gl ops L s Q :=
  wl_wkr ((wkr_ren c hc).trans (.of hok h)) h2
end
end PM
/-
  THE PURE MACHINE, Qj: calls that only read lists that nobody else holds, and return numbers: the lists stay as they are.
-/
namespace PM
open Go Go.RowKit

section
variable {P : Program} {Gl : Nat → Option (List PV)} {S0 : Bs} {w0 : World} {s : PSt} {a : Act} {g : GG}
def callHdB (ts : List Nat) : List (Oper × Gd) → PSt → Option (FuncId × List PV × List (Nat × Nat))
  | (o, .always) :: _, s => match callOf o.op with
    | some (x, args) => match s.ev x with
      | .fn f caps => if caps.all capOK = true then (bdAs ts s (args.map s.ev ++ caps)).map fun q => (f, q) else none
      | _ => none
    | none => none
  | _, _ => none
theorem p_callB {Ls : List (Oper × Gd)} {Q : PSt → Prop} {f : FuncId} {as : List PV} {r : PV} (ts : List Nat) (hc : PCall P Gl f as r) (h0 : (callHdB ts Ls s).map (fun x => (x.1, dcoAL as x.2.1, x.2.2.map (·.1))) = (callHdB ts Ls s).map (fun x => (f, as, x.2.2.map (·.2)))) (hs0 : (callHdB ts Ls s).isSome = true) (hs : scal r = true)
    (h2 : pops P Gl false (Ls.drop 1) (s.put (dstHd Ls) r) Q) : pops P Gl false Ls s Q := by
  obtain ⟨y0, h⟩ := Option.isSome_iff_exists.1 hs0
  rw [h] at h0
  obtain ⟨f0, qs, eqs⟩ := y0
  simp only [Option.map_some, Option.some.injEq, Prod.mk.injEq] at h0
  obtain ⟨rfl, hdc, heq⟩ := h0
  unfold callHdB at h
  split at h
  · rename_i s0 o rest
    split at h
    · rename_i x args hco
      split at h
      · rename_i f' caps e1
        split at h
        · rename_i hcapok
          obtain ⟨qs', e3, h'⟩ := Option.map_eq_some_iff.1 h
          simp only [Prod.mk.injEq] at h'
          obtain ⟨rfl, h'⟩ := h'
          subst h'
          obtain ⟨c, hop, hcal, hargs⟩ := callOf_spec hco
          obtain ⟨⟨fn, hfn1, hfn2, hfn3⟩, hcall⟩ := hc
          refine p_sem (n := s) (v := r) (by rw [hop]; rfl) ?_ h2
          intro S0 w0 a g K Q' hg hK
          have hx := hg.ev x
          rw [e1] at hx
          simp only [Rel, RelA, Rel1] at hx
          obtain ⟨arr, hfv, hcaps⟩ := hx
          have hcapsR : All2 (Rel g) caps arr.toList := ⟨hcaps.1, fun i p v hp hv => by
            have h1 := hcaps.2 i p v hp hv
            have h2 := List.all_eq_true.1 hcapok p (List.mem_of_getElem? hp)
            cases p <;> simp only [capOK] at h2 <;> try cases h2
            all_goals exact h1⟩
          have hall : All2 (Rel g) (args.map s.ev ++ caps) (args.map a.eval ++ arr.toList) := All2.append ⟨by simp, fun i p v hp hv => by
            rw [List.getElem?_map] at hp hv
            cases hi : args[i]? with
            | none => rw [hi] at hp; cases hp
            | some y => rw [hi] at hp hv; cases hp; cases hv; exact hg.ev y⟩ hcapsR
          obtain ⟨S1, b1, b2, b3, b4⟩ := hg.borrow ts
          have hD := dcoAL_rel (ps := as) (bdAs_spec hg b1 b4 hall e3 heq)
          rw [hdc] at hD
          have hrun : (execOp a.eval o).run P g.w = .ok (.enter f' ((args.map a.eval ++ arr.toList).toArray)) g.w := by
            have hname : fn.name ≠ "runtime.NumGoroutine" := by simpa using hfn2
            have hbody : fn.body ≠ none := fun e => by rw [e] at hfn3; cases hfn3
            have hca : c.args.map a.eval ++ arr = (args.map a.eval ++ arr.toList).toArray := Array.toList_inj.1 (by simp [hargs])
            simp [execOp, hop, resolve, hcal, hfv, Deferred.ofValue, invoke, callFunc, run_program, hfn1, hname, hbody]
            simpa using hca
          unfold Oper.wp
          rw [hrun]
          refine (hcall S1 g.w _ b2 b3 (by simpa using hD)).mono fun e w' he => ?_
          obtain ⟨v, g', rfl, rfl, ha⟩ := he
          obtain ⟨k1, k2⟩ := hg.grow' ha.below
          exact hK v { g with w := g'.w } k1 k2 (scal_rel hs ha.rel)
        · cases h
      · cases h
    · cases h
  · cases h
theorem p_callL {Ls : List (Oper × Gd)} {d : Bool} {Q : PSt → Prop} {f : FuncId} {as : List PV} {r : PV} (ts : List Nat) (hc : PCall P Gl f as r) (h0 : (callHdB ts Ls s).map (fun x => (x.1, dcoAL as x.2.1, x.2.2.map (·.1))) = (callHdB ts Ls s).map (fun x => (f, as, x.2.2.map (·.2)))) (hs0 : ((callHdB ts Ls s).isSome && ts.all lockTk) = true) (hs : scal r = true)
    (h2 : pops P Gl d (Ls.drop 1) (s.put (dstHd Ls) r) Q) : pops P Gl d Ls s Q := by
  obtain ⟨hs1, hts⟩ := Bool.and_eq_true_iff.1 hs0
  obtain ⟨y0, h⟩ := Option.isSome_iff_exists.1 hs1
  rw [h] at h0
  obtain ⟨f0, qs, eqs⟩ := y0
  simp only [Option.map_some, Option.some.injEq, Prod.mk.injEq] at h0
  obtain ⟨rfl, hdc, heq⟩ := h0
  match Ls, h, h2 with
  | (o, .always) :: rest, h, h2 =>
    simp only [callHdB] at h
    simp only [pops, gdStep]
    refine .inl ?_
    simp only [stepO]
    cases hco : callOf o.op with
    | none => simp [hco] at h
    | some xa =>
      obtain ⟨x, args⟩ := xa
      simp only [hco] at h ⊢
      split at h
      · rename_i f' caps hx
        split at h
        · rename_i hcap
          obtain ⟨q', h5, h'⟩ := Option.map_eq_some_iff.1 h
          simp only [Prod.mk.injEq] at h'
          obtain ⟨rfl, rfl⟩ := h'
          exact .inr ⟨f', caps, qs, r, ts, eqs, hx, hcap, h5, heq, hts, hc.coerce hdc, hs, h2⟩
        · cases h
      · cases h
def swpK (K : Nat) (ts : List Nat) (i : Nat) : Nat := match ts.contains i with
  | true => i + K
  | false => match decide (K ≤ i), ts.contains (i - K) with
    | true, true => i - K
    | _, _ => i
theorem swpK_swpK {K : Nat} {ts : List Nat} (h : (ts.all fun t => decide (t < K)) = true) (i : Nat) : swpK K ts (swpK K ts i) = i := by
  have hlt : ∀ t, ts.contains t = true → t < K := fun t ht => by simpa using List.all_eq_true.1 h t (by simpa using ht)
  unfold swpK
  cases h1 : ts.contains i with
  | true =>
    have := hlt i h1
    have h2 : ts.contains (i + K) = false := by
      cases q : ts.contains (i + K) with
      | false => rfl
      | true => have := hlt _ q; omega
    simp only [h2]
    rw [decide_eq_true (by omega), Nat.add_sub_cancel, h1]
  | false =>
    cases h2 : decide (K ≤ i) with
    | false => simp only [h1, h2]
    | true =>
      cases h3 : ts.contains (i - K) with
      | true =>
        have h2 := of_decide_eq_true h2
        simp only [h3]; omega
      | false => simp only [h1, h2, h3]
theorem swpK_fix {K : Nat} {ts : List Nat} (h : (ts.all fun t => decide (t < K)) = true) (i : Nat) (hi : K + K ≤ i) : swpK K ts i = i := by
  have hlt : ∀ t, ts.contains t = true → t < K := fun t ht => by simpa using List.all_eq_true.1 h t (by simpa using ht)
  unfold swpK
  cases h1 : ts.contains i with
  | true => have := hlt i h1; omega
  | false =>
    cases h3 : ts.contains (i - K) with
    | true => have := hlt _ h3; omega
    | false => cases decide (K ≤ i) <;> rfl
def swpL (ts : List Nat) (i : Nat) : Nat := swpK 500000000 ts i
theorem wkr_lock (ts : List Nat) (J : JS) (n : Nat) (hts : (ts.all fun t => decide (t < 500000000)) = true) (hok : J.ok = true) (h : J.seen (renS id (swpL ts) s) = J.told n) : Wkr s (J.st n) :=
  Wkr.trans (s2 := renS id (swpL ts) s) (fun Gl S0 w0 a w hi => by
    obtain ⟨g, rfl, hg⟩ := hi
    exact ⟨renG id (swpL ts) g, rfl, hg.ren (fun _ => rfl) (swpK_swpK hts) (fun _ _ => rfl) (fun i hi => swpK_fix hts i hi)⟩) (.of hok h)
end
end PM
/-
  THE PURE MACHINE, Qk: a list that is written out, and that nobody else holds.
-/
namespace PM
open Go Go.RowKit

def xlitHd (P : Program) : List (Oper × Gd) → PSt → Option (Nat × Nat × Nat × List (List PV))
  | (o, .always) :: _, s => match o.op with
    | .buildSlice t n parts => match appK P t with
      | some (_, k, b) => (elemsOf k (parts.toList.map fun x => (x.1, s.ev x.2)) 0).map fun xss => (k, b, n, xss)
      | none => none
    | _ => none
  | _, _ => none
section
variable {α : Type} [Enc α] {P : Program} {Gl : Nat → Option (List PV)} {s : PSt} {Q : PSt → Prop} {Ls : List (Oper × Gd)}
theorem p_xlit {L : List α} {n : Nat} (tk : Nat) (h : xlitHd P Ls s = some (Enc.k α, Enc.b α, n, L.map cellsOf)) (hT : ((s.T tk).isNone && decide (tk < 1000000000) && decide ((L.map cellsOf).length = n) && decide (n * Enc.k α ≤ 16777216) && decide (n * Enc.b α ≤ 140737488351232)) = true)
    (h2 : pops P Gl false (Ls.drop 1) (({ s with T := upd s.T tk (some ((L.map cellsOf).length, 0)), X := upd s.X tk (some (Enc.k α, Enc.b α, L.map cellsOf)) } : PSt).put (dstHd Ls) (.ex tk (Enc.k α) (Enc.b α) (L.map cellsOf).length 0 (L.map cellsOf).length)) Q) : pops P Gl false Ls s Q := by
  simp only [Bool.and_eq_true, decide_eq_true_eq] at hT
  obtain ⟨⟨⟨⟨hT1, hT2⟩, hn⟩, hb1⟩, hb2⟩ := hT
  have hT1' : s.T tk = none := by simpa using hT1
  unfold xlitHd at h
  split at h
  · rename_i s0 o rest
    split at h
    · rename_i t n' parts hop
      split at h
      · rename_i e k b hk
        obtain ⟨xss, he, h'⟩ := Option.map_eq_some_iff.1 h
        simp only [Prod.mk.injEq] at h'
        obtain ⟨rfl, rfl, rfl, rfl⟩ := h'
        refine p_sem (n := { s with T := upd s.T tk (some ((L.map cellsOf).length, 0)), X := upd s.X tk (some (Enc.k α, Enc.b α, L.map cellsOf)) }) (v := .ex tk (Enc.k α) (Enc.b α) (L.map cellsOf).length 0 (L.map cellsOf).length) (by rw [hop]; rfl) ?_ h2
        intro S0 w0 a g K Q' hg hK
        generalize hxs : L.map cellsOf = xss at he hn hK ⊢
        obtain ⟨i, z, k1, k2, k3, k4, k5, k6, k7⟩ := appK_spec hk
        obtain ⟨e1, e2⟩ := elemsOf_length he
        have hp : All2 (fun (x : Nat × PV) (y : Nat × Value) => x.1 = y.1 ∧ Rel g x.2 y.2) (parts.toList.map fun x => (x.1, s.ev x.2)) (parts.toList.map fun x => (x.1, a.eval x.2)) :=
          ⟨by simp, fun i x y hx hy => by
            simp only [List.getElem?_map] at hx hy
            cases hp : parts.toList[i]? with
            | none => rw [hp] at hx; cases hx
            | some q =>
              rw [hp] at hx hy
              cases hx; cases hy
              exact ⟨rfl, hg.ev q.2⟩⟩
        have hzero : ((Array.range (n' * Enc.k α)).map (z.cells[· % z.cells.size]!)).size = (0 + (parts.toList.map fun x => (x.1, s.ev x.2)).length) * Enc.k α := by simp at e1 ⊢; rw [← e1, hn]
        obtain ⟨cells', f1, f2, f3, f4⟩ := fill_row (g := g) k7 _ _ 0 xss _ hp he hzero
        simp only [Nat.zero_mul, List.drop_zero] at f4
        have hle : ¬ (16777216 < n' * Enc.k α) := by omega
        have hrun : (Instr.buildSlice t n' (parts.map fun (i, x) => (i, a.eval x))).run P g.w = .ok (.slice (some ⟨g.w.heap.size, 0, none⟩) n' n') (g.w.alloc (.cells cells' e)) := by
          have f1' : Instr.fill (fun i => some (i * Enc.k α, Enc.k α)) ((Array.range (n' * Enc.k α)).map (z.cells[· % z.cells.size]!)) (parts.toList.map fun x => (x.1, a.eval x.2)) = some cells' := f1
          by_cases hz0 : n' * Enc.k α = 0
          · have hr1 : ∀ f : Nat → Value, (Array.range 0).map f = #[] := fun f => by simp [Array.range]
            rw [hz0, hr1] at f1'
            simp only [Instr.buildSlice, Sem.run_bind, run_underlying k1, Result.andThen_ok, run_sizeOf k2, k3]
            simp [hz0, hr1, f1', newRow]
          · simp only [Instr.buildSlice, Sem.run_bind, run_underlying k1, Result.andThen_ok, run_sizeOf k2, k3]
            simp [hle, hz0, zeroValue, typeInfo, k2, k5, f1', newRow]
        obtain ⟨h1, g1⟩ := hg.grow' (below_alloc g.w (.cells cells' e))
        have hgT : g.T tk = none := by rw [hg.hT]; exact hT1'
        have hfl : xss.flatten.length = n' * Enc.k α := by
          rw [List.length_flatten]
          have : xss.map List.length = List.replicate xss.length (Enc.k α) := by
            rw [List.eq_replicate_iff]
            exact ⟨by simp, fun b hb => by obtain ⟨x, hx, rfl⟩ := List.mem_map.1 hb; exact e2 x hx⟩
          rw [this, hn]; simp
        have hcs : cells'.size = n' * Enc.k α := by
          have := f4.1
          rw [hfl] at this; simpa using this.symm
        have hvals : All2 (fun p v => RelD g.S (g.w.alloc (.cells cells' e)) p v ∧ p.one = true) xss.flatten cells'.toList :=
          (f4.mono fun _ _ q => (⟨q.1, q.2.1⟩ : RelD g.S g.w _ _ ∧ _)).monoD g1.S g1.cell g1.blk
        have hk1 : 1 ≤ Enc.k α := Nat.pos_of_ne_zero k7
        have hlt : n' ≤ 140737488351232 := by
          have : n' * 1 ≤ n' * Enc.k α := Nat.mul_le_mul_left n' hk1
          omega
        obtain ⟨h3, g3⟩ := h1.exHead (t := tk) (k := Enc.k α) (b := Enc.b α) (xss := xss) (v := .slice (some ⟨g.w.heap.size, 0, none⟩) n' n')
          (fun n0 k0 q => by have : g.T tk = some (n0, k0) := q; rw [hgT] at this; cases this) (fun _ => hT2) (fun q => absurd hgT q) k7 e2 (by rw [hn]; exact hb2) (by rw [hn]; exact hlt)
          (by
            by_cases hc0 : n' = 0
            · left
              rw [hc0]
              exact ⟨.inr ⟨_, _, rfl⟩, List.eq_nil_of_length_eq_zero (by rw [hn, hc0])⟩
            · right
              exact ⟨g.w.heap.size, n', by rw [hn], by omega, ⟨by rw [hn]; omega, .inl hg.below.size, by simp, fun o ho => (by have := hg.lt _ _ ho; omega), ⟨_, hvals, rangeAt_alloc g.w _ e⟩, fun j hj => there_alloc g.w _ e j (by rw [hcs]; exact hj), fun l hl => hg.phi_lt l hl, fun t2 h2 => (hg.spare_lt t2 (h2.congr rfl rfl)).elim⟩, fun t2 _ h2 => hg.xb_lt t2 (h2.congr rfl)⟩)
        have hrun2 : (execOp a.eval o).run P g.w = .ok (.value (.slice (some ⟨g.w.heap.size, 0, none⟩) n' n')) (g.w.alloc (.cells cells' e)) := by
          simp [execOp, hop, hrun]
        unfold Oper.wp
        rw [hrun2]
        refine hK _ _ h3 (g1.trans g3) ?_
        simp only [Rel, RelA, Rel1]
        refine ⟨⟨_, _, by rw [hn], by rw [hn]; omega, fun _ => ⟨_, _, rfl⟩⟩, _, upd_same _ _ _, Nat.le_refl _, fun _ => ?_⟩
        by_cases hc0 : n' = 0
        · exact .inl ⟨by simp, by rw [hn]; omega, rfl, by rw [hn]; omega⟩
        · exact .inr ⟨g.w.heap.size, n', 0, by rw [hn]; simp, by omega, by rw [hn]; omega, by omega, by rw [hn]; simp, by simp⟩
      · cases h
    · cases h
  · cases h
end
end PM
/-
  THE PURE MACHINE, Ql: the end of a list that may grow: a slice that takes over the room (a new token), and tokens that change names.
-/
namespace PM
open Go Go.RowKit

section
variable {P : Program} {Gl : Nat → Option (List PV)} {S0 : Bs} {w0 : World} {s : PSt} {a : Act} {g : GG}
theorem Room.none {n k : Nat} (hk : k ≠ 0) : ¬ Room n k n := by
  rintro (h | ⟨h, _⟩)
  · exact Nat.lt_irrefl _ h
  · exact hk h
end

section
variable {α : Type} [Enc α] {P : Program} {Gl : Nat → Option (List PV)} {s : PSt} {Ls : List (Oper × Gd)} {Q : PSt → Prop}
end
end PM
/-
  THE PURE MACHINE, Qm: a body that defers one call of a closure, which is walked in place at each return.
-/
namespace PM
open Go Go.RowKit

def recFuel : Nat := 4194304
section
variable {P : Program} {Gl : Nat → Option (List PV)} {s : PSt}
variable {Q QD : Exit → PSt → Prop} {x y : Code}
end
end PM
/-
  THE PURE MACHINE, Qn: functions that may panic (PCallP), regions that end so.
-/
namespace PM
open Go Go.RowKit

def PanOK (ch : List PanicEntry) : Prop := ∃ t v, ch = [{ v := .iface t v, recovered := false }]
def PCallP (P : Program) (Gl : Nat → Option (List PV)) (f : FuncId) (args : List PV) (o : Option PV) : Prop :=
  FnOK P f ∧ ∀ (S : Cells) (w : World) (vs : Array Value), (∀ B o, S B o → B < w.heap.size) → (∀ i cs, Gl i = some cs → RelCells S w cs i 0) → All2 (RelD S w) args vs.toList →
    Calls P f vs w fun e w' => (∃ r v g', o = some r ∧ e = .returned v ∧ g'.w = w' ∧ After S w r v g') ∨ (∃ ch g', o = none ∧ e = .panicked ch ∧ PanOK ch ∧ g'.w = w' ∧ After S w (.tup []) (.tuple #[]) g')
section
variable {P : Program} {Gl : Nat → Option (List PV)} {s : PSt}
variable {ops : Array Oper} {Q : Exit → PSt → Prop}
end
end PM
/-
  THE PURE MACHINE, Qo: a deferred closure that recovers.
-/
namespace PM
open Go Go.RowKit

section
variable {P : Program} {Gl : Nat → Option (List PV)} {s : PSt}
structure RecOps (P : Program) (o0 o1 : Oper) (d0 d1 : Nat) : Prop where
  g0 : o0.guard = none
  g1 : o1.guard = none
  e0 : o0.dst = some d0
  e1 : o1.dst = some d1
  r0 : ∀ (a : Act) (w : World), (execOp a.eval o0).run P w = .ok .recover w
  r1 : ∀ (a : Act) (w : World) (t : TypeId) (v : Value), a.eval (.tmp d0) = .iface t v → (execOp a.eval o1).run P w = .ok (.value (.bool true)) w
  r2 : ∀ (a : Act) (w : World), a.eval (.tmp d0) = .nilIface → (execOp a.eval o1).run P w = .ok (.value (.bool false)) w
end
end PM
