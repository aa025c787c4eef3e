/-
  THE PURE MACHINE, Qh: a call whose body is walked in place: the caller's slots are laid aside.
-/
import Derived.Test.YtaoagcnjefialaaDoorPmQg
namespace PM
open Go Go.RowKit

/-- What is left of a region comes to a state of which Q holds. -/
def wl (P : Program) (Gl : Nat → Option (List PV)) (ops : Array Oper) (L : List Oper) (s : PSt) (Q : PSt → Prop) : Prop :=
  ∀ (S0 : Bs) (w0 : World) (a : Act) (w : World) (Q' : Exit → Act → World → Prop), (∀ s' a' w', Q s' → Inv Gl S0 w0 s' a' w' → Q' .normal a' w') → Inv Gl S0 w0 s a w → wpList P ops Q' L a w
section
variable {P : Program} {Gl : Nat → Option (List PV)} {s : PSt} {ops : Array Oper} {Q : PSt → Prop}
theorem wl_end (h : Q s) : wl P Gl ops [] s Q := fun S0 w0 a w Q' hQ hi => hQ s a w h hi
theorem wl_pops : ∀ (l1 : List Oper) {l2 : List Oper} {s : PSt}, pops P Gl false (l1.map fun o => (o, gdOf ops o)) s (Up fun s' => wl P Gl ops l2 s' Q) → wl P Gl ops (l1 ++ l2) s Q
  | [], l2, s, h => fun S0 w0 a w Q' hQ hi => let ⟨s2, h1, h2⟩ := h; h2 S0 w0 a w Q' hQ (hi.fade h1)
  | o :: l, l2, s, hp => fun S0 w0 a w Q' hQ hi => by
    obtain ⟨g, rfl, h⟩ := hi
    simp only [List.cons_append]
    unfold wpList
    simp only [List.map_cons, pops] at hp
    rcases wanted_gd h hp with ⟨h1, h2⟩ | ⟨h1, h2⟩
    · rw [if_pos h1]
      exact .inl (stepOp_sound h h2 fun s' a' w' hs' hi' => wl_pops l hs' S0 w0 a' w' Q' hQ hi')
    · rw [if_neg (by rw [h1]; simp)]
      exact wl_pops l h2 S0 w0 _ _ Q' hQ ⟨g, rfl, h.put _ (Rel.und _)⟩
/-- n operations, and what is behind them. -/
theorem wl_run (k n : Nat) (h : pops P Gl false (((withGd ops).drop k).take n) s (Up fun s' => wl P Gl ops (ops.toList.drop (k + n)) s' Q)) : wl P Gl ops (ops.toList.drop k) s Q := by
  have e : ops.toList.drop k = (ops.toList.drop k).take n ++ ops.toList.drop (k + n) := by
    rw [← List.drop_drop, List.take_append_drop]
  rw [e]
  refine wl_pops _ ?_
  simpa [withGd, List.map_drop, List.map_take] using h
theorem r_regi {Q : Exit → PSt → Prop} {id : Nat} (h : wl P Gl ops (ops.toList.drop 0) s (Q .normal)) : pwp P Gl (.region id ops false) Q s := fun S0 w0 a w hi =>
  wp_region_list (h S0 w0 a w _ (fun s' _ _ q i => ⟨s', q, i⟩) hi)
/-- The state in which the body of a call begins. -/
def inlSt (n : Nat) (as : List PV) (s : PSt) : PSt := { s with tm := (as ++ List.replicate (n - as.length) .any) ++ s.tm, m := s.tm.length }
/-- The caller's state behind the body. -/
def outSt (m0 : Nat) (dst : Option Nat) (r : PV) (s : PSt) : PSt := ({ s with tm := s.tm.drop (s.tm.length - s.m), m := m0 } : PSt).put dst r
def inlQ (P : Program) (Gl : Nat → Option (List PV)) (rs : List ResultVar) (m0 : Nat) (dst : Option Nat) (K : PSt → Prop) : Exit → PSt → Prop
  | .normal, s | .ret, s => ∃ vs r, resPV P Gl s rs = some vs ∧ onePV vs = some r ∧ K (outSt m0 dst r s)
  | _, _ => False
theorem q_inl {rs : List ResultVar} {m0 : Nat} {dst : Option Nat} {K : PSt → Prop} {r : PV} (h : (resPV P Gl s rs).bind onePV = some r) (h2 : K (outSt m0 dst r s)) : inlQ P Gl rs m0 dst K .ret s := by
  obtain ⟨vs, e1, e2⟩ := Option.bind_eq_some_iff.1 h
  exact ⟨vs, r, e1, e2, h2⟩
theorem q_inln {rs : List ResultVar} {m0 : Nat} {dst : Option Nat} {K : PSt → Prop} {r : PV} (h : (resPV P Gl s rs).bind onePV = some r) (h2 : K (outSt m0 dst r s)) : inlQ P Gl rs m0 dst K .normal s := by
  obtain ⟨vs, e1, e2⟩ := Option.bind_eq_some_iff.1 h
  exact ⟨vs, r, e1, e2, h2⟩
/-- All ways of the body end in a state that is such. -/
def inlPost (J : JS) (n : Nat) (e : Exit) (s : PSt) : Prop := (e = .normal ∨ e = .ret) ∧ Wkr s (J.st n)
theorem q_ij {J : JS} {n : Nat} (hok : J.ok = true) (h : J.seen s = J.told n) : inlPost J n .ret s := ⟨.inr rfl, .of hok h⟩
theorem q_ijn {J : JS} {n : Nat} (hok : J.ok = true) (h : J.seen s = J.told n) : inlPost J n .normal s := ⟨.inl rfl, .of hok h⟩
theorem q_ij_w {s1 : PSt} {J : JS} {n : Nat} (hw : Wkr s s1) (hok : J.ok = true) (h : J.seen s1 = J.told n) : inlPost J n .ret s := ⟨.inr rfl, hw.trans (.of hok h)⟩
theorem q_ijn_w {s1 : PSt} {J : JS} {n : Nat} (hw : Wkr s s1) (hok : J.ok = true) (h : J.seen s1 = J.told n) : inlPost J n .normal s := ⟨.inl rfl, hw.trans (.of hok h)⟩
theorem r_joinI {c : Code} {rs : List ResultVar} {m0 : Nat} {dst : Option Nat} {K : PSt → Prop} {α : Type} (o : α) (n : Nat) (J : α → JS) (h1 : pwp P Gl c (inlPost (J o) n) s) (h2 : inlQ P Gl rs m0 dst K .ret ((J o).st n)) : pwp P Gl c (inlQ P Gl rs m0 dst K) s := fun S0 w0 a w hi =>
  wp_mono (fun e a' w' ⟨s', ⟨he, hw⟩, hi'⟩ => by
    have hi2 := hw Gl S0 w0 a' w' hi'
    rcases he with rfl | rfl
    · exact ⟨_, h2, hi2⟩
    · exact ⟨_, h2, hi2⟩) (h1 S0 w0 a w hi)
/-- The call at the head: function, and all that it gets. -/
def inlHd : List Oper → PSt → Option (FuncId × List PV)
  | o :: _, s => match o.guard, callOf o.op with
    | none, some (x, args) => match s.ev x with
      | .fn f caps => if caps.all capOK = true then some (f, args.map s.ev ++ caps) else none
      | _ => none
    | _, _ => none
  | [], _ => none
def dstO : List Oper → Option Nat
  | o :: _ => o.dst
  | [] => none
theorem p_inl {f n : Nat} {fn : Func} {c : Code} {asx : List PV} {rs : List ResultVar} {L : List Oper} (h : inlHd L s = some (f, asx)) (hf : P.funcs[f]? = some fn) (hname : (fn.name == "runtime.NumGoroutine") = false) (hb : fn.body = some c) (hn : fn.ntmps = n) (hrs : fn.results.toList = rs)
    (h2 : pwp P Gl c (inlQ P Gl rs s.m (dstO L) fun s' => wl P Gl ops (L.drop 1) s' Q) (inlSt n asx s)) : wl P Gl ops L s Q := by
  subst hn; subst hrs
  cases L with
  | nil => cases h
  | cons o r =>
    simp only [inlHd] at h
    split at h
    · rename_i x args hg hco
      split at h
      · rename_i f' caps e1
        split at h
        rotate_left
        · cases h
        rename_i hcap
        simp only [Option.some.injEq, Prod.mk.injEq] at h
        obtain ⟨rfl, rfl⟩ := h
        obtain ⟨cl, hop, hcal, hargs⟩ := callOf_spec hco
        intro S0 w0 a w Q' hQ hi
        obtain ⟨g, rfl, hI⟩ := hi
        have hx := hI.ev x
        rw [e1] at hx
        simp only [Rel, RelA, Rel1] at hx
        obtain ⟨arr, hfv, hcaps⟩ := hx
        have hall : All2 (Rel g) (args.map s.ev ++ caps) ((cl.args.map a.eval ++ arr).toList) := by
          rw [Array.toList_append, Array.toList_map, hargs]
          refine All2.append ⟨by simp, fun i p v hp hv => ?_⟩ ⟨hcaps.1, fun i p v hp hv => ?_⟩
          · rw [List.getElem?_map] at hp hv
            cases hi : args[i]? with
            | none => rw [hi] at hp; cases hp
            | some y => rw [hi] at hp hv; cases hp; cases hv; exact hI.ev y
          · have hpv := hcaps.2 i p v hp hv
            have h2 := List.all_eq_true.1 hcap p (List.mem_of_getElem? hp)
            cases p <;> simp only [capOK] at h2 <;> try cases h2
            all_goals exact hpv
        have hrun : (execOp a.eval o).run P g.w = .ok (.enter f' (cl.args.map a.eval ++ arr)) g.w := by
          have hne : fn.name ≠ "runtime.NumGoroutine" := by simpa using hname
          have hbody : fn.body ≠ none := fun e => by rw [e] at hb; cases hb
          simp [execOp, hop, resolve, hcal, hfv, Deferred.ofValue, invoke, callFunc, run_program, hf, hne, hbody]
        generalize hVS : cl.args.map a.eval ++ arr = VS at hall hrun
        generalize hAS : args.map s.ev ++ caps = AS at hall h2
        unfold wpList
        have hw : Region.wanted o (yielded ops a.tmps) = true := by unfold Region.wanted; rw [hg]
        rw [if_pos hw]
        left
        unfold Oper.wp
        rw [hrun]
        refine calls_of_wp hf hb ?_
        have hlen := hI.len
        have hsz : AS.length = VS.size := by rw [hall.1]; simp
        let S1 : Bs := { S0 with St := a.tmps.toList ++ S0.St, D := [] }
        have hinit : Inv Gl S1 w0 (inlSt fn.ntmps AS s) { tmps := VS ++ Array.replicate (fn.ntmps - VS.size) undef, defers := [] } g.w := by
          refine ⟨g, rfl, { hI with defers := rfl, len := ⟨?_, ?_⟩, tm := fun i p v hp hv => ?_ }⟩
          · simp only [inlSt, List.length_append, List.length_replicate, Array.size_append, Array.size_replicate, hsz]
          · simp only [inlSt]
            show (a.tmps.toList ++ S0.St).length = _
            rw [List.length_append, Array.length_toList]; omega
          · simp only [inlSt] at hp
            have hl2 : (AS ++ List.replicate (fn.ntmps - AS.length) PV.any).length = (VS ++ Array.replicate (fn.ntmps - VS.size) undef).toList.length := by
              simp [hsz]
            rw [List.getElem?_append] at hp
            have hv : ((VS ++ Array.replicate (fn.ntmps - VS.size) undef).toList ++ (a.tmps.toList ++ S0.St))[i]? = some v := hv
            rw [List.getElem?_append, ← hl2] at hv
            by_cases hi : i < (AS ++ List.replicate (fn.ntmps - AS.length) PV.any).length
            · rw [if_pos hi] at hp hv
              rw [List.getElem?_append] at hp
              by_cases hi2 : i < AS.length
              · rw [if_pos hi2] at hp
                rw [Array.toList_append, List.getElem?_append_left (by rw [← hall.1]; exact hi2)] at hv
                exact hall.2 i p v hp hv
              · rw [if_neg hi2, List.getElem?_replicate] at hp
                split at hp
                · cases hp; trivial
                · cases hp
            · rw [if_neg hi] at hp hv
              exact hI.tm _ p v hp hv
        refine wp_mono (fun e a' w' hq => ?_) (h2 S1 w0 _ g.w hinit)
        obtain ⟨s', hq, g', rfl, hg'⟩ := hq
        have fin : (∃ vs r', resPV P Gl s' fn.results.toList = some vs ∧ onePV vs = some r' ∧ wl P Gl ops r (outSt s.m o.dst r' s') Q) → a'.defers = [] ∧ ∃ v, (results fn a'.tmps).run P g'.w = .ok v g'.w ∧ wpList P ops Q' r (a.put o.dst v) g'.w := by
          rintro ⟨vs, r', k1, k2, k3⟩
          refine ⟨hg'.defers, ?_⟩
          obtain ⟨us, r1, r2⟩ := run_resPV hg' _ _ k1
          refine ⟨if h : us.toArray.size = 1 then us.toArray[0] else .tuple us.toArray, ?_, k3 S0 w0 _ _ Q' hQ ⟨g', rfl, ?_⟩⟩
          · rw [results_eq, Array.mapM_eq_mapM_toList]
            simp only [Sem.run_bind, Sem.run_map, r1, Result.andThen_ok, Sem.run_pure]
          · have hl' := hg'.len
            have hm : s'.m = s.tm.length := by
              have := hl'.2
              have e : (a.tmps.toList ++ S0.St).length = s'.m := this
              rw [List.length_append, Array.length_toList] at e; omega
            have hbase : InvG Gl S0 w0 { s' with tm := s'.tm.drop (s'.tm.length - s'.m), m := s.m } a g' := by
              refine { hg' with defers := hI.defers, len := ⟨?_, hlen.2⟩, tm := fun i p v hp hv => ?_ }
              · show (s'.tm.drop (s'.tm.length - s'.m)).length = a.tmps.size + s.m
                rw [List.length_drop]; omega
              · have hp : (s'.tm.drop (s'.tm.length - s'.m))[i]? = some p := hp
                rw [List.getElem?_drop] at hp
                refine hg'.tm _ p v hp ?_
                show (a'.tmps.toList ++ (a.tmps.toList ++ S0.St))[_]? = some v
                have e : s'.tm.length - s'.m = a'.tmps.toList.length := by rw [Array.length_toList]; omega
                rw [e, List.getElem?_append_right (by omega), Nat.add_sub_cancel_left]
                exact hv
            exact hbase.put _ (onePV_spec k2 r2)
        cases e with
        | normal => exact fin hq
        | ret => exact fin hq
        | exit id => exact hq.elim
        | goto l => exact hq.elim
        | panic ch => exact hq.elim
        | outgrown => exact hq.elim
      · cases h
    · cases h
end
end PM
