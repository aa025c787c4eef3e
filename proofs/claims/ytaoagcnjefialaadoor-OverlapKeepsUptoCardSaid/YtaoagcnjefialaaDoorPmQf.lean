/-
  THE PURE MACHINE, Qf: functions that return a list that nobody else holds.
-/
import Derived.Test.YtaoagcnjefialaaDoorPmQe
namespace PM
open Go Go.RowKit
section
variable {P : Program} {Gl : Nat → Option (List PV)} {s : PSt} {Q : Exit → PSt → Prop}
def xresQ (P : Program) (Gl : Nat → Option (List PV)) (rs : List ResultVar) (k b : Nat) (xss : List (List PV)) : Exit → PSt → Prop
  | .normal, s | .ret, s => ∃ t N, (resPV P Gl s rs, s.X t, s.T t) = (some [.ex t k b N 0 N], some (k, b, xss), some (N, 0))
  | _, _ => False
theorem q_xres {rs : List ResultVar} {k b : Nat} {xss : List (List PV)} (t N : Nat) (h : (resPV P Gl s rs, s.X t, s.T t) = (some [.ex t k b N 0 N], some (k, b, xss), some (N, 0))) : xresQ P Gl rs k b xss .ret s := ⟨t, N, h⟩
theorem pcallx_of_pwp {f : FuncId} {fn : Func} {c : Code} {args : List PV} {k b n : Nat} {xss : List (List PV)} {rs : List ResultVar} (hf : P.funcs[f]? = some fn) (hname : (fn.name == "runtime.NumGoroutine") = false) (hb : fn.body = some c)
    (hn : fn.ntmps = n) (hrs : fn.results.toList = rs) (hflat : args.all flatArg = true) (h : pwp P Gl c (xresQ P Gl rs k b xss) (st0 args n)) : PCallX P Gl f args k b xss := by
  refine ⟨⟨fn, hf, hname, by rw [hb]; rfl⟩, fun S w vs hS hglob hargs => ?_⟩
  subst hn; subst hrs
  refine calls_of_wp hf hb ?_
  have hsz : args.length = vs.size := by rw [hargs.1]; simp
  have hE : ∀ B, ¬ Bs.E ⟨S, fun _ _ => False, fun _ _ _ => False, [], []⟩ B := fun B e => e.elim (fun q => q.elim fun _ q => q) fun q => by obtain ⟨_, _, _, q, _⟩ := q; exact q
  have hinit : Inv Gl ⟨S, fun _ _ => False, fun _ _ _ => False, [], []⟩ w (st0 args fn.ntmps) { tmps := vs ++ Array.replicate (fn.ntmps - vs.size) undef, defers := [] } w := by
    refine ⟨⟨S, w, fun _ => 0, fun _ => undef, fun _ => none, fun _ => none⟩, rfl, { hH := rfl, hT := rfl, defers := rfl, len := by simp [st0, hsz], tm := fun i p v hp hv => ?_, sub := fun _ _ h => h, new := fun _ _ h => .inl h, lt := hS, below := BelowE.refl _ _, objs := (fun l ob e => by cases e), inj := (fun l l' e => by cases e), owns := (fun t n k e => by cases e), ownsEx := (fun t t' B hs => by obtain ⟨_, _, _, _, e, _⟩ := hs; cases e), ownsObj := (fun t B l hs => by obtain ⟨_, _, _, _, e, _⟩ := hs; cases e), glob := hglob, exs := (fun t k b xss e => by cases e), exsEx := (fun t t' B hs => by have := hs.1; cases this), fix := fun _ _ e => e.elim, fixT := fun _ _ _ e => e.elim }⟩
    simp only [st0] at hp
    simp only [List.append_nil, Array.getElem?_toList] at hv
    rw [List.getElem?_append] at hp
    by_cases hi : i < args.length
    · rw [if_pos hi] at hp
      rw [Array.getElem?_append_left (by omega)] at hv
      exact Rel.ofData (g := ⟨S, w, _, _, _, _⟩) (hargs.2 i p v hp (by simpa using hv)) (List.all_eq_true.1 hflat p (List.mem_of_getElem? hp))
    · rw [if_neg hi, List.getElem?_replicate] at hp
      split at hp
      · cases hp; trivial
      · cases hp
  refine wp_mono (fun e a' w' hq => ?_) (h ⟨S, fun _ _ => False, fun _ _ _ => False, [], []⟩ w _ w hinit)
  obtain ⟨s', hq, g, rfl, hg⟩ := hq
  have fin : (∃ t N, (resPV P Gl s' fn.results.toList, s'.X t, s'.T t) = (some [.ex t k b N 0 N], some (k, b, xss), some (N, 0))) → a'.defers = [] ∧ ∃ v, (results fn a'.tmps).run P g.w = .ok v g.w ∧ ∃ v_1 S', Ending.returned v = .returned v_1 ∧ BelowD w.heap.size w g.w ∧ (∀ B o, S B o → S' B o) ∧ (∀ B o, S' B o → S B o ∨ (w.heap.size ≤ B ∧ B < g.w.heap.size)) ∧ XIn S' g.w k b xss v_1 ∧ ∀ B, HB v_1 B → w.heap.size ≤ B := by
    rintro ⟨t, N, hfin⟩
    simp only [Prod.mk.injEq] at hfin
    obtain ⟨f3, f1, f2⟩ := hfin
    refine ⟨hg.defers, ?_⟩
    obtain ⟨us, r1, r2⟩ := run_resPV hg _ _ f3
    obtain ⟨v, vs', rfl, r3, r4⟩ := r2.cons_left
    have hnil := r4.nil_left
    subst hnil
    have hN : N = xss.length := by
      have := (hg.exs _ _ _ _ f1).1
      rw [hg.hT, f2] at this; simp only [Option.some.injEq, Prod.mk.injEq] at this; exact this.1
    simp only [Rel, RelA, Rel1] at r3
    obtain ⟨_, N', t1, t2, t3⟩ := r3
    have hgT : g.T t = some (N, 0) := by rw [hg.hT]; exact f2
    rw [hgT] at t1; cases t1
    have hvh : v = g.hd t := by
      rcases t3 rfl with ⟨e1, _⟩ | ⟨B, cap, off, e1, e0, _, _, e2, e3⟩
      · exact e1
      · rw [e1, e2, show off = 0 by omega]; simp
    have hxin := hg.xin f1
    rw [← hvh] at hxin
    refine ⟨v, ?_, v, g.S, rfl, hg.below.toBelow hE, hg.sub, fun B o ho => ?_, hxin, ?_⟩
    · rw [results_eq, Array.mapM_eq_mapM_toList]
      simp only [Sem.run_bind, Sem.run_map, r1, Result.andThen_ok, Sem.run_pure]
      simp
    · rcases hg.new B o ho with e | e | e
      · exact .inl e
      · exact .inr ⟨e, hg.lt B o ho⟩
      · exact absurd e (hE B)
    · rintro B ⟨off, m, cap, e1, e2⟩
      obtain ⟨_, _, hx⟩ := hg.exAt f1 (B := B) (off := off) (n := m) (cap := cap) (by rw [← hvh]; exact e1) e2
      exact hx.2.1.resolve_right (hE B)
  cases e with
  | normal => exact fin hq
  | ret => exact fin hq
  | exit id => exact hq.elim
  | goto l => exact hq.elim
  | panic ch => exact hq.elim
  | outgrown => exact hq.elim
end
end PM
