/-
  THE PURE MACHINE, Qg: iterators of strings; a map that will not change any more becomes data.
-/
import Derived.Test.YtaoagcnjefialaaDoorPmQf
namespace PM
open Go Go.RowKit

section
variable {P : Program} {Gl : Nat → Option (List PV)} {s : PSt} {d : Bool} {Ls r : List (Oper × Gd)} {Q : PSt → Prop} {S0 : Bs} {w0 : World} {a : Act} {g : GG}
/-! ### Strings, letter by letter -/
theorem run_getObj' {w : World} {r : Nat} {b : ByteArray} {pos : Nat} (hb : w.heap[r]? = some (.stringIter b pos)) : (getObj r).run P w = .ok (.stringIter b pos) w := by
  simp [getObj, Sem.run, hb]
theorem run_setObj' {w : World} {r : Nat} {b : ByteArray} {pos : Nat} (o : Obj) (hb : w.heap[r]? = some (.stringIter b pos)) : (setObj r o).run P w = .ok () { w with heap := w.heap.setIfInBounds r o } := by
  simp [setObj, Sem.run, hb]
def rngHd (P : Program) : List (Oper × Gd) → PSt → Option (ByteArray × Nat)
  | (o, .always) :: _, s => match o.op, o.dst with
    | .range t x, some d => match s.ev x with
      | .str b => if (strT P t && ((s.H d).isNone && decide (d < 1000000))) = true then some (b, d) else none
      | _ => none
    | _, _ => none
  | _, _ => none
theorem p_range {b : ByteArray} {l : Nat} (h : rngHd P Ls s = some (b, l)) (h2 : pops P Gl false (Ls.drop 1) (({ s with H := upd s.H l (some (.iter b 0)) } : PSt).put (some l) (.ref l 0)) Q) : pops P Gl false Ls s Q := by
  unfold rngHd at h
  split at h
  · rename_i s0 o rest
    split at h
    · rename_i t x d hop hdst
      split at h
      · rename_i b' hx
        split at h
        · rename_i hc
          simp only [Option.some.injEq, Prod.mk.injEq] at h
          obtain ⟨rfl, rfl⟩ := h
          simp only [Bool.and_eq_true, decide_eq_true_eq] at hc
          obtain ⟨ht, hH, hd6⟩ := hc
          refine p_sem (n := { s with H := upd s.H d (some (.iter b' 0)) }) (v := .ref d 0) (by rw [hop]; rfl) ?_ (by rw [hdst]; exact h2)
          intro S0 w0 a g K Q' hg hK
          have hxr : a.eval x = .string b' := by have := hg.ev x; rw [hx] at this; simpa [Rel, RelA, Rel1, RelD] using this
          obtain ⟨h1, e1⟩ := hg.grow' (below_alloc g.w (.stringIter b' 0))
          have hz := hg.below.size
          have hl : g.H d = none := by rw [hg.hH]; simpa using hH
          obtain ⟨h2', e2⟩ := h1.addObj (l := d) (B := g.w.heap.size) (ob := .iter b' 0) hl hd6 (.inl (by omega)) (by show g.w.heap.size < (g.w.alloc _).heap.size; simp) (fun o ho => by have := hg.lt _ _ ho; omega)
            (fun l' hl' => hg.phi_lt l' hl') (fun t ht => hg.spare_lt t (ht.congr rfl rfl)) (fun t ht => hg.xb_lt t (ht.congr rfl)) (fun g' hg' hw' => by show g'.w.heap[_]? = _; rw [hw']; exact heap_alloc_new g.w _)
          have ht' : P.underlying t = some .string := by
            unfold strT at ht
            split at ht
            · assumption
            · cases ht
          have hrun : (execOp a.eval o).run P g.w = .ok (.value (.pointer (some ⟨g.w.heap.size, 0, none⟩))) (g.w.alloc (.stringIter b' 0)) := by
            simp [execOp, hop, Instr.range, hxr, run_underlying ht', newObj, Sem.run]
          unfold Oper.wp
          rw [hrun]
          exact hK _ _ h2' (e1.trans e2) (by simp [Rel, RelA, Rel1, upd])
        · cases h
      · cases h
    · cases h
  · cases h
def nxHd : List (Oper × Gd) → PSt → Option Nat
  | (o, .always) :: _, s => match o.op with
    | .next it true => match s.ev it with
      | .ref l 0 => some l
      | _ => none
    | _ => none
  | _, _ => none
theorem p_next_t {b : ByteArray} {pos : Nat} (l : Nat) (hH : s.H l = some (.iter b pos)) (hb : decide (pos < b.size) = true) (h : nxHd Ls s = some l)
    (h2 : pops P Gl false (Ls.drop 1) (({ s with H := upd s.H l (some (.iter b (pos + (Utf8.decode b pos).2))) } : PSt).put (dstHd Ls) (.tup [.bool true, .int .i64 (pos : Int), .int .i32 ((Utf8.decode b pos).1 : Int)])) Q) : pops P Gl false Ls s Q := by
  unfold nxHd at h
  split at h
  · rename_i s0 o rest
    split at h
    · rename_i it hop
      split at h
      · rename_i l' hx
        cases h
        refine p_sem (n := { s with H := upd s.H l (some (.iter b (pos + (Utf8.decode b pos).2))) }) (v := .tup [.bool true, .int .i64 (pos : Int), .int .i32 ((Utf8.decode b pos).1 : Int)]) (by rw [hop]; rfl) ?_ h2
        intro S0 w0 a g K Q' hg hK
        have hgl : g.H l = some (.iter b pos) := by rw [hg.hH]; exact hH
        obtain ⟨o1, o2, o3, o4⟩ := hg.objs l _ hgl
        have o4 : g.w.heap[g.φ l]? = some (.stringIter b pos) := o4
        have hxr : a.eval it = .pointer (some ⟨g.φ l, 0, none⟩) := by have := hg.ev it; rw [hx] at this; exact this.1
        obtain ⟨hs1, hs2⟩ := MapKept.heap_set (o' := .stringIter b (pos + (Utf8.decode b pos).2)) o4
        obtain ⟨h2', e2⟩ := hg.setObj (l := l) (ob' := .iter b (pos + (Utf8.decode b pos).2)) (w' := { g.w with heap := g.w.heap.setIfInBounds (g.φ l) (.stringIter b (pos + (Utf8.decode b pos).2)) }) hgl
          ⟨rfl, rfl, rfl, by simp, fun r hr => hs2 r hr, rfl⟩ (fun cs e => by cases e) (fun g' hg' hw' => by show g'.w.heap[_]? = _; rw [hw']; exact hs1)
        have hrun : (execOp a.eval o).run P g.w = .ok (.value (.tuple #[.bool true, .int .i64 (pos : Int), .int .i32 ((Utf8.decode b pos).1 : Int)])) { g.w with heap := g.w.heap.setIfInBounds (g.φ l) (.stringIter b (pos + (Utf8.decode b pos).2)) } := by
          have hp : pos < b.size := of_decide_eq_true hb
          simp [execOp, hop, Instr.next, hxr, run_getObj' o4, hp, run_setObj' _ o4, goInt]
        unfold Oper.wp
        rw [hrun]
        exact hK _ _ h2' e2 ⟨_, rfl, .cons (by simp [RelA, Rel1, RelD]) (.cons (by simp [RelA, Rel1, RelD]) (.cons (by simp [RelA, Rel1, RelD]) .nil))⟩
      · cases h
    · cases h
  · cases h
theorem p_next_f {b : ByteArray} {pos : Nat} (l : Nat) (hH : s.H l = some (.iter b pos)) (hb : decide (pos < b.size) = false) (h : nxHd Ls s = some l)
    (h2 : pops P Gl false (Ls.drop 1) (s.put (dstHd Ls) (.tup [.bool false])) Q) : pops P Gl false Ls s Q := by
  unfold nxHd at h
  split at h
  · rename_i s0 o rest
    split at h
    · rename_i it hop
      split at h
      · rename_i l' hx
        cases h
        refine p_sem (n := s) (v := .tup [.bool false]) (by rw [hop]; rfl) ?_ h2
        intro S0 w0 a g K Q' hg hK
        have hgl : g.H l = some (.iter b pos) := by rw [hg.hH]; exact hH
        obtain ⟨o1, o2, o3, o4⟩ := hg.objs l _ hgl
        have o4 : g.w.heap[g.φ l]? = some (.stringIter b pos) := o4
        have hxr : a.eval it = .pointer (some ⟨g.φ l, 0, none⟩) := by have := hg.ev it; rw [hx] at this; exact this.1
        have hrun : (execOp a.eval o).run P g.w = .ok (.value (.tuple #[.bool false])) g.w := by
          have hp : ¬ pos < b.size := of_decide_eq_false hb
          simp [execOp, hop, Instr.next, hxr, run_getObj' o4, hp]
        unfold Oper.wp
        rw [hrun]
        exact hK _ g hg (GLe.refl g) ⟨_, rfl, .cons (by simp [RelA, Rel1, RelD]) .nil⟩
      · cases h
    · cases h
  · cases h
/-! ### A map that will not change any more becomes data -/
def shm (l : Nat) (ks vs : List PV) (live : PV → Bool) (p : PV) : PV :=
  if live p = true then p else match p with
    | .mp l' => if l' = l then .fmp ks vs else .any
    | _ => .any
def shmSt (l : Nat) (ks vs : List PV) (ls : List Nat) (s : PSt) : PSt := ⟨s.tm.map (shm l ks vs (liveV (keepH ls s.H) s.T)), keepH ls s.H, s.T, s.X, s.m⟩
theorem InvG.shareMap (h : InvG Gl S0 w0 s a g) {l : Nat} {es : List (PV × PV)} {ls : List Nat} (hl : s.H l = some (.map es)) (hn : ls.contains l = false) (hlive : (ls.all fun i => match s.H i with | some ob => liveO (keepH ls s.H) s.T ob | none => true) = true) :
    ∃ g', InvG Gl S0 w0 (shmSt l (es.map (·.1)) (es.map (·.2)) ls s) a g' ∧ g'.w = g.w := by
  have hgl : g.H l = some (.map es) := by rw [h.hH]; exact hl
  obtain ⟨o1, o2, o3, arr, clock, v1, v2⟩ := h.objs l _ hgl
  have hkeep : ∀ i ob, keepH ls s.H i = some ob → i ∈ ls ∧ g.H i = some ob := fun i ob e => by
    unfold keepH at e
    split at e
    · rename_i hi; rw [h.hH]; exact ⟨hi, e⟩
    · cases e
  have hnl : l ∉ ls := by simpa using hn
  have hcut : Cut g (keepH ls s.H) s.T := ⟨fun t x e => by rw [h.hT]; exact e, fun i cs2 e hi => by
    obtain ⟨ob, hob⟩ := Option.isSome_iff_exists.1 hi
    obtain ⟨_, e2⟩ := hkeep i ob hob
    rw [e] at e2; cases e2
    exact ⟨cs2, hob, rfl⟩⟩
  let g1 : GG := { g with H := keepH ls s.H, T := s.T }
  let g2 : GG := { g with S := fun B o => g.S B o ∨ B = g.φ l, H := keepH ls s.H, T := s.T }
  have hle : GLe g1 g2 := ⟨fun _ _ e => .inl e, fun _ _ _ => rfl, fun _ _ => rfl, fun i ob e => ⟨rfl, ob, e, fun cs2 q => ⟨cs2, q, rfl⟩⟩, fun t n k e => ⟨n, e, Nat.le_refl _, fun _ => rfl⟩⟩
  have up : ∀ (p : PV) (v : Value), RelD g.S g.w p v → RelD g2.S g2.w p v := fun p v q => q.mono (fun _ _ e => .inl e) (fun _ _ _ => rfl) (fun _ _ => rfl)
  have hsp : ∀ t B, Spare g2 t B → Spare g t B := by
    rintro t B ⟨n, k, off, cap, h1, h2, h3⟩
    exact ⟨n, k, off, cap, hcut.T t _ h1, h2, h3⟩
  have href : ∀ v, v = Value.map (some (g.φ l)) → RelD g2.S g2.w (.fmp (es.map (·.1)) (es.map (·.2))) v := fun v e => by
    simp only [RelD]
    refine ⟨?_, .inr ⟨g.φ l, arr, clock, e, fun o => .inr rfl, v1, (relDs_iff _ _).2 ⟨by simp [v2.1], fun i p v hp hv => ?_⟩, (relDs_iff _ _).2 ⟨by simp [v2.1], fun i p v hp hv => ?_⟩⟩⟩
    · rw [List.all_eq_true]
      intro p hp
      obtain ⟨q, hq, rfl⟩ := List.mem_map.1 hp
      obtain ⟨i, hi⟩ := List.getElem?_of_mem hq
      obtain ⟨m, _, hr⟩ := v2.right hi
      exact hr.2.2
    · rw [List.getElem?_map] at hp hv
      obtain ⟨q, hq, rfl⟩ := Option.map_eq_some_iff.1 hp
      obtain ⟨m, hm, rfl⟩ := Option.map_eq_some_iff.1 hv
      exact up _ _ (v2.2 i q m hq hm).1
    · rw [List.getElem?_map] at hp hv
      obtain ⟨q, hq, rfl⟩ := Option.map_eq_some_iff.1 hp
      obtain ⟨m, hm, rfl⟩ := Option.map_eq_some_iff.1 hv
      exact up _ _ (v2.2 i q m hq hm).2.1
  refine ⟨g2, { hH := rfl, hT := rfl, defers := h.defers, len := by simpa [shmSt] using h.len, tm := fun i p v hp hv => ?_, sub := fun B o e => .inl (h.sub B o e), new := fun B o e => ?_, lt := fun B o e => ?_, below := h.below, objs := fun i ob hob => ?_, inj := fun i j hi hj e => ?_, owns := fun t n k ht => ?_, ownsEx := fun t t' B h1 h2 => h.ownsEx t t' B (hsp t B h1) (hsp t' B h2), ownsObj := fun t B i h1 h2 => ?_, glob := fun i cs2 e => (h.glob i cs2 e).mono (fun _ _ q => .inl q) (fun _ _ _ => rfl) (fun _ _ => rfl), exs := fun t k b xss hx => ?_, exsEx := fun t t' B h1 h2 => h.exsEx t t' B h1 h2, fix := fun i B hF => ⟨(h.fix i B hF).1, fun hs => (by
    obtain ⟨x, hx⟩ := Option.isSome_iff_exists.1 hs
    exact (h.fix i B hF).2 (by rw [(hkeep i x hx).2]; rfl))⟩, fixT := fun t v n hF => ⟨(h.fixT t v n hF).1, fun n0 e => (h.fixT t v n hF).2 n0 (hcut.T t _ e)⟩ }, rfl⟩
  rotate_right
  · obtain ⟨q1, q2, q3, q4, q5, q6⟩ := h.exs t k b xss hx
    refine ⟨by show s.T t = _; rw [← h.hT]; exact q1, q2, q3, q4, q5, q6.imp id ?_⟩
    rintro ⟨B, cap, e, hc0, f1, f2, f3, f4, ⟨us, u1, u2⟩, f6, f7, f8⟩
    have hne : g.φ l ≠ B := f7 l (by rw [hgl]; rfl)
    exact ⟨B, cap, e, hc0, f1, f2, f3, fun o ho => ho.elim (f4 o) fun q => hne q.symm, ⟨us, u1.mono fun _ _ q => ⟨up _ _ q.1, q.2⟩, u2⟩, f6, fun i hi => by
      obtain ⟨x, hx⟩ := Option.isSome_iff_exists.1 hi
      exact f7 i (by rw [(hkeep i x hx).2]; rfl), fun t' ht' => f8 t' (hsp t' B ht')⟩
  · simp only [shmSt, List.getElem?_map, Option.map_eq_some_iff] at hp
    obtain ⟨q, hq, rfl⟩ := hp
    have hr := h.tm i q v hq hv
    unfold shm
    by_cases hlv : liveV (keepH ls s.H) s.T q = true
    · rw [if_pos hlv]
      have h1 : Rel g1 q v := hr.live hcut hlv
      exact h1.mono hle
    · rw [if_neg hlv]
      split
      · rename_i l'
        split
        · rename_i e
          subst e
          exact href v hr.1
        · trivial
      · trivial
  · rcases e with e | rfl
    · exact h.new B o e
    · exact .inr o1
  · rcases e with e | rfl
    · exact h.lt B o e
    · exact o2
  · obtain ⟨hi, hgi⟩ := hkeep i ob hob
    obtain ⟨k1, k2, k3, k4⟩ := h.objs i ob hgi
    have hne : g.φ i ≠ g.φ l := fun e => by
      have := h.inj i l (by rw [hgi]; rfl) (by rw [hgl]; rfl) e
      subst this; exact hnl hi
    refine ⟨k1, k2, fun o e => e.elim (k3 o) (fun q => hne q), ?_⟩
    have hlv := List.all_eq_true.1 hlive i hi
    have hsi : s.H i = some ob := by rw [← h.hH]; exact hgi
    rw [hsi] at hlv
    cases ob with
    | cells cs2 =>
      obtain ⟨us, u1, u2, u3⟩ := k4
      refine ⟨us, ⟨u1.1, fun j x y hx hy => ?_⟩, u2, u3⟩
      have h5 := u1.2 j x y hx hy
      have h6 : live1 (keepH ls s.H) s.T x = true := List.all_eq_true.1 hlv x (List.mem_of_getElem? hx)
      have h7 : RelC g1 x y := ⟨h5.1.live hcut h6, h5.2⟩
      exact h7.mono hle
    | iter b pos => exact k4
    | map es =>
      obtain ⟨arr, clock, u1, u2⟩ := k4
      exact ⟨arr, clock, u1, u2.mono fun _ _ q => ⟨up _ _ q.1, up _ _ q.2.1, q.2.2⟩⟩
  · obtain ⟨x, hx⟩ := Option.isSome_iff_exists.1 hi
    obtain ⟨y, hy⟩ := Option.isSome_iff_exists.1 hj
    exact h.inj i j (by rw [(hkeep i x hx).2]; rfl) (by rw [(hkeep j y hy).2]; rfl) e
  · rcases h.owns t n k (hcut.T t _ ht) with e | ⟨B, off, cap, e1, e2, e3⟩
    · exact .inl e
    · refine .inr ⟨B, off, cap, e1, e2, fun hlt => ?_⟩
      obtain ⟨q1, q2, q3, q4⟩ := e3 hlt
      refine ⟨q1, q2, q3, fun hk o ho => ho.elim (q4 hk o) fun e => ?_⟩
      exact absurd e.symm (h.ownsObj t B l ⟨n, k, off, cap, hcut.T t _ ht, e1, hlt⟩ (by rw [hgl]; rfl))
  · obtain ⟨x, hx⟩ := Option.isSome_iff_exists.1 h2
    exact h.ownsObj t B i (hsp t B h1) (by rw [(hkeep i x hx).2]; rfl)
def fmOf {κ ν : Type} [Key κ] [Enc ν] (m : List (κ × ν)) : PV := .fmp (m.map fun e => Enc.pv e.1) (m.map fun e => Enc.pv e.2)
theorem zip_fmOf {κ ν : Type} [Key κ] [Enc ν] (m : List (κ × ν)) : (m.map fun e => (Enc.pv e.1 : PV)).zip (m.map fun e => (Enc.pv e.2 : PV)) = mpOf m := by
  unfold mpOf
  induction m with
  | nil => rfl
  | cons e m ih => simp [ih]
/-- Map l will not change any more. Of the other variables only those of the list ls are kept. -/
theorem g_shm {c : Code} {Q' : Exit → PSt → Prop} {κ ν : Type} [Key κ] [Enc ν] (l : Nat) (ls : List Nat) (m : List (κ × ν)) (hl : s.H l = some (.map (mpOf m))) (hn : ls.contains l = false)
    (hlive : (ls.all fun i => match s.H i with | some ob => liveO (keepH ls s.H) s.T ob | none => true) = true) (h : pwp P Gl c Q' (shmSt l (m.map fun e => Enc.pv e.1) (m.map fun e => Enc.pv e.2) ls s)) : pwp P Gl c Q' s := fun S0 w0 a w hi => by
  obtain ⟨g, rfl, hg⟩ := hi
  obtain ⟨g', h1, h2⟩ := hg.shareMap hl hn hlive
  have e1 : (mpOf m).map (·.1) = m.map fun e => (Enc.pv e.1 : PV) := by simp [mpOf]
  have e2 : (mpOf m).map (·.2) = m.map fun e => (Enc.pv e.2 : PV) := by simp [mpOf]
  rw [e1, e2] at h1
  exact h S0 w0 a _ ⟨g', h2, h1⟩
/-- The reading of a map that does not change, at the head. -/
def lkfHd (P : Program) : List (Oper × Gd) → PSt → Option (List PV × List PV × PV × PV × Bool)
  | (o, .always) :: _, s => match o.op with
    | .lookup t x k ok => match s.ev x, mapKD P t with
      | .fmp ks vs, some (d, z) => if keyD d (s.ev k) = true then some (ks, vs, s.ev k, z, ok) else none
      | _, _ => none
    | _ => none
  | _, _ => none
theorem p_lookupF {κ ν : Type} [Key κ] [Enc ν] {m : List (κ × ν)} {k : κ} (z : ν) (ok : Bool) (h : lkfHd P Ls s = some (m.map fun e => Enc.pv e.1, m.map fun e => Enc.pv e.2, Enc.pv k, Enc.pv z, ok))
    (h2 : pops P Gl d (Ls.drop 1) (s.put (dstHd Ls) (if ok = true then .tup [Enc.pv ((mget m k).getD z), .bool (mget m k).isSome] else Enc.pv ((mget m k).getD z))) Q) : pops P Gl d Ls s Q := by
  refine p_step (e := .none) ?_ h2
  unfold lkfHd at h
  split at h
  · rename_i o rest s
    split at h
    · rename_i t x k' ok' hop
      split at h
      · rename_i ks vs d z' hx hm
        split at h
        · rename_i hd
          simp only [Option.some.injEq, Prod.mk.injEq] at h
          obtain ⟨rfl, rfl, hk, rfl, rfl⟩ := h
          simp only [evHd, hop, callOf, evO, memOp, Bool.false_eq_true, if_false, ev1, hx, evLookup, hm]
          rw [if_pos hd, hk, zip_fmOf, pfind_mp]
          simp only [Option.map_some]
          cases mget m k <;> cases ok' <;> rfl
        · cases h
      · cases h
    · cases h
  · cases h
/-! ### A list that may be nil -/
theorem ub_nil {α : Type} [Enc α] {L : List α} (h : (L.map cellsOf).isEmpty = true) : L = [] := by
  cases L with
  | nil => rfl
  | cons x l => simp at h
theorem clone_nil {α : Type} [Enc α] {L : List α} (hL : L = []) {r : List α} (h : ((appO ([] : List α) L).bind fun m => some m) = some r) : (some [] : Option (List α)) = some r := by
  subst hL
  simpa [appO, sizeMax] using h
/-! ### Parts of strings -/
def sslO (b : ByteArray) (lo hi : Option Int) : Option ByteArray :=
  match bndI lo 0, bndI hi b.size with
  | some l, some h => if l ≤ h ∧ h ≤ b.size then some (b.extract l h) else none
  | _, _ => none
def sslHd (P : Program) : List (Oper × Gd) → PSt → Option (ByteArray × Option PV × Option PV)
  | (o, .always) :: _, s => match o.op with
    | .slice t x lo hi none => match s.ev x with
      | .str b => if strT P t = true then some (b, lo.map s.ev, hi.map s.ev) else none
      | _ => none
    | _ => none
  | _, _ => none
theorem p_ssl {b M : ByteArray} {lo hi : Option Int} (hM : sslO b lo hi = some M) (h : sslHd P Ls s = some (b, pvI lo, pvI hi)) (h2 : pops P Gl d (Ls.drop 1) (s.put (dstHd Ls) (.str M)) Q) : pops P Gl d Ls s Q := by
  refine p_step (e := .none) ?_ h2
  unfold sslHd at h
  split at h
  · rename_i s0 oo rest
    split at h
    · rename_i t x lo' hi' hop
      split at h
      · rename_i b' hx
        split at h
        · rename_i ht
          simp only [Option.some.injEq, Prod.mk.injEq] at h
          obtain ⟨rfl, hlo, hhi⟩ := h
          simp only [evHd, hop, callOf, evO, memOp, Bool.false_eq_true, if_false, ev1, hx, hlo, hhi, Option.map_none, evSlice, bnd_pvI]
          unfold sslO at hM
          split at hM
          · rename_i l h1 e1 e2
            rw [e1, e2]
            split at hM
            · rename_i hc
              cases hM
              simp only
              rw [if_pos ⟨ht, hc.1, hc.2, trivial⟩]; rfl
            · cases hM
          · cases hM
        · cases h
      · cases h
    · cases h
  · cases h
/-! ### Division -/
def remO (a b : Int) : Option Int := if b = 0 then none else some (a.tmod b)
def remRes (a b : Int) : Option (PV × Eff) := (if b = 0 then none else some (PV.int .i64 (a.tmod b))).map fun v => (v, Eff.none)
theorem p_rem {x y z : Int} (hz : remO x y = some z) (h : evHd P Gl Ls s = remRes x y) (h2 : pops P Gl d (Ls.drop 1) (s.put (dstHd Ls) (.int .i64 z)) Q) : pops P Gl d Ls s Q := by
  refine p_step (e := .none) ?_ h2
  rw [h]
  unfold remO at hz
  unfold remRes
  split at hz
  · cases hz
  · rename_i h0
    cases hz
    rw [if_neg h0]; rfl
def quoO (a b : Int) : Option Int := if b = 0 then none else some (w64 (a.tdiv b))
def quoRes (a b : Int) : Option (PV × Eff) := (if b = 0 then none else some (PV.int .i64 (w64 (a.tdiv b)))).map fun v => (v, Eff.none)
theorem p_quo {x y z : Int} (hz : quoO x y = some z) (h : evHd P Gl Ls s = quoRes x y) (h2 : pops P Gl d (Ls.drop 1) (s.put (dstHd Ls) (.int .i64 z)) Q) : pops P Gl d Ls s Q := by
  refine p_step (e := .none) ?_ h2
  rw [h]
  unfold quoO at hz
  unfold quoRes
  split at hz
  · cases hz
  · rename_i h0
    cases hz
    rw [if_neg h0]; rfl
end
end PM
