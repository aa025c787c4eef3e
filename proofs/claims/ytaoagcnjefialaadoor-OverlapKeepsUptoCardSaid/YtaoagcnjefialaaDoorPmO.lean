/-
  THE PURE MACHINE, O: typed maps, made lists, bytes of strings, variables that will not change any more.
-/
import Derived.Test.YtaoagcnjefialaaDoorPmP
namespace PM
open Go Go.RowKit

/-! ### Maps -/
/-- Keys of maps. -/
class Key (κ : Type) extends Enc κ where
  deq : DecidableEq κ
  keq : ∀ a b : κ, pkeyEq (pv a) (pv b) = some (decide (a = b))
instance {κ : Type} [Key κ] : DecidableEq κ := Key.deq
instance : Key Int := { (inferInstance : Enc Int) with deq := inferInstance, keq := fun _ _ => rfl }
instance : Key ByteArray := { (inferInstance : Enc ByteArray) with deq := inferInstance, keq := fun _ _ => rfl }
section
variable {κ ν : Type} [Key κ] [Enc ν]
def mpOf (m : List (κ × ν)) : List (PV × PV) := m.map fun e => (Enc.pv e.1, Enc.pv e.2)
def mget (m : List (κ × ν)) (k : κ) : Option ν := (m.find? fun e => decide (k = e.1)).map (·.2)
def mset (k : κ) (v : ν) : List (κ × ν) → List (κ × ν)
  | [] => [(k, v)]
  | e :: es => if k = e.1 then (k, v) :: es else e :: mset k v es
theorem pfind_mp (k : κ) : ∀ m : List (κ × ν), pfind (Enc.pv k) (mpOf m) = some ((mget m k).map Enc.pv)
  | [] => rfl
  | e :: es => by
    have ih := pfind_mp k es
    unfold mpOf mget at ih ⊢
    simp only [List.map_cons, pfind, Key.keq, List.find?_cons]
    by_cases h : k = e.1
    · simp [h]
    · simp only [h, decide_false]
      exact ih
theorem pset_mp (k : κ) (v : ν) : ∀ m : List (κ × ν), pset (Enc.pv k) (Enc.pv v) (mpOf m) = some (mpOf (mset k v m))
  | [] => rfl
  | e :: es => by
    have ih := pset_mp k v es
    unfold mpOf at ih ⊢
    simp only [List.map_cons, pset, Key.keq, mset]
    by_cases h : k = e.1
    · simp [h]
    · simp only [h, decide_false, if_false, List.map_cons, ih, Option.map_some]
/-- The reading of a map at the head: the map, the key, the zero value, and whether it tells if the key is there. -/
def lkHd (P : Program) : List (Oper × Gd) → PSt → Option (Nat × PV × PV × Bool)
  | (o, .always) :: _, s => match o.op with
    | .lookup t x k ok => match s.ev x, mapKD P t with
      | .mp l, some (d, z) => if keyD d (s.ev k) = true then some (l, s.ev k, z, ok) else none
      | _, _ => none
    | _ => none
  | _, _ => none
/-- The writing of a map at the head. -/
def msHd (P : Program) : List (Oper × Gd) → PSt → Option (Nat × PV × Option PV)
  | (o, .always) :: _, s => match o.op with
    | .mapUpdate t m k x => match s.ev m, mapKD P t with
      | .mp l, some (d, _) => if keyD d (s.ev k) = true then some (l, s.ev k, datumA (s.ev x)) else none
      | _, _ => none
    | _ => none
  | _, _ => none
variable {P : Program} {Gl : Nat → Option (List PV)} {s : PSt} {d : Bool} {Ls : List (Oper × Gd)} {Q : PSt → Prop}
theorem p_lookup {m : List (κ × ν)} {k : κ} (z : ν) (l : Nat) (hH : s.H l = some (.map (mpOf m))) (h : lkHd P Ls s = some (l, Enc.pv k, Enc.pv z, false))
    (h2 : pops P Gl d (Ls.drop 1) (s.put (dstHd Ls) (Enc.pv ((mget m k).getD z))) Q) : pops P Gl d Ls s Q := by
  refine p_step (e := .none) ?_ h2
  unfold lkHd at h
  split at h
  · rename_i o rest s
    split at h
    · rename_i t x k' ok hop
      split at h
      · rename_i l' d z' hx hm
        split at h
        · rename_i hd
          simp only [Option.some.injEq, Prod.mk.injEq] at h
          obtain ⟨rfl, hk, rfl, rfl⟩ := h
          simp only [evHd, hop, callOf, evO, memOp, Bool.false_eq_true, if_false, ev1, hx, hH, evLookup, hm]
          rw [if_pos hd, hk, pfind_mp]
          simp only [Option.map_some]
          cases mget m k <;> rfl
        · cases h
      · cases h
    · cases h
  · cases h
theorem p_lookup2 {m : List (κ × ν)} {k : κ} (z : ν) (l : Nat) (hH : s.H l = some (.map (mpOf m))) (h : lkHd P Ls s = some (l, Enc.pv k, Enc.pv z, true))
    (h2 : pops P Gl d (Ls.drop 1) (s.put (dstHd Ls) (.tup [Enc.pv ((mget m k).getD z), .bool (mget m k).isSome])) Q) : pops P Gl d Ls s Q := by
  refine p_step (e := .none) ?_ h2
  unfold lkHd at h
  split at h
  · rename_i o rest s
    split at h
    · rename_i t x k' ok hop
      split at h
      · rename_i l' d z' hx hm
        split at h
        · rename_i hd
          simp only [Option.some.injEq, Prod.mk.injEq] at h
          obtain ⟨rfl, hk, rfl, rfl⟩ := h
          simp only [evHd, hop, callOf, evO, memOp, Bool.false_eq_true, if_false, ev1, hx, hH, evLookup, hm]
          rw [if_pos hd, hk, pfind_mp]
          simp only [Option.map_some, if_true]
          cases mget m k <;> rfl
        · cases h
      · cases h
    · cases h
  · cases h
theorem p_mset {m : List (κ × ν)} {k : κ} {v : ν} (l : Nat) (hH : s.H l = some (.map (mpOf m))) (h : msHd P Ls s = some (l, Enc.pv k, some (Enc.pv v))) (hf : flatV (Enc.pv v) = true)
    (h2 : pops P Gl d (Ls.drop 1) (({ s with H := upd s.H l (some (.map (mpOf (mset k v m)))) } : PSt).put (dstHd Ls) .any) Q) : pops P Gl d Ls s Q := by
  refine p_step (v := .any) (e := .obj l (.map (mpOf (mset k v m)))) ?_ h2
  unfold msHd at h
  split at h
  · rename_i o rest s
    split at h
    · rename_i t x k' y hop
      split at h
      · rename_i l' d z' hx hm
        split at h
        · rename_i hd
          simp only [Option.some.injEq, Prod.mk.injEq] at h
          obtain ⟨rfl, hk, hy⟩ := h
          simp only [evHd, hop, callOf, evO, memOp, if_true, evE, hx, hH, hm, hy]
          rw [if_pos ⟨hd, hf⟩, hk, pset_mp]
          rfl
        · cases h
      · cases h
    · cases h
  · cases h
end

/-! ### Made lists, bytes of strings -/
section
variable {α : Type} [Enc α] {P : Program} {Gl : Nat → Option (List PV)} {s : PSt} {d : Bool} {Ls : List (Oper × Gd)} {Q : PSt → Prop}
def mkO (α : Type) [Enc α] (c : Int) : Option (List α) := if 0 ≤ c ∧ c.toNat * Enc.b α ≤ sizeMax ∧ c.toNat ≤ sizeMax then some [] else none
def mkHd (P : Program) : List (Oper × Gd) → PSt → Option (Nat × Nat × Nat × PV)
  | (o, .always) :: _, s => match o.op, o.dst with
    | .makeSlice t n c, some d => match appK P t, s.ev n with
      | some (_, k, b), .int _ n0 => if n0 = 0 ∧ (s.T d).isNone = true then some (d, k, b, s.ev c) else none
      | _, _ => none
    | _, _ => none
  | _, _ => none
theorem p_mks {c : Int} {M : List α} (tk : Nat) (hM : mkO α c = some M) (h : mkHd P Ls s = some (tk, Enc.k α, Enc.b α, .int .i64 c))
    (h2 : pops P Gl d (Ls.drop 1) (({ s with T := upd s.T tk (some ((M.map cellsOf).length, Enc.k α)) } : PSt).put (dstHd Ls) (lstOf (.own tk) M)) Q) : pops P Gl d Ls s Q := by
  unfold mkO at hM
  split at hM
  · rename_i hc
    cases hM
    refine p_step (v := .lst (.own tk) (Enc.k α) (Enc.b α) []) (e := .tok tk 0 (Enc.k α)) ?_ h2
    unfold mkHd at h
    split at h
    · rename_i o rest
      split at h
      · rename_i t n c' d hop hdst
        split at h
        · rename_i e k b kn n0 hk hn
          split at h
          · rename_i h1
            simp only [Option.some.injEq, Prod.mk.injEq] at h
            obtain ⟨rfl, rfl, rfl, hcv⟩ := h
            have hT : s.T d = none := by simpa using h1.2
            simp only [evHd, hop, callOf, evO, memOp, if_true, evE, hk, hdst, hn, hcv]
            rw [if_pos ⟨h1.1, hT⟩, if_pos hc]
          · cases h
        · cases h
      · cases h
    · cases h
  · cases hM
def sixO (b : ByteArray) (i : Int) : Option Int := if 0 ≤ i then (b[i.toNat]?).map fun c => (c.toNat : Int) else none
def sixRes (b : ByteArray) (n : Int) : Option (PV × Eff) := (if (true && decide (0 ≤ n)) = true then (b[n.toNat]?).map fun c => PV.int .u8 c.toNat else none).map fun v => (v, Eff.none)
theorem p_six {b : ByteArray} {i y : Int} (hy : sixO b i = some y) (h : evHd P Gl Ls s = sixRes b i) (h2 : pops P Gl d (Ls.drop 1) (s.put (dstHd Ls) (.int .u8 y)) Q) : pops P Gl d Ls s Q := by
  refine p_step (e := .none) ?_ h2
  rw [h]
  unfold sixO at hy
  unfold sixRes
  split at hy
  · rename_i h0
    obtain ⟨c, hc, rfl⟩ := Option.map_eq_some_iff.1 hy
    rw [if_pos (by simpa using h0), hc]; rfl
  · cases hy
end

/-! ### Ghost steps -/
section
variable {P : Program} {Gl : Nat → Option (List PV)} {s : PSt} {Q : Exit → PSt → Prop} {S0 : Bs} {w0 : World} {a : Act} {g : GG}
theorem wkr_nil (i t k b : Nat) (hs : s.get i = .nil) (hT : ((s.T t).isNone && (k != 0)) = true) : Wkr s (({ s with T := upd s.T t (some (0, k)) } : PSt).put (some i) (.lst (.own t) k b [])) := fun _ _ _ _ _ hi => by
  obtain ⟨g, rfl, hg⟩ := hi
  obtain ⟨g', h1, h2⟩ := hg.nilOwn (k := k) (b := b) hs hT
  exact ⟨g', h2, h1⟩
def nilH (s : PSt) (l off t k b : Nat) (cs : List PV) : PSt := { s with T := upd s.T t (some (0, k)), H := upd s.H l (some (.cells (cs.set off (.lst (.own t) k b [])))) }
theorem InvG.nilOwnH (h : InvG Gl S0 w0 s a g) {l off t k b : Nat} {cs : List PV} (hl : s.H l = some (.cells cs)) (hs : cs[off]? = some .nil) (hT : ((s.T t).isNone && (k != 0)) = true) :
    ∃ g', InvG Gl S0 w0 (nilH s l off t k b cs) a g' ∧ g'.w = g.w := by
  have hgl : g.H l = some (.cells cs) := by rw [h.hH]; exact hl
  obtain ⟨h1, e1⟩ := h.setTok (t := t) (n := 0) (k := k) (v := .slice none 0 0) (fun n0 k0 e => by rw [h.hT] at e; rw [e] at hT; cases hT) (fun e => by subst e; simp at hT) (fun g' _ _ e => .inl ⟨e, rfl⟩) (fun B off cap e _ => by cases e) (h.noX fun n e => by rw [h.hT] at e; rw [e] at hT; cases hT)
  obtain ⟨o1, o2, o3, vs, v1, v2, v3⟩ := h1.objs l (.cells cs) hgl
  obtain ⟨h2, e2⟩ := h1.setObj (l := l) (ob' := .cells (cs.set off (.lst (.own t) k b []))) (w' := g.w) hgl ⟨rfl, rfl, rfl, rfl, fun _ _ => rfl, rfl⟩ (fun cs' e => by cases e; exact ⟨_, rfl, by simp⟩)
    (fun g' hg' hw' => by
      refine ⟨vs, ⟨by rw [List.length_set]; exact v1.1, fun i p v hp hv => ?_⟩, by rw [hw']; exact v2, by rw [hw']; exact v3⟩
      rw [List.getElem?_set] at hp
      by_cases hi : off = i
      · subst hi
        rw [if_pos rfl] at hp
        split at hp
        · cases hp
          have hr := v1.2 off .nil v hs hv
          have hv0 : v = .slice none 0 0 := by have := hr.1; simpa [Rel1, RelD] using this
          refine ⟨?_, hr.2⟩
          refine Rel1.mono hg' (.lst (.own t) k b []) v ?_
          rw [hv0]
          simp only [Rel1, RelD, List.length_nil]
          exact ⟨⟨by simp, by simp, .inl trivial, .inl ⟨trivial, trivial⟩⟩, 0, upd_same _ _ _, Nat.le_refl _, fun _ => by simp⟩
        · cases hp
      · rw [if_neg hi] at hp
        exact (v1.2 i p v hp hv).mono hg')
  exact ⟨_, h2, rfl⟩
theorem wkr_nilH (l off t k b : Nat) {cs : List PV} (hl : s.H l = some (.cells cs)) (hs : cs[off]? = some .nil) (hT : ((s.T t).isNone && (k != 0)) = true) : Wkr s (nilH s l off t k b cs) := fun _ _ _ _ _ hi => by
  obtain ⟨g, rfl, hg⟩ := hi
  obtain ⟨g', h1, h2⟩ := hg.nilOwnH (k := k) (b := b) hl hs hT
  exact ⟨g', h2, h1⟩
end

/-! ### A variable that will not change any more becomes data -/
def keepH (ls : List Nat) (H : Nat → Option PObj) : Nat → Option PObj := fun i => if i ∈ ls then H i else none
def frz0 (l : Nat) (cs : List PV) : PV → PV
  | .ref l' o => if l' = l then .cptr (cs.drop o) else .ref l' o
  | p => p
def frz (l : Nat) (cs : List PV) (live : PV → Bool) (p : PV) : PV :=
  if live p = true then p else match p with
    | .ref l' o => if l' = l then .cptr (cs.drop o) else .any
    | .fn f caps => if (caps.map (frz0 l cs)).all data0 = true then .fn f (caps.map (frz0 l cs)) else .any
    | _ => .any
def frzSt (l : Nat) (cs : List PV) (ls : List Nat) (s : PSt) : PSt := ⟨s.tm.map (frz l cs (liveV (keepH ls s.H) s.T)), keepH ls s.H, s.T, s.X, s.m⟩
section
variable {P : Program} {Gl : Nat → Option (List PV)} {s : PSt} {Q : Exit → PSt → Prop} {S0 : Bs} {w0 : World} {a : Act} {g : GG}
theorem InvG.freeze (h : InvG Gl S0 w0 s a g) {l : Nat} {cs cs' : List PV} {ls : List Nat} (hl : s.H l = some (.cells cs)) (hd : datumL cs = some cs') (hn : ls.contains l = false) (hlive : (ls.all fun i => match s.H i with | some ob => liveO (keepH ls s.H) s.T ob | none => true) = true) :
    ∃ g', InvG Gl S0 w0 (frzSt l cs' ls s) a g' ∧ g'.w = g.w := by
  have hgl : g.H l = some (.cells cs) := by rw [h.hH]; exact hl
  obtain ⟨o1, o2, o3, vs, v1, v2, v3⟩ := h.objs l _ hgl
  have hdat := datumL_spec v1 hd
  have hkeep : ∀ i ob, keepH ls s.H i = some ob → i ∈ ls ∧ g.H i = some ob := fun i ob e => by
    unfold keepH at e
    split at e
    · rename_i hi; rw [h.hH]; exact ⟨hi, e⟩
    · cases e
  have hnl : l ∉ ls := by simpa using hn
  have hcut : Cut g (keepH ls s.H) s.T := ⟨fun t x e => by rw [h.hT]; exact e, fun i cs2 e hi => by
    obtain ⟨ob, hob⟩ := Option.isSome_iff_exists.1 hi
    obtain ⟨_, e2⟩ := hkeep i ob hob
    rw [e] at e2; cases e2
    exact ⟨cs2, hob, rfl⟩⟩
  let g1 : GG := { g with H := keepH ls s.H, T := s.T }
  let g2 : GG := { g with S := fun B o => g.S B o ∨ (B = g.φ l ∧ o < cs.length), H := keepH ls s.H, T := s.T }
  have hle : GLe g1 g2 := ⟨fun _ _ e => .inl e, fun _ _ _ => rfl, fun _ _ => rfl, fun i ob e => ⟨rfl, ob, e, fun cs2 q => ⟨cs2, q, rfl⟩⟩, fun t n k e => ⟨n, e, Nat.le_refl _, fun _ => rfl⟩⟩
  have hcells : ∀ o, RelCells g2.S g2.w (cs'.drop o) (g.φ l) o := fun o => by
    rw [relCells_iff]
    intro i c hc
    rw [List.getElem?_drop] at hc
    obtain ⟨v, hv, hr⟩ := hdat.right hc
    have hlt : o + i < cs'.length := (List.getElem?_eq_some_iff.1 hc).1
    have hlen := datumL_length hd
    have hcell := v2 (o + i) v hv
    rw [Nat.zero_add] at hcell
    exact ⟨hr.2.1, .inr ⟨rfl, by omega⟩, v, hcell, hr.1.mono (fun _ _ e => .inl e) (fun _ _ _ => rfl) (fun _ _ => rfl)⟩
  have hsp : ∀ t B, Spare g2 t B → Spare g t B := by
    rintro t B ⟨n, k, off, cap, h1, h2, h3⟩
    exact ⟨n, k, off, cap, hcut.T t _ h1, h2, h3⟩
  have href : ∀ o v, v = Value.pointer (some ⟨g.φ l, o, none⟩) → RelD g2.S g2.w (.cptr (cs'.drop o)) v := fun o v e => by
    simp only [RelD]; exact ⟨g.φ l, o, e, hcells o⟩
  refine ⟨g2, { hH := rfl, hT := rfl, defers := h.defers, len := by simpa [frzSt] using h.len, tm := fun i p v hp hv => ?_, sub := fun B o e => .inl (h.sub B o e), new := fun B o e => ?_, lt := fun B o e => ?_, below := h.below, objs := fun i ob hob => ?_, inj := fun i j hi hj e => ?_, owns := fun t n k ht => ?_, ownsEx := fun t t' B h1 h2 => h.ownsEx t t' B (hsp t B h1) (hsp t' B h2), ownsObj := fun t B i h1 h2 => ?_, glob := fun i cs2 e => (h.glob i cs2 e).mono (fun _ _ q => .inl q) (fun _ _ _ => rfl) (fun _ _ => rfl), exs := fun t k b xss hx => ?_, exsEx := fun t t' B h1 h2 => h.exsEx t t' B h1 h2, fix := fun i B hF => ⟨(h.fix i B hF).1, fun hs => (by
    obtain ⟨x, hx⟩ := Option.isSome_iff_exists.1 hs
    exact (h.fix i B hF).2 (by rw [(hkeep i x hx).2]; rfl))⟩, fixT := fun t v n hF => ⟨(h.fixT t v n hF).1, fun n0 e => (h.fixT t v n hF).2 n0 (hcut.T t _ e)⟩ }, rfl⟩
  rotate_right
  · obtain ⟨q1, q2, q3, q4, q5, q6⟩ := h.exs t k b xss hx
    refine ⟨by show s.T t = _; rw [← h.hT]; exact q1, q2, q3, q4, q5, q6.imp id ?_⟩
    rintro ⟨B, cap, e, hc0, f1, f2, f3, f4, ⟨us, u1, u2⟩, f6, f7, f8⟩
    have hne : g.φ l ≠ B := f7 l (by rw [hgl]; rfl)
    exact ⟨B, cap, e, hc0, f1, f2, f3, fun o ho => ho.elim (f4 o) fun q => hne q.1.symm, ⟨us, u1.mono fun _ _ q => ⟨q.1.mono (fun _ _ e => .inl e) (fun _ _ _ => rfl) (fun _ _ => rfl), q.2⟩, u2⟩, f6, fun i hi => by
      obtain ⟨x, hx⟩ := Option.isSome_iff_exists.1 hi
      exact f7 i (by rw [(hkeep i x hx).2]; rfl), fun t' ht' => f8 t' (hsp t' B ht')⟩
  · simp only [frzSt, List.getElem?_map, Option.map_eq_some_iff] at hp
    obtain ⟨q, hq, rfl⟩ := hp
    have hr := h.tm i q v hq hv
    unfold frz
    by_cases hlv : liveV (keepH ls s.H) s.T q = true
    · rw [if_pos hlv]
      have h1 : Rel g1 q v := hr.live hcut hlv
      exact h1.mono hle
    · rw [if_neg hlv]
      split
      · rename_i l' o
        split
        · rename_i e
          subst e
          simp only [Rel, RelA, Rel1]
          exact href o v hr.1
        · trivial
      · rename_i f caps
        split
        · rename_i hc0
          simp only [Rel, RelA, Rel1] at hr ⊢
          obtain ⟨arr, e1, e2⟩ := hr
          refine ⟨arr, e1, by simp [e2.1], fun j x y hx hy => ?_⟩
          rw [List.getElem?_map] at hx
          obtain ⟨c, hc, rfl⟩ := Option.map_eq_some_iff.1 hx
          have h3 := e2.2 j c y hc hy
          have h4 : data0 (frz0 l cs' c) = true := List.all_eq_true.1 hc0 _ (List.mem_map.2 ⟨c, List.mem_of_getElem? hc, rfl⟩)
          cases c
          case ref l' o =>
            simp only [frz0] at h4 ⊢
            split
            · rename_i e
              subst e
              exact href o y h3.1
            · rename_i e
              rw [if_neg e] at h4; cases h4
          all_goals
            (simp only [frz0, Rel0] at h3 ⊢
             exact h3.mono (fun _ _ e => .inl e) (fun _ _ _ => rfl) (fun _ _ => rfl))
        · trivial
      · trivial
  · rcases e with e | ⟨rfl, _⟩
    · exact h.new B o e
    · exact .inr o1
  · rcases e with e | ⟨rfl, _⟩
    · exact h.lt B o e
    · exact o2
  · obtain ⟨hi, hgi⟩ := hkeep i ob hob
    obtain ⟨k1, k2, k3, k4⟩ := h.objs i ob hgi
    have hne : g.φ i ≠ g.φ l := fun e => by
      have := h.inj i l (by rw [hgi]; rfl) (by rw [hgl]; rfl) e
      subst this; exact hnl hi
    refine ⟨k1, k2, fun o e => e.elim (k3 o) (fun q => hne q.1), ?_⟩
    have hlv := List.all_eq_true.1 hlive i hi
    have hsi : s.H i = some ob := by rw [← h.hH]; exact hgi
    rw [hsi] at hlv
    cases ob with
    | cells cs2 =>
      obtain ⟨us, u1, u2, u3⟩ := k4
      refine ⟨us, ⟨u1.1, fun j x y hx hy => ?_⟩, u2, u3⟩
      have h5 := u1.2 j x y hx hy
      have h6 : live1 (keepH ls s.H) s.T x = true := List.all_eq_true.1 hlv x (List.mem_of_getElem? hx)
      have h7 : RelC g1 x y := ⟨h5.1.live hcut h6, h5.2⟩
      exact h7.mono hle
    | iter b pos => exact k4
    | map es =>
      obtain ⟨arr, clock, u1, u2⟩ := k4
      exact ⟨arr, clock, u1, u2.mono fun _ _ q => ⟨q.1.mono (fun _ _ e => .inl e) (fun _ _ _ => rfl) (fun _ _ => rfl), q.2.1.mono (fun _ _ e => .inl e) (fun _ _ _ => rfl) (fun _ _ => rfl), q.2.2⟩⟩
  · obtain ⟨x, hx⟩ := Option.isSome_iff_exists.1 hi
    obtain ⟨y, hy⟩ := Option.isSome_iff_exists.1 hj
    exact h.inj i j (by rw [(hkeep i x hx).2]; rfl) (by rw [(hkeep j y hy).2]; rfl) e
  · rcases h.owns t n k (hcut.T t _ ht) with e | ⟨B, off, cap, e1, e2, e3⟩
    · exact .inl e
    · refine .inr ⟨B, off, cap, e1, e2, fun hlt => ?_⟩
      obtain ⟨q1, q2, q3, q4⟩ := e3 hlt
      refine ⟨q1, q2, q3, fun hk o ho => ho.elim (q4 hk o) fun e => ?_⟩
      exact absurd e.1.symm (h.ownsObj t B l ⟨n, k, off, cap, hcut.T t _ ht, e1, hlt⟩ (by rw [hgl]; rfl))
  · obtain ⟨x, hx⟩ := Option.isSome_iff_exists.1 h2
    exact h.ownsObj t B i (hsp t B h1) (by rw [(hkeep i x hx).2]; rfl)
/-- Variable l will not change any more: what points to it is data from now on. Of the other variables only those of the list ls are kept. -/
theorem g_frz {c : Code} (l : Nat) (ls : List Nat) {cs cs' : List PV} (hl : s.H l = some (.cells cs)) (hd : datumL cs = some cs') (hn : ls.contains l = false)
    (hlive : (ls.all fun i => match s.H i with | some ob => liveO (keepH ls s.H) s.T ob | none => true) = true) (h : pwp P Gl c Q (frzSt l cs' ls s)) : pwp P Gl c Q s := fun S0 w0 a w hi => by
  obtain ⟨g, rfl, hg⟩ := hi
  obtain ⟨g', h1, h2⟩ := hg.freeze hl hd hn hlive
  exact h S0 w0 a _ ⟨g', h2, h1⟩
end
end PM
