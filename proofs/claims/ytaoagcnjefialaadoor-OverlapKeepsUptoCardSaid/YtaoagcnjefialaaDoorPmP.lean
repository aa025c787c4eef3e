/-
  THE PURE MACHINE, P: package tables and slices of lists.
-/
import Derived.Test.YtaoagcnjefialaaDoorPmT
namespace PM
open Go Go.RowKit

section
variable {α : Type} [Enc α] {P : Program} {Gl : Nat → Option (List PV)} {s : PSt} {d : Bool} {Ls : List (Oper × Gd)} {Q : PSt → Prop}
omit [Enc α] in
theorem ixO_some {L : List α} {i : Int} {y : α} (h : ixO L i = some y) : 0 ≤ i ∧ L[i.toNat]? = some y ∧ i.toNat < L.length := by
  unfold ixO at h
  split at h
  · rename_i h0
    exact ⟨h0, h, (List.getElem?_eq_some_iff.1 h).1⟩
  · cases h
/-- The address of an element of a table. -/
def gixRes (g m k : Nat) (n : Int) : Option (PV × Eff) := (if 0 ≤ n ∧ n < (m : Int) then some (PV.gptr g (0 + n.toNat * k)) else none).map fun v => (v, Eff.none)
omit [Enc α] in
theorem p_gix {tab : List α} {i : Int} {y : α} (hy : ixO tab i = some y) (g m k : Nat) (hm : tab.length = m) (h : evHd P Gl Ls s = gixRes g m k i)
    (h2 : pops P Gl d (Ls.drop 1) (s.put (dstHd Ls) (.gptr g (0 + i.toNat * k))) Q) : pops P Gl d Ls s Q := by
  refine p_step (e := .none) ?_ h2
  obtain ⟨h0, _, h1⟩ := ixO_some hy
  rw [h]
  unfold gixRes
  rw [if_pos ⟨h0, by omega⟩]; rfl
theorem drop_flat {tab : List α} {k : Nat} (hk : tab.all (fun x => (cellsOf x).length == k) = true) : ∀ {i : Nat} {y : α}, tab[i]? = some y → ∃ r, (tab.flatMap cellsOf).drop (i * k) = cellsOf y ++ r := by
  induction tab with
  | nil => intro i y h; simp at h
  | cons x xs ih =>
    simp only [List.all_cons, Bool.and_eq_true, beq_iff_eq] at hk
    intro i y h
    cases i with
    | zero =>
      simp only [List.getElem?_cons_zero, Option.some.injEq] at h
      subst h
      exact ⟨xs.flatMap cellsOf, by simp⟩
    | succ i =>
      simp only [List.getElem?_cons_succ] at h
      obtain ⟨r, hr⟩ := ih hk.2 h
      refine ⟨r, ?_⟩
      rw [List.flatMap_cons, List.drop_append, List.drop_eq_nil_of_le (by rw [hk.1, Nat.succ_mul]; omega), hk.1, Nat.succ_mul, Nat.add_sub_cancel, hr, List.nil_append]
def partRes (row : Bool) (n : Nat) (cs : List PV) : Option (PV × Eff) := (match row with | true => if n ≤ cs.length then some (PV.agg (takeN n cs)) else none | false => cs.head?).map fun v => (v, Eff.none)
theorem takeN_append {k : Nat} {c r : List PV} (h : c.length = k) : takeN k (c ++ r) = c := by
  unfold takeN
  split
  · rename_i h1
    rw [List.length_append] at h1
    have : r = [] := List.eq_nil_of_length_eq_zero (by omega)
    rw [this, List.append_nil]
  · rw [← h]; simp
theorem part_at {tab : List α} {i : Int} {y : α} (hy : ixO tab i = some y) (row : Bool) {k o : Nat} (hk0 : k ≠ 0) (ho : o = i.toNat * k) (hk : tab.all (fun x => (cellsOf x).length == k) = true)
    (hp : (if row = true then PV.agg (cellsOf y) else (cellsOf y).headD .any) = Enc.pv y) : partRes row k ((tab.flatMap cellsOf).drop o) = some (Enc.pv y, .none) := by
  obtain ⟨_, h1, _⟩ := ixO_some hy
  obtain ⟨r, hr⟩ := drop_flat hk h1
  have hl : (cellsOf y).length = k := by
    have := List.all_eq_true.1 hk y (List.mem_of_getElem? h1)
    simpa using this
  rw [ho, hr]
  unfold partRes
  cases row with
  | true =>
    simp only [if_true] at hp
    simp only [takeN_append hl]
    rw [if_pos (by rw [List.length_append]; omega), hp]; rfl
  | false =>
    simp only [Bool.false_eq_true, if_false] at hp
    cases hc : cellsOf y with
    | nil => rw [hc] at hl; exact absurd hl.symm hk0
    | cons a b => rw [hc] at hp; simp at hp; simp [hp]
/-- The element of a table that an address names is read. -/
theorem p_gload {tab : List α} {i : Int} {y : α} (hy : ixO tab i = some y) (row : Bool) (k : Nat) (hk : (k != 0 && tab.all fun x => (cellsOf x).length == k) = true)
    (h : evHd P Gl Ls s = partRes row k ((tab.flatMap cellsOf).drop (0 + i.toNat * k)))
    (hp : (if row = true then PV.agg (cellsOf y) else (cellsOf y).headD .any) = Enc.pv y) (h2 : pops P Gl d (Ls.drop 1) (s.put (dstHd Ls) (Enc.pv y)) Q) : pops P Gl d Ls s Q := by
  simp only [Bool.and_eq_true, bne_iff_ne, ne_eq] at hk
  refine p_step (e := .none) ?_ h2
  rw [h]
  exact part_at hy row hk.1 (by omega) hk.2 hp
/-- An element of a table that was read whole. -/
def tixRes (row : Bool) (m k : Nat) (cs : List PV) (n : Int) : Option (PV × Eff) := (match row with
  | true => if 0 ≤ n ∧ n < (m : Int) ∧ n.toNat * k + k ≤ cs.length then some (PV.agg ((cs.drop (n.toNat * k)).take k)) else none
  | false => if 0 ≤ n ∧ n < (m : Int) then cs[n.toNat * k]? else none).map fun v => (v, Eff.none)
theorem p_tix {tab : List α} {i : Int} {y : α} (hy : ixO tab i = some y) (row : Bool) (m k : Nat) (hk : (k != 0 && tab.all fun x => (cellsOf x).length == k) = true) (hm : tab.length = m)
    (h : evHd P Gl Ls s = tixRes row m k (tab.flatMap cellsOf) i)
    (hp : (if row = true then PV.agg (cellsOf y) else (cellsOf y).headD .any) = Enc.pv y) (h2 : pops P Gl d (Ls.drop 1) (s.put (dstHd Ls) (Enc.pv y)) Q) : pops P Gl d Ls s Q := by
  simp only [Bool.and_eq_true, bne_iff_ne, ne_eq] at hk
  refine p_step (e := .none) ?_ h2
  rw [h]
  obtain ⟨h0, h1, h3⟩ := ixO_some hy
  obtain ⟨r, hr⟩ := drop_flat hk.2 h1
  have hl : (cellsOf y).length = k := by
    have := List.all_eq_true.1 hk.2 y (List.mem_of_getElem? h1)
    simpa using this
  have hlen : i.toNat * k + k ≤ (tab.flatMap cellsOf).length := by
    have := congrArg List.length hr
    rw [List.length_drop, List.length_append, hl] at this
    have := hk.1
    omega
  have hi : i < (m : Int) := by omega
  unfold tixRes
  cases row with
  | true =>
    simp only [if_true] at hp
    simp only [hr]
    rw [if_pos ⟨h0, hi, hlen⟩, ← hl, List.take_left, hp]; rfl
  | false =>
    simp only [Bool.false_eq_true, if_false] at hp
    have hg : (tab.flatMap cellsOf)[i.toNat * k]? = some (Enc.pv y) := by
      rw [← List.head?_drop, hr, ← hp]
      cases hc : cellsOf y with
      | nil => rw [hc] at hl; exact absurd hl.symm hk.1
      | cons a b => rfl
    simp only
    rw [if_pos ⟨h0, hi⟩, hg]; rfl
end

/-! ### Results of which less is said -/
theorem PCall.freeze {P : Program} {Gl : Nat → Option (List PV)} {f : FuncId} {as : List PV} {r r' : PV} (h : PCall P Gl f as r) (he : (noTups r, coerceV r' r) = (true, r'))
    (hl : liveV (fun _ => none) (fun _ => none) r' = true) (ht : (toksV r').isEmpty = true) : PCall P Gl f as r' := by
  simp only [Prod.mk.injEq] at he
  have hwk : WkV (fun _ => none) (fun _ => none) r r' := by
    have := coerceV_wk (p := r') (q := r) (H := fun _ => none) (T := fun _ => none) he.1 (by rw [he.2]; exact hl)
    rwa [he.2] at this
  have ht : toksV r' = [] := by simpa using ht
  refine ⟨h.1, fun S w vs hS hG hr => (h.2 S w vs hS hG hr).mono fun e w' ⟨v, g', he, hw, ha⟩ => ⟨v, { g' with H := fun _ => none, T := fun _ => none }, he, hw, ?_⟩⟩
  refine { below := ha.below, sub := ha.sub, new := ha.new, H := fun _ => rfl, T := fun t n k => ?_, rel := ha.rel.weak ⟨fun _ _ h => (by cases h), fun l cs _ h => (by cases h)⟩ hwk, owns := fun t n k h => (by cases h), ownsEx := fun t t' B h => by obtain ⟨n, k, off, cap, h1, _⟩ := h; cases h1 }
  rw [ht]; simp

/-! ### Slices -/
def bndI (x : Option Int) (dflt : Nat) : Option Nat :=
  match x with
  | none => some dflt
  | some n => if 0 ≤ n then some n.toNat else none
def slO {α : Type} (L : List α) (lo hi mx : Option Int) : Option (List α) :=
  match bndI lo 0, bndI hi L.length, bndI mx L.length with
  | some l, some h, some m => if l ≤ h ∧ h ≤ m ∧ m ≤ L.length then some ((L.take h).drop l) else none
  | _, _, _ => none
def pvI : Option Int → Option PV
  | none => none
  | some n => some (.int .i64 n)
theorem bnd_pvI (x : Option Int) (n : Nat) : bnd (pvI x) n = bndI x n := by cases x <;> rfl
/-- The slice at the head: cells of an element by the type, the list, and the bounds. -/
def slHd (P : Program) : List (Oper × Gd) → PSt → Option (Nat × PV × Option PV × Option PV × Option PV)
  | (o, .always) :: _, s => match o.op with
    | .slice t x lo hi mx => match elemK P t with
      | some (_, _, k, _) => some (k, s.ev x, lo.map s.ev, hi.map s.ev, mx.map s.ev)
      | none => none
    | _ => none
  | _, _ => none
section
variable {α : Type} [Enc α] {P : Program} {Gl : Nat → Option (List PV)} {s : PSt} {d : Bool} {Ls : List (Oper × Gd)} {Q : PSt → Prop}
def slOwn (o : Own) (hi mx : Option Int) (n : Nat) : Own := if (pvI mx ≠ none ∧ bndI mx n = bndI hi n) ∨ (o = .full ∧ pvI hi = none) then .full else .frozen
theorem sl_step {L M : List α} {lo hi mx : Option Int} (o : Own) (hM : slO L lo hi mx = some M) (hmx : (mx.isSome && hi.isNone) = false)
    (h : slHd P Ls s = some (Enc.k α, lstOf o L, pvI lo, pvI hi, pvI mx)) : evHd P Gl Ls s = some (lstOf (slOwn o hi mx L.length) M, .none) := by
  unfold slHd at h
  split at h
  · rename_i oo rest s
    split at h
    · rename_i t x lo' hi' mx' hop
      split at h
      · rename_i e row k' b' hel
        simp only [Option.some.injEq, Prod.mk.injEq] at h
        obtain ⟨rfl, hx, hlo, hhi, hmx'⟩ := h
        simp only [evHd, hop, callOf, evO, memOp, Bool.false_eq_true, if_false, ev1, hx, hlo, hhi, hmx', lstOf, evSlice, hel, bnd_pvI, List.length_map]
        unfold slO at hM
        split at hM
        · rename_i l h1 m e1 e2 e3
          rw [e1, e2, e3]
          split at hM
          · rename_i hc
            cases hM
            simp only
            rw [if_pos ⟨trivial, hc.1, hc.2.1, hc.2.2, by cases mx <;> cases hi <;> simp_all [pvI]⟩]
            simp only [Option.map_some, slOwn, e2, e3, List.map_drop, List.map_take, Option.some.injEq]
          · cases hM
        · cases hM
      · cases h
    · cases h
  · cases h
theorem p_sl {L M : List α} {lo hi mx : Option Int} (hM : slO L lo hi mx = some M) (o : Own) (hmx : (mx.isSome && hi.isNone) = false) (h : slHd P Ls s = some (Enc.k α, lstOf o L, pvI lo, pvI hi, pvI mx))
    (hf : (mx.isNone && (match o with | .full => hi.isSome | _ => true)) = true) (h2 : pops P Gl d (Ls.drop 1) (s.put (dstHd Ls) (lstOf .frozen M)) Q) : pops P Gl d Ls s Q := by
  refine p_step (e := .none) (sl_step o hM hmx h) ?_
  have : slOwn o hi mx L.length = .frozen := by
    simp only [Bool.and_eq_true] at hf
    unfold slOwn
    rw [if_neg]
    rintro (⟨h1, _⟩ | ⟨h1, h3⟩)
    · cases mx <;> simp_all [pvI]
    · subst h1
      cases hi <;> simp_all [pvI]
  rw [this]; exact h2
theorem p_slf {L M : List α} {lo hi mx : Option Int} (hM : slO L lo hi mx = some M) (o : Own) (hmx : (mx.isSome && hi.isNone) = false) (h : slHd P Ls s = some (Enc.k α, lstOf o L, pvI lo, pvI hi, pvI mx))
    (hf : (mx.isSome = true ∧ mx = hi) ∨ (o = .full ∧ hi = none)) (h2 : pops P Gl d (Ls.drop 1) (s.put (dstHd Ls) (lstOf .full M)) Q) : pops P Gl d Ls s Q := by
  refine p_step (e := .none) (sl_step o hM hmx h) ?_
  have : slOwn o hi mx L.length = .full := by
    unfold slOwn
    rw [if_pos]
    rcases hf with ⟨h1, h3⟩ | ⟨h1, h3⟩
    · subst h3
      refine .inl ⟨?_, rfl⟩
      cases mx <;> simp_all [pvI]
    · subst h3
      exact .inr ⟨h1, rfl⟩
  rw [this]; exact h2
end
end PM
