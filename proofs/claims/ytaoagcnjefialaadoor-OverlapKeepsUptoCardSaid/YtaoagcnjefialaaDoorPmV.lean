/-
  THE PURE MACHINE, V: typed values (Enc), and the rules for elements, lengths and appends.
-/
import Derived.Test.YtaoagcnjefialaaDoorPmN
namespace PM
open Go Go.RowKit

/-- How a Lean value lies in Go's memory: cells, bytes, and the value. -/
class Enc (α : Type) where
  k : Nat
  b : Nat
  pv : α → PV
def cellsOf {α : Type} [Enc α] (x : α) : List PV := (Enc.pv x).cells
instance : Enc Int := ⟨1, 8, fun n => .int .i64 n⟩
instance : Enc Bool := ⟨1, 1, fun b => .bool b⟩
instance : Enc ByteArray := ⟨1, 16, fun s => .str s⟩
def lstOf {α : Type} [Enc α] (o : Own) (l : List α) : PV := .lst o (Enc.k α) (Enc.b α) (l.map cellsOf)
instance {α : Type} [Enc α] : Enc (List α) := ⟨1, 24, fun l => lstOf .frozen l⟩

section
variable {α : Type}
def ixO (L : List α) (i : Int) : Option α := if 0 ≤ i then L[i.toNat]? else none
def ixRes (k : Nat) (xss : List (List PV)) (n : Int) : Option (PV × Eff) := (if k = k ∧ 0 ≤ n then (xss[n.toNat]?).map PV.cptr else none).map fun v => (v, Eff.none)
def appO [Enc α] (L ys : List α) : Option (List α) := if (L.length + ys.length) * Enc.b α ≤ sizeMax ∧ L.length + ys.length ≤ sizeMax then some (L ++ ys) else none
variable {P : Program} {Gl : Nat → Option (List PV)} {s : PSt} {d : Bool} {Ls : List (Oper × Gd)} {Q : PSt → Prop} [Enc α]
theorem p_ix {L : List α} {i : Int} {y : α} (hy : ixO L i = some y) (h : evHd P Gl Ls s = ixRes (Enc.k α) (L.map cellsOf) i) (h2 : pops P Gl d (Ls.drop 1) (s.put (dstHd Ls) (.cptr (cellsOf y))) Q) : pops P Gl d Ls s Q := by
  refine p_step (v := .cptr (cellsOf y)) (e := .none) ?_ h2
  rw [h]
  unfold ixO at hy
  unfold ixRes
  split at hy
  · rename_i h0
    rw [if_pos ⟨rfl, h0⟩, List.getElem?_map, hy]; rfl
  · cases hy
theorem p_len {L : List α} (h : evHd P Gl Ls s = some (.int .i64 ((L.map cellsOf).length : Nat), .none)) (h2 : pops P Gl d (Ls.drop 1) (s.put (dstHd Ls) (.int .i64 (L.length : Nat))) Q) : pops P Gl d Ls s Q := by
  refine p_step (e := .none) h ?_
  rw [List.length_map]; exact h2
/-- The append at the head: token, whether it is new, cells and bytes of an element, the two lists. -/
def appHd (P : Program) : List (Oper × Gd) → PSt → Option (Nat × Bool × Nat × Nat × List (List PV) × List (List PV))
  | (o, .always) :: _, s => match o.op, o.dst with
    | .call c, some d => match c.callee, c.args.toList, c.argTypes.toList with
      | .builtin .append, [x, y], [t, t'] => match appK P t, sliceT P t' with
        | some (_, k, b), true => match ysOf k (s.ev y) with
          | some yss => match s.ev x with
            | .nil => if (s.T d).isNone = true then some (d, true, k, b, [], yss) else none
            | .lst .full k' b' xss => if k' = k ∧ b' = b ∧ (s.T d).isNone = true then some (d, true, k, b, xss, yss) else none
            | .lst (.own t) k' b' xss => if k' = k ∧ b' = b then some (t, false, k, b, xss, yss) else none
            | _ => none
          | none => none
        | _, _ => none
      | _, _, _ => none
    | _, _ => none
  | _, _ => none
theorem appHd_spec {tk k b : Nat} {new : Bool} {xss yss : List (List PV)} (h : appHd P Ls s = some (tk, new, k, b, xss, yss)) (hT : new = false → s.T tk = some (xss.length, k)) (hz : (xss.length + yss.length) * b ≤ sizeMax ∧ xss.length + yss.length ≤ sizeMax) :
    evHd P Gl Ls s = some (.lst (.own tk) k b (xss ++ yss), .tok tk (xss.length + yss.length) k) := by
  unfold appHd at h
  split at h
  · rename_i o rest
    split at h
    · rename_i c d hop hd
      split at h
      · rename_i x y t t' h1 h2 h3
        split at h
        · rename_i e k0 b0 hk ht'
          split at h
          · rename_i yss0 hy
            have hno : callOf (Op.call c) = none := by simp [callOf, h1]
            have hev : ∀ X, evAppend P o.dst s.T t t' (s.ev x) (s.ev y) = X → evHd P Gl ((o, Gd.always) :: rest) s = X := by
              intro X hX
              simp only [evHd, hop, hno, evO, memOp, h1, if_true, evE, h2, h3]
              exact hX
            apply hev
            unfold evAppend
            simp only [hk, ht', hd, hy]
            split at h
            · rename_i hx
              split at h
              · rename_i hTn
                cases h
                simp only [hx]
                have : s.T tk = none := by simpa using hTn
                simp only [List.length_nil, Nat.zero_add] at hz
                rw [if_pos this, if_pos hz]
                simp
              · cases h
            · rename_i k1 b1 xss1 hx
              split at h
              · rename_i hc
                cases h
                simp only [hx]
                obtain ⟨rfl, rfl, hTn⟩ := hc
                have : s.T tk = none := by simpa using hTn
                rw [if_pos ⟨rfl, rfl, this⟩, if_pos hz]
              · cases h
            · rename_i t1 k1 b1 xss1 hx
              split at h
              · rename_i hc
                cases h
                simp only [hx]
                obtain ⟨rfl, rfl⟩ := hc
                rw [if_pos ⟨rfl, rfl, hT rfl⟩, if_pos hz]
              · cases h
            · cases h
          · cases h
        · cases h
      · cases h
    · cases h
  · cases h
theorem p_app {L ys M : List α} {tk : Nat} (hM : appO L ys = some M) (hT : s.T tk = some ((L.map cellsOf).length, Enc.k α)) (h : appHd P Ls s = some (tk, false, Enc.k α, Enc.b α, L.map cellsOf, ys.map cellsOf))
    (h2 : pops P Gl d (Ls.drop 1) (({ s with T := upd s.T tk (some ((M.map cellsOf).length, Enc.k α)) } : PSt).put (dstHd Ls) (lstOf (.own tk) M)) Q) : pops P Gl d Ls s Q := by
  unfold appO at hM
  split at hM
  · rename_i hz
    cases hM
    have := appHd_spec (Gl := Gl) h (fun _ => by simpa using hT) (by simpa using hz)
    refine p_step this ?_
    simpa [Eff.app, lstOf, List.map_append] using h2
  · cases hM
theorem p_appn {L ys M : List α} {tk : Nat} (hM : appO L ys = some M) (h : appHd P Ls s = some (tk, true, Enc.k α, Enc.b α, L.map cellsOf, ys.map cellsOf))
    (h2 : pops P Gl d (Ls.drop 1) (({ s with T := upd s.T tk (some ((M.map cellsOf).length, Enc.k α)) } : PSt).put (dstHd Ls) (lstOf (.own tk) M)) Q) : pops P Gl d Ls s Q := by
  unfold appO at hM
  split at hM
  · rename_i hz
    cases hM
    have := appHd_spec (Gl := Gl) h (fun e => by cases e) (by simpa using hz)
    refine p_step this ?_
    simpa [Eff.app, lstOf, List.map_append] using h2
  · cases hM
end

/-! ### Reading the hypothesis on the plain function -/
section
variable {α β : Type}
theorem o_bind {x : Option α} {f : α → Option β} {r : β} (h : x.bind f = some r) : ∃ a, x = some a ∧ f a = some r := Option.bind_eq_some_iff.1 h
theorem o_cond {b : Bool} {x y : Option β} {r : β} (h : (bif b then x else y) = some r) : (b = true ∧ x = some r) ∨ (b = false ∧ y = some r) := by
  cases b
  · exact .inr ⟨rfl, h⟩
  · exact .inl ⟨rfl, h⟩
theorem b_or {a b x : Bool} (h : (a || b) = x) : (a = true ∧ true = x) ∨ (a = false ∧ b = x) := by cases a <;> simp_all
theorem b_and {a b x : Bool} (h : (a && b) = x) : (a = true ∧ b = x) ∨ (a = false ∧ false = x) := by cases a <;> simp_all
end
end PM
