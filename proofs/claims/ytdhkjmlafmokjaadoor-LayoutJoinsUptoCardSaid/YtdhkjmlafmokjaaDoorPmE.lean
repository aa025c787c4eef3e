/-
  THE PURE MACHINE, E: operations that yield a value and leave memory alone.
-/
import Derived.Test.YtdhkjmlafmokjaaDoorPmD
import Derived.Laws.Cover1
namespace PM
open Go Go.RowKit

def evInt (op : BinOp) (k : IntKind) (a b : Int) : Option PV :=
  match op with
  | .add => some (.int k (k.wrap (a + b)))
  | .sub => some (.int k (k.wrap (a - b)))
  | .mul => some (.int k (k.wrap (a * b)))
  | .quo => if b = 0 then none else some (.int k (k.wrap (a.tdiv b)))
  | .rem => if b = 0 then none else some (.int k (a.tmod b))
  | .eql => some (.bool (decide (a = b)))
  | .neq => some (.bool (!decide (a = b)))
  | .lss => some (.bool (decide (a < b)))
  | .leq => some (.bool (decide (a ≤ b)))
  | .gtr => some (.bool (decide (b < a)))
  | .geq => some (.bool (decide (b ≤ a)))
  | .and => some (.int k (k.wrap ((BitVec.ofInt k.bits a &&& BitVec.ofInt k.bits b).toNat)))
  | .or => some (.int k (k.wrap ((BitVec.ofInt k.bits a ||| BitVec.ofInt k.bits b).toNat)))
  | .xor => some (.int k (k.wrap ((BitVec.ofInt k.bits a ^^^ BitVec.ofInt k.bits b).toNat)))
  | .andNot => some (.int k (k.wrap ((BitVec.ofInt k.bits a &&& ~~~ BitVec.ofInt k.bits b).toNat)))
  | _ => none
def evShift (op : BinOp) (k : IntKind) (a b : Int) : Option PV :=
  if b < 0 then none else
  match op with
  | .shl => some (.int k (k.wrap (a * 2 ^ (min b.toNat k.bits))))
  | .shr => some (.int k (a.fdiv (2 ^ (min b.toNat k.bits))))
  | _ => none
def evStr (op : BinOp) (a b : ByteArray) : Option PV :=
  match op with
  | .add => if a.size + b.size ≤ 9223372036854775807 then some (.str (a ++ b)) else none
  | .eql => some (.bool (decide (a = b)))
  | .neq => some (.bool (!decide (a = b)))
  | .lss => some (.bool (Op.bytesLess a.toList b.toList))
  | .leq => some (.bool (Op.bytesLess a.toList b.toList || decide (a = b)))
  | .gtr => some (.bool (!(Op.bytesLess a.toList b.toList || decide (a = b))))
  | .geq => some (.bool (!Op.bytesLess a.toList b.toList))
  | _ => none
def evEq (op : BinOp) (b : Bool) : Option PV :=
  match op with
  | .eql => some (.bool b)
  | .neq => some (.bool (!b))
  | _ => none
def evBin (P : Program) (op : BinOp) (t : TypeId) : PV → PV → Option PV
  | .int k a, .int k' b =>
    match op with
    | .shl => evShift .shl k a b
    | .shr => evShift .shr k a b
    | op => if k = k' then evInt op k a b else none
  | .str a, .str b => evStr op a b
  | .bool a, .bool b => if boolT P t then evEq op (a == b) else none
  | .agg xs, .agg ys =>
    match eqK P t with
    | some ks => (peq ks xs ys).bind (evEq op)
    | none => none
  | .lst _ _ _ xss, .nil => if sliceT P t = true ∧ op = .eql then some (.ub xss.isEmpty) else none
  | _, _ => none

section
variable {P : Program} {g : GG} {w : World}
theorem Rel.of1 {p : PV} {v : Value} (h : Rel1 g p v) : Rel g p v := by
  cases p <;> first | exact h | exact h.elim
theorem relInt {k : IntKind} {n : Int} {v : Value} : Rel g (.int k n) v ↔ v = .int k n := by simp [Rel, RelA, Rel1, RelD]
theorem relBool {b : Bool} {v : Value} : Rel g (.bool b) v ↔ v = .bool b := by simp [Rel, RelA, Rel1, RelD]
theorem relStr {s : ByteArray} {v : Value} : Rel g (.str s) v ↔ v = .string s := by simp [Rel, RelA, Rel1, RelD]
theorem decide_toList (a b : ByteArray) : (a.toList == b.toList) = decide (a = b) := by
  rw [← beq_toListBytes]
  by_cases h : a = b
  · rw [decide_eq_true h, h]
    rw [beq_toListBytes]; simp
  · rw [decide_eq_false h]
    rw [beq_toListBytes, ByteArray.toList_eq, ByteArray.toList_eq]
    have : ¬ a.data.toList = b.data.toList := fun e => h (by cases a; cases b; simp only [ByteArray.mk.injEq]; exact Array.ext' e)
    simpa using this

theorem peq_spec : ∀ {ks : List CK} {xs ys : List PV} {us vs : List Value} {b : Bool}, peq ks xs ys = some b → All2 (RelC g) xs us → All2 (RelC g) ys vs →
    fitsAll ks us = true ∧ fitsAll ks vs = true ∧ eqCells us vs = b
  | [], xs, ys, us, vs, b, h, hx, hy => by
    cases xs <;> cases ys <;> simp [peq] at h
    subst h
    rw [hx.nil_left, hy.nil_left]
    simp [fitsAll, eqCells]
  | k :: ks, [], ys, us, vs, b, h, hx, hy => by cases k <;> cases ys <;> simp [peq] at h
  | k :: ks, x :: xs, [], us, vs, b, h, hx, hy => by cases k <;> simp [peq] at h
  | k :: ks, x :: xs, y :: ys, us, vs, b, h, hx, hy => by
    obtain ⟨u, us', rfl, hu, hus⟩ := hx.cons_left
    obtain ⟨v, vs', rfl, hv, hvs⟩ := hy.cons_left
    cases k <;> cases x <;> cases y <;> simp only [peq] at h <;> try cases h
    case i k k1 a k2 c =>
      by_cases hk : k1 = k ∧ k2 = k
      · rw [if_pos hk] at h
        obtain ⟨rfl, rfl⟩ := hk
        obtain ⟨b', hb', rfl⟩ := Option.map_eq_some_iff.1 h
        obtain ⟨h1, h2, h3⟩ := peq_spec hb' hus hvs
        have eu : u = .int k2 a := by simpa [RelC, Rel1, RelD] using hu.1
        have ev : v = .int k2 c := by simpa [RelC, Rel1, RelD] using hv.1
        subst eu; subst ev
        exact ⟨by simp [fitsAll, CK.fits, h1], by simp [fitsAll, CK.fits, h2], by simp only [eqCells, eqCell, h3]; rfl⟩
      · rw [if_neg hk] at h; cases h
    case b a c =>
      obtain ⟨b', hb', rfl⟩ := Option.map_eq_some_iff.1 h
      obtain ⟨h1, h2, h3⟩ := peq_spec hb' hus hvs
      have eu : u = .bool a := by simpa [RelC, Rel1, RelD] using hu.1
      have ev : v = .bool c := by simpa [RelC, Rel1, RelD] using hv.1
      subst eu; subst ev
      exact ⟨by simp [fitsAll, CK.fits, h1], by simp [fitsAll, CK.fits, h2], by simp [eqCells, eqCell, h3]⟩
    case s a c =>
      obtain ⟨b', hb', rfl⟩ := Option.map_eq_some_iff.1 h
      obtain ⟨h1, h2, h3⟩ := peq_spec hb' hus hvs
      have eu : u = .string a := by simpa [RelC, Rel1, RelD] using hu.1
      have ev : v = .string c := by simpa [RelC, Rel1, RelD] using hv.1
      subst eu; subst ev
      exact ⟨by simp [fitsAll, CK.fits, h1], by simp [fitsAll, CK.fits, h2], by simp [eqCells, eqCell, h3, decide_toList]⟩
theorem eqKd_row {d : Nat} {t : TypeId} {ks : List CK} (h : eqKd P d t = some ks) : ∃ td, P.underlying t = some td := by
  cases d with
  | zero => simp [eqKd] at h
  | succ d =>
    unfold eqKd at h
    cases ht : P.underlying t with
    | none => simp [ht] at h
    | some td => exact ⟨td, rfl⟩
theorem run_evEq {op : BinOp} {b : Bool} {r : PV} (h : evEq op b = some r) : (op = .eql ∧ r = .bool b) ∨ (op = .neq ∧ r = .bool !b) := by
  cases op <;> simp [evEq] at h
  · exact .inl ⟨rfl, h.symm⟩
  · exact .inr ⟨rfl, h.symm⟩
theorem beqInt (a b : Int) : (a == b) = decide (a = b) := by
  by_cases h : a = b <;> simp [h]
theorem run_evInt {op : BinOp} {t : TypeId} {k : IntKind} {a b : Int} {r : PV} (h : evInt op k a b = some r) :
    ∃ z, (do pure (); binOp op t (.int k a) (.int k b) : Sem Value).run P w = .ok z w ∧ Rel g r z := by
  unfold evInt at h
  split at h <;> first
    | (cases h; exact ⟨_, by simp only [binOp_add, Op.intArith]; rfl, relInt.2 rfl⟩)
    | (cases h; exact ⟨_, by simp only [binOp_sub, Op.intArith]; rfl, relInt.2 rfl⟩)
    | (cases h; exact ⟨_, by simp only [binOp_mul, Op.intArith]; rfl, relInt.2 rfl⟩)
    | (cases h; exact ⟨_, by simp only [binOp_eql]; rfl, relBool.2 (by rw [beqInt])⟩)
    | (cases h; exact ⟨_, by simp only [binOp_neq]; rfl, relBool.2 (by simp only [bne, beqInt])⟩)
    | (cases h; exact ⟨_, by simp only [binOp_lss]; rfl, relBool.2 rfl⟩)
    | (cases h; exact ⟨_, by simp only [binOp_leq]; rfl, relBool.2 rfl⟩)
    | (cases h; exact ⟨_, by simp only [binOp_gtr]; rfl, relBool.2 rfl⟩)
    | (cases h; exact ⟨_, by simp only [binOp_geq]; rfl, relBool.2 rfl⟩)
    | (cases h; exact ⟨_, by simp only [binOp_and, Op.intBits]; rfl, relInt.2 rfl⟩)
    | (cases h; exact ⟨_, by simp only [binOp_or, Op.intBits]; rfl, relInt.2 rfl⟩)
    | (cases h; exact ⟨_, by simp only [binOp_xor, Op.intBits]; rfl, relInt.2 rfl⟩)
    | (cases h; exact ⟨_, by simp only [binOp_andNot, Op.intBits]; rfl, relInt.2 rfl⟩)
    | (cases h; done)
    | skip
  · by_cases hb : b = 0
    · rw [if_pos hb] at h; cases h
    · rw [if_neg hb] at h; cases h
      exact ⟨_, by simp only [binOp_quo, Op.intDiv, if_neg hb]; rfl, relInt.2 rfl⟩
  · by_cases hb : b = 0
    · rw [if_pos hb] at h; cases h
    · rw [if_neg hb] at h; cases h
      exact ⟨_, by simp only [binOp_rem, Op.intDiv, if_neg hb]; rfl, relInt.2 rfl⟩
theorem run_equalIn_slice_nil (w : World) (d : Nat) (t e : TypeId) (a : Option Addr) (n c n' c' : Nat) (h : P.underlying t = some (.slice e)) : (Op.equalIn (d + 1) t (.slice a n c) (.slice none n' c')).run P w = .ok a.isNone w := by
  cases a <;> simp [Op.equalIn, run_underlying h]
theorem run_eql_slice_nil (w : World) (t e : TypeId) (a : Option Addr) (n c n' c' : Nat) (h : P.underlying t = some (.slice e)) : (binOp .eql t (.slice a n c) (.slice none n' c')).run P w = .ok (.bool a.isNone) w := by
  simp only [binOp]
  simp [Op.equal, Op.maxDepth, run_equalIn_slice_nil w 9999 t e a n c n' c' h]
theorem run_evBin {op : BinOp} {t : TypeId} {x y : Operand} {p q r : PV} {u v : Value} (h : evBin P op t p q = some r) (hu : Rel g p u) (hv : Rel g q v) :
    ∃ z, (do eqGuard op t x y u v; binOp op t u v : Sem Value).run P w = .ok z w ∧ Rel g r z := by
  cases p <;> cases q <;> simp only [evBin] at h <;> try cases h
  case int k a k' b =>
    rw [relInt] at hu hv
    subst hu; subst hv
    have hg : eqGuard op t x y (.int k a) (.int k' b) = pure () := eqGuard_at_int op t x y _ k a
    rw [hg]
    by_cases hs : op = .shl ∨ op = .shr
    · have hsh : evShift op k a b = some r := by rcases hs with rfl | rfl <;> exact h
      unfold evShift at hsh
      by_cases hb : b < 0
      · rw [if_pos hb] at hsh; cases hsh
      · rw [if_neg hb] at hsh
        rcases hs with rfl | rfl <;> simp only [Option.some.injEq] at hsh <;> subst hsh <;>
          exact ⟨_, by simp [binOp, Op.shift, hb], relInt.2 rfl⟩
    · have hsh : (if k = k' then evInt op k a b else none) = some r := by
        cases op <;> first | exact h | exact absurd (.inl rfl) hs | exact absurd (.inr rfl) hs
      by_cases hk : k = k'
      · subst hk
        rw [if_pos rfl] at hsh
        exact run_evInt hsh
      · rw [if_neg hk] at hsh; cases hsh
  case bool a b =>
    rw [relBool] at hu hv
    subst hu; subst hv
    have hg : eqGuard op t x y (.bool a) (.bool b) = pure () := eqGuard_at_bool op t x y _ a
    rw [hg]
    by_cases hb : boolT P t = true
    · rw [if_pos hb] at h
      have ht : P.underlying t = some .bool := by
        unfold boolT at hb
        split at hb
        · assumption
        · cases hb
      rcases run_evEq h with ⟨rfl, rfl⟩ | ⟨rfl, rfl⟩
      · exact ⟨_, by simp only [binOp]; simp [Op.equal, Op.maxDepth, run_equalIn_bool' w 9999 t a b ht], relBool.2 rfl⟩
      · exact ⟨_, by simp only [binOp]; simp [Op.equal, Op.maxDepth, run_equalIn_bool' w 9999 t a b ht], relBool.2 rfl⟩
    · rw [if_neg hb] at h; cases h
  case str a b =>
    rw [relStr] at hu hv
    subst hu; subst hv
    have hg : eqGuard op t x y (.string a) (.string b) = pure () := eqGuard_at_string op t x y _ a
    rw [hg]
    unfold evStr at h
    split at h <;> first
      | (cases h; exact ⟨_, by simp only [binOp_string_eql]; rfl, relBool.2 (by rw [decide_toList])⟩)
      | (cases h; exact ⟨_, by simp only [binOp_string_neq]; rfl, relBool.2 (by rw [decide_toList])⟩)
      | (cases h; exact ⟨_, by simp only [binOp_string_lss]; rfl, relBool.2 rfl⟩)
      | (cases h; exact ⟨_, by simp only [binOp_string_leq]; rfl, relBool.2 (by rw [decide_toList])⟩)
      | (cases h; exact ⟨_, by simp only [binOp_string_gtr]; rfl, relBool.2 (by rw [decide_toList])⟩)
      | (cases h; exact ⟨_, by simp only [binOp_string_geq]; rfl, relBool.2 rfl⟩)
      | (cases h; done)
      | skip
    · by_cases hs : a.size + b.size ≤ 9223372036854775807
      · rw [if_pos hs] at h; cases h
        have hs' : ¬ (9223372036854775807 < ((a.size : Int) + (b.size : Int))) := by omega
        exact ⟨_, by simp [binOp, Op.stringOp, hs'], relStr.2 rfl⟩
      · rw [if_neg hs] at h; cases h
  case agg xs ys =>
    simp only [Rel, RelA] at hu hv
    obtain ⟨us, rfl, hus⟩ := hu
    obtain ⟨vs, rfl, hvs⟩ := hv
    cases hk : eqK P t with
    | none => simp [hk] at h
    | some ks =>
      simp only [hk] at h
      obtain ⟨b, hb, hr⟩ := Option.bind_eq_some_iff.1 h
      obtain ⟨h1, h2, h3⟩ := peq_spec hb hus hvs
      unfold eqK at hk
      by_cases hgt : (P.eqGuardType P.depth t || !structT P t) = true
      · rw [if_pos hgt] at hk; cases hk
      · rw [if_neg hgt] at hk
        simp only [Bool.or_eq_true, Bool.not_eq_true', not_or] at hgt
        have hge := run_eqGuard_agg (P := P) w op t x y us vs (by simpa using hgt.1)
        obtain ⟨td, htd⟩ := eqKd_row hk
        have hst : ∃ fs, td = .struct fs := by
          have := hgt.2
          unfold structT at this
          rw [htd] at this
          cases td <;> first | exact ⟨_, rfl⟩ | (simp at this)
        obtain ⟨fs, rfl⟩ := hst
        have he := run_equalIn_cells (P := P) 10000 t ks _ us.toList vs.toList w hk htd h1 h2
        have hw : ∀ l : Array Value, wrapV (.struct fs) l.toList = .agg l := fun l => by simp [wrapV, isRowD]
        rw [hw, hw, h3] at he
        rcases run_evEq hr with ⟨rfl, rfl⟩ | ⟨rfl, rfl⟩
        · exact ⟨.bool b, by simp [hge, run_eql_struct, he], relBool.2 rfl⟩
        · exact ⟨.bool !b, by simp [hge, run_neq_struct, he], relBool.2 rfl⟩
  case lst o k b xss =>
    by_cases hc : sliceT P t = true ∧ op = .eql
    · rw [if_pos hc] at h
      cases h
      obtain ⟨hs, rfl⟩ := hc
      have ht : ∃ e, P.underlying t = some (.slice e) := by
        unfold sliceT at hs
        split at hs
        · exact ⟨_, by assumption⟩
        · cases hs
      obtain ⟨e, ht⟩ := ht
      have hv : v = .slice none 0 0 := by simpa [Rel, RelA, Rel1, RelD] using hv
      subst hv
      have hu' : RelD g.S g.w (.lst (match o with | .own _ => .frozen | o => o) k b xss) u := by
        cases o <;> first | exact hu | exact hu.1
      simp only [RelD] at hu'
      rcases hu'.2.2.2 with ⟨rfl, rfl⟩ | ⟨B, off, cap, rfl, _⟩
      · exact ⟨.bool true, by simp [eqGuard, run_eql_slice_nil _ _ _ _ _ _ _ _ ht], by simp [Rel, RelA, Rel1]⟩
      · exact ⟨.bool false, by simp [eqGuard, run_eql_slice_nil _ _ _ _ _ _ _ _ ht], by simp [Rel, RelA, Rel1]⟩
    · rw [if_neg hc] at h; cases h
end
end PM
