/-
  THE PURE MACHINE, D: operations that leave memory alone: what they yield (plain functions on PV), and that the model's operations yield it.
-/
import Derived.Test.YtdhkjmlafmokjaaDoorPmC
import Derived.Laws.StructEq
namespace PM
open Go Go.RowKit

/-! ### What is read off the types -/
def isRowD : TypeDesc → Bool
  | .struct _ | .array _ _ => true
  | _ => false
/-- Is a value of the type an aggregate? How many cells has it? -/
def tyK (P : Program) (t : TypeId) : Option (Bool × Nat) :=
  match P.info? t, P.underlying t with
  | some i, some d => some (isRowD d, i.size)
  | _, _ => none
/-- A field's offset, whether it is an aggregate, its size. -/
def fieldK (P : Program) (t : TypeId) (f : Nat) : Option (Nat × Bool × Nat) :=
  match P.underlying t with
  | some (.struct fs) => match fs[f]? with
    | some fl => (tyK P fl.type).map fun x => (fl.offset, x.1, x.2)
    | none => none
  | _ => none
/-- A slice type's element: its type, whether it is an aggregate, its cells, its bytes. -/
def elemK (P : Program) (t : TypeId) : Option (TypeId × Bool × Nat × Nat) :=
  match P.underlying t with
  | some (.slice e) => match P.info? e, tyK P e with
    | some i, some x => some (e, x.1, x.2, i.bytes)
    | _, _ => none
  | _ => none
/-- An array type: its length, whether an element is an aggregate, an element's cells. -/
def arrK (P : Program) (t : TypeId) : Option (Nat × Bool × Nat) :=
  match P.underlying t with
  | some (.array n e) => (tyK P e).map fun x => (n, x.1, x.2)
  | _ => none
def ofConst1 : Value → PV
  | .int k n => .int k n
  | .bool b => .bool b
  | .string s => .str s
  | .slice none 0 0 => .nil
  | .map none => .fmp [] []
  | _ => .any
def ofConst : Value → PV
  | .agg arr => .agg (arr.toList.map ofConst1)
  | v => ofConst1 v
def zeroK (P : Program) (t : TypeId) : Option PV :=
  match P.info? t with
  | some i => match i.zero with
    | some z => if z.cells.toList.all (·.oneCell') = true then some (ofConst z) else none
    | none => none
  | none => none
theorem zeroK_spec {P : Program} {t : TypeId} {z : PV} (h : zeroK P t = some z) : ∃ i zv, P.info? t = some i ∧ i.zero = some zv ∧ ofConst zv = z ∧ ∀ v ∈ zv.cells.toList, v.oneCell' = true := by
  unfold zeroK at h
  split at h
  · rename_i i hi
    split at h
    · rename_i zv hz
      split at h
      · rename_i hc
        cases h
        exact ⟨i, zv, hi, hz, rfl, fun v hv => List.all_eq_true.1 hc v hv⟩
      · cases h
    · cases h
  · cases h
def strT (P : Program) (t : TypeId) : Bool := match P.underlying t with | some .string => true | _ => false
def boolT (P : Program) (t : TypeId) : Bool := match P.underlying t with | some .bool => true | _ => false
def sliceT (P : Program) (t : TypeId) : Bool := match P.underlying t with | some (.slice _) => true | _ => false
def mapT (P : Program) (t : TypeId) : Bool := match P.underlying t with | some (.map _ _) => true | _ => false
def intT (P : Program) (t : TypeId) : Option IntKind := match P.underlying t with | some (.int k) => some k | _ => none

/-- The kinds of the cells of a type whose values are compared cell by cell. -/
inductive CK where
  | i (k : IntKind) | b | s
def eqFs (P : Program) (f : TypeId → Option (List CK)) : List Field → Nat → Option (List CK)
  | [], _ => some []
  | fl :: rest, off =>
    if fl.name = "_" ∨ fl.offset ≠ off then none else
    match f fl.type, tyK P fl.type with
    | some ks, some (_, n) => if n = ks.length ∧ n ≠ 0 then (eqFs P f rest (off + n)).map (ks ++ ·) else none
    | _, _ => none
def eqKd (P : Program) : Nat → TypeId → Option (List CK)
  | 0, _ => none
  | d + 1, t =>
    match P.underlying t with
    | some .bool => some [.b]
    | some (.int k) => some [.i k]
    | some .string => some [.s]
    | some (.struct fs) => if P.stoodInHeld t then none else eqFs P (eqKd P d) fs.toList 0
    | _ => none
/-- The same, where no field is of an interface type. -/
def structT (P : Program) (t : TypeId) : Bool := match P.underlying t with | some (.struct _) => true | _ => false
def eqK (P : Program) (t : TypeId) : Option (List CK) := if P.eqGuardType P.depth t || !structT P t then none else eqKd P 10000 t

/-- Are two rows of cells equal? -/
def peq : List CK → List PV → List PV → Option Bool
  | [], [], [] => some true
  | .i k :: ks, .int k1 a :: xs, .int k2 b :: ys => if k1 = k ∧ k2 = k then (peq ks xs ys).map (decide (a = b) && ·) else none
  | .b :: ks, .bool a :: xs, .bool b :: ys => (peq ks xs ys).map ((a == b) && ·)
  | .s :: ks, .str a :: xs, .str b :: ys => (peq ks xs ys).map (decide (a = b) && ·)
  | _, _, _ => none

section
variable {P : Program}
theorem tyK_spec {t : TypeId} {x : Bool × Nat} (h : tyK P t = some x) : ∃ i d, P.info? t = some i ∧ P.underlying t = some d ∧ x = (isRowD d, i.size) := by
  unfold tyK at h
  split at h
  · rename_i i d h1 h2
    cases h
    exact ⟨i, d, h1, h2, rfl⟩
  · cases h
theorem elemK_spec {t : TypeId} {e : TypeId} {x : Bool} {n b : Nat} (h : elemK P t = some (e, x, n, b)) : ∃ i d, P.underlying t = some (.slice e) ∧ P.info? e = some i ∧ P.underlying e = some d ∧ x = isRowD d ∧ n = i.size ∧ b = i.bytes := by
  unfold elemK at h
  split at h
  · rename_i e' he
    split at h
    · rename_i i x' h1 h2
      cases h
      obtain ⟨i', d, h3, h4, rfl⟩ := tyK_spec h2
      rw [h1] at h3; cases h3
      exact ⟨i, d, he, h1, h4, rfl, rfl, rfl⟩
    · cases h
  · cases h
theorem arrK_spec {t : TypeId} {n k : Nat} {x : Bool} (h : arrK P t = some (n, x, k)) : ∃ e i d, P.underlying t = some (.array n e) ∧ P.info? e = some i ∧ P.underlying e = some d ∧ x = isRowD d ∧ k = i.size := by
  unfold arrK at h
  split at h
  · rename_i n' e he
    cases hk : tyK P e with
    | none => simp [hk] at h
    | some y =>
      obtain ⟨i, d, h1, h2, rfl⟩ := tyK_spec hk
      simp [hk] at h
      obtain ⟨rfl, rfl, rfl⟩ := h
      exact ⟨e, i, d, he, h1, h2, rfl, rfl⟩
  · cases h
theorem fieldK_spec {t : TypeId} {f off n : Nat} {x : Bool} (h : fieldK P t f = some (off, x, n)) : ∃ fs fl i d, P.underlying t = some (.struct fs) ∧ fs[f]? = some fl ∧ fl.offset = off ∧ P.info? fl.type = some i ∧ P.underlying fl.type = some d ∧ x = isRowD d ∧ n = i.size := by
  unfold fieldK at h
  split at h
  · rename_i fs hfs
    split at h
    · rename_i fl hfl
      cases hk : tyK P fl.type with
      | none => simp [hk] at h
      | some y =>
        obtain ⟨i, d, h1, h2, rfl⟩ := tyK_spec hk
        simp [hk] at h
        obtain ⟨rfl, rfl, rfl⟩ := h
        exact ⟨fs, fl, i, d, hfs, hfl, rfl, h1, h2, rfl, rfl⟩
    · cases h
  · cases h
theorem run_isAgg {t : TypeId} {d : TypeDesc} (h : P.underlying t = some d) (w : World) : (isAgg t).run P w = .ok (isRowD d) w := by
  unfold isAgg
  rw [Sem.run_bind, run_underlying h]
  cases d <;> rfl
theorem run_sizeOf {t : TypeId} {i : TypeInfo} (h : P.info? t = some i) (w : World) : (Go.sizeOf t).run P w = Result.ok i.size w := by
  simp [Go.sizeOf, typeInfo, h]

theorem rel_ofConst1 (g : GG) (v : Value) : Rel g (ofConst1 v) v := by
  unfold ofConst1
  split <;> first | trivial | simp [Rel, RelA, Rel1, RelD]
theorem ofConst1_one (v : Value) (h : v.oneCell' = true) (g : GG) : RelC g (ofConst1 v) v := by
  refine ⟨?_, h⟩
  unfold ofConst1
  split <;> first | trivial | simp [Rel1, RelD]

/-! ### Operands -/
def PSt.ev (s : PSt) : Operand → PV
  | .tmp t => s.get t
  | .const v => ofConst1 v
  | .global i => .gptr i 0
  | .func f => .fn f []
theorem InvG.ev {Gl : Nat → Option (List PV)} {S0 : Bs} {w0 : World} {s : PSt} {a : Act} {g : GG} (h : InvG Gl S0 w0 s a g) (x : Operand) : Rel g (s.ev x) (a.eval x) := by
  cases x with
  | tmp t => exact h.get t
  | const v => exact rel_ofConst1 g v
  | global i => simp [PSt.ev, Act.eval, Rel, RelA, Rel1, RelD]
  | func f => simp [PSt.ev, Act.eval, Rel, RelA, Rel1, All2]

/-! ### Comparing cell by cell -/
def CK.fits : CK → Value → Bool
  | .i k, .int k' _ => k = k'
  | .b, .bool _ => true
  | .s, .string _ => true
  | _, _ => false
def eqCell : Value → Value → Bool
  | .int _ a, .int _ b => a == b
  | .bool a, .bool b => a == b
  | .string a, .string b => a.toList == b.toList
  | _, _ => false
def eqCells : List Value → List Value → Bool
  | [], [] => true
  | x :: xs, y :: ys => eqCell x y && eqCells xs ys
  | _, _ => false
theorem eqCells_append : ∀ {xs xs' ys ys' : List Value}, xs.length = ys.length → eqCells (xs ++ xs') (ys ++ ys') = (eqCells xs ys && eqCells xs' ys')
  | [], _, [], _, _ => by simp [eqCells]
  | x :: xs, xs', y :: ys, ys', h => by
    simp only [List.cons_append, eqCells, eqCells_append (xs := xs) (ys := ys) (by simpa using h), Bool.and_assoc]
/-- The value of a type over cells. -/
def wrapV (d : TypeDesc) (xs : List Value) : Value := if isRowD d then .agg xs.toArray else xs.headD undef
theorem run_part {t : TypeId} {i : TypeInfo} {d : TypeDesc} (hi : P.info? t = some i) (hd : P.underlying t = some d) (cs : Array Value) (off : Nat) (h : off + i.size ≤ cs.size) (hs : isRowD d = false → i.size = 1) (w : World) :
    (part t cs off).run P w = .ok (wrapV d ((cs.toList.drop off).take i.size)) w := by
  unfold part wrapV
  rw [Sem.run_bind, run_isAgg hd]
  cases hr : isRowD d with
  | true =>
    simp only [Result.andThen_ok, if_true, Sem.run_bind, run_sizeOf hi, Sem.run_pure]
    congr 2
    apply Array.ext'
    simp
  | false =>
    have h1 := hs hr
    have hlt : off < cs.size := by omega
    simp only [Result.andThen_ok, Bool.false_eq_true, if_false, Array.getElem?_eq_getElem hlt, Sem.run_pure]
    congr 1
    rw [h1, List.drop_eq_getElem_cons (by simpa using hlt)]
    simp
def fitsAll : List CK → List Value → Bool
  | [], [] => true
  | k :: ks, v :: vs => k.fits v && fitsAll ks vs
  | _, _ => false
theorem fitsAll_length : ∀ {ks : List CK} {vs : List Value}, fitsAll ks vs = true → ks.length = vs.length
  | [], [], _ => rfl
  | k :: ks, v :: vs, h => by
    simp only [fitsAll, Bool.and_eq_true] at h
    simp [fitsAll_length h.2]
theorem fitsAll_split : ∀ {ks ks' : List CK} {vs : List Value}, fitsAll (ks ++ ks') vs = true → fitsAll ks (vs.take ks.length) = true ∧ fitsAll ks' (vs.drop ks.length) = true
  | [], ks', vs, h => by simpa [fitsAll] using h
  | k :: ks, ks', [], h => by simp [fitsAll] at h
  | k :: ks, ks', v :: vs, h => by
    simp only [List.cons_append, fitsAll, Bool.and_eq_true] at h
    have := fitsAll_split h.2
    simp [fitsAll, h.1, this.1, this.2]
theorem fits_one {k : CK} {xs : List Value} (h : fitsAll [k] xs = true) : ∃ x, xs = [x] ∧ k.fits x = true := by
  match xs, h with
  | [], h => simp [fitsAll] at h
  | [x], h => exact ⟨x, rfl, by simpa [fitsAll] using h⟩
  | _ :: _ :: _, h => simp [fitsAll] at h
theorem run_equalIn_cells : ∀ (d : Nat) (t : TypeId) (ks : List CK) (td : TypeDesc) (xs ys : List Value) (w : World), eqKd P d t = some ks → P.underlying t = some td → fitsAll ks xs = true → fitsAll ks ys = true →
    (Op.equalIn d t (wrapV td xs) (wrapV td ys)).run P w = .ok (eqCells xs ys) w
  | 0, _, _, _, _, _, _, h, _, _, _ => by simp [eqKd] at h
  | d + 1, t, ks, td, xs, ys, w, h, ht, hx, hy => by
    unfold eqKd at h
    rw [ht] at h
    cases td <;> simp only at h <;> try cases h
    case bool =>
      obtain ⟨x, rfl, gx⟩ := fits_one hx
      obtain ⟨y, rfl, gy⟩ := fits_one hy
      clear hx hy
      cases x <;> simp only [CK.fits] at gx <;> try cases gx
      cases y <;> simp only [CK.fits] at gy <;> try cases gy
      simp [wrapV, isRowD, run_equalIn_bool' w d t _ _ ht, eqCells, eqCell]
    case int k =>
      obtain ⟨x, rfl, gx⟩ := fits_one hx
      obtain ⟨y, rfl, gy⟩ := fits_one hy
      clear hx hy
      cases x <;> simp only [CK.fits, decide_eq_true_eq] at gx <;> try cases gx
      cases y <;> simp only [CK.fits, decide_eq_true_eq] at gy <;> try cases gy
      simp [wrapV, isRowD, run_equalIn_int w d t _ _ _ _ ht, eqCells, eqCell]
    case string =>
      obtain ⟨x, rfl, gx⟩ := fits_one hx
      obtain ⟨y, rfl, gy⟩ := fits_one hy
      clear hx hy
      cases x <;> simp only [CK.fits] at gx <;> try cases gx
      cases y <;> simp only [CK.fits] at gy <;> try cases gy
      simp [wrapV, isRowD, run_equalIn_string w d t _ _ ht, eqCells, eqCell]
    case struct fs =>
      by_cases hs : P.stoodInHeld t = true
      · rw [if_pos hs] at h; cases h
      · rw [if_neg hs] at h
        have hf : P.fieldsOf t = fs := by simp [Program.fieldsOf, ht]
        have e := run_equalIn_struct (P := P) w d t xs.toArray ys.toArray (by rw [hf]; exact ht) (by simpa using hs)
        have hw : ∀ l : List Value, wrapV (.struct fs) l = .agg l.toArray := fun l => by simp [wrapV, isRowD]
        rw [hw, hw, e, hf]
        have key : ∀ (l : List Field) (off : Nat) (ks : List CK) (w : World), eqFs P (eqKd P d) l off = some ks → fitsAll ks (xs.drop off) = true → fitsAll ks (ys.drop off) = true →
            (Op.eqFields d xs.toArray ys.toArray l).run P w = .ok (eqCells (xs.drop off) (ys.drop off)) w := by
          intro l
          induction l with
          | nil =>
            intro off ks w h1 h2 h3
            simp only [eqFs] at h1
            cases h1
            have l1 := fitsAll_length h2
            have l2 := fitsAll_length h3
            rw [List.eq_nil_of_length_eq_zero l1.symm, List.eq_nil_of_length_eq_zero l2.symm]
            simp [Op.eqFields, eqCells]
          | cons fl l ih =>
            intro off ks w h1 h2 h3
            simp only [eqFs] at h1
            split at h1
            · cases h1
            · rename_i hno
              split at h1
              · rename_i ks1 b n hk1 htk
                split at h1
                · rename_i hn
                  obtain ⟨i, td', hi, hd, hxx⟩ := tyK_spec htk
                  have hni : n = i.size := (Prod.mk.inj hxx).2
                  cases hr : eqFs P (eqKd P d) l (off + n) with
                  | none => simp [hr] at h1
                  | some ks2 =>
                    simp [hr] at h1
                    subst h1
                    have hoff : fl.offset = off := by
                      rcases Nat.decEq fl.offset off with e | e
                      · exact absurd (.inr e) hno
                      · exact e
                    have hname : fl.name ≠ "_" := fun e => hno (.inl e)
                    obtain ⟨x1, x2⟩ := fitsAll_split h2
                    obtain ⟨y1, y2⟩ := fitsAll_split h3
                    rw [List.drop_drop, ← hn.1] at x2 y2
                    have lx := fitsAll_length h2
                    have ly := fitsAll_length h3
                    simp only [List.length_append, List.length_drop] at lx ly
                    have hsz : isRowD td' = false → i.size = 1 := fun hrow => by
                      rw [← hni, hn.1]
                      have hk2 := hk1
                      cases d with
                      | zero => simp [eqKd] at hk2
                      | succ d =>
                        unfold eqKd at hk2
                        rw [hd] at hk2
                        cases td' <;> simp only at hk2 <;> first | (cases hk2; done) | (cases hk2; rfl) | (simp [isRowD] at hrow)
                    have px := run_part (P := P) hi hd xs.toArray off (by simp; omega) hsz w
                    have py := run_part (P := P) hi hd ys.toArray off (by simp; omega) hsz w
                    simp only [Op.eqFields, if_pos hname, hoff, Sem.run_bind, px, py, Result.andThen_ok]
                    rw [← hni, hn.1]
                    rw [run_equalIn_cells d fl.type ks1 td' _ _ w hk1 hd x1 y1]
                    simp only [Result.andThen_ok]
                    have split : ∀ l : List Value, l.drop off = (l.drop off).take ks1.length ++ l.drop (off + n) := fun l => by
                      rw [hn.1, ← List.drop_drop, List.take_append_drop]
                    have hsum : eqCells (xs.drop off) (ys.drop off) = (eqCells (List.take ks1.length (List.drop off xs)) (List.take ks1.length (List.drop off ys)) && eqCells (xs.drop (off + n)) (ys.drop (off + n))) := by
                      rw [← eqCells_append (by simp; omega), ← split xs, ← split ys]
                    rw [hsum]
                    cases hcc : eqCells (List.take ks1.length (List.drop off xs)) (List.take ks1.length (List.drop off ys))
                    · simp
                    · simp [ih (off + n) ks2 w hr x2 y2]
                · cases h1
              · cases h1
        have := key fs.toList 0 ks w h (by simpa using hx) (by simpa using hy)
        simpa using this
end
end PM
