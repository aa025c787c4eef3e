/-
  THE FRAME, A: what the arguments of a statement read as, as plain Lean values.
-/
import Derived.Test.YtaoagcnjefialaaDoorPmP
import Derived.Test.YtaoagcnjefialaaDoorRows
import Derived.ChangeArms
import Derived.ChangeShapes
import Derived.OpenShut
import Derived.Lib.LaidTab
namespace PM
open Go Go.RowKit Go.ChangeShapes Go.WideShapes Go.Proofs.YtaoagcnjefialaaDoor

/-- All memory that there is. -/
def Bk (w : World) : Cells := fun B _ => B < w.heap.size
/-- What a reading says of a plain value, and how large the value is. -/
class Dt (α : Type) where
  dat : {H : Type} → α → DataW H → Prop
  siz : α → Nat
  rng : α → Prop
instance : Dt Int := ⟨fun n d => d = .lit (.int .i64 n), fun _ => 1, fun n => (Lit.int .i64 n).wf = true⟩
instance : Dt Bool := ⟨fun b d => d = .lit (.bool b), fun _ => 1, fun _ => True⟩
instance : Dt ByteArray := ⟨fun s d => d = .lit (.string s.data.toList), fun s => s.size + 1, fun _ => True⟩
/-- A number of eight bits. -/
structure U8 where
  n : Int
instance : Enc U8 := ⟨1, 1, fun x => .int .u8 x.n⟩
instance : Dt U8 := ⟨fun n d => d = .lit (.int .u8 n.n), fun _ => 1, fun n => (Lit.int .u8 n.n).wf = true⟩
def sizL {α : Type} [Dt α] : List α → Nat
  | [] => 0
  | x :: xs => Dt.siz x + sizL xs
instance {α : Type} [Dt α] : Dt (List α) := ⟨fun l d => (l = [] ∧ d = .nil) ∨ ∃ es sp, d = .slice es sp ∧ All2 Dt.dat l es, fun l => sizL l + 1, fun l => ∀ (i : Nat) (x : α), l[i]? = some x → Dt.rng x⟩
/-- Several values one behind the other. -/
class DtL (β : Type) where
  dts : {H : Type} → β → List (DataW H) → Prop
  szs : β → Nat
  cells : β → List PV
  rngs : β → Prop
instance : DtL Unit := ⟨fun _ ds => ds = [], fun _ => 0, fun _ => [], fun _ => True⟩
instance {α β : Type} [Enc α] [Dt α] [DtL β] : DtL (α × β) := ⟨fun b ds => ∃ d r, ds = d :: r ∧ Dt.dat b.1 d ∧ DtL.dts b.2 r, fun b => Dt.siz b.1 + DtL.szs b.2, fun b => cellsOf b.1 ++ DtL.cells b.2, fun b => Dt.rng b.1 ∧ DtL.rngs b.2⟩

def spotOK : Value → Prop
  | .slice (some a) _ _ => a.spot = none
  | _ => True
theorem spot_of_ok {P : Program} {w : World} {r : Reach} {b : Nat} {u : TypeId} {v : Value} (h : Cell.okWide P w r b u v) : spotOK v := by
  unfold spotOK
  split
  · rename_i a len cap
    unfold Cell.okWide at h
    cases hu : P.underlying u with
    | none => simp [hu, Cell.ok] at h
    | some d =>
      cases d <;> simp [hu, Cell.ok] at h
      exact h.2.2.2.1
  · trivial
/-- A type of the program, and the plain type of what it holds. -/
structure TyOK (P : Program) (t : TypeId) (α : Type) (sl : Bool) [Enc α] [Dt α] : Prop where
  cells : P.cellsOf t = Enc.k α
  bytes : P.bytesOf t = Enc.b α
  pos : Enc.k α ≠ 0
  bpos : Enc.b α ≠ 0
  len : ∀ a : α, (cellsOf a).length = Enc.k α
  one : ∀ a : α, (cellsOf a).all PV.one = true
  bulk : ∀ {H : Type} (a : α) (d : DataW H), Dt.dat a d → Dt.siz a ≤ Rows.uptoBulk d
  inj : ∀ {H : Type} (a b : α) (d : DataW H), Dt.dat a d → Dt.dat b d → a = b
  rd : ∀ {H : Type} {enc : TypeId × Value → H} {w : World} {sp : Nat → Bool} {held : Bool} {fuel : Nat} {cs : List Value} {x : DataW H × List MemPlace}, DataW.trod enc P w 0 sp held fuel t cs = some x →
    (∀ n ∈ DataW.weights P t x.1, n ≤ reachBytes) → (sl = true → ∀ v ∈ cs, spotOK v) → ∃ a : α, Dt.dat a x.1 ∧ Dt.rng a ∧ All2 (RelD (Bk w) w) (cellsOf a) cs
  val : ∀ {w : World} {b : Nat} {v : Value} {a : α}, Value.okWide P w .any b t v → All2 (RelD (Bk w) w) (cellsOf a) v.cells.toList → RelD (Bk w) w (Enc.pv a) v
  spots : ∀ {w : World} {b : Nat} {v : Value}, Value.okWide P w .any b t v → ∀ u ∈ v.cells.toList, spotOK u
section
variable {P : Program} {t : TypeId}
theorem all2_one {R : PV → Value → Prop} {p : PV} {v : Value} (h : R p v) : All2 R [p] [v] := .cons h .nil
theorem cellwise {d : TypeDesc} (hd : P.underlying t = some d) (hn : ∀ fs, d ≠ .struct fs) (hn2 : ∀ n e, d ≠ .array n e) {w : World} {b : Nat} {v : Value} (h : Value.okWide P w .any b t v) : Cell.okWide P w .any b t v := by
  unfold Value.okWide at h
  split at h
  · rename_i e; rw [hd] at e; cases e; exact absurd rfl (hn _)
  · rename_i e; rw [hd] at e; cases e; exact absurd rfl (hn2 _ _)
  · exact h
theorem ty_int (h : P.underlying t = some (.int .i64)) (hc : (P.cellsOf t, P.bytesOf t) = (1, 8)) : TyOK P t Int false where
  cells := (Prod.mk.inj hc).1
  bytes := (Prod.mk.inj hc).2
  pos := by decide
  bpos := by decide
  len := fun _ => rfl
  one := fun _ => rfl
  bulk := fun a d h => by cases h; exact Nat.le_refl _
  inj := fun a b d h1 h2 => by
    have h1 : d = _ := h1
    have h2 : d = _ := h2
    rw [h1] at h2; simpa using h2
  rd := fun hr _ _ => by
    obtain ⟨n, rfl, rfl, hwf⟩ := DataW.trod_int h hr
    exact ⟨n, rfl, hwf, all2_one (by show RelD _ _ (.int .i64 n) _; simp only [RelD])⟩
  val := fun {w b v a} hv hr => by
    obtain ⟨n, rfl⟩ := okWide_int h hv
    exact hr.head
  spots := fun {w b v} hv u hu => by
    obtain ⟨n, rfl⟩ := okWide_int h hv
    have : u = .int .i64 n := by simpa [Value.cells] using hu
    subst this; trivial
theorem ty_u8 (h : P.underlying t = some (.int .u8)) (hc : (P.cellsOf t, P.bytesOf t) = (1, 1)) : TyOK P t U8 false where
  cells := (Prod.mk.inj hc).1
  bytes := (Prod.mk.inj hc).2
  pos := by decide
  bpos := by decide
  len := fun _ => rfl
  one := fun _ => rfl
  bulk := fun a d h => by cases h; exact Nat.le_refl _
  inj := fun a b d h1 h2 => by
    have h1 : d = _ := h1
    have h2 : d = _ := h2
    rw [h1] at h2
    cases a; cases b
    simp only [DataW.lit.injEq, Lit.int.injEq, true_and] at h2
    exact congrArg U8.mk h2
  rd := fun hr _ _ => by
    obtain ⟨n, rfl, rfl, hwf⟩ := DataW.trod_int h hr
    exact ⟨⟨n⟩, rfl, hwf, all2_one (by show RelD _ _ (.int .u8 n) _; simp only [RelD])⟩
  val := fun {w b v a} hv hr => by
    obtain ⟨n, rfl⟩ := okWide_int h hv
    exact hr.head
  spots := fun {w b v} hv u hu => by
    obtain ⟨n, rfl⟩ := okWide_int h hv
    have : u = .int .u8 n := by simpa [Value.cells] using hu
    subst this; trivial
theorem ty_bool (h : P.underlying t = some .bool) (hc : (P.cellsOf t, P.bytesOf t) = (1, 1)) : TyOK P t Bool false where
  cells := (Prod.mk.inj hc).1
  bytes := (Prod.mk.inj hc).2
  pos := by decide
  bpos := by decide
  len := fun _ => rfl
  one := fun _ => rfl
  bulk := fun a d h => by cases h; exact Nat.le_refl _
  inj := fun a b d h1 h2 => by
    have h1 : d = _ := h1
    have h2 : d = _ := h2
    rw [h1] at h2; simpa using h2
  rd := fun hr _ _ => by
    obtain ⟨n, rfl, rfl⟩ := DataW.trod_bool h hr
    exact ⟨n, rfl, trivial, all2_one (by show RelD _ _ (.bool n) _; simp only [RelD])⟩
  val := fun {w b v a} hv hr => by
    obtain ⟨n, rfl⟩ := okWide_bool h hv
    exact hr.head
  spots := fun {w b v} hv u hu => by
    obtain ⟨n, rfl⟩ := okWide_bool h hv
    have : u = .bool n := by simpa [Value.cells] using hu
    subst this; trivial
theorem okWide_str {w : World} {b : Nat} {v : Value} (h : P.underlying t = some .string) (hv : Value.okWide P w .any b t v) : ∃ s, v = .string s := by
  have := cellwise h (fun _ => by simp) (fun _ _ => by simp) hv
  unfold Cell.okWide at this
  rw [h] at this
  cases v <;> simp [Cell.ok, h] at this
  exact ⟨_, rfl⟩
theorem ty_str (h : P.underlying t = some .string) (hc : (P.cellsOf t, P.bytesOf t) = (1, 16)) : TyOK P t ByteArray false where
  cells := (Prod.mk.inj hc).1
  bytes := (Prod.mk.inj hc).2
  pos := by decide
  bpos := by decide
  len := fun _ => rfl
  one := fun _ => rfl
  bulk := fun a d h => by
    cases h
    show a.size + 1 ≤ a.data.toList.length + 1
    rw [Array.length_toList]; exact Nat.le_refl _
  inj := fun a b d h1 h2 => by
    have h1 : d = _ := h1
    have h2 : d = _ := h2
    rw [h1] at h2
    have h3 : a.data.toList = b.data.toList := by simpa using h2
    cases a; cases b
    exact congrArg ByteArray.mk (Array.toList_inj.1 h3)
  rd := fun hr _ _ => by
    obtain ⟨n, rfl, rfl, _⟩ := DataW.trod_string h hr
    exact ⟨n, rfl, trivial, all2_one (by show RelD _ _ (.str n) _; simp only [RelD])⟩
  val := fun {w b v a} hv hr => by
    obtain ⟨n, rfl⟩ := okWide_str h hv
    exact hr.head
  spots := fun {w b v} hv u hu => by
    obtain ⟨n, rfl⟩ := okWide_str h hv
    have : u = .string n := by simpa [Value.cells] using hu
    subst this; trivial
theorem bulk_all {α : Type} [Dt α] {H : Type} (hb : ∀ (a : α) (d : DataW H), Dt.dat a d → Dt.siz a ≤ Rows.uptoBulk d) : ∀ (l : List α) (es : List (DataW H)), All2 Dt.dat l es → sizL l ≤ Rows.uptoBulkAll es
  | [], es, h => by rw [h.nil_left]; exact Nat.le_refl _
  | x :: xs, es, h => by
    obtain ⟨e, es', rfl, h1, h2⟩ := h.cons_left
    have := bulk_all hb xs es' h2
    have := hb x e h1
    simp only [sizL, Rows.uptoBulkAll]; omega
theorem all2_inj {α : Type} [Dt α] {H : Type} (hi : ∀ (a b : α) (d : DataW H), Dt.dat a d → Dt.dat b d → a = b) : ∀ (l m : List α) (es : List (DataW H)), All2 Dt.dat l es → All2 Dt.dat m es → l = m
  | [], [], _, _, _ => rfl
  | [], _ :: _, es, h1, h2 => by rw [h1.nil_left] at h2; exact absurd h2.1 (by simp)
  | _ :: _, [], es, h1, h2 => by rw [h2.nil_left] at h1; exact absurd h1.1 (by simp)
  | x :: xs, y :: ys, es, h1, h2 => by
    obtain ⟨e, es', rfl, h3, h4⟩ := h1.cons_left
    rw [hi x y e h3 h2.head, all2_inj hi xs ys es' h4 h2.tail]
theorem weightsAll_mem {H : Type} {e : TypeId} : ∀ {l : List (DataW H)} {d : DataW H} {n : Nat}, d ∈ l → n ∈ DataW.weights P e d → n ∈ DataW.weightsAll P e l
  | [], _, _, h, _ => by cases h
  | x :: xs, d, n, h, hn => by
    rw [DataW.weightsAll, List.mem_append]
    rcases List.mem_cons.1 h with rfl | h
    · exact .inl hn
    · exact .inr (weightsAll_mem h hn)
theorem cells_at {w : World} {a : Addr} {n : Nat} {vs : List Value} (h : w.cells? 0 a n = some vs) : vs.length = n ∧ ∀ i v, vs[i]? = some v → w.cell? (a.add i) = some v := by
  unfold World.cells? at h
  rw [if_pos (Nat.zero_le _)] at h
  have h1 := Lib.mapM_length h
  refine ⟨by simpa using h1, fun i v hv => ?_⟩
  have hi : i < n := by
    have := (List.getElem?_eq_some_iff.1 hv).1
    rw [h1] at this; simpa using this
  obtain ⟨b, hb, hf⟩ := Lib.mapM_at h i i (by simp [hi])
  rw [hb] at hv; cases hv
  exact hf
theorem cell_block {w : World} {a : Addr} {v : Value} (h : w.cell? a = some v) : a.block < w.heap.size ∧ a.spot = none := by
  unfold World.cell? at h
  split at h
  · rename_i hh
    refine ⟨(Array.getElem?_eq_some_iff.1 hh).1, ?_⟩
    split at h
    · cases h
    · rename_i hs; simpa using hs
  · cases h
/-- A list of what its elements are. -/
theorem ty_list {e : TypeId} {α : Type} [Enc α] [Dt α] (he : TyOK P e α false) (h : P.underlying t = some (.slice e)) (hc : (P.cellsOf t, P.bytesOf t) = (1, 24)) : TyOK P t (List α) true where
  cells := (Prod.mk.inj hc).1
  bytes := (Prod.mk.inj hc).2
  pos := by show (1 : Nat) ≠ 0; decide
  bpos := by show (24 : Nat) ≠ 0; decide
  len := fun _ => rfl
  one := fun _ => rfl
  bulk := fun a d hd => by
    rcases hd with ⟨rfl, rfl⟩ | ⟨es, sp, rfl, h2⟩
    · exact Nat.le_refl _
    · have := bulk_all he.bulk a es h2
      show sizL a + 1 ≤ Rows.uptoBulkAll es + Rows.uptoBulkAll sp + 1
      omega
  inj := fun a b d h1 h2 => by
    rcases h1 with ⟨rfl, rfl⟩ | ⟨es, sp, rfl, h1⟩ <;> rcases h2 with ⟨rfl, e⟩ | ⟨es', sp', e, h2⟩ <;> first | rfl | cases e
    exact all2_inj he.inj a b es h1 h2
  rd := fun {H enc w sp held fuel cs x} hr hw hs => by
    rcases DataW.trod_slice h hr with ⟨rfl, rfl⟩ | ⟨a, len, cap, elems, rest, n, rfl, rfl, rfl, _, hlc, hcm, hel, hel2, _, _⟩
    · exact ⟨[], .inl ⟨rfl, rfl⟩, fun i x hx => by simp at hx, all2_one (by show RelD _ _ (.lst .frozen _ _ []) _; simp [RelD])⟩
    · simp only [DataW.weights, h] at hw
      have hspot : a.spot = none := hs rfl (.slice (some a) len cap) (by simp)
      have hex : ∀ i, i < len → ∃ (vs : List Value) (y : DataW H × List MemPlace) (b : α), elems[i]? = some y ∧ w.cells? 0 (a.add (i * P.cellsOf e)) (P.cellsOf e) = some vs ∧ Dt.dat b y.1 ∧ Dt.rng b ∧ All2 (RelD (Bk w) w) (cellsOf b) vs := by
        intro i hi
        have h1 := hel2 i hi
        have h2 : i < elems.length := by omega
        rw [List.getElem?_eq_getElem h2] at h1
        obtain ⟨vs, h3, h4⟩ := Option.bind_eq_some_iff.1 h1
        obtain ⟨b, h5, h7, h6⟩ := he.rd h4 (fun m hm => hw m (List.mem_cons_of_mem _ (List.mem_append_left _ (weightsAll_mem (List.mem_map.2 ⟨_, List.getElem_mem h2, rfl⟩) hm)))) (fun e => by cases e)
        exact ⟨vs, _, b, List.getElem?_eq_getElem h2, h3, h5, h7, h6⟩
      -- the list of the values
      have hlist : ∀ m, m ≤ len → ∃ l : List α, l.length = m ∧ ∀ i b, l[i]? = some b → ∃ (vs : List Value) (y : DataW H × List MemPlace), elems[i]? = some y ∧ w.cells? 0 (a.add (i * P.cellsOf e)) (P.cellsOf e) = some vs ∧ Dt.dat b y.1 ∧ Dt.rng b ∧ All2 (RelD (Bk w) w) (cellsOf b) vs := by
        intro m
        induction m with
        | zero => intro _; exact ⟨[], rfl, fun i b hb => by simp at hb⟩
        | succ m ih =>
          intro hm
          obtain ⟨l, hl, hq⟩ := ih (by omega)
          obtain ⟨vs, y, b, h1, h2, h3, h4⟩ := hex m (by omega)
          refine ⟨l ++ [b], by simp [hl], fun i c hc => ?_⟩
          rw [List.getElem?_append] at hc
          split at hc
          · exact hq i c hc
          · rename_i hi
            have : i = m := by
              have := (List.getElem?_eq_some_iff.1 hc).1
              simp at this; omega
            subst this
            rw [hl] at hc
            simp at hc
            subst hc
            exact ⟨vs, y, h1, h2, h3, h4⟩
      obtain ⟨l, hl, hq⟩ := hlist len (Nat.le_refl _)
      refine ⟨l, .inr ⟨_, _, rfl, ⟨by simp [hl, hel], fun i b d hb hd => ?_⟩⟩, fun i b hb => (by obtain ⟨_, _, _, _, _, h7, _⟩ := hq i b hb; exact h7), all2_one ?_⟩
      · obtain ⟨vs, y, h1, _, h3, _⟩ := hq i b hb
        rw [List.getElem?_map, h1] at hd
        cases hd
        exact h3
      · show RelD (Bk w) w (lstOf .frozen l) _
        unfold lstOf
        simp only [RelD, List.length_map]
        have hb := hw _ (List.mem_cons_self ..)
        simp only [List.length_map, reachBytes, hel] at hb
        rw [he.bytes] at hb
        have hbp := Nat.pos_of_ne_zero he.bpos
        have hle : len ≤ len * Enc.b α := Nat.le_mul_of_pos_right _ hbp
        have hm : len * Enc.b α ≤ (len + rest.length) * Enc.b α := Nat.mul_le_mul_right _ (by omega)
        refine ⟨by rw [hl]; omega, by omega, .inl trivial, .inr ⟨a.block, a.off, cap, ?_, by omega, fun e => (by cases e), ?_⟩⟩
        · rw [hl]
          cases a
          simp only at hspot
          subst hspot
          rfl
        · rw [relEls_iff]
          intro i css hi
          rw [List.getElem?_map] at hi
          obtain ⟨b, hb', rfl⟩ := Option.map_eq_some_iff.1 hi
          obtain ⟨vs, y, _, h2, _, _, h4⟩ := hq i b hb'
          refine ⟨he.len b, ?_⟩
          rw [relCells_iff]
          intro j c hj
          obtain ⟨hlen, hat⟩ := cells_at h2
          obtain ⟨v, hv, hrel⟩ := h4.right hj
          have hcell := hat j v hv
          have hadd : (a.add (i * P.cellsOf e)).add j = ⟨a.block, a.off + i * Enc.k α + j, none⟩ := by
            rw [he.cells]
            cases a
            simp only at hspot
            subst hspot
            unfold Addr.add
            (repeat' split) <;> simp_all <;> omega
          rw [hadd] at hcell
          exact ⟨List.all_eq_true.1 (he.one b) c (List.mem_of_getElem? hj), (cell_block hcell).1, v, hcell, hrel⟩
  val := fun {w b v a} hv hr => by
    have := cellwise h (fun _ => by simp) (fun _ _ => by simp) hv
    unfold Cell.okWide at this
    rw [h] at this
    cases v <;> simp [Cell.ok, h] at this
    exact hr.head
  spots := fun {w b v} hv u hu => by
    have := cellwise h (fun _ => by simp) (fun _ _ => by simp) hv
    have h2 := spot_of_ok this
    unfold Cell.okWide at this
    rw [h] at this
    cases v <;> simp [Cell.ok, h] at this
    simp [Value.cells] at hu
    subst hu; exact h2
end
end PM
