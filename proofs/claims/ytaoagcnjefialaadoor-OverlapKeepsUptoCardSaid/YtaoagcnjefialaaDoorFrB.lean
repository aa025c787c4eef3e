/-
  THE FRAME, B: structs, argument lists, and from a contract of the pure machine to what a statement asks of a call.
-/
import Derived.Test.YtaoagcnjefialaaDoorFrA
import Derived.ChangeSame
import Derived.Carry
import Derived.MakeChecks
import Derived.FnData
namespace PM
open Go Go.RowKit Go.ChangeShapes Go.WideShapes Go.Proofs.YtaoagcnjefialaaDoor

/-- Fields, from cell off on, up to cell n. -/
structure FldOK (P : Program) (fs : List Field) (off n : Nat) (β : Type) (sl : Bool) [DtL β] : Prop where
  size : ∀ b : β, off + (DtL.cells b).length = n
  one : ∀ b : β, (DtL.cells b).all PV.one = true
  bulk : ∀ {H : Type} (b : β) (ds : List (DataW H)), DtL.dts b ds → DtL.szs b ≤ Rows.uptoBulkAll ds
  inj : ∀ {H : Type} (a b : β) (ds : List (DataW H)), DtL.dts a ds → DtL.dts b ds → a = b
  rd : ∀ {H : Type} {enc : TypeId × Value → H} {w : World} {sp : Nat → Bool} {held : Bool} {fuel : Nat} {cs : List Value} {ys : List (DataW H × List MemPlace)}, ys.length = fs.length →
    (∀ (i : Nat) (f : Field), fs[i]? = some f → DataW.trod enc P w 0 sp held fuel f.type ((cs.drop f.offset).take (P.cellsOf f.type)) = ys[i]?) → cs.length = n →
    (∀ m ∈ DataW.weightsEach P (fs.map (·.type)) (ys.map (·.1)), m ≤ reachBytes) → (sl = true → ∀ v ∈ cs, spotOK v) → ∃ b : β, DtL.dts b (ys.map (·.1)) ∧ DtL.rngs b ∧ All2 (RelD (Bk w) w) (DtL.cells b) (cs.drop off)
section
variable {P : Program}
theorem fld_nil (n : Nat) : FldOK P [] n n Unit false where
  size := fun _ => rfl
  one := fun _ => rfl
  bulk := fun b ds h => by cases h; exact Nat.le_refl _
  inj := fun _ _ _ _ _ => rfl
  rd := fun {H enc w sp held fuel cs ys} hy _ hc _ _ => by
    have : ys = [] := List.eq_nil_of_length_eq_zero hy
    subst this
    exact ⟨(), rfl, trivial, by rw [List.drop_eq_nil_of_le (by omega)]; exact All2.nil⟩
theorem fld_cons' {f : Field} {fs : List Field} {off n : Nat} {α β : Type} {s1 s2 : Bool} [Enc α] [Dt α] [DtL β] (h : TyOK P f.type α s1) (ho : f.offset = off) (F : FldOK P fs (off + Enc.k α) n β s2) : FldOK P (f :: fs) off n (α × β) (s1 || s2) where
  size := fun b => by
    have h1 := F.size b.2
    have h2 := h.len b.1
    show off + (cellsOf b.1 ++ DtL.cells b.2).length = n
    rw [List.length_append]; omega
  one := fun b => by
    show (cellsOf b.1 ++ DtL.cells b.2).all PV.one = true
    rw [List.all_append, h.one, F.one]; rfl
  bulk := fun b ds hd => by
    obtain ⟨d, r, rfl, h1, h2⟩ := hd
    have := h.bulk b.1 d h1
    have := F.bulk b.2 r h2
    show Dt.siz b.1 + DtL.szs b.2 ≤ Rows.uptoBulk d + Rows.uptoBulkAll r
    omega
  inj := fun a b ds h1 h2 => by
    obtain ⟨d, r, rfl, h3, h4⟩ := h1
    obtain ⟨d', r', e, h5, h6⟩ := h2
    cases e
    exact Prod.ext (h.inj _ _ d h3 h5) (F.inj _ _ r h4 h6)
  rd := fun {H enc w sp held fuel cs ys} hy hr hc hw hs => by
    match ys, hy with
    | y :: ys, hy =>
      have h0 := hr 0 f rfl
      simp only [List.getElem?_cons_zero] at h0
      simp only [List.map_cons, DataW.weightsEach] at hw
      obtain ⟨a, ha1, ha3, ha2⟩ := h.rd h0 (fun m hm => hw m (List.mem_append_left _ hm)) (fun e v hv => hs (by simp [e]) v (List.mem_of_mem_drop (List.mem_of_mem_take hv)))
      obtain ⟨b, hb1, hb3, hb2⟩ := F.rd (ys := ys) (by simpa using hy) (fun i g hg => by have := hr (i + 1) g (by simpa using hg); simpa using this) hc (fun m hm => hw m (List.mem_append_right _ hm)) (fun e => hs (by simp [e]))
      refine ⟨(a, b), ⟨y.1, ys.map (·.1), rfl, ha1, hb1⟩, ⟨ha3, hb3⟩, ?_⟩
      have e : cs.drop off = (cs.drop f.offset).take (P.cellsOf f.type) ++ cs.drop (off + Enc.k α) := by
        rw [ho, h.cells, ← List.drop_drop, List.take_append_drop]
      rw [e]
      exact ha2.append hb2
theorem fld_cons {f : Field} {fs : List Field} {off off' n : Nat} {α β : Type} {s1 s2 sl : Bool} [Enc α] [Dt α] [DtL β] (h : TyOK P f.type α s1) (ho : (f.offset, off + Enc.k α, s1 || s2) = (off, off', sl)) (F : FldOK P fs off' n β s2) : FldOK P (f :: fs) off n (α × β) sl := by
  have h1 := (Prod.mk.inj ho).1
  have h2 := (Prod.mk.inj (Prod.mk.inj ho).2).1
  have h3 := (Prod.mk.inj (Prod.mk.inj ho).2).2
  subst h2; subst h3
  exact fld_cons' h h1 F
abbrev dtOf {S β : Type} [DtL β] (un : S → β) : Dt S := ⟨fun a d => ∃ ds, d = .agg ds ∧ DtL.dts (un a) ds, fun a => DtL.szs (un a) + 1, fun a => DtL.rngs (un a)⟩
theorem ty_struct {t : TypeId} {fs : Array Field} {k b : Nat} {S β : Type} {sl : Bool} [Enc S] [DtL β] (un : S → β) (mk : β → S) (h : P.underlying t = some (.struct fs)) (hc : (P.cellsOf t, P.bytesOf t) = (k, b)) (he : (Enc.k S, Enc.b S) = (k, b))
    (hk : k ≠ 0 ∧ b ≠ 0) (F : FldOK P fs.toList 0 k β sl) (hcells : ∀ x, cellsOf x = DtL.cells (un x)) (hpv : ∀ x : S, Enc.pv x = .agg (cellsOf x)) (hum : ∀ y, un (mk y) = y) (hmu : ∀ x, mk (un x) = x) : @TyOK P t S sl _ (dtOf un) :=
  letI : Dt S := dtOf un
  { cells := by rw [(Prod.mk.inj hc).1, (Prod.mk.inj he).1]
    bytes := by rw [(Prod.mk.inj hc).2, (Prod.mk.inj he).2]
    pos := by rw [(Prod.mk.inj he).1]; exact hk.1
    bpos := by rw [(Prod.mk.inj he).2]; exact hk.2
    len := fun a => by
      have := F.size (un a)
      rw [hcells, (Prod.mk.inj he).1]; omega
    one := fun a => by rw [hcells]; exact F.one _
    bulk := fun a d hd => by
      obtain ⟨ds, rfl, h1⟩ := hd
      have := F.bulk _ _ h1
      show DtL.szs (un a) + 1 ≤ Rows.uptoBulkAll ds + 1
      omega
    inj := fun a b d h1 h2 => by
      obtain ⟨ds, rfl, h1⟩ := h1
      obtain ⟨ds', e, h2⟩ := h2
      cases e
      rw [← hmu a, ← hmu b, F.inj _ _ ds h1 h2]
    rd := fun {H enc w sp held fuel cs x} hr hw hs => by
      obtain ⟨xs, n, rfl, rfl, hlen, hx, hf⟩ := DataW.trod_struct h hr
      simp only [DataW.weights, h] at hw
      obtain ⟨y, h1, h3, h2⟩ := F.rd (ys := xs) (by simpa using hx) (fun i f hi => hf i f (by simpa using hi)) (by rw [hlen]; exact (Prod.mk.inj hc).1) hw hs
      refine ⟨mk y, ⟨xs.map (·.1), rfl, by rw [hum]; exact h1⟩, (by show DtL.rngs (un (mk y)); rw [hum]; exact h3), ?_⟩
      rw [hcells, hum]
      simpa using h2
    val := fun {w b v a} hv hr => by
      unfold Value.okWide at hv
      rw [h] at hv
      obtain ⟨cs, rfl, _⟩ := hv
      rw [hpv]
      simp only [RelD]
      exact ⟨cs, rfl, (relDs_iff _ _).2 hr⟩
    spots := fun {w b v} hv u hu => by
      unfold Value.okWide at hv
      rw [h] at hv
      obtain ⟨cs, rfl, _, ts, _, _, hall⟩ := hv
      have hu : u ∈ cs.toList := hu
      obtain ⟨i, hi, e⟩ := List.getElem_of_mem hu
      obtain ⟨x, _, hx⟩ := hall i u (by rw [Array.getElem?_eq_some_iff]; exact ⟨by simpa using hi, by simpa using e⟩)
      exact spot_of_ok hx }
/-- The arguments of a call. -/
def pvsOf : {β : Type} → (β → List PV) → β → List PV := fun f b => f b
structure ArgsOK (P : Program) (ts : List TypeId) (β : Type) [DtL β] (pvs : β → List PV) : Prop where
  bulk : ∀ {H : Type} (b : β) (ds : List (DataW H)), DtL.dts b ds → DtL.szs b ≤ Rows.uptoBulkAll ds
  rd : ∀ {H : Type} {enc : TypeId × Value → H} {w : World} {sp : Nat → Bool} {held : Bool} {base : Nat} {vs : List Value} {ds : List (DataW H)} {ps : List MemPlace}, DataW.TrodAll enc P w 0 sp held ts vs ds ps →
    (∀ (j : Nat) (t : TypeId) (v : Value), ts[j]? = some t → vs[j]? = some v → Value.okWide P w .any base t v) → (∀ m ∈ DataW.weightsEach P ts ds, m ≤ reachBytes) →
    ∃ b : β, DtL.dts b ds ∧ DtL.rngs b ∧ ds.length = ts.length ∧ All2 (RelD (Bk w) w) (pvs b) vs
theorem args_nil : ArgsOK P [] Unit (fun _ => []) where
  bulk := fun b ds h => by cases h; exact Nat.le_refl _
  rd := fun h _ _ => by
    obtain ⟨rfl, rfl, rfl⟩ := trodAll_nil h
    exact ⟨(), rfl, trivial, rfl, All2.nil⟩
theorem args_cons {t : TypeId} {ts : List TypeId} {α β : Type} {sl : Bool} [Enc α] [Dt α] [DtL β] {pvs : β → List PV} (h : TyOK P t α sl) (A : ArgsOK P ts β pvs) : ArgsOK P (t :: ts) (α × β) (fun b => Enc.pv b.1 :: pvs b.2) where
  bulk := fun b ds hd => by
    obtain ⟨d, r, rfl, h1, h2⟩ := hd
    have := h.bulk b.1 d h1
    have := A.bulk b.2 r h2
    show Dt.siz b.1 + DtL.szs b.2 ≤ Rows.uptoBulk d + Rows.uptoBulkAll r
    omega
  rd := fun {H enc w sp held base vs ds ps} hr hv hw => by
    obtain ⟨v, vs', d, ds', p, q, rfl, rfl, rfl, h1, h2⟩ := trodAll_cons hr
    have hok := hv 0 t v rfl rfl
    simp only [DataW.weightsEach] at hw
    obtain ⟨fuel, hf⟩ := h1
    obtain ⟨a, ha1, ha3, ha2⟩ := h.rd hf (fun m hm => hw m (List.mem_append_left _ hm)) (fun _ => h.spots hok)
    obtain ⟨b, hb1, hb4, hb2, hb3⟩ := A.rd h2 (fun j t' v' ht hv' => hv (j + 1) t' v' (by simpa using ht) (by simpa using hv')) (fun m hm => hw m (List.mem_append_right _ hm))
    exact ⟨(a, b), ⟨d, ds', rfl, ha1, hb1⟩, ⟨ha3, hb4⟩, by simp [hb2], .cons (h.val hok ha2) hb3⟩

theorem args_again {H : Type} {enc : TypeId × Value → H} (hl : laidOutB P = true) {W W' : World} (hb : Below W.heap.size W W') : ∀ {ts : List TypeId} {vs : List Value} {ds : List (DataW H)} {ps : List MemPlace},
    (ts.all fun t => P.readableRec t && decide (t < P.types.size)) = true → (∀ p ∈ ps, p.block < W.heap.size) → DataW.TrodAll enc P W 0 (fun _ => true) true ts vs ds ps → DataW.TrodAll enc P W' 0 (fun b => decide (b < W.heap.size)) true ts vs ds ps
  | [], _, _, _, _, _, h => by
    obtain ⟨rfl, rfl, rfl⟩ := trodAll_nil h
    rfl
  | t :: ts, _, _, _, ht, hp, h => by
    obtain ⟨v, vs', d, ds', p, q, rfl, rfl, rfl, h1, h2⟩ := trodAll_cons h
    simp only [List.all_cons, Bool.and_eq_true, decide_eq_true_eq] at ht
    exact ⟨p, q, Below.trod hl ht.1.1 ht.1.2 h1 hb (fun x hx => hp x (by simp [hx])), args_again hl hb (by simpa using ht.2) (fun x hx => hp x (by simp [hx])) h2, rfl⟩
theorem laid_mem {W : World} {name : String} {d : DataW Unit} : ∀ {laid : List (String × DataW Unit)} {ps : List MemPlace}, DataW.LaidVars P W laid ps → (name, d) ∈ laid →
    ∃ g t cs fuel p, P.globalNamed name = some g ∧ (P.globals[g]?).map (·.type) = some t ∧ W.var? P name = some cs ∧ DataW.trod (fun _ => ()) P W 0 (fun _ => true) false fuel t cs.toList = some (d, p)
  | [], _, _, h => by cases h
  | (n, e) :: r, ps, h, hm => by
    obtain ⟨g, t, cs, fuel, p, q, h1, h2, h3, h4, h5, _⟩ := h
    rcases List.mem_cons.1 hm with e1 | hm
    · cases e1; exact ⟨g, t, cs, fuel, p, h1, h2, h3, h4⟩
    · exact laid_mem h5 hm
theorem cells_of_parts {α : Type} [Enc α] {sl : Bool} {e : TypeId} [Dt α] (he : TyOK P e α sl) {W : World} : ∀ (tab : List α) (cs : List Value), cs.length = tab.length * Enc.k α → (∀ i x, tab[i]? = some x → All2 (RelD (Bk W) W) (cellsOf x) ((cs.drop (i * Enc.k α)).take (Enc.k α))) →
    All2 (RelD (Bk W) W) (tab.flatMap cellsOf) cs
  | [], cs, hl, _ => by
    have : cs = [] := List.eq_nil_of_length_eq_zero (by simpa using hl)
    rw [this]; exact All2.nil
  | x :: xs, cs, hl, h => by
    have h0 := h 0 x rfl
    simp only [Nat.zero_mul, List.drop_zero] at h0
    rw [← List.take_append_drop (Enc.k α) cs, List.flatMap_cons]
    refine h0.append (cells_of_parts he xs _ ?_ fun i y hy => ?_)
    · rw [List.length_drop, hl, List.length_cons, Nat.succ_mul, Nat.add_sub_cancel]
    · have := h (i + 1) y (by simpa using hy)
      rw [List.drop_drop]
      rwa [Nat.succ_mul, Nat.add_comm] at this
/-- A package table: what the row's list says of it is what its cells hold. -/
theorem tab_rel {g t e n : Nat} {name : String} {α : Type} [Enc α] [Dt α] {sl : Bool} (he : TyOK P e α sl) (hsl : sl = false) (hg : P.globalNamed name = some g) (hty : (P.globals[g]?).map (·.type) = some t) (ht : P.underlying t = some (.array n e)) (hct : P.cellsOf t = n * Enc.k α)
    {tab : List α} {dsx : List (DataW Unit)} {laid : List (String × DataW Unit)} (hd : All2 Dt.dat tab dsx) (hw : (DataW.weightsAll P e dsx).all (· ≤ reachBytes) = true) (hm : (name, .agg dsx) ∈ laid) (hpl : (laid.all fun x => x.2.handleName?.isNone) = true)
    {W : World} (h : laidMetH P laid W) : RelCells (Bk W) W (tab.flatMap cellsOf) g 0 := by
  rw [MakeChecks.laidMetH_plain _ _ _ hpl] at h
  obtain ⟨ps, hl, _⟩ := h
  obtain ⟨g', t', cs, fuel, p, h1, h2, h3, h4⟩ := laid_mem hl hm
  obtain rfl := Option.some.inj (hg.symm.trans h1)
  obtain rfl := Option.some.inj (hty.symm.trans h2)
  obtain ⟨xs, m, _, hx, hlen, hn, hp⟩ := DataW.trod_array ht h4
  simp only [Prod.mk.injEq, DataW.agg.injEq] at hx
  have hdl : tab.length = n := by rw [hd.1, hx.1, List.length_map, hn]
  have hall : All2 (RelD (Bk W) W) (tab.flatMap cellsOf) cs.toList := by
    refine cells_of_parts he tab cs.toList (by rw [hlen, hct, hdl]) fun i x hxi => ?_
    have hi : i < n := by rw [← hdl]; exact (List.getElem?_eq_some_iff.1 hxi).1
    have hpi := hp i hi
    rw [List.getElem?_eq_getElem (by omega)] at hpi
    have hdi : dsx[i]? = some (xs[i]'(by omega)).1 := by rw [hx.1, List.getElem?_map, List.getElem?_eq_getElem (by omega)]; rfl
    obtain ⟨a, ha1, _, ha2⟩ := he.rd hpi (fun k hk => by simpa using List.all_eq_true.1 hw k (weightsAll_mem (List.mem_of_getElem? hdi) hk)) (fun e => by rw [hsl] at e; cases e)
    have : a = x := he.inj a x _ ha1 (hd.2 i x _ hxi hdi)
    subst this
    rwa [he.cells] at ha2
  rw [relCells_iff]
  intro i c hc
  obtain ⟨v, hv, hrel⟩ := hall.right hc
  have hcell : W.cell? ⟨g, 0 + i, none⟩ = some v := by
    rw [Nat.zero_add, World.var?_cell hg h3 i]
    simpa using hv
  obtain ⟨x, hx, hcx⟩ := List.mem_flatMap.1 (List.mem_of_getElem? hc)
  exact ⟨List.all_eq_true.1 (he.one x) c hcx, (cell_block hcell).1, v, hcell, hrel⟩
theorem weights_more {H : Type} {m : Nat} : ∀ (ts vt : List TypeId) (ds : List (DataW H)), m ∈ DataW.weightsEach P ts ds → m ∈ DataW.weightsEach P (ts ++ vt) ds
  | [], _, _, h => by simp [DataW.weightsEach] at h
  | t :: ts, vt, [], h => by simp [DataW.weightsEach] at h
  | t :: ts, vt, d :: ds, h => by
    simp only [List.cons_append, DataW.weightsEach, List.mem_append] at h ⊢
    exact h.imp id (weights_more ts vt ds)
/-- From a contract of the pure machine to what a statement of this kind ('it returns true; the arguments read as they did') asks of a call. -/
theorem frame_law {f : FuncId} {fn : Func} {tb : TypeId} {β : Type} [DtL β] {ts : List TypeId} {pvs : β → List PV} (hts : fn.params.toList = ts) (A : ArgsOK P ts β pvs) {spec : ChangeSpec} {laid : List (String × DataW Unit)} {Gl : Nat → Option (List PV)}
    (hG : ∀ W, laidMetH P laid W → ∀ i cs, Gl i = some cs → RelCells (Bk W) W cs i 0) (hl : laidOutB P = true) (htys : (ts.all fun t => P.readableRec t && decide (t < P.types.size)) = true)
    (hvars : spec.vars = []) (hfn : ∀ (H : Type) (ds : List (DataW H)), ds.length = ts.length → spec.fn H ds = { results := [.lit (.bool true)], args := ds }) (hres : fn.resultTypes = #[tb]) (htb : P.underlying tb = some .bool)
    {H : Type} {enc : TypeId × Value → H} {W : World} {base : Nat} {args : Array Value} {ds gs : List (DataW H)} {before : List MemPlace} {C : β → Prop}
    (call : ∀ b, C b → PCall P Gl f (pvs b) (.bool true)) (hC : ∀ b, DtL.dts b (ds ++ gs) → DtL.rngs b → C b)
    (hval : ∀ (j : Nat) t v, fn.params[j]? = some t → args[j]? = some v → Value.okWide P W .any base t v)
    (hW : DataW.Whole enc P fn.params.toList spec.vars false W args.toList ds gs before)
    {vt : List TypeId} (hw : (DataW.weightsEach P (fn.params.toList ++ vt) (ds ++ gs)).all (· ≤ reachBytes) = true) (hL : laidMetH P laid W) :
    Calls P f args W fun e W' => ∃ v, e = .returned v ∧ spec.post enc P fn false true false false W args v W' := by
  have hW' := hW
  obtain ⟨p, q, hA, hV, rfl, hfz, _⟩ := hW
  rw [hvars] at hV
  have hg : gs = [] ∧ q = [] := by
    cases gs with
    | nil => exact ⟨rfl, hV⟩
    | cons _ _ => exact hV.elim
  obtain ⟨rfl, rfl⟩ := hg
  simp only [List.append_nil] at hW' hC hw
  rw [hts] at hA
  have hw' : ∀ m ∈ DataW.weightsEach P ts ds, m ≤ reachBytes := fun m hm => by
    rw [hts] at hw
    simpa using List.all_eq_true.1 hw m (weights_more ts vt ds hm)
  obtain ⟨b, hb1, hb4, hb2, hb3⟩ := A.rd (base := base) hA (fun j t v ht hv => hval j t v (by rw [← hts] at ht; simpa using ht) (by simpa using hv)) hw'
  have hcall := (call b (hC b hb1 hb4)).2 (Bk W) W args (fun _ _ h => h) (hG W hL) hb3
  refine hcall.mono fun e W' ⟨v, g', he, hgw, ha⟩ => ⟨v, he, ?_⟩
  have hv : v = .bool true := relBool.1 ha.rel
  subst hv
  have hbel : Below W.heap.size W W' := by rw [← hgw]; exact ha.below.toBelow
  have hlt : ∀ x ∈ p, x.block < W.heap.size := fun x hx => hW'.lt x hx
  have hargs := args_again hl hbel htys hlt hA
  rw [← hts] at hargs
  refine ⟨ds, [], p, [], p, [], hW', ?_, ?_, ?_, World.keptBut_mono (fun x hx => ⟨hx, .inr (.inl hx)⟩) (hbel.frame _), fun e => by cases e⟩
  · rw [List.append_nil, hfn H ds hb2, hres]
    exact trodAll_mk1 (shut_bool htb true)
  · rw [List.append_nil, hfn H ds hb2]
    exact hargs
  · rw [hvars, List.append_nil, hfn H ds hb2]
    rfl
end
end PM
