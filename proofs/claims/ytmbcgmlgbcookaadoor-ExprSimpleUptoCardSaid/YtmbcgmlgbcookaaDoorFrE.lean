import Derived.Test.YtmbcgmlgbcookaaDoorFrI
import Derived.Test.YtmbcgmlgbcookaaDoorExpA
/-
  THE FRAME, E: expressions as arguments (a recursive type).
-/
namespace PM
open Go Go.RowKit Go.ChangeShapes Go.WideShapes Go.Proofs.YtmbcgmlgbcookaaDoor
instance : Enc E := ⟨3, 40, fun e => .agg (enc e)⟩
theorem lst_enc (l : List E) : lstOf .frozen (encs l) = lstOf .frozen l := by
  unfold lstOf
  rw [raw_T_api_Expr, encs_eq]
  rfl
theorem cells_mk (o v : Int) (l : List E) : cellsOf (E.mk o v l) = [.int .i64 o, .int .i64 v, lstOf .frozen l] := by
  rw [← lst_enc]
  show (PV.agg (enc (E.mk o v l))).cells = _
  rw [enc]; rfl
/-- An expression as a value is that of its structure. -/
theorem pv_E (e : E) : Enc.pv e = Enc.pv (toT e) := by
  cases e with
  | mk o v l =>
    have h : enc (E.mk o v l) = [.int .i64 o, .int .i64 v, lstOf .frozen l] := cells_mk o v l
    show PV.agg (enc (E.mk o v l)) = .agg [.int .i64 o, .int .i64 v, lstOf .frozen (l.map enc)]
    rw [h, ← encs_eq, lst_enc]
section
variable {H : Type}
mutual
def datE : E → DataW H → Prop
  | .mk o v l, d => ∃ da, d = .agg [.lit (.int .i64 o), .lit (.int .i64 v), da] ∧ ((l = [] ∧ da = .nil) ∨ ∃ es sp, da = .slice es sp ∧ datEs l es)
def datEs : List E → List (DataW H) → Prop
  | [], es => es = []
  | x :: l, es => ∃ e es', es = e :: es' ∧ datE x e ∧ datEs l es'
end
theorem datEs_iff : ∀ (l : List E) (es : List (DataW H)), datEs l es ↔ All2 datE l es
  | [], es => by
    rw [datEs]
    exact ⟨fun h => by subst h; exact .nil, fun h => h.nil_left⟩
  | x :: l, es => by
    rw [datEs]
    constructor
    · rintro ⟨e, es', rfl, h1, h2⟩
      exact .cons h1 ((datEs_iff l es').1 h2)
    · intro h
      obtain ⟨e, es', rfl, h1, h2⟩ := h.cons_left
      exact ⟨e, es', rfl, h1, (datEs_iff l es').2 h2⟩
theorem bulkE (e : E) : ∀ d : DataW H, datE e d → e.size ≤ Rows.uptoBulk d := by
  induction e using E.ind with
  | h o v l ih =>
    intro d hd
    rw [datE] at hd
    obtain ⟨da, rfl, h⟩ := hd
    rw [E.size]
    have key : ∀ (l : List E) (es : List (DataW H)), (∀ a ∈ l, ∀ d : DataW H, datE a d → a.size ≤ Rows.uptoBulk d) → datEs l es → sizes l ≤ Rows.uptoBulkAll es := by
      intro l
      induction l with
      | nil => intro es _ _; exact Nat.zero_le _
      | cons x l ihl =>
        intro es hb he
        rw [datEs] at he
        obtain ⟨e, es', rfl, h1, h2⟩ := he
        have q1 := hb x (by simp) e h1
        have q2 := ihl es' (fun a ha => hb a (List.mem_cons_of_mem _ ha)) h2
        simp only [sizes, Rows.uptoBulkAll]; omega
    rcases h with ⟨rfl, rfl⟩ | ⟨es, sp, rfl, h2⟩
    · simp only [sizes, Rows.uptoBulk, Rows.uptoBulkAll]; omega
    · have := key l es ih h2
      simp only [Rows.uptoBulk, Rows.uptoBulkAll]; omega
theorem injE (a : E) : ∀ (b : E) (d : DataW H), datE a d → datE b d → a = b := by
  induction a using E.ind with
  | h o v l ih =>
    rintro ⟨o', v', l'⟩ d h1 h2
    rw [datE] at h1 h2
    obtain ⟨da, rfl, h1⟩ := h1
    obtain ⟨da', e, h2⟩ := h2
    simp only [DataW.agg.injEq, List.cons.injEq, DataW.lit.injEq, Lit.int.injEq, true_and, and_true] at e
    obtain ⟨rfl, rfl, rfl⟩ := e
    have key : ∀ (l l' : List E) (es : List (DataW H)), (∀ a ∈ l, ∀ (b : E) (d : DataW H), datE a d → datE b d → a = b) → datEs l es → datEs l' es → l = l' := by
      intro l
      induction l with
      | nil =>
        intro l' es _ h1 h2
        rw [datEs] at h1; subst h1
        cases l' with
        | nil => rfl
        | cons y l' => rw [datEs] at h2; obtain ⟨_, _, e, _⟩ := h2; cases e
      | cons x l ihl =>
        intro l' es hb h1 h2
        rw [datEs] at h1
        obtain ⟨e, es', rfl, h3, h4⟩ := h1
        cases l' with
        | nil => rw [datEs] at h2; cases h2
        | cons y l' =>
          rw [datEs] at h2
          obtain ⟨e', es'', e2, h5, h6⟩ := h2
          cases e2
          rw [hb x (by simp) y e h3 h5, ihl l' es' (fun a ha => hb a (List.mem_cons_of_mem _ ha)) h4 h6]
    rcases h1 with ⟨rfl, rfl⟩ | ⟨es, sp, rfl, h1⟩ <;> rcases h2 with ⟨rfl, e⟩ | ⟨es', sp', e, h2⟩ <;> first | rfl | cases e
    rw [key l l' es ih h1 h2]
end
instance : Dt E := ⟨fun e d => datE e d, E.size, fun _ => True⟩
section
variable {P : Program} {t tl : TypeId} {fs : Array Field}
theorem TyOKF.mono {F G : Nat → Prop} {α : Type} [Enc α] [Dt α] {sl : Bool} (h : TyOKF F P t α sl) (hFG : ∀ n, G n → F n) : TyOKF G P t α sl :=
  { h with rd := fun hG => h.rd (hFG _ hG) }
theorem len_E (e : E) : (cellsOf e).length = 3 := by cases e; rw [cells_mk]; rfl
theorem one_E (e : E) : (cellsOf e).all PV.one = true := by cases e; rw [cells_mk]; rfl
theorem val_E (h : P.underlying t = some (.struct fs)) {w : World} {b : Nat} {v : Value} {e : E} (hv : Value.okWide P w .any b t v) (hr : All2 (RelD (Bk w) w) (cellsOf e) v.cells.toList) : RelD (Bk w) w (Enc.pv e) v := by
  unfold Value.okWide at hv
  rw [h] at hv
  obtain ⟨cs, rfl, _⟩ := hv
  show RelD (Bk w) w (.agg (enc e)) _
  simp only [RelD]
  exact ⟨cs, rfl, (relDs_iff _ _).2 hr⟩
theorem tyE_none (h : P.underlying t = some (.struct fs)) (hc : (P.cellsOf t, P.bytesOf t) = (3, 40)) : TyOKF (fun _ => False) P t E true where
  cells := (Prod.mk.inj hc).1
  bytes := (Prod.mk.inj hc).2
  pos := by show (3 : Nat) ≠ 0; decide
  bpos := by show (40 : Nat) ≠ 0; decide
  len := len_E
  one := one_E
  bulk := fun a d hd => bulkE a d hd
  inj := fun a b d h1 h2 => injE a b d h1 h2
  rd := fun h => h.elim
  val := fun hv hr => val_E h hv hr
theorem tyE_step {F : Nat → Prop} (h : P.underlying t = some (.struct fs)) (hc : (P.cellsOf t, P.bytesOf t) = (3, 40)) (hl : P.underlying tl = some (.slice t)) (hlc : (P.cellsOf tl, P.bytesOf tl) = (1, 24))
    (hF : ∀ {G : Nat → Prop}, TyOKF G P tl (List E) true → FldOKF G P fs.toList 0 3 (Int × Int × List E × Unit) true) (he : TyOKF F P t E true) : TyOKF (fun n => ∀ k, n = k + 2 → F k) P t E true :=
  { tyE_none h hc with
    rd := fun {H enc w sp held fuel cs x} hG hr hw hs => by
      obtain ⟨xs, n, rfl, rfl, hlen, hx, hf⟩ := DataW.trod_struct h hr
      simp only [DataW.weights, h] at hw
      have hfl := hF (ty_list (G := fun n => ∀ k, n = k + 1 → F k) he hl hlc (fun n hn => hn n rfl))
      obtain ⟨y, h1, h3, h2⟩ := hfl.rd (ys := xs) (fun k hk => hG k (by omega)) (by simpa using hx) (fun i f hi => hf i f (by simpa using hi)) (by rw [hlen]; exact (Prod.mk.inj hc).1) hw hs
      obtain ⟨o, v, l, u⟩ := y
      refine ⟨E.mk o v l, ?_, trivial, ?_⟩
      · obtain ⟨d0, r0, e0, q0, d1, r1, e1, q1, d2, r2, e2, q2, q3⟩ := h1
        show datE (E.mk o v l) (.agg (xs.map (·.1)))
        rw [datE]
        have q0' : d0 = .lit (.int .i64 o) := q0
        have q1' : d1 = .lit (.int .i64 v) := q1
        have q3' : r2 = [] := q3
        refine ⟨d2, by rw [e0, e1, e2, q0', q1', q3'], ?_⟩
        rcases q2 with q | ⟨es, sp, q4, q5⟩
        · exact .inl q
        · exact .inr ⟨es, sp, q4, (datEs_iff l es).2 q5⟩
      · rw [cells_mk]
        have : cs.drop 0 = cs := rfl
        rw [this] at h2
        exact h2 }
theorem tyE (h : P.underlying t = some (.struct fs)) (hc : (P.cellsOf t, P.bytesOf t) = (3, 40)) (hl : P.underlying tl = some (.slice t)) (hlc : (P.cellsOf tl, P.bytesOf tl) = (1, 24))
    (hF : ∀ {G : Nat → Prop}, TyOKF G P tl (List E) true → FldOKF G P fs.toList 0 3 (Int × Int × List E × Unit) true) : TyOK P t E true := by
  have all : ∀ N : Nat, TyOKF (fun n => n < 2 * N) P t E true := by
    intro N
    induction N with
    | zero => exact (tyE_none h hc).mono fun n hn => by omega
    | succ N ih => exact (tyE_step h hc hl hlc hF ih).mono fun n hn k hk => by omega
  exact { tyE_none h hc with rd := fun {H enc w sp held fuel cs x} _ => (all (fuel + 1)).rd (by omega) }
end
end PM
