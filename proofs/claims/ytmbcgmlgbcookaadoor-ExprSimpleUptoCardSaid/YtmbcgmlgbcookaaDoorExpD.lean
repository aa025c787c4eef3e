import Derived.Test.YtmbcgmlgbcookaaDoorExpC
/-
  EXPR, D: the reference's variables; replacement; the laws ExprValues and ExprReplaces.
-/
namespace PM
open Go Go.RowKit
theorem RVars_N (e : E) : ∀ n, e.depth ≤ n → e.size ≤ 1000000 → Is (d_ref18_Vars_N n (toT e)) fun l => VarsOf e l ∧ l.length ≤ e.size := by
  induction e using E.ind with
  | h o v xs ih =>
    intro n hn hsz
    rw [E.depth] at hn
    have hZ : (E.mk o v xs).size = 1 + sizes xs := by rw [E.size]
    rw [hZ] at hsz
    have hlen := sizes_len xs
    obtain ⟨n, rfl⟩ : ∃ m, n = m + 1 := ⟨n - 1, by omega⟩
    show Is (d_ref18_Vars_F (d_ref18_Vars_N n) ⟨o, v, xs.map enc⟩) _
    rw [hZ]
    unfold d_ref18_Vars_F VarsOf
    rw [occ_mk]
    refine Is.onInl (θ := fun x => match x with | .inl m1 => m1 = (if o = 3 then [v] else []) | .inr _ => False) ?_ ?_ (fun b hb => hb.elim)
    · refine Is.ite (p := o = 3) dec_iff (fun h3 => ?_) (fun h3 => Is.val (by rw [if_neg h3]))
      refine Is.bind (Is.app (by show (0 + 1) * 8 ≤ sizeMax ∧ 0 + 1 ≤ sizeMax; unfold sizeMax; omega)) ?_
      rintro M rfl
      exact Is.val (by rw [if_pos h3]; rfl)
    · rintro m1 rfl
      refine Is.argfold (xs := xs) (fun i s => (s, i)) (fun i s => (s.Pairwise (fun a b => a < b) ∧ ∀ x, x ∈ s ↔ x ∈ (if o = 3 then [v] else []) ++ occs (xs.take i)) ∧ s.length ≤ 1 + sizes (xs.take i)) _ (by omega) ⟨⟨by split <;> simp, fun x => by simp [occs]⟩, by split <;> simp [sizes]⟩ ?_ ?_
      · rintro i a s ha hi ⟨⟨i1, i2⟩, i3⟩
        unfold d_ref18_Vars_0
        refine Is.inb hi (Is.arg ha ?_)
        have hm := List.mem_of_getElem? ha
        refine Is.bind (ih a hm n (by have := depths_mem hm; omega) (by have := sizes_mem hm; omega)) ?_
        rintro r ⟨⟨r1, r2⟩, r3⟩
        have hst := sizes_take_get ha
        have hle := sizes_take_le xs (i + 1)
        refine Is.fold (L := r) (fun j s => (s, j)) (fun j s' => (s'.Pairwise (fun a b => a < b) ∧ ∀ x, x ∈ s' ↔ x ∈ s ∨ x ∈ r.take j) ∧ s'.length ≤ s.length + j) s (by omega) ⟨⟨i1, fun x => by simp⟩, by omega⟩ ?_ ?_
        · rintro j y s' hy hj ⟨⟨k1, k2⟩, k3⟩
          unfold d_ref18_Vars_1
          refine Is.inb hj (Is.at hy ?_)
          refine Is.bind (insert_is s' y (by omega) k1) ?_
          rintro q ⟨q1, q2, q3⟩
          refine Is.val ⟨q, rfl, ⟨q1, fun x => ?_⟩, by omega⟩
          rw [q2, k2, take_get hy, List.mem_append, List.mem_singleton]
          constructor
          · rintro (h | h | h)
            · exact .inr (.inr h)
            · exact .inl h
            · exact .inr (.inl h)
          · rintro (h | h | h)
            · exact .inr (.inl h)
            · exact .inr (.inr h)
            · exact .inl h
        · rintro s' ⟨⟨k1, k2⟩, k3⟩
          unfold d_ref18_Vars_1
          refine Is.oub (Is.val (Is.val ⟨s', rfl, ⟨k1, fun x => ?_⟩, by omega⟩))
          rw [k2, List.take_length, i2, occs_take_get ha, r2, List.mem_append, List.mem_append, List.mem_append, or_assoc]
      · rintro s ⟨⟨i1, i2⟩, i3⟩
        unfold d_ref18_Vars_0
        rw [List.take_length] at i2 i3
        exact Is.oub (Is.val (Is.val ⟨⟨i1, i2⟩, i3⟩))
theorem RVars_is (e : E) (h : e.size ≤ 1000000) : Is (d_ref18_Vars (toT e)) fun l => VarsOf e l ∧ l.length ≤ e.size := RVars_N e (recFuel + 1) (by have := e.depth_le_size; unfold recFuel; omega) h
theorem same_is (a b : List Int) (h : a.length ≤ 1000000) (e : a = b) : Is (d_law18_same a b) fun r => r = true := by
  subst e
  unfold d_law18_same
  rw [show (!(decide (((a.length : Nat) : Int) = ((a.length : Nat) : Int)))) = false by simp]
  refine Is.all (L := a) (fun _ _ => True) () (by omega) ?_ (by unfold d_law18_same_0; simp) (fun _ => Is.val rfl)
  intro i x hx hi _
  unfold d_law18_same_0
  refine Is.inb hi (Is.at hx (Is.at hx ?_))
  rw [show (!(decide (x = x))) = false by simp]
  exact Is.val ⟨rfl, trivial⟩
theorem exprValues_law (e : E) (vals : List Bool) (he : e.size ≤ BIG) : d_law18_ExprValues (toT e) vals = some true := by
  suffices h : Is (d_law18_ExprValues (toT e) vals) fun r => r = true by
    obtain ⟨r, h1, h2⟩ := h
    rw [h1, h2]
  unfold d_law18_ExprValues
  refine Is.bind (modest_is e he) fun r1 h1 => ?_
  refine Is.ifn h1 (fun _ => aliveO) (fun hm => ?_)
  refine Is.bind (Eval_is vals e he) fun r3 h3 => ?_
  refine Is.bind (REval_is vals e he) fun r4 h4 => ?_
  refine Is.bind (φ := fun c => c = true) (andO (by rw [h3, h4]; exact beq_self_eq_true _) ?_) fun c hc => ?_
  · refine Is.bind (Vars_is e (by omega)) fun l hl => ?_
    refine Is.bind (RVars_is e (by omega)) fun l' hl' => ?_
    exact Is.bind (same_is l l' (by have := hl.2; omega) (sorted_ext hl.1.1 hl'.1.1 fun x => by rw [hl.1.2, hl'.1.2])) fun r hr => Is.val hr
  · exact Is.bind (φ := fun c => c = true) (andO hc aliveO) fun c hc => Is.val hc
/-! ### Replacement -/
mutual
def sb (v : Int) (b : E) : E → E
  | .mk o w xs => if o = 3 ∧ w = v then b else .mk o w (subs v b xs)
def subs (v : Int) (b : E) : List E → List E
  | [] => []
  | a :: xs => sb v b a :: subs v b xs
end
theorem subs_eq (v : Int) (b : E) : ∀ xs : List E, subs v b xs = xs.map (sb v b)
  | [] => rfl
  | a :: xs => by rw [subs, subs_eq v b xs]; rfl
theorem sub_mk (v : Int) (b : E) (o w : Int) (xs : List E) : sb v b (E.mk o w xs) = if o = 3 ∧ w = v then b else .mk o w (xs.map (sb v b)) := by rw [sb, subs_eq]
theorem enc_T_toT (e : E) : enc_T_api_Expr (toT e) = enc e := (enc_eq e).symm
/-- A loop that maps the arguments. -/
theorem Is.argmap {β : Type} {xs : List E} {g : E → E} {step : (Int × List R_api_Expr) → Option ((Int × List R_api_Expr) ⊕ (List R_api_Expr ⊕ β))} {K : List R_api_Expr → Option β} {ψ : β → Prop} (hL : xs.length ≤ BIG)
    (hs : ∀ (i : Nat) a (s : List E), xs[i]? = some a → i < (xs.map enc).length → s.length ≤ BIG → Is (step ((i : Int), s.map enc)) fun o => o = .inl (w64 ((i : Int) + 1), (s ++ [g a]).map enc))
    (he : ∀ s : List E, step (((xs.map enc).length : Int), s.map enc) = some (.inr (.inl (s.map enc)))) (hk : Is (K ((xs.map g).map enc)) ψ) : Is (PM.onInl (loopO step (0, ([] : List R_api_Expr))) K) ψ := by
  have hB : BIG = 4194304 := rfl
  refine Is.argfold (xs := xs) (fun i (s : List E) => (i, s.map enc)) (fun i s => s = (xs.take i).map g) [] (by omega) (by simp) ?_ ?_
  · rintro i a s ha hi rfl
    refine (hs i a _ ha hi (by rw [List.length_map, List.length_take]; omega)).mono ?_
    rintro o rfl
    exact ⟨_, rfl, by rw [take_get ha, List.map_append]; rfl⟩
  · rintro s rfl
    rw [he]
    refine Is.val ?_
    rw [List.take_length]; exact hk
theorem Is.appE {β : Type} {s : List E} {a : E} {f : List R_api_Expr → Option β} {φ : β → Prop} (h : s.length ≤ BIG) (hf : Is (f ((s ++ [a]).map enc)) φ) : Is ((appO (s.map enc) [enc_T_api_Expr (toT a)]).bind f) φ := by
  refine Is.bind (Is.app (by show ((s.map enc).length + 1) * 40 ≤ sizeMax ∧ (s.map enc).length + 1 ≤ sizeMax; rw [List.length_map]; unfold sizeMax; unfold BIG at h; omega)) ?_
  rintro M rfl
  rw [enc_T_toT]
  simpa using hf
theorem clone_N (e : E) : ∀ n, e.depth ≤ n → e.size ≤ BIG → Is (d_expr_clone_N n (toT e)) fun r => r = toT e := by
  induction e using E.ind with
  | h o v xs ih =>
    intro n hn hsz
    have hB : BIG = 4194304 := rfl
    rw [E.depth] at hn
    rw [E.size] at hsz
    have hlen := sizes_len xs
    obtain ⟨n, rfl⟩ : ∃ m, n = m + 1 := ⟨n - 1, by omega⟩
    show Is (d_expr_clone_F (d_expr_clone_N n) ⟨o, v, xs.map enc⟩) _
    unfold d_expr_clone_F
    refine Is.argmap (xs := xs) (g := id) (by omega) ?_ (fun s => by unfold d_expr_clone_0; simp) (Is.val (by rw [List.map_id]; rfl))
    intro i a s ha hi hs
    unfold d_expr_clone_0
    refine Is.inb hi (Is.arg ha ?_)
    have hm := List.mem_of_getElem? ha
    refine Is.bind (ih a hm n (by have := depths_mem hm; omega) (by have := sizes_mem hm; omega)) ?_
    rintro r rfl
    exact Is.appE hs (Is.val rfl)
theorem clone_is (e : E) (h : e.size ≤ BIG) : Is (d_expr_clone (toT e)) fun r => r = toT e := clone_N e (recFuel + 1) (by have := e.depth_le_size; unfold recFuel; unfold BIG at h; omega) h
theorem Replace_N (v : Int) (b : E) (hb : b.size ≤ BIG) (e : E) : ∀ n, e.depth ≤ n → e.size ≤ BIG → Is (d_expr_Replace_N n (toT e) v (toT b)) fun r => r = toT (sb v b e) := by
  induction e using E.ind with
  | h o w xs ih =>
    intro n hn hsz
    have hB : BIG = 4194304 := rfl
    rw [E.depth] at hn
    rw [E.size] at hsz
    have hlen := sizes_len xs
    obtain ⟨n, rfl⟩ : ∃ m, n = m + 1 := ⟨n - 1, by omega⟩
    show Is (d_expr_Replace_F (d_expr_Replace_N n) ⟨o, w, xs.map enc⟩ v (toT b)) _
    rw [sub_mk]
    unfold d_expr_Replace_F
    refine Is.ite (p := o = 3 ∧ w = v) (by simp) (fun h => ?_) (fun h => ?_)
    · rw [if_pos h]
      exact Is.bind (clone_is b hb) fun r hr => Is.val hr
    · rw [if_neg h]
      refine Is.argmap (xs := xs) (g := sb v b) (by omega) ?_ (fun s => by unfold d_expr_Replace_0; simp) (Is.val rfl)
      intro i a s ha hi hs
      unfold d_expr_Replace_0
      refine Is.inb hi (Is.arg ha ?_)
      have hm := List.mem_of_getElem? ha
      refine Is.bind (ih a hm n (by have := depths_mem hm; omega) (by have := sizes_mem hm; omega)) ?_
      rintro r rfl
      exact Is.appE hs (Is.val rfl)
theorem Replace_is (v : Int) (b e : E) (hb : b.size ≤ BIG) (h : e.size ≤ BIG) : Is (d_expr_Replace (toT e) v (toT b)) fun r => r = toT (sb v b e) := Replace_N v b hb e (recFuel + 1) (by have := e.depth_le_size; unfold recFuel; unfold BIG at h; omega) h
theorem RReplace_N (v : Int) (b : E) (e : E) : ∀ n, e.depth ≤ n → e.size ≤ BIG → Is (d_ref18_Replace_N n (toT e) v (toT b)) fun r => r = toT (sb v b e) := by
  induction e using E.ind with
  | h o w xs ih =>
    intro n hn hsz
    have hB : BIG = 4194304 := rfl
    rw [E.depth] at hn
    rw [E.size] at hsz
    have hlen := sizes_len xs
    obtain ⟨n, rfl⟩ : ∃ m, n = m + 1 := ⟨n - 1, by omega⟩
    show Is (d_ref18_Replace_F (d_ref18_Replace_N n) ⟨o, w, xs.map enc⟩ v (toT b)) _
    rw [sub_mk]
    unfold d_ref18_Replace_F
    refine Is.ite (p := o = 3 ∧ w = v) (by simp) (fun h => ?_) (fun h => ?_)
    · rw [if_pos h]
      exact Is.val rfl
    · rw [if_neg h]
      refine Is.argmap (xs := xs) (g := sb v b) (by omega) ?_ (fun s => by unfold d_ref18_Replace_0; simp) (Is.val rfl)
      intro i a s ha hi hs
      unfold d_ref18_Replace_0
      refine Is.inb hi (Is.arg ha ?_)
      have hm := List.mem_of_getElem? ha
      refine Is.bind (ih a hm n (by have := depths_mem hm; omega) (by have := sizes_mem hm; omega)) ?_
      rintro r rfl
      exact Is.appE hs (Is.val rfl)
theorem RReplace_is (v : Int) (b e : E) (h : e.size ≤ BIG) : Is (d_ref18_Replace (toT e) v (toT b)) fun r => r = toT (sb v b e) := RReplace_N v b e (recFuel + 1) (by have := e.depth_le_size; unfold recFuel; unfold BIG at h; omega) h
theorem sizes_sub {v : Int} {b : E} {K : Nat} : ∀ (xs : List E), (∀ a ∈ xs, (sb v b a).size ≤ a.size * K) → sizes (xs.map (sb v b)) ≤ sizes xs * K
  | [], _ => by simp [sizes]
  | a :: xs, h => by
    have h1 := h a (by simp)
    have h2 := sizes_sub xs fun c hc => h c (List.mem_cons_of_mem _ hc)
    simp only [List.map_cons, sizes]
    rw [Nat.add_mul]; omega
theorem size_sub (v : Int) (b : E) (e : E) : (sb v b e).size ≤ e.size * b.size := by
  have hb := b.size_pos
  induction e using E.ind with
  | h o w xs ih =>
    have hZ : (E.mk o w xs).size = 1 + sizes xs := by rw [E.size]
    rw [sub_mk, hZ, Nat.add_mul, Nat.one_mul]
    split
    · exact Nat.le_add_right _ _
    · rw [E.size]
      have := sizes_sub (v := v) (b := b) (K := b.size) xs fun a ha => ih a ha
      omega
theorem ev_sub (f : Int → Bool) (v : Int) (b : E) (e : E) : (sb v b e).ev f = e.ev (fun w => if w = v then b.ev f else f w) := by
  induction e using E.ind with
  | h o w xs ih =>
    have hall : ∀ xs : List E, (∀ a ∈ xs, (sb v b a).ev f = a.ev (fun w => if w = v then b.ev f else f w)) →
        evneg f (xs.map (sb v b)) = evneg (fun w => if w = v then b.ev f else f w) xs ∧ evall f (xs.map (sb v b)) = evall (fun w => if w = v then b.ev f else f w) xs ∧ evany f (xs.map (sb v b)) = evany (fun w => if w = v then b.ev f else f w) xs := by
      intro xs
      induction xs with
      | nil => intro _; exact ⟨rfl, rfl, rfl⟩
      | cons a xs ihx =>
        intro h
        have h1 := h a (by simp)
        obtain ⟨k1, k2, k3⟩ := ihx fun c hc => h c (List.mem_cons_of_mem _ hc)
        exact ⟨by simp only [List.map_cons, evneg, h1], by simp only [List.map_cons, evall, h1, k2], by simp only [List.map_cons, evany, h1, k3]⟩
    obtain ⟨k1, k2, k3⟩ := hall xs ih
    rw [sub_mk, ev_mk]
    by_cases h3 : o = 3
    · subst h3
      by_cases hw : w = v
      · simp [hw]
      · simp [hw, ev_mk]
    · rw [if_neg (fun h => h3 h.1), ev_mk, k1, k2, k3]
      simp [h3]
theorem ev_congr (f g : Int → Bool) (e : E) : (∀ k ∈ e.occ, f k = g k) → e.ev f = e.ev g := by
  induction e using E.ind with
  | h o w xs ih =>
    intro h
    rw [occ_mk] at h
    have hall : ∀ xs : List E, (∀ a ∈ xs, (∀ k ∈ a.occ, f k = g k) → a.ev f = a.ev g) → (∀ k ∈ occs xs, f k = g k) → evneg f xs = evneg g xs ∧ evall f xs = evall g xs ∧ evany f xs = evany g xs := by
      intro xs
      induction xs with
      | nil => intro _ _; exact ⟨rfl, rfl, rfl⟩
      | cons a xs ihx =>
        intro h hk
        rw [occs] at hk
        have h1 := h a (by simp) fun k q => hk k (List.mem_append_left _ q)
        obtain ⟨k1, k2, k3⟩ := ihx (fun c hc => h c (List.mem_cons_of_mem _ hc)) fun k q => hk k (List.mem_append_right _ q)
        exact ⟨by simp only [evneg, h1], by simp only [evall, h1, k2], by simp only [evany, h1, k3]⟩
    obtain ⟨k1, k2, k3⟩ := hall xs ih fun k q => h k (List.mem_append_right _ q)
    rw [ev_mk, ev_mk, k1, k2, k3]
    by_cases h3 : o = 3
    · subst h3
      simp [h w (by simp)]
    · simp [h3]
theorem exprReplaces_law (e : E) (v : Int) (b : E) (vals : List Bool) (he : e.size ≤ BIG) (hb : b.size ≤ BIG) : d_law18_ExprReplaces (toT e) v (toT b) vals = some true := by
  suffices h : Is (d_law18_ExprReplaces (toT e) v (toT b) vals) fun r => r = true by
    obtain ⟨r, h1, h2⟩ := h
    rw [h1, h2]
  unfold d_law18_ExprReplaces
  refine Is.bind (modest_is e he) fun r1 h1 => ?_
  refine Is.bind (orO h1 (modest_is b hb)) fun r2 h2 => ?_
  refine Is.bind (φ := fun c => c = true ↔ ¬ (((e.size ≤ 300 ∧ e.depth ≤ 30) ∧ b.size ≤ 300 ∧ b.depth ≤ 30) ∧ 0 ≤ v ∧ v < 100 ∧ vals.length ≤ 100)) ?_ fun r4 h4 => ?_
  · refine Is.cond (fun hc => Is.val ?_) (fun hc => Is.val ?_)
    · simp only [Bool.or_eq_true, decide_eq_true_iff, h2] at hc
      simp only [true_iff]
      rintro ⟨k1, k2, k3, k4⟩
      rcases hc with (hc | hc) | hc
      · exact hc k1
      · omega
      · omega
    · simp only [Bool.or_eq_false_iff, decide_eq_false_iff_not, false_iff_of h2, Classical.not_not] at hc
      rw [decide_eq_true_iff]
      constructor
      · rintro k ⟨_, _, _, k4⟩; omega
      · intro k
        by_cases hl : vals.length ≤ 100
        · exact absurd ⟨hc.1.1, by omega, by omega, hl⟩ k
        · omega
  · refine Is.ite h4 (fun _ => aliveO) (fun hm => ?_)
    obtain ⟨⟨⟨q1, _⟩, q2, _⟩, v0, v1, hl⟩ := Classical.not_not.1 hm
    have hmk : mkxO 100 100 1 false = some (List.replicate 100 false) := by
      unfold mkxO
      rw [if_pos (by unfold sizeMax; decide)]; rfl
    rw [hmk, Option.bind_some]
    have hlen : ((List.replicate 100 false : List Bool).map cellsOf).length = 100 := by simp
    rw [hlen]
    have hcp : xcpO (List.replicate 100 false) 100 vals = some (vals.take 100 ++ (List.replicate 100 false).drop vals.length) := by
      unfold xcpO; rw [if_pos (by simp)]
    rw [hcp, Option.bind_some, List.take_of_length_le hl]
    have hW : (vals ++ (List.replicate 100 false).drop vals.length).length = 100 := by simp; omega
    have hWg : ∀ i : Nat, ((vals ++ (List.replicate 100 false).drop vals.length)[i]?).getD false = (vals[i]?).getD false := by
      intro i
      rw [List.getElem?_append]
      split
      · rfl
      · rename_i h
        rw [List.getElem?_eq_none (by omega : vals.length ≤ i), List.getElem?_drop, List.getElem?_replicate]
        split <;> rfl
    generalize vals ++ (List.replicate 100 false).drop vals.length = W at hW hWg
    refine Is.bind (Eval_is vals b hb) fun r8 h8 => ?_
    have hix : xixO 0 100 v = some v.toNat := by
      unfold xixO; rw [if_pos ⟨v0, by omega⟩, Nat.zero_add]
    rw [hix, Option.bind_some]
    have hld : ∃ y, xldO W 100 v.toNat = some y := by
      unfold xldO; rw [if_pos hW]; exact ⟨_, List.getElem?_eq_getElem (by omega)⟩
    obtain ⟨y, hld⟩ := hld
    rw [hld, Option.bind_some]
    have hsz := size_sub v b e
    have hsz2 : e.size * b.size ≤ 300 * 300 := Nat.mul_le_mul q1 q2
    have hBig : BIG = 4194304 := rfl
    refine Is.bind (Replace_is v b e hb he) fun r11 h11 => ?_
    subst h11
    refine Is.bind (Eval_is vals _ (by omega)) fun r12 h12 => ?_
    refine Is.bind (Eval_is (W.set v.toNat r8) e he) fun r13 h13 => ?_
    have hvf : vf (W.set v.toNat r8) = fun w => if w = v then b.ev (vf vals) else vf vals w := by
      funext w
      unfold vf
      by_cases hw : w = v
      · subst hw
        rw [if_pos rfl, List.getElem?_set, if_pos rfl, if_pos (by omega), decide_eq_true v0, h8]; rfl
      · rw [if_neg hw]
        by_cases hw0 : 0 ≤ w
        · rw [List.getElem?_set, if_neg (by omega), hWg]
        · rw [decide_eq_false hw0]; rfl
    have hrr : r12 = r13 := by rw [h12, h13, hvf, ev_sub]
    rw [show (!(r12 == r13)) = false by rw [hrr]; simp]
    refine Is.bind (Vars_is e (by omega)) fun l hl2 => ?_
    refine Is.fold (L := l) (fun i (s : Bool) => (s, i)) (fun i s => s = true ↔ v ∈ l.take i) false (by have := hl2.2; omega) (by simp) ?_ ?_
    · intro i x s hx hi hI
      unfold d_law18_ExprReplaces_0
      refine Is.inb hi (Is.at hx (Is.val ⟨_, rfl, ?_⟩))
      rw [Bool.or_eq_true, hI, decide_eq_true_iff, take_get hx, List.mem_append, List.mem_singleton, eq_comm (a := x)]
    · intro s hI
      unfold d_law18_ExprReplaces_0
      rw [List.take_length] at hI
      refine Is.oub (Is.val ?_)
      refine Is.bind (φ := fun c => c = true) ?_ fun c hc => ?_
      · refine Is.ite hI (fun _ => Is.val rfl) (fun hn => ?_)
        refine Is.bind (Eval_is (W.set v.toNat r8) e he) fun r22 h22 => ?_
        refine Is.bind (Eval_is vals e he) fun r23 h23 => Is.val ?_
        have : r22 = r23 := by
          rw [h22, h23, hvf]
          refine ev_congr _ _ e fun k hk => ?_
          show (if k = v then b.ev (vf vals) else vf vals k) = _
          rw [if_neg fun (e2 : k = v) => hn ((hl2.1.2 v).2 (e2 ▸ hk))]
        rw [this]; exact beq_self_eq_true _
      · exact Is.bind (φ := fun c => c = true) (andO hc aliveO) fun c hc => Is.val hc
end PM
