import Derived.Test.YtmbcgmlgbcookaaDoorExpB
/-
  EXPR, C: values, variables, replacement; the laws ExprValues and ExprReplaces.
-/
namespace PM
open Go Go.RowKit
/-! ### Values -/
mutual
def E.ev (f : Int → Bool) : E → Bool
  | .mk o v xs => if o = 2 then true else if o = 3 then f v else if o = 4 then evneg f xs else if o = 5 then evall f xs else if o = 6 then evany f xs else false
def evneg (f : Int → Bool) : List E → Bool
  | [] => false
  | a :: _ => !(a.ev f)
def evall (f : Int → Bool) : List E → Bool
  | [] => true
  | a :: xs => a.ev f && evall f xs
def evany (f : Int → Bool) : List E → Bool
  | [] => false
  | a :: xs => a.ev f || evany f xs
end
theorem ev_mk (f : Int → Bool) (o v : Int) (xs : List E) : (E.mk o v xs).ev f = if o = 2 then true else if o = 3 then f v else if o = 4 then evneg f xs else if o = 5 then evall f xs else if o = 6 then evany f xs else false := by rw [E.ev]
theorem evall_iff {f : Int → Bool} : ∀ {xs : List E}, evall f xs = true ↔ ∀ a ∈ xs, a.ev f = true
  | [] => by simp [evall]
  | a :: xs => by rw [evall, Bool.and_eq_true, evall_iff]; simp
theorem evany_iff {f : Int → Bool} : ∀ {xs : List E}, evany f xs = true ↔ ∃ a ∈ xs, a.ev f = true
  | [] => by simp [evany]
  | a :: xs => by rw [evany, Bool.or_eq_true, evany_iff]; simp
/-- What a list of values says of a variable. -/
def vf (vals : List Bool) (v : Int) : Bool := decide (0 ≤ v) && (vals[v.toNat]?).getD false
theorem Is.var (vals : List Bool) (v : Int) : Is ((((bif decide (0 ≤ v) then some (decide (v < ((vals.length : Nat) : Int))) else some false) : Option Bool).bind fun b2 =>
    ((bif b2 then (ixO vals v).bind fun x4 => some x4 else some false) : Option Bool).bind fun b3 => some b3)) fun b => b = vf vals v := by
  unfold vf
  by_cases h0 : 0 ≤ v
  · by_cases h1 : v < (vals.length : Int)
    · have hi : v.toNat < vals.length := by omega
      have hv : v = ((v.toNat : Nat) : Int) := by omega
      rw [show decide (0 ≤ v) = true from decide_eq_true h0, show decide (v < (vals.length : Int)) = true from decide_eq_true h1]
      refine ⟨vals[v.toNat], ?_, by rw [List.getElem?_eq_getElem hi]; simp⟩
      show (((ixO vals v).bind fun x4 => some x4).bind fun b3 => some b3) = _
      have hx := ixO_nat (L := vals) (i := v.toNat) (List.getElem?_eq_getElem hi)
      rw [← hv] at hx
      rw [hx]; rfl
    · rw [show decide (0 ≤ v) = true from decide_eq_true h0, show decide (v < (vals.length : Int)) = false from decide_eq_false h1]
      refine ⟨false, rfl, ?_⟩
      rw [List.getElem?_eq_none (by omega)]; rfl
  · rw [show decide (0 ≤ v) = false from decide_eq_false h0]
    exact ⟨false, rfl, rfl⟩
theorem eval_N (vals : List Bool) (e : E) : ∀ n, e.depth ≤ n → e.size ≤ BIG → Is (d_expr_eval_N n (toT e) vals) fun b => b = e.ev (vf vals) := by
  induction e using E.ind with
  | h o v xs ih =>
    intro n hn hsz
    have hB : BIG = 4194304 := rfl
    rw [E.depth] at hn
    rw [E.size] at hsz
    have hlen := sizes_len xs
    obtain ⟨n, rfl⟩ : ∃ m, n = m + 1 := ⟨n - 1, by omega⟩
    show Is (d_expr_eval_F (d_expr_eval_N n) ⟨o, v, xs.map enc⟩ vals) _
    rw [ev_mk]
    have hrec : ∀ a ∈ xs, Is (d_expr_eval_N n (toT a) vals) fun b => b = a.ev (vf vals) := fun a hm => ih a hm n (by have := depths_mem hm; omega) (by have := sizes_mem hm; omega)
    unfold d_expr_eval_F
    have hnode : ∃ t : Nat, d_expr_nodeOf ⟨o, v, xs.map enc⟩ = some (t, ⟨o, v, xs.map enc⟩) ∧ (t = 56 ↔ o = 3) ∧ (t = 57 ↔ o = 4 ∧ xs ≠ []) ∧ (t = 58 ↔ o = 5) ∧ (t = 59 ↔ o = 6) := by
      unfold d_expr_nodeOf
      by_cases h3 : o = 3
      · subst h3; exact ⟨56, by simp [PM.onInl, PM.onOut], by simp⟩
      · by_cases h4 : o = 4
        · subst h4
          cases xs with
          | nil => exact ⟨65, by simp [PM.onInl, PM.onOut], by simp⟩
          | cons a xs =>
            have : (0 : Int) < (xs.length : Int) + 1 := by omega
            exact ⟨57, by simp [PM.onInl, PM.onOut, this], by simp⟩
        · by_cases h5 : o = 5
          · subst h5; exact ⟨58, by simp [PM.onInl, PM.onOut], by simp⟩
          · by_cases h6 : o = 6
            · subst h6; exact ⟨59, by simp [PM.onInl, PM.onOut], by simp⟩
            · exact ⟨65, by simp [PM.onInl, PM.onOut, h3, h4, h5, h6], by simp [h3, h4, h5, h6]⟩
    obtain ⟨t, ht, t3, t4, t5, t6⟩ := hnode
    rw [ht, Option.bind_some]
    refine Is.ite (p := o = 3) (by rw [decide_eq_true_iff]; exact t3) (fun h3 => ?_) (fun h3 => ?_)
    · subst h3
      simpa using Is.var vals v
    · refine Is.ite (p := o = 4 ∧ xs ≠ []) (by rw [decide_eq_true_iff]; exact t4) (fun h4 => ?_) (fun h4 => ?_)
      · obtain ⟨rfl, hx⟩ := h4
        cases xs with
        | nil => exact absurd rfl hx
        | cons a xs =>
          refine Is.arg0 (a := a) rfl ?_
          refine Is.bind (hrec a (by simp)) ?_
          rintro r rfl
          exact Is.val (by simp [evneg])
      · refine Is.ite (p := o = 5) (by rw [decide_eq_true_iff]; exact t5) (fun h5 => ?_) (fun h5 => ?_)
        · subst h5
          refine Is.argall (xs := xs) (fun a => a.ev (vf vals) = true) () (by omega) ?_ (by unfold d_expr_eval_0; simp) ?_
          · intro i a ha hi
            unfold d_expr_eval_0
            refine Is.inb hi (Is.arg ha ?_)
            have hm := List.mem_of_getElem? ha
            refine Is.bind (hrec a hm) ?_
            rintro r rfl
            cases hr : a.ev (vf vals) with
            | false =>
              refine Is.val ?_
              have : evall (vf vals) xs = false := by
                cases h : evall (vf vals) xs with
                | false => rfl
                | true => rw [evall_iff.1 h a hm] at hr; cases hr
              simp [this]
            | true => exact Is.val ⟨rfl, rfl⟩
          · intro hall
            refine Is.val ?_
            simp [evall_iff.2 hall]
        · refine Is.ite (p := o = 6) (by rw [decide_eq_true_iff]; exact t6) (fun h6 => ?_) (fun h6 => ?_)
          · subst h6
            refine Is.argall (xs := xs) (fun a => a.ev (vf vals) = false) () (by omega) ?_ (by unfold d_expr_eval_1; simp) ?_
            · intro i a ha hi
              unfold d_expr_eval_1
              refine Is.inb hi (Is.arg ha ?_)
              have hm := List.mem_of_getElem? ha
              refine Is.bind (hrec a hm) ?_
              rintro r rfl
              cases hr : a.ev (vf vals) with
              | true =>
                refine Is.val ?_
                have : evany (vf vals) xs = true := evany_iff.2 ⟨a, hm, hr⟩
                simp [this]
              | false => exact Is.val ⟨rfl, rfl⟩
            · intro hall
              refine Is.val ?_
              have : evany (vf vals) xs = false := by
                cases h : evany (vf vals) xs with
                | false => rfl
                | true =>
                  obtain ⟨a, hm, ha⟩ := evany_iff.1 h
                  rw [hall a hm] at ha; cases ha
              simp [this]
          · refine Is.val ?_
            by_cases h2 : o = 2
            · simp [h2]
            · by_cases ho4 : o = 4
              · have hx : xs = [] := Classical.byContradiction fun hx => h4 ⟨ho4, hx⟩
                subst hx
                simp [ho4, evneg]
              · simp [h2, h3, ho4, h5, h6]
theorem Eval_is (vals : List Bool) (e : E) (h : e.size ≤ BIG) : Is (d_expr_Eval (toT e) vals) fun b => b = e.ev (vf vals) := by
  unfold d_expr_Eval
  exact Is.bind (eval_N vals e (recFuel + 1) (by have := e.depth_le_size; unfold recFuel; unfold BIG at h; omega) h) fun r hr => Is.val hr
theorem REval_N (vals : List Bool) (e : E) : ∀ n, e.depth ≤ n → e.size ≤ BIG → Is (d_ref18_Eval_N n (toT e) vals) fun b => b = e.ev (vf vals) := by
  induction e using E.ind with
  | h o v xs ih =>
    intro n hn hsz
    have hB : BIG = 4194304 := rfl
    rw [E.depth] at hn
    rw [E.size] at hsz
    have hlen := sizes_len xs
    obtain ⟨n, rfl⟩ : ∃ m, n = m + 1 := ⟨n - 1, by omega⟩
    show Is (d_ref18_Eval_F (d_ref18_Eval_N n) ⟨o, v, xs.map enc⟩ vals) _
    rw [ev_mk]
    have hrec : ∀ a ∈ xs, Is (d_ref18_Eval_N n (toT a) vals) fun b => b = a.ev (vf vals) := fun a hm => ih a hm n (by have := depths_mem hm; omega) (by have := sizes_mem hm; omega)
    unfold d_ref18_Eval_F
    refine Is.ite (p := o = 2) dec_iff (fun h2 => Is.val (by simp [h2])) (fun h2 => ?_)
    refine Is.ite (p := o = 3) dec_iff (fun h3 => by simpa [h3] using Is.var vals v) (fun h3 => ?_)
    refine Is.ite (p := o = 4) dec_iff (fun h4 => ?_) (fun h4 => ?_)
    · subst h4
      refine Is.bind (φ := fun b => b = evneg (vf vals) xs) ?_ (fun b hb => Is.val (by simpa using hb))
      cases xs with
      | nil => exact Is.val rfl
      | cons a xs =>
        refine Is.cond (fun _ => ?_) (fun hc => by simp at hc)
        refine Is.arg0 (a := a) rfl ?_
        refine Is.bind (hrec a (by simp)) ?_
        rintro r rfl
        exact Is.val (by simp [evneg])
    · refine Is.onInl (θ := fun x => match x with | .inl b => b = true ↔ (o = 5 ∨ o = 6) | .inr b => False) ?_ ?_ (fun b hb => hb.elim)
      · by_cases h5 : o = 5
        · subst h5; simp [Is]
        · by_cases h6 : o = 6 <;> simp [Is, h5, h6]
      · intro c hc
        refine Is.ite hc (fun h56 => ?_) (fun h56 => ?_)
        · refine Is.argall (xs := xs) (fun a => a.ev (vf vals) = (!(decide (o = 6)))) () (by omega) ?_ (by unfold d_ref18_Eval_0; simp) ?_
          · intro i a ha hi
            unfold d_ref18_Eval_0
            refine Is.inb hi (Is.arg ha ?_)
            have hm := List.mem_of_getElem? ha
            refine Is.bind (hrec a hm) ?_
            rintro r rfl
            refine Is.cond (fun hc => ?_) (fun hc => ?_)
            · refine Is.val ?_
              have hc : a.ev (vf vals) = decide (o = 6) := by simpa using hc
              rcases h56 with h5 | h6
              · subst h5
                have : evall (vf vals) xs = false := by
                  cases h : evall (vf vals) xs with
                  | false => rfl
                  | true => rw [evall_iff.1 h a hm] at hc; simp at hc
                simp [this]
              · subst h6
                have : evany (vf vals) xs = true := evany_iff.2 ⟨a, hm, by simpa using hc⟩
                simp [this]
            · refine Is.val ⟨rfl, ?_⟩
              have hc : ¬ a.ev (vf vals) = decide (o = 6) := by simpa using hc
              revert hc
              show ¬ _ = decide (o = 6) → a.ev (vf vals) = (!(decide (o = 6)))
              cases a.ev (vf vals) <;> cases decide (o = 6) <;> simp
          · intro hall
            refine Is.val ?_
            rcases h56 with h5 | h6
            · subst h5
              have : evall (vf vals) xs = true := evall_iff.2 fun a ha => by simpa using hall a ha
              simp [this]
            · subst h6
              have : evany (vf vals) xs = false := by
                cases h : evany (vf vals) xs with
                | false => rfl
                | true =>
                  obtain ⟨a, hm, ha⟩ := evany_iff.1 h
                  have := hall a hm
                  rw [ha] at this; simp at this
              simp [this]
        · have h5 : ¬ o = 5 := fun h => h56 (.inl h)
          have h6 : ¬ o = 6 := fun h => h56 (.inr h)
          exact Is.val (by simp [h2, h3, h4, h5, h6])
theorem REval_is (vals : List Bool) (e : E) (h : e.size ≤ BIG) : Is (d_ref18_Eval (toT e) vals) fun b => b = e.ev (vf vals) := REval_N vals e (recFuel + 1) (by have := e.depth_le_size; unfold recFuel; unfold BIG at h; omega) h
/-! ### Variables -/
mutual
def E.occ : E → List Int
  | .mk o v xs => (if o = 3 then [v] else []) ++ occs xs
def occs : List E → List Int
  | [] => []
  | a :: xs => a.occ ++ occs xs
end
theorem occ_mk (o v : Int) (xs : List E) : (E.mk o v xs).occ = (if o = 3 then [v] else []) ++ occs xs := by rw [E.occ]
theorem occs_append : ∀ xs ys : List E, occs (xs ++ ys) = occs xs ++ occs ys
  | [], ys => rfl
  | a :: xs, ys => by simp only [List.cons_append, occs, occs_append xs ys, List.append_assoc]
theorem occs_take_get {xs : List E} {i : Nat} {a : E} (h : xs[i]? = some a) : occs (xs.take (i + 1)) = occs (xs.take i) ++ a.occ := by
  rw [take_get h, occs_append]; simp [occs]
theorem occs_mem : ∀ {xs : List E} {a : E} {k : Int}, a ∈ xs → k ∈ a.occ → k ∈ occs xs
  | b :: xs, a, k, h, hk => by
    rw [occs, List.mem_append]
    rcases List.mem_cons.1 h with rfl | h
    · exact .inl hk
    · exact .inr (occs_mem h hk)
theorem mset_keys (k : Int) : ∀ (m : List (Int × Bool)), (∀ x, x ∈ (mset k true m).map (·.1) ↔ x = k ∨ x ∈ m.map (·.1)) ∧ ((m.map (·.1)).Nodup → ((mset k true m).map (·.1)).Nodup) ∧ (mset k true m).length ≤ m.length + 1
  | [] => by simp [mset]
  | e :: es => by
    obtain ⟨i1, i2, i3⟩ := mset_keys k es
    unfold mset
    by_cases h : k = e.1
    · subst h
      rw [if_pos rfl]
      exact ⟨fun x => by simp, fun hn => by simpa using hn, by simp⟩
    · rw [if_neg h]
      refine ⟨fun x => ?_, fun hn => ?_, by simp only [List.length_cons]; omega⟩
      · rw [List.map_cons, List.mem_cons, i1, List.map_cons, List.mem_cons]
        constructor
        · rintro (h | h | h)
          · exact .inr (.inl h)
          · exact .inl h
          · exact .inr (.inr h)
        · rintro (h | h | h)
          · exact .inr (.inl h)
          · exact .inl h
          · exact .inr (.inr h)
      · rw [List.map_cons, List.nodup_cons] at hn ⊢
        refine ⟨fun hm => ?_, i2 hn.2⟩
        rcases (i1 e.1).1 hm with h1 | h1
        · exact h h1.symm
        · exact hn.1 h1
/-- What is found: the variables that were there, and those that occur. -/
def Found (m m' : List (Int × Bool)) (l : List Int) (n : Nat) : Prop :=
  (∀ x, x ∈ m'.map (·.1) ↔ x ∈ m.map (·.1) ∨ x ∈ l) ∧ ((m.map (·.1)).Nodup → (m'.map (·.1)).Nodup) ∧ m'.length ≤ m.length + n
theorem Found.refl (m : List (Int × Bool)) : Found m m [] 0 := ⟨fun x => by simp, id, Nat.le_refl _⟩
theorem Found.trans {m m' m2 : List (Int × Bool)} {l l2 : List Int} {n n2 : Nat} (h : Found m m' l n) (k : Found m' m2 l2 n2) : Found m m2 (l ++ l2) (n + n2) :=
  ⟨fun x => by rw [k.1, h.1, List.mem_append, or_assoc], fun q => k.2.1 (h.2.1 q), by have := h.2.2; have := k.2.2; omega⟩
theorem collect_N (e : E) : ∀ n, e.depth ≤ n → e.size ≤ BIG → ∀ m, Is (d_expr_collect_N n (toT e) m) fun m' => Found m m' e.occ e.size := by
  induction e using E.ind with
  | h o v xs ih =>
    intro n hn hsz m
    have hB : BIG = 4194304 := rfl
    rw [E.depth] at hn
    have hZ : (E.mk o v xs).size = 1 + sizes xs := by rw [E.size]
    rw [hZ] at hsz
    have hlen := sizes_len xs
    obtain ⟨n, rfl⟩ : ∃ m, n = m + 1 := ⟨n - 1, by omega⟩
    show Is (d_expr_collect_F (d_expr_collect_N n) ⟨o, v, xs.map enc⟩ m) _
    rw [hZ, occ_mk]
    unfold d_expr_collect_F
    refine Is.onInl (θ := fun x => match x with | .inl m1 => Found m m1 (if o = 3 then [v] else []) 1 | .inr _ => False) ?_ ?_ (fun b hb => hb.elim)
    · refine Is.ite (p := o = 3) dec_iff (fun h3 => Is.val ?_) (fun h3 => Is.val ?_)
      · obtain ⟨q1, q2, q3⟩ := mset_keys v m
        rw [if_pos h3]
        exact ⟨fun x => by rw [q1]; simp [or_comm], q2, q3⟩
      · rw [if_neg h3]
        exact ⟨fun x => by simp, id, Nat.le_succ _⟩
    · intro m1 hm1
      refine Is.argfold (xs := xs) (fun i s => (i, s)) (fun i s => Found m s ((if o = 3 then [v] else []) ++ occs (xs.take i)) (1 + sizes (xs.take i))) m1 (by omega) (by simpa [occs, sizes] using hm1) ?_ ?_
      · intro i a s ha hi hI
        unfold d_expr_collect_0
        refine Is.inb hi (Is.arg ha ?_)
        have hm := List.mem_of_getElem? ha
        refine Is.bind (ih a hm n (by have := depths_mem hm; omega) (by have := sizes_mem hm; omega) s) ?_
        intro r hr
        refine Is.val ⟨r, rfl, ?_⟩
        rw [occs_take_get ha, sizes_take_get ha, ← List.append_assoc, ← Nat.add_assoc]
        exact hI.trans hr
      · intro s hI
        unfold d_expr_collect_0
        refine Is.oub (Is.val (Is.val ?_))
        rwa [List.take_length] at hI
theorem sorted_ext {l l' : List Int} (h : l.Pairwise (fun a b => a < b)) (h' : l'.Pairwise (fun a b => a < b)) (hm : ∀ x, x ∈ l ↔ x ∈ l') : l = l' := by
  refine List.Perm.eq_of_pairwise (le := fun x y => x < y) (fun a b _ _ h1 h2 => by omega) h h' ?_
  refine (List.perm_ext_iff_of_nodup (h.imp fun h => by omega) (h'.imp fun h => by omega)).2 hm
/-- The variables, ascending. -/
def VarsOf (e : E) (l : List Int) : Prop := l.Pairwise (fun a b => a < b) ∧ ∀ x, x ∈ l ↔ x ∈ e.occ
theorem Vars_is (e : E) (h : e.size ≤ 1000000) : Is (d_expr_Vars (toT e)) fun l => VarsOf e l ∧ l.length ≤ e.size := by
  unfold d_expr_Vars
  refine Is.bind (collect_N e (recFuel + 1) (by have := e.depth_le_size; unfold recFuel; omega) (by unfold BIG; omega) []) ?_
  rintro m ⟨h1, h2, h3⟩
  have hl : m.length ≤ 1000000 := by simp at h3; omega
  rw [if_pos hl]
  refine Is.val ⟨⟨?_, fun x => ?_⟩, ?_⟩
  · have hs := sortI_sorted (m.map (·.1))
    have hnd : (sortI (m.map (·.1))).Nodup := (sortI_perm _).nodup_iff.2 (h2 (by simp))
    exact List.Pairwise.imp₂ (fun a b h1 h2 => by omega) hs hnd
  · rw [(sortI_perm _).mem_iff, h1]; simp
  · rw [(sortI_perm _).length_eq, List.length_map]; simpa using h3
theorem insert_is (l : List Int) (n : Int) (hl : l.length ≤ 1000000) (hs : l.Pairwise (fun a b => a < b)) : Is (d_ref18_insert l n) fun r => r.Pairwise (fun a b => a < b) ∧ (∀ x, x ∈ r ↔ x = n ∨ x ∈ l) ∧ r.length ≤ l.length + 1 := by
  unfold d_ref18_insert
  refine Is.onInl (θ := fun x => match x with | .inl q => ∃ j : Nat, j ≤ l.length ∧ q = (l.take j, (j : Int)) ∧ (∀ x ∈ l.take j, x < n) ∧ ∀ y, l[j]? = some y → n ≤ y | .inr _ => False) ?_ ?_ (fun b hb => hb.elim)
  · refine Is.loop (mk := fun (i : Nat) (s : List Int) => ((i : Int), s)) l.length (fun i s => s = l.take i ∧ ∀ x ∈ l.take i, x < n) [] ⟨by simp, by simp⟩ ?_ ?_
    · rintro i s hi ⟨rfl, hI⟩
      unfold d_ref18_insert_0
      have hg := List.getElem?_eq_getElem hi
      refine Is.bind (φ := fun b => b = true ↔ l[i] < n) ?_ ?_
      · refine Is.inb hi (Is.at hg (Is.val dec_iff))
      · intro b hb
        refine Is.ite hb (fun hlt => ?_) (fun hge => ?_)
        · refine Is.at hg ?_
          refine Is.bind (Is.app (by simp only [List.length_take, List.length_singleton]; show (_ + 1) * 8 ≤ sizeMax ∧ _ ≤ sizeMax; unfold sizeMax; omega)) ?_
          rintro M rfl
          refine Is.val ⟨l.take (i + 1), ?_, rfl, fun x hx => ?_⟩
          · rw [w64n (by omega), take_get hg]
          · rw [take_get hg, List.mem_append] at hx
            rcases hx with hx | hx
            · exact hI x hx
            · rw [List.mem_singleton.1 hx]; exact hlt
        · refine Is.val ⟨i, by omega, rfl, hI, fun y hy => ?_⟩
          rw [hg] at hy; cases hy; omega
    · rintro s ⟨rfl, hI⟩
      unfold d_ref18_insert_0
      refine Is.bind (φ := fun b => b = false) (Is.oub (Is.val rfl)) ?_
      rintro b rfl
      exact Is.val ⟨l.length, Nat.le_refl _, rfl, hI, fun y hy => by simp at hy⟩
  · rintro q ⟨j, hj, rfl, h1, h2⟩
    have hdr := List.take_append_drop j l
    have hpw : ∀ x ∈ l.take j, ∀ y ∈ l.drop j, x < y := by
      have := hs
      rw [← hdr, List.pairwise_append] at this
      exact this.2.2
    have hp1 : (l.take j).Pairwise (fun a b => a < b) := hs.sublist (List.take_sublist _ _)
    have hp2 : (l.drop j).Pairwise (fun a b => a < b) := hs.sublist (List.drop_sublist _ _)
    have hge : ∀ y ∈ l.drop j, n ≤ y := by
      intro y hy
      by_cases hjl : j < l.length
      · rw [List.drop_eq_getElem_cons hjl] at hy hp2
        have h0 := h2 _ (List.getElem?_eq_getElem hjl)
        rcases List.mem_cons.1 hy with rfl | hy
        · exact h0
        · have := (List.pairwise_cons.1 hp2).1 y hy; omega
      · rw [List.drop_eq_nil_of_le (by omega)] at hy; cases hy
    have hmem : ∀ x, x ∈ l ↔ x ∈ l.take j ∨ x ∈ l.drop j := fun x => by rw [← List.mem_append, hdr]
    refine Is.onInl (θ := fun x => match x with | .inl m => (n ∈ l.drop j ∧ m = l.take j) ∨ (n ∉ l.drop j ∧ m = l.take j ++ [n]) | .inr _ => False) ?_ ?_ (fun b hb => hb.elim)
    · refine Is.bind (φ := fun b => b = true ↔ n ∉ l.drop j) ?_ ?_
      · refine Is.cond (fun hc => ?_) (fun hc => ?_)
        · refine Is.val ?_
          have hjl : (j : Int) = (l.length : Int) := by simpa using hc
          simp only [true_iff]
          rw [List.drop_eq_nil_of_le (by omega)]; simp
        · have hjl : ¬ (j : Int) = (l.length : Int) := by simpa using hc
          have hjl : j < l.length := by omega
          refine Is.at (List.getElem?_eq_getElem hjl) (Is.val ?_)
          simp only [Bool.not_eq_true', decide_eq_false_iff_not]
          rw [List.drop_eq_getElem_cons hjl, List.mem_cons]
          constructor
          · rintro hne (h | h)
            · exact hne h.symm
            · have h0 := h2 _ (List.getElem?_eq_getElem hjl)
              rw [List.drop_eq_getElem_cons hjl] at hp2
              have := (List.pairwise_cons.1 hp2).1 n h; omega
          · intro h e; exact h (.inl e.symm)
      · intro b hb
        refine Is.ite hb (fun hn => ?_) (fun hn => ?_)
        · refine Is.bind (Is.app (by simp only [List.length_take, List.length_singleton]; show (_ + 1) * 8 ≤ sizeMax ∧ _ ≤ sizeMax; unfold sizeMax; omega)) ?_
          rintro M rfl
          exact Is.val (.inr ⟨hn, rfl⟩)
        · exact Is.val (.inl ⟨Classical.not_not.1 hn, rfl⟩)
    · intro m hm
      rw [slO_lo hj, Option.bind_some]
      have hml : m.length ≤ j + 1 := by
        rcases hm with ⟨_, rfl⟩ | ⟨_, rfl⟩ <;> simp only [List.length_take, List.length_append, List.length_singleton] <;> omega
      refine Is.bind (Is.app (by rw [List.length_drop]; show (_ + _) * 8 ≤ sizeMax ∧ _ ≤ sizeMax; unfold sizeMax; omega)) ?_
      rintro M rfl
      refine Is.val ⟨?_, fun x => ?_, by rw [List.length_append, List.length_drop]; omega⟩
      · rcases hm with ⟨hn, rfl⟩ | ⟨hn, rfl⟩
        · rw [hdr]; exact hs
        · rw [List.append_assoc, List.pairwise_append]
          refine ⟨hp1, List.pairwise_cons.2 ⟨fun y hy => ?_, hp2⟩, fun x hx y hy => ?_⟩
          · have := hge y hy
            have : n ≠ y := fun e => hn (e ▸ hy)
            omega
          · rcases List.mem_cons.1 hy with rfl | hy
            · exact h1 x hx
            · exact hpw x hx y hy
      · rcases hm with ⟨hn, rfl⟩ | ⟨hn, rfl⟩
        · rw [hdr]
          constructor
          · exact fun h => .inr h
          · rintro (rfl | h)
            · exact (hmem x).2 (.inr hn)
            · exact h
        · rw [List.mem_append, List.mem_append, List.mem_singleton, hmem]
          constructor
          · rintro ((h | h) | h)
            · exact .inr (.inl h)
            · exact .inl h
            · exact .inr (.inr h)
          · rintro (h | h | h)
            · exact .inl (.inr h)
            · exact .inl (.inl h)
            · exact .inr h
end PM
