import Derived.Test.YtmbcgmlgbcookaaDoorDen
import Derived.Test.YtmbcgmlgbcookaaDoorPlA
/-
  EXPR, A: expressions xs trees; the lists of raw cells that stand for them.
-/
namespace PM
open Go Go.RowKit
inductive E where
  | mk (o v : Int) (xs : List E)
def E.op : E → Int | .mk o _ _ => o
def E.var : E → Int | .mk _ v _ => v
def E.args : E → List E | .mk _ _ xs => xs
theorem E.ind {P : E → Prop} (h : ∀ o v xs, (∀ a ∈ xs, P a) → P (.mk o v xs)) (e : E) : P e :=
  E.rec (motive_1 := P) (motive_2 := fun l => ∀ a ∈ l, P a) (fun o v xs ih => h o v xs ih) (fun _ h => by cases h) (fun a xs h1 h2 b hb => by
    rcases List.mem_cons.1 hb with rfl | hb
    · exact h1
    · exact h2 b hb) e
mutual
def enc : E → R_api_Expr
  | .mk o v xs => enc_T_api_Expr ⟨o, v, encs xs⟩
def encs : List E → List R_api_Expr
  | [] => []
  | a :: xs => enc a :: encs xs
end
theorem encs_eq : ∀ xs : List E, encs xs = xs.map enc
  | [] => rfl
  | a :: xs => by rw [encs, encs_eq xs]; rfl
def toT (e : E) : T_api_Expr := ⟨e.op, e.var, e.args.map enc⟩
theorem enc_eq (e : E) : enc e = enc_T_api_Expr (toT e) := by
  cases e with
  | mk o v xs => rw [enc, encs_eq]; rfl
theorem dec_enc (e : E) : dec_T_api_Expr (enc e) = some (toT e) := by rw [enc_eq, dec_enc_T_api_Expr]
theorem toT_mk (o v : Int) (xs : List E) : toT (.mk o v xs) = ⟨o, v, xs.map enc⟩ := rfl
theorem mkT (o v : Int) (xs : List E) : T_api_Expr.mk o v (xs.map enc) = toT (.mk o v xs) := rfl
mutual
def E.size : E → Nat
  | .mk _ _ xs => 1 + sizes xs
def sizes : List E → Nat
  | [] => 0
  | a :: xs => a.size + sizes xs
end
mutual
def E.depth : E → Nat
  | .mk _ _ xs => 1 + depths xs
def depths : List E → Nat
  | [] => 0
  | a :: xs => max a.depth (depths xs)
end
theorem E.size_pos (e : E) : 1 ≤ e.size := by cases e; rw [E.size]; omega
theorem E.depth_pos (e : E) : 1 ≤ e.depth := by cases e; rw [E.depth]; omega
theorem sizes_append : ∀ xs bs : List E, sizes (xs ++ bs) = sizes xs + sizes bs
  | [], bs => by simp [sizes]
  | a :: xs, bs => by simp only [List.cons_append, sizes, sizes_append xs bs]; omega
theorem sizes_len : ∀ xs : List E, xs.length ≤ sizes xs
  | [] => Nat.zero_le _
  | a :: xs => by
    have := sizes_len xs
    have := a.size_pos
    simp only [List.length_cons, sizes]; omega
theorem sizes_mem : ∀ {xs : List E} {a : E}, a ∈ xs → a.size ≤ sizes xs
  | b :: xs, a, h => by
    rcases List.mem_cons.1 h with rfl | h
    · simp only [sizes]; omega
    · have := sizes_mem h; simp only [sizes]; omega
theorem depths_mem : ∀ {xs : List E} {a : E}, a ∈ xs → a.depth ≤ depths xs
  | b :: xs, a, h => by
    rcases List.mem_cons.1 h with rfl | h
    · simp only [depths]; omega
    · have := depths_mem h; simp only [depths]; omega
theorem depths_le {n : Nat} : ∀ {xs : List E}, (∀ a ∈ xs, a.depth ≤ n) → depths xs ≤ n
  | [], _ => Nat.zero_le _
  | a :: xs, h => by
    have h1 := h a (by simp)
    have h2 := depths_le fun b hb => h b (List.mem_cons_of_mem _ hb)
    simp only [depths]; omega
theorem sizes_take_get {xs : List E} {i : Nat} {a : E} (h : xs[i]? = some a) : sizes (xs.take (i + 1)) = sizes (xs.take i) + a.size := by
  rw [take_get h, sizes_append]; simp [sizes]
theorem sizes_take_le : ∀ (xs : List E) (i : Nat), sizes (xs.take i) ≤ sizes xs
  | [], i => by simp
  | a :: xs, 0 => by simp [sizes]
  | a :: xs, i + 1 => by
    have := sizes_take_le xs i
    simp only [List.take_succ_cons, sizes]; omega
theorem depths_append : ∀ xs bs : List E, depths (xs ++ bs) = max (depths xs) (depths bs)
  | [], bs => by simp [depths]
  | a :: xs, bs => by simp only [List.cons_append, depths, depths_append xs bs]; omega
theorem depths_take_get {xs : List E} {i : Nat} {a : E} (h : xs[i]? = some a) : depths (xs.take (i + 1)) = max (depths (xs.take i)) a.depth := by
  rw [take_get h, depths_append]; simp [depths]
theorem size_le_mk {o v : Int} {xs : List E} : sizes xs < (E.mk o v xs).size := by rw [E.size]; omega
/-- An element of the arguments, decoded. -/
theorem Is.arg {β : Type} {xs : List E} {i : Nat} {a : E} {f : T_api_Expr → Option β} {φ : β → Prop} (h : xs[i]? = some a) (hf : Is (f (toT a)) φ) : Is ((ixO (xs.map enc) (i : Int)).bind fun x => (dec_T_api_Expr x).bind f) φ := by
  rw [ixO_nat (x := enc a) (by rw [List.getElem?_map, h]; rfl), Option.bind_some, dec_enc, Option.bind_some]; exact hf
theorem Is.arg0 {β : Type} {xs : List E} {a : E} {f : T_api_Expr → Option β} {φ : β → Prop} (h : xs[0]? = some a) (hf : Is (f (toT a)) φ) : Is ((ixO (xs.map enc) 0).bind fun x => (dec_T_api_Expr x).bind f) φ := Is.arg (i := 0) h hf
/-- A loop over the arguments. -/
theorem Is.argfold {S A β σ : Type} {xs : List E} {step : S → Option (S ⊕ (A ⊕ β))} {K : A → Option β} {ψ : β → Prop} (mk : Int → σ → S) (I : Nat → σ → Prop) (s0 : σ) (hL : xs.length < 9223372036854775807) (h0 : I 0 s0)
    (hs : ∀ (i : Nat) a s, xs[i]? = some a → i < (xs.map enc).length → I i s →
      Is (step (mk (i : Int) s)) fun o => match o with | .inl t => ∃ s', t = mk (w64 ((i : Int) + 1)) s' ∧ I (i + 1) s' | .inr (.inl _) => False | .inr (.inr b) => ψ b)
    (he : ∀ s, I xs.length s → Is (step (mk ((xs.map enc).length : Int) s)) fun o => match o with | .inr (.inl v) => Is (K v) ψ | _ => False) : Is (PM.onInl (loopO step (mk 0 s0)) K) ψ := by
  have hl : (xs.map enc).length = xs.length := List.length_map _
  rw [hl] at he
  refine Is.fold (L := xs) mk I s0 hL h0 (fun i a s h1 h2 h3 => (hs i a s h1 (by rw [hl]; exact h2) h3).mono fun o h => match o, h with | .inl _, h => h | .inr (.inl _), h => h | .inr (.inr _), h => h) fun s hs => (he s hs).mono fun o h => match o, h with | .inr (.inl _), h => h
/-- The same, nothing else changes: P holds of each argument that did not end the loop. -/
theorem Is.argall {A β : Type} {xs : List E} {step : Int → Option (Int ⊕ (A ⊕ β))} {K : A → Option β} {ψ : β → Prop} (P : E → Prop) (v : A) (hL : xs.length < 9223372036854775807)
    (hs : ∀ (i : Nat) a, xs[i]? = some a → i < (xs.map enc).length → Is (step (i : Int)) fun o => match o with | .inl t => t = w64 ((i : Int) + 1) ∧ P a | .inr (.inl _) => False | .inr (.inr b) => ψ b)
    (he : step ((xs.map enc).length : Int) = some (.inr (.inl v))) (hk : (∀ a ∈ xs, P a) → Is (K v) ψ) : Is (PM.onInl (loopO step 0) K) ψ := by
  have hl : (xs.map enc).length = xs.length := List.length_map _
  rw [hl] at he
  exact Is.all (L := xs) (fun _ a => P a) v hL (fun i a h1 h2 _ => (hs i a h1 (by rw [hl]; exact h2)).mono fun o h => match o, h with | .inl _, h => h | .inr (.inl _), h => h | .inr (.inr _), h => h) he fun h => hk (mem_iff_get.1 h)
/-! ### Size, Depth -/
theorem w64_add_nat {a b : Nat} (h : a + b < 9223372036854775807) : w64 ((a : Int) + (b : Int)) = ((a + b : Nat) : Int) := by rw [w64_of (by omega) (by omega)]; omega
theorem Size_N (e : E) : ∀ n, e.depth ≤ n → e.size ≤ 4194304 → Is (d_expr_Size_N n (toT e)) fun r => r = (e.size : Int) := by
  induction e using E.ind with
  | h o v xs ih =>
    intro n hn hsz
    rw [E.depth] at hn
    have hsz' := hsz
    rw [E.size] at hsz
    have hlen := sizes_len xs
    obtain ⟨n, rfl⟩ : ∃ m, n = m + 1 := ⟨n - 1, by omega⟩
    show Is (d_expr_Size_F (d_expr_Size_N n) (toT (.mk o v xs))) _
    unfold d_expr_Size_F
    refine Is.argfold (xs := xs) (fun i (s : Nat) => ((s : Int), i)) (fun i s => s = 1 + sizes (xs.take i)) 1 (by omega) (by simp [sizes]) ?_ ?_
    · rintro i a s ha hi rfl
      unfold d_expr_Size_0
      refine Is.inb hi (Is.arg ha ?_)
      have hm := List.mem_of_getElem? ha
      refine Is.bind (ih a hm n (by have := depths_mem hm; omega) (by have := sizes_mem hm; omega)) ?_
      rintro r rfl
      have h1 := sizes_take_get ha
      have h2 := sizes_take_le xs (i + 1)
      refine Is.val ⟨1 + sizes (xs.take (i + 1)), ?_, rfl⟩
      rw [w64_add_nat (by omega), h1]
      congr 2; omega
    · rintro s rfl
      unfold d_expr_Size_0
      refine Is.oub (Is.val (Is.val ?_))
      rw [List.take_length, E.size]
theorem RSize_N (e : E) : ∀ n, e.depth ≤ n → e.size ≤ 4194304 → Is (d_ref18_Size_N n (toT e)) fun r => r = (e.size : Int) := by
  induction e using E.ind with
  | h o v xs ih =>
    intro n hn hsz
    rw [E.depth] at hn
    have hsz' := hsz
    rw [E.size] at hsz
    have hlen := sizes_len xs
    obtain ⟨n, rfl⟩ : ∃ m, n = m + 1 := ⟨n - 1, by omega⟩
    show Is (d_ref18_Size_F (d_ref18_Size_N n) (toT (.mk o v xs))) _
    unfold d_ref18_Size_F
    refine Is.argfold (xs := xs) (fun i (s : Nat) => ((s : Int), i)) (fun i s => s = 1 + sizes (xs.take i)) 1 (by omega) (by simp [sizes]) ?_ ?_
    · rintro i a s ha hi rfl
      unfold d_ref18_Size_0
      refine Is.inb hi (Is.arg ha ?_)
      have hm := List.mem_of_getElem? ha
      refine Is.bind (ih a hm n (by have := depths_mem hm; omega) (by have := sizes_mem hm; omega)) ?_
      rintro r rfl
      have h1 := sizes_take_get ha
      have h2 := sizes_take_le xs (i + 1)
      refine Is.val ⟨1 + sizes (xs.take (i + 1)), ?_, rfl⟩
      rw [w64_add_nat (by omega), h1]
      congr 2; omega
    · rintro s rfl
      unfold d_ref18_Size_0
      refine Is.oub (Is.val (Is.val ?_))
      rw [List.take_length, E.size]
theorem E.depth_le_size (e : E) : e.depth ≤ e.size := by
  induction e using E.ind with
  | h o v xs ih =>
    rw [E.depth, E.size]
    have : depths xs ≤ sizes xs := depths_le fun a ha => by have := ih a ha; have := sizes_mem ha; omega
    omega
theorem Depth_N (e : E) : ∀ n, e.depth ≤ n → e.size ≤ 4194304 → Is (d_ref18_Depth_N n (toT e)) fun r => r = (e.depth : Int) := by
  induction e using E.ind with
  | h o v xs ih =>
    intro n hn hsz
    have hdz := (E.mk o v xs).depth_le_size
    rw [E.depth] at hn hdz
    rw [E.size] at hsz hdz
    have hlen := sizes_len xs
    obtain ⟨n, rfl⟩ : ∃ m, n = m + 1 := ⟨n - 1, by omega⟩
    show Is (d_ref18_Depth_F (d_ref18_Depth_N n) (toT (.mk o v xs))) _
    unfold d_ref18_Depth_F
    refine Is.argfold (xs := xs) (fun i (s : Nat) => ((s : Int), i)) (fun i s => s = depths (xs.take i)) 0 (by omega) (by simp [depths]) ?_ ?_
    · rintro i a s ha hi rfl
      unfold d_ref18_Depth_0
      refine Is.inb hi (Is.arg ha ?_)
      have hm := List.mem_of_getElem? ha
      refine Is.bind (ih a hm n (by have := depths_mem hm; omega) (by have := sizes_mem hm; omega)) ?_
      rintro r rfl
      refine Is.val ⟨depths (xs.take (i + 1)), ?_, rfl⟩
      rw [depths_take_get ha]
      congr 1; omega
    · rintro s rfl
      unfold d_ref18_Depth_0
      refine Is.oub (Is.val (Is.val ?_))
      rw [List.take_length, E.depth, w64_of (by omega) (by omega)]
      omega
/-! ### The form -/
mutual
def E.wf (n : Int) : E → Prop
  | .mk o v xs => ((o = 1 ∨ o = 2) ∧ v = 0 ∧ xs = []) ∨ (o = 3 ∧ 0 ≤ v ∧ v < n ∧ xs = []) ∨ (o = 4 ∧ v = 0 ∧ xs.length = 1 ∧ wfs n xs) ∨ ((o = 5 ∨ o = 6) ∧ v = 0 ∧ wfs n xs)
def wfs (n : Int) : List E → Prop
  | [] => True
  | a :: xs => a.wf n ∧ wfs n xs
end
theorem wfs_iff {n : Int} : ∀ {xs : List E}, wfs n xs ↔ ∀ a ∈ xs, a.wf n
  | [] => by simp [wfs]
  | a :: xs => by rw [wfs, wfs_iff]; simp
theorem wf_mk {n o v : Int} {xs : List E} : (E.mk o v xs).wf n ↔ ((o = 1 ∨ o = 2) ∧ v = 0 ∧ xs = []) ∨ (o = 3 ∧ 0 ≤ v ∧ v < n ∧ xs = []) ∨ (o = 4 ∧ v = 0 ∧ xs.length = 1 ∧ ∀ a ∈ xs, a.wf n) ∨ ((o = 5 ∨ o = 6) ∧ v = 0 ∧ ∀ a ∈ xs, a.wf n) := by
  rw [E.wf, wfs_iff]
theorem len0 {xs : List E} : (((xs.map enc).length : Nat) : Int) = 0 ↔ xs = [] := by
  rw [List.length_map]
  constructor
  · intro h; exact List.eq_nil_of_length_eq_zero (by omega)
  · rintro rfl; rfl
theorem len1 {xs : List E} : (((xs.map enc).length : Nat) : Int) = 1 ↔ xs.length = 1 := by rw [List.length_map]; omega
theorem form_N (vars : Int) (e : E) : ∀ n, e.depth ≤ n → e.size ≤ 4194304 → Is (d_ref18_form_N n (toT e) vars) fun b => b = true ↔ e.wf vars := by
  induction e using E.ind with
  | h o v xs ih =>
    intro n hn hsz
    rw [E.depth] at hn
    rw [E.size] at hsz
    have hlen := sizes_len xs
    obtain ⟨n, rfl⟩ : ∃ m, n = m + 1 := ⟨n - 1, by omega⟩
    show Is (d_ref18_form_F (d_ref18_form_N n) ⟨o, v, xs.map enc⟩ vars) _
    unfold d_ref18_form_F
    refine Is.onInl (θ := fun x => match x with | .inl _ => (o = 4 ∧ xs.length = 1) ∨ o = 5 ∨ o = 6 | .inr b => b = true ↔ (E.mk o v xs).wf vars) ?_ ?_ (fun b hb => hb)
    · simp only [wf_mk]
      by_cases h1 : o = 1
      · subst h1; simp [Is, PM.onInl, PM.onOut]
      · by_cases h2 : o = 2
        · subst h2; simp [Is, PM.onInl, PM.onOut]
        · by_cases h3 : o = 3
          · subst h3; simp [Is, PM.onInl, PM.onOut, and_assoc]
          · by_cases h4 : o = 4
            · subst h4
              by_cases hl : xs.length = 1
              · have hl' : (xs.length : Int) = 1 := by omega
                simp [Is, PM.onInl, PM.onOut, hl, hl']
              · have hl' : ¬ (xs.length : Int) = 1 := by omega
                simp [Is, PM.onInl, PM.onOut, hl, hl']
            · by_cases h5 : o = 5
              · subst h5; simp [Is, PM.onInl, PM.onOut]
              · by_cases h6 : o = 6
                · subst h6; simp [Is, PM.onInl, PM.onOut]
                · simp [Is, PM.onInl, PM.onOut, h1, h2, h3, h4, h5, h6]
    · rintro _ ho
      refine Is.argall (xs := xs) (fun a => a.wf vars) () (by omega) ?_ (by unfold d_ref18_form_0; simp [toT_mk]) ?_
      · intro i a ha hi
        unfold d_ref18_form_0
        refine Is.inb hi (Is.arg ha ?_)
        have hm := List.mem_of_getElem? ha
        refine Is.bind (ih a hm n (by have := depths_mem hm; omega) (by have := sizes_mem hm; omega)) ?_
        intro b hb
        cases b with
        | false =>
          refine Is.val ?_
          simp only [Bool.false_eq_true, false_iff] at hb ⊢
          rw [wf_mk]
          rintro (h | h | h | h)
          · omega
          · omega
          · exact hb (h.2.2.2 a hm)
          · exact hb (h.2.2 a hm)
        | true => exact Is.val ⟨rfl, by simpa using hb⟩
      · intro hall
        refine Is.val ?_
        rw [decide_eq_true_iff, wf_mk]
        show v = 0 ↔ _
        constructor
        · intro hv
          rcases ho with ⟨h4, h5⟩ | h
          · exact .inr (.inr (.inl ⟨h4, hv, h5, hall⟩))
          · exact .inr (.inr (.inr ⟨h, hv, hall⟩))
        · rintro (h | h | h | h)
          · exact h.2.1
          · omega
          · exact h.2.1
          · exact h.2.1
end PM
