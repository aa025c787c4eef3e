import Derived.Test.YtmbcgmlgbcookaaDoorExpD
/-
  EXPR, E: simplified expressions: what they are, and what they are worth; keys.
-/
namespace PM
open Go Go.RowKit
/-! ### Keys -/
theorem split32 : ∀ (l l' r r' : List UInt8), (∀ x ∈ l, x ≠ 32) → (∀ x ∈ l', x ≠ 32) → l ++ 32 :: r = l' ++ 32 :: r' → l = l' ∧ r = r'
  | [], [], r, r', _, _, h => by simpa using h
  | [], y :: l', r, r', _, h2, h => by
    simp only [List.nil_append, List.cons_append, List.cons.injEq] at h
    exact absurd h.1.symm (h2 y (by simp))
  | x :: l, [], r, r', h1, _, h => by
    simp only [List.nil_append, List.cons_append, List.cons.injEq] at h
    exact absurd h.1 (h1 x (by simp))
  | x :: l, y :: l', r, r', h1, h2, h => by
    simp only [List.cons_append, List.cons.injEq] at h
    obtain ⟨e, h⟩ := h
    obtain ⟨q1, q2⟩ := split32 l l' r r' (fun z hz => h1 z (by simp [hz])) (fun z hz => h2 z (by simp [hz])) h
    exact ⟨by rw [e, q1], q2⟩
def valD (l : List UInt8) : Nat := l.foldl (fun a b => 10 * a + (b.toNat - 48)) 0
theorem valD_dec (u : Nat) : valD (Lib.decDigits u) = u ∧ ∀ x ∈ Lib.decDigits u, x ≠ 32 := by
  induction u using Nat.strongRecOn with
  | _ u ih =>
    have hd : ∀ k, k < 10 → (UInt8.ofNat (48 + k)).toNat = 48 + k := fun k hk => by
      rw [UInt8.toNat_ofNat']; omega
    have hne : ∀ k, k < 10 → UInt8.ofNat (48 + k) ≠ 32 := fun k hk e => by
      have := congrArg UInt8.toNat e
      rw [hd k hk] at this
      have h32 : (32 : UInt8).toNat = 32 := rfl
      omega
    by_cases h : u < 10
    · rw [Lib.decDigits, dif_pos h]
      refine ⟨?_, fun x hx => by rw [List.mem_singleton.1 hx]; exact hne u h⟩
      show 10 * 0 + ((UInt8.ofNat (48 + u)).toNat - 48) = u
      rw [hd u h]; omega
    · rw [Lib.decDigits, dif_neg h]
      obtain ⟨i1, i2⟩ := ih (u / 10) (by omega)
      refine ⟨?_, fun x hx => ?_⟩
      · unfold valD at i1 ⊢
        rw [List.foldl_append, i1]
        show 10 * (u / 10) + ((UInt8.ofNat (48 + u % 10)).toNat - 48) = u
        rw [hd _ (by omega)]; omega
      · rcases List.mem_append.1 hx with hx | hx
        · exact i2 x hx
        · rw [List.mem_singleton.1 hx]; exact hne _ (by omega)
theorem dec_inj {a b : Nat} {r r' : List UInt8} (h : Lib.decDigits a ++ 32 :: r = Lib.decDigits b ++ 32 :: r') : a = b ∧ r = r' := by
  obtain ⟨q1, q2⟩ := split32 _ _ _ _ (valD_dec a).2 (valD_dec b).2 h
  exact ⟨by rw [← (valD_dec a).1, q1, (valD_dec b).1], q2⟩
theorem itoa_inj {a b : Int} (ha : 0 ≤ a) (hb : 0 ≤ b) {r r' : List UInt8} (h : Lib.itoa a ++ 32 :: r = Lib.itoa b ++ 32 :: r') : a = b ∧ r = r' := by
  obtain ⟨n, rfl⟩ : ∃ n : Nat, a = n := ⟨a.toNat, by omega⟩
  obtain ⟨m, rfl⟩ : ∃ m : Nat, b = m := ⟨b.toNat, by omega⟩
  rw [Lib.itoa_nonneg, Lib.itoa_nonneg] at h
  obtain ⟨q1, q2⟩ := dec_inj h
  exact ⟨by rw [q1], q2⟩
mutual
def kb : E → List UInt8
  | .mk o v xs => Lib.itoa o ++ 32 :: (Lib.itoa v ++ 32 :: (Lib.itoa (xs.length : Int) ++ 32 :: kbs xs))
def kbs : List E → List UInt8
  | [] => []
  | a :: xs => kb a ++ kbs xs
end
mutual
def E.ok : E → Prop
  | .mk o v xs => (0 ≤ o ∧ o ≤ 2147483647) ∧ (0 ≤ v ∧ v ≤ 2147483647) ∧ oks xs
def oks : List E → Prop
  | [] => True
  | a :: xs => a.ok ∧ oks xs
end
theorem oks_iff : ∀ {xs : List E}, oks xs ↔ ∀ a ∈ xs, a.ok
  | [] => by simp [oks]
  | a :: xs => by rw [oks, oks_iff]; simp
theorem kb_inj (a : E) : ∀ (b : E) (r r' : List UInt8), a.ok → b.ok → kb a ++ r = kb b ++ r' → a = b ∧ r = r' := by
  induction a using E.ind with
  | h o v xs ih =>
    rintro ⟨o', v', ys⟩ r r' ha hb h
    rw [E.ok] at ha hb
    rw [kb, kb] at h
    simp only [List.append_assoc, List.cons_append] at h
    obtain ⟨q1, h1⟩ := itoa_inj ha.1.1 hb.1.1 h
    obtain ⟨q2, h2⟩ := itoa_inj ha.2.1.1 hb.2.1.1 h1
    obtain ⟨hl, h3⟩ := itoa_inj (by omega) (by omega) h2
    clear h h1 h2
    subst q1 q2
    have key : ∀ (xs ys : List E), (∀ a ∈ xs, ∀ (b : E) (r r' : List UInt8), a.ok → b.ok → kb a ++ r = kb b ++ r' → a = b ∧ r = r') → oks xs → oks ys → xs.length = ys.length → kbs xs ++ r = kbs ys ++ r' → xs = ys ∧ r = r' := by
      intro xs
      induction xs with
      | nil =>
        intro ys _ _ _ hl h
        have : ys = [] := List.eq_nil_of_length_eq_zero hl.symm
        subst this
        exact ⟨rfl, by simpa [kbs] using h⟩
      | cons x xs ihx =>
        intro ys hx h1 h2 hl h
        cases ys with
        | nil => cases hl
        | cons y ys =>
          rw [oks] at h1 h2
          rw [kbs, kbs, List.append_assoc, List.append_assoc] at h
          obtain ⟨e1, h⟩ := hx x (by simp) y _ _ h1.1 h2.1 h
          obtain ⟨e2, e3⟩ := ihx ys (fun a ha => hx a (List.mem_cons_of_mem _ ha)) h1.2 h2.2 (by simpa using hl) h
          exact ⟨by rw [e1, e2], e3⟩
    obtain ⟨e1, e2⟩ := key xs ys ih ha.2.2 hb.2.2 (by omega) h3
    exact ⟨by rw [e1], e2⟩
theorem keyL_map {f : R_api_Expr → Option (List UInt8)} : ∀ {xs : List E}, (∀ a ∈ xs, f (enc a) = some (kb a)) → keyL f (xs.map enc) = some (kbs xs)
  | [], _ => rfl
  | a :: xs, h => by
    rw [List.map_cons, keyL, h a (by simp), Option.bind_some, keyL_map fun b hb => h b (List.mem_cons_of_mem _ hb)]; rfl
theorem keyN_is (e : E) : ∀ n, e.depth ≤ n → e.ok → keyN n (enc e) = some (kb e) := by
  induction e using E.ind with
  | h o v xs ih =>
    intro n hn hok
    rw [E.depth] at hn
    rw [E.ok] at hok
    obtain ⟨n, rfl⟩ : ∃ m, n = m + 1 := ⟨n - 1, by omega⟩
    rw [keyN_succ, dec_enc, Option.bind_some, if_pos ⟨⟨by show -9223372036854775808 ≤ o; omega, by show o ≤ 9223372036854775807; omega⟩, by show -9223372036854775808 ≤ v; omega, by show v ≤ 9223372036854775807; omega⟩]
    have hk : keyL (keyN n) (xs.map enc) = some (kbs xs) := keyL_map fun a ha => ih a ha n (by have := depths_mem ha; omega) (oks_iff.1 hok.2.2 a ha)
    show (keyL (keyN n) (xs.map enc)).map _ = _
    rw [hk, Option.map_some, kb, keyH]
    show some ((Lib.itoa o ++ 32 :: (Lib.itoa v ++ 32 :: (Lib.itoa (((xs.map enc).length : Nat) : Int) ++ [32]))) ++ kbs xs) = _
    rw [List.length_map]
    simp
theorem kb_len (e : E) (h : e.ok) (hz : e.size ≤ BIG) : (kb e).length ≤ 66 * e.size := by
  induction e using E.ind with
  | h o v xs ih =>
    rw [E.ok] at h
    have hB : BIG = 4194304 := rfl
    rw [E.size] at hz
    have hlen := sizes_len xs
    have hk : ∀ xs : List E, (∀ a ∈ xs, a.ok → a.size ≤ BIG → (kb a).length ≤ 66 * a.size) → oks xs → sizes xs ≤ BIG → (kbs xs).length ≤ 66 * sizes xs ∧ xs.length ≤ sizes xs := by
      intro xs
      induction xs with
      | nil => intro _ _ _; exact ⟨Nat.zero_le _, Nat.zero_le _⟩
      | cons a xs ihx =>
        intro h1 h2 h3
        rw [oks] at h2
        rw [sizes] at h3
        have q1 := h1 a (by simp) h2.1 (by omega)
        obtain ⟨q2, q3⟩ := ihx (fun b hb => h1 b (List.mem_cons_of_mem _ hb)) h2.2 (by omega)
        have := a.size_pos
        simp only [kbs, sizes, List.length_append, List.length_cons]
        omega
    obtain ⟨k1, k2⟩ := hk xs ih h.2.2 (by omega)
    rw [kb, E.size]
    have l1 := Lib.itoa_length_le o (by omega) (by omega)
    have l2 := Lib.itoa_length_le v (by omega) (by omega)
    have l3 := Lib.itoa_length_le (xs.length : Int) (by omega) (by omega)
    simp only [List.length_append, List.length_cons]
    omega
end PM
