/-
  PLAIN, LAYOUT A: names, parts, ends: what the program's and the reference's tests come to.
-/
import Derived.Test.YtoknlpdkocemfaaGreatDoorWalkD
namespace PM
open Go Go.RowKit

def okB (i : Nat) (c : Nat) : Prop := (97 ≤ c ∧ c ≤ 122) ∨ (((48 ≤ c ∧ c ≤ 57) ∨ c = 95) ∧ i ≠ 0)
def NameP (s : ByteArray) : Prop := 1 ≤ s.size ∧ s.size ≤ 12 ∧ ∀ i (h : i < s.size), okB i (s[i]'h).toNat
theorem get!_eq {s : ByteArray} {i : Nat} (h : i < s.size) : s.get! i = s[i]'h := by
  cases s with
  | mk bs => exact getElem!_pos bs i h
theorem decode_low {s : ByteArray} {i : Nat} (h : i < s.size) (hc : (s[i]'h).toNat < 128) : Utf8.decode s i = ((s[i]'h).toNat, 1) := by
  unfold Utf8.decode
  simp only [Nat.add_zero, get!_eq h]
  rw [if_pos hc]
theorem decode_high {s : ByteArray} {i : Nat} (h : i < s.size) (hc : 128 ≤ (s[i]'h).toNat) : 128 ≤ (Utf8.decode s i).1 := by
  unfold Utf8.decode
  simp only [Nat.add_zero, get!_eq h]
  rw [if_neg (by omega)]
  repeat' split
  all_goals first | assumption | (rename_i h1; simp only [Bool.and_eq_true, decide_eq_true_eq, ge_iff_le] at h1; have := h1.1; omega) | (simp [Utf8.runeError])
theorem words_Name_is (s : ByteArray) (h : s.size ≤ 1048576) : Is (d_words_Name s) fun b => b = true ↔ NameP s := by
  unfold d_words_Name
  by_cases h0 : s = ByteArray.empty ∨ 12 < s.size
  · have e : (decide (s = ByteArray.empty) || decide (12 < ((s.size : Nat) : Int))) = true := by
      rcases h0 with e | e
      · simp [e]
      · simp; right; omega
    rw [e]
    refine Is.val ?_
    simp only [Bool.false_eq_true, false_iff]
    rintro ⟨h1, h2, _⟩
    rcases h0 with e | e
    · have e2 : s.size = 0 := by rw [e]; rfl
      omega
    · omega
  · have h1 : s ≠ ByteArray.empty := fun e => h0 (.inl e)
    have h2 : s.size ≤ 12 := by
      have : ¬ 12 < s.size := fun e => h0 (.inr e)
      omega
    have hpos : 0 < s.size := by
      cases s with
      | mk bs =>
        have : bs ≠ #[] := fun e => h1 (by rw [e]; rfl)
        exact Array.size_pos_iff.2 this
    have e : (decide (s = ByteArray.empty) || decide (12 < ((s.size : Nat) : Int))) = false := by
      simp [h1]; omega
    rw [e]
    refine Is.bind (φ := fun b => b = decide (((s[0]'hpos).toNat : Int) < 97)) (Is.bind (Is.six hpos) fun x hx => Is.val (by rw [hx])) fun b1 hb1 => ?_
    refine Is.bind (φ := fun b => b = true ↔ ¬ (97 ≤ (s[0]'hpos).toNat ∧ (s[0]'hpos).toNat ≤ 122)) ?_ fun b3 hb3 => ?_
    · subst hb1
      refine Is.cond (fun hc => Is.val ?_) (fun hc => Is.bind (Is.six hpos) fun x hx => Is.val ?_)
      · have := of_decide_eq_true hc; simp only [true_iff]; omega
      · have := of_decide_eq_false hc; rw [hx, decide_eq_true_iff]; omega
    refine Is.cond (fun hc => Is.val ?_) (fun hc => ?_)
    · have := hb3.1 hc
      simp only [Bool.false_eq_true, false_iff]
      rintro ⟨_, _, h3⟩
      rcases h3 0 hpos with h4 | h4
      · exact this h4
      · exact h4.2 rfl
    · have h97 : 97 ≤ (s[0]'hpos).toNat ∧ (s[0]'hpos).toNat ≤ 122 := by
        by_cases q : 97 ≤ (s[0]'hpos).toNat ∧ (s[0]'hpos).toNat ≤ 122
        · exact q
        · rw [hb3.2 q] at hc; cases hc
      refine Is.onInl (θ := fun o => match o with | .inl _ => NameP s | .inr b => b = false ∧ ¬ NameP s) ?_ (fun _ hv => Is.val ⟨fun _ => hv, fun _ => rfl⟩) (fun b hb => ?_)
      · refine Is.loop (mk := fun (i : Nat) (_ : Unit) => i) s.size (fun i _ => ∀ k (hk : k < s.size), k < i → okB k (s[k]'hk).toNat) () (fun k hk hi => by omega) ?_ ?_
        · rintro i m hi hI
          unfold d_words_Name_0
          rw [decide_eq_true hi, cond_true]
          by_cases hlow : (s[i]'hi).toNat < 128
          · rw [decode_low hi hlow]
            refine Is.cond (fun hb => Is.val ⟨rfl, ?_⟩) (fun hb => Is.val ⟨(), rfl, fun k hk hki => ?_⟩)
            · rintro ⟨_, _, h3⟩
              have := h3 i hi
              unfold okB at this
              simp at hb
              omega
            · by_cases e : k = i
              · subst e
                unfold okB
                by_cases e0 : k = 0
                · subst e0; exact .inl h97
                · simp at hb
                  omega
              · exact hI k hk (by omega)
          · have hh := decode_high hi (by omega)
            refine Is.cond (fun hb => Is.val ⟨rfl, ?_⟩) (fun hb => ?_)
            · rintro ⟨_, _, h3⟩
              have := h3 i hi
              unfold okB at this
              omega
            · simp at hb
              omega
        · rintro m hI
          unfold d_words_Name_0
          rw [decide_eq_false (Nat.lt_irrefl _)]
          exact Is.val ⟨hpos, h2, fun i hi => hI i hi hi⟩
      · have hb : b = false ∧ ¬ NameP s := hb
        exact Iff.intro (fun e => by rw [hb.1] at e; cases e) (fun e => absurd e hb.2)
end PM
