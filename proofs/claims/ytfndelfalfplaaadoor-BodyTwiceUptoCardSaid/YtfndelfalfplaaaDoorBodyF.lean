/-
  PLAIN, BODY F: the movements of the program and of the reference.
-/
import Derived.Test.YtfndelfalfplaaaDoorBodyE
namespace PM
open Go Go.RowKit

theorem trim_valid {l : T_api_Layout} {len : Int} {way : List T_api_Step} {h : Int} (hv : ValidP l way) : ValidP l (trimS l len way h) := hv.suffix (trim_suffix way h) (trim_ne hv.ne)
theorem ValidP.tail {l : T_api_Layout} {s t : T_api_Step} {r : List T_api_Step} (hv : ValidP l (s :: t :: r)) : ValidP l (t :: r) := hv.suffix ⟨[s], rfl⟩ (by simp)
theorem trim_one (l : T_api_Layout) (len : Int) (s : T_api_Step) (h : Int) : trimS l len [s] h = [s] := rfl
theorem trim_drop {l : T_api_Layout} {len : Int} {s t : T_api_Step} {r : List T_api_Step} {h : Int} (hc : len ≤ strS l (t :: r) h) : trimS l len (s :: t :: r) h = trimS l len (t :: r) h := by rw [trimS, if_pos hc]
theorem trim_keep {l : T_api_Layout} {len : Int} {s t : T_api_Step} {r : List T_api_Step} {h : Int} (hc : ¬ len ≤ strS l (t :: r) h) : trimS l len (s :: t :: r) h = s :: t :: r := by rw [trimS, if_neg hc]
theorem slLo_one {α : Type} (s : α) (r : List α) : slLoO (s :: r) 1 = some r := by
  unfold slLoO
  rw [if_pos (by simp; omega)]; rfl
theorem more_than_one {α : Type} (s t : α) (r : List α) : decide ((1 : Int) < (((s :: t :: r).length : Nat) : Int)) = true := by simp; omega
/-! ### The steps that are left -/
theorem body_trim {l : T_api_Layout} (hl : OkL l) {len : Int} (hlen : 1 ≤ len ∧ len ≤ 1000000) {h : Int} (hh : 0 ≤ h ∧ h ≤ 1000000) : ∀ {way : List T_api_Step}, ValidP l way → loopO (d_body_Move_1 l) (way, strS l way h - len) = some (.inl (trimS l len way h))
  | [], hv => absurd rfl hv.ne
  | [s], hv => by
    refine loop_done ?_
    simp [d_body_Move_1, trim_one]
  | s :: t :: r, hv => by
    obtain ⟨x, h1, h2, -⟩ := len_at (hv.has (s := s) (by simp))
    have h3 := str_bd hl hv.tail hh
    by_cases hc : len ≤ strS l (t :: r) h
    · have hstep : d_body_Move_1 l (s :: t :: r, strS l (s :: t :: r) h - len) = some (.inl (t :: r, strS l (t :: r) h - len)) := by
        unfold d_body_Move_1
        simp only [more_than_one, cond_true, ixO_zero, Option.bind_some, h1, h2, slLo_one, strS_cons]
        rw [show decide (lenOf l s ≤ lenOf l s + strS l (t :: r) h - len) = true by simp; omega, cond_true, w64_of (by omega) (by omega)]
        congr 3; omega
      rw [loop_more hstep, trim_drop hc]
      exact body_trim hl hlen hh hv.tail
    · have hstep : d_body_Move_1 l (s :: t :: r, strS l (s :: t :: r) h - len) = some (.inr (.inl (s :: t :: r))) := by
        unfold d_body_Move_1
        simp only [more_than_one, cond_true, ixO_zero, Option.bind_some, h1, h2, strS_cons]
        rw [show decide (lenOf l s ≤ lenOf l s + strS l (t :: r) h - len) = false by simp; omega, cond_false]
      rw [loop_done hstep, trim_keep hc]
theorem body_left {l : T_api_Layout} (hl : OkL l) {len : Int} (hlen : 1 ≤ len ∧ len ≤ 1000000) {h : Int} (hh : 0 ≤ h ∧ h ≤ 1000000) {way : List T_api_Step} (hv : ValidP l way) :
    ((d_body_rearEnd l ⟨way, h, len⟩).bind fun r => onInl (α := (List T_api_Step)) (β := (List T_api_Step)) (loopO (d_body_Move_1 l) (way, r)) fun x => some x) = some (trimS l len way h) := by
  rw [rearEnd_eq hl (b := ⟨way, h, len⟩) hv ⟨hh, hlen⟩, Option.bind_some, body_trim hl hlen hh hv]
  rfl
theorem ref_trim {l : T_api_Layout} (hl : OkL l) {b : T_api_Body} (hlen : 1 ≤ b.Length ∧ b.Length ≤ 1000000) {h p q r : Int} (e : w64 (q + min p (w64 (r - q))) = h) (hh : 0 ≤ h ∧ h ≤ 1000000) :
    ∀ {way : List T_api_Step}, ValidP l way → loopO (d_ref11_Move_1 l b p q r) way = some (.inl (trimS l b.Length way h))
  | [], hv => absurd rfl hv.ne
  | [s], hv => by
    refine loop_done ?_
    simp [d_ref11_Move_1, trim_one]
  | s :: t :: u, hv => by
    have hs := hv.has (s := s) (by simp)
    have h2 := hl.lens hs
    have h3 := str_bd hl hv.tail hh
    have h4 := str_bd hl hv hh
    have e1 := Stretch_eq hl (b := ⟨s :: t :: u, h, b.Length⟩) hv hh
    simp only at e1
    have e2 : w64 (strS l (s :: t :: u) h - lenOf l s) = strS l (t :: u) h := by rw [w64_of (by omega) (by omega), strS_cons]; omega
    by_cases hc : b.Length ≤ strS l (t :: u) h
    · have hstep : d_ref11_Move_1 l b p q r (s :: t :: u) = some (.inl (t :: u)) := by
        unfold d_ref11_Move_1
        rw [e]
        simp only [more_than_one, cond_true, ixO_zero, Option.bind_some, long_eq hs, e1, e2, slLo_one]
        rw [show decide (b.Length ≤ strS l (t :: u) h) = true by simp; omega, cond_true]
      rw [loop_more hstep, trim_drop hc]
      exact ref_trim hl hlen e hh hv.tail
    · have hstep : d_ref11_Move_1 l b p q r (s :: t :: u) = some (.inr (.inl (s :: t :: u))) := by
        unfold d_ref11_Move_1
        rw [e]
        simp only [more_than_one, cond_true, ixO_zero, Option.bind_some, long_eq hs, e1, e2]
        rw [show decide (b.Length ≤ strS l (t :: u) h) = false by simp; omega, cond_false]
      rw [loop_done hstep, trim_keep hc]
/-! ### Movements -/
def mu (l : T_api_Layout) (way : List T_api_Step) (h left : Int) : Int := left + (if h < lastLen l way then 0 else 1)
theorem mv_zero (l : T_api_Layout) (pos : List Int) (len : Int) (k : Nat) (way : List T_api_Step) (h left : Int) (h0 : left ≤ 0) : mv l pos len k way h left = ⟨way, h, left, false⟩ := by
  cases k with
  | zero => rfl
  | succ k => rw [mv, if_pos h0]
theorem mv_near {l : T_api_Layout} {pos : List Int} {len : Int} {k : Nat} {way : List T_api_Step} {h left : Int} (h0 : ¬ left ≤ 0) (h1 : left ≤ lastLen l way - h) :
    mv l pos len (k + 1) way h left = ⟨trimS l len way (h + left), h + left, 0, false⟩ := by rw [mv, if_neg h0, if_pos h1]
theorem mv_stop {l : T_api_Layout} {pos : List Int} {len : Int} {k : Nat} {way : List T_api_Step} {h left : Int} (h0 : ¬ left ≤ 0) (h1 : ¬ left ≤ lastLen l way - h) (h2 : entS l pos (trimS l len way (lastLen l way)) = none) :
    mv l pos len (k + 1) way h left = ⟨trimS l len way (lastLen l way), lastLen l way, left - (lastLen l way - h), true⟩ := by rw [mv, if_neg h0, if_neg h1, h2]
theorem mv_on {l : T_api_Layout} {pos : List Int} {len : Int} {k : Nat} {way : List T_api_Step} {h left : Int} (h0 : ¬ left ≤ 0) (h1 : ¬ left ≤ lastLen l way - h) {s : T_api_Step} (h2 : entS l pos (trimS l len way (lastLen l way)) = some s) :
    mv l pos len (k + 1) way h left = mv l pos len k (trimS l len way (lastLen l way) ++ [s]) 0 (left - (lastLen l way - h)) := by rw [mv, if_neg h0, if_neg h1, h2]
theorem mu_on {l : T_api_Layout} (hl : OkL l) {way w : List T_api_Step} (hw : ValidP l w) {h left : Int} (hh : h ≤ lastLen l way) : mu l w 0 (left - (lastLen l way - h)) < mu l way h left := by
  have := hl.last hw
  unfold mu
  rw [if_pos (by omega)]
  split <;> omega
theorem app_step {w : List T_api_Step} {s : T_api_Step} (h : w.length ≤ 1000) : appO w [s] = some (w ++ [s]) := by
  unfold appO
  rw [if_pos (by simp only [List.length_cons, List.length_nil, sizeMax, Enc.b]; omega)]
section
variable {l : T_api_Layout} (hs : Sm l) (hl : OkL l) {pos : List Int} (hp : pos.length ≤ 1000) {b : T_api_Body} (hb : 1 ≤ b.Length ∧ b.Length ≤ 1000000) {d D : Int} (hD : max 0 (min d 1000000) = D)
include hs hl hp hb hD
theorem body_loop : ∀ (k : Nat) (way : List T_api_Step) (h moved : Int), ValidP l way → 0 ≤ h → h ≤ lastLen l way → 0 ≤ moved → moved < D → mu l way h (D - moved) < k →
    Is (loopO (d_body_Move_0 l pos b d) (moved, h, way)) fun o =>
      ((mv l pos b.Length k way h (D - moved)).ended = false ∧ (mv l pos b.Length k way h (D - moved)).left = 0 ∧ ∃ w, ValidP l w ∧ o = .inl (D, w, (mv l pos b.Length k way h (D - moved)).head) ∧
        (0 ≤ (mv l pos b.Length k way h (D - moved)).head ∧ (mv l pos b.Length k way h (D - moved)).head ≤ 1000000) ∧ trimS l b.Length w (mv l pos b.Length k way h (D - moved)).head = (mv l pos b.Length k way h (D - moved)).way) ∨
      ((mv l pos b.Length k way h (D - moved)).ended = true ∧ o = .inr (⟨(mv l pos b.Length k way h (D - moved)).way, (mv l pos b.Length k way h (D - moved)).head, b.Length⟩, D - (mv l pos b.Length k way h (D - moved)).left, true)) := by
  intro k
  induction k with
  | zero => intro way h moved hv h0 h1 h2 h3 h4; unfold mu at h4; split at h4 <;> omega
  | succ k ih =>
    intro way h moved hv h0 h1 h2 h3 h4
    have hD' : D ≤ 1000000 := by omega
    have hL := hl.last hv
    have hn := hv.ne
    have h64 := hv.2.1
    have hhas := hv.has (List.getLast_mem hn)
    obtain ⟨x, g1, g2, -⟩ := len_at hhas
    rw [← lastLen_eq hn] at g2
    have hlast : ∀ hd : Int, d_body_last ⟨way, hd, b.Length⟩ = some (way.getLast hn) := fun hd => by
      simp only [d_body_last, ixO_last hn (by omega : way.length ≤ 1048576), Option.bind_some]
    -- a step with room
    have room : ∀ m hd : Int, 0 ≤ m → m < D → 0 ≤ hd → hd < lastLen l way → d_body_Move_0 l pos b d (m, hd, way) = some (.inl (m + min (lastLen l way - hd) (D - m), hd + min (lastLen l way - hd) (D - m), way)) := by
      intro m hd q0 q1 q2 q3
      unfold d_body_Move_0
      simp only [hD, hlast, Option.bind_some, g1, g2]
      rw [show decide (m < D) = true by simp; omega, cond_true, w64_of (n := lastLen l way - hd) (by omega) (by omega), show decide (0 < lastLen l way - hd) = true by simp; omega, cond_true, w64_of (n := D - m) (by omega) (by omega), w64_of (by omega) (by omega), w64_of (by omega) (by omega)]
    have stop : ∀ (m hd : Int) (w : List T_api_Step), m = D → d_body_Move_0 l pos b d (m, hd, w) = some (.inr (.inl (m, w, hd))) := by
      rintro m hd w rfl
      unfold d_body_Move_0
      simp only [hD]
      rw [show decide (m < m) = false by simp, cond_false]
    have hlL : 0 ≤ lastLen l way ∧ lastLen l way ≤ 1000000 := by omega
    have hvt : ValidP l (trimS l b.Length way (lastLen l way)) := trim_valid hv
    have hleft := body_left hl hb hlL hv
    have hleft2 := body_left hl hb hlL hvt
    rw [trim_idem] at hleft2
    by_cases hc : D - moved ≤ lastLen l way - h
    · rw [mv_near (by omega) hc]
      rw [loop_more (room moved h h2 h3 h0 (by omega)), Int.min_eq_right (by omega), loop_done (stop _ _ _ (by omega))]
      refine Is.val (.inl ⟨rfl, rfl, way, hv, ?_, ?_, ?_⟩)
      · rw [show moved + (D - moved) = D by omega]
      · simp only; omega
      · rfl
    · have key : Is (loopO (d_body_Move_0 l pos b d) (moved + (lastLen l way - h), lastLen l way, way)) fun o =>
          ((mv l pos b.Length (k + 1) way h (D - moved)).ended = false ∧ (mv l pos b.Length (k + 1) way h (D - moved)).left = 0 ∧ ∃ w, ValidP l w ∧ o = .inl (D, w, (mv l pos b.Length (k + 1) way h (D - moved)).head) ∧
            (0 ≤ (mv l pos b.Length (k + 1) way h (D - moved)).head ∧ (mv l pos b.Length (k + 1) way h (D - moved)).head ≤ 1000000) ∧ trimS l b.Length w (mv l pos b.Length (k + 1) way h (D - moved)).head = (mv l pos b.Length (k + 1) way h (D - moved)).way) ∨
          ((mv l pos b.Length (k + 1) way h (D - moved)).ended = true ∧ o = .inr (⟨(mv l pos b.Length (k + 1) way h (D - moved)).way, (mv l pos b.Length (k + 1) way h (D - moved)).head, b.Length⟩, D - (mv l pos b.Length (k + 1) way h (D - moved)).left, true)) := by
        have hah := body_ahead_eq hs hl hp (b := ⟨trimS l b.Length way (lastLen l way), lastLen l way, b.Length⟩) hvt
        simp only [entR] at hah
        cases he : entS l pos (trimS l b.Length way (lastLen l way)) with
        | none =>
          rw [he] at hah
          rw [mv_stop (by omega) hc he]
          have hstep : d_body_Move_0 l pos b d (moved + (lastLen l way - h), lastLen l way, way) = some (.inr (.inr (⟨trimS l b.Length way (lastLen l way), lastLen l way, b.Length⟩, moved + (lastLen l way - h), true))) := by
            unfold d_body_Move_0
            simp only [hD, hlast, Option.bind_some, g1, g2]
            rw [show decide (moved + (lastLen l way - h) < D) = true by simp; omega, cond_true, w64_of (n := lastLen l way - lastLen l way) (by omega) (by omega), show decide (0 < lastLen l way - lastLen l way) = false by simp, cond_false]
            rw [hleft, Option.bind_some, hah, Option.bind_some]
            simp only [Bool.not_false, cond_true]
            rw [show d_body_Move_2 l = d_body_Move_1 l from rfl, hleft2]
            rfl
          rw [loop_done hstep]
          refine Is.val (.inr ⟨rfl, ?_⟩)
          simp only; congr 3; omega
        | some s =>
          rw [he] at hah
          rw [mv_on (by omega) hc he]
          have hstep : d_body_Move_0 l pos b d (moved + (lastLen l way - h), lastLen l way, way) = some (.inl (moved + (lastLen l way - h), 0, trimS l b.Length way (lastLen l way) ++ [s])) := by
            unfold d_body_Move_0
            simp only [hD, hlast, Option.bind_some, g1, g2]
            rw [show decide (moved + (lastLen l way - h) < D) = true by simp; omega, cond_true, w64_of (n := lastLen l way - lastLen l way) (by omega) (by omega), show decide (0 < lastLen l way - lastLen l way) = false by simp, cond_false]
            rw [hleft, Option.bind_some, hah, Option.bind_some]
            simp only [Bool.not_true, cond_false]
            rw [app_step (by have := hvt.2.1; omega)]
            rfl
          rw [loop_more hstep]
          have hv' := ent_valid hl hvt he
          have hmu := mu_on hl hv' (way := way) (h := h) (left := D - moved) h1
          have e : D - moved - (lastLen l way - h) = D - (moved + (lastLen l way - h)) := by omega
          rw [e] at hmu ⊢
          have h5 := hl.last hv'
          exact ih _ 0 _ hv' (by omega) (by omega) (by omega) (by omega) (by omega)
      by_cases hr : h < lastLen l way
      · rw [loop_more (room moved h h2 h3 h0 hr), Int.min_eq_left (by omega), show h + (lastLen l way - h) = lastLen l way by omega]
        exact key
      · have e : h = lastLen l way := by omega
        have e2 : moved + (lastLen l way - h) = moved := by omega
        rw [e2] at key
        rw [← e] at key
        exact key
end
section
variable {l : T_api_Layout} (hs : Sm l) (hl : OkL l) {pos : List Int} (hp : pos.length ≤ 1000) {b : T_api_Body} (hb : 1 ≤ b.Length ∧ b.Length ≤ 1000000)
include hs hl hp hb
theorem ref_loop : ∀ (k : Nat) (way : List T_api_Step) (h moved left : Int), ValidP l way → 0 ≤ h → h ≤ lastLen l way → 0 ≤ moved → moved ≤ 1000000 → 0 < left → left ≤ 1000000 → moved + left ≤ 1000000 → mu l way h left < k →
    Is (loopO (d_ref11_Move_0 l pos b) (left, moved, way, h)) fun o =>
      ((mv l pos b.Length k way h left).ended = false ∧ o = .inl (moved + left - (mv l pos b.Length k way h left).left, (mv l pos b.Length k way h left).way, (mv l pos b.Length k way h left).head)) ∨
      ((mv l pos b.Length k way h left).ended = true ∧ o = .inr (⟨(mv l pos b.Length k way h left).way, (mv l pos b.Length k way h left).head, b.Length⟩, moved + left - (mv l pos b.Length k way h left).left, true)) := by
  intro k
  induction k with
  | zero => intro way h moved left hv h0 h1 h2 h3 h5 h6 h7 h4; unfold mu at h4; split at h4 <;> omega
  | succ k ih =>
    intro way h moved left hv h0 h1 h2 h3 h5 h6 h7 h4
    have hL := hl.last hv
    have hn := hv.ne
    have h64 := hv.2.1
    have hhas := hv.has (List.getLast_mem hn)
    have hlong := long_eq hhas
    rw [← lastLen_eq hn] at hlong
    have hlast : ixO way (w64 (((way.length : Nat) : Int) - 1)) = some (way.getLast hn) := ixO_last hn (by omega)
    have e0 : decide (0 < left) = true := decide_eq_true h5
    have e1 : w64 (lastLen l way - h) = lastLen l way - h := w64_of (by omega) (by omega)
    by_cases hc : left ≤ lastLen l way - h
    · rw [mv_near (by omega) hc]
      have e2 : min left (lastLen l way - h) = left := Int.min_eq_left hc
      have e3 : w64 (h + left) = h + left := w64_of (by omega) (by omega)
      have e4 : w64 (moved + left) = moved + left := w64_of (by omega) (by omega)
      have ht := ref_trim hl hb (h := h + left) (p := left) (q := h) (r := lastLen l way) (by rw [e1, e2, e3]) (by omega) hv
      have hstep : d_ref11_Move_0 l pos b (left, moved, way, h) = some (.inr (.inl (moved + left, trimS l b.Length way (h + left), h + left))) := by
        unfold d_ref11_Move_0
        simp only [e0, cond_true, hlast, Option.bind_some, hlong, ht, onInl, onOut, e1, e2, e3, e4]
        rw [show w64 (left - left) = 0 by rw [w64_of (by omega) (by omega)]; omega]
        rfl
      rw [loop_done hstep]
      refine Is.val (.inl ⟨rfl, ?_⟩)
      simp
    · have e2 : min left (lastLen l way - h) = lastLen l way - h := Int.min_eq_right (by omega)
      have e3 : w64 (h + (lastLen l way - h)) = lastLen l way := by rw [w64_of (by omega) (by omega)]; omega
      have e4 : w64 (moved + (lastLen l way - h)) = moved + (lastLen l way - h) := w64_of (by omega) (by omega)
      have e5 : w64 (left - (lastLen l way - h)) = left - (lastLen l way - h) := w64_of (by omega) (by omega)
      have ht := ref_trim hl hb (h := lastLen l way) (p := left) (q := h) (r := lastLen l way) (by rw [e1, e2, e3]) (by omega) hv
      have hvt : ValidP l (trimS l b.Length way (lastLen l way)) := trim_valid hv
      obtain ⟨r, g1, g2⟩ := ref11_entered_eq hs hl hp (b := ⟨trimS l b.Length way (lastLen l way), lastLen l way, b.Length⟩) hvt
      have e6 : decide (left - (lastLen l way - h) = 0) = false := decide_eq_false (by omega)
      rcases g2 with ⟨g2, he⟩ | ⟨g2, he⟩
      · rw [mv_on (by omega) hc he]
        have hstep : d_ref11_Move_0 l pos b (left, moved, way, h) = some (.inl (left - (lastLen l way - h), moved + (lastLen l way - h), trimS l b.Length way (lastLen l way) ++ [r.1], 0)) := by
          unfold d_ref11_Move_0
          simp only [e0, cond_true, hlast, Option.bind_some, hlong, ht, onInl, onOut, e1, e2, e3, e4, e5, e6, cond_false, g1, g2, Bool.not_true, app_step (s := r.1) (w := trimS l b.Length way (lastLen l way)) (by have := hvt.2.1; omega)]
        rw [loop_more hstep]
        have hv' := ent_valid hl hvt he
        have hmu := mu_on hl hv' (way := way) (h := h) (left := left) h1
        have h8 := hl.last hv'
        have := ih (trimS l b.Length way (lastLen l way) ++ [r.1]) 0 (moved + (lastLen l way - h)) (left - (lastLen l way - h)) hv' (by omega) (by omega) (by omega) (by omega) (by omega) (by omega) (by omega) (by omega)
        rw [show moved + (lastLen l way - h) + (left - (lastLen l way - h)) = moved + left by omega] at this
        exact this
      · rw [mv_stop (by omega) hc he]
        have hstep : d_ref11_Move_0 l pos b (left, moved, way, h) = some (.inr (.inr (⟨trimS l b.Length way (lastLen l way), lastLen l way, b.Length⟩, moved + (lastLen l way - h), true))) := by
          unfold d_ref11_Move_0
          simp only [e0, cond_true, hlast, Option.bind_some, hlong, ht, onInl, onOut, e1, e2, e3, e4, e5, e6, cond_false, g1, g2, Bool.not_false]
        rw [loop_done hstep]
        refine Is.val (.inr ⟨rfl, ?_⟩)
        simp only; congr 3; omega
end
/-! ### Whole movements -/
def capD (d : Int) : Int := max 0 (min d 1000000)
def mvB (l : T_api_Layout) (pos : List Int) (b : T_api_Body) (d : Int) : MvR := mv l pos b.Length 1000003 b.Steps b.Head (capD d)
def resB (b : T_api_Body) (D : Int) (r : MvR) : T_api_Body × Int × Bool := (⟨r.way, r.head, b.Length⟩, D - r.left, r.ended)
theorem clone_step {w : List T_api_Step} (h : w.length ≤ 1000) : appO ([] : List T_api_Step) w = some w := by
  unfold appO
  rw [if_pos (by simp only [List.length_nil, sizeMax, Enc.b]; omega)]; rfl
theorem mu_cap {l : T_api_Layout} (way : List T_api_Step) (h d : Int) : mu l way h (capD d) < (1000003 : Nat) := by
  unfold mu capD; split <;> omega
theorem body_Move_eq {l : T_api_Layout} (hs : Sm l) (hl : OkL l) {pos : List Int} (hp : pos.length ≤ 1000) {b : T_api_Body} (hb : OkB l b) (d : Int) : d_body_Move l pos b d = some (resB b (capD d) (mvB l pos b d)) := by
  have h64 := hb.valid.2.1
  have hL := hl.last hb.valid
  have hh := hb.head
  unfold d_body_Move d_slices_Clone_api_Step
  rw [clone_step (by omega), Option.bind_some, Option.bind_some, body_Check_eq hs hl _ (by simp only; omega), Option.bind_some, (chkB_ok l b).2 hb]
  simp only [decide_true, Bool.not_true, cond_false]
  by_cases h0 : 0 < capD d
  · obtain ⟨o, h1, h2⟩ := body_loop hs hl hp hb.len (d := d) (D := capD d) rfl 1000003 b.Steps b.Head 0 hb.valid (by omega) hh.2 (Int.le_refl 0) h0 (by rw [Int.sub_zero]; exact mu_cap _ _ _)
    rw [Int.sub_zero] at h2
    rw [h1]
    rcases h2 with ⟨q1, q2, w, q3, rfl, q4, q5⟩ | ⟨q1, rfl⟩
    · simp only [onInl, onOut, Option.bind_some]
      have := body_left hl hb.len q4 q3
      rw [show d_body_Move_3 l = d_body_Move_1 l from rfl]
      simp only [onInl, onOut] at this
      rw [this, q5]
      simp only [Option.bind_some, resB, mvB, q1, q2, Int.sub_zero]
    · simp only [onInl, onOut, Option.bind_some, resB, mvB, q1]
  · have e : capD d = 0 := by unfold capD at h0 ⊢; omega
    have hstep : d_body_Move_0 l pos b d (0, b.Head, b.Steps) = some (.inr (.inl (0, b.Steps, b.Head))) := by
      unfold d_body_Move_0
      rw [show (max 0 (min d 1000000)) = 0 from e]
      rfl
    rw [loop_done hstep]
    simp only [onInl, onOut, Option.bind_some]
    have := body_left hl hb.len (h := b.Head) (by omega) hb.valid
    simp only [onInl, onOut] at this
    rw [show d_body_Move_3 l = d_body_Move_1 l from rfl, this, trim_id hb.fst]
    simp only [Option.bind_some, resB, mvB, e, mv_zero _ _ _ _ _ _ _ (Int.le_refl 0), Int.sub_zero]
theorem ref11_Move_eq {l : T_api_Layout} (hs : Sm l) (hl : OkL l) {pos : List Int} (hp : pos.length ≤ 1000) {b : T_api_Body} (hb : OkB l b) (d : Int) : d_ref11_Move l pos b d = some (resB b (capD d) (mvB l pos b d)) := by
  have h64 := hb.valid.2.1
  have hL := hl.last hb.valid
  have hh := hb.head
  unfold d_ref11_Move
  rw [clone_step (by omega), ref11_Check_eq hs hl _ (by omega), Option.bind_some, (chkB_ok l b).2 hb, Option.bind_some]
  simp only [decide_true, Bool.not_true, cond_false]
  by_cases h0 : 0 < capD d
  · obtain ⟨o, h1, h2⟩ := ref_loop hs hl hp hb.len 1000003 b.Steps b.Head 0 (capD d) hb.valid (by omega) hh.2 (Int.le_refl 0) (by omega) h0 (by unfold capD; omega) (by unfold capD; omega) (mu_cap _ _ _)
    rw [show (max 0 (min d 1000000)) = capD d from rfl, h1]
    rw [Int.zero_add] at h2
    rcases h2 with ⟨q1, rfl⟩ | ⟨q1, rfl⟩
    · simp only [onInl, onOut, Option.bind_some, resB, mvB, q1]
    · simp only [onInl, onOut, Option.bind_some, resB, mvB, q1]
  · have e : capD d = 0 := by unfold capD at h0 ⊢; omega
    have hstep : d_ref11_Move_0 l pos b (0, 0, b.Steps, b.Head) = some (.inr (.inl (0, b.Steps, b.Head))) := by
      unfold d_ref11_Move_0
      rfl
    rw [show (max 0 (min d 1000000)) = 0 from e, loop_done hstep]
    simp only [onInl, onOut, Option.bind_some, resB, mvB, e, mv_zero _ _ _ _ _ _ _ (Int.le_refl 0), Int.sub_zero]
theorem body_Move_no {l : T_api_Layout} (hs : Sm l) (hl : OkL l) (pos : List Int) {b : T_api_Body} (hb : ¬ OkB l b) (h80 : b.Steps.length ≤ 1000) (d : Int) : d_body_Move l pos b d = some (b, 0, false) := by
  unfold d_body_Move d_slices_Clone_api_Step
  rw [clone_step (by omega), Option.bind_some, Option.bind_some, body_Check_eq hs hl _ (by simp only; omega), Option.bind_some]
  rw [show decide (chkB l b = 0) = false from decide_eq_false fun e => hb ((chkB_ok l b).1 e)]
  rfl
theorem ref11_Move_no {l : T_api_Layout} (hs : Sm l) (hl : OkL l) (pos : List Int) {b : T_api_Body} (hb : ¬ OkB l b) (h80 : b.Steps.length ≤ 1000) (d : Int) : d_ref11_Move l pos b d = some (b, 0, false) := by
  unfold d_ref11_Move
  rw [ref11_Check_eq hs hl _ (by omega), Option.bind_some]
  rw [show decide (chkB l b = 0) = false from decide_eq_false fun e => hb ((chkB_ok l b).1 e)]
  rfl
end PM
