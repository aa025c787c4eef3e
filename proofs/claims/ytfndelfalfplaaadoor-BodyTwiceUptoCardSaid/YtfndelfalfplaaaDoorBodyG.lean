/-
  PLAIN, BODY G: what movements keep; the five statements of chapter 11.
-/
import Derived.Test.YtfndelfalfplaaaDoorBodyF
import Derived.Test.YtfndelfalfplaaaDoorBodyA
namespace PM
open Go Go.RowKit

/-! ### The statements with the reference -/
theorem bodyChecks_law {l : T_api_Layout} (h : Sm l) (b : T_api_Body) : d_law11_BodyChecks l b = some true := by
  unfold d_law11_BodyChecks
  obtain ⟨r, h1, h2⟩ := few11_is h [] b
  rw [h1, Option.bind_some]
  cases r with
  | false => simp [alive11]
  | true =>
    obtain ⟨hl, -, hb⟩ := h2 rfl
    simp [body_Check_eq h hl b (by omega), ref11_Check_eq h hl b (by omega), alive11]
theorem body_Rear_eq {l : T_api_Layout} (hs : Sm l) (hl : OkL l) (b : T_api_Body) (hb : b.Steps.length ≤ 1000) : ∃ r, d_body_Rear l b = some r ∧ d_ref11_Rear l b = some r := by
  unfold d_body_Rear d_ref11_Rear
  rw [body_Check_eq hs hl b hb, ref11_Check_eq hs hl b hb, Option.bind_some, Option.bind_some]
  by_cases hc : chkB l b = 0
  · have hok := (chkB_ok l b).1 hc
    have hL := hl.last hok.valid
    have hh := hok.head
    have hh' : 0 ≤ b.Head ∧ b.Head ≤ 1000000 := by omega
    have h1 := str_bd hl hok.valid hh'
    have h2 := hok.len
    rw [rearEnd_eq hl hok.valid ⟨hh', h2⟩, Stretch_eq hl hok.valid hh']
    simp only [hc, decide_true, Bool.not_true, cond_false, Option.bind_some]
    match hst : b.Steps, hok.valid with
    | [], hv => exact absurd rfl hv.ne
    | s :: r, hv =>
      rw [hst] at h1
      simp only [ixO_zero, Option.bind_some]
      rw [w64_of (by omega) (by omega)]
      exact ⟨_, rfl, rfl⟩
  · simp only [hc, decide_false, Bool.not_false, cond_true]
    exact ⟨_, rfl, rfl⟩
theorem bodyReads_law {l : T_api_Layout} (h : Sm l) (b : T_api_Body) (el : Int) : d_law11_BodyReads l b el = some true := by
  unfold d_law11_BodyReads
  obtain ⟨r, h1, h2⟩ := few11_is h [] b
  rw [h1, Option.bind_some]
  cases r with
  | false => simp [alive11]
  | true =>
    obtain ⟨hl, -, hb⟩ := h2 rfl
    obtain ⟨r, g1, g2⟩ := body_Rear_eq h hl b (by omega)
    obtain ⟨M, m1, m2, m3⟩ := body_Sections_is (l := l) b (by omega)
    obtain ⟨M', n1, n2, n3⟩ := ref11_Sections_is hl b (by omega)
    have e : M = M' := m2.one n2 fun x => by rw [m3, n3]
    subst e
    have hlen : M.length ≤ 1048576 := by
      have h3 : M.length ≤ (secS l b.Steps).length := sub_len (m2.imp fun {x y} h => by omega) fun x hx => (m3 x).1 hx
      have h4 := secS_len l b.Steps
      omega
    simp [g1, g2, body_Covers_eq b el (by omega), ref11_Covers_eq b el (by omega), m1, n1, ref02_Same_refl M hlen, eqStep_self, alive11]
/-! ### What movements keep -/
structure MvOk (l : T_api_Layout) (pos : List Int) (len : Int) (left : Int) (r : MvR) : Prop where
  valid : ValidP l r.way
  head : 1 ≤ r.head ∧ r.head ≤ lastLen l r.way
  str : len ≤ strS l r.way r.head
  fst : 1 < r.way.length → strS l r.way r.head - firstLen l r.way < len
  left : 0 ≤ r.left ∧ r.left ≤ left
  all : r.ended = false → r.left = 0
  stop : r.ended = true → 0 < r.left ∧ r.head = lastLen l r.way ∧ entS l pos r.way = none
def Tr (l : T_api_Layout) (len : Int) (front : T_api_Step) (h0 : Int) (way : List T_api_Step) (h m : Int) : Prop :=
  len ≤ m ∨ ∃ p q, way = p ++ front :: q ∧ strS l (front :: q) h - h0 = m
theorem Tr.trim {l : T_api_Layout} {len : Int} {front : T_api_Step} {h0 : Int} (hf : h0 ≤ lenOf l front) : ∀ {way : List T_api_Step} {h m : Int}, Tr l len front h0 way h m → Tr l len front h0 (trimS l len way h) h m
  | _, _, _, .inl h => .inl h
  | [], h, m, .inr ⟨p, q, e, _⟩ => by simp at e
  | [s], h, m, .inr h' => by rw [trim_one]; exact .inr h'
  | s :: t :: r, h, m, .inr ⟨p, q, e, hm⟩ => by
    by_cases hc : len ≤ strS l (t :: r) h
    · rw [trim_drop hc]
      match p, e with
      | [], e =>
        simp at e
        obtain ⟨rfl, rfl⟩ := e
        rw [strS_cons] at hm
        exact .inl (by omega)
      | a :: p, e =>
        simp at e
        exact Tr.trim hf (.inr ⟨p, q, e.2, hm⟩)
    · rw [trim_keep hc]
      exact .inr ⟨p, q, e, hm⟩
theorem Tr.add {l : T_api_Layout} {len : Int} {front : T_api_Step} {h0 : Int} {way : List T_api_Step} {h m n : Int} (hn : 0 ≤ n) : Tr l len front h0 way h m → Tr l len front h0 way (h + n) (m + n)
  | .inl h => .inl (by omega)
  | .inr ⟨p, q, e, hm⟩ => .inr ⟨p, q, e, by rw [strS_add]; omega⟩
theorem Tr.enter {l : T_api_Layout} {len : Int} {front : T_api_Step} {h0 : Int} {way : List T_api_Step} {m : Int} (s : T_api_Step) : Tr l len front h0 way (lastLen l way) m → Tr l len front h0 (way ++ [s]) 0 m
  | .inl h => .inl h
  | .inr ⟨p, q, e, hm⟩ => .inr ⟨p, q ++ [s], by rw [e]; simp, by
      rw [show front :: (q ++ [s]) = (front :: q) ++ [s] from rfl, strS_snoc]
      have : lastLen l way = lastLen l (front :: q) := by rw [e]; unfold lastLen; rw [List.getLast?_append, List.getLast?_eq_some_getLast (l := front :: q) (by simp), Option.some_or]
      rw [this, strS_last (by simp)] at hm
      omega⟩
section
variable {l : T_api_Layout} (hl : OkL l) {pos : List Int} {len : Int}
include hl
theorem mv_ok {front : T_api_Step} {h0 : Int} (hf : h0 ≤ lenOf l front) : ∀ (k : Nat) (way : List T_api_Step) (h left m : Int), ValidP l way → 0 ≤ h → h ≤ lastLen l way → 0 < left → len ≤ strS l way h → mu l way h left < k → Tr l len front h0 way h m →
    MvOk l pos len left (mv l pos len k way h left) ∧ Tr l len front h0 (mv l pos len k way h left).way (mv l pos len k way h left).head (m + (left - (mv l pos len k way h left).left)) := by
  intro k
  induction k with
  | zero => intro way h left m hv h1 h2 h3 h4 h5; unfold mu at h5; split at h5 <;> omega
  | succ k ih =>
    intro way h left m hv h1 h2 h3 h4 h5 hT
    have hL := hl.last hv
    by_cases hc : left ≤ lastLen l way - h
    · rw [mv_near (by omega) hc]
      refine ⟨⟨trim_valid hv, ?_, ?_, trim_first, ?_, fun _ => rfl, (fun h => by cases h)⟩, ?_⟩
      · simp only [trim_lastLen]; omega
      · exact trim_str (by rw [strS_add]; omega)
      · simp only; omega
      · simp only [Int.sub_zero]
        exact (hT.add (by omega)).trim hf
    · have hT2 : Tr l len front h0 (trimS l len way (lastLen l way)) (lastLen l way) (m + (lastLen l way - h)) := by
        have := (hT.add (n := lastLen l way - h) (by omega)).trim hf
        rwa [show h + (lastLen l way - h) = lastLen l way by omega] at this
      have hstr : len ≤ strS l (trimS l len way (lastLen l way)) (lastLen l way) := by
        refine trim_str ?_
        have := strS_add l way h (lastLen l way - h)
        rw [show h + (lastLen l way - h) = lastLen l way by omega] at this
        omega
      cases he : entS l pos (trimS l len way (lastLen l way)) with
      | none =>
        rw [mv_stop (by omega) hc he]
        refine ⟨⟨trim_valid hv, ?_, hstr, trim_first, ?_, (fun h => by cases h), fun _ => ⟨?_, ?_, he⟩⟩, ?_⟩
        · simp only [trim_lastLen]; omega
        · simp only; omega
        · simp only; omega
        · simp only [trim_lastLen]
        · simp only [show left - (left - (lastLen l way - h)) = lastLen l way - h by omega]; exact hT2
      | some s =>
        rw [mv_on (by omega) hc he]
        have hv' := ent_valid hl (trim_valid hv) he
        have hmu := mu_on hl hv' (way := way) (h := h) (left := left) h2
        have h6 := hl.last hv'
        have hT3 := Tr.enter s (way := trimS l len way (lastLen l way)) (by rw [trim_lastLen]; exact hT2)
        obtain ⟨a1, a2⟩ := ih (trimS l len way (lastLen l way) ++ [s]) 0 (left - (lastLen l way - h)) (m + (lastLen l way - h)) hv' (by omega) (by omega) (by omega) (by
          rw [strS_snoc]
          have := sumL_last (l := l) (way := trimS l len way (lastLen l way)) (trim_ne hv.ne)
          rw [trim_lastLen] at this
          unfold strS at hstr
          omega) (by omega) hT3
        refine ⟨⟨a1.valid, a1.head, a1.str, a1.fst, ?_, a1.all, a1.stop⟩, ?_⟩
        · have := a1.left; omega
        · generalize (mv l pos len k (trimS l len way (lastLen l way) ++ [s]) 0 (left - (lastLen l way - h))) = r at a2 ⊢
          rw [show m + (lastLen l way - h) + (left - (lastLen l way - h) - r.left) = m + (left - r.left) by omega] at a2
          exact a2
theorem mv_fuel : ∀ (k k' : Nat) (way : List T_api_Step) (h left : Int), ValidP l way → h ≤ lastLen l way → mu l way h left < k → mu l way h left < k' → mv l pos len k way h left = mv l pos len k' way h left := by
  intro k
  induction k with
  | zero =>
    intro k' way h left hv h1 h2 h3
    have : left ≤ 0 := by unfold mu at h2; split at h2 <;> omega
    rw [mv_zero _ _ _ _ _ _ _ this, mv_zero _ _ _ _ _ _ _ this]
  | succ k ih =>
    intro k' way h left hv h1 h2 h3
    by_cases h0 : left ≤ 0
    · rw [mv_zero _ _ _ _ _ _ _ h0, mv_zero _ _ _ _ _ _ _ h0]
    · match k' with
      | 0 => exfalso; unfold mu at h3; split at h3 <;> omega
      | k' + 1 =>
        by_cases hc : left ≤ lastLen l way - h
        · rw [mv_near h0 hc, mv_near h0 hc]
        · cases he : entS l pos (trimS l len way (lastLen l way)) with
          | none => rw [mv_stop h0 hc he, mv_stop h0 hc he]
          | some s =>
            rw [mv_on h0 hc he, mv_on h0 hc he]
            have hv' := ent_valid hl (trim_valid hv) he
            have hmu := mu_on hl hv' (way := way) (h := h) (left := left) h1
            have h6 := hl.last hv'
            exact ih k' _ 0 _ hv' (by omega) (by omega) (by omega)
theorem mv_split {more : Int} (hm : 0 ≤ more) {k' : Nat} (hk : more + 1 < k') : ∀ (k : Nat) (way : List T_api_Step) (h left : Int), ValidP l way → 0 ≤ h → h ≤ lastLen l way → 0 < left → mu l way h (left + more) < k → (mv l pos len k way h left).ended = false →
    mv l pos len k way h (left + more) = mv l pos len k' (mv l pos len k way h left).way (mv l pos len k way h left).head more := by
  intro k
  induction k with
  | zero => intro way h left hv h1 h2 h3 h5; unfold mu at h5; split at h5 <;> omega
  | succ k ih =>
    intro way h left hv h1 h2 h3 h5 hE
    have hL := hl.last hv
    by_cases hc : left ≤ lastLen l way - h
    · rw [mv_near (by omega) hc]
      simp only
      by_cases h0 : more ≤ 0
      · have : more = 0 := by omega
        subst this
        rw [mv_zero _ _ _ _ _ _ _ (Int.le_refl 0), Int.add_zero, mv_near (by omega) hc]
      · match k', hk with
        | 0, hk => omega
        | k' + 1, hk =>
          by_cases hc2 : left + more ≤ lastLen l way - h
          · rw [mv_near (by omega) hc2, mv_near h0 (by rw [trim_lastLen]; omega), trim_trim (by omega), Int.add_assoc]
          · have hc3 : ¬ more ≤ lastLen l (trimS l len way (h + left)) - (h + left) := by rw [trim_lastLen]; omega
            have et : trimS l len (trimS l len way (h + left)) (lastLen l (trimS l len way (h + left))) = trimS l len way (lastLen l way) := by rw [trim_lastLen, trim_trim (by omega)]
            have el : left + more - (lastLen l way - h) = more - (lastLen l (trimS l len way (h + left)) - (h + left)) := by rw [trim_lastLen]; omega
            cases he : entS l pos (trimS l len way (lastLen l way)) with
            | none => rw [mv_stop (by omega) hc2 he, mv_stop h0 hc3 (by rw [et]; exact he), et, trim_lastLen, el, trim_lastLen]
            | some s =>
              rw [mv_on (by omega) hc2 he, mv_on h0 hc3 (by rw [et]; exact he), et, ← el]
              have hv' := ent_valid hl (trim_valid hv) he
              have hmu := mu_on hl hv' (way := way) (h := h) (left := left + more) h2
              have h6 := hl.last hv'
              refine mv_fuel hl k k' _ 0 _ hv' (by omega) (by omega) ?_
              unfold mu
              rw [if_pos (by omega)]
              omega
    · cases he : entS l pos (trimS l len way (lastLen l way)) with
      | none => rw [mv_stop (by omega) hc he] at hE; cases hE
      | some s =>
        rw [mv_on (by omega) hc he] at hE ⊢
        rw [mv_on (by omega) (by omega) he]
        have hv' := ent_valid hl (trim_valid hv) he
        have hmu := mu_on hl hv' (way := way) (h := h) (left := left + more) h2
        have h6 := hl.last hv'
        have := ih (trimS l len way (lastLen l way) ++ [s]) 0 (left - (lastLen l way - h)) hv' (by omega) (by omega) (by omega) (by rw [show left - (lastLen l way - h) + more = left + more - (lastLen l way - h) by omega]; omega) hE
        rw [show left - (lastLen l way - h) + more = left + more - (lastLen l way - h) by omega] at this
        exact this
end
def bodyR (b : T_api_Body) (r : MvR) : T_api_Body := ⟨r.way, r.head, b.Length⟩
theorem mvB_ok {l : T_api_Layout} (hl : OkL l) {pos : List Int} {b : T_api_Body} (hb : OkB l b) (d : Int) {front : T_api_Step} (hf : b.Steps.getLast? = some front) :
    OkB l (bodyR b (mvB l pos b d)) ∧ (0 ≤ (mvB l pos b d).left ∧ (mvB l pos b d).left ≤ capD d) ∧ ((mvB l pos b d).ended = false → (mvB l pos b d).left = 0) ∧
      ((mvB l pos b d).ended = true → (mvB l pos b d).head = lastLen l (mvB l pos b d).way ∧ entS l pos (mvB l pos b d).way = none) ∧ Tr l b.Length front b.Head (mvB l pos b d).way (mvB l pos b d).head (capD d - (mvB l pos b d).left) := by
  have hn := hb.valid.ne
  have hL := hl.last hb.valid
  have hh := hb.head
  have hf' : b.Steps.getLast hn = front := by rw [List.getLast?_eq_some_getLast hn] at hf; exact Option.some.inj hf
  have hlen := lastLen_eq (l := l) hn
  rw [hf'] at hlen
  have hT : Tr l b.Length front b.Head b.Steps b.Head 0 := .inr ⟨b.Steps.dropLast, [], by rw [← hf']; exact (List.dropLast_concat_getLast hn).symm, by simp [strS, sumL]⟩
  by_cases h0 : 0 < capD d
  · obtain ⟨a1, a2⟩ := mv_ok hl (pos := pos) (len := b.Length) (front := front) (h0 := b.Head) (by omega) 1000003 b.Steps b.Head (capD d) 0 hb.valid (by omega) hh.2 h0 hb.str (mu_cap _ _ _) hT
    rw [Int.zero_add] at a2
    exact ⟨⟨a1.valid, hb.len, a1.head, a1.str, a1.fst⟩, a1.left, a1.all, fun h => (a1.stop h).2, a2⟩
  · have e : capD d = 0 := by unfold capD at h0 ⊢; omega
    have e2 : mvB l pos b d = ⟨b.Steps, b.Head, 0, false⟩ := by unfold mvB; rw [e, mv_zero _ _ _ _ _ _ _ (Int.le_refl 0)]
    rw [e2, e]
    exact ⟨⟨hb.valid, hb.len, hb.head, hb.str, hb.fst⟩, ⟨Int.le_refl 0, Int.le_refl 0⟩, fun _ => rfl, (fun h => by cases h), hT⟩
theorem mvB_len {l : T_api_Layout} (hl : OkL l) {pos : List Int} {b : T_api_Body} (hb : OkB l b) (d : Int) : (mvB l pos b d).way.length ≤ 64 := by
  have := (mvB_ok hl (pos := pos) hb d (List.getLast?_eq_some_getLast hb.valid.ne)).1.valid.2.1
  exact this
theorem bodyMoves_law {l : T_api_Layout} (h : Sm l) (pos : List Int) (b : T_api_Body) (d : Int) : d_law11_BodyMoves l pos b d = some true := by
  unfold d_law11_BodyMoves
  obtain ⟨r, h1, h2⟩ := few11_is h pos b
  rw [h1, Option.bind_some]
  cases r with
  | false => simp [alive11]
  | true =>
    obtain ⟨hl, hp, hb⟩ := h2 rfl
    by_cases hok : OkB l b
    · have hw := mvB_len hl (pos := pos) hok d
      rw [body_Move_eq h hl (by omega) hok d, ref11_Move_eq h hl (by omega) hok d]
      have hS := ref11_Same_refl (bodyR b (mvB l pos b d)) (by simp only [bodyR]; omega)
      simp only [bodyR] at hS
      simp [hS, resB, alive11]
    · rw [body_Move_no h hl pos hok (by omega) d, ref11_Move_no h hl pos hok (by omega) d]
      simp [ref11_Same_refl b (by omega), alive11]
theorem bodyCovers_law {l : T_api_Layout} (h : Sm l) (pos : List Int) (b : T_api_Body) (d : Int) : d_law11_BodyCovers l pos b d = some true := by
  unfold d_law11_BodyCovers
  obtain ⟨r, h1, h2⟩ := few11_is h pos b
  rw [h1, Option.bind_some]
  cases r with
  | false => simp [alive11]
  | true =>
    obtain ⟨hl, hp, hb⟩ := h2 rfl
    rw [body_Check_eq h hl b (by omega)]
    by_cases hok : OkB l b
    · have hn := hok.valid.ne
      have hw := mvB_len hl (pos := pos) hok d
      obtain ⟨m1, m2, m3, m4, m5⟩ := mvB_ok hl (pos := pos) hok d (List.getLast?_eq_some_getLast hn)
      have hc : chkB l ⟨(mvB l pos b d).way, (mvB l pos b d).head, b.Length⟩ = 0 := (chkB_ok l _).2 m1
      have hlen := hok.valid.1
      have hcap : 0 ≤ capD d ∧ capD d ≤ max 0 d := by unfold capD; omega
      have hM := body_Move_eq h hl (pos := pos) (by omega) hok d
      have hck := body_Check_eq h hl ⟨(mvB l pos b d).way, (mvB l pos b d).head, b.Length⟩ (by simp only; omega)
      have hcv := body_Covers_eq ⟨(mvB l pos b d).way, (mvB l pos b d).head, b.Length⟩ (b.Steps.getLast hn).El (by simp only; omega)
      simp only [Bool.not_true, cond_false, Option.bind_some, (chkB_ok l b).2 hok, decide_true, hM, resB, hck, hc, Bool.false_or]
      rw [show decide (capD d - (mvB l pos b d).left < 0) = false by simp; omega, show decide (max 0 d < capD d - (mvB l pos b d).left) = false by simp; omega, show decide (((b.Steps.length : Nat) : Int) = 0) = false by simp; omega]
      simp only [Bool.or_false, cond_false, Option.bind_some]
      have e1 : ((!(mvB l pos b d).ended) && (!(decide (capD d - (mvB l pos b d).left = (max 0 (min d 1000000)))))) = false := by
        cases hE : (mvB l pos b d).ended with
        | true => rfl
        | false =>
          have := m3 hE
          rw [this, Int.sub_zero, show capD d = (max 0 (min d 1000000)) from rfl]; simp
      rw [e1]
      simp only [cond_false, ixO_last hn (by omega : b.Steps.length ≤ 1048576), Option.bind_some, hcv]
      have e2 : ((decide (b.Length ≤ capD d - (mvB l pos b d).left)) || ((covB (mvB l pos b d).way (b.Steps.getLast hn).El).2 && (eq_T_api_Step (covB (mvB l pos b d).way (b.Steps.getLast hn).El).1 (b.Steps.getLast hn)))) = true := by
        rcases m5 with h | ⟨p, q, e, _⟩
        · rw [decide_eq_true h, Bool.true_or]
        · have hin : b.Steps.getLast hn ∈ (mvB l pos b d).way := by rw [e]; simp
          have hvv : ValidP l (mvB l pos b d).way := m1.valid
          rw [covB_in hvv hin]
          simp [eqStep_self]
      rw [e2]
      simp [alive11]
    · have : chkB l b ≠ 0 := fun e => hok ((chkB_ok l b).1 e)
      simp [this, alive11]
theorem bodyTwice_law {l : T_api_Layout} (h : Sm l) (pos : List Int) (b : T_api_Body) (d more : Int) : d_law11_BodyTwice l pos b d more = some true := by
  unfold d_law11_BodyTwice
  obtain ⟨r, h1, h2⟩ := few11_is h pos b
  rw [h1, Option.bind_some]
  cases r with
  | false => simp [alive11]
  | true =>
    obtain ⟨hl, hp, hb⟩ := h2 rfl
    rw [body_Check_eq h hl b (by omega)]
    by_cases hok : OkB l b
    · simp only [Bool.not_true, cond_false, Option.bind_some, (chkB_ok l b).2 hok, decide_true, Bool.false_or]
      by_cases hd : (((decide (d < 0)) || (decide (400000 < d))) || (decide (more < 0)) || (decide (400000 < more))) = true
      · rw [hd]; simp [alive11]
      · rw [Bool.eq_false_iff.2 hd]
        simp only [Bool.or_eq_true, decide_eq_true_eq, not_or] at hd
        obtain ⟨⟨⟨d1, d2⟩, d3⟩, d4⟩ := hd
        have hn := hok.valid.ne
        have hw := mvB_len hl (pos := pos) hok d
        obtain ⟨m1, m2, m3, m4, m5⟩ := mvB_ok hl (pos := pos) hok d (List.getLast?_eq_some_getLast hn)
        have c1 : capD d = d := by unfold capD; omega
        have c2 : capD more = more := by unfold capD; omega
        have c3 : capD (d + more) = d + more := by unfold capD; omega
        have hM := body_Move_eq h hl (pos := pos) (by omega) hok d
        simp only [cond_false, hM, Option.bind_some, resB]
        have hM2 := body_Move_eq h hl (pos := pos) (by omega) m1 more
        have hw2 := mvB_len hl (pos := pos) m1 more
        simp only [bodyR, resB] at hM2 hw2
        cases hE : (mvB l pos b d).ended with
        | true =>
          obtain ⟨s1, s2⟩ := m4 hE
          simp only [cond_true, hM2, Option.bind_some]
          have hr : (mvB l pos ⟨(mvB l pos b d).way, (mvB l pos b d).head, b.Length⟩ more) = ⟨(mvB l pos b d).way, (mvB l pos b d).head, more, decide (0 < more)⟩ := by
            unfold mvB
            rw [c2]
            by_cases h0 : more ≤ 0
            · rw [mv_zero _ _ _ _ _ _ _ h0]
              rw [show decide (0 < more) = false by simp; omega]
            · generalize hq : mv l pos b.Length 1000003 b.Steps b.Head (capD d) = q
              have hq' : mvB l pos b d = q := hq
              rw [hq'] at s1 s2 m1
              have ht : trimS l b.Length q.way (lastLen l q.way) = q.way := by
                refine trim_id fun hx => ?_
                have := m1.fst hx
                simp only [bodyR, s1] at this
                exact this
              simp only
              rw [show (1000003 : Nat) = 1000002 + 1 from rfl, mv_stop h0 (by rw [s1]; omega) (by rw [ht]; exact s2), ht, s1]
              rw [show decide (0 < more) = true by simp; omega]
              congr 1; omega
          rw [hr, c2]
          have hS := ref11_Same_refl (bodyR b (mvB l pos b d)) (by simp only [bodyR]; omega)
          simp only [bodyR] at hS
          simp [hS, alive11]
        | false =>
          have hz := m3 hE
          simp only [cond_false, hM2, Option.bind_some]
          rw [w64_of (n := d + more) (by omega) (by omega), body_Move_eq h hl (pos := pos) (by omega) hok (d + more)]
          have hr : mvB l pos b (d + more) = mvB l pos ⟨(mvB l pos b d).way, (mvB l pos b d).head, b.Length⟩ more := by
            unfold mvB at hE ⊢
            rw [c1] at hE ⊢
            rw [c2, c3]
            by_cases h0 : 0 < d
            · exact mv_split hl (pos := pos) (len := b.Length) (by omega) (k' := 1000003) (by omega) 1000003 b.Steps b.Head d hok.valid (by have := hok.head; omega) hok.head.2 h0 (by unfold mu; split <;> omega) hE
            · have : d = 0 := by omega
              subst this
              rw [mv_zero _ _ _ _ _ _ _ (Int.le_refl 0), Int.zero_add]
          simp only [Option.bind_some, resB, hr, c1, c2, c3, hz]
          have hS := ref11_Same_refl (bodyR (bodyR b (mvB l pos b d)) (mvB l pos ⟨(mvB l pos b d).way, (mvB l pos b d).head, b.Length⟩ more)) (by simp only [bodyR]; omega)
          simp only [bodyR] at hS
          have m6 := (mvB_ok hl (pos := pos) m1 more (List.getLast?_eq_some_getLast m1.valid.ne)).2.1
          simp only [bodyR, c2] at m6
          rw [w64_of (n := d - 0 + (more - _)) (by omega) (by omega)]
          rw [hS]
          rw [show decide (d - 0 + (more - (mvB l pos ⟨(mvB l pos b d).way, (mvB l pos b d).head, b.Length⟩ more).left) = d + more - (mvB l pos ⟨(mvB l pos b d).way, (mvB l pos b d).head, b.Length⟩ more).left) = true by simp; omega]
          simp [alive11]
    · have : chkB l b ≠ 0 := fun e => hok ((chkB_ok l b).1 e)
      simp [this, alive11]
end PM
