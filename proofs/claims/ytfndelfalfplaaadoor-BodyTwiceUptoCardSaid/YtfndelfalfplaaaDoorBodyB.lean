/-
  PLAIN, BODY B: what a body and a movement are.
-/
import Derived.Test.YtfndelfalfplaaaDoorLayE
import Derived.Test.YtfndelfalfplaaaDoorWalkK
namespace PM
open Go Go.RowKit

/-! ### Lengths -/
def lastLen (l : T_api_Layout) (way : List T_api_Step) : Int := match way.getLast? with | some s => lenOf l s | none => 0
def strS (l : T_api_Layout) (way : List T_api_Step) (h : Int) : Int := sumL l way.dropLast + h
def firstLen (l : T_api_Layout) (way : List T_api_Step) : Int := match way with | s :: _ => lenOf l s | [] => 0
theorem strS_cons (l : T_api_Layout) (s t : T_api_Step) (r : List T_api_Step) (h : Int) : strS l (s :: t :: r) h = lenOf l s + strS l (t :: r) h := by
  simp [strS, sumL]; omega
theorem strS_snoc (l : T_api_Layout) (way : List T_api_Step) (s : T_api_Step) (h : Int) : strS l (way ++ [s]) h = sumL l way + h := by simp [strS]
theorem sumL_last {l : T_api_Layout} {way : List T_api_Step} (h : way ≠ []) : sumL l way = sumL l way.dropLast + lastLen l way := by
  have e := congrArg (sumL l) (List.dropLast_concat_getLast h)
  rw [sumL_append] at e
  rw [← e]
  simp [lastLen, List.getLast?_eq_some_getLast h, sumL]
theorem strS_last {l : T_api_Layout} {way : List T_api_Step} (h : way ≠ []) : strS l way (lastLen l way) = sumL l way := (sumL_last h).symm
theorem strS_add (l : T_api_Layout) (way : List T_api_Step) (h k : Int) : strS l way (h + k) = strS l way h + k := by simp [strS]; omega
/-! ### The steps that a body has not left -/
def trimS (l : T_api_Layout) (len : Int) : List T_api_Step → Int → List T_api_Step
  | [], _ => []
  | [s], _ => [s]
  | s :: t :: r, h => if len ≤ strS l (t :: r) h then trimS l len (t :: r) h else s :: t :: r
section
variable {l : T_api_Layout} {len : Int}
theorem trim_ne : ∀ {way : List T_api_Step} {h : Int}, way ≠ [] → trimS l len way h ≠ []
  | [], _, hn => absurd rfl hn
  | [s], _, _ => by simp [trimS]
  | s :: t :: r, h, _ => by
    unfold trimS
    split
    · exact trim_ne (by simp)
    · simp
theorem trim_suffix : ∀ (way : List T_api_Step) (h : Int), trimS l len way h <:+ way
  | [], _ => ⟨[], rfl⟩
  | [s], _ => ⟨[], rfl⟩
  | s :: t :: r, h => by
    unfold trimS
    split
    · exact (trim_suffix (t :: r) h).trans ⟨[s], rfl⟩
    · exact List.suffix_rfl
theorem trim_last : ∀ (way : List T_api_Step) (h : Int), (trimS l len way h).getLast? = way.getLast?
  | [], _ => rfl
  | [s], _ => rfl
  | s :: t :: r, h => by
    unfold trimS
    split
    · rw [trim_last (t :: r) h]; simp
    · rfl
theorem trim_lastLen (way : List T_api_Step) (h : Int) : lastLen l (trimS l len way h) = lastLen l way := by simp [lastLen, trim_last]
theorem trim_len (way : List T_api_Step) (h : Int) : (trimS l len way h).length ≤ way.length := (trim_suffix way h).length_le
theorem trim_str : ∀ {way : List T_api_Step} {h : Int}, len ≤ strS l way h → len ≤ strS l (trimS l len way h) h
  | [], _, hl => hl
  | [s], _, hl => hl
  | s :: t :: r, h, hl => by
    unfold trimS
    split
    · next hc => exact trim_str hc
    · exact hl
theorem trim_first : ∀ {way : List T_api_Step} {h : Int}, 1 < (trimS l len way h).length → strS l (trimS l len way h) h - firstLen l (trimS l len way h) < len
  | [], _, hl => by simp [trimS] at hl
  | [s], _, hl => by simp [trimS] at hl
  | s :: t :: r, h, hl => by
    unfold trimS at hl ⊢
    split
    · next hc => rw [if_pos hc] at hl; exact trim_first hl
    · rw [strS_cons]; simp only [firstLen]; omega
theorem trim_id {way : List T_api_Step} {h : Int} (hc : 1 < way.length → strS l way h - firstLen l way < len) : trimS l len way h = way := by
  match way with
  | [] => rfl
  | [s] => rfl
  | s :: t :: r =>
    have := hc (by simp)
    rw [strS_cons] at this
    simp only [firstLen] at this
    unfold trimS
    rw [if_neg (by omega)]
theorem trim_trim : ∀ {way : List T_api_Step} {h k : Int}, h ≤ k → trimS l len (trimS l len way h) k = trimS l len way k
  | [], _, _, _ => rfl
  | [s], _, _, _ => rfl
  | s :: t :: r, h, k, hk => by
    have e : strS l (t :: r) k = strS l (t :: r) h + (k - h) := by rw [← strS_add]; congr 1; omega
    by_cases hc : len ≤ strS l (t :: r) h
    · have h1 : trimS l len (s :: t :: r) h = trimS l len (t :: r) h := by rw [trimS, if_pos hc]
      have h2 : trimS l len (s :: t :: r) k = trimS l len (t :: r) k := by rw [trimS, if_pos (by omega)]
      rw [h1, h2, trim_trim hk]
    · have h1 : trimS l len (s :: t :: r) h = s :: t :: r := by rw [trimS, if_neg hc]
      rw [h1]
theorem trim_idem (way : List T_api_Step) (h : Int) : trimS l len (trimS l len way h) h = trimS l len way h := trim_trim (Int.le_refl h)
end
/-! ### Entering the next element -/
def outS (k a p : Int) : Int × Bool := match tab_rail_passages.find? (fun x => (decide (x.kind_ = k) && decide (x.in_ = a)) && (decide (x.need_ = 0) || decide (x.need_ = p))) with | some x => (x.out_, true) | none => (0, false)
def posAt (pos : List Int) (i : Int) : Int := (pos[i.toNat]?).getD 0
def kindOf (l : T_api_Layout) (i : Int) : Int := ((l.Elements[i.toNat]?).map (·.Kind)).getD 0
def entS (l : T_api_Layout) (pos : List Int) (way : List T_api_Step) : Option T_api_Step :=
  match way.getLast? with
  | none => none
  | some p => bif (joinS l ⟨p.El, p.Out⟩).2 && !decide (∃ t ∈ way, t.El = (joinS l ⟨p.El, p.Out⟩).1.El) && (outS (kindOf l (joinS l ⟨p.El, p.Out⟩).1.El) (joinS l ⟨p.El, p.Out⟩).1.Side (posAt pos (joinS l ⟨p.El, p.Out⟩).1.El)).2
    then some ⟨(joinS l ⟨p.El, p.Out⟩).1.El, (joinS l ⟨p.El, p.Out⟩).1.Side, (outS (kindOf l (joinS l ⟨p.El, p.Out⟩).1.El) (joinS l ⟨p.El, p.Out⟩).1.Side (posAt pos (joinS l ⟨p.El, p.Out⟩).1.El)).1⟩ else none
/-! ### Movements -/
structure MvR where
  way : List T_api_Step
  head : Int
  left : Int
  ended : Bool
def mv (l : T_api_Layout) (pos : List Int) (len : Int) : Nat → List T_api_Step → Int → Int → MvR
  | 0, way, h, left => ⟨way, h, left, false⟩
  | k + 1, way, h, left =>
    if left ≤ 0 then ⟨way, h, left, false⟩ else
    if left ≤ lastLen l way - h then ⟨trimS l len way (h + left), h + left, 0, false⟩ else
    match entS l pos (trimS l len way (lastLen l way)) with
    | none => ⟨trimS l len way (lastLen l way), lastLen l way, left - (lastLen l way - h), true⟩
    | some s => mv l pos len k (trimS l len way (lastLen l way) ++ [s]) 0 (left - (lastLen l way - h))
structure OkB (l : T_api_Layout) (b : T_api_Body) : Prop where
  valid : ValidP l b.Steps
  len : 1 ≤ b.Length ∧ b.Length ≤ 1000000
  head : 1 ≤ b.Head ∧ b.Head ≤ lastLen l b.Steps
  str : b.Length ≤ strS l b.Steps b.Head
  fst : 1 < b.Steps.length → strS l b.Steps b.Head - firstLen l b.Steps < b.Length
end PM
