/-
  PLAIN, AUTHORITY C: the profile of a way, restrictions: what the program and the reference compute.
-/
import Derived.Test.YtcobolgkboknbaaDoorAutB
import Derived.Test.YtcobolgkboknbaaDoorLnkC
namespace PM
open Go Go.RowKit

def grdE (e : T_api_Element) (s : T_api_Step) : Int := if s.In = 0 ∨ (s.In = 2 ∧ e.Kind = 3) then e.Grade else -e.Grade
def spdE (e : T_api_Element) (s : T_api_Step) : Int := if e.Kind = 2 ∧ (s.In = 2 ∨ s.Out = 2) then e.Slow else e.Speed
def segE (e : T_api_Element) (s : T_api_Step) (B : Int) : T_api_Segment := ⟨B, B + e.Length, grdE e s, spdE e s⟩
def stepS (l : T_api_Layout) (B : Int) (s : T_api_Step) : List T_api_Segment :=
  match l.Elements[s.El.toNat]? with
  | some e => [segE e s B]
  | none => []
def ofS (l : T_api_Layout) : Int → List T_api_Step → List T_api_Segment
  | _, [] => []
  | B, s :: w => stepS l B s ++ ofS l (B + lenOf l s) w
theorem ofS_snoc (l : T_api_Layout) (s : T_api_Step) : ∀ (w : List T_api_Step) (B : Int), ofS l B (w ++ [s]) = ofS l B w ++ stepS l (B + sumL l w) s
  | [], B => by simp [ofS, sumL]
  | t :: w, B => by
    simp only [List.cons_append, ofS, ofS_snoc l s w, List.append_assoc, sumL]
    rw [Int.add_assoc]
theorem stepS_len (l : T_api_Layout) (B : Int) (s : T_api_Step) : (stepS l B s).length ≤ 1 := by
  unfold stepS; split <;> simp
theorem ofS_len (l : T_api_Layout) : ∀ (w : List T_api_Step) (B : Int), (ofS l B w).length ≤ w.length
  | [], _ => by simp [ofS]
  | s :: w, B => by
    have h1 := stepS_len l B s
    have h2 := ofS_len l w (B + lenOf l s)
    simp only [ofS, List.length_append, List.length_cons]; omega
open Classical in
noncomputable def ofP (l : T_api_Layout) (o : Int) (w : List T_api_Step) : List T_api_Segment := if PVal (ofS l o w) then ofS l o w else []
theorem pval_nil : PVal [] := ⟨by simp, fun i x h => by simp at h⟩
theorem ofP_val (l : T_api_Layout) (o : Int) (w : List T_api_Step) : PVal (ofP l o w) := by
  unfold ofP; split
  · assumption
  · exact pval_nil
theorem ofS_get {l : T_api_Layout} {s : T_api_Step} {e : T_api_Element} (he : l.Elements[s.El.toNat]? = some e) : ∀ {w : List T_api_Step} {B : Int} {i : Nat}, w[i]? = some s → segE e s (B + sumL l (w.take i)) ∈ ofS l B w
  | [], _, i, h => by simp at h
  | t :: w, B, 0, h => by
    simp at h; subst h
    simp [ofS, stepS, he, sumL]
  | t :: w, B, i + 1, h => by
    have := ofS_get he (w := w) (B := B + lenOf l t) (i := i) (by simpa using h)
    simp only [ofS, List.take_succ_cons, sumL, List.mem_append]
    rw [Int.add_assoc] at this
    exact .inr this
theorem ofS_cont {l : T_api_Layout} : ∀ {w : List T_api_Step} {B : Int}, (∀ s ∈ w, ∃ e, l.Elements[s.El.toNat]? = some e ∧ lenOf l s = e.Length) → PVal (ofS l B w) → Cont B (ofS l B w) (B + sumL l w)
  | [], B, _, _ => by simp [ofS, Cont, sumL]
  | s :: w, B, hw, hp => by
    obtain ⟨e, h1, h2⟩ := hw s (by simp)
    have hs : stepS l B s = [segE e s B] := by simp [stepS, h1]
    simp only [ofS, hs, sumL] at hp ⊢
    refine ⟨rfl, (hp.2 0 _ rfl).1, ?_⟩
    have hp' : PVal (ofS l (B + lenOf l s) w) := by
      refine ⟨by have := hp.1; simp only [List.cons_append, List.nil_append, List.length_cons] at this; omega, fun i x hx => ?_⟩
      obtain ⟨q1, q2⟩ := hp.2 (i + 1) x (by simpa using hx)
      refine ⟨q1, fun y h0 hy => q2 y (by omega) ?_⟩
      rw [Nat.add_sub_cancel]
      obtain ⟨j, rfl⟩ := Nat.exists_eq_succ_of_ne_zero (Nat.pos_iff_ne_zero.1 h0)
      simpa using hy
    have := ofS_cont (fun t ht => hw t (by simp [ht])) hp'
    rw [Int.add_assoc] at this
    show Cont (B + e.Length) _ _
    rw [← h2]; exact this

def limG (f t sp : Int) (s : T_api_Segment) : List T_api_Segment :=
  if max s.From f < min s.To t then cutS [s] (-1073741824) f ++ (⟨max s.From f, min s.To t, s.Grade, min s.Speed sp⟩ :: cutS [s] t 1073741824) else [s]
def limS (p : List T_api_Segment) (f t sp : Int) : List T_api_Segment := p.flatMap (limG f t sp)
open Classical in
noncomputable def Lim (p : List T_api_Segment) (f t sp : Int) : List T_api_Segment := if PVal p ∧ 1 ≤ sp ∧ (limS p f t sp).length ≤ 128 then limS p f t sp else []
theorem cutS_one (s : T_api_Segment) (f t : Int) : cutS [s] f t = if max s.From f < min s.To t then [clipS f t s] else [] := by
  unfold cutS; by_cases h : max s.From f < min s.To t <;> simp [h]
theorem limG_len (f t sp : Int) (s : T_api_Segment) : 1 ≤ (limG f t sp s).length ∧ (limG f t sp s).length ≤ 3 := by
  unfold limG
  rw [cutS_one, cutS_one]
  split
  · split <;> split <;> simp
  · simp
theorem limS_snoc (p : List T_api_Segment) (s : T_api_Segment) (f t sp : Int) : limS (p ++ [s]) f t sp = limS p f t sp ++ limG f t sp s := by simp [limS]
theorem limS_len (f t sp : Int) : ∀ p : List T_api_Segment, p.length ≤ (limS p f t sp).length ∧ (limS p f t sp).length ≤ 3 * p.length
  | [] => by simp [limS]
  | s :: p => by
    have h1 := limG_len f t sp s
    have h2 := limS_len f t sp p
    simp only [limS, List.flatMap_cons, List.length_append, List.length_cons] at h2 ⊢
    omega
theorem Cont.app : ∀ {p q : List T_api_Segment} {a b c : Int}, Cont a p b → Cont b q c → Cont a (p ++ q) c
  | [], _, a, b, c, h, g => by
    have : a = b := h
    subst this; exact g
  | s :: p, q, a, b, c, h, g => ⟨h.1, h.2.1, Cont.app h.2.2 g⟩
theorem limG_cont {s : T_api_Segment} (hs : SegOK s) (f t : Int) {sp : Int} (hsp : 1 ≤ sp) : Cont s.From (limG f t sp s) s.To := by
  unfold limG
  have hs' := hs
  unfold SegOK at hs'
  split
  · rename_i h
    rw [cutS_one, cutS_one]
    split <;> split <;> simp only [List.nil_append, List.cons_append, Cont, clipS, SegOK] <;> omega
  · exact ⟨rfl, hs, rfl⟩
theorem limS_cont (f t : Int) {sp : Int} (hsp : 1 ≤ sp) : ∀ {p : List T_api_Segment} {a b : Int}, Cont a p b → Cont a (limS p f t sp) b
  | [], _, _, h => h
  | s :: p, a, b, h => by
    obtain ⟨h1, h2, h3⟩ := h
    have := Cont.app (limG_cont h2 f t hsp) (limS_cont f t hsp h3)
    rw [h1] at this
    exact this
theorem limG_mem {s u : T_api_Segment} {f t sp : Int} (h : u ∈ limG f t sp s) : s.From ≤ u.From ∧ u.To ≤ s.To ∧ u.Grade = s.Grade ∧ u.Speed ≤ s.Speed := by
  unfold limG at h
  split at h
  · rw [cutS_one, cutS_one] at h
    simp only [List.mem_append, List.mem_cons] at h
    rcases h with h | h | h
    · split at h
      · simp only [List.mem_cons, List.not_mem_nil, or_false] at h; subst h; exact ⟨by simp only [clipS]; omega, by simp only [clipS]; omega, rfl, Int.le_refl _⟩
      · simp at h
    · subst h; dsimp only; omega
    · split at h
      · simp only [List.mem_cons, List.not_mem_nil, or_false] at h; subst h; exact ⟨by simp only [clipS]; omega, by simp only [clipS]; omega, rfl, Int.le_refl _⟩
      · simp at h
  · simp only [List.mem_cons, List.not_mem_nil, or_false] at h; subst h; omega
theorem cont_val {p : List T_api_Segment} {a b : Int} (h : Cont a p b) (hl : p.length ≤ 128) : PVal p := ⟨hl, fun _ _ hx => h.get hx⟩
theorem val_cont {p : List T_api_Segment} (h : PVal p) : ∃ a b, Cont a p b := by
  cases p with
  | nil => exact ⟨0, 0, rfl⟩
  | cons s p => exact ⟨s.From, _, cont_of h.2 (f := s) rfl (List.getElem?_eq_getElem (by simp))⟩
theorem Lim_val (p : List T_api_Segment) (f t sp : Int) : PVal (Lim p f t sp) := by
  unfold Lim; split
  · rename_i h
    obtain ⟨a, b, hc⟩ := val_cont h.1
    exact cont_val (limS_cont f t h.2.1 hc) h.2.2
  · exact pval_nil
theorem Lim_nil (f t sp : Int) : Lim [] f t sp = [] := by
  unfold Lim; split <;> simp [limS]
theorem Cont.mem_le : ∀ {p : List T_api_Segment} {a b : Int}, Cont a p b → a ≤ b
  | [], a, b, h => by
    have : a = b := h
    omega
  | s :: p, a, b, h => by
    have h1 := h.1; have h2 := h.2.1.2.1; have h3 := Cont.mem_le h.2.2; omega
theorem Cont.ex : ∀ {p : List T_api_Segment} {a b : Int}, Cont a p b → ∀ {x : Int}, a ≤ x → x < b → ∃ s ∈ p, s.From ≤ x ∧ x < s.To
  | [], a, b, h, x, h1, h2 => by
    have : a = b := h
    omega
  | s :: p, a, b, h, x, h1, h2 => by
    by_cases hx : x < s.To
    · exact ⟨s, by simp, by have := h.1; omega, hx⟩
    · obtain ⟨u, u1, u2⟩ := Cont.ex h.2.2 (x := x) (by omega) h2
      exact ⟨u, by simp [u1], u2⟩

def Low (a b : Int) (p q : List T_api_Segment) : Prop :=
  q = [] ∨ (Cont a q b ∧ ∀ x, a ≤ x → x < b → ∃ s ∈ p, ∃ u ∈ q, (s.From ≤ x ∧ x < s.To) ∧ (u.From ≤ x ∧ x < u.To) ∧ u.Grade = s.Grade ∧ u.Speed ≤ s.Speed)
theorem Low.refl {a b : Int} {p : List T_api_Segment} (h : p = [] ∨ Cont a p b) : Low a b p p := by
  rcases h with h | h
  · exact .inl h
  · exact .inr ⟨h, fun x h1 h2 => by
      obtain ⟨s, s1, s2⟩ := h.ex h1 h2
      exact ⟨s, s1, s, s1, s2, s2, rfl, Int.le_refl _⟩⟩
theorem Low.trans {a b : Int} {p q r : List T_api_Segment} (hq : PVal q) (h : Low a b p q) (g : Low a b q r) (hn : q = [] → r = []) : Low a b p r := by
  rcases g with g | ⟨g1, g2⟩
  · exact .inl g
  rcases h with h | ⟨h1, h2⟩
  · exact .inl (hn h)
  refine .inr ⟨g1, fun x x1 x2 => ?_⟩
  obtain ⟨s, s1, u, u1, k1, k2, k3, k4⟩ := h2 x x1 x2
  obtain ⟨u', u1', v, v1, m1, m2, m3, m4⟩ := g2 x x1 x2
  have e1 := hq.at u1 k2.1 k2.2
  have e2 := hq.at u1' m1.1 m1.2
  rw [e1] at e2
  have : u = u' := congrArg Prod.fst e2
  subst this
  exact ⟨s, s1, v, v1, k1, m2, by omega, by omega⟩
theorem Lim_low {a b : Int} {p : List T_api_Segment} (h : p = [] ∨ Cont a p b) (f t sp : Int) : Low a b p (Lim p f t sp) := by
  rcases h with rfl | h
  · exact .inl (Lim_nil f t sp)
  unfold Lim
  split
  · rename_i hp
    refine .inr ⟨limS_cont f t hp.2.1 h, fun x x1 x2 => ?_⟩
    obtain ⟨s, s1, s2⟩ := h.ex x1 x2
    obtain ⟨i, hi⟩ := List.getElem?_of_mem s1
    obtain ⟨u, u1, u2⟩ := (limG_cont (hp.1.ok hi) f t hp.2.1).ex s2.1 s2.2
    have := limG_mem u1
    exact ⟨s, s1, u, List.mem_flatMap.2 ⟨s, s1, u1⟩, s2, u2, this.2.2.1, this.2.2.2⟩
  · exact .inl rfl
theorem Low.cont {a b : Int} {p q : List T_api_Segment} (h : Low a b p q) : q = [] ∨ Cont a q b := h.imp id fun h => h.1

def fwdE (e : T_api_Element) (s : T_api_Step) : Prop := s.In = 0 ∨ (s.In = 2 ∧ e.Kind = 3)
instance (e : T_api_Element) (s : T_api_Step) : Decidable (fwdE e s) := by unfold fwdE; exact inferInstance
def partE (e : T_api_Element) (s : T_api_Step) (B : Int) (r : T_api_Restriction) : Int × Int := if fwdE e s then (B + r.From, B + r.To) else (B + e.Length - r.To, B + e.Length - r.From)
noncomputable def stepR (l : T_api_Layout) (r : T_api_Restriction) (B : Int) (s : T_api_Step) (p : List T_api_Segment) : List T_api_Segment :=
  match l.Elements[s.El.toNat]? with
  | some e => if s.El = r.El then Lim p (partE e s B r).1 (partE e s B r).2 r.Speed else p
  | none => p
noncomputable def lowS (l : T_api_Layout) (r : T_api_Restriction) : Int → List T_api_Step → List T_api_Segment → List T_api_Segment
  | _, [], p => p
  | B, s :: w, p => lowS l r (B + lenOf l s) w (stepR l r B s p)
theorem lowS_append (l : T_api_Layout) (r : T_api_Restriction) (v : List T_api_Step) : ∀ (w : List T_api_Step) (B : Int) (p : List T_api_Segment), lowS l r B (w ++ v) p = lowS l r (B + sumL l w) v (lowS l r B w p)
  | [], B, p => by simp [lowS, sumL]
  | s :: w, B, p => by
    simp only [List.cons_append, lowS, lowS_append l r v w, sumL]
    rw [Int.add_assoc]
theorem stepR_nil (l : T_api_Layout) (r : T_api_Restriction) (B : Int) (s : T_api_Step) : stepR l r B s [] = [] := by
  unfold stepR
  split
  · split
    · exact Lim_nil _ _ _
    · rfl
  · rfl
theorem lowS_nil (l : T_api_Layout) (r : T_api_Restriction) : ∀ (w : List T_api_Step) (B : Int), lowS l r B w [] = []
  | [], _ => rfl
  | s :: w, B => by simp only [lowS, stepR_nil]; exact lowS_nil l r w _
theorem stepR_val {l : T_api_Layout} {r : T_api_Restriction} {B : Int} {s : T_api_Step} {p : List T_api_Segment} (h : PVal p) : PVal (stepR l r B s p) := by
  unfold stepR
  split
  · split
    · exact Lim_val _ _ _ _
    · exact h
  · exact h
theorem lowS_val {l : T_api_Layout} {r : T_api_Restriction} : ∀ {w : List T_api_Step} {B : Int} {p : List T_api_Segment}, PVal p → PVal (lowS l r B w p)
  | [], _, _, h => h
  | s :: w, B, p, h => lowS_val (w := w) (stepR_val h)
theorem stepR_low {l : T_api_Layout} {r : T_api_Restriction} {B : Int} {s : T_api_Step} {p : List T_api_Segment} {a b : Int} (h : p = [] ∨ Cont a p b) : Low a b p (stepR l r B s p) := by
  unfold stepR
  split
  · split
    · exact Lim_low h _ _ _
    · exact Low.refl h
  · exact Low.refl h
theorem lowS_low {l : T_api_Layout} {r : T_api_Restriction} {a b : Int} : ∀ {w : List T_api_Step} {B : Int} {p : List T_api_Segment}, PVal p → (p = [] ∨ Cont a p b) → Low a b p (lowS l r B w p)
  | [], _, _, _, h => Low.refl h
  | s :: w, B, p, hp, h =>
    (stepR_low h).trans (stepR_val hp) (lowS_low (w := w) (stepR_val hp) (stepR_low h).cont) fun e => by
      rw [show lowS l r B (s :: w) p = lowS l r (B + lenOf l s) w (stepR l r B s p) from rfl, e, lowS_nil]
def CheckP (l : T_api_Layout) (r : T_api_Restriction) : Prop :=
  (1 ≤ r.Id ∧ r.Id ≤ 1073741824) ∧ hasEl l r.El = true ∧ 0 ≤ r.From ∧ r.From < r.To ∧ r.To ≤ elLen l r.El ∧ 100 ≤ r.Speed ∧ r.Speed ≤ 10000
open Classical in
noncomputable def oneR (l : T_api_Layout) (o : Int) (w : List T_api_Step) (r : T_api_Restriction) (p : List T_api_Segment) : List T_api_Segment := if r.Active = true ∧ CheckP l r then lowS l r o w p else p
noncomputable def appS (l : T_api_Layout) (o : Int) (w : List T_api_Step) (list : List T_api_Restriction) (p : List T_api_Segment) : List T_api_Segment := list.foldl (fun q r => oneR l o w r q) p
theorem oneR_nil (l : T_api_Layout) (o : Int) (w : List T_api_Step) (r : T_api_Restriction) : oneR l o w r [] = [] := by
  unfold oneR; split
  · exact lowS_nil l r w o
  · rfl
theorem oneR_val {l : T_api_Layout} {o : Int} {w : List T_api_Step} {r : T_api_Restriction} {p : List T_api_Segment} (h : PVal p) : PVal (oneR l o w r p) := by
  unfold oneR; split
  · exact lowS_val h
  · exact h
theorem oneR_low {l : T_api_Layout} {o : Int} {w : List T_api_Step} {r : T_api_Restriction} {p : List T_api_Segment} {a b : Int} (hp : PVal p) (h : p = [] ∨ Cont a p b) : Low a b p (oneR l o w r p) := by
  unfold oneR; split
  · exact lowS_low hp h
  · exact Low.refl h
theorem appS_append (l : T_api_Layout) (o : Int) (w : List T_api_Step) (a b : List T_api_Restriction) (p : List T_api_Segment) : appS l o w (a ++ b) p = appS l o w b (appS l o w a p) := by simp [appS]
theorem appS_one (l : T_api_Layout) (o : Int) (w : List T_api_Step) (r : T_api_Restriction) (p : List T_api_Segment) : appS l o w [r] p = oneR l o w r p := rfl
theorem appS_nil (l : T_api_Layout) (o : Int) (w : List T_api_Step) : ∀ list : List T_api_Restriction, appS l o w list [] = []
  | [] => rfl
  | r :: list => by
    have := appS_nil l o w list
    simp only [appS, List.foldl_cons, oneR_nil] at this ⊢
    exact this
theorem appS_val {l : T_api_Layout} {o : Int} {w : List T_api_Step} : ∀ {list : List T_api_Restriction} {p : List T_api_Segment}, PVal p → PVal (appS l o w list p)
  | [], _, h => h
  | r :: list, p, h => appS_val (list := list) (oneR_val h)
theorem appS_low {l : T_api_Layout} {o : Int} {w : List T_api_Step} {a b : Int} : ∀ {list : List T_api_Restriction} {p : List T_api_Segment}, PVal p → (p = [] ∨ Cont a p b) → Low a b p (appS l o w list p)
  | [], _, _, h => Low.refl h
  | r :: list, p, hp, h =>
    (oneR_low hp h).trans (oneR_val hp) (appS_low (list := list) (oneR_val hp) (oneR_low hp h).cont) fun e => by
      rw [show appS l o w (r :: list) p = appS l o w list (oneR l o w r p) from rfl, e, appS_nil]

theorem gradient_eq {e : T_api_Element} (he : -50 ≤ e.Grade ∧ e.Grade ≤ 50) (s : T_api_Step) : d_profile_gradient e s = some (grdE e s) := by
  unfold d_profile_gradient grdE
  rw [w64_of (by omega) (by omega)]
  by_cases h0 : s.In = 0 <;> by_cases h2 : s.In = 2 <;> by_cases h3 : e.Kind = 3 <;> simp [h0, h2, h3]
theorem speed_eq (e : T_api_Element) (s : T_api_Step) : d_profile_speed e s = some (spdE e s) := by
  unfold d_profile_speed spdE
  by_cases h1 : e.Kind = 2 <;> by_cases h2 : s.In = 2 <;> by_cases h3 : s.Out = 2 <;> simp [h1, h2, h3]
theorem out_val {l : T_api_Layout} {o : Int} {way : List T_api_Step} {i : Nat} {s : T_api_Step} {e : T_api_Element} (hs : way[i]? = some s) (he : l.Elements[s.El.toNat]? = some e)
    (hn : ¬ (-1073741824 ≤ o + sumL l (way.take i) ∧ o + sumL l (way.take i) ≤ 1073741824)) : ¬ PVal (ofS l o way) := fun hp => by
  obtain ⟨j, hj⟩ := List.getElem?_of_mem (ofS_get (B := o) he hs)
  have := hp.ok hj
  unfold SegOK segE at this
  dsimp only at this
  omega
theorem profile_Of_eq {l : T_api_Layout} (hO : OkL l) {way : List T_api_Step} (hv : ValidP l way) {o : Int} (ho : -1073741824 ≤ o ∧ o ≤ 1073741824) : d_profile_Of l way o = some (ofP l o way) := by
  suffices Is (d_profile_Of l way o) fun r => r = ofP l o way by obtain ⟨r, h, rfl⟩ := this; exact h
  unfold d_profile_Of
  have hl := hv.2.1
  rw [decide_eq_false (by omega), cond_false]
  refine Is.fold (L := way) (mk := fun i (m : Int × List T_api_Segment) => (m.1, i, m.2)) (fun i m => m.1 = o + sumL l (way.take i) ∧ m.2 = ofS l o (way.take i)) (o, []) (by omega) (by simp [sumL, ofS]) (fun i s m hs hi hI => ?_) (fun m hI => ?_)
  · obtain ⟨B, p⟩ := m
    obtain ⟨rfl, rfl⟩ := hI
    obtain ⟨e, h1, h2, h3, h4, h5, h6⟩ := step_el hO hv hs
    have hb := sumL_bound hO hv i (by omega)
    have hlen := ofS_len l (way.take i) o
    rw [List.length_take] at hlen
    unfold d_profile_Of_0
    refine Is.inb hi (Is.at hs ?_)
    have hh := h3
    simp only [hasEl, Bool.and_eq_true, decide_eq_true_eq] at hh
    rw [decide_eq_false (show ¬ s.El < 0 by omega), decide_eq_false (show ¬ ((l.Elements.length : Nat) : Int) ≤ s.El by omega)]
    simp only [cond_false, Option.bind_some, h1, d_rail_Need_eq, h6, Bool.not_true, d_profile_coordinate]
    refine Is.ifn (p := -1073741824 ≤ o + sumL l (way.take i) ∧ o + sumL l (way.take i) ≤ 1073741824) (by simp) (fun hc => Is.val ?_) (fun hc => ?_)
    · unfold ofP; rw [if_neg (out_val hs h2 hc)]
    · rw [gradient_eq h5.2.2.1, speed_eq]
      simp only [Option.bind_some]
      have h52 := h5.2.1
      refine Is.bind (Is.app ?_) fun M hM => Is.val ⟨(o + sumL l (way.take (i + 1)), ofS l o (way.take (i + 1))), ?_, rfl, rfl⟩
      · simp only [List.length_cons, List.length_nil, sizeMax, Enc.b]; omega
      · rw [hM, take_get hs, ofS_snoc, sumL_append, w64_of (by omega) (by omega)]
        simp only [stepS, h2, segE, sumL, h4, Int.add_zero, Int.add_assoc]
  · obtain ⟨B, p⟩ := m
    obtain ⟨rfl, rfl⟩ := hI
    unfold d_profile_Of_0
    refine Is.oub (Is.val ?_)
    rw [List.take_length]
    obtain ⟨b, hb, hbi⟩ := profile_Valid_is (ofS l o way)
    show Is ((d_profile_Valid (ofS l o way)).bind _) _
    rw [hb]
    refine Is.ifn hbi (fun hc => Is.val ?_) (fun hc => Is.val ?_)
    · unfold ofP; rw [if_neg hc]
    · unfold ofP; rw [if_pos hc]

theorem limG_pieces {s : T_api_Segment} (hs : SegOK s) {f t sp : Int} (h : max s.From f < min s.To t) :
    ([⟨s.From, max s.From f, s.Grade, s.Speed⟩, ⟨max s.From f, min s.To t, s.Grade, min s.Speed sp⟩, ⟨min s.To t, s.To, s.Grade, s.Speed⟩] : List T_api_Segment).filter (fun x => decide (x.From < x.To)) = limG f t sp s := by
  unfold SegOK at hs
  unfold limG
  rw [if_pos h, cutS_one, cutS_one]
  have h2 : decide (max s.From f < min s.To t) = true := decide_eq_true h
  simp only [List.filter_cons, h2, if_true, List.filter_nil]
  by_cases c1 : s.From < max s.From f
  · have e1 : max s.From (-1073741824) = s.From := by omega
    have e2 : min s.To f = max s.From f := by omega
    by_cases c2 : min s.To t < s.To
    · have e3 : max s.From t = min s.To t := by omega
      have e4 : min s.To 1073741824 = s.To := by omega
      simp [c1, c2, clipS, e1, e2, e3, e4]
    · have e3 : ¬ max s.From t < min s.To 1073741824 := by omega
      simp only [decide_eq_false c2, decide_eq_true c1, if_neg e3, e1, e2, if_pos c1, clipS]
      simp
  · have e1 : ¬ max s.From (-1073741824) < min s.To f := by omega
    by_cases c2 : min s.To t < s.To
    · have e3 : max s.From t = min s.To t := by omega
      have e4 : min s.To 1073741824 = s.To := by omega
      simp only [decide_eq_false c1, decide_eq_true c2, if_neg e1, e3, e4, if_pos c2, clipS]
      simp
    · have e3 : ¬ max s.From t < min s.To 1073741824 := by omega
      simp only [decide_eq_false c1, decide_eq_false c2, if_neg e1, if_neg e3]
      simp
theorem profile_Limit_eq {p : List T_api_Segment} (f t sp : Int) : d_profile_Limit p f t sp = some (Lim p f t sp) := by
  suffices Is (d_profile_Limit p f t sp) fun r => r = Lim p f t sp by obtain ⟨r, h, rfl⟩ := this; exact h
  unfold d_profile_Limit
  obtain ⟨b, hb, hbi⟩ := profile_Valid_is p
  rw [hb]
  simp only [Option.bind_some]
  refine Is.ite (p := ¬ (PVal p ∧ 1 ≤ sp)) (by
    rw [← hbi]; cases b <;> simp <;> omega) (fun hc => Is.val ?_) (fun hc => ?_)
  · unfold Lim; rw [if_neg fun q => hc ⟨q.1, q.2.1⟩]
  have hc := Classical.not_not.1 hc
  have hp := hc.1
  have hpl := hp.1
  refine Is.fold (L := p) (mk := fun i (m : List T_api_Segment) => (i, m)) (fun i m => m = limS (p.take i) f t sp) [] (by omega) rfl (fun i s m hs hi hI => ?_) (fun m hI => ?_)
  · subst hI
    unfold d_profile_Limit_0
    have hlen := (limS_len f t sp (p.take i)).2
    rw [List.length_take] at hlen
    have hok := hp.ok hs
    have hsn : limS (p.take (i + 1)) f t sp = limS (p.take i) f t sp ++ limG f t sp s := by rw [take_get hs, limS_snoc]
    refine Is.inb hi ?_
    refine Is.onInl (θ := fun o => o = .inl (limS (p.take (i + 1)) f t sp)) (Is.at hs ?_) (fun v hv => Is.val ⟨limS (p.take (i + 1)) f t sp, by cases hv; rfl, rfl⟩) (fun b hb => by cases hb)
    simp only [d_profile_span_part, Option.bind_some]
    refine Is.ifn (p := max s.From f < min s.To t) dec_iff (fun hn => ?_) (fun hy => ?_)
    · refine Is.bind (Is.app ?_) fun M hM => Is.val ?_
      · simp only [List.length_cons, List.length_nil, sizeMax, Enc.b]; omega
      · rw [hM, hsn]; unfold limG; rw [if_neg hn]
    · rw [hsn, ← limG_pieces hok hy]
      generalize hL : ([⟨s.From, max s.From f, s.Grade, s.Speed⟩, ⟨max s.From f, min s.To t, s.Grade, min s.Speed sp⟩, ⟨min s.To t, s.To, s.Grade, s.Speed⟩] : List T_api_Segment) = L
      have hLl : L.length = 3 := by rw [← hL]; rfl
      have hstep : d_profile_Limit_1 sp s (⟨max s.From f, min s.To t, s.Grade, s.Speed⟩, decide (max s.From f < min s.To t)) = fun (x : List T_api_Segment × Int) => bif decide (x.2 < ((L.length : Nat) : Int)) then (onInl (α := (List T_api_Segment)) ((ixO L x.2).bind fun x188 => bif decide (x188.From < x188.To) then ((appO x.1 [x188]).bind fun x189 => some (.inl x189)) else some (.inl x.1)) fun x187 => some (.inl (x187, w64 (x.2 + 1)))) else some (.inr (.inl x.1)) := by
        rw [← hL]; rfl
      rw [hstep]
      refine Is.fold (L := L) (mk := fun j (m : List T_api_Segment) => (m, j)) (fun j m => m = limS (p.take i) f t sp ++ (L.take j).filter (fun x => decide (x.From < x.To))) (limS (p.take i) f t sp) (by omega) (by simp) (fun j u m hu hj hI => ?_) (fun m hI => ?_)
      · subst hI
        have hl2 : ((L.take j).filter (fun x => decide (x.From < x.To))).length ≤ 3 := Nat.le_trans (List.length_filter_le _ _) (by rw [List.length_take]; omega)
        refine Is.inb hj ?_
        refine Is.onInl (θ := fun o => o = .inl (limS (p.take i) f t sp ++ (L.take (j + 1)).filter (fun x => decide (x.From < x.To)))) (Is.at hu ?_) (fun v hv => Is.val ⟨_, by cases hv; rfl, rfl⟩) (fun b hb => by cases hb)
        rw [take_get hu, List.filter_append]
        refine Is.ite dec_iff (fun hq => ?_) (fun hq => Is.val ?_)
        · refine Is.bind (Is.app ?_) fun M hM => Is.val ?_
          · simp only [List.length_append, List.length_cons, List.length_nil, sizeMax, Enc.b]; omega
          · rw [hM]; simp [hq]
        · simp [hq]
      · subst hI
        refine Is.oub (Is.val ?_)
        rw [List.take_length]
        exact Is.val rfl
  · subst hI
    unfold d_profile_Limit_0
    refine Is.oub (Is.val ?_)
    rw [List.take_length]
    refine Is.ite (p := 128 < (limS p f t sp).length) (by rw [decide_eq_true_iff]; omega) (fun hq => Is.val ?_) (fun hq => Is.val ?_)
    · unfold Lim; rw [if_neg fun q => by omega]
    · unfold Lim; rw [if_pos ⟨hp, hc.2, by omega⟩]

theorem el_len {l : T_api_Layout} {i : Int} {e : T_api_Element} (he : l.Elements[i.toNat]? = some e) : elLen l i = e.Length := by simp [elLen, he]
theorem restriction_Check_is (l : T_api_Layout) (r : T_api_Restriction) : Is (d_restriction_Check l r) fun c => (c = 0 ∧ CheckP l r) ∨ (c = 1 ∧ ¬ CheckP l r) := by
  unfold d_restriction_Check
  refine Is.bind (φ := fun b => b = true ↔ ¬ ((1 ≤ r.Id ∧ r.Id ≤ 1073741824) ∧ hasEl l r.El = true)) ?_ fun b hb => Is.ite hb (fun h => Is.val (.inr ⟨rfl, fun q => h ⟨q.1, q.2.1⟩⟩)) fun h => ?_
  · refine (Is.or (p := ¬ (1 ≤ r.Id ∧ r.Id ≤ 1073741824) ∨ r.El < 0) (q := ((l.Elements.length : Nat) : Int) ≤ r.El) (by simp; omega) fun _ => Is.dec Iff.rfl).iff ?_
    simp only [hasEl, Bool.and_eq_true, decide_eq_true_eq]; omega
  obtain ⟨h1, h2⟩ := Classical.not_not.1 h
  obtain ⟨e, e1, e2⟩ := hasEl_get h2
  have hl := el_len e2
  refine Is.bind (φ := fun b => b = true ↔ ¬ (0 ≤ r.From ∧ r.From < r.To ∧ r.To ≤ e.Length)) ?_ fun b hb => Is.ite (p := ¬ (0 ≤ r.From ∧ r.From < r.To ∧ r.To ≤ e.Length ∧ 100 ≤ r.Speed ∧ r.Speed ≤ 10000)) (by
      rw [Bool.or_eq_true, Bool.or_eq_true, hb, decide_eq_true_iff, decide_eq_true_iff]; omega) (fun h => Is.val (.inr ⟨rfl, fun q => h ?_⟩)) fun h => Is.val (.inl ⟨rfl, h1, h2, ?_⟩)
  · refine (Is.or (p := r.From < 0 ∨ r.To ≤ r.From) (q := e.Length < r.To) (by simp) fun _ => ?_).iff (by omega)
    rw [e1]; exact Is.dec Iff.rfl
  · have := q.2.2; omega
  · omega
theorem fwd_iff (e : T_api_Element) (s : T_api_Step) : ((decide (s.In = 0)) || ((decide (s.In = 2)) && (decide (e.Kind = 3)))) = true ↔ fwdE e s := by simp [fwdE]
theorem lowS_at {l : T_api_Layout} {r : T_api_Restriction} {o : Int} {way : List T_api_Step} {p : List T_api_Segment} {i : Nat} {s : T_api_Step} (hs : way[i]? = some s) :
    lowS l r o (way.take (i + 1)) p = stepR l r (o + sumL l (way.take i)) s (lowS l r o (way.take i) p) := by rw [take_get hs, lowS_append]; rfl
theorem lowS_end {l : T_api_Layout} {r : T_api_Restriction} {o : Int} {way : List T_api_Step} {p : List T_api_Segment} {i : Nat} (h : lowS l r o (way.take i) p = []) : lowS l r o way p = [] := by
  have := lowS_append l r (way.drop i) (way.take i) o p
  rw [List.take_append_drop, h, lowS_nil] at this
  exact this
theorem lowered_is {l : T_api_Layout} (hO : OkL l) {way : List T_api_Step} (hv : ValidP l way) {o : Int} (ho : -1073741824 ≤ o ∧ o ≤ 1073741824) (p : List T_api_Segment) {r : T_api_Restriction} (hr : CheckP l r) :
    Is (d_restriction_lowered l way o p r) fun q => q = some (lowS l r o way p) ∨ (q = none ∧ lowS l r o way p = []) := by
  unfold d_restriction_lowered
  have hl := hv.2.1
  refine Is.fold (L := way) (mk := fun i (m : List T_api_Segment × Int) => (m.1, m.2, i)) (fun i m => m.1 = lowS l r o (way.take i) p ∧ m.2 = o + sumL l (way.take i)) (p, o) (by omega) (by simp [sumL, lowS]) (fun i s m hs hi hI => ?_) (fun m hI => ?_)
  · obtain ⟨q, B⟩ := m
    obtain ⟨rfl, rfl⟩ := hI
    obtain ⟨e, h1, h2, h3, h4, h5, h6⟩ := step_el hO hv hs
    have hb := sumL_bound hO hv i (by omega)
    have hat := lowS_at (l := l) (r := r) (o := o) (p := p) hs
    have hel := h5.2.1
    generalize hQ : lowS l r o (way.take i) p = Q at hat ⊢
    generalize hB : o + sumL l (way.take i) = B at hat ⊢
    have hB2 : -2147483648 ≤ B ∧ B ≤ 2147483648 := by omega
    have hsum : o + sumL l (way.take (i + 1)) = B + e.Length := by
      rw [take_get hs, sumL_append]; simp only [sumL, h4, Int.add_zero]; omega
    have hstep : stepR l r B s Q = if s.El = r.El then Lim Q (partE e s B r).1 (partE e s B r).2 r.Speed else Q := by simp [stepR, h2]
    unfold d_restriction_lowered_0
    refine Is.inb hi ?_
    refine Is.onInl (θ := fun z => z = .inl (lowS l r o (way.take (i + 1)) p, o + sumL l (way.take (i + 1))) ∨ (z = .inr (.inr (.inr none)) ∧ lowS l r o (way.take (i + 1)) p = [])) (Is.at hs ?_) (fun v hv => Is.val ?_) (fun b hb => ?_)
    · have hh := h3
      simp only [hasEl, Bool.and_eq_true, decide_eq_true_eq] at hh
      rw [decide_eq_false (show ¬ s.El < 0 by omega), decide_eq_false (show ¬ ((l.Elements.length : Nat) : Int) ≤ s.El by omega)]
      simp only [cond_false, Option.bind_some, h1]
      refine Is.onInl (θ := fun z => z = .inl (lowS l r o (way.take (i + 1)) p) ∨ (z = .inr (.inr (.inr (.inr none))) ∧ lowS l r o (way.take (i + 1)) p = [])) ?_ (fun v hv => Is.val ?_) (fun b hb => ?_)
      · refine Is.ite dec_iff (fun heq => ?_) (fun hne => Is.val ?_)
        · have hre : elLen l r.El = e.Length := by rw [← heq]; exact el_len h2
          obtain ⟨c1, c2, c3, c4, c5, c6⟩ := hr
          refine Is.onInl (θ := fun z => z = .inl (partE e s B r)) ?_ (fun v hv => ?_) (fun b hb => by cases hb)
          · unfold partE
            refine Is.ite (fwd_iff e s) (fun hf => Is.val ?_) (fun hf => Is.val ?_)
            · rw [if_pos hf, w64_of (by omega) (by omega), w64_of (by omega) (by omega)]
            · rw [if_neg hf, w64_of (n := B + e.Length) (by omega) (by omega), w64_of (by omega) (by omega), w64_of (by omega) (by omega)]
          · cases hv
            rw [if_pos heq] at hstep
            show Is ((d_profile_Limit Q (partE e s B r).1 (partE e s B r).2 r.Speed).bind _) _
            rw [profile_Limit_eq, ← hstep, ← hat]
            simp only [Option.bind_some]
            refine Is.onInl (θ := fun z => z = .inl () ∨ (z = .inr (.inr (.inr (.inr (.inr none)))) ∧ lowS l r o (way.take (i + 1)) p = [])) ?_ (fun v hv => Is.val ?_) (fun b hb => ?_)
            · refine Is.bind (φ := fun b => b = true → lowS l r o (way.take (i + 1)) p = []) (Is.ite dec_iff (fun hz => Is.val fun _ => List.length_eq_zero_iff.1 (by omega)) (fun _ => Is.val fun h => by cases h)) fun b hb => Is.cond (fun h => Is.val (.inr ⟨rfl, hb h⟩)) (fun h => Is.val (.inl rfl))
            · exact .inl rfl
            · rcases hb with hb | ⟨hb, hz⟩
              · cases hb
              · cases hb; exact .inr ⟨rfl, hz⟩
        · left; rw [hat, hstep, if_neg hne]
      · rcases hv with hv | ⟨hv, _⟩
        · cases hv; left; rw [hsum, w64_of (by omega) (by omega)]
        · cases hv
      · rcases hb with hb | ⟨hb, hz⟩
        · cases hb
        · cases hb; exact .inr ⟨rfl, hz⟩
    · rcases hv with hv | ⟨hv, _⟩
      · cases hv; exact ⟨(_, _), rfl, rfl, rfl⟩
      · cases hv
    · rcases hb with hb | ⟨hb, hz⟩
      · cases hb
      · cases hb; exact .inr ⟨rfl, lowS_end hz⟩
  · obtain ⟨q, B⟩ := m
    obtain ⟨rfl, rfl⟩ := hI
    unfold d_restriction_lowered_0
    refine Is.oub (Is.val ?_)
    rw [List.take_length]
    exact Is.val (.inl rfl)
theorem appS_end {l : T_api_Layout} {o : Int} {way : List T_api_Step} {p : List T_api_Segment} {list : List T_api_Restriction} {i : Nat} (h : appS l o way (list.take i) p = []) : appS l o way list p = [] := by
  have := appS_append l o way (list.take i) (list.drop i) p
  rw [List.take_append_drop, h, appS_nil] at this
  exact this
theorem restriction_Apply_eq {l : T_api_Layout} (hj : l.Joints.length ≤ 1048576) (hO : OkL l) {way : List T_api_Step} (hv : ValidP l way) {o : Int} (ho : -1073741824 ≤ o ∧ o ≤ 1073741824) {p : List T_api_Segment} (hp : PVal p) {list : List T_api_Restriction} (hl : list.length ≤ 1048576) :
    d_restriction_Apply list way o l p = some (appS l o way list p) := by
  suffices Is (d_restriction_Apply list way o l p) fun r => r = appS l o way list p by obtain ⟨r, h, rfl⟩ := this; exact h
  unfold d_restriction_Apply d_slices_Clone_api_Segment
  have hpl := hp.1
  have hvl := hv.2.1
  obtain ⟨M, hM, hM2⟩ := Is.app (L := ([] : List T_api_Segment)) (ys := p) (by simp only [List.length_nil, sizeMax, Enc.b]; omega)
  rw [hM]
  simp only [List.nil_append] at hM2
  subst hM2
  obtain ⟨b, hb, hbi⟩ := profile_Valid_is M
  obtain ⟨c, hc, hci⟩ := walk_Valid_is l way hj (by omega)
  rw [hb, hc, hbi.2 hp, hci.2 hv, decide_eq_false (show ¬ o < -1073741824 by omega), decide_eq_false (show ¬ 1073741824 < o by omega)]
  simp only [Option.bind_some, Bool.not_true, cond_false, Bool.or_self]
  refine Is.fold (L := list) (mk := fun i (m : List T_api_Segment) => (i, m)) (fun i m => m = appS l o way (list.take i) M) M (by omega) rfl (fun i r m hr hi hI => ?_) (fun m hI => ?_)
  · subst hI
    unfold d_restriction_Apply_0
    have hat : appS l o way (list.take (i + 1)) M = oneR l o way r (appS l o way (list.take i) M) := by rw [take_get hr, appS_append, appS_one]
    refine Is.inb hi ?_
    refine Is.onInl (θ := fun z => z = .inl (appS l o way (list.take (i + 1)) M) ∨ (z = .inr (.inr (.inr [])) ∧ appS l o way (list.take (i + 1)) M = [])) (Is.at hr ?_) (fun v hv => Is.val ?_) (fun b hb => ?_)
    · refine Is.bind (φ := fun b => b = true ↔ r.Active = true ∧ CheckP l r) (Is.and Iff.rfl fun _ => Is.bind (restriction_Check_is l r) fun c hc => Is.dec ?_) fun b hb => ?_
      · rcases hc with ⟨rfl, hc⟩ | ⟨rfl, hc⟩
        · exact iff_of_true rfl hc
        · exact iff_of_false (by omega) hc
      · refine Is.ite hb (fun hy => ?_) (fun hn => Is.val ?_)
        · obtain ⟨q, hq, hq2⟩ := lowered_is hO hv ho (appS l o way (list.take i) M) hy.2
          unfold panB
          rw [hq]
          have e1 : appS l o way (list.take (i + 1)) M = lowS l r o way (appS l o way (list.take i) M) := by rw [hat]; unfold oneR; rw [if_pos hy]
          rcases hq2 with rfl | ⟨rfl, hz⟩
          · exact Is.val (.inl (by rw [e1]))
          · exact Is.val (.inr ⟨rfl, by rw [e1]; exact hz⟩)
        · left; rw [hat]; unfold oneR; rw [if_neg hn]
    · rcases hv with hv | ⟨hv, _⟩
      · cases hv; exact ⟨_, rfl, rfl⟩
      · cases hv
    · rcases hb with hb | ⟨hb, hz⟩
      · cases hb
      · cases hb; exact (appS_end hz).symm
  · subst hI
    unfold d_restriction_Apply_0
    refine Is.oub (Is.val ?_)
    rw [List.take_length]
    exact Is.val rfl
end PM
