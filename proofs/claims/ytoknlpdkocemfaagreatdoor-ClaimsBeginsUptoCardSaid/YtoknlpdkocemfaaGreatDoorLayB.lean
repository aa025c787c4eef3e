/-
  PLAIN, LAYOUT B: the conditions of a layout, and what the program's tests come to.
-/
import Derived.Test.YtoknlpdkocemfaaGreatDoorLayA
import Derived.Test.YtoknlpdkocemfaaGreatDoorPlA
namespace PM
open Go Go.RowKit

def CountsP (l : T_api_Layout) : Prop := 1 ≤ l.Elements.length ∧ l.Elements.length ≤ 32 ∧ 1 ≤ l.Sections.length ∧ l.Sections.length ≤ 24 ∧ l.Signals.length ≤ 20 ∧ l.Balises.length ≤ 24
def NamesP (l : T_api_Layout) : Prop := NameP l.Name ∧ (∀ s ∈ l.Sections, NameP s) ∧ (∀ s ∈ l.Elements.map (·.Name), NameP s) ∧ (∀ s ∈ l.Signals.map (·.Name), NameP s)
def DistP (l : T_api_Layout) : Prop := l.Sections.Nodup ∧ (l.Elements.map (·.Name)).Nodup ∧ (l.Signals.map (·.Name)).Nodup
def RightP (l : T_api_Layout) (x : T_api_Element) : Prop :=
  (1 ≤ x.Kind ∧ x.Kind ≤ 3) ∧ (500 ≤ x.Length ∧ x.Length ≤ 1000000) ∧ (-50 ≤ x.Grade ∧ x.Grade ≤ 50) ∧ (100 ≤ x.Speed ∧ x.Speed ≤ 10000) ∧ (0 ≤ x.Section ∧ x.Section < (l.Sections.length : Nat)) ∧
    (x.Kind = 2 → 100 ≤ x.Slow ∧ x.Slow ≤ x.Speed) ∧ (x.Kind ≠ 2 → x.Slow = 0)
def UsedP (l : T_api_Layout) : Prop := ∀ s, s < l.Sections.length → ∃ x ∈ l.Elements, x.Section = (s : Nat)
def ElemP (l : T_api_Layout) : Prop := (∀ x ∈ l.Elements, RightP l x) ∧ UsedP l
def JointP (l : T_api_Layout) : Prop := ∀ j ∈ l.Joints, exS l j.A = true ∧ exS l j.B = true ∧ j.A ≠ j.B
def SigP (l : T_api_Layout) : Prop := ∀ s ∈ l.Signals, exS l s.At = true ∧ 0 ≤ s.Overlap ∧ s.Overlap ≤ 1000000
def secE (l : T_api_Layout) (i : Int) : Int := bif hasEl l i then ((l.Elements[i.toNat]?).map (·.Section)).getD (-1) else -1
def SafeP (l : T_api_Layout) : Prop := ∀ s ∈ l.Signals, (joinS l s.At).2 = true ∧ secE l (joinS l s.At).1.El ≠ secE l s.At.El
def elLen (l : T_api_Layout) (i : Int) : Int := ((l.Elements[i.toNat]?).map (·.Length)).getD 0
def BalP (l : T_api_Layout) : Prop := ∀ b ∈ l.Balises, 1 ≤ b.Id ∧ b.Id ≤ 1073741824 ∧ hasEl l b.El = true ∧ 0 ≤ b.Offset ∧ b.Offset ≤ elLen l b.El
open Classical in
noncomputable def chk (l : T_api_Layout) : Int :=
  if ¬ CountsP l then 2 else if ¬ NamesP l then 3 else if ¬ DistP l then 8 else if ¬ ElemP l then 1 else if ¬ JointP l then 1 else if ¬ (endsOf l.Joints).Nodup then 8 else
  if ¬ SigP l then 1 else if ¬ (l.Signals.map (·.At)).Nodup then 8 else if ¬ SafeP l then 14 else if ¬ BalP l then 1 else if ¬ (l.Balises.map (·.Id)).Nodup then 8 else 0

theorem cond_some {b x y : Bool} : (bif b then some x else some y) = some (bif b then x else y) := by cases b <;> rfl
theorem lwithin_eq (a b c : Int) : d_layout_within a b c = some (decide (b ≤ a ∧ a ≤ c)) := by simp [d_layout_within]
theorem countsFit_is (l : T_api_Layout) : Is (d_layout_countsFit l) fun b => b = true ↔ CountsP l := by
  unfold d_layout_countsFit
  simp only [lwithin_eq, Option.bind_some, cond_some, Bool.cond_false_right]
  exact Is.val (by simp [CountsP]; omega)
theorem ref05_Name_val (s : ByteArray) (h : s.size ≤ 1048576) : Is (d_ref05_Name s) fun b => b = true ↔ NameP s := by
  unfold d_ref05_Name
  refine Is.onInl (θ := fun o => match o with | .inl _ => ∀ k (hk : k < s.size), okB k (s[k]'hk).toNat | .inr b => b = false ∧ ¬ NameP s) ?_ (fun _ hv => Is.val ?_) (fun b hb => show b = true ↔ NameP s from ?_)
  · refine Is.loop (mk := fun (i : Nat) (_ : Unit) => (i : Int)) s.size (fun i _ => ∀ k (hk : k < s.size), k < i → okB k (s[k]'hk).toNat) () (fun k hk hi => by omega) ?_ ?_
    · rintro i m hi hI
      unfold d_ref05_Name_0
      refine Is.inb hi ?_
      obtain ⟨c, hc, rfl⟩ := Is.six hi
      simp only [hc, Option.bind_some, cond_some, Bool.cond_false_right, Bool.cond_true_left]
      refine Is.ite (p := ¬ okB i (s[i]'hi).toNat) (by simp [okB]; omega) (fun hn => Is.val ⟨rfl, fun hN => hn (hN.2.2 i hi)⟩) (fun hn => Is.val ⟨(), by rw [w64n (by omega)], fun k hk hki => ?_⟩)
      by_cases e : k = i
      · subst e; exact Classical.not_not.1 hn
      · exact hI k hk (by omega)
    · rintro m hI
      unfold d_ref05_Name_0
      exact Is.oub (Is.val fun k hk => hI k hk hk)
  · have hv : ∀ k (hk : k < s.size), okB k (s[k]'hk).toNat := hv
    simp only [Bool.and_eq_true, decide_eq_true_eq, NameP]
    constructor
    · rintro ⟨h1, h2⟩; exact ⟨by omega, by omega, hv⟩
    · rintro ⟨h1, h2, _⟩; exact ⟨by omega, by omega⟩
  · have hb : b = false ∧ ¬ NameP s := hb
    rw [hb.1]
    exact ⟨fun e => absurd e Bool.false_ne_true, fun e => absurd e hb.2⟩
theorem names_in_is (L : List ByteArray) (hL : L.length ≤ 1048576) (hs : ∀ s ∈ L, s.size ≤ 1048576) (K : Unit → Option (Int ⊕ (Unit ⊕ Int))) {ψ : Int ⊕ (Unit ⊕ Int) → Prop}
    (h1 : (∀ s ∈ L, NameP s) → Is (K ()) ψ) (h2 : ¬ (∀ s ∈ L, NameP s) → ψ (.inr (.inr 3))) : Is (onInl (loopO (d_layout_checkNames_3 L) 0) K) ψ := by
  refine Is.all (fun _ s => NameP s) () (by omega) (fun i x hx hi _ => ?_) ?_ (fun h => h1 (mem_iff_get.1 h))
  · unfold d_layout_checkNames_3
    refine Is.inb hi (Is.at hx (Is.bind (words_Name_is x (hs x (List.mem_of_getElem? hx))) fun r hr => ?_))
    exact Is.ifn hr (fun hn => Is.val (h2 fun e => hn (e x (List.mem_of_getElem? hx)))) (fun hy => Is.val ⟨rfl, hy⟩)
  · simp [d_layout_checkNames_3]
theorem seen_in_is (L : List ByteArray) (hL : L.length ≤ 1048576) (K : Unit → Option (Int ⊕ (Unit ⊕ Int))) {ψ : Int ⊕ (Unit ⊕ Int) → Prop}
    (h1 : L.Nodup → Is (K ()) ψ) (h2 : ¬ L.Nodup → ψ (.inr (.inr 8))) : Is (onInl (loopO (d_layout_checkNames_5 L) (0, ([] : List (ByteArray × Bool)))) K) ψ := by
  refine Is.fold (L := L) (mk := fun i m => (i, m)) (fun i m => (∀ k, (mget m k).getD false = true ↔ k ∈ L.take i) ∧ (L.take i).Nodup) [] (by omega) ⟨fun k => by simp [mget_nil], by simp⟩ (fun i x m hx hi hI => ?_) (fun m hI => ?_)
  · unfold d_layout_checkNames_5
    refine Is.inb hi (Is.at hx ?_)
    refine Is.ite (hI.1 x) (fun hm => Is.val (h2 fun hn => ?_)) (fun hm => Is.val ⟨_, rfl, ?_, ?_⟩)
    · obtain ⟨j, hj, e⟩ := List.mem_iff_getElem.1 hm
      rw [List.getElem_take] at e
      have hj2 : j < i := by rw [List.length_take] at hj; omega
      obtain ⟨h3, h4⟩ := List.getElem?_eq_some_iff.1 hx
      exact List.pairwise_iff_getElem.1 hn j i (by omega) h3 hj2 (e.trans h4.symm)
    · rw [take_get hx]; exact seen_snoc hI.1 x
    · rw [take_get hx, nodup_snoc']; exact ⟨hI.2, hm⟩
  · unfold d_layout_checkNames_5
    refine Is.oub (Is.val (h1 ?_))
    have := hI.2; rwa [List.take_length] at this
theorem checkNames_is {l : T_api_Layout} (h : Sm l) : Is (d_layout_checkNames l) fun e => (¬ NamesP l ∧ e = 3) ∨ (NamesP l ∧ ¬ DistP l ∧ e = 8) ∨ (NamesP l ∧ DistP l ∧ e = 0) := by
  have g1 := h.sec; have g2 := h.el; have g3 := h.sg
  unfold d_layout_checkNames
  refine Is.bind (Is.mk (by simp only [sizeMax, Enc.b]; omega)) fun x1 hx1 => ?_
  subst hx1
  refine Is.fold (L := l.Elements) (mk := fun i m => (m, i)) (fun i m => m = (l.Elements.take i).map (·.Name)) [] (by omega) rfl (fun i x m hx hi hI => ?_) (fun m hI => ?_)
  · subst hI
    unfold d_layout_checkNames_0
    refine Is.inb hi (Is.at hx ?_)
    refine Is.bind (Is.app (by simp only [List.length_map, List.length_take, List.length_cons, List.length_nil, sizeMax, Enc.b]; omega)) fun M hM => ?_
    subst hM
    exact Is.val ⟨_, rfl, by rw [take_get hx]; simp⟩
  unfold d_layout_checkNames_0
  refine Is.oub (Is.val ?_)
  rw [List.take_length] at hI; subst hI
  refine Is.bind (Is.mk (by simp only [sizeMax, Enc.b]; omega)) fun x1 hx1 => ?_
  subst hx1
  refine Is.fold (L := l.Signals) (mk := fun i m => (m, i)) (fun i m => m = (l.Signals.take i).map (·.Name)) [] (by omega) rfl (fun i x m hx hi hI => ?_) (fun m hI => ?_)
  · subst hI
    unfold d_layout_checkNames_1
    refine Is.inb hi (Is.at hx ?_)
    refine Is.bind (Is.app (by simp only [List.length_map, List.length_take, List.length_cons, List.length_nil, sizeMax, Enc.b]; omega)) fun M hM => ?_
    subst hM
    exact Is.val ⟨_, rfl, by rw [take_get hx]; simp⟩
  unfold d_layout_checkNames_1
  refine Is.oub (Is.val ?_)
  rw [List.take_length] at hI; subst hI
  have hsz : ∀ L ∈ [[l.Name], l.Sections, l.Elements.map (·.Name), l.Signals.map (·.Name)], L.length ≤ 1048576 ∧ ∀ s ∈ L, s.size ≤ 1048576 := by
    intro L hL
    simp only [List.mem_cons, List.not_mem_nil, or_false] at hL
    rcases hL with rfl | rfl | rfl | rfl
    · exact ⟨by simp, fun s hs => by simp at hs; rw [hs]; exact h.nm⟩
    · exact ⟨g1, h.secn⟩
    · refine ⟨by simpa using g2, fun s hs => ?_⟩
      obtain ⟨x, hx, rfl⟩ := List.mem_map.1 hs
      exact h.eln x hx
    · refine ⟨by simpa using g3, fun s hs => ?_⟩
      obtain ⟨x, hx, rfl⟩ := List.mem_map.1 hs
      exact h.sgn x hx
  have hN : (∀ L ∈ [[l.Name], l.Sections, l.Elements.map (·.Name), l.Signals.map (·.Name)], ∀ s ∈ L, NameP s) ↔ NamesP l := by
    simp only [List.mem_cons, List.not_mem_nil, or_false, forall_eq_or_imp, forall_eq, NamesP]
  have hD : (∀ L ∈ [[l.Name], l.Sections, l.Elements.map (·.Name), l.Signals.map (·.Name)], L.Nodup) ↔ DistP l := by
    simp only [List.mem_cons, List.not_mem_nil, or_false, forall_eq_or_imp, forall_eq, DistP]
    simp
  refine Is.all (L := [[l.Name], l.Sections, l.Elements.map (·.Name), l.Signals.map (·.Name)]) (fun _ L => ∀ s ∈ L, NameP s) () (by simp) (fun i x hx hi _ => ?_) ?_ (fun hn => ?_)
  · unfold d_layout_checkNames_2
    refine Is.inb hi (Is.at hx ?_)
    have hm := List.mem_of_getElem? hx
    exact names_in_is x (hsz x hm).1 (hsz x hm).2 _ (fun hy => Is.val ⟨rfl, hy⟩) (fun hn => .inl ⟨fun e => hn (hN.2 e x hm), rfl⟩)
  · simp [d_layout_checkNames_2]
  have hn : NamesP l := hN.1 (mem_iff_get.1 hn)
  refine Is.all (L := [[l.Name], l.Sections, l.Elements.map (·.Name), l.Signals.map (·.Name)]) (fun _ L => L.Nodup) () (by simp) (fun i x hx hi _ => ?_) ?_ (fun hd => ?_)
  · unfold d_layout_checkNames_4
    refine Is.inb hi (Is.at hx ?_)
    have hm := List.mem_of_getElem? hx
    exact seen_in_is x (hsz x hm).1 _ (fun hy => Is.val ⟨rfl, hy⟩) (fun hq => .inr (.inl ⟨hn, fun e => hq (hD.2 e x hm), rfl⟩))
  · simp [d_layout_checkNames_4]
  exact Is.val (.inr (.inr ⟨hn, hD.1 (mem_iff_get.1 hd), rfl⟩))
end PM
