/-
  PLAIN, LAYOUT B: the conditions of a layout, and what the program's tests come to.
-/
import Derived.Test.YtcobolgkboknbaaDoorLayA
import Derived.Test.YtcobolgkboknbaaDoorPlA
namespace PM
open Go Go.RowKit

def CountsP (l : T_api_Layout) : Prop := 1 ≤ l.Elements.length ∧ l.Elements.length ≤ 32 ∧ 1 ≤ l.Sections.length ∧ l.Sections.length ≤ 24 ∧ l.Signals.length ≤ 20 ∧ l.Balises.length ≤ 24
def NamesP (l : T_api_Layout) : Prop := NameP l.Name ∧ (∀ s ∈ l.Sections, NameP s) ∧ (∀ s ∈ l.Elements.map (·.Name), NameP s) ∧ (∀ s ∈ l.Signals.map (·.Name), NameP s)
def DistP (l : T_api_Layout) : Prop := l.Sections.Nodup ∧ (l.Elements.map (·.Name)).Nodup ∧ (l.Signals.map (·.Name)).Nodup
def RightP (l : T_api_Layout) (x : T_api_Element) : Prop :=
  (1 ≤ x.Kind ∧ x.Kind ≤ 3) ∧ (500 ≤ x.Length ∧ x.Length ≤ 1000000) ∧ (-50 ≤ x.Grade ∧ x.Grade ≤ 50) ∧ (100 ≤ x.Speed ∧ x.Speed ≤ 10000) ∧ (0 ≤ x.Section ∧ x.Section < (l.Sections.length : Nat)) ∧
    (x.Kind = 2 → 100 ≤ x.Slow ∧ x.Slow ≤ x.Speed) ∧ (x.Kind ≠ 2 → x.Slow = 0)
def UsedP (l : T_api_Layout) : Prop := ∀ s, s < l.Sections.length → ∃ x ∈ l.Elements, x.Section = (s : Nat)
def ElemP (l : T_api_Layout) : Prop := (∀ x ∈ l.Elements, RightP l x) ∧ UsedP l
def JointP (l : T_api_Layout) : Prop := ∀ j ∈ l.Joints, exS l j.A = true ∧ exS l j.B = true ∧ j.A ≠ j.B
def SigP (l : T_api_Layout) : Prop := ∀ s ∈ l.Signals, exS l s.At = true ∧ 0 ≤ s.Overlap ∧ s.Overlap ≤ 1000000
def secE (l : T_api_Layout) (i : Int) : Int := bif hasEl l i then ((l.Elements[i.toNat]?).map (·.Section)).getD (-1) else -1
def SafeP (l : T_api_Layout) : Prop := ∀ s ∈ l.Signals, (joinS l s.At).2 = true ∧ secE l (joinS l s.At).1.El ≠ secE l s.At.El
def elLen (l : T_api_Layout) (i : Int) : Int := ((l.Elements[i.toNat]?).map (·.Length)).getD 0
def BalP (l : T_api_Layout) : Prop := ∀ b ∈ l.Balises, 1 ≤ b.Id ∧ b.Id ≤ 1073741824 ∧ hasEl l b.El = true ∧ 0 ≤ b.Offset ∧ b.Offset ≤ elLen l b.El
open Classical in
noncomputable def chk (l : T_api_Layout) : Int :=
  if ¬ CountsP l then 2 else if ¬ NamesP l then 3 else if ¬ DistP l then 8 else if ¬ ElemP l then 1 else if ¬ JointP l then 1 else if ¬ (endsOf l.Joints).Nodup then 8 else
  if ¬ SigP l then 1 else if ¬ (l.Signals.map (·.At)).Nodup then 8 else if ¬ SafeP l then 14 else if ¬ BalP l then 1 else if ¬ (l.Balises.map (·.Id)).Nodup then 8 else 0

theorem cond_some {b x y : Bool} : (bif b then some x else some y) = some (bif b then x else y) := by cases b <;> rfl
theorem ref05_Name_val (s : ByteArray) (h : s.size ≤ 1048576) : Is (d_ref05_Name s) fun b => b = true ↔ NameP s := by
  unfold d_ref05_Name
  refine Is.onInl (θ := fun o => match o with | .inl _ => ∀ k (hk : k < s.size), okB k (s[k]'hk).toNat | .inr b => b = false ∧ ¬ NameP s) ?_ (fun _ hv => Is.val ?_) (fun b hb => show b = true ↔ NameP s from ?_)
  · refine Is.loop (mk := fun (i : Nat) (_ : Unit) => (i : Int)) s.size (fun i _ => ∀ k (hk : k < s.size), k < i → okB k (s[k]'hk).toNat) () (fun k hk hi => by omega) ?_ ?_
    · rintro i m hi hI
      unfold d_ref05_Name_0
      refine Is.inb hi ?_
      obtain ⟨c, hc, rfl⟩ := Is.six hi
      simp only [hc, Option.bind_some, cond_some, Bool.cond_false_right, Bool.cond_true_left]
      refine Is.ite (p := ¬ okB i (s[i]'hi).toNat) (by simp [okB]; omega) (fun hn => Is.val ⟨rfl, fun hN => hn (hN.2.2 i hi)⟩) (fun hn => Is.val ⟨(), by rw [w64n (by omega)], fun k hk hki => ?_⟩)
      by_cases e : k = i
      · subst e; exact Classical.not_not.1 hn
      · exact hI k hk (by omega)
    · rintro m hI
      unfold d_ref05_Name_0
      exact Is.oub (Is.val fun k hk => hI k hk hk)
  · have hv : ∀ k (hk : k < s.size), okB k (s[k]'hk).toNat := hv
    simp only [Bool.and_eq_true, decide_eq_true_eq, NameP]
    constructor
    · rintro ⟨h1, h2⟩; exact ⟨by omega, by omega, hv⟩
    · rintro ⟨h1, h2, _⟩; exact ⟨by omega, by omega⟩
  · have hb : b = false ∧ ¬ NameP s := hb
    rw [hb.1]
    exact ⟨fun e => absurd e Bool.false_ne_true, fun e => absurd e hb.2⟩
end PM
