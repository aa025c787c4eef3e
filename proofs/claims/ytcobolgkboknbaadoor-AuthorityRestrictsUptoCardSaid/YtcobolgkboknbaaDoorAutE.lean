/-
  PLAIN, AUTHORITY E: the laws AuthorityBuilds, AuthorityCovers, AuthorityRestricts.
-/
import Derived.Test.YtcobolgkboknbaaDoorAutD
namespace PM
open Go Go.RowKit

theorem modest_is (k : T_api_Track) (list : List T_api_Restriction) : Is (d_law45_modest k list) fun b => b = true → k.Steps.length ≤ 100 ∧ list.length ≤ 100 := by
  unfold d_law45_modest
  simp only [Option.bind_some, cond_some', Bool.cond_false_right]
  refine Is.val fun hb => ?_
  simp only [Bool.and_eq_true, decide_eq_true_eq] at hb
  omega
theorem fine_is {l : T_api_Layout} (h : Sm l) (k : T_api_Track) : Is (d_law45_fine l k) fun b => b = true → OkL l ∧ -1073741824 ≤ k.Origin ∧ k.Origin ≤ 1073741824 := by
  unfold d_law45_fine
  rw [ref07_Check_eq h]
  refine Is.val fun hb => ?_
  simp only [Bool.and_eq_true, decide_eq_true_eq] at hb
  exact ⟨(chk_ok l).1 hb.1.1.1.1, hb.1.1.1.2, hb.1.1.2⟩
theorem gate_is {l : T_api_Layout} (h : Sm l) (k : T_api_Track) (list : List T_api_Restriction) {β : Type} {f : Bool → Option β} {ψ : β → Prop} (h1 : Is (f true) ψ)
    (h2 : k.Steps.length ≤ 100 → list.length ≤ 100 → OkL l → (-1073741824 ≤ k.Origin ∧ k.Origin ≤ 1073741824) → Is (f false) ψ) :
    Is ((d_law45_modest k list).bind fun r1 => ((bif (!r1) then some true else ((d_law45_fine l k).bind fun r3 => some (!r3))) : Option Bool).bind f) ψ := by
  refine (modest_is k list).bind fun r1 hr1 => ?_
  cases r1 with
  | false => exact h1
  | true =>
    simp only [Bool.not_true, cond_false]
    obtain ⟨r3, e3, h3⟩ := fine_is h k
    rw [e3]
    cases r3 with
    | false => exact h1
    | true => exact h2 (hr1 rfl).1 (hr1 rfl).2 (h3 rfl).1 (h3 rfl).2
theorem alive_is : Is (d_law45_alive.bind fun r => some r) fun r => r = true := by rw [law45_alive_eq]; exact Is.val rfl
theorem alive_is2 {b : Bool} (h : b = true) : Is (((bif b then (d_law45_alive.bind fun r => some r) else some false) : Option Bool).bind fun c => some c) fun r => r = true := by
  subst h; rw [law45_alive_eq]; exact Is.val rfl
theorem authorityBuilds_law {l : T_api_Layout} (h : Sm l) (k : T_api_Track) (list : List T_api_Restriction) (seq : Int) : d_law45_AuthorityBuilds l k list seq = some true := by
  suffices Is (d_law45_AuthorityBuilds l k list seq) fun r => r = true by obtain ⟨r, h, rfl⟩ := this; exact h
  unfold d_law45_AuthorityBuilds
  refine gate_is h k list alive_is fun hs hl hO ho => ?_
  obtain ⟨r, e1, e2, q1, q2, _⟩ := build_is h hO hs ho (list := list) (by omega) seq
  obtain ⟨b, hb, hbi⟩ := ref45_Same_is (a := r.1) (b := r.1) (by omega) (by omega)
  rw [e1, e2]
  simp only [cond_false, Option.bind_some]
  rw [hb]
  exact alive_is2 (by simp [hbi.2 rfl])

theorem Cont.inside : ∀ {p : List T_api_Segment} {a b : Int}, Cont a p b → ∀ {s : T_api_Segment}, s ∈ p → a ≤ s.From ∧ s.To ≤ b
  | [], _, _, _, s, h => by simp at h
  | u :: p, a, b, hc, s, h => by
    have h1 := hc.1; have h2 := hc.2.1.2.1
    rcases List.mem_cons.1 h with rfl | h
    · have := Cont.mem_le hc.2.2; omega
    · have := Cont.inside hc.2.2 h; omega
theorem cut_facts {a b at' : Int} {q : List T_api_Segment} (hc : q = [] ∨ Cont a q b) (h : ∃ y, (cutS q a at')[(cutS q a at').length - 1]? = some y ∧ y.To = at') :
    q ≠ [] ∧ a < at' ∧ at' ≤ b ∧ Cont a (cutS q a at') at' := by
  obtain ⟨y, hy, e⟩ := h
  have hm := List.mem_of_getElem? hy
  unfold cutS at hm
  obtain ⟨s, s1, s2⟩ := List.mem_map.1 hm
  obtain ⟨s3, s4⟩ := List.mem_filter.1 s1
  have s5 := of_decide_eq_true s4
  have hne : q ≠ [] := fun e => by subst e; simp at s3
  have hc := hc.resolve_left hne
  have hin := hc.inside s3
  have e2 : min s.To at' = at' := by rw [← e, ← s2]; simp [clipS]
  exact ⟨hne, by omega, by omega, hc.cut (Int.le_refl _) (by omega) (by omega)⟩
theorem mem_cut {q : List T_api_Segment} {a b x : Int} {u : T_api_Segment} (hu : u ∈ q) (h1 : u.From ≤ x ∧ x < u.To) (h2 : a ≤ x ∧ x < b) : clipS a b u ∈ cutS q a b ∧ ((clipS a b u).From ≤ x ∧ x < (clipS a b u).To) ∧ (clipS a b u).Grade = u.Grade ∧ (clipS a b u).Speed = u.Speed := by
  refine ⟨?_, by simp only [clipS]; omega, rfl, rfl⟩
  unfold cutS
  exact List.mem_map.2 ⟨u, List.mem_filter.2 ⟨hu, decide_eq_true (by omega)⟩, rfl⟩
theorem below_of {a b : Int} {p q : List T_api_Segment} (hp : PVal p) (hq : PVal q) (hc : Cont a p b) (hlt : a < b)
    (hag : ∀ x, a ≤ x → x < b → ∃ u ∈ p, ∃ s ∈ q, (u.From ≤ x ∧ x < u.To) ∧ (s.From ≤ x ∧ x < s.To) ∧ u.Grade = s.Grade ∧ u.Speed ≤ s.Speed) : d_law45_below p q = some true := by
  have hne : 0 < p.length := by
    cases p with
    | nil => have : a = b := hc; omega
    | cons s p => simp
  have hf : p[0]? = some p[0] := List.getElem?_eq_getElem hne
  have hl : p[p.length - 1]? = some p[p.length - 1] := List.getElem?_eq_getElem (by omega)
  refine below_true hp hq hf hl fun x h1 h2 => ?_
  rw [hc.first hf] at h1
  rw [hc.last hl] at h2
  obtain ⟨u, u1, s, s1, k1, k2, k3, k4⟩ := hag x h1 h2
  exact ⟨u, s, hp.at u1 k1.1 k1.2, hq.at s1 k2.1 k2.2, k1.2, k2.2, k3, k4⟩
theorem ofP_cont {l : T_api_Layout} (hO : OkL l) {way : List T_api_Step} (hv : ValidP l way) (o : Int) : ofP l o way = [] ∨ Cont o (ofP l o way) (o + sumL l way) := by
  unfold ofP
  split
  · rename_i hp
    right
    refine ofS_cont (fun s hs => ?_) hp
    obtain ⟨i, hi⟩ := List.getElem?_of_mem hs
    obtain ⟨e, _, h2, _, h4, _⟩ := step_el hO hv hi
    exact ⟨e, h2, h4⟩
  · exact .inl rfl
theorem proS_low {l : T_api_Layout} (hO : OkL l) {k : T_api_Track} (hv : ValidP l k.Steps) (list : List T_api_Restriction) : Low k.Origin (k.Origin + sumL l k.Steps) (ofP l k.Origin k.Steps) (proS l k list) :=
  appS_low (ofP_val _ _ _) (ofP_cont hO hv _)
theorem authorityCovers_law {l : T_api_Layout} (h : Sm l) (k : T_api_Track) (list : List T_api_Restriction) (seq : Int) : d_law45_AuthorityCovers l k list seq = some true := by
  suffices Is (d_law45_AuthorityCovers l k list seq) fun r => r = true by obtain ⟨r, h, rfl⟩ := this; exact h
  unfold d_law45_AuthorityCovers
  refine gate_is h k list alive_is fun hs hl hO ho => ?_
  obtain ⟨r, e1, _, q1, q2, hr⟩ := build_is h hO hs ho (list := list) (by omega) seq
  rw [e1]
  simp only [cond_false, Option.bind_some]
  rcases hr with ⟨z1, z2⟩ | ⟨hv, z2, M, m1, z1, hA, m2, m3⟩
  · rcases z2 with z2 | z2 <;> rw [z1, z2] <;> exact alive_is2 rfl
  obtain ⟨hne, hlt, hle, hc⟩ := cut_facts (proS_low hO hv list).cont (by have := hA.2.1; rw [z1] at this; exact this)
  have hpv : PVal (cutS (proS l k list) k.Origin k.At) := by have := hA.1.2; rw [z1] at this; exact this
  have hM : M.length ≤ 24 := by rw [z1] at q2; exact q2
  have hkl : (cutS (proS l k list) k.Origin k.At).length ≤ 128 := hpv.1
  rw [z1, z2]
  dsimp only
  generalize hC : cutS (proS l k list) k.Origin k.At = C at hpv hc hkl
  have hCne : 0 < C.length := by
    cases C with
    | nil => have : k.Origin = k.At := hc; omega
    | cons s p => simp
  have hf : C[0]? = some C[0] := List.getElem?_eq_getElem hCne
  have hla : C[C.length - 1]? = some C[C.length - 1] := List.getElem?_eq_getElem (by omega)
  rw [decide_eq_false (show ¬ ((C.length : Nat) : Int) = 0 by omega), decide_eq_true (show seq = seq from rfl), decide_eq_true (show k.At = k.At from rfl), decide_eq_true (show (0 : Int) = 0 from rfl)]
  simp only [Bool.not_true, Bool.or_self, cond_false]
  rw [show ixO C 0 = some C[0] from ixO_nat hf, w64_of (by omega) (by omega), show ((C.length : Nat) : Int) - 1 = ((C.length - 1 : Nat) : Int) by omega, ixO_nat hla]
  simp only [Option.bind_some]
  rw [decide_eq_true (hc.first hf), decide_eq_true (hc.last hla)]
  simp only [Bool.not_true, cond_false, Option.bind_some]
  refine Is.all (L := M) (fun _ _ => True) () (by omega) (fun i x hx hi _ => ?_) (by simp [d_law45_AuthorityCovers_0, z1]) (fun _ => ?_)
  · unfold d_law45_AuthorityCovers_0
    rw [z1]
    refine Is.inb hi (Is.at hx ?_)
    have hr := link_range hO hv (m2.mem_iff.1 (List.mem_of_getElem? hx))
    rw [decide_eq_false (show ¬ k.At < x.At by omega)]
    simp only [cond_false, bindId]
    refine Is.bind (prev_is hi (by omega) (f := fun y => decide (x.At < y.At)) (q := fun y => y.At ≤ x.At) fun y => by simp) fun b hb => Is.ite hb (fun hn => absurd ?_ hn) (fun _ => Is.val ⟨rfl, trivial⟩)
    intro y hi0 hy
    have hp := List.pairwise_iff_getElem.1 m3 (i - 1) i (by omega) hi (by omega)
    rw [List.getElem?_eq_getElem (by omega)] at hy
    rw [List.getElem?_eq_getElem hi] at hx
    cases hx; cases hy
    unfold leL ltL at hp
    omega
  · rw [profile_Of_eq hO hv ho]
    simp only [Option.bind_some]
    have hlow := (proS_low hO hv list).resolve_left hne
    rw [below_of hpv (ofP_val _ _ _) hc hlt fun x x1 x2 => by
      obtain ⟨s, s1, u, u1, k1, k2, k3, k4⟩ := hlow.2 x x1 (by omega)
      obtain ⟨c1, c2, c3, c4⟩ := mem_cut (a := k.Origin) (b := k.At) u1 k2 ⟨x1, x2⟩
      rw [hC] at c1
      exact ⟨_, c1, s, s1, c2, k1, by rw [c3]; exact k3, by rw [c4]; exact k4⟩]
    exact alive_is2 rfl

theorem authorityRestricts_law {l : T_api_Layout} (h : Sm l) (k : T_api_Track) (list : List T_api_Restriction) (more : T_api_Restriction) (seq : Int) : d_law45_AuthorityRestricts l k list more seq = some true := by
  suffices Is (d_law45_AuthorityRestricts l k list more seq) fun r => r = true by obtain ⟨r, h, rfl⟩ := this; exact h
  unfold d_law45_AuthorityRestricts
  refine gate_is h k list alive_is fun hs hl hO ho => ?_
  simp only [cond_false]
  obtain ⟨M0, e0, h0⟩ := Is.app (L := ([] : List T_api_Restriction)) (ys := list) (by simp only [List.length_nil, sizeMax, Enc.b]; omega)
  rw [List.nil_append] at h0
  subst h0
  rw [e0]
  simp only [Option.bind_some]
  refine Is.bind (Is.app (by simp only [List.length_cons, List.length_nil, sizeMax, Enc.b]; omega)) fun all hall => ?_
  subst hall
  have hal : (M0 ++ [more]).length ≤ 101 := by rw [List.length_append]; simp; omega
  refine Is.all (L := M0 ++ [more]) (fun _ _ => True) () (by omega) (fun i x hx hi _ => ?_) (by unfold d_law45_AuthorityRestricts_0; simp) (fun _ => ?_)
  · unfold d_law45_AuthorityRestricts_0
    refine Is.inb hi (Is.at hx ?_)
    refine (ref43_Check_is l x).bind fun c _ => ?_
    refine Is.ifn dec_iff (fun _ => ?_) (fun _ => Is.val ⟨rfl, trivial⟩)
    rw [law45_alive_eq]; exact Is.val rfl
  obtain ⟨r, e1, _, q1, q2, hr⟩ := build_is h hO hs ho (list := M0) (by omega) seq
  obtain ⟨r', e1', _, q1', q2', hr'⟩ := build_is h hO hs ho (list := M0 ++ [more]) (by omega) seq
  rw [e1, e1']
  simp only [Option.bind_some]
  refine Is.cond (fun _ => alive_is) fun hz => ?_
  simp only [Bool.or_eq_false_iff, Bool.not_eq_false', decide_eq_true_eq] at hz
  rcases hr with ⟨_, z2⟩ | ⟨hv, z2, M, m1, z1, hA, m2, m3⟩
  · rcases z2 with z2 | z2 <;> omega
  rcases hr' with ⟨_, y2⟩ | ⟨_, y2, M', m1', y1, hA', _, _⟩
  · rcases y2 with y2 | y2 <;> omega
  have : M' = M := by rw [m1] at m1'; exact (Option.some.inj m1').symm
  subst this
  have hpro : proS l k (M0 ++ [more]) = oneR l k.Origin k.Steps more (proS l k M0) := by unfold proS; rw [appS_append, appS_one]
  obtain ⟨hne, hlt, hle, hc⟩ := cut_facts (proS_low hO hv M0).cont (by have := hA.2.1; rw [z1] at this; exact this)
  obtain ⟨hne', _, _, hc'⟩ := cut_facts (proS_low hO hv (M0 ++ [more])).cont (by have := hA'.2.1; rw [y1] at this; exact this)
  have hpv : PVal (cutS (proS l k M0) k.Origin k.At) := by have := hA.1.2; rw [z1] at this; exact this
  have hpv' : PVal (cutS (proS l k (M0 ++ [more])) k.Origin k.At) := by have := hA'.1.2; rw [y1] at this; exact this
  have hM : M'.length ≤ 24 := by rw [z1] at q2; exact q2
  have hlow : Low k.Origin (k.Origin + sumL l k.Steps) (proS l k M0) (proS l k (M0 ++ [more])) := by
    rw [hpro]; exact oneR_low (proS_val _ _ _) (proS_low hO hv M0).cont
  have hlow := hlow.resolve_left hne'
  rw [decide_eq_true (show r.1.End = r'.1.End by rw [z1, y1]), decide_eq_true (show ((r.1.Links.length : Nat) : Int) = ((r'.1.Links.length : Nat) : Int) by rw [z1, y1])]
  simp only [Bool.not_true, cond_false, Option.bind_some]
  refine Is.all (L := M') (fun _ _ => True) () (by omega) (fun i x hx hi _ => ?_) (by unfold d_law45_AuthorityRestricts_1; rw [z1]; simp) (fun _ => ?_)
  · unfold d_law45_AuthorityRestricts_1
    rw [z1, y1]
    refine Is.inb hi (Is.at hx (Is.at hx ?_))
    rw [(eqLinked x x).2 rfl]
    exact Is.val ⟨rfl, trivial⟩
  · rw [z1, y1]
    dsimp only
    rw [below_of hpv' hpv hc' hlt fun x x1 x2 => by
      obtain ⟨s, s1, u, u1, k1, k2, k3, k4⟩ := hlow.2 x x1 (by omega)
      obtain ⟨c1, c2, c3, c4⟩ := mem_cut (a := k.Origin) (b := k.At) u1 k2 ⟨x1, x2⟩
      obtain ⟨d1, d2, d3, d4⟩ := mem_cut (a := k.Origin) (b := k.At) s1 k1 ⟨x1, x2⟩
      exact ⟨_, c1, _, d1, c2, d2, by rw [c3, d3]; exact k3, by rw [c4, d4]; exact k4⟩]
    exact alive_is2 rfl
end PM
