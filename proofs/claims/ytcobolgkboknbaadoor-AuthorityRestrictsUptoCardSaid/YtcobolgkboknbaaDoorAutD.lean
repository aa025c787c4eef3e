/-
  PLAIN, AUTHORITY D: the reference's profiles and restrictions; Build; the laws AuthorityBuilds, AuthorityCovers, AuthorityRestricts.
-/
import Derived.Test.YtcobolgkboknbaaDoorAutC
namespace PM
open Go Go.RowKit

theorem ref10_Of_eq {l : T_api_Layout} (hO : OkL l) {way : List T_api_Step} (hv : ValidP l way) {o : Int} (ho : -1073741824 ≤ o ∧ o ≤ 1073741824) : d_ref10_Of l way o = some (ofP l o way) := by
  suffices Is (d_ref10_Of l way o) fun r => r = ofP l o way by obtain ⟨r, h, rfl⟩ := this; exact h
  unfold d_ref10_Of
  have hl := hv.2.1
  rw [decide_eq_false (show ¬ o < -1073741824 by omega), decide_eq_false (show ¬ 1073741824 < o by omega), decide_eq_false (show ¬ (128 : Int) < ((way.length : Nat) : Int) by omega)]
  simp only [Bool.or_self, cond_false, Option.bind_some]
  refine Is.fold (L := way) (mk := fun i (m : Int × List T_api_Segment) => (m.1, i, m.2)) (fun i m => m.1 = o + sumL l (way.take i) ∧ m.2 = ofS l o (way.take i)) (o, []) (by omega) (by simp [sumL, ofS]) (fun i s m hs hi hI => ?_) (fun m hI => ?_)
  · obtain ⟨B, p⟩ := m
    obtain ⟨rfl, rfl⟩ := hI
    obtain ⟨e, h1, h2, h3, h4, h5, h6⟩ := step_el hO hv hs
    have hb := sumL_bound hO hv i (by omega)
    have hlen := ofS_len l (way.take i) o
    rw [List.length_take] at hlen
    unfold d_ref10_Of_0
    refine Is.inb hi (Is.at hs ?_)
    have hh := h3
    simp only [hasEl, Bool.and_eq_true, decide_eq_true_eq] at hh
    rw [decide_eq_false (show ¬ s.El < 0 by omega), decide_eq_false (show ¬ ((l.Elements.length : Nat) : Int) ≤ s.El by omega)]
    simp only [cond_false, Option.bind_some, h1, d_ref06_Need_eq, h6, Bool.not_true]
    have hg := h5.2.2.1
    refine Is.onInl (θ := fun z => z = .inl (grdE e s)) (Is.ite (fwd_iff e s) (fun hf => Is.val ?_) (fun hf => Is.val ?_)) (fun v hv => ?_) (fun b hb => by cases hb)
    · unfold grdE; rw [if_pos (show s.In = 0 ∨ (s.In = 2 ∧ e.Kind = 3) from hf)]
    · unfold grdE; rw [if_neg (show ¬ (s.In = 0 ∨ (s.In = 2 ∧ e.Kind = 3)) from hf), w64_of (by omega) (by omega), Int.zero_sub]
    cases hv
    refine Is.onInl (θ := fun z => z = .inl (spdE e s)) (Is.ite (p := e.Kind = 2 ∧ (s.In = 2 ∨ s.Out = 2)) (by simp) (fun hf => Is.val ?_) (fun hf => Is.val ?_)) (fun v hv => ?_) (fun b hb => by cases hb)
    · unfold spdE; rw [if_pos hf]
    · unfold spdE; rw [if_neg hf]
    cases hv
    have h52 := h5.2.1
    refine Is.bind (Is.app ?_) fun M hM => Is.val ⟨(o + sumL l (way.take (i + 1)), ofS l o (way.take (i + 1))), ?_, rfl, rfl⟩
    · simp only [List.length_cons, List.length_nil, sizeMax, Enc.b]; omega
    · rw [hM, take_get hs, ofS_snoc, sumL_append, w64_of (by omega) (by omega)]
      simp only [stepS, h2, segE, sumL, h4, Int.add_zero, Int.add_assoc]
  · obtain ⟨B, p⟩ := m
    obtain ⟨rfl, rfl⟩ := hI
    unfold d_ref10_Of_0
    refine Is.oub (Is.val ?_)
    rw [List.take_length]
    have hlen := ofS_len l way o
    obtain ⟨b, hb, hbi⟩ := ref10_Valid_is (p := ofS l o way) (by omega)
    show Is ((d_ref10_Valid (ofS l o way)).bind _) _
    rw [hb]
    refine Is.ifn hbi (fun hc => Is.val ?_) (fun hc => Is.val ?_)
    · unfold ofP; rw [if_neg hc]
    · unfold ofP; rw [if_pos hc]
theorem cutS_len (p : List T_api_Segment) (f t : Int) : (cutS p f t).length ≤ p.length := by
  unfold cutS
  rw [List.length_map]
  exact List.length_filter_le _ _
theorem ref10_Cut_eq {p : List T_api_Segment} (h : PVal p) (f t : Int) : d_ref10_Cut p f t = some (cutS p f t) := by
  suffices Is (d_ref10_Cut p f t) fun r => r = cutS p f t by obtain ⟨r, h, rfl⟩ := this; exact h
  unfold d_ref10_Cut
  have hl := h.1
  obtain ⟨b, hb, hbi⟩ := ref10_Valid_is (p := p) (by omega)
  refine Is.fold (L := p) (mk := fun i (m : List T_api_Segment) => (i, m)) (fun i m => m = cutS (p.take i) f t) [] (by omega) rfl (fun i x m hx hi hI => ?_) (fun m hI => ?_)
  · subst hI
    have hlen := cutS_len (p.take i) f t
    rw [List.length_take] at hlen
    unfold d_ref10_Cut_0
    refine Is.inb hi ?_
    refine Is.onInl (θ := fun o => o = .inl (cutS (p.take (i + 1)) f t)) (Is.at hx ?_) (fun v hv => Is.val ⟨cutS (p.take (i + 1)) f t, by cases hv; rfl, rfl⟩) (fun b hb => by cases hb)
    have ht : cutS (p.take (i + 1)) f t = cutS (p.take i) f t ++ (if max x.From f < min x.To t then [clipS f t x] else []) := by
      rw [take_get hx, ← cutS_one]
      unfold cutS
      rw [List.filter_append, List.map_append]
    rw [hb, hbi.2 h]
    simp only [Option.bind_some, Bool.true_and]
    refine Is.ite (p := max x.From f < min x.To t) dec_iff (fun hb => ?_) (fun hb => Is.val ?_)
    · rw [if_pos hb] at ht
      refine Is.bind (Is.app ?_) fun M hM => Is.val ?_
      · simp only [List.length_cons, List.length_nil, sizeMax, Enc.b]; omega
      · rw [hM, ht]; rfl
    · rw [ht, if_neg hb, List.append_nil]
  · subst hI
    unfold d_ref10_Cut_0
    refine Is.oub (Is.val ?_)
    rw [List.take_length]
    exact Is.val rfl
theorem ref10_Cut_X_eq {p : List T_api_Segment} (h : PVal p) (f t : Int) : d_ref10_Cut_X p f t = some (cutS p f t) := ref10_Cut_eq h f t
theorem pval_one {s : T_api_Segment} (h : SegOK s) : PVal [s] := ⟨by simp, fun i x hx => by
  cases i with
  | zero => simp at hx; subst hx; exact ⟨h, fun y h0 => by omega⟩
  | succ i => simp at hx⟩
theorem take_drop_one {α : Type} {L : List α} {i : Nat} {x : α} (h : L[i]? = some x) : (L.take (i + 1)).drop i = [x] := by
  have := lt_of_get h
  rw [take_get h, List.drop_append_of_le_length (by rw [List.length_take]; omega), List.drop_eq_nil_of_le (by rw [List.length_take]; omega)]; rfl
theorem ref10_Limit_eq {p : List T_api_Segment} (hp : PVal p) (f t sp : Int) : d_ref10_Limit p f t sp = some (Lim p f t sp) := by
  suffices Is (d_ref10_Limit p f t sp) fun r => r = Lim p f t sp by obtain ⟨r, h, rfl⟩ := this; exact h
  unfold d_ref10_Limit
  have hpl := hp.1
  obtain ⟨b, hb, hbi⟩ := ref10_Valid_is (p := p) (by omega)
  rw [hb, hbi.2 hp]
  simp only [Option.bind_some, Bool.not_true, Bool.false_or]
  refine Is.ite (p := sp < 1) dec_iff (fun hc => Is.val ?_) (fun hc => ?_)
  · unfold Lim; rw [if_neg fun q => by omega]
  refine Is.fold (L := p) (mk := fun i (m : List T_api_Segment) => (i, m)) (fun i m => m = limS (p.take i) f t sp) [] (by omega) rfl (fun i s m hs hi hI => ?_) (fun m hI => ?_)
  · subst hI
    unfold d_ref10_Limit_0
    have hlen := (limS_len f t sp (p.take i)).2
    rw [List.length_take] at hlen
    have hok := hp.ok hs
    have h1 := pval_one hok
    have hsn : limS (p.take (i + 1)) f t sp = limS (p.take i) f t sp ++ limG f t sp s := by rw [take_get hs, limS_snoc]
    refine Is.inb hi ?_
    refine Is.onInl (θ := fun o => o = .inl (limS (p.take (i + 1)) f t sp)) ?_ (fun v hv => Is.val ⟨limS (p.take (i + 1)) f t sp, by cases hv; rfl, rfl⟩) (fun b hb => by cases hb)
    rw [w64n (by omega), slO_eq (by omega) (by omega), take_drop_one hs]
    simp only [Option.bind_some]
    rw [ref10_Cut_X_eq h1, cutS_one]
    have hsl := hsn
    unfold limG at hsl
    by_cases hq : max s.From f < min s.To t
    · rw [if_pos hq] at hsl ⊢
      have e1 : xixO 0 (([clipS f t s].map cellsOf).length) 0 = some 0 := by simp [xixO]
      have e2 : xldO [clipS f t s] (([clipS f t s].map cellsOf).length) 0 = some (clipS f t s) := by simp [xldO]
      have e3 : decide (((([clipS f t s].map cellsOf).length : Nat) : Int) = 0) = false := by simp
      simp only [Option.bind_some, e1, e2, e3, cond_false]
      rw [ref10_Cut_eq h1, ref10_Cut_eq h1]
      simp only [Option.bind_some, List.set_cons_zero]
      have k1 := cutS_len [s] (-1073741824) f
      have k2 := cutS_len [s] t 1073741824
      simp only [List.length_cons, List.length_nil] at k1 k2
      refine Is.bind (Is.app ?_) fun M1 hM1 => Is.bind (Is.app ?_) fun M2 hM2 => Is.bind (Is.app ?_) fun M3 hM3 => Is.val ?_
      · simp only [sizeMax, Enc.b]; omega
      · rw [hM1]; simp only [List.length_append, List.length_cons, List.length_nil, sizeMax, Enc.b]; omega
      · rw [hM2, hM1]; simp only [List.length_append, List.length_cons, List.length_nil, sizeMax, Enc.b]; omega
      · rw [hM3, hM2, hM1, hsl]; simp [clipS]
    · rw [if_neg hq] at hsl ⊢
      simp only [Option.bind_some, List.map_nil, List.length_nil, Int.natCast_zero, decide_true, cond_true, ixO_nat hs]
      refine Is.bind (Is.app ?_) fun M hM => Is.val ?_
      · simp only [List.length_cons, List.length_nil, sizeMax, Enc.b]; omega
      · rw [hM, hsl]
  · subst hI
    unfold d_ref10_Limit_0
    refine Is.oub (Is.val ?_)
    rw [List.take_length]
    refine Is.ite (p := 128 < (limS p f t sp).length) (by rw [decide_eq_true_iff]; omega) (fun hq => Is.val ?_) (fun hq => Is.val ?_)
    · unfold Lim; rw [if_neg fun q => by omega]
    · unfold Lim; rw [if_pos ⟨hp, by omega, by omega⟩]

theorem ref43_Check_is (l : T_api_Layout) (r : T_api_Restriction) : Is (d_ref43_Check l r) fun c => (c = 0 ∧ CheckP l r) ∨ (c = 1 ∧ ¬ CheckP l r) := by
  unfold d_ref43_Check
  refine Is.bind (φ := fun b => b = true ↔ ¬ ((1 ≤ r.Id ∧ r.Id ≤ 1073741824) ∧ hasEl l r.El = true)) ?_ fun b hb => ?_
  · refine (Is.or (p := ¬ (1 ≤ r.Id ∧ r.Id ≤ 1073741824) ∨ r.El < 0) (q := ((l.Elements.length : Nat) : Int) ≤ r.El) (by simp; omega) fun _ => Is.dec Iff.rfl).iff ?_
    simp only [hasEl, Bool.and_eq_true, decide_eq_true_eq]; omega
  refine Is.bind (φ := fun b => b = true ↔ ¬ (((1 ≤ r.Id ∧ r.Id ≤ 1073741824) ∧ hasEl l r.El = true) ∧ 0 ≤ r.From ∧ r.From < r.To ∧ r.To ≤ elLen l r.El)) ?_ fun b hb => Is.ite (p := ¬ CheckP l r) (by
      unfold CheckP
      rw [Bool.or_eq_true, Bool.or_eq_true, hb, decide_eq_true_iff, decide_eq_true_iff]
      by_cases q : hasEl l r.El = true <;> simp only [q] <;> simp <;> omega) (fun h => Is.val (.inr ⟨rfl, h⟩)) fun h => Is.val (.inl ⟨rfl, Classical.not_not.1 h⟩)
  · refine (Is.or (p := ¬ ((1 ≤ r.Id ∧ r.Id ≤ 1073741824) ∧ hasEl l r.El = true) ∨ r.From < 0 ∨ r.To ≤ r.From) (q := elLen l r.El < r.To) (by
      rw [Bool.or_eq_true, Bool.or_eq_true, hb, decide_eq_true_iff, decide_eq_true_iff, or_assoc]) fun hn => ?_).iff ?_
    · obtain ⟨h2⟩ : hasEl l r.El = true ∧ True := ⟨(Classical.not_not.1 fun q => hn (.inl q)).2, trivial⟩
      obtain ⟨e, e1, e2⟩ := hasEl_get h2
      rw [e1, el_len e2]; exact Is.dec Iff.rfl
    · by_cases q : (1 ≤ r.Id ∧ r.Id ≤ 1073741824) ∧ hasEl l r.El = true <;> simp only [q] <;> simp <;> omega
theorem ref43_Part_eq {l : T_api_Layout} {s : T_api_Step} {e : T_api_Element} (h1 : ixO l.Elements s.El = some e) (he : 0 ≤ e.Length ∧ e.Length ≤ 1000000) {B : Int} (hB : -2147483648 ≤ B ∧ B ≤ 2147483648) {r : T_api_Restriction} (hr : 0 ≤ r.From ∧ r.From < r.To ∧ r.To ≤ e.Length) :
    d_ref43_Part l s B r = some (partE e s B r) := by
  unfold d_ref43_Part partE
  rw [h1]
  simp only [Option.bind_some]
  by_cases hf : fwdE e s
  · rw [if_pos hf, (fwd_iff e s).2 hf, cond_true, w64_of (by omega) (by omega), w64_of (by omega) (by omega)]
  · rw [if_neg hf, (false_iff_of (fwd_iff e s)).2 hf, cond_false, w64_of (n := B + e.Length) (by omega) (by omega), w64_of (by omega) (by omega), w64_of (by omega) (by omega)]
theorem ref43_Apply_in {l : T_api_Layout} (hO : OkL l) {way : List T_api_Step} (hv : ValidP l way) {o : Int} (ho : -1073741824 ≤ o ∧ o ≤ 1073741824) {p : List T_api_Segment} (hp : PVal p) (r : T_api_Restriction) :
    loopO (d_ref43_Apply_1 way l r) (p, o, 0) = some (.inl (oneR l o way r p)) := by
  suffices Is (loopO (d_ref43_Apply_1 way l r) (p, o, 0)) fun z => z = .inl (oneR l o way r p) by obtain ⟨r, h, rfl⟩ := this; exact h
  have hl := hv.2.1
  refine Is.loop (mk := fun (i : Nat) (m : List T_api_Segment × Int) => (m.1, m.2, (i : Int))) way.length (fun i m => m.1 = oneR l o (way.take i) r p ∧ m.2 = o + sumL l (way.take i)) (p, o) (by simp [sumL, oneR, lowS]) (fun i m hi hI => ?_) (fun m hI => ?_)
  · obtain ⟨q, B⟩ := m
    obtain ⟨rfl, rfl⟩ := hI
    have hs : way[i]? = some way[i] := List.getElem?_eq_getElem hi
    generalize way[i] = s at hs
    obtain ⟨e, h1, h2, h3, h4, h5, h6⟩ := step_el hO hv hs
    have hb := sumL_bound hO hv i (by omega)
    have hel := h5.2.1
    have hval : PVal (oneR l o (way.take i) r p) := oneR_val hp
    have hat := lowS_at (l := l) (r := r) (o := o) (p := p) hs
    have hsum : o + sumL l (way.take (i + 1)) = o + sumL l (way.take i) + e.Length := by
      rw [take_get hs, sumL_append]; simp only [sumL, h4, Int.add_zero]; omega
    generalize hB : o + sumL l (way.take i) = B at hat hsum ⊢
    have hB2 : -2147483648 ≤ B ∧ B ≤ 2147483648 := by omega
    have hstep : ∀ Q, stepR l r B s Q = if s.El = r.El then Lim Q (partE e s B r).1 (partE e s B r).2 r.Speed else Q := fun Q => by simp [stepR, h2]
    unfold d_ref43_Apply_1
    refine Is.inb hi (Is.at hs ?_)
    refine Is.onInl (θ := fun z => z = .inl (oneR l o (way.take (i + 1)) r p)) ?_ (fun v hv => ?_) (fun b hb => by cases hb)
    · refine Is.bind (φ := fun b => b = true ↔ (s.El = r.El ∧ r.Active = true) ∧ CheckP l r) (Is.and (by simp) fun _ => Is.bind (ref43_Check_is l r) fun c hc => Is.dec ?_) fun b hb => ?_
      · rcases hc with ⟨rfl, hc⟩ | ⟨rfl, hc⟩
        · exact iff_of_true rfl hc
        · exact iff_of_false (by omega) hc
      · refine Is.ite hb (fun hy => ?_) (fun hn => Is.val ?_)
        · have hre : elLen l r.El = e.Length := by rw [← hy.1.1]; exact el_len h2
          obtain ⟨c1, c2, c3, c4, c5, c6⟩ := hy.2
          rw [ref43_Part_eq h1 (by omega) hB2 (by omega)]
          simp only [Option.bind_some]
          rw [ref10_Limit_eq hval]
          refine Is.val ?_
          have e1 : ∀ w, oneR l o w r p = lowS l r o w p := fun w => by unfold oneR; rw [if_pos ⟨hy.1.2, hy.2⟩]
          rw [e1, e1, hat, hstep, if_pos hy.1.1]
        · by_cases hc : r.Active = true ∧ CheckP l r
          · have e1 : ∀ w, oneR l o w r p = lowS l r o w p := fun w => by unfold oneR; rw [if_pos hc]
            rw [e1, e1, hat, hstep, if_neg fun q => hn ⟨⟨q, hc.1⟩, hc.2⟩]
          · have e1 : ∀ w, oneR l o w r p = p := fun w => by unfold oneR; rw [if_neg hc]
            rw [e1, e1]
    · cases hv
      rw [h1]
      simp only [Option.bind_some]
      refine Is.val ⟨(oneR l o (way.take (i + 1)) r p, o + sumL l (way.take (i + 1))), ?_, rfl, rfl⟩
      rw [hsum, w64_of (n := B + e.Length) (by omega) (by omega), w64n (by omega)]
  · obtain ⟨q, B⟩ := m
    obtain ⟨rfl, rfl⟩ := hI
    unfold d_ref43_Apply_1
    refine Is.oub (Is.val ?_)
    rw [List.take_length]
theorem ref43_Apply_eq {l : T_api_Layout} (hj : l.Joints.length ≤ 1048576) (hO : OkL l) {way : List T_api_Step} (hv : ValidP l way) {o : Int} (ho : -1073741824 ≤ o ∧ o ≤ 1073741824) {p : List T_api_Segment} (hp : PVal p) {list : List T_api_Restriction} (hl : list.length ≤ 1048576) :
    d_ref43_Apply list way o l p = some (appS l o way list p) := by
  suffices Is (d_ref43_Apply list way o l p) fun r => r = appS l o way list p by obtain ⟨r, h, rfl⟩ := this; exact h
  unfold d_ref43_Apply
  have hpl := hp.1
  have hvl := hv.2.1
  obtain ⟨M, hM, hM2⟩ := Is.app (L := ([] : List T_api_Segment)) (ys := p) (by simp only [List.length_nil, sizeMax, Enc.b]; omega)
  rw [hM]
  simp only [List.nil_append] at hM2
  subst hM2
  obtain ⟨b, hb, hbi⟩ := ref10_Valid_is (p := M) (by omega)
  obtain ⟨c, hc, hci⟩ := ref09_Valid_is l way hj (by omega)
  rw [hb, hc, hbi.2 hp, hci.2 hv, decide_eq_false (show ¬ o < -1073741824 by omega), decide_eq_false (show ¬ 1073741824 < o by omega)]
  simp only [Option.bind_some, Bool.not_true, cond_false, Bool.or_self]
  refine Is.fold (L := list) (mk := fun i (m : List T_api_Segment) => (m, i)) (fun i m => m = appS l o way (list.take i) M) M (by omega) rfl (fun i r m hr hi hI => ?_) (fun m hI => ?_)
  · subst hI
    unfold d_ref43_Apply_0
    have hat : appS l o way (list.take (i + 1)) M = oneR l o way r (appS l o way (list.take i) M) := by rw [take_get hr, appS_append, appS_one]
    refine Is.inb hi (Is.at hr ?_)
    rw [ref43_Apply_in hO hv ho (appS_val hp)]
    simp only [onInl, onOut, Option.bind_some]
    exact Is.val ⟨_, rfl, hat.symm⟩
  · subst hI
    unfold d_ref43_Apply_0
    refine Is.oub (Is.val ?_)
    rw [List.take_length]
    exact Is.val rfl

noncomputable def proS (l : T_api_Layout) (k : T_api_Track) (list : List T_api_Restriction) : List T_api_Segment := appS l k.Origin k.Steps list (ofP l k.Origin k.Steps)
theorem proS_val (l : T_api_Layout) (k : T_api_Track) (list : List T_api_Restriction) : PVal (proS l k list) := appS_val (ofP_val _ _ _)
theorem build_is {l : T_api_Layout} (h : Sm l) (hO : OkL l) {k : T_api_Track} (hs : k.Steps.length ≤ 100) (ho : -1073741824 ≤ k.Origin ∧ k.Origin ≤ 1073741824) {list : List T_api_Restriction} (hl : list.length ≤ 1048576) (seq : Int) :
    ∃ r, d_authority_Build l k list seq = some r ∧ d_ref45_Build l k list seq = some r ∧ r.1.Profile.length ≤ 128 ∧ r.1.Links.length ≤ 24 ∧
      ((r.1 = ⟨0, 0, [], []⟩ ∧ (r.2 = 1 ∨ r.2 = 2)) ∨ (ValidP l k.Steps ∧ r.2 = 0 ∧ ∃ M, d_linking_Of l k.Steps k.Origin k.At = some M ∧ r.1 = ⟨seq, k.At, cutS (proS l k list) k.Origin k.At, M⟩ ∧ AVal r.1 ∧
        M.Perm (linksS l k.At k.Origin k.Steps) ∧ M.Pairwise leL)) := by
  unfold d_authority_Build d_ref45_Build
  obtain ⟨c1, hc1, hci1⟩ := walk_Valid_is l k.Steps h.jo (by omega)
  obtain ⟨c2, hc2, hci2⟩ := ref09_Valid_is l k.Steps h.jo (by omega)
  have : c2 = c1 := Bool.eq_iff_iff.2 (hci2.trans hci1.symm)
  subst this
  rw [hc1, hc2]
  simp only [Option.bind_some]
  cases hcc : c2 with
  | false => exact ⟨(⟨0, 0, [], []⟩, 1), rfl, rfl, by simp, by simp, .inl ⟨rfl, .inl rfl⟩⟩
  | true =>
    have hv := hci1.1 hcc
    by_cases hq : seq < 1 ∨ 1073741824 < seq
    · have : (!true || decide (seq < 1) || decide (1073741824 < seq)) = true := by rcases hq with q | q <;> simp [q]
      rw [this]
      exact ⟨(⟨0, 0, [], []⟩, 1), rfl, rfl, by simp, by simp, .inl ⟨rfl, .inl rfl⟩⟩
    have : (!true || decide (seq < 1) || decide (1073741824 < seq)) = false := by
      rw [decide_eq_false (show ¬ seq < 1 from fun q => hq (.inl q)), decide_eq_false (show ¬ 1073741824 < seq from fun q => hq (.inr q))]; rfl
    rw [this]
    simp only [cond_false]
    have hvl := hv.2.1
    obtain ⟨M, m1, m2, m3⟩ := linking_Of_any h hO (way := k.Steps) (by omega) ho k.At
    obtain ⟨m3, m4⟩ : M.Perm (linksS l k.At k.Origin k.Steps) ∧ M.Pairwise leL := by
      rcases m3 with ⟨_, a, b⟩ | ⟨a, _⟩
      · exact ⟨a, b⟩
      · exact absurd hv a
    have hM : M.length ≤ 24 := by rw [m3.length_eq]; exact linksS_few hO hv _ _
    rw [profile_Of_eq hO hv ho, ref10_Of_eq hO hv ho]
    simp only [Option.bind_some]
    rw [restriction_Apply_eq h.jo hO hv ho (ofP_val _ _ _) hl, ref43_Apply_eq h.jo hO hv ho (ofP_val _ _ _) hl]
    simp only [Option.bind_some]
    have hpv := proS_val l k list
    have hpl := hpv.1
    have hcl := cutS_len (proS l k list) k.Origin k.At
    show ∃ r, ((d_profile_Cut (proS l k list) k.Origin k.At).bind _) = _ ∧ ((d_ref10_Cut (proS l k list) k.Origin k.At).bind _) = _ ∧ _
    rw [profile_Cut_eq hpv, ref10_Cut_eq hpv, m1, m2]
    simp only [Option.bind_some]
    obtain ⟨b1, hb1, hbi1⟩ := authority_Valid_is (a := ⟨seq, k.At, cutS (proS l k list) k.Origin k.At, M⟩) (by dsimp only; omega)
    obtain ⟨b2, hb2, hbi2⟩ := ref45_Valid_is (a := ⟨seq, k.At, cutS (proS l k list) k.Origin k.At, M⟩) (by dsimp only; omega)
    have : b2 = b1 := Bool.eq_iff_iff.2 (hbi2.trans hbi1.symm)
    subst this
    rw [hb1, hb2]
    simp only [Option.bind_some]
    cases hbb : b2 with
    | false => exact ⟨(⟨0, 0, [], []⟩, 2), rfl, rfl, by simp, by simp, .inl ⟨rfl, .inr rfl⟩⟩
    | true => exact ⟨(⟨seq, k.At, cutS (proS l k list) k.Origin k.At, M⟩, 0), rfl, rfl, by dsimp only; omega, hM, .inr ⟨hv, rfl, M, rfl, rfl, hbi1.1 hbb, m3, m4⟩⟩
end PM
