import Derived.Test.YtmbcgmlgbcookaaDoorExpF
/-
  EXPR, G: simplifying, walked.
-/
namespace PM
open Go Go.RowKit
abbrev MID : Nat := 20000
def keyOf (a : E) : ByteArray := ⟨(kb a).toArray⟩
theorem keyOf_inj {a b : E} (ha : a.ok) (hb : b.ok) (h : keyOf a = keyOf b) : a = b := by
  unfold keyOf at h
  have h : (kb a).toArray = (kb b).toArray := congrArg ByteArray.data h
  have h : kb a = kb b := congrArg Array.toList h
  exact (kb_inj a b [] [] ha hb (by rw [h])).1
theorem key_mem {a : E} {l : List E} (ha : a.ok) (hl : ∀ b ∈ l, b.ok) : keyOf a ∈ l.map keyOf ↔ a ∈ l := by
  rw [List.mem_map]
  constructor
  · rintro ⟨b, hb, e⟩
    rw [← keyOf_inj (hl b hb) ha e]; exact hb
  · exact fun h => ⟨a, h, rfl⟩
theorem key_is (e : E) (hz : e.size ≤ MID) (h : e.ok) : d_expr_key (toT e) = some (keyOf e) := by
  have hM : MID = 20000 := rfl
  have hB : BIG = 4194304 := rfl
  unfold d_expr_key
  rw [enc_T_toT, keyN_is e 100000 (by have := e.depth_le_size; omega) h, Option.bind_some]
  have := kb_len e h (by omega)
  rw [if_pos (by omega)]; rfl
theorem Is.appL {β : Type} {s l : List E} {f : List R_api_Expr → Option β} {φ : β → Prop} (h : s.length + l.length ≤ BIG) (hf : Is (f ((s ++ l).map enc)) φ) : Is ((appO (s.map enc) (l.map enc)).bind f) φ := by
  refine Is.bind (Is.app (by show ((s.map enc).length + (l.map enc).length) * 40 ≤ sizeMax ∧ (s.map enc).length + (l.map enc).length ≤ sizeMax; rw [List.length_map, List.length_map]; unfold sizeMax; unfold BIG at h; omega)) ?_
  rintro M rfl
  rw [← List.map_append]; exact hf
theorem op_T (e : E) : (toT e).Op = e.op := rfl
theorem args_T (e : E) : (toT e).Args = e.args.map enc := rfl
theorem neg_is {a : E} (h : Sim a) : Is (d_expr_negate (toT a)) fun r => r = toT (neg a) := by
  unfold d_expr_negate neg
  refine Is.ite (p := a.op = 1) dec_iff (fun h1 => Is.val (by rw [if_pos h1]; rfl)) (fun h1 => ?_)
  refine Is.ite (p := a.op = 2) dec_iff (fun h2 => Is.val (by rw [if_neg h1, if_pos h2]; rfl)) (fun h2 => ?_)
  refine Is.ite (p := a.op = 4) dec_iff (fun h4 => ?_) (fun h4 => Is.val (by rw [if_neg h1, if_neg h2, if_neg h4, enc_T_toT]; rfl))
  rw [if_neg h1, if_neg h2, if_pos h4]
  obtain ⟨b, rfl, _, _⟩ := h.four h4
  exact Is.arg0 (xs := [b]) (a := b) rfl (Is.val rfl)
theorem rnot_is {a : E} (h : Sim a) : Is (d_ref18_not (toT a)) fun r => r = toT (neg a) := by
  unfold d_ref18_not neg
  refine Is.ite (p := a.op = 1) dec_iff (fun h1 => Is.val (by rw [if_pos h1]; rfl)) (fun h1 => ?_)
  refine Is.ite (p := a.op = 2) dec_iff (fun h2 => Is.val (by rw [if_neg h1, if_pos h2]; rfl)) (fun h2 => ?_)
  refine Is.ite (p := a.op = 4) dec_iff (fun h4 => ?_) (fun h4 => Is.val (by rw [if_neg h1, if_neg h2, if_neg h4, enc_T_toT]; rfl))
  rw [if_neg h1, if_neg h2, if_pos h4]
  obtain ⟨b, rfl, _, _⟩ := h.four h4
  exact Is.arg0 (xs := [b]) (a := b) rfl (Is.val rfl)
theorem fin_is (o u : Int) (k : List E) : Is (bif decide ((((k.map enc).length : Nat) : Int) = 0) then some (T_api_Expr.mk u 0 []) else bif decide ((((k.map enc).length : Nat) : Int) = 1) then ((ixO (k.map enc) 0).bind fun x => (dec_T_api_Expr x).bind fun y => some y) else some (T_api_Expr.mk o 0 (k.map enc))) fun r => r = toT (fin o u k) := by
  match k with
  | [] => exact Is.val rfl
  | [x] => exact Is.arg0 (xs := [x]) (a := x) rfl (Is.val rfl)
  | x :: y :: k =>
    have h0 : decide (((((x :: y :: k).map enc).length : Nat) : Int) = 0) = false := decide_eq_false (by simp only [List.map_cons, List.length_cons]; omega)
    have h1 : decide (((((x :: y :: k).map enc).length : Nat) : Int) = 1) = false := decide_eq_false (by simp only [List.map_cons, List.length_cons]; omega)
    rw [h0, h1]
    exact Is.val rfl
theorem combine_is {o u z : Int} (hk : Kind o u z) (rc : T_api_Expr → Option T_api_Expr) (xs : List E) (hw : ∀ a ∈ xs, a.wf 1073741824) (hz : sizes xs ≤ MID) (hrc : ∀ a ∈ xs, Is (rc (toT a)) fun r => r = toT a.simp) :
    Is (d_expr_combine rc (xs.map enc) o u z) fun r => r = toT (comb o u z (xs.map E.simp)) := by
  have hM : MID = 20000 := rfl
  have hB : BIG = 4194304 := rfl
  have ho : o = 5 ∨ o = 6 := hk.imp (fun h => h.1) fun h => h.1
  have hu : u = 1 ∨ u = 2 := by rcases hk with h | h <;> omega
  have hlen := sizes_len xs
  have hmz : ∀ i, sizes ((xs.take i).map E.simp) ≤ MID := fun i => by
    have h1 := maps_le (xs.take i) fun a ha => simp_size a (hw a (List.mem_of_mem_take ha))
    have h2 := sizes_take_le xs i
    omega
  have hsim : ∀ a ∈ xs.map E.simp, Sim a := fun a ha => by
    obtain ⟨b, hb, rfl⟩ := List.mem_map.1 ha
    exact simp_sim b (hw b hb)
  have hf := flat_sim ho hsim
  unfold d_expr_combine
  refine Is.argfold (xs := xs) (fun i (s : List E) => (i, s.map enc)) (fun i s => s = flat o ((xs.take i).map E.simp)) [] (by omega) rfl ?_ ?_
  · rintro i a s ha hi rfl
    unfold d_expr_combine_0
    have hm := List.mem_of_getElem? ha
    have hs1 := hmz (i + 1)
    have hs2 : flat o ((xs.take (i + 1)).map E.simp) = flat o ((xs.take i).map E.simp) ++ if a.simp.op = o then a.simp.args else [a.simp] := by
      rw [take_get ha, List.map_append]; exact flat_snoc _ _ _
    have hs3 := sizes_flat o ((xs.take (i + 1)).map E.simp)
    have hs4 := sizes_len (flat o ((xs.take (i + 1)).map E.simp))
    rw [hs2, List.length_append] at hs4
    rw [hs2] at hs3
    refine Is.inb hi (Is.onInl (θ := fun x => match x with | .inl v => v = (flat o ((xs.take (i + 1)).map E.simp)).map enc | .inr _ => False) ?_ ?_ (fun b hb => hb.elim))
    · refine Is.arg ha (Is.bind (hrc a hm) ?_)
      rintro r rfl
      refine Is.ite (p := a.simp.op = o) dec_iff (fun h => ?_) (fun h => ?_)
      · rw [if_pos h] at hs2 hs4 hs3
        refine Is.appL (by omega) (Is.val (by rw [hs2]))
      · rw [if_neg h] at hs2 hs4 hs3
        refine Is.appE (by omega) (Is.val (by rw [hs2]))
    · rintro v rfl
      exact Is.val ⟨_, rfl, rfl⟩
  rintro fl0 hfl0
  unfold d_expr_combine_0
  refine Is.oub (Is.val ?_)
  rw [List.take_length] at hfl0
  subst hfl0
  have hz1 := hmz xs.length
  rw [List.take_length] at hz1
  have hz2 := sizes_flat o (xs.map E.simp)
  obtain ⟨k1, k2, k3, _⟩ := keep_spec u (flat o (xs.map E.simp))
  show Is _ fun r => r = toT (comb o u z (xs.map E.simp))
  unfold comb
  generalize flat o (xs.map E.simp) = fl at *
  have hl2 := sizes_len fl
  have hok : ∀ a ∈ fl, a.ok := fun a ha => (hf a ha).1.ok
  refine Is.argfold (xs := fl) (fun i (s : List (ByteArray × Bool) × List E) => (i, s.1, s.2.map enc)) (fun i s => (∀ a ∈ fl.take i, a.op ≠ z) ∧ s.2 = keep u (fl.take i) ∧ ∀ k, (mget s.1 k).getD false = true ↔ k ∈ s.2.map keyOf) ([], []) (by omega) ⟨by simp, rfl, fun k => seen_nil k⟩ ?_ ?_
  · rintro i a ⟨m, s⟩ ha hi ⟨i1, i2, i3⟩
    simp only at i2 i3
    unfold d_expr_combine_1
    have hm := List.mem_of_getElem? ha
    have hsz := sizes_mem hm
    have hst : keep u (fl.take (i + 1)) = kstep u s a := by rw [take_get ha, keep_snoc, ← i2]
    have hsub : ∀ b ∈ s, b ∈ fl := fun b hb => by
      rw [i2] at hb
      exact List.mem_of_mem_take (((keep_spec u (fl.take i)).1 b).1 hb).1
    have hsl : sizes s ≤ sizes fl := by
      have h1 := (keep_spec u (fl.take i)).2.2.1
      have h2 := sizes_take_le fl i
      rw [i2]; omega
    have hsn := sizes_len s
    refine Is.inb hi (Is.onInl (θ := fun x => match x with | .inl (l, m') => ∃ s' : List E, l = s'.map enc ∧ (∀ a ∈ fl.take (i + 1), a.op ≠ z) ∧ s' = keep u (fl.take (i + 1)) ∧ ∀ k, (mget m' k).getD false = true ↔ k ∈ s'.map keyOf | .inr b => b = .inr (.inr (toT (.mk z 0 []))) ∧ ∃ a ∈ fl, a.op = z) ?_ ?_ ?_)
    · refine Is.arg ha ?_
      refine Is.ite (p := a.op = z) dec_iff (fun h => Is.val ⟨rfl, a, hm, h⟩) (fun h => ?_)
      have hq : ∀ b ∈ fl.take (i + 1), b.op ≠ z := fun b hb => by
        rw [take_get ha, List.mem_append] at hb
        rcases hb with hb | hb
        · exact i1 b hb
        · rw [List.mem_singleton.1 hb]; exact h
      rw [key_is a (by omega) (hok a hm), Option.bind_some]
      refine Is.bind (φ := fun c => c = true ↔ ¬ (a.op = u ∨ a ∈ s)) ?_ ?_
      · refine Is.ifn (p := a.op = u) dec_iff (fun h => ?_) (fun h => Is.val ?_)
        · refine Is.val ?_
          rw [not_iff_of ((i3 (keyOf a)).trans (key_mem (hok a hm) fun b hb => hok b (hsub b hb)))]
          constructor
          · rintro h1 (h2 | h2)
            · exact h h2
            · exact h1 h2
          · exact fun h1 h2 => h1 (.inr h2)
        · simp [h]
      · intro c hc
        refine Is.ite hc (fun h => ?_) (fun h => ?_)
        · refine Is.appE (by show s.length ≤ BIG; omega) (Is.val ⟨s ++ [a], rfl, hq, ?_, ?_⟩)
          · rw [hst, kstep, if_neg h]
          · rw [List.map_append]
            exact seen_snoc i3 (keyOf a)
        · refine Is.val ⟨s, rfl, hq, ?_, i3⟩
          rw [hst, kstep, if_pos (Classical.not_not.1 h)]
    · rintro ⟨l, m'⟩ ⟨s', rfl, h1, h2, h3⟩
      exact Is.val ⟨(m', s'), rfl, h1, h2, h3⟩
    · rintro b ⟨rfl, h⟩
      show toT (E.mk z 0 []) = toT _
      rw [if_pos (.inl h)]
  · rintro ⟨m, s⟩ ⟨i1, i2, i3⟩
    simp only at i2 i3
    unfold d_expr_combine_1
    refine Is.oub (Is.val ?_)
    rw [List.take_length] at i1 i2
    rw [← i2] at k1 k2 k3 ⊢
    clear i2
    show Is (PM.onInl (loopO (d_expr_combine_2 z (s.map enc) m) 0) _) fun r => r = _
    have hsn := sizes_len s
    have hsub : ∀ b ∈ s, b ∈ fl := fun b hb => ((k1 b).1 hb).1
    refine Is.argall (xs := s) (fun a => ∀ b, a = E.mk 4 0 [b] → b ∉ s) () (by omega) ?_ (by unfold d_expr_combine_2; simp) ?_
    · intro i a ha hi
      unfold d_expr_combine_2
      have hm := List.mem_of_getElem? ha
      have hsz := sizes_mem hm
      refine Is.inb hi (Is.arg ha ?_)
      refine Is.bind (φ := fun c => c = true ↔ ∃ b, a = E.mk 4 0 [b] ∧ b ∈ s) ?_ ?_
      · refine Is.ite (p := a.op = 4) dec_iff (fun h4 => ?_) (fun h4 => Is.val ?_)
        · obtain ⟨b, rfl, hb, _⟩ := (hf a (hsub a hm)).1.four h4
          have hbz : b.size ≤ MID := by
            have := size_args (E.mk 4 0 [b])
            have e : (E.mk 4 0 [b]).args = [b] := rfl
            rw [e] at this
            simp only [sizes] at this; omega
          refine Is.arg0 (xs := [b]) (a := b) rfl ?_
          rw [key_is b hbz hb.ok, Option.bind_some]
          refine Is.val ?_
          rw [i3, key_mem hb.ok fun b hb => hok b (hsub b hb)]
          constructor
          · exact fun h => ⟨b, rfl, h⟩
          · rintro ⟨b', e, h⟩
            have : b = b' := by injection e with _ _ e; injection e
            rw [this]; exact h
        · simp only [Bool.false_eq_true, false_iff]
          rintro ⟨b, rfl, _⟩
          exact h4 rfl
      · intro c hc
        refine Is.ite hc (fun h => Is.val ?_) (fun h => Is.val ⟨rfl, fun b e hb => h ⟨b, e, hb⟩⟩)
        obtain ⟨b, rfl, hb⟩ := h
        show toT (E.mk z 0 []) = toT _
        rw [if_pos (.inr ⟨b, hb, hm⟩)]
    · intro hall
      rw [if_neg (by
        rintro (⟨a, ha, e⟩ | ⟨b, hb, hnb⟩)
        · exact i1 a ha e
        · exact hall _ hnb b rfl hb)]
      exact fin_is o u s
theorem simplify_N (e : E) : ∀ n, e.depth ≤ n → e.size ≤ MID → e.wf 1073741824 → Is (d_expr_simplify_N n (toT e)) fun r => r = toT e.simp := by
  induction e using E.ind with
  | h o v xs ih =>
    intro n hn hsz hw
    rw [E.depth] at hn
    rw [E.size] at hsz
    obtain ⟨n, rfl⟩ : ∃ m, n = m + 1 := ⟨n - 1, by omega⟩
    rw [wf_mk] at hw
    have hrec : (∀ a ∈ xs, a.wf 1073741824) → ∀ a ∈ xs, Is (d_expr_simplify_N n (toT a)) fun r => r = toT a.simp := fun h a hm => ih a hm n (by have := depths_mem hm; omega) (by have := sizes_mem hm; omega) (h a hm)
    show Is (d_expr_simplify_F (d_expr_simplify_N n) ⟨o, v, xs.map enc⟩) _
    rw [simp_mk, simpF]
    unfold d_expr_simplify_F
    rcases hw with ⟨h, rfl, rfl⟩ | ⟨rfl, h1, h2, rfl⟩ | ⟨rfl, rfl, hl, hw⟩ | ⟨h, rfl, hw⟩
    · rw [if_neg (by omega), if_neg (by omega), if_neg (by omega)]
      rw [show decide (o = 4) = false from decide_eq_false (by omega), show decide (o = 5) = false from decide_eq_false (by omega), show decide (o = 6) = false from decide_eq_false (by omega)]
      exact Is.val rfl
    · exact Is.val rfl
    · rw [if_pos rfl]
      cases xs with
      | nil => cases hl
      | cons a xs =>
        refine Is.arg0 (xs := a :: xs) (a := a) rfl ?_
        refine Is.bind (hrec hw a (by simp)) ?_
        rintro r rfl
        exact Is.bind (neg_is (simp_sim a (hw a (by simp)))) fun r hr => Is.val hr
    · rcases h with rfl | rfl
      · exact Is.bind (combine_is (.inl ⟨rfl, rfl, rfl⟩) _ xs hw (by omega) (hrec hw)) fun r hr => Is.val hr
      · exact Is.bind (combine_is (.inr ⟨rfl, rfl, rfl⟩) _ xs hw (by omega) (hrec hw)) fun r hr => Is.val hr
open Classical in
/-- What Simplify gives. -/
noncomputable def sim (e : E) : E := if e.wf 1073741824 ∧ e.depth ≤ 12 then e.simp else e
theorem Simplify_is (e : E) (hz : e.size ≤ MID) : Is (d_expr_Simplify (toT e)) fun r => r = toT (sim e) := by
  have hM : MID = 20000 := rfl
  have hB : BIG = 4194304 := rfl
  unfold d_expr_Simplify sim
  refine Is.bind (Valid_is 1073741824 e hz) fun b hb => ?_
  refine Is.ifn hb (fun h => ?_) (fun h => ?_)
  · rw [if_neg h]
    exact Is.bind (clone_is e (by omega)) fun r hr => Is.val hr
  · rw [if_pos h]
    exact Is.bind (simplify_N e (recFuel + 1) (by have := e.depth_le_size; unfold recFuel; omega) hz h.1) fun r hr => Is.val hr
/-! ### The reference -/
def opp (a b : E) : Prop := a = .mk 4 0 [b] ∨ b = .mk 4 0 [a]
theorem half_is {a b : E} (ha : Sim a) (hz : a.size ≤ MID) : Is (bif decide ((toT a).Op = 4) then (ixO (toT a).Args 0).bind fun x => (dec_T_api_Expr x).bind fun y => (d_ref18_Same y (toT b)).bind fun r => some r else some false : Option Bool) fun c => c = true ↔ a = .mk 4 0 [b] := by
  have hM : MID = 20000 := rfl
  have hB : BIG = 4194304 := rfl
  refine Is.ite (p := a.op = 4) dec_iff (fun h4 => ?_) (fun h4 => Is.val ?_)
  · obtain ⟨c, rfl, hc, _⟩ := ha.four h4
    refine Is.arg0 (xs := [c]) (a := c) rfl ?_
    have hcz : c.size ≤ BIG := by
      have := size_args (E.mk 4 0 [c])
      have e : (E.mk 4 0 [c]).args = [c] := rfl
      rw [e] at this
      simp only [sizes] at this; omega
    refine Is.bind (RSame_is c b hcz) fun r hr => Is.val ?_
    rw [hr]
    constructor
    · rintro rfl; rfl
    · intro e; injection e with _ _ e; injection e
  · simp only [Bool.false_eq_true, false_iff]
    rintro rfl; exact h4 rfl
theorem opposite_is {a b : E} (ha : Sim a) (hb : Sim b) (hza : a.size ≤ MID) (hzb : b.size ≤ MID) : Is (d_ref18_opposite (toT a) (toT b)) fun r => r = true ↔ opp a b := by
  unfold d_ref18_opposite
  refine Is.bind (half_is ha hza) fun c hc => ?_
  refine Is.bind (φ := fun r => r = true ↔ opp a b) (Is.or hc fun _ => ?_) fun r hr => Is.val hr
  exact Is.bind (half_is hb hzb) fun r hr => Is.val hr
theorem has_is {l : List E} {a : E} (hz : sizes l ≤ MID) : Is (d_ref18_has (l.map enc) (toT a)) fun r => r = true ↔ a ∈ l := by
  have hM : MID = 20000 := rfl
  have hB : BIG = 4194304 := rfl
  have hlen := sizes_len l
  unfold d_ref18_has
  refine Is.argall (xs := l) (fun b => b ≠ a) () (by omega) ?_ (by unfold d_ref18_has_0; simp) ?_
  · intro i b hb hi
    unfold d_ref18_has_0
    have hm := List.mem_of_getElem? hb
    have hsz := sizes_mem hm
    refine Is.inb hi (Is.arg hb (Is.bind (RSame_is b a (by omega)) fun r hr => ?_))
    refine Is.ite hr (fun h => Is.val ?_) (fun h => Is.val ⟨rfl, h⟩)
    subst h
    simp [hm]
  · intro hall
    refine Is.val ?_
    simp only [Bool.false_eq_true, false_iff]
    exact fun h => hall a h rfl
theorem all_is {o u z : Int} (hk : Kind o u z) (ys : List E) (hsim : ∀ a ∈ ys, Sim a) (hz : sizes ys ≤ MID) : Is (d_ref18_all o u z (ys.map enc)) fun r => r = toT (comb o u z ys) := by
  have hM : MID = 20000 := rfl
  have hB : BIG = 4194304 := rfl
  have ho : o = 5 ∨ o = 6 := hk.imp (fun h => h.1) fun h => h.1
  have hu : u = 1 ∨ u = 2 := by rcases hk with h | h <;> omega
  have hlen := sizes_len ys
  have hf := flat_sim ho hsim
  unfold d_ref18_all
  refine Is.argfold (xs := ys) (fun i (s : List E) => (i, s.map enc)) (fun i s => s = flat o (ys.take i)) [] (by omega) rfl ?_ ?_
  · rintro i a s ha hi rfl
    unfold d_ref18_all_0
    have hs1 := sizes_take_le ys (i + 1)
    have hs2 : flat o (ys.take (i + 1)) = flat o (ys.take i) ++ if a.op = o then a.args else [a] := by
      rw [take_get ha]; exact flat_snoc _ _ _
    have hs3 := sizes_flat o (ys.take (i + 1))
    have hs4 := sizes_len (flat o (ys.take (i + 1)))
    rw [hs2, List.length_append] at hs4
    rw [hs2] at hs3
    refine Is.inb hi (Is.onInl (θ := fun x => match x with | .inl v => v = (flat o (ys.take (i + 1))).map enc | .inr _ => False) ?_ ?_ (fun b hb => hb.elim))
    · refine Is.arg ha ?_
      refine Is.ite (p := a.op = o) dec_iff (fun h => ?_) (fun h => ?_)
      · rw [if_pos h] at hs2 hs4 hs3
        refine Is.arg ha (Is.appL (by omega) (Is.val (by rw [hs2])))
      · rw [if_neg h] at hs2 hs4 hs3
        refine Is.arg ha (Is.appE (by omega) (Is.val (by rw [hs2])))
    · rintro v rfl
      exact Is.val ⟨_, rfl, rfl⟩
  rintro fl0 hfl0
  unfold d_ref18_all_0
  refine Is.oub (Is.val ?_)
  rw [List.take_length] at hfl0
  subst hfl0
  have hz2 := sizes_flat o ys
  obtain ⟨k1, k2, k3, _⟩ := keep_spec u (flat o ys)
  show Is _ fun r => r = toT (comb o u z ys)
  unfold comb
  generalize flat o ys = fl at *
  have hl2 := sizes_len fl
  refine Is.argfold (xs := fl) (fun i (s : List E) => (i, s.map enc)) (fun i s => (∀ a ∈ fl.take i, a.op ≠ z) ∧ (∀ j j' a b, j < j' → j' < i → fl[j]? = some a → fl[j']? = some b → ¬ opp a b) ∧ s = keep u (fl.take i)) [] (by omega) ⟨by simp, fun j j' a b h1 h2 => by omega, rfl⟩ ?_ ?_
  · rintro i a s ha hi ⟨i1, i2, i3⟩
    unfold d_ref18_all_1
    have hm := List.mem_of_getElem? ha
    have hsz := sizes_mem hm
    have hst : keep u (fl.take (i + 1)) = kstep u s a := by rw [take_get ha, keep_snoc, ← i3]
    have hsl : sizes s ≤ sizes fl := by
      have h1 := (keep_spec u (fl.take i)).2.2.1
      have h2 := sizes_take_le fl i
      rw [i3]; omega
    have hsn := sizes_len s
    have hil := lt_of_get ha
    refine Is.inb hi (Is.onInl (θ := fun x => match x with | .inl l => ∃ s' : List E, l = s'.map enc ∧ (∀ a ∈ fl.take (i + 1), a.op ≠ z) ∧ (∀ j j' a b, j < j' → j' < i + 1 → fl[j]? = some a → fl[j']? = some b → ¬ opp a b) ∧ s' = keep u (fl.take (i + 1)) | .inr b => b = .inr (.inr (toT (.mk z 0 []))) ∧ absorbs z fl (keep u fl)) ?_ ?_ ?_)
    · refine Is.arg ha ?_
      refine Is.ite (p := a.op = z) dec_iff (fun h => Is.val ⟨rfl, .inl ⟨a, hm, h⟩⟩) (fun h => ?_)
      have hq : ∀ b ∈ fl.take (i + 1), b.op ≠ z := fun b hb => by
        rw [take_get ha, List.mem_append] at hb
        rcases hb with hb | hb
        · exact i1 b hb
        · rw [List.mem_singleton.1 hb]; exact h
      have htl : (fl.take i).length = i := by rw [List.length_take]; omega
      refine Is.all (L := fl.take i) (fun _ b => ¬ opp b a) () (by omega) ?_ (by rw [htl]; unfold d_ref18_all_2; simp) ?_
      · intro j b hb hj _
        unfold d_ref18_all_2
        rw [htl] at hj
        rw [List.getElem?_take, if_pos hj] at hb
        have hmb := List.mem_of_getElem? hb
        have hszb := sizes_mem hmb
        refine Is.inb hj (Is.arg hb (Is.arg ha (Is.bind (opposite_is (hf b hmb).1 (hf a hm).1 (by omega) (by omega)) fun r hr => ?_)))
        refine Is.ite hr (fun h => Is.val ⟨rfl, .inr ?_⟩) (fun h => Is.val ⟨rfl, h⟩)
        rcases h with rfl | rfl
        · obtain ⟨c, e, _, hc⟩ := (hf _ hmb).1.four rfl
          have : a = c := by injection e with _ _ e; injection e
          subst this
          exact ⟨a, (k1 a).2 ⟨hm, by omega⟩, (k1 _).2 ⟨hmb, by show (4 : Int) ≠ u; omega⟩⟩
        · obtain ⟨c, e, _, hc⟩ := (hf _ hm).1.four rfl
          have : b = c := by injection e with _ _ e; injection e
          subst this
          exact ⟨b, (k1 b).2 ⟨hmb, by omega⟩, (k1 _).2 ⟨hm, by show (4 : Int) ≠ u; omega⟩⟩
      · intro hall
        have hop : ∀ j j' a b, j < j' → j' < i + 1 → fl[j]? = some a → fl[j']? = some b → ¬ opp a b := by
          intro j j' c d h1 h2 h3 h4
          by_cases e : j' = i
          · subst e
            rw [ha] at h4; cases h4
            exact hall j c (by rw [List.getElem?_take, if_pos h1]; exact h3)
          · exact i2 j j' c d h1 (by omega) h3 h4
        refine Is.arg ha ?_
        refine Is.bind (φ := fun c => c = true ↔ ¬ (a.op = u ∨ a ∈ s)) ?_ ?_
        · refine Is.ifn (p := a.op = u) dec_iff (fun h => ?_) (fun h => Is.val ?_)
          · refine Is.arg ha (Is.bind (has_is (a := a) (l := s) (by omega)) fun r hr => Is.val ?_)
            rw [not_iff_of hr]
            constructor
            · rintro h1 (h2 | h2)
              · exact h h2
              · exact h1 h2
            · exact fun h1 h2 => h1 (.inr h2)
          · simp [h]
        · intro c hc
          refine Is.ite hc (fun h => ?_) (fun h => ?_)
          · refine Is.arg ha (Is.appE (by omega) (Is.val ⟨s ++ [a], rfl, hq, hop, ?_⟩))
            rw [hst, kstep, if_neg h]
          · refine Is.val ⟨s, rfl, hq, hop, ?_⟩
            rw [hst, kstep, if_pos (Classical.not_not.1 h)]
    · rintro l ⟨s', rfl, h1, h2, h3⟩
      exact Is.val ⟨s', rfl, h1, h2, h3⟩
    · rintro b ⟨rfl, h⟩
      show toT (E.mk z 0 []) = toT _
      rw [if_pos h]
  · rintro s ⟨i1, i2, i3⟩
    unfold d_ref18_all_1
    refine Is.oub (Is.val ?_)
    rw [List.take_length] at i1 i3
    rw [← i3] at k1 k2 k3 ⊢
    rw [if_neg (by
      rintro (⟨a, ha, e⟩ | ⟨b, hb, hnb⟩)
      · exact i1 a ha e
      · obtain ⟨j, hj⟩ := List.getElem?_of_mem ((k1 _).1 hb).1
        obtain ⟨j', hj'⟩ := List.getElem?_of_mem ((k1 _).1 hnb).1
        rcases Nat.lt_trichotomy j j' with h | h | h
        · exact i2 j j' _ _ h (lt_of_get hj') hj hj' (.inr rfl)
        · subst h
          rw [hj] at hj'
          have e : b = E.mk 4 0 [b] := Option.some.inj hj'
          have := congrArg E.size e
          simp only [E.size, sizes] at this
          omega
        · exact i2 j' j _ _ h (lt_of_get hj) hj' hj (.inl rfl))]
    exact fin_is o u s
theorem simple_N (e : E) : ∀ n, e.depth ≤ n → e.size ≤ MID → e.wf 1073741824 → Is (d_ref18_simple_N n (toT e)) fun r => r = toT e.simp := by
  induction e using E.ind with
  | h o v xs ih =>
    intro n hn hsz hw
    have hM : MID = 20000 := rfl
    have hB : BIG = 4194304 := rfl
    rw [E.depth] at hn
    rw [E.size] at hsz
    have hlen := sizes_len xs
    obtain ⟨n, rfl⟩ : ∃ m, n = m + 1 := ⟨n - 1, by omega⟩
    rw [wf_mk] at hw
    have hall : ∀ a ∈ xs, a.wf 1073741824 := by
      rcases hw with ⟨_, _, rfl⟩ | ⟨_, _, _, rfl⟩ | ⟨_, _, _, h⟩ | ⟨_, _, h⟩
      · intro a ha; cases ha
      · intro a ha; cases ha
      · exact h
      · exact h
    show Is (d_ref18_simple_F (d_ref18_simple_N n) ⟨o, v, xs.map enc⟩) _
    rw [simp_mk, simpF]
    unfold d_ref18_simple_F
    refine Is.argmap (xs := xs) (g := E.simp) (by omega) ?_ (fun s => by unfold d_ref18_simple_0; simp) ?_
    · intro i a s ha hi hs
      unfold d_ref18_simple_0
      refine Is.inb hi (Is.arg ha ?_)
      have hm := List.mem_of_getElem? ha
      refine Is.bind (ih a hm n (by have := depths_mem hm; omega) (by have := sizes_mem hm; omega) (hall a hm)) ?_
      rintro r rfl
      exact Is.appE hs (Is.val rfl)
    · have hsim : ∀ a ∈ xs.map E.simp, Sim a := fun a ha => by
        obtain ⟨b, hb, rfl⟩ := List.mem_map.1 ha
        exact simp_sim b (hall b hb)
      have hms := (maps_le xs fun a ha => simp_size a (hall a ha)).1
      rcases hw with ⟨h, rfl, rfl⟩ | ⟨rfl, h1, h2, rfl⟩ | ⟨rfl, rfl, hl, hw⟩ | ⟨h, rfl, hw⟩
      · rw [if_neg (by omega), if_neg (by omega), if_neg (by omega)]
        rw [show decide (o = 4) = false from decide_eq_false (by omega), show decide (o = 5) = false from decide_eq_false (by omega), show decide (o = 6) = false from decide_eq_false (by omega)]
        exact Is.val rfl
      · exact Is.val rfl
      · rw [if_pos rfl]
        cases xs with
        | nil => cases hl
        | cons a xs =>
          refine Is.arg0 (xs := (a :: xs).map E.simp) (a := a.simp) rfl ?_
          exact Is.bind (rnot_is (hsim _ (by simp))) fun r hr => Is.val hr
      · rcases h with rfl | rfl
        · exact Is.bind (all_is (.inl ⟨rfl, rfl, rfl⟩) _ hsim (by omega)) fun r hr => Is.val hr
        · exact Is.bind (all_is (.inr ⟨rfl, rfl, rfl⟩) _ hsim (by omega)) fun r hr => Is.val hr
theorem RSimplify_is (e : E) (hz : e.size ≤ MID) : Is (d_ref18_Simplify (toT e)) fun r => r = toT (sim e) := by
  have hM : MID = 20000 := rfl
  unfold d_ref18_Simplify sim
  refine Is.bind (RValid_is 1073741824 e hz) fun b hb => ?_
  refine Is.ifn hb (fun h => ?_) (fun h => ?_)
  · rw [if_neg h]; exact Is.val rfl
  · rw [if_pos h]
    exact Is.bind (simple_N e (recFuel + 1) (by have := e.depth_le_size; unfold recFuel; omega) hz h.1) fun r hr => Is.val hr
end PM
