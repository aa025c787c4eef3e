/-
  PLAIN, LINKING B: the balises of a way: the program's and the reference's lists are the sorted list of the same balises.
-/
import Derived.Test.YtcobolgkboknbaaDoorLnkA
import Derived.Test.YtcobolgkboknbaaDoorSrtB
import Derived.Test.YtcobolgkboknbaaDoorWalkK
import Derived.Test.YtcobolgkboknbaaDoorLayE
namespace PM
open Go Go.RowKit

def passB (k : Int) (s : T_api_Step) : Bool := decide (k = 1) || ((decide (k = 2) || decide (k = 3)) && ((decide (s.In = 0) && decide (s.Out = 1)) || (decide (s.In = 1) && decide (s.Out = 0))))
theorem linking_passed_eq (k : Int) (s : T_api_Step) : d_linking_passed k s = some (passB k s) := by
  unfold d_linking_passed passB
  by_cases h1 : k = 1
  · simp [h1]
  · by_cases h2 : k = 2
    · simp [h2, onInl, onOut]
    · by_cases h3 : k = 3
      · simp [h3, onInl, onOut]
      · simp [h1, h2, h3, onInl, onOut]
theorem needS_cases {k a b : Int} (h : (needS k a b).2 = true) : (k = 1 ∧ a = 0 ∧ b = 1) ∨ (k = 1 ∧ a = 1 ∧ b = 0) ∨ (k = 2 ∧ a = 0 ∧ b = 1) ∨ (k = 2 ∧ a = 0 ∧ b = 2) ∨ (k = 2 ∧ a = 1 ∧ b = 0) ∨ (k = 2 ∧ a = 2 ∧ b = 0) ∨ (k = 3 ∧ a = 0 ∧ b = 1) ∨ (k = 3 ∧ a = 1 ∧ b = 0) ∨ (k = 3 ∧ a = 2 ∧ b = 3) ∨ (k = 3 ∧ a = 3 ∧ b = 2) := by
  unfold needS at h
  split at h
  · rename_i x hx
    have h1 := List.find?_some hx
    have h2 := List.mem_of_find?_eq_some hx
    simp only [Bool.and_eq_true, decide_eq_true_eq] at h1
    obtain ⟨⟨rfl, rfl⟩, rfl⟩ := h1
    simp only [tab_rail_passages, List.mem_cons, List.not_mem_nil, or_false] at h2
    rcases h2 with rfl | rfl | rfl | rfl | rfl | rfl | rfl | rfl | rfl | rfl <;> simp
  · cases h
theorem ref32_passes_eq {k : Int} {s : T_api_Step} (h : (needS k s.In s.Out).2 = true) : d_ref32_passes k s = some (passB k s) := by
  unfold d_ref32_passes passB
  rcases needS_cases h with ⟨rfl, e1, e2⟩ | ⟨rfl, e1, e2⟩ | ⟨rfl, e1, e2⟩ | ⟨rfl, e1, e2⟩ | ⟨rfl, e1, e2⟩ | ⟨rfl, e1, e2⟩ | ⟨rfl, e1, e2⟩ | ⟨rfl, e1, e2⟩ | ⟨rfl, e1, e2⟩ | ⟨rfl, e1, e2⟩ <;> rw [e1, e2] <;> rfl
def atE (e : T_api_Element) (s : T_api_Step) (B : Int) (b : T_api_Balise) : Int := if s.In = 1 then B + e.Length - b.Offset else B + b.Offset
def lkOf (e : T_api_Element) (s : T_api_Step) (B : Int) (b : T_api_Balise) : T_api_Linked := ⟨b.Id, atE e s B b⟩
def balsAt (l : T_api_Layout) (i : Int) : List T_api_Balise := l.Balises.filter fun b => decide (b.El = i)
def stepE (en : Int) (e : T_api_Element) (s : T_api_Step) (B : Int) (L : List T_api_Balise) : List T_api_Linked := (L.map (lkOf e s B)).filter fun x => decide (x.At ≤ en)
def stepL (l : T_api_Layout) (en B : Int) (s : T_api_Step) : List T_api_Linked :=
  match l.Elements[s.El.toNat]? with
  | some e => if passB e.Kind s = true then stepE en e s B (balsAt l s.El) else []
  | none => []
def linksS (l : T_api_Layout) (en : Int) : Int → List T_api_Step → List T_api_Linked
  | _, [] => []
  | B, s :: w => stepL l en B s ++ linksS l en (B + lenOf l s) w
theorem linksS_snoc (l : T_api_Layout) (en : Int) (s : T_api_Step) : ∀ (w : List T_api_Step) (B : Int), linksS l en B (w ++ [s]) = linksS l en B w ++ stepL l en (B + sumL l w) s
  | [], B => by simp [linksS, sumL]
  | t :: w, B => by
    simp only [List.cons_append, linksS, linksS_snoc l en s w, List.append_assoc, sumL]
    rw [Int.add_assoc]
theorem stepE_len (en : Int) (e : T_api_Element) (s : T_api_Step) (B : Int) (L : List T_api_Balise) : (stepE en e s B L).length ≤ L.length := by
  unfold stepE
  exact Nat.le_trans (List.length_filter_le _ _) (by simp)
theorem stepL_len (l : T_api_Layout) (en B : Int) (s : T_api_Step) : (stepL l en B s).length ≤ l.Balises.length := by
  unfold stepL
  split
  · split
    · exact Nat.le_trans (stepE_len _ _ _ _ _) (List.length_filter_le _ _)
    · simp
  · simp
theorem linksS_len (l : T_api_Layout) (en : Int) : ∀ (w : List T_api_Step) (B : Int), (linksS l en B w).length ≤ w.length * l.Balises.length
  | [], _ => by simp [linksS]
  | s :: w, B => by
    have := linksS_len l en w (B + lenOf l s)
    have := stepL_len l en B s
    simp only [linksS, List.length_append, List.length_cons, Nat.succ_mul]; omega
theorem mem_stepL {l : T_api_Layout} {en B : Int} {s : T_api_Step} {x : T_api_Linked} (h : x ∈ stepL l en B s) : ∃ e b, l.Elements[s.El.toNat]? = some e ∧ passB e.Kind s = true ∧ b ∈ l.Balises ∧ b.El = s.El ∧ x = lkOf e s B b ∧ x.At ≤ en := by
  unfold stepL at h
  split at h
  · rename_i e he
    split at h
    · rename_i hp
      unfold stepE at h
      obtain ⟨h1, h2⟩ := List.mem_filter.1 h
      obtain ⟨b, hb, rfl⟩ := List.mem_map.1 h1
      obtain ⟨h3, h4⟩ := List.mem_filter.1 hb
      exact ⟨e, b, he, hp, h3, by simpa using h4, rfl, by simpa using h2⟩
    · cases h
  · cases h
theorem mem_linksS {l : T_api_Layout} {en : Int} {x : T_api_Linked} : ∀ {w : List T_api_Step} {B : Int}, x ∈ linksS l en B w → ∃ i s, w[i]? = some s ∧ x ∈ stepL l en (B + sumL l (w.take i)) s
  | [], _, h => by cases h
  | s :: w, B, h => by
    simp only [linksS] at h
    rcases List.mem_append.1 h with h | h
    · exact ⟨0, s, rfl, by simpa [sumL] using h⟩
    · obtain ⟨i, t, h1, h2⟩ := mem_linksS h
      exact ⟨i + 1, t, by simpa using h1, by simpa [sumL, Int.add_assoc] using h2⟩
theorem nodup_inj {α β : Type} {f : α → β} : ∀ {l : List α}, (l.map f).Nodup → ∀ {x y : α}, x ∈ l → y ∈ l → f x = f y → x = y
  | [], _, _, _, h, _, _ => by cases h
  | a :: l, hn, x, y, hx, hy, e => by
    simp only [List.map_cons, List.nodup_cons] at hn
    rcases List.mem_cons.1 hx with hxa | hx1
    · rcases List.mem_cons.1 hy with hya | hy1
      · rw [hxa, hya]
      · exact absurd (List.mem_map.2 ⟨y, hy1, by rw [← e, hxa]⟩ : f a ∈ l.map f) hn.1
    · rcases List.mem_cons.1 hy with hya | hy1
      · exact absurd (List.mem_map.2 ⟨x, hx1, by rw [e, hya]⟩ : f a ∈ l.map f) hn.1
      · exact nodup_inj hn.2 hx1 hy1 e
theorem stepL_ids {l : T_api_Layout} (hd : (l.Balises.map (·.Id)).Nodup) (en B : Int) (s : T_api_Step) : ((stepL l en B s).map (·.Id)).Nodup := by
  unfold stepL
  split
  · rename_i e _
    split
    · have h1 : (((balsAt l s.El).map (lkOf e s B)).map (·.Id)) = (balsAt l s.El).map (·.Id) := by
        rw [List.map_map]; rfl
      have h2 : ((balsAt l s.El).map (·.Id)).Nodup := hd.sublist ((List.filter_sublist).map _)
      rw [← h1] at h2
      exact h2.sublist ((List.filter_sublist).map _)
    · exact List.nodup_nil
  · exact List.nodup_nil
theorem linksS_ids {l : T_api_Layout} (hd : (l.Balises.map (·.Id)).Nodup) (en : Int) : ∀ (w : List T_api_Step) (B : Int), (w.map (·.El)).Nodup → ((linksS l en B w).map (·.Id)).Nodup
  | [], _, _ => List.nodup_nil
  | s :: w, B, hw => by
    simp only [List.map_cons, List.nodup_cons] at hw
    simp only [linksS, List.map_append]
    rw [List.nodup_append]
    refine ⟨stepL_ids hd en B s, linksS_ids hd en w _ hw.2, fun a ha b hb e => ?_⟩
    subst e
    obtain ⟨x, hx, rfl⟩ := List.mem_map.1 ha
    obtain ⟨y, hy, hxy⟩ := List.mem_map.1 hb
    obtain ⟨e1, b1, _, _, k1, k2, rfl, _⟩ := mem_stepL hx
    obtain ⟨i, t, ht, hyt⟩ := mem_linksS hy
    obtain ⟨e2, b2, _, _, q1, q2, rfl, _⟩ := mem_stepL hyt
    have : b2 = b1 := nodup_inj hd q1 k1 hxy
    subst this
    exact hw.1 (List.mem_map.2 ⟨t, List.mem_of_getElem? ht, q2.symm.trans k2⟩)
theorem ValidP.els {l : T_api_Layout} {way : List T_api_Step} (h : ValidP l way) : (way.map (·.El)).Nodup := by
  rw [List.nodup_iff_pairwise_ne, List.pairwise_map, List.pairwise_iff_getElem]
  intro i j hi hj hij e
  have := h.apart (List.getElem?_eq_getElem hi) (List.getElem?_eq_getElem hj) e
  omega
theorem linksS_few {l : T_api_Layout} (hO : OkL l) {way : List T_api_Step} (hv : ValidP l way) (en B : Int) : (linksS l en B way).length ≤ 24 := by
  have h1 := linksS_ids hO.bald en way B hv.els
  have h2 : ((linksS l en B way).map (·.Id)).length ≤ (l.Balises.map (·.Id)).length := sub_len h1 fun x hx => by
    obtain ⟨y, hy, rfl⟩ := List.mem_map.1 hx
    obtain ⟨i, t, ht, hyt⟩ := mem_linksS hy
    obtain ⟨e2, b2, _, _, q1, q2, rfl, _⟩ := mem_stepL hyt
    exact List.mem_map.2 ⟨b2, q1, rfl⟩
  have := hO.counts
  unfold CountsP at this
  simp only [List.length_map] at h2
  omega

theorem step_el {l : T_api_Layout} (hO : OkL l) {way : List T_api_Step} (hv : ValidP l way) {i : Nat} {s : T_api_Step} (hs : way[i]? = some s) :
    ∃ e, ixO l.Elements s.El = some e ∧ l.Elements[s.El.toNat]? = some e ∧ hasEl l s.El = true ∧ lenOf l s = e.Length ∧ RightP l e ∧ (needS e.Kind s.In s.Out).2 = true := by
  obtain ⟨t, ht, hp, _⟩ := hv.2.2 i (lt_of_get hs)
  rw [hs] at ht; cases ht
  unfold posS at hp
  cases hh : hasEl l s.El with
  | false => rw [hh] at hp; cases hp
  | true =>
    obtain ⟨x, h1, h2⟩ := hasEl_get hh
    rw [hh, h2] at hp
    exact ⟨x, h1, h2, rfl, by simp [lenOf, hh, h2], hO.elem.1 x (List.mem_of_getElem? h2), hp⟩
theorem sumL_bound {l : T_api_Layout} (hO : OkL l) {way : List T_api_Step} (hv : ValidP l way) : ∀ i, i ≤ way.length → 0 ≤ sumL l (way.take i) ∧ sumL l (way.take i) ≤ (i : Int) * 1000000 := by
  intro i
  induction i with
  | zero => intro _; simp [sumL]
  | succ i ih =>
    intro hi
    have hs : way[i]? = some way[i] := List.getElem?_eq_getElem (by omega)
    obtain ⟨e, _, _, _, h4, h5, _⟩ := step_el hO hv hs
    have := ih (by omega)
    rw [take_snoc hs, sumL_append]
    have h6 := h5.2.1
    simp only [sumL, Int.add_zero, h4]
    omega

theorem mget_gput (fk : T_api_Balise → Int) (m : List (Int × List T_api_Balise)) (k : Int) : (mfind k m).map (·.2) = mget m k := by
  induction m with
  | nil => rfl
  | cons e es ih =>
    unfold mfind mget
    simp only [List.find?_cons]
    by_cases h : k = e.1
    · simp [h]
    · simp only [h, if_false, decide_false]
      unfold mget at ih
      rw [← ih, Option.map_map]; rfl
theorem grp_get (fk : T_api_Balise → Int) (k : Int) (bs : List T_api_Balise) : (mget (grp fk bs) k).getD [] = bs.filter fun b => decide (fk b = k) := by
  suffices ∀ (bs : List T_api_Balise) (m : List (Int × List T_api_Balise)), (mget (bs.foldl (fun m x => gput fk x m) m) k).getD [] = (mget m k).getD [] ++ bs.filter fun b => decide (fk b = k) by
    have := this bs []
    simpa [grp, mget_nil] using this
  intro bs
  induction bs with
  | nil => intro m; simp
  | cons b bs ih =>
    intro m
    simp only [List.foldl_cons]
    rw [ih]
    have e : mget (gput fk b m) k = if k = fk b then some (((mget m (fk b)).getD []) ++ [b]) else mget m k := by
      unfold gput
      rw [mgetS, mget_gput fk]
    rw [e]
    by_cases h : k = fk b
    · subst h
      simp
    · rw [if_neg h, List.filter_cons_of_neg (by simpa using fun q => h q.symm)]
theorem mget_mdel {k k' : Int} (h : k' ≠ k) : ∀ m : List (Int × List T_api_Balise), mget (mdel k m) k' = mget m k'
  | [] => rfl
  | e :: es => by
    have ih := mget_mdel h es
    unfold mdel
    by_cases hk : k = e.1
    · rw [if_pos hk]
      unfold mget
      have : ¬ k' = e.1 := fun q => h (q.trans hk.symm)
      simp [List.find?_cons, this]
    · rw [if_neg hk]
      unfold mget at ih ⊢
      simp only [List.find?_cons]
      by_cases h2 : k' = e.1
      · simp [h2]
      · simp only [h2, decide_false]
        exact ih
theorem linking_Of_in (en B : Int) (m : List (Int × List T_api_Balise)) (s : T_api_Step) (e : T_api_Element) (L : List T_api_Balise) (hm : (mget m s.El).getD [] = L) (hLl : L.length ≤ 1000) (hB : -2147483648 ≤ B ∧ B ≤ 2147483648) (he : 0 ≤ e.Length ∧ e.Length ≤ 1000000) (hoff : ∀ b ∈ L, 0 ≤ b.Offset ∧ b.Offset ≤ 1000000) (acc : List T_api_Linked) (hacc : acc.length ≤ 10000) :
    loopO (d_linking_Of_2 en B m s e) (0, acc) = some (.inl (acc ++ stepE en e s B L)) := by
  suffices Is (loopO (d_linking_Of_2 en B m s e) (0, acc)) fun o => o = .inl (acc ++ stepE en e s B L) by obtain ⟨o, h, rfl⟩ := this; exact h
  have hb : ∀ i, (acc ++ stepE en e s B (L.take i)).length ≤ 20000 := fun i => by
    have := stepE_len en e s B (L.take i)
    simp only [List.length_append, List.length_take] at *; omega
  refine Is.loop (mk := fun (i : Nat) (x : List T_api_Linked) => ((i : Int), x)) L.length (fun i x => x = acc ++ stepE en e s B (L.take i)) acc (by simp [stepE]) ?_ ?_
  · rintro i x hi rfl
    have hx : L[i]? = some L[i] := List.getElem?_eq_getElem hi
    have hof := hoff L[i] (List.getElem_mem hi)
    unfold d_linking_Of_2
    simp only [hm]
    refine Is.inb hi ?_
    have hnext : stepE en e s B (L.take (i + 1)) = stepE en e s B (L.take i) ++ (if atE e s B L[i] ≤ en then [lkOf e s B L[i]] else []) := by
      unfold stepE
      rw [take_get hx, List.map_append, List.filter_append]
      congr 1
      by_cases hc : atE e s B L[i] ≤ en <;> simp [hc, lkOf]
    refine Is.onInl (θ := fun o => o = .inl (acc ++ stepE en e s B (L.take (i + 1)))) ?_ (fun v hv => Is.val ⟨acc ++ stepE en e s B (L.take (i + 1)), by cases hv; rw [w64n (by omega)], rfl⟩) (fun b hb => by cases hb)
    refine Is.at hx ?_
    have hat : (bif decide (s.In = 1) then some (.inl (w64 ((w64 (B + e.Length)) - L[i].Offset))) else some (.inl (w64 (B + L[i].Offset))) : Option (Int ⊕ (List T_api_Linked ⊕ ((Int × List T_api_Linked) ⊕ (List T_api_Linked ⊕ ((List T_api_Linked × List (Int × List T_api_Balise)) ⊕ ((Int × Int × List (Int × List T_api_Balise) × List T_api_Linked) ⊕ (List T_api_Linked ⊕ List T_api_Linked)))))))) = some (.inl (atE e s B L[i])) := by
      unfold atE
      by_cases h1 : s.In = 1
      · rw [decide_eq_true h1, cond_true, if_pos h1, w64_of (n := B + e.Length) (by omega) (by omega), w64_of (by omega) (by omega)]
      · rw [decide_eq_false h1, cond_false, if_neg h1, w64_of (by omega) (by omega)]
    rw [hat]
    simp only [onInl, onOut, Option.bind_some]
    rw [hnext]
    refine Is.ite (p := atE e s B L[i] ≤ en) dec_iff (fun hc => ?_) (fun hc => Is.val ?_)
    · rw [if_pos hc]
      refine Is.bind (Is.app ?_) fun M hM => Is.val ?_
      · have := hb i
        simp only [List.length_cons, List.length_nil, sizeMax, Enc.b]; omega
      · rw [hM, List.append_assoc]; rfl
    · rw [if_neg hc, List.append_nil]
  · rintro x rfl
    unfold d_linking_Of_2
    simp only [hm]
    refine Is.oub (Is.val ?_)
    rw [List.take_length]
theorem linking_Of_is {l : T_api_Layout} (h : Sm l) (hO : OkL l) {way : List T_api_Step} (hv : ValidP l way) {o : Int} (ho : -1073741824 ≤ o ∧ o ≤ 1073741824) (en : Int) :
    ∃ M, d_linking_Of l way o en = some M ∧ M.Perm (linksS l en o way) ∧ M.Pairwise leL := by
  have hw := hv.2.1
  have hbl : l.Balises.length ≤ 24 := by have := hO.counts; unfold CountsP at this; omega
  obtain ⟨r, hr, hri⟩ := walk_Valid_is l way h.jo (by omega)
  unfold d_linking_Of
  rw [hr, hri.2 hv]
  have hgo : groupO (fun (x : T_api_Balise) => x.El) l.Balises = some (grp (fun (x : T_api_Balise) => x.El) l.Balises) := by
    unfold groupO
    rw [if_pos ⟨by omega, by decide⟩]
  simp only [Option.bind_some, Bool.not_true, cond_false, hgo]
  have hloop : Is (loopO (d_linking_Of_1 l way en) (o, 0, grp (fun (x : T_api_Balise) => x.El) l.Balises, ([] : List T_api_Linked))) fun q => q = .inl (linksS l en o way) := by
    refine Is.loop (mk := fun (i : Nat) (x : Int × List (Int × List T_api_Balise) × List T_api_Linked) => (x.1, (i : Int), x.2.1, x.2.2)) way.length
      (fun i x => x.1 = o + sumL l (way.take i) ∧ (∀ j s, i ≤ j → way[j]? = some s → (mget x.2.1 s.El).getD [] = balsAt l s.El) ∧ x.2.2 = linksS l en o (way.take i)) (o, grp (fun (x : T_api_Balise) => x.El) l.Balises, []) ⟨by simp [sumL], fun j s _ _ => grp_get _ _ _, by simp [linksS]⟩ ?_ ?_
    · rintro i ⟨B, m, acc⟩ hi ⟨hB, hm, hacc⟩
      simp only at hB hm hacc
      have hs : way[i]? = some way[i] := List.getElem?_eq_getElem hi
      obtain ⟨e, e1, e2, e3, e4, e5, e6⟩ := step_el hO hv hs
      have hsum := sumL_bound hO hv i (by omega)
      have hlen := e5.2.1
      have hBb : -2147483648 ≤ B ∧ B ≤ 2147483648 := by omega
      have hal : acc.length ≤ 10000 := by
        have := linksS_len l en (way.take i) o
        rw [hacc]
        refine Nat.le_trans this ?_
        have : (way.take i).length * l.Balises.length ≤ 64 * 24 := Nat.mul_le_mul (by simp; omega) hbl
        omega
      have hnB : o + sumL l (way.take (i + 1)) = B + e.Length := by
        rw [take_snoc hs, sumL_append]
        simp only [sumL, Int.add_zero, e4]; omega
      unfold d_linking_Of_1
      refine Is.inb hi (Is.at hs ?_)
      have hel : (decide (way[i].El < 0)) = false ∧ (decide (((l.Elements.length : Nat) : Int) ≤ way[i].El)) = false := by
        unfold hasEl at e3
        simp only [Bool.and_eq_true, decide_eq_true_eq] at e3
        exact ⟨decide_eq_false (by omega), decide_eq_false (by omega)⟩
      rw [hel.1, hel.2]
      simp only [cond_false, Option.bind_some, e1, linking_passed_eq]
      have hstep : stepL l en B way[i] = if passB e.Kind way[i] = true then stepE en e way[i] B (balsAt l way[i].El) else [] := by
        unfold stepL; rw [e2]
      have hoff : ∀ b ∈ balsAt l way[i].El, 0 ≤ b.Offset ∧ b.Offset ≤ 1000000 := fun b hb => by
        obtain ⟨q1, q2⟩ := List.mem_filter.1 hb
        have q2 : b.El = way[i].El := by simpa using q2
        obtain ⟨_, _, _, k1, k2⟩ := hO.bal b q1
        rw [q2] at k2
        unfold elLen at k2
        rw [e2] at k2
        simp only [Option.map_some, Option.getD_some] at k2
        exact ⟨k1, by omega⟩
      have hlk : linksS l en o (way.take (i + 1)) = acc ++ stepL l en B way[i] := by
        rw [take_snoc hs, linksS_snoc, ← hacc, ← hB]
      refine Is.onInl (θ := fun q => ∃ m', q = .inl (acc ++ stepL l en B way[i], m') ∧ ∀ j s, i + 1 ≤ j → way[j]? = some s → (mget m' s.El).getD [] = balsAt l s.El) ?_ ?_ (fun b hb => by obtain ⟨m', hb, _⟩ := hb; cases hb)
      · cases hp : passB e.Kind way[i] with
        | true =>
          rw [hp, if_pos rfl] at hstep
          simp only [cond_true]
          rw [linking_Of_in en B m way[i] e (balsAt l way[i].El) (hm i way[i] (Nat.le_refl _) hs) (by have := List.length_filter_le (fun b : T_api_Balise => decide (b.El = way[i].El)) l.Balises; unfold balsAt; omega) hBb ⟨by omega, by omega⟩ hoff acc hal, ← hstep]
          simp only [onInl, onOut, Option.bind_some]
          refine Is.val ⟨_, rfl, fun j s hj hjs => ?_⟩
          rw [mget_mdel (fun q => ?_)]
          · exact hm j s (by omega) hjs
          · have := hv.apart hjs hs q; omega
        | false =>
          rw [hp] at hstep
          simp only [cond_false]
          refine Is.val ⟨m, ?_, fun j s hj hjs => hm j s (by omega) hjs⟩
          rw [hstep]; simp
      · rintro ⟨v1, v2⟩ ⟨m', hvv, hm'⟩
        cases hvv
        refine Is.val ⟨(w64 (B + e.Length), v2, acc ++ stepL l en B way[i]), by rw [w64n (by omega)], ?_, hm', ?_⟩
        · show w64 (B + e.Length) = _
          rw [w64_of (by omega) (by omega), hnB]
        · exact hlk.symm
    · rintro ⟨B, m, acc⟩ ⟨hB, hm, hacc⟩
      simp only at hacc
      unfold d_linking_Of_1
      refine Is.oub (Is.val ?_)
      rw [hacc, List.take_length]
  obtain ⟨q, hq, rfl⟩ := hloop
  obtain ⟨M, m1, m2, m3⟩ := sortStable_is (linksS l en o way) (by have := linksS_few hO hv en o; omega)
  refine ⟨M, ?_, m2, m3⟩
  rw [hq]
  simp only [onInl, onOut, Option.bind_some, m1]
theorem linking_Of_not {l : T_api_Layout} (h : Sm l) {way : List T_api_Step} (hw : way.length ≤ 1048576) (hv : ¬ ValidP l way) (o en : Int) : d_linking_Of l way o en = some [] := by
  obtain ⟨r, hr, hri⟩ := walk_Valid_is l way h.jo hw
  unfold d_linking_Of
  cases r with
  | true => exact absurd (hri.1 rfl) hv
  | false => rw [hr]; rfl
end PM
