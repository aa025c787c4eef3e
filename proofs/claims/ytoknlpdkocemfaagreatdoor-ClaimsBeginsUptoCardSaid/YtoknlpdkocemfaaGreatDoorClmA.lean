/-
  PLAIN, CLAIMS A: trains; Begin; the statement ClaimsBegins.
-/
import Derived.Test.YtoknlpdkocemfaaGreatDoorBodyD
namespace PM
open Go Go.RowKit

theorem law40_alive_eq : d_law40_alive = some true := by kernel_rfl
def RngT (t : T_api_Train) : Prop :=
  (1 ≤ t.Id ∧ t.Id ≤ 99) ∧ (1 ≤ t.Length ∧ t.Length ≤ 50000) ∧ (1 ≤ t.Speed ∧ t.Speed ≤ 10000) ∧ (1 ≤ t.Accel ∧ t.Accel ≤ 200) ∧ (1 ≤ t.Service ∧ t.Service ≤ 200) ∧ (t.Service ≤ t.Emergency ∧ t.Emergency ≤ 200) ∧
    (0 ≤ t.Delay ∧ t.Delay ≤ 5) ∧ (0 ≤ t.Const ∧ t.Const ≤ 500) ∧ (0 ≤ t.Rate ∧ t.Rate ≤ 100)
open Classical in
noncomputable def chkT (t : T_api_Train) : Int := if ¬ NameP t.Name then 3 else if ¬ RngT t then 1 else 0
theorem cond_opt {α : Type} {b : Bool} {x y : α} : (bif b then some x else some y) = some (bif b then x else y) := by cases b <;> rfl
theorem clamp_eq {a lo hi : Int} : a = max lo (min a hi) ↔ (lo ≤ a ∧ a ≤ hi) ∨ (hi < lo ∧ a = lo) := by omega
theorem train_Check_eq {t : T_api_Train} (h : t.Name.size ≤ 1048576) : d_train_Check t = some (chkT t) := by
  suffices Is (d_train_Check t) fun r => r = chkT t by obtain ⟨r, h, rfl⟩ := this; exact h
  unfold d_train_Check d_train_ranged
  refine (words_Name_is _ h).bind fun r hr => Is.ifn hr (fun hn => Is.val (by unfold chkT; rw [if_pos hn])) fun hn => ?_
  simp only [d_num_Clamp, Option.bind_some]
  refine Is.ifn (p := RngT t) ?_ (fun hc => Is.val (by unfold chkT; rw [if_neg (fun q => q hn), if_pos hc])) (fun hc => Is.val (by unfold chkT; rw [if_neg (fun q => q hn), if_neg (fun q => q hc)]))
  simp only [eq_T_api_Train, Bool.and_eq_true, decide_eq_true_eq, and_true, clamp_eq, RngT, true_and]
  omega
theorem ref30_Check_eq {t : T_api_Train} (h : t.Name.size ≤ 1048576) : d_ref30_Check t = some (chkT t) := by
  suffices Is (d_ref30_Check t) fun r => r = chkT t by obtain ⟨r, h, rfl⟩ := this; exact h
  unfold d_ref30_Check
  refine (ref05_Name_val _ h).bind fun r hr => Is.ifn hr (fun hn => Is.val (by unfold chkT; rw [if_pos hn])) fun hn => ?_
  simp only [d_ref30_in, Option.bind_some, cond_opt, Bool.cond_true_left]
  refine ⟨_, rfl, ?_⟩
  by_cases c1 : (1 ≤ t.Id ∧ t.Id ≤ 99) ∧ (1 ≤ t.Length ∧ t.Length ≤ 50000) ∧ (1 ≤ t.Speed ∧ t.Speed ≤ 10000) ∧ (1 ≤ t.Accel ∧ t.Accel ≤ 200) ∧ (1 ≤ t.Service ∧ t.Service ≤ 200)
  · obtain ⟨⟨a1, a2⟩, ⟨a3, a4⟩, ⟨a5, a6⟩, ⟨a7, a8⟩, a9, a10⟩ := c1
    by_cases c2 : (t.Service ≤ t.Emergency ∧ t.Emergency ≤ 200) ∧ (0 ≤ t.Delay ∧ t.Delay ≤ 5) ∧ (0 ≤ t.Const ∧ t.Const ≤ 500) ∧ (0 ≤ t.Rate ∧ t.Rate ≤ 100)
    · have hR : RngT t := ⟨⟨a1, a2⟩, ⟨a3, a4⟩, ⟨a5, a6⟩, ⟨a7, a8⟩, ⟨a9, a10⟩, c2⟩
      obtain ⟨⟨b1, b2⟩, ⟨b3, b4⟩, ⟨b5, b6⟩, b7, b8⟩ := c2
      unfold chkT
      rw [if_neg (fun q => q hn), if_neg (fun q => q hR)]
      simp [a1, a2, a3, a4, a5, a6, a7, a8, a9, a10, b1, b2, b3, b4, b5, b6, b7, b8]
    · have hR : ¬ RngT t := fun q => c2 q.2.2.2.2.2
      unfold chkT
      rw [if_neg (fun q => q hn), if_pos hR]
      simp only [a1, a2, a3, a4, a5, a6, a7, a8, a9, a10, decide_true, Bool.and_self, Bool.not_true, Bool.or_self, cond_false]
      rw [cond_eq_ite, if_pos]
      simp only [Bool.or_eq_true, Bool.not_eq_true', Bool.and_eq_false_iff, decide_eq_false_iff_not]
      omega
  · have hR : ¬ RngT t := fun q => c1 ⟨q.1, q.2.1, q.2.2.1, q.2.2.2.1, q.2.2.2.2.1⟩
    unfold chkT
    rw [if_neg (fun q => q hn), if_pos hR]
    rw [cond_eq_ite, if_pos]
    simp only [Bool.or_eq_true, Bool.not_eq_true', Bool.and_eq_false_iff, decide_eq_false_iff_not]
    omega

theorem claims_sig_eq {l : T_api_Layout} (h : l.Signals.length ≤ 1048576) (e : T_api_End) : d_ref07_Signal l e = some (sigF l.Signals e) := layout_Signal_eq h e
def noTrack : T_api_Track := ⟨0, 0, 0, 0, [], [], [], [], [], 0, 0, 0, 0, 0⟩
theorem begin_is {l : T_api_Layout} (hs : Sm l) {t : T_api_Train} (ht : t.Name.size ≤ 1048576) (b : T_api_Body) (hb : b.Steps.length ≤ 1000) :
    ∃ r, d_claims_Begin l t b = some r ∧ d_ref40_Begin l t b = some r ∧ (r.1 = noTrack ∨ r.1.Steps = b.Steps ∧ r.1.Routes = [] ∧ r.1.Starts = [] ∧ r.1.Ends = [] ∧ r.1.Done = []) := by
  unfold d_claims_Begin d_ref40_Begin
  rw [layout_Check_eq hs, ref07_Check_eq hs]
  simp only [Option.bind_some]
  by_cases h1 : chk l = 0
  · have hl := (chk_ok l).1 h1
    rw [decide_eq_true h1]
    simp only [Bool.not_true, cond_false]
    rw [train_Check_eq ht, ref30_Check_eq ht]
    simp only [Option.bind_some]
    by_cases h2 : chkT t = 0
    · rw [decide_eq_true h2]
      simp only [Bool.not_true, cond_false]
      rw [body_Check_eq hs hl b hb, ref11_Check_eq hs hl b hb]
      simp only [Option.bind_some]
      by_cases h3 : chkB l b = 0
      · rw [decide_eq_true h3]
        have hB := (chkB_ok l b).1 h3
        have hv := hB.1
        by_cases h4 : b.Length = t.Length
        · have hne : b.Steps ≠ [] := hv.ne
          have hlen : 0 < b.Steps.length := List.length_pos_iff.2 hne
          rw [decide_eq_true h4, decide_eq_false (show ¬ ((b.Steps.length : Nat) : Int) = 0 by omega)]
          simp only [Bool.not_true, Bool.or_self, cond_false, Option.bind_some]
          rw [ixO_last hne (by omega)]
          simp only [Option.bind_some]
          rw [layout_Signal_eq hs.sg, claims_sig_eq hs.sg]
          simp only [Option.bind_some]
          by_cases h5 : sigF l.Signals ⟨(b.Steps.getLast hne).El, (b.Steps.getLast hne).Out⟩ < 0
          · rw [decide_eq_true h5]
            exact ⟨(noTrack, 9), rfl, rfl, .inl rfl⟩
          · rw [decide_eq_false h5]
            simp only [cond_false]
            have hin : hasEl l (b.Steps.getLast hne).El = true := hv.has (List.getLast_mem hne)
            obtain ⟨x, x1, x2, _⟩ := len_at hin
            have hsum := hl.sum (way := b.Steps) (fun s hs => hv.has hs)
            have hsd := hl.sum (way := b.Steps.dropLast) (fun s hs => hv.has (List.dropLast_subset _ hs))
            have hll := hl.last hv
            have hdl := sumL_last (l := l) hne
            have hdlen : b.Steps.dropLast.length ≤ b.Steps.length := by rw [List.length_dropLast]; omega
            have hvl := hv.2.1
            have hBd : 1 ≤ b.Head ∧ b.Head ≤ lastLen l b.Steps := hB.head
            rw [w64_of (by omega) (by omega), show ((b.Steps.length : Nat) : Int) - 1 = ((b.Steps.length - 1 : Nat) : Int) by omega, slO_hi (by omega), ← List.dropLast_eq_take, x1, ref09_Length_eq l b.Steps (by omega)]
            simp only [Option.bind_some]
            have hone : sumL l [b.Steps.getLast hne] = lastLen l b.Steps := by rw [lastLen_eq hne]; simp [sumL]
            rw [walk_Length_eq l _ (by omega)]
            simp only [Option.bind_some, d_claims_length]
            rw [walk_Length_eq l [b.Steps.getLast hne] (by simp), hone]
            simp only [Option.bind_some, d_slices_Clone_api_Step]
            obtain ⟨M, hM, hM2⟩ := Is.app (L := ([] : List T_api_Step)) (ys := b.Steps) (by simp only [List.length_nil, sizeMax, Enc.b]; omega)
            rw [hM]
            rw [List.nil_append] at hM2
            subst hM2
            simp only [Option.bind_some]
            have hx : x.Length = lastLen l b.Steps := by rw [lastLen_eq hne]; exact x2
            have hvl2 : ∀ n : Nat, n ≤ 64 → (n : Int) * 1000000 ≤ 64000000 := fun n hn => by omega
            have hsb : sumL l b.Steps ≤ 64000000 := by have := hsum.2; have := hvl2 _ hvl; omega
            have hsdb : 0 ≤ sumL l b.Steps.dropLast := hsd.1
            rw [w64_of (n := sumL l b.Steps) (by omega) (by omega), w64_of (n := sumL l b.Steps.dropLast) (by omega) (by omega), w64_of (n := lastLen l b.Steps) (by omega) (by omega), hx]
            refine ⟨_, rfl, ?_, .inr ⟨rfl, rfl, rfl, rfl, rfl⟩⟩
            rw [show lastLen l b.Steps - sumL l b.Steps = 0 - sumL l b.Steps.dropLast by omega]
        · rw [decide_eq_false h4]
          exact ⟨(noTrack, 1), rfl, rfl, .inl rfl⟩
      · rw [decide_eq_false h3]
        exact ⟨(noTrack, 1), rfl, rfl, .inl rfl⟩
    · rw [decide_eq_false h2]
      exact ⟨(noTrack, 1), rfl, rfl, .inl rfl⟩
  · rw [decide_eq_false h1]
    exact ⟨(noTrack, 1), rfl, rfl, .inl rfl⟩
theorem same07_refl (L : List Int) (h : L.length ≤ 1048576) : d_ref07_SameInts L L = some true := by
  suffices Is (d_ref07_SameInts L L) fun r => r = true by obtain ⟨r, h, rfl⟩ := this; exact h
  unfold d_ref07_SameInts
  rw [decide_eq_true rfl]
  simp only [Bool.not_true, cond_false]
  refine Is.all (L := L) (fun _ _ => True) () (by omega) (fun i x hx hi _ => ?_) (by simp [d_ref07_SameInts_0]) (fun _ => Is.val rfl)
  unfold d_ref07_SameInts_0
  refine Is.inb hi (Is.at hx (Is.at hx ?_))
  rw [decide_eq_true rfl]
  exact Is.val ⟨rfl, trivial⟩
theorem ref40_Same_refl {k : T_api_Track} (h1 : k.Steps.length ≤ 1048576) (h2 : k.Routes.length ≤ 1048576) (h3 : k.Starts.length ≤ 1048576) (h4 : k.Ends.length ≤ 1048576) (h5 : k.Done.length ≤ 1048576) : d_ref40_Same k k = some true := by
  unfold d_ref40_Same
  simp only [decide_true, Bool.not_true, Bool.or_self, cond_false, SameSteps_refl _ h1, same07_refl _ h2, same07_refl _ h3, same07_refl _ h4, same07_refl _ h5, Option.bind_some, cond_true]
theorem claimsBegins_law {l : T_api_Layout} (hs : Sm l) {t : T_api_Train} (ht : t.Name.size ≤ 1048576) (b : T_api_Body) : d_law40_ClaimsBegins l t b = some true := by
  unfold d_law40_ClaimsBegins
  obtain ⟨f, hf⟩ : ∃ f, d_law07_Few l = some f := by
    unfold d_law07_Few
    simp only [Option.bind_some, cond_some, Bool.cond_false_right]
    exact ⟨_, rfl⟩
  rw [hf]
  cases f with
  | false => simp [law40_alive_eq]
  | true =>
    by_cases hb : b.Steps.length ≤ 60
    · rw [decide_eq_false (show ¬ (60 : Int) < ((b.Steps.length : Nat) : Int) by omega)]
      obtain ⟨r, e1, e2, hr⟩ := begin_is hs ht b (by omega)
      have hsame : d_ref40_Same r.1 r.1 = some true := by
        rcases hr with hr | ⟨a1, a2, a3, a4, a5⟩
        · rw [hr]; exact ref40_Same_refl (by simp [noTrack]) (by simp [noTrack]) (by simp [noTrack]) (by simp [noTrack]) (by simp [noTrack])
        · exact ref40_Same_refl (by rw [a1]; omega) (by rw [a2]; simp) (by rw [a3]; simp) (by rw [a4]; simp) (by rw [a5]; simp)
      simp only [Option.bind_some, Bool.not_true, cond_false, e1, e2, decide_true, cond_true, hsame, law40_alive_eq]
    · rw [decide_eq_true (show (60 : Int) < ((b.Steps.length : Nat) : Int) by omega)]
      simp [law40_alive_eq]
end PM
