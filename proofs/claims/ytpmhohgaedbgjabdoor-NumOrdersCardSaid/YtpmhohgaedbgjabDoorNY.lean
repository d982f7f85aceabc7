/- Contract of linhayref01.Natural. -/
import Derived.Test.YtpmhohgaedbgjabDoorNW
namespace Go.Proofs.YtpmhohgaedbgjabDoor
open Go.RowKit

theorem refS_end {a b : Str} (h : a = [] ∨ b = []) : natS a b = cmpS a b := by rw [natS_end h, cmpS_empty h]
theorem refS_mid {a b : Str} (h : ¬ (a = [] ∨ b = [])) (hz : runN a = 0 ∨ runN b = 0) : natS a b =
    if cmpS (a.take (max1 (runN a))) (b.take (max1 (runN b))) != 0 then cmpS (a.take (max1 (runN a))) (b.take (max1 (runN b))) else natS (a.drop (max1 (runN a))) (b.drop (max1 (runN b))) := by
  rw [natS_step h]
  have ha : a ≠ [] := fun e => h (.inl e)
  have hb : b ≠ [] := fun e => h (.inr e)
  have ca : max1 (runN a) = cutN a := rfl
  have cb : max1 (runN b) = cutN b := rfl
  rw [ca, cb]
  have : partS (a.take (cutN a)) (b.take (cutN b)) = cmpS (a.take (cutN a)) (b.take (cutN b)) := by
    unfold partS
    rw [runN_zero_iff ha, runN_zero_iff hb]
    rcases hz with hz | hz <;> simp [hz]
  rw [this]
theorem refS_num {a b : Str} (h : ¬ (a = [] ∨ b = [])) (hz : ¬ (runN a = 0 ∨ runN b = 0)) : natS a b =
    if partC (a.take (runN a)) (b.take (runN b)) != 0 then partC (a.take (runN a)) (b.take (runN b))
    else if cmpS (a.take (runN a)) (b.take (runN b)) != 0 then cmpS (a.take (runN a)) (b.take (runN b)) else natS (a.drop (runN a)) (b.drop (runN b)) := by
  have := refF_eq (a.length + 1) a b
  show natF (a.length + 1) a b = _
  rw [← this]
  unfold refF
  rw [if_neg h, if_neg hz, refF_eq]
  have ha : a ≠ [] := fun e => h (.inl e)
  have hp := List.length_pos_iff.2 ha
  have hr : runN a ≠ 0 := fun e => hz (.inl e)
  have : natF a.length (a.drop (runN a)) (b.drop (runN b)) = natS (a.drop (runN a)) (b.drop (runN b)) := natF_more _ _ _ _ (by rw [List.length_drop]; omega) (by omega)
  rw [this]

set_option maxHeartbeats 4000000 in
set_option maxRecDepth 100000 in
theorem refNat_mid (a b ta tb da db : Str) (x y : Nat) (ha : a.length ≤ 140737488351232) (hb : b.length ≤ 140737488351232) (h1 : (a == []) = false) (h2 : (b == []) = false) (hxa : x ≤ a.length) (hyb : y ≤ b.length)
    (hEa1 : (⟨a.toArray⟩ : ByteArray).extract 0 x = ⟨ta.toArray⟩) (hEa2 : (⟨a.toArray⟩ : ByteArray).extract x a.length = ⟨da.toArray⟩) (hEb1 : (⟨b.toArray⟩ : ByteArray).extract 0 y = ⟨tb.toArray⟩) (hEb2 : (⟨b.toArray⟩ : ByteArray).extract y b.length = ⟨db.toArray⟩)
    (IH : ∀ w2 : World, Calls Tryd.prog 6 #[S da, S db] w2 fun e w' => e = .returned (I (natS da db)) ∧ ∃ m, w' = w2.drewN m)
    (hmA : max ((runN a : Nat) : Int) 1 = (x : Int)) (hmB : max ((runN b : Nat) : Int) 1 = (y : Int)) (H : Hid (natS a b = if cmpS ta tb != 0 then cmpS ta tb else natS da db))
    (hor : (((runN a : Nat) : Int) == 0) = true ∨ (((runN a : Nat) : Int) == 0) = false ∧ (((runN b : Nat) : Int) == 0) = true) (w : World) : Calls Tryd.prog 6 #[S a, S b] w fun e w' => e = .returned (I (natS a b)) ∧ ∃ m, w' = w.drewN m := by
  rcases hor with h | ⟨h, h'⟩ <;>
  · go_enter Tryd.func6, Tryd.ntmps6
    go_wp2_with (go_at_call 16; refine (run_calls _ (by assumption) _).mono ?_; rintro e w1 ⟨rfl, hw⟩; subst w1)
    go_quiet ((go_at_call 15; exact Calls.quiet_of_same (less_calls _ _ _)))
    generalize cmpS ta tb = c at *
    cases hc : (c != 0) with
    | true =>
      have H2 : Hid (natS a b = c) := Lib.hid (by rw [H.out, hc]; rfl)
      go_wp2
      go_ret
      exact ⟨by rw [H2.out]; rfl, _, rfl⟩
    | false =>
      have H2 : Hid (natS a b = natS da db) := Lib.hid (by rw [H.out, hc]; rfl)
      go_wp2_with fail
      obtain ⟨w2, hw2⟩ : ∃ w2, w2 = w.drewN nq := ⟨_, rfl⟩
      rw [← hw2]
      have HW2 := Lib.hid hw2
      clear hw2
      go_quiet ((go_at_call 6; exact Calls.quiet_of (IH _)))
      go_wp2
      go_ret
      exact ⟨by rw [H2.out]; rfl, _, by rw [HW2.out, World.drewN_drewN]⟩
set_option maxHeartbeats 4000000 in
set_option maxRecDepth 100000 in
theorem refNat_num (a b ta tb da db : Str) (x y : Nat) (ha : a.length ≤ 140737488351232) (hb : b.length ≤ 140737488351232) (h1 : (a == []) = false) (h2 : (b == []) = false) (hxa : x ≤ a.length) (hyb : y ≤ b.length)
    (hEa1 : (⟨a.toArray⟩ : ByteArray).extract 0 x = ⟨ta.toArray⟩) (hEa2 : (⟨a.toArray⟩ : ByteArray).extract x a.length = ⟨da.toArray⟩) (hEb1 : (⟨b.toArray⟩ : ByteArray).extract 0 y = ⟨tb.toArray⟩) (hEb2 : (⟨b.toArray⟩ : ByteArray).extract y b.length = ⟨db.toArray⟩)
    (IH : ∀ w2 : World, Calls Tryd.prog 6 #[S da, S db] w2 fun e w' => e = .returned (I (natS da db)) ∧ ∃ m, w' = w2.drewN m)
    (RA : Hid (runN a = x)) (RB : Hid (runN b = y)) (hx1 : ((x : Int) == 0) = false) (hy1 : ((y : Int) == 0) = false) (HTA : Hid (ta.length ≤ 140737488351232)) (HTB : Hid (tb.length ≤ 140737488351232))
    (H : Hid (natS a b = if partC ta tb != 0 then partC ta tb else if cmpS ta tb != 0 then cmpS ta tb else natS da db)) (w : World) : Calls Tryd.prog 6 #[S a, S b] w fun e w' => e = .returned (I (natS a b)) ∧ ∃ m, w' = w.drewN m := by
  go_enter Tryd.func6, Tryd.ntmps6
  go_wp2_with fail
  refine (run_calls _ (by assumption) _).mono ?_
  rintro e w1 ⟨rfl, hw⟩; subst w1
  rw [RA.out]
  go_wp2_with fail
  refine (run_calls _ (by assumption) _).mono ?_
  rintro e w1 ⟨rfl, hw⟩; subst w1
  rw [RB.out]
  go_wp2_with fail
  have hta := HTA.out
  have htb := HTB.out
  go_quiet ((go_at_call 17; exact Calls.quiet_of_same (bare_calls _ (by assumption) _)))
  clear hta htb
  have HPC : Hid (partC ta tb = if cmpI (Lib.trimLeftB ta 48).length (Lib.trimLeftB tb 48).length != 0 then cmpI (Lib.trimLeftB ta 48).length (Lib.trimLeftB tb 48).length else cmpS (Lib.trimLeftB ta 48) (Lib.trimLeftB tb 48)) := Lib.hid rfl
  generalize Lib.trimLeftB ta 48 = p at *
  generalize Lib.trimLeftB tb 48 = q at *
  by_cases g1 : (p.length : Int) < (q.length : Int)
  · have H2 : Hid (natS a b = -1) := Lib.hid (by rw [H.out, HPC.out]; unfold cmpI; rw [if_pos g1]; rfl)
    go_wp2
    go_ret
    exact ⟨by rw [H2.out]; rfl, _, rfl⟩
  · cases g2 : ((p.length : Int) == (q.length : Int)) with
    | false =>
      have g2' : (q.length : Int) < (p.length : Int) := by
        have := beq_eq_false_iff_ne.1 g2
        omega
      have H2 : Hid (natS a b = 1) := Lib.hid (by rw [H.out, HPC.out]; unfold cmpI; rw [if_neg g1, if_pos g2']; rfl)
      have g3 : (p == q) = false := by
        rw [beq_eq_false_iff_ne]
        rintro rfl
        omega
      clear g2'
      go_wp2
      go_ret
      exact ⟨by rw [H2.out]; rfl, _, rfl⟩
    | true =>
      have HE : Hid (partC ta tb = cmpS p q) := Lib.hid (by rw [HPC.out, cmpI_zero.2 (by simpa using g2)]; rfl)
      cases g3 : ltb p q with
      | true =>
        have H2 : Hid (natS a b = -1) := Lib.hid (by rw [H.out, HE.out]; unfold cmpS; rw [g3]; rfl)
        go_wp2
        go_ret
        exact ⟨by rw [H2.out]; rfl, _, rfl⟩
      | false =>
        cases g4 : (p == q) with
        | false =>
          have g5 : ltb q p = true := by
            cases g : ltb q p with
            | true => rfl
            | false => exact absurd (ltb_total g3 g) (beq_eq_false_iff_ne.1 g4)
          have H2 : Hid (natS a b = 1) := Lib.hid (by rw [H.out, HE.out]; unfold cmpS; rw [g3, g5]; rfl)
          clear g5
          go_wp2
          go_ret
          exact ⟨by rw [H2.out]; rfl, _, rfl⟩
        | true =>
          replace H : Hid (natS a b = if cmpS ta tb != 0 then cmpS ta tb else natS da db) := Lib.hid (by rw [H.out, HE.out, cmpS_zero.2 (by simpa using g4)]; rfl)
          clear HE HPC
          go_wp2_with fail
          obtain ⟨w1, hw1⟩ : ∃ w1, w1 = w.drewN nq := ⟨_, rfl⟩
          rw [← hw1]
          have HW1 := Lib.hid hw1
          clear hw1
          go_quiet ((go_at_call 15; exact Calls.quiet_of_same (less_calls _ _ _)))
          generalize cmpS ta tb = c at *
          cases hc : (c != 0) with
          | true =>
            have H2 : Hid (natS a b = c) := Lib.hid (by rw [H.out, hc]; rfl)
            go_wp2
            go_ret
            exact ⟨by rw [H2.out]; rfl, _, by rw [HW1.out, World.drewN_drewN]⟩
          | false =>
            have H2 : Hid (natS a b = natS da db) := Lib.hid (by rw [H.out, hc]; rfl)
            go_wp2_with fail
            obtain ⟨w2, hw2⟩ : ∃ w2, w2 = w1.drewN nq := ⟨_, rfl⟩
            rw [← hw2]
            have HW2 := Lib.hid hw2
            clear hw2
            go_quiet ((go_at_call 6; exact Calls.quiet_of (IH _)))
            go_wp2
            go_ret
            exact ⟨by rw [H2.out]; rfl, _, by rw [HW2.out, HW1.out, World.drewN_drewN, World.drewN_drewN]⟩
theorem refNat_calls : ∀ (n : Nat) (a b : Str), a.length < n → a.length ≤ 140737488351232 → b.length ≤ 140737488351232 → ∀ (w : World), Calls Tryd.prog 6 #[S a, S b] w fun e w' => e = .returned (I (natS a b)) ∧ ∃ m, w' = w.drewN m := by
  intro n
  induction n with
  | zero => intro a b h; omega
  | succ n ih =>
    intro a b hn ha hb w
    by_cases h : a = [] ∨ b = []
    · have H : Hid (natS a b = cmpS a b) := Lib.hid (refS_end h)
      have hor : (a == []) = true ∨ (a == []) = false ∧ (b == []) = true := by
        cases a with
        | nil => exact .inl rfl
        | cons c r => exact .inr ⟨rfl, by simpa using h⟩
      clear h ih
      rcases hor with h | ⟨h, h'⟩ <;>
      · go_enter Tryd.func6, Tryd.ntmps6
        go_wp2_with (go_at_call 15; refine (less_calls _ _ _).mono ?_; rintro e w1 ⟨rfl, hw⟩; subst w1)
        go_ret
        exact ⟨by rw [H.out]; rfl, 0, rfl⟩
    · have HA : a ≠ [] := fun e => h (.inl e)
      have HB : b ≠ [] := fun e => h (.inr e)
      have h1 : (a == []) = false := beq_eq_false_iff_ne.2 HA
      have h2 : (b == []) = false := beq_eq_false_iff_ne.2 HB
      have HP : 0 < a.length := List.length_pos_iff.2 HA
      have e1 : ∀ (u : Str) (x : Nat), (⟨u.toArray⟩ : ByteArray).extract 0 x = ⟨(u.take x).toArray⟩ := fun u x => by rw [Lib.extract_mk]; rfl
      have e2 : ∀ (u : Str) (x : Nat), (⟨u.toArray⟩ : ByteArray).extract x u.length = ⟨(u.drop x).toArray⟩ := fun u x => by rw [Lib.extract_mk, List.take_of_length_le (by simp)]
      have IH : ∀ x y : Nat, 0 < x → ∀ w2 : World, Calls Tryd.prog 6 #[S (a.drop x), S (b.drop y)] w2 fun e w' => e = .returned (I (natS (a.drop x) (b.drop y))) ∧ ∃ m, w' = w2.drewN m :=
        fun x y hx w2 => ih _ _ (by rw [List.length_drop]; omega) (by rw [List.length_drop]; omega) (by rw [List.length_drop]; omega) w2
      by_cases hz : runN a = 0 ∨ runN b = 0
      · refine refNat_mid a b _ _ _ _ (max1 (runN a)) (max1 (runN b)) ha hb h1 h2 (cutN_le a HA) (cutN_le b HB) (e1 _ _) (e2 _ _) (e1 _ _) (e2 _ _) (IH _ _ (cutN_pos a)) ?_ ?_ (Lib.hid (refS_mid h hz)) ?_ w
        · unfold max1; split <;> omega
        · unfold max1; split <;> omega
        · by_cases h0 : runN a = 0
          · left; rw [h0]; rfl
          · right
            refine ⟨by rw [beq_eq_false_iff_ne]; omega, ?_⟩
            rcases hz with hz | hz
            · exact absurd hz h0
            · rw [hz]; rfl
      · have za : runN a ≠ 0 := fun e => hz (.inl e)
        have zb : runN b ≠ 0 := fun e => hz (.inr e)
        exact refNat_num a b _ _ _ _ (runN a) (runN b) ha hb h1 h2 (runN_le a) (runN_le b) (e1 _ _) (e2 _ _) (e1 _ _) (e2 _ _) (IH _ _ (by omega)) (Lib.hid rfl) (Lib.hid rfl) (by rw [beq_eq_false_iff_ne]; omega) (by rw [beq_eq_false_iff_ne]; omega) (Lib.hid (by rw [List.length_take]; omega)) (Lib.hid (by rw [List.length_take]; omega)) (Lib.hid (refS_num h hz)) w
end Go.Proofs.YtpmhohgaedbgjabDoor
