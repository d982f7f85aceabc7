/- Contract of linhayref01.Parse. -/
import Derived.Test.YtpmhohgaedbgjaaDoorNQ
namespace Go.Proofs.YtpmhohgaedbgjaaDoor
open Go.RowKit

theorem neg_facts (s : Str) : s = [] ∨ (s == []) = false ∧ ∃ h0 : 0 < s.length, ((((⟨s.toArray⟩ : ByteArray)[0]'h0).toNat : Int) == 45) = isNeg s ∧ (isNeg s = true → body s = s.drop 1) ∧ (isNeg s = false → body s = s) := by
  cases s with
  | nil => exact .inl rfl
  | cons c r =>
    refine .inr ⟨rfl, by simp, ?_, fun h => ?_, fun h => ?_⟩
    · show ((c.toNat : Int) == 45) = (c == 45)
      rw [Bool.eq_iff_iff, beq_iff_eq, beq_iff_eq]
      constructor
      · intro e
        exact UInt8.toNat_inj.1 (by have : c.toNat = 45 := by omega
                                    simpa using this)
      · rintro rfl; rfl
    · unfold body; rw [h]; rfl
    · unfold body; rw [h]; rfl


set_option maxHeartbeats 2000000 in
theorem refParse_calls (s : Str) (low high : Int) (hs : s.length ≤ 140737488351232) (w : World) : Calls Tryd.prog 6 #[S s, I low, I high] w fun e w' => e = .returned (outP (parseS s low high)) ∧ w = w' := by
  rcases neg_facts s with rfl | ⟨hne, h0, h45, hb1, hb2⟩
  · go_enter Tryd.func6, Tryd.ntmps6
    go_wp2_with (go_at_call 13; refine (digits_calls [] (by simp) _).mono ?_; rintro e w1 ⟨rfl, rfl⟩)
    go_ret2
    exact ⟨rfl, rfl⟩
  · have HB1 := Lib.hid hb1; have HB2 := Lib.hid hb2; clear hb1 hb2
    have HP : Hid (formB s = (digitsB (body s) && !(isNeg s && body s == [48]))) := Lib.hid rfl
    cases hneg : isNeg s with
    | false =>
      rw [hneg] at h45
      have hf := HB2.out hneg
      cases hd : digitsB s with
      | false =>
        have H : Hid (parseS s low high = (0, 3)) := Lib.hid (by unfold parseS; rw [HP.out, hf, hd]; rfl)
        clear hneg hf
        have HD := Lib.hid hd
        clear hd
        go_enter Tryd.func6, Tryd.ntmps6
        go_wp2_with (go_at_call 13; refine (digits_calls s (by omega) _).mono ?_; rintro e w1 ⟨rfl, rfl⟩; rw [HD.out])
        go_ret2
        exact ⟨by rw [H.out]; rfl, rfl⟩
      | true =>
        have HM : Hid (parseS s low high = magEnd false (dval s) low high) := Lib.hid (by unfold parseS; rw [HP.out, hf, hd, hneg]; rfl)
        clear hneg hf
        have HD := Lib.hid hd
        have hfne : s ≠ [] := fun e => by rw [e] at hd; cases hd
        have hall : s.all dig = true := by
          revert hd hfne
          cases s with
          | nil => intro _ h; exact absurd rfl h
          | cons c r => intro h _; exact (digitsB_cons.1 h).1
        have HALL := Lib.hid hall
        clear hall hfne
        by_cases hl : 19 < s.length
        · have H : Hid (parseS s low high = (0, 4)) := Lib.hid (by rw [HM.out]; unfold magEnd; rw [if_pos (.inl (dval_long _ hd hl))])
          clear hd
          go_enter Tryd.func6, Tryd.ntmps6
          go_wp2_with (go_at_call 13; refine (digits_calls s (by omega) _).mono ?_; rintro e w1 ⟨rfl, rfl⟩; rw [HD.out])
          go_ret2
          exact ⟨by rw [H.out]; rfl, rfl⟩
        · have hshort := dval_short s HALL.out (by omega)
          clear hd
          go_enter Tryd.func6, Tryd.ntmps6
          go_wp2_with (go_at_call 13; refine (digits_calls s (by omega) _).mono ?_; rintro e w1 ⟨rfl, rfl⟩; rw [HD.out])
          go_loop [10, 11] (fun t u => ∃ k : Nat, k ≤ s.length ∧ t = .int .u64 (dval (s.take k)) ∧ u = .int .i64 k) (fun t u => s.length - (intOf u).toNat)
          case atStart => exact ⟨0, Nat.zero_le _, rfl, rfl⟩
          case round =>
            obtain ⟨k, hk, rfl, rfl⟩ := hrel
            by_cases hlt : k < s.length
            · have hv : dval (s.take (k + 1)) = dval (s.take k) * 10 + ((s[k]).toNat - 48) := by
                rw [List.take_succ_eq_append_getElem hlt, dval_snoc]
              have hb : dval (s.take k) < 1000000000000000000 := by
                have h1 := dvalFrom_lt (s.take k) 0 (List.all_eq_true.2 fun b hb => List.all_eq_true.1 HALL.out b (List.mem_of_mem_take hb))
                rw [List.length_take, Nat.min_eq_left hk] at h1
                have hp : 10 ^ k ≤ 10 ^ 18 := Nat.pow_le_pow_right (by decide) (by omega)
                show dvalFrom 0 (s.take k) < _
                omega
              have hdg : 48 ≤ (((⟨s.toArray⟩ : ByteArray)[k]'hlt).toNat : Int) ∧ (((⟨s.toArray⟩ : ByteArray)[k]'hlt).toNat : Int) ≤ 57 := by
                show 48 ≤ ((s[k]).toNat : Int) ∧ ((s[k]).toNat : Int) ≤ 57
                have := dig_iff.1 (List.all_eq_true.1 HALL.out _ (List.getElem_mem hlt))
                omega
              have hv2 : ((dval (s.take (k + 1)) : Nat) : Int) = (dval (s.take k) : Int) * 10 + ((((⟨s.toArray⟩ : ByteArray)[k]'hlt).toNat : Int) - 48) := by
                show ((dval (s.take (k + 1)) : Nat) : Int) = (dval (s.take k) : Int) * 10 + (((s[k]).toNat : Int) - 48)
                have := dig_iff.1 (List.all_eq_true.1 HALL.out _ (List.getElem_mem hlt))
                omega
              have HV := Lib.hid hv2
              clear hv hv2
              obtain ⟨hd1, hd2⟩ := hdg
              generalize dval (s.take k) = u at *
              go_wp2
              go_round
              case rel =>
                refine ⟨k + 1, hlt, ?_, by go_num⟩
                rw [HV.out]
              case measure => first | (simp [intOf]; done) | (simp [intOf]; omega)
            · have HK : Hid (s.take k = s) := Lib.hid (List.take_of_length_le (by omega))
              rw [HK.out]
              generalize dval s = u at *
              by_cases h1 : 9223372036854775808 < u
              · have H : Hid (parseS s low high = (0, 4)) := Lib.hid (by rw [HM.out]; unfold magEnd; rw [if_pos (.inl h1)])
                go_wp2
                go_ret2
                exact ⟨by rw [H.out]; rfl, rfl⟩
              · have hcase : u = 9223372036854775808 ∨ u < 9223372036854775808 := by omega
                rcases hcase with rfl | h2
                · have H : Hid (parseS s low high = (0, 4)) := Lib.hid (by rw [HM.out]; rfl)
                  go_wp2
                  go_ret2
                  exact ⟨by rw [H.out]; rfl, rfl⟩
                · have HN : Hid (parseS s low high = inR (u : Int) low high) := Lib.hid (by rw [HM.out]; unfold magEnd; rw [if_neg (by simp; omega)]; rfl)
                  have h3 : ((u : Int) == 9223372036854775808) = false := by rw [beq_eq_false_iff_ne]; omega
                  clear h1
                  by_cases hr : (u : Int) < low ∨ high < (u : Int)
                  · have H : Hid (parseS s low high = (0, 4)) := Lib.hid (by rw [HN.out]; unfold inR; rw [if_pos hr])
                    have hr' : (u : Int) < low ∨ ¬ (u : Int) < low ∧ high < (u : Int) := by omega
                    clear hr
                    rcases hr' with hr | ⟨hr, hr'⟩ <;>
                    · go_wp2
                      go_ret2
                      exact ⟨by rw [H.out]; rfl, rfl⟩
                  · have H : Hid (parseS s low high = ((u : Int), 0)) := Lib.hid (by rw [HN.out]; unfold inR; rw [if_neg hr])
                    have hr1 : ¬ (u : Int) < low := by omega
                    have hr2 : ¬ high < (u : Int) := by omega
                    clear hr
                    go_wp2
                    go_ret2
                    exact ⟨by rw [H.out]; rfl, rfl⟩

    | true =>
      rw [hneg] at h45
      have hf := HB1.out hneg
      have hE : (⟨s.toArray⟩ : ByteArray).extract 1 s.length = ⟨(s.drop 1).toArray⟩ := by rw [Lib.extract_mk, List.take_of_length_le (by simp)]
      have hfl : (s.drop 1).length ≤ s.length := by simp
      have HQ : Hid (isNeg s = true) := Lib.hid hneg
      clear hneg
      have HF := Lib.hid hf
      clear hf
      generalize hg : s.drop 1 = f at *
      clear hg
      cases hd : digitsB f with
      | false =>
        have H : Hid (parseS s low high = (0, 3)) := Lib.hid (by unfold parseS; rw [HP.out, HF.out, hd]; rfl)
        have HD := Lib.hid hd
        clear hd
        go_enter Tryd.func6, Tryd.ntmps6
        go_wp2_with (go_at_call 13; refine (digits_calls f (by omega) _).mono ?_; rintro e w1 ⟨rfl, rfl⟩; rw [HD.out])
        go_ret2
        exact ⟨by rw [H.out]; rfl, rfl⟩
      | true =>
        cases h48 : (f == [48]) with
        | true =>
          have H : Hid (parseS s low high = (0, 3)) := Lib.hid (by unfold parseS; rw [HP.out, HF.out, hd, HQ.out, h48]; rfl)
          have HD := Lib.hid hd
          clear hd
          go_enter Tryd.func6, Tryd.ntmps6
          go_wp2_with (go_at_call 13; refine (digits_calls f (by omega) _).mono ?_; rintro e w1 ⟨rfl, rfl⟩; rw [HD.out])
          go_ret2
          exact ⟨by rw [H.out]; rfl, rfl⟩
        | false =>
          have HM : Hid (parseS s low high = magEnd true (dval f) low high) := Lib.hid (by unfold parseS; rw [HP.out, HF.out, hd, HQ.out, h48]; rfl)
          have HD := Lib.hid hd
          have hfne : f ≠ [] := fun e => by rw [e] at hd; cases hd
          have hall : f.all dig = true := by
            revert hd hfne
            cases f with
            | nil => intro _ h; exact absurd rfl h
            | cons c r => intro h _; exact (digitsB_cons.1 h).1
          have HALL := Lib.hid hall
          clear hall hfne
          by_cases hl : 19 < f.length
          · have H : Hid (parseS s low high = (0, 4)) := Lib.hid (by rw [HM.out]; unfold magEnd; rw [if_pos (.inl (dval_long _ hd hl))])
            clear hd
            go_enter Tryd.func6, Tryd.ntmps6
            go_wp2_with (go_at_call 13; refine (digits_calls f (by omega) _).mono ?_; rintro e w1 ⟨rfl, rfl⟩; rw [HD.out])
            go_ret2
            exact ⟨by rw [H.out]; rfl, rfl⟩
          · have hshort := dval_short f HALL.out (by omega)
            clear hd
            go_enter Tryd.func6, Tryd.ntmps6
            go_wp2_with (go_at_call 13; refine (digits_calls f (by omega) _).mono ?_; rintro e w1 ⟨rfl, rfl⟩; rw [HD.out])
            go_loop [10, 11] (fun t u => ∃ k : Nat, k ≤ f.length ∧ t = .int .u64 (dval (f.take k)) ∧ u = .int .i64 k) (fun t u => f.length - (intOf u).toNat)
            case atStart => exact ⟨0, Nat.zero_le _, rfl, rfl⟩
            case round =>
              obtain ⟨k, hk, rfl, rfl⟩ := hrel
              by_cases hlt : k < f.length
              · have hv : dval (f.take (k + 1)) = dval (f.take k) * 10 + ((f[k]).toNat - 48) := by
                  rw [List.take_succ_eq_append_getElem hlt, dval_snoc]
                have hb : dval (f.take k) < 1000000000000000000 := by
                  have h1 := dvalFrom_lt (f.take k) 0 (List.all_eq_true.2 fun b hb => List.all_eq_true.1 HALL.out b (List.mem_of_mem_take hb))
                  rw [List.length_take, Nat.min_eq_left hk] at h1
                  have hp : 10 ^ k ≤ 10 ^ 18 := Nat.pow_le_pow_right (by decide) (by omega)
                  show dvalFrom 0 (f.take k) < _
                  omega
                have hdg : 48 ≤ (((⟨f.toArray⟩ : ByteArray)[k]'hlt).toNat : Int) ∧ (((⟨f.toArray⟩ : ByteArray)[k]'hlt).toNat : Int) ≤ 57 := by
                  show 48 ≤ ((f[k]).toNat : Int) ∧ ((f[k]).toNat : Int) ≤ 57
                  have := dig_iff.1 (List.all_eq_true.1 HALL.out _ (List.getElem_mem hlt))
                  omega
                have hv2 : ((dval (f.take (k + 1)) : Nat) : Int) = (dval (f.take k) : Int) * 10 + ((((⟨f.toArray⟩ : ByteArray)[k]'hlt).toNat : Int) - 48) := by
                  show ((dval (f.take (k + 1)) : Nat) : Int) = (dval (f.take k) : Int) * 10 + (((f[k]).toNat : Int) - 48)
                  have := dig_iff.1 (List.all_eq_true.1 HALL.out _ (List.getElem_mem hlt))
                  omega
                have HV := Lib.hid hv2
                clear hv hv2
                obtain ⟨hd1, hd2⟩ := hdg
                generalize dval (f.take k) = u at *
                go_wp2
                go_round
                case rel =>
                  refine ⟨k + 1, hlt, ?_, by go_num⟩
                  rw [HV.out]
                case measure => first | (simp [intOf]; done) | (simp [intOf]; omega)
              · have HK : Hid (f.take k = f) := Lib.hid (List.take_of_length_le (by omega))
                rw [HK.out]
                generalize dval f = u at *
                by_cases h1 : 9223372036854775808 < u
                · have H : Hid (parseS s low high = (0, 4)) := Lib.hid (by rw [HM.out]; unfold magEnd; rw [if_pos (.inl h1)])
                  go_wp2
                  go_ret2
                  exact ⟨by rw [H.out]; rfl, rfl⟩
                · have HN : Hid (parseS s low high = inR (-(u : Int)) low high) := Lib.hid (by rw [HM.out]; unfold magEnd; rw [if_neg (by simp; omega)]; rfl)
                  have hcase : u = 9223372036854775808 ∨ u < 9223372036854775808 := by omega
                  rcases hcase with rfl | h2
                  · replace HN : Hid (parseS s low high = inR (-9223372036854775808) low high) := Lib.hid (by rw [HM.out]; rfl)
                    clear HM
                    have hz1 : wrap64 9223372036854775808 = -9223372036854775808 := by unfold wrap64; rfl
                    have hz2 : wrap64 (-wrap64 9223372036854775808) = -9223372036854775808 := by unfold wrap64; rfl
                    by_cases hr : (-9223372036854775808) < low ∨ high < (-9223372036854775808)
                    · have H : Hid (parseS s low high = (0, 4)) := Lib.hid (by rw [HN.out]; unfold inR; rw [if_pos hr])
                      have hr' : (-9223372036854775808) < low ∨ ¬ (-9223372036854775808) < low ∧ high < (-9223372036854775808) := by omega
                      clear hr
                      rcases hr' with hr | ⟨hr, hr'⟩ <;>
                      · go_wp2
                        go_ret2
                        exact ⟨by rw [H.out]; rfl, rfl⟩
                    · have H : Hid (parseS s low high = ((-9223372036854775808), 0)) := Lib.hid (by rw [HN.out]; unfold inR; rw [if_neg hr])
                      have hr1 : ¬ (-9223372036854775808) < low := by omega
                      have hr2 : ¬ high < (-9223372036854775808) := by omega
                      clear hr
                      go_wp2
                      go_ret2
                      exact ⟨by rw [H.out]; rfl, rfl⟩
                  · by_cases hr : (-(u : Int)) < low ∨ high < (-(u : Int))
                    · have H : Hid (parseS s low high = (0, 4)) := Lib.hid (by rw [HN.out]; unfold inR; rw [if_pos hr])
                      have hr' : (-(u : Int)) < low ∨ ¬ (-(u : Int)) < low ∧ high < (-(u : Int)) := by omega
                      clear hr
                      rcases hr' with hr | ⟨hr, hr'⟩ <;>
                      · go_wp2
                        go_ret2
                        exact ⟨by rw [H.out]; rfl, rfl⟩
                    · have H : Hid (parseS s low high = ((-(u : Int)), 0)) := Lib.hid (by rw [HN.out]; unfold inR; rw [if_neg hr])
                      have hr1 : ¬ (-(u : Int)) < low := by omega
                      have hr2 : ¬ high < (-(u : Int)) := by omega
                      clear hr
                      go_wp2
                      go_ret2
                      exact ⟨by rw [H.out]; rfl, rfl⟩

end Go.Proofs.YtpmhohgaedbgjaaDoor
