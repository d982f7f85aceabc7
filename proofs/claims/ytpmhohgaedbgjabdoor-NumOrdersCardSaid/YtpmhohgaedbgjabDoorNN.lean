/- Contracts of num.digit, cut, part, Natural. -/
import Derived.Test.YtpmhohgaedbgjabDoorNP
import Derived.Test.YtpmhohgaedbgjabDoorNO
namespace Go.Proofs.YtpmhohgaedbgjabDoor
open Go.RowKit

theorem digit_calls (b : UInt8) (w : World) : Calls Tryd.prog 12 #[.int .u8 b.toNat] w fun e w' => e = .returned (.bool (dig b)) ∧ w = w' := by
  by_cases h1 : 48 ≤ b.toNat
  · by_cases h2 : b.toNat ≤ 57
    · have H : Hid (dig b = true) := Lib.hid (dig_iff.2 ⟨h1, h2⟩)
      go_enter Tryd.func12, Tryd.ntmps12
      go_wp2
      go_ret
      exact ⟨by
        rw [H.out]
        show Ending.returned (.bool (decide ((b.toNat : Int) ≤ 57))) = _
        rw [decide_eq_true (by omega)], rfl⟩
    · have H : Hid (dig b = false) := Lib.hid (by rw [Bool.eq_false_iff]; exact fun e => h2 (dig_iff.1 e).2)
      go_enter Tryd.func12, Tryd.ntmps12
      go_wp2
      go_ret
      exact ⟨by
        rw [H.out]
        show Ending.returned (.bool (decide ((b.toNat : Int) ≤ 57))) = _
        rw [decide_eq_false (by omega)], rfl⟩
  · have H : Hid (dig b = false) := Lib.hid (by rw [Bool.eq_false_iff]; exact fun e => h1 (dig_iff.1 e).1)
    go_enter Tryd.func12, Tryd.ntmps12
    go_wp2
    go_ret
    exact ⟨by rw [H.out]; rfl, rfl⟩

theorem isNaNs_calls (a : Str) (w : World) : Calls Tryd.prog 44 #[S a] w fun e w' => e = .returned (.bool false) ∧ w = w' := by
  go_enter Tryd.func44, Tryd.ntmps44
  go_wp2
  go_ret
  exact ⟨rfl, rfl⟩
theorem cmp_calls (a b : Str) (w : World) : Calls Tryd.prog 25 #[S a, S b] w fun e w' => e = .returned (.int .i64 (cmpS a b)) ∧ w = w' := by
  by_cases h1 : ltb a b = true
  · go_enter Tryd.func25, Tryd.ntmps25
    go_wp2
    go_ret
    exact ⟨by simp [cmpS, h1], rfl⟩
  · have h1' : ltb a b = false := by simpa using h1
    by_cases h2 : ltb b a = true
    · have h3 : (a == b) = false := by
        rw [beq_eq_false_iff_ne]
        exact fun e => ltb_ne h2 e.symm
      go_enter Tryd.func25, Tryd.ntmps25
      go_wp2
      go_ret
      exact ⟨by simp [cmpS, h1', h2], rfl⟩
    · have h2' : ltb b a = false := by simpa using h2
      obtain rfl := ltb_total h1' h2'
      go_enter Tryd.func25, Tryd.ntmps25
      go_wp2
      go_ret
      exact ⟨by simp [cmpS, h1'], rfl⟩
theorem isNaNi_calls (a : Int) (w : World) : Calls Tryd.prog 26 #[I a] w fun e w' => e = .returned (.bool false) ∧ w = w' := by
  go_enter Tryd.func26, Tryd.ntmps26
  go_wp2
  go_ret
  exact ⟨rfl, rfl⟩
theorem cmpi_calls (a b : Int) (w : World) : Calls Tryd.prog 14 #[I a, I b] w fun e w' => e = .returned (.int .i64 (cmpI a b)) ∧ w = w' := by
  by_cases h1 : a < b
  · have H : Hid (cmpI a b = -1) := Lib.hid (by unfold cmpI; rw [if_pos h1])
    go_enter Tryd.func14, Tryd.ntmps14
    go_wp2
    go_ret
    exact ⟨by rw [H.out]; rfl, rfl⟩
  · by_cases h2 : b < a
    · have H : Hid (cmpI a b = 1) := Lib.hid (by unfold cmpI; rw [if_neg h1, if_pos h2])
      go_enter Tryd.func14, Tryd.ntmps14
      go_wp2
      go_ret
      exact ⟨by rw [H.out]; rfl, rfl⟩
    · have H : Hid (cmpI a b = 0) := Lib.hid (by unfold cmpI; rw [if_neg h1, if_neg h2])
      go_enter Tryd.func14, Tryd.ntmps14
      go_wp2
      go_ret
      exact ⟨by rw [H.out]; rfl, rfl⟩

def orI (a b : Int) : Int := if a != 0 then a else b
theorem or_calls (b : Nat) (x y : Int) (w : World) (h0 : w.cell? ⟨b, 0, none⟩ = some (I x)) (h1 : w.cell? ⟨b, 1, none⟩ = some (I y)) : Calls Tryd.prog 24 #[.slice (some ⟨b, 0, none⟩) 2 2] w fun e w' => e = .returned (.int .i64 (orI x y)) ∧ w = w' := by
  go_enter Tryd.func24, Tryd.ntmps24
  go_wp2
  go_loop [8] (fun t => t = .int .i64 0 ∨ (t = .int .i64 1 ∧ x = 0) ∨ (t = .int .i64 2 ∧ x = 0 ∧ y = 0)) (fun t => 2 - (intOf t).toNat)
  case atStart => exact .inl rfl
  case round =>
    rcases hrel with rfl | ⟨rfl, hx⟩ | ⟨rfl, hx, hy⟩
    · cases hc : (x != 0) with
      | true =>
        have H : Hid (orI x y = x) := Lib.hid (by unfold orI; rw [if_pos hc])
        go_wp2
        go_ret
        exact ⟨by rw [H.out]; rfl, rfl⟩
      | false =>
        have H : Hid (x = 0) := Lib.hid (by simpa using hc)
        go_wp2
        go_round
        case rel => exact .inr (.inl ⟨rfl, H.out⟩)
        case measure => decide
    · cases hc : (y != 0) with
      | true =>
        have H : Hid (orI x y = y) := Lib.hid (by unfold orI; rw [hx]; rfl)
        clear hx
        go_wp2
        go_ret
        exact ⟨by rw [H.out]; rfl, rfl⟩
      | false =>
        have H : Hid (x = 0 ∧ y = 0) := Lib.hid ⟨hx, by simpa using hc⟩
        clear hx
        go_wp2
        go_round
        case rel => exact .inr (.inr ⟨rfl, H.out⟩)
        case measure => decide
    · have H : Hid (orI x y = 0) := Lib.hid (by subst hx; subst hy; rfl)
      clear hx hy
      go_wp2
      go_ret
      exact ⟨by rw [H.out]; rfl, rfl⟩

set_option maxHeartbeats 4000000 in
theorem cut_calls (s : Str) (hs : s.length ≤ 140737488351232) (h0 : s ≠ []) (w : World) : Calls Tryd.prog 11 #[S s, .func (.func 12) #[] #[]] w fun e w' => e = .returned (.tuple #[S (s.take (cutN s)), S (s.drop (cutN s))]) ∧ Below w.heap.size w w' := by
  have HL : Hid (cutN s ≤ s.length) := Lib.hid (cutN_le s h0)
  clear h0
  go_enter Tryd.func11, Tryd.ntmps11
  go_wp2
  go_loop [6] (fun t => ∃ k : Nat, k ≤ s.length ∧ t = .int .i64 k ∧ (s.take k).all dig = true) (fun t => s.length - (intOf t).toNat)
  case atStart => exact ⟨0, Nat.zero_le _, rfl, rfl⟩
  case round =>
    obtain ⟨k, hk, rfl, hall⟩ := hrel
    have HA := Lib.hid hall
    clear hall
    by_cases hlt : k < s.length
    · have hbyte : Hid ((((⟨s.toArray⟩ : ByteArray)[k]'hlt).toNat : Int) = ((s[k]).toNat : Int)) := Lib.hid rfl
      cases hd : dig s[k] with
      | true =>
        have HS : Hid ((s.take (k + 1)).all dig = true) := Lib.hid (by
          rw [List.take_succ_eq_append_getElem hlt, List.all_append, HA.out]
          simp [hd])
        have HD := Lib.hid hd
        clear hd
        go_wp2_with (refine (digit_calls (s[k]) _).mono ?_; rintro e w1 ⟨rfl, rfl⟩; rw [HD.out])
        go_round
        case rel => exact ⟨k + 1, hlt, by go_num, HS.out⟩
        case measure => simp [intOf]; omega
      | false =>
        have HR : Hid (runN s = k) := Lib.hid (runN_eq s k hk HA.out (fun _ => hd))
        have HD := Lib.hid hd
        clear hd
        rcases Nat.eq_zero_or_pos k with rfl | hk0
        · have HC : Hid (cutN s = 1) := Lib.hid (by unfold cutN; rw [HR.out]; rfl)
          have hl1 : 1 ≤ s.length := by have := HL.out; rw [HC.out] at this; exact this
          have hE1 : (⟨s.toArray⟩ : ByteArray).extract 0 1 = ⟨(s.take 1).toArray⟩ := by rw [Lib.extract_mk]; rfl
          have hE2 : (⟨s.toArray⟩ : ByteArray).extract 1 s.length = ⟨(s.drop 1).toArray⟩ := by rw [Lib.extract_mk, List.take_of_length_le (by simp)]
          go_wp2_with (refine (digit_calls (s[0]) _).mono ?_; rintro e w1 ⟨rfl, rfl⟩; rw [HD.out])
          go_quiet (fail)
          go_wp2
          go_ret2
          refine ⟨?_, ?_⟩
          · rw [HC.out, List.drop_one]; rfl
          · exact ⟨rfl, rfl, rfl, Nat.le_refl _, fun _ _ => rfl⟩
        · have HC : Hid (cutN s = k) := Lib.hid (by unfold cutN; rw [HR.out, if_neg (by omega)])
          have hk1 : ((k : Int) == 0) = false := by rw [beq_eq_false_iff_ne]; omega
          have hE1 : (⟨s.toArray⟩ : ByteArray).extract 0 k = ⟨(s.take k).toArray⟩ := by rw [Lib.extract_mk]; rfl
          have hE2 : (⟨s.toArray⟩ : ByteArray).extract k s.length = ⟨(s.drop k).toArray⟩ := by rw [Lib.extract_mk, List.take_of_length_le (by simp)]
          go_wp2_with (refine (digit_calls (s[k]) _).mono ?_; rintro e w1 ⟨rfl, rfl⟩; rw [HD.out])
          go_quiet (fail)
          go_wp2
          go_ret2
          refine ⟨?_, ?_⟩
          · rw [HC.out]; rfl
          · exact ⟨rfl, rfl, rfl, Nat.le_refl _, fun _ _ => rfl⟩
    · have HR : Hid (runN s = k) := Lib.hid (runN_eq s k hk HA.out (fun h => absurd h hlt))
      rcases Nat.eq_zero_or_pos k with rfl | hk0
      · have HC : Hid (cutN s = 1) := Lib.hid (by unfold cutN; rw [HR.out]; rfl)
        have hl1 : 1 ≤ s.length := by have := HL.out; rw [HC.out] at this; exact this
        have hE1 : (⟨s.toArray⟩ : ByteArray).extract 0 1 = ⟨(s.take 1).toArray⟩ := by rw [Lib.extract_mk]; rfl
        have hE2 : (⟨s.toArray⟩ : ByteArray).extract 1 s.length = ⟨(s.drop 1).toArray⟩ := by rw [Lib.extract_mk, List.take_of_length_le (by simp)]
        go_wp2
        go_quiet (fail)
        go_wp2
        go_ret2
        refine ⟨?_, ?_⟩
        · rw [HC.out, List.drop_one]; rfl
        · exact ⟨rfl, rfl, rfl, Nat.le_refl _, fun _ _ => rfl⟩
      · have HC : Hid (cutN s = k) := Lib.hid (by unfold cutN; rw [HR.out, if_neg (by omega)])
        have hk1 : ((k : Int) == 0) = false := by rw [beq_eq_false_iff_ne]; omega
        have hE1 : (⟨s.toArray⟩ : ByteArray).extract 0 k = ⟨(s.take k).toArray⟩ := by rw [Lib.extract_mk]; rfl
        have hE2 : (⟨s.toArray⟩ : ByteArray).extract k s.length = ⟨(s.drop k).toArray⟩ := by rw [Lib.extract_mk, List.take_of_length_le (by simp)]
        go_wp2
        go_quiet (fail)
        go_wp2
        go_ret2
        refine ⟨?_, ?_⟩
        · rw [HC.out]; rfl
        · exact ⟨rfl, rfl, rfl, Nat.le_refl _, fun _ _ => rfl⟩

theorem partC_or (a b : Str) : partC a b = orI (cmpI (Lib.trimLeftB a 48).length (Lib.trimLeftB b 48).length) (cmpS (Lib.trimLeftB a 48) (Lib.trimLeftB b 48)) := rfl
theorem head_fact (a : Str) (h : a ≠ []) : ∃ (h0 : 0 < a.length) (d : UInt8), (((⟨a.toArray⟩ : ByteArray)[0]'h0).toNat : Int) = (d.toNat : Int) ∧ dig (a.headD 0) = dig d ∧ a = d :: a.drop 1 := by
  cases a with
  | nil => exact absurd rfl h
  | cons c r => exact ⟨by simp, c, rfl, rfl, rfl⟩
theorem trimLeft_calls (s : Str) (w : World) : Calls Tryd.prog 23 #[S s, S [48]] w fun e w' => e = .returned (S (Lib.trimLeftB s 48)) ∧ w = w' := by
  refine (Tryd.strings_TrimLeft_one ⟨s.toArray⟩ 48 (by decide) w).mono ?_
  rintro e w1 ⟨rfl, rfl⟩
  exact ⟨rfl, rfl⟩
end Go.Proofs.YtpmhohgaedbgjabDoor
