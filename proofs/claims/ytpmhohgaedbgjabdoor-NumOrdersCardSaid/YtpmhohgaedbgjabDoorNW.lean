/- Contracts of linhayref01.less, run, bare, Natural. -/
import Derived.Test.YtpmhohgaedbgjabDoorNN
import Derived.Test.YtpmhohgaedbgjabDoorNX
namespace Go.Proofs.YtpmhohgaedbgjabDoor
open Go.RowKit

theorem less_calls (a b : Str) (w : World) : Calls Tryd.prog 15 #[S a, S b] w fun e w' => e = .returned (I (cmpS a b)) ∧ w' = w := by
  by_cases h1 : ltb a b = true
  · go_enter Tryd.func15, Tryd.ntmps15
    go_wp2
    go_ret
    exact ⟨by simp [cmpS, h1], rfl⟩
  · have h1' : ltb a b = false := by simpa using h1
    by_cases h2 : ltb b a = true
    · have h3 : (a == b) = false := by
        rw [beq_eq_false_iff_ne]
        exact fun e => ltb_ne h2 e.symm
      go_enter Tryd.func15, Tryd.ntmps15
      go_wp2
      go_ret
      exact ⟨by simp [cmpS, h1', h2], rfl⟩
    · have h2' : ltb b a = false := by simpa using h2
      obtain rfl := ltb_total h1' h2'
      go_enter Tryd.func15, Tryd.ntmps15
      go_wp2
      go_ret
      exact ⟨by simp [cmpS, h1'], rfl⟩

theorem run_calls (s : Str) (hs : s.length ≤ 140737488351232) (w : World) : Calls Tryd.prog 16 #[S s] w fun e w' => e = .returned (I (runN s)) ∧ w' = w := by
  go_enter Tryd.func16, Tryd.ntmps16
  go_wp2
  go_loop [3] (fun t => ∃ k : Nat, k ≤ s.length ∧ t = .int .i64 k ∧ (s.take k).all dig = true) (fun t => s.length - (intOf t).toNat)
  case atStart => exact ⟨0, Nat.zero_le _, rfl, rfl⟩
  case round =>
    obtain ⟨k, hk, rfl, hall⟩ := hrel
    have HA := Lib.hid hall
    clear hall
    by_cases hlt : k < s.length
    · cases hd : dig s[k] with
      | true =>
        have HS : Hid ((s.take (k + 1)).all dig = true) := Lib.hid (by
          rw [List.take_succ_eq_append_getElem hlt, List.all_append, HA.out]
          simp [hd])
        have hb : 48 ≤ (((⟨s.toArray⟩ : ByteArray)[k]'hlt).toNat : Int) ∧ (((⟨s.toArray⟩ : ByteArray)[k]'hlt).toNat : Int) ≤ 57 := by
          show 48 ≤ ((s[k]).toNat : Int) ∧ ((s[k]).toNat : Int) ≤ 57
          have := dig_iff.1 hd
          omega
        obtain ⟨hb1, hb2⟩ := hb
        clear hd
        go_wp2
        go_round
        case rel => exact ⟨k + 1, hlt, by go_num, HS.out⟩
        case measure => simp [intOf]; omega
      | false =>
        have HR : Hid (runN s = k) := Lib.hid (runN_eq s k hk HA.out (fun _ => hd))
        have hor : ¬ 48 ≤ (((⟨s.toArray⟩ : ByteArray)[k]'hlt).toNat : Int) ∨ (48 ≤ (((⟨s.toArray⟩ : ByteArray)[k]'hlt).toNat : Int) ∧ ¬ (((⟨s.toArray⟩ : ByteArray)[k]'hlt).toNat : Int) ≤ 57) := by
          show ¬ 48 ≤ ((s[k]).toNat : Int) ∨ (48 ≤ ((s[k]).toNat : Int) ∧ ¬ ((s[k]).toNat : Int) ≤ 57)
          have : ¬ (48 ≤ (s[k]).toNat ∧ (s[k]).toNat ≤ 57) := fun h => by rw [dig_iff.2 h] at hd; cases hd
          omega
        clear hd
        rcases hor with h | ⟨h, h'⟩ <;>
        · go_wp2
          go_ret
          exact ⟨by rw [HR.out]; rfl, rfl⟩
    · have HR : Hid (runN s = k) := Lib.hid (runN_eq s k hk HA.out (fun h => absurd h hlt))
      go_wp2
      go_ret
      exact ⟨by rw [HR.out]; rfl, rfl⟩

theorem bare_calls (s0 : Str) (hs0 : s0.length ≤ 140737488351232) (w : World) : Calls Tryd.prog 17 #[S s0] w fun e w' => e = .returned (S (Lib.trimLeftB s0 48)) ∧ w' = w := by
  go_enter Tryd.func17, Tryd.ntmps17
  go_wp2
  go_loop [0] (fun t => ∃ s : Str, t = S s ∧ s.length ≤ 140737488351232 ∧ Lib.trimLeftB s 48 = Lib.trimLeftB s0 48) (fun t => match t with | .string x => x.size | _ => 0)
  case atStart => exact ⟨s0, rfl, hs0, rfl⟩
  case round =>
    obtain ⟨s, rfl, hs, he⟩ := hrel
    have HE := Lib.hid he
    clear he
    by_cases hn : s = []
    · subst hn
      have H : Hid (Lib.trimLeftB s0 48 = []) := Lib.hid (by rw [← HE.out]; rfl)
      go_wp2
      go_ret
      exact ⟨by rw [H.out]; rfl, rfl⟩
    · obtain ⟨h1, d, hd, -, hds⟩ := head_fact s hn
      have hl1 : (s.drop 1).length < s.length := by rw [List.length_drop]; omega
      have hE : (⟨s.toArray⟩ : ByteArray).extract 1 s.length = ⟨(s.drop 1).toArray⟩ := by rw [Lib.extract_mk, List.take_of_length_le (by simp)]
      by_cases hc : d = 48
      · have H : Hid (Lib.trimLeftB (s.drop 1) 48 = Lib.trimLeftB s0 48) := Lib.hid (by
          rw [← HE.out]
          conv => rhs; rw [hds]
          subst hc
          rfl)
        have hb : (((⟨s.toArray⟩ : ByteArray)[0]'h1).toNat : Int) = 48 := by rw [hd, hc]; rfl
        clear hd hds hn
        generalize hg : s.drop 1 = r at *
        clear hg
        go_wp2
        go_round
        case rel => exact ⟨r, rfl, by omega, H.out⟩
        case measure =>
          show (⟨r.toArray⟩ : ByteArray).size < (⟨s.toArray⟩ : ByteArray).size
          rw [Lib.size_mk, Lib.size_mk]
          exact hl1
      · have H : Hid (Lib.trimLeftB s0 48 = s) := Lib.hid (by
          rw [← HE.out, hds]
          unfold Lib.trimLeftB
          rw [List.dropWhile_cons_of_neg (by simpa using hc)])
        have hb : ((((⟨s.toArray⟩ : ByteArray)[0]'h1).toNat : Int) == 48) = false := by
          rw [hd, beq_eq_false_iff_ne]
          intro e
          exact hc (UInt8.toNat_inj.1 (by have : d.toNat = 48 := by omega
                                          simpa using this))
        clear hd hds hn
        go_wp2
        go_ret
        exact ⟨by rw [H.out]; rfl, rfl⟩
end Go.Proofs.YtpmhohgaedbgjabDoor
