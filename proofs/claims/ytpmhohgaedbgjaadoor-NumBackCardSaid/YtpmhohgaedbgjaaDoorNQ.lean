/- Contracts of linhayref01.digits, linhayref01.Parse, linhayref01.Text. -/
import Derived.Test.YtpmhohgaedbgjaaDoorNP
namespace Go.Proofs.YtpmhohgaedbgjaaDoor
open Go.RowKit

theorem digits_calls (s : Str) (hs : s.length ≤ 140737488351232) (w : World) : Calls Tryd.prog 13 #[S s] w fun e w' => e = .returned (.bool (digitsB s)) ∧ w = w' := by
  go_enter Tryd.func13, Tryd.ntmps13
  go_wp2
  go_loop [3] (fun t => ∃ k : Nat, k ≤ s.length ∧ t = .int .i64 k ∧ (s.take k).all dig = true) (fun t => s.length - (intOf t).toNat)
  case atStart => exact ⟨0, Nat.zero_le _, rfl, by simp⟩
  case round =>
    obtain ⟨k, hk, rfl, hno⟩ := hrel
    have HN := Lib.hid hno; clear hno
    by_cases hlt : k < s.length
    · have hs2 : (s.take (k + 1)).all dig = ((s.take k).all dig && dig s[k]) := by
        rw [List.take_succ_eq_append_getElem hlt, List.all_append]
        simp
      have HS := Lib.hid hs2; clear hs2
      cases hz : dig s[k] with
      | false =>
        have hb : digitsB s = false := by
          cases h : digitsB s with
          | false => rfl
          | true =>
            cases s with
            | nil => simp at hlt
            | cons c r =>
              rw [digitsB_cons] at h
              have := List.all_eq_true.1 h.1 _ (List.getElem_mem hlt)
              rw [hz] at this
              cases this
        have HH := Lib.hid hb; clear hb
        have hor : ((((⟨s.toArray⟩ : ByteArray)[k]'hlt).toNat : Int) < 48) ∨ ¬ ((((⟨s.toArray⟩ : ByteArray)[k]'hlt).toNat : Int) < 48) ∧ (57 < (((⟨s.toArray⟩ : ByteArray)[k]'hlt).toNat : Int)) := by
          show (((s[k]).toNat : Int) < 48) ∨ ¬ (((s[k]).toNat : Int) < 48) ∧ (57 < ((s[k]).toNat : Int))
          have : ¬ (48 ≤ (s[k]).toNat ∧ (s[k]).toNat ≤ 57) := fun h => by rw [dig_iff.2 h] at hz; cases hz
          omega
        clear hz
        rcases hor with h | ⟨h, h'⟩
        · go_wp2
          go_ret
          exact ⟨by rw [HH.out]; rfl, rfl⟩
        · go_wp2
          go_ret
          exact ⟨by rw [HH.out]; rfl, rfl⟩
      | true =>
        have h3 : ¬ ((((⟨s.toArray⟩ : ByteArray)[k]'hlt).toNat : Int) < 48) ∧ ¬ (57 < (((⟨s.toArray⟩ : ByteArray)[k]'hlt).toNat : Int)) := by
          show ¬ (((s[k]).toNat : Int) < 48) ∧ ¬ (57 < ((s[k]).toNat : Int))
          have := dig_iff.1 hz
          omega
        obtain ⟨h3, h4⟩ := h3
        have HZ := Lib.hid hz; clear hz
        go_wp2
        go_round
        case rel => exact ⟨k + 1, hlt, by go_num, by rw [HS.out, HN.out, HZ.out]; rfl⟩
        case measure => simp [intOf]; omega
    · have hall : s.all dig = true := by rw [← HN.out, List.take_of_length_le (by omega)]
      by_cases h0 : s = []
      · subst h0
        go_wp2
        go_ret
        exact ⟨rfl, rfl⟩
      · have h0' : (s == []) = false := beq_eq_false_iff_ne.2 h0
        have hpos : 0 < s.length := List.length_pos_iff.2 h0
        have hor : (((((⟨s.toArray⟩ : ByteArray)[0]'hpos).toNat : Int) != 48) = true ∧ digitsB s = true) ∨ (((((⟨s.toArray⟩ : ByteArray)[0]'hpos).toNat : Int) != 48) = false ∧ digitsB s = ((s.length : Int) == 1)) := by
          show ((((s[0]).toNat : Int) != 48) = true ∧ digitsB s = true) ∨ ((((s[0]).toNat : Int) != 48) = false ∧ digitsB s = ((s.length : Int) == 1))
          cases s with
          | nil => exact absurd rfl h0
          | cons c r =>
            show (((c.toNat : Int) != 48) = true ∧ digitsB (c :: r) = true) ∨ (((c.toNat : Int) != 48) = false ∧ _)
            by_cases hc : c = 48
            · subst hc
              right
              refine ⟨rfl, ?_⟩
              rw [Bool.eq_iff_iff, digitsB_cons]
              simp only [hall, ne_eq, not_true, false_or, true_and, beq_iff_eq, List.length_cons]
              constructor
              · rintro rfl; rfl
              · intro h
                exact List.length_eq_zero_iff.1 (by omega)
            · left
              refine ⟨?_, digitsB_cons.2 ⟨hall, .inl hc⟩⟩
              rw [bne_iff_ne]
              intro e
              exact hc (UInt8.toNat_inj.1 (by have : c.toNat = 48 := by omega
                                              simpa using this))
        clear hall
        rcases hor with ⟨h1, h2⟩ | ⟨h1, h2⟩
        · have HH := Lib.hid h2; clear h2
          go_wp2
          go_ret
          exact ⟨by rw [HH.out]; rfl, rfl⟩
        · have HH := Lib.hid h2; clear h2
          go_wp2
          go_ret
          exact ⟨by rw [HH.out]; rfl, rfl⟩
end Go.Proofs.YtpmhohgaedbgjaaDoor
