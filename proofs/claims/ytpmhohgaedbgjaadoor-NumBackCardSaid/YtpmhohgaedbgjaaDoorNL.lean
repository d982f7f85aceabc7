/- The laws linhaylaw01.lives, NumTexts, NumBack, walked. -/
import Derived.Test.YtpmhohgaedbgjaaDoorNV
namespace Go.Proofs.YtpmhohgaedbgjaaDoor
open Go.RowKit

theorem parse_calls' (s : Str) (low high : Int) (hs : s.length ≤ 140737488351232) (w : World) (hl : Laid w) : Calls Tryd.prog 5 #[S s, I low, I high] w fun e w' => e = .returned (.tuple #[I (parseS s low high).1, I (parseS s low high).2]) ∧ Below w.heap.size w w' := parse_calls s low high hs w hl
theorem refParse_calls' (s : Str) (low high : Int) (hs : s.length ≤ 140737488351232) (w : World) : Calls Tryd.prog 6 #[S s, I low, I high] w fun e w' => e = .returned (.tuple #[I (parseS s low high).1, I (parseS s low high).2]) ∧ w = w' := refParse_calls s low high hs w
theorem itoa40 : Lib.itoa (-40) = [45, 52, 48] := by
  unfold Lib.itoa
  rw [if_pos (by decide), show (-40 : Int).natAbs = 40 from rfl, Lib.decDigits_two (by decide) (by decide)]
  rfl
theorem lives_calls (w : World) (hl : Laid w) : Calls Tryd.prog 9 #[] w fun e w' => e = .returned (.bool true) ∧ Below w.heap.size w w' := by
  have P1 : Hid (parseS [45, 52, 48] (-40) 0 = (-40, 0)) := Lib.hid (by decide +kernel)
  have P2 : Hid (natS [103, 99, 99, 45, 57] [103, 99, 99, 45, 49, 50] = -1) := Lib.hid (by decide +kernel)
  go_enter Tryd.func9, Tryd.ntmps9
  go_wp2_with fail
  refine (parse_calls' [45, 52, 48] (-40) 0 (by decide) _ hl).mono ?_
  rintro e w1 ⟨rfl, hb1⟩
  rw [P1.out]
  go_wp2_with fail
  refine (text_calls (-40) (by decide) (by decide) _ (hl.stays hb1)).mono ?_
  rintro e w2 ⟨rfl, hb2⟩
  rw [itoa40]
  have hb12 := below_trans hb1 hb2
  go_wp2_with fail
  refine (natural_calls [103, 99, 99, 45, 57] [103, 99, 99, 45, 49, 50] (by decide) (by decide) _).mono ?_
  rintro e w3 ⟨rfl, hb3⟩
  rw [P2.out]
  have hb13 := below_trans hb12 hb3
  go_wp2
  go_ret
  exact ⟨rfl, hb13⟩

theorem numTexts_calls (n : Int) (s : Str) (low : Int) (h0 : -9223372036854775808 ≤ n) (h1 : n ≤ 9223372036854775807) (hs : s.length ≤ 140737488351232) (w : World) (hl : Laid w) : Calls Tryd.prog 3 #[I n, S s, I low] w fun e w' => e = .returned (.bool true) ∧ Below w.heap.size w w' := by
  go_enter Tryd.func3, Tryd.ntmps3
  go_wp2_with fail
  refine (parse_calls' s low n hs _ hl).mono ?_
  rintro e w1 ⟨rfl, hb1⟩
  go_wp2_with fail
  refine (refParse_calls' s low n hs _).mono ?_
  rintro e w2 ⟨rfl, rfl⟩
  generalize parseS s low n = p
  go_wp2_with fail
  refine (text_calls n h0 h1 _ (hl.stays hb1)).mono ?_
  rintro e w2 ⟨rfl, hb2⟩
  have hb12 := below_trans hb1 hb2
  go_wp2_with fail
  refine (refText_calls n h0 h1 _).mono ?_
  rintro e w3 ⟨rfl, hb3⟩
  have hb13 := below_trans hb12 hb3
  generalize Lib.itoa n = x
  go_wp2_with fail
  refine (lives_calls _ (hl.stays hb13)).mono ?_
  rintro e w4 ⟨rfl, hb4⟩
  go_wp2
  go_ret
  exact ⟨rfl, below_trans hb13 hb4⟩

theorem itoa_len (n : Int) (h0 : -9223372036854775808 ≤ n) (h1 : n ≤ 9223372036854775807) : (Lib.itoa n).length ≤ 140737488351232 := Nat.le_trans (Lib.itoa_length_le n h0 h1) (by decide)
theorem numBack_calls (n low high : Int) (h0 : -9223372036854775808 ≤ n) (h1 : n ≤ 9223372036854775807) (w : World) (hl : Laid w) : Calls Tryd.prog 4 #[I n, I low, I high] w fun e w' => e = .returned (.bool true) ∧ Below w.heap.size w w' := by
  by_cases hr : n < low ∨ high < n
  · have hp : Hid (parseS (Lib.itoa n) low high = (0, 4)) := Lib.hid (by rw [parse_itoa n low high h0 h1]; unfold inR; rw [if_pos hr])
    have hr' : n < low ∨ low ≤ n ∧ high < n := by omega
    clear hr
    rcases hr' with hr | ⟨hr, hr'⟩ <;>
    · go_enter Tryd.func4, Tryd.ntmps4
      go_wp2_with fail
      refine (text_calls n h0 h1 _ hl).mono ?_
      rintro e w1 ⟨rfl, hb1⟩
      go_wp2_with fail
      refine (parse_calls' _ low high (itoa_len n h0 h1) _ (hl.stays hb1)).mono ?_
      rintro e w2 ⟨rfl, hb2⟩
      have hb12 := below_trans hb1 hb2
      rw [hp.out]
      go_wp2_with fail
      refine (lives_calls _ (hl.stays hb12)).mono ?_
      rintro e w3 ⟨rfl, hb3⟩
      go_wp2
      go_ret
      first
        | exact ⟨rfl, below_trans hb12 hb3⟩
        | exact ⟨by show Ending.returned (.bool (!decide (n ≤ high))) = _; rw [decide_eq_false (by omega)]; rfl, below_trans hb12 hb3⟩
  · have hp : Hid (parseS (Lib.itoa n) low high = (n, 0)) := Lib.hid (by rw [parse_itoa n low high h0 h1]; unfold inR; rw [if_neg hr])
    have hr1 : low ≤ n := by omega
    have hr2 : n ≤ high := by omega
    clear hr
    go_enter Tryd.func4, Tryd.ntmps4
    go_wp2_with fail
    refine (text_calls n h0 h1 _ hl).mono ?_
    rintro e w1 ⟨rfl, hb1⟩
    go_wp2_with fail
    refine (parse_calls' _ low high (itoa_len n h0 h1) _ (hl.stays hb1)).mono ?_
    rintro e w2 ⟨rfl, hb2⟩
    have hb12 := below_trans hb1 hb2
    rw [hp.out]
    go_wp2_with fail
    refine (lives_calls _ (hl.stays hb12)).mono ?_
    rintro e w3 ⟨rfl, hb3⟩
    go_wp2
    go_ret
    exact ⟨rfl, below_trans hb12 hb3⟩
end Go.Proofs.YtpmhohgaedbgjaaDoor
