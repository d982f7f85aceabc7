/- The law linhaylaw01.lives, walked. -/
import Derived.Test.YtpmhohgaedbgjabDoorNV
namespace Go.Proofs.YtpmhohgaedbgjabDoor
open Go.RowKit

theorem parse_calls' (s : Str) (low high : Int) (hs : s.length ≤ 140737488351232) (w : World) (hl : Laid w) : Calls Tryd.prog 9 #[S s, I low, I high] w fun e w' => e = .returned (.tuple #[I (parseS s low high).1, I (parseS s low high).2]) ∧ Below w.heap.size w w' := parse_calls s low high hs w hl
theorem itoa40 : Lib.itoa (-40) = [45, 52, 48] := by
  unfold Lib.itoa
  rw [if_pos (by decide), show (-40 : Int).natAbs = 40 from rfl, Lib.decDigits_two (by decide) (by decide)]
  rfl
theorem lives_calls (w : World) (hl : Laid w) : Calls Tryd.prog 4 #[] w fun e w' => e = .returned (.bool true) ∧ Below w.heap.size w w' := by
  have P1 : Hid (parseS [45, 52, 48] (-40) 0 = (-40, 0)) := Lib.hid (by decide +kernel)
  have P2 : Hid (natS [103, 99, 99, 45, 57] [103, 99, 99, 45, 49, 50] = -1) := Lib.hid (by decide +kernel)
  go_enter Tryd.func4, Tryd.ntmps4
  go_wp2_with fail
  refine (parse_calls' [45, 52, 48] (-40) 0 (by decide) _ hl).mono ?_
  rintro e w1 ⟨rfl, hb1⟩
  rw [P1.out]
  go_wp2_with fail
  refine (text_calls (-40) (by decide) (by decide) _ (hl.stays hb1)).mono ?_
  rintro e w2 ⟨rfl, hb2⟩
  rw [itoa40]
  have hb12 := below_trans hb1 hb2
  go_wp2_with fail
  refine (natural_calls [103, 99, 99, 45, 57] [103, 99, 99, 45, 49, 50] (by decide) (by decide) _).mono ?_
  rintro e w3 ⟨rfl, hb3⟩
  rw [P2.out]
  have hb13 := below_trans hb12 hb3
  go_wp2
  go_ret
  exact ⟨rfl, hb13⟩

end Go.Proofs.YtpmhohgaedbgjabDoor
