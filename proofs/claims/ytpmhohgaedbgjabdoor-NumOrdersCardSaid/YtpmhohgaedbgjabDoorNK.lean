/- The law NumOrders, walked. -/
import Derived.Test.YtpmhohgaedbgjabDoorNI
import Derived.Test.YtpmhohgaedbgjabDoorNZ
import Derived.Test.YtpmhohgaedbgjabDoorNY
namespace Go.Proofs.YtpmhohgaedbgjabDoor
open Go.RowKit

def In1 (n : Int) : Prop := -1 ≤ n ∧ n ≤ 1
theorem cmpI_in (a b : Int) : In1 (cmpI a b) := by unfold In1 cmpI; split <;> (try split) <;> omega
theorem cmpS_in (a b : Str) : In1 (cmpS a b) := by unfold In1 cmpS; split <;> (try split) <;> omega
theorem partC_in (a b : Str) : In1 (partC a b) := by
  unfold partC
  split
  · exact cmpI_in _ _
  · exact cmpS_in _ _
theorem partS_in (a b : Str) : In1 (partS a b) := by
  unfold partS
  split
  · exact partC_in _ _
  · exact cmpS_in _ _
theorem natF_in : ∀ (n : Nat) (a b : Str), In1 (natF n a b)
  | 0, _, _ => by unfold In1 natF; omega
  | n + 1, a, b => by
    unfold natF
    split
    · exact cmpI_in _ _
    · split
      · exact partS_in _ _
      · exact natF_in n _ _
theorem natS_in (a b : Str) : In1 (natS a b) := natF_in _ _ _
theorem natS_eqb (a b : Str) : (natS a b == 0) = (a == b) := by
  rw [Bool.eq_iff_iff, beq_iff_eq, beq_iff_eq]
  exact natS_zero

theorem numOrders_calls (a b : Str) (n : Int) (ha : a.length ≤ 140737488351232) (hb : b.length ≤ 140737488351232) (w : World) (hl : Laid w) : Calls Tryd.prog 3 #[S a, S b, I n] w fun e w' => e = .returned (.bool true) ∧ Below w.heap.size w w' := by
  by_cases h : 2000 < a.length ∨ 2000 < b.length
  · have hor : 2000 < (a.length : Int) ∨ ¬ 2000 < (a.length : Int) ∧ 2000 < (b.length : Int) := by omega
    clear h
    rcases hor with h | ⟨h, h'⟩ <;>
    · go_enter Tryd.func3, Tryd.ntmps3
      go_wp2_with (go_at_call 4; refine (lives_calls _ hl).mono ?_; rintro e w1 ⟨rfl, hb1⟩)
      go_ret
      exact ⟨rfl, hb1⟩
  · have h1 : ¬ 2000 < (a.length : Int) := by omega
    have h2 : ¬ 2000 < (b.length : Int) := by omega
    have ha2 : a.length ≤ 2000 := by omega
    clear h
    obtain ⟨k1, k2⟩ := natS_in a b
    have HZ := natS_eqb a b
    have HN : Hid (natS b a = - natS a b) := Lib.hid (natS_neg a b)
    have HC1 := fun w => natural_calls a b ha hb w
    have HC2 := fun w => natural_calls b a hb ha w
    have HC3 := fun w => refNat_calls (a.length + 1) a b (by omega) ha hb w
    rw [HN.out] at HC2
    generalize natS a b = c at *
    go_enter Tryd.func3, Tryd.ntmps3
    go_wp2_with fail
    refine Calls.mono (HC1 _) ?_
    rintro e w1 ⟨rfl, hb1⟩
    have HB1 := Lib.hid hb1; clear hb1
    go_wp2_with fail
    refine Calls.mono (HC3 _) ?_
    rintro e w2 ⟨rfl, m, hm⟩
    have HB2 : Hid (Below w.heap.size w w2) := Lib.hid (by subst w2; exact below_trans HB1.out ⟨rfl, rfl, rfl, Nat.le_refl _, fun _ _ => rfl⟩)
    clear hm
    go_wp2_with fail
    refine Calls.mono (HC2 _) ?_
    rintro e w3 ⟨rfl, hb3⟩
    have HB3 := Lib.hid (below_trans HB2.out hb3); clear hb3
    go_wp2_with fail
    refine (pad_calls a n ha2 _).mono ?_
    rintro e w4 ⟨rfl, hb4⟩
    have HB4 := Lib.hid (below_trans HB3.out hb4); clear hb4
    go_wp2_with fail
    refine (refPad_calls a n ha2 _).mono ?_
    rintro e w5 ⟨rfl, hw5⟩
    subst w5
    generalize padS a n = p at *
    go_wp2_with fail
    refine (lives_calls _ (hl.stays HB4.out)).mono ?_
    rintro e w6 ⟨rfl, hb6⟩
    go_wp2
    go_ret
    exact ⟨rfl, below_trans HB4.out hb6⟩
end Go.Proofs.YtpmhohgaedbgjabDoor
