/- Contracts of num.part, num.Natural. -/
import Derived.Test.YtpmhohgaedbgjabDoorNN
namespace Go.Proofs.YtpmhohgaedbgjabDoor
open Go.RowKit

set_option maxHeartbeats 2000000 in
theorem part_calls (a b : Str) (ha : a.length ≤ 140737488351232) (hb : b.length ≤ 140737488351232) (ha0 : a ≠ []) (hb0 : b ≠ []) (w : World) : Calls Tryd.prog 13 #[S a, S b] w fun e w' => e = .returned (I (partS a b)) ∧ Below w.heap.size w w' := by
  obtain ⟨h1, c, hc, hca, -⟩ := head_fact a ha0
  obtain ⟨h2, d, hd, hdb, -⟩ := head_fact b hb0
  have HP : Hid (partS a b = if dig c && dig d && partC a b != 0 then partC a b else cmpS a b) := Lib.hid (by unfold partS; rw [hca, hdb])
  clear ha0 hb0 hca hdb
  cases hdc : dig c with
  | false =>
    have HF := Lib.hid hdc
    have H : Hid (partS a b = cmpS a b) := Lib.hid (by rw [HP.out, hdc]; rfl)
    clear hdc
    go_enter Tryd.func13, Tryd.ntmps13
    go_wp2_with first | (go_at_call 12; refine (digit_calls c _).mono ?_; rintro e w1 ⟨rfl, rfl⟩; rw [HF.out]) | (go_at_call 25; refine (cmp_calls a b _).mono ?_; rintro e w1 ⟨rfl, rfl⟩)
    go_ret
    exact ⟨by rw [H.out]; rfl, Below.refl _ _⟩
  | true =>
    have HF := Lib.hid hdc
    cases hdd : dig d with
    | false =>
      have HG := Lib.hid hdd
      have H : Hid (partS a b = cmpS a b) := Lib.hid (by rw [HP.out, hdc, hdd]; rfl)
      clear hdc hdd
      go_enter Tryd.func13, Tryd.ntmps13
      go_wp2_with first | (go_at_call 12; refine (digit_calls _ _).mono ?_; rintro e w1 ⟨rfl, rfl⟩; first | rw [HF.out] | rw [HG.out]) | (go_at_call 25; refine (cmp_calls _ _ _).mono ?_; rintro e w1 ⟨rfl, rfl⟩) | (go_at_call 23; refine (trimLeft_calls _ _).mono ?_; rintro e w1 ⟨rfl, rfl⟩) | (go_at_call 14; refine (cmpi_calls _ _ _).mono ?_; rintro e w1 ⟨rfl, rfl⟩)
      go_ret
      exact ⟨by rw [H.out]; rfl, Below.refl _ _⟩
    | true =>
      have HG := Lib.hid hdd
      have H : Hid (partS a b = if orI (cmpI (Lib.trimLeftB a 48).length (Lib.trimLeftB b 48).length) (cmpS (Lib.trimLeftB a 48) (Lib.trimLeftB b 48)) != 0 then orI (cmpI (Lib.trimLeftB a 48).length (Lib.trimLeftB b 48).length) (cmpS (Lib.trimLeftB a 48) (Lib.trimLeftB b 48)) else cmpS a b) := Lib.hid (by rw [HP.out, hdc, hdd, partC_or]; rfl)
      clear hdc hdd
      go_enter Tryd.func13, Tryd.ntmps13
      go_wp2_with first | (go_at_call 12; refine (digit_calls _ _).mono ?_; rintro e w1 ⟨rfl, rfl⟩; first | rw [HF.out] | rw [HG.out]) | (go_at_call 25; refine (cmp_calls _ _ _).mono ?_; rintro e w1 ⟨rfl, rfl⟩) | (go_at_call 23; refine (trimLeft_calls _ _).mono ?_; rintro e w1 ⟨rfl, rfl⟩) | (go_at_call 14; refine (cmpi_calls _ _ _).mono ?_; rintro e w1 ⟨rfl, rfl⟩)
      refine (or_calls _ _ _ _ (World.cell?_alloc_mark _ _ _ _ _) (World.cell?_alloc_mark _ _ _ _ _)).mono ?_
      rintro e w1 ⟨rfl, rfl⟩
      generalize orI (cmpI (Lib.trimLeftB a 48).length (Lib.trimLeftB b 48).length) (cmpS (Lib.trimLeftB a 48) (Lib.trimLeftB b 48)) = r at *
      cases hr : (r != 0) with
      | true =>
        have H2 : Hid (partS a b = r) := Lib.hid (by rw [H.out, if_pos hr])
        go_wp2
        go_ret
        exact ⟨by rw [H2.out]; rfl, (Below.refl _ _).alloc (Nat.le_refl _) _⟩
      | false =>
        have H2 : Hid (partS a b = cmpS a b) := Lib.hid (by rw [H.out, hr]; rfl)
        go_wp2_with (go_at_call 25; refine (cmp_calls _ _ _).mono ?_; rintro e w1 ⟨rfl, rfl⟩)
        go_ret
        exact ⟨by rw [H2.out]; rfl, (Below.refl _ _).alloc (Nat.le_refl _) _⟩

theorem below_trans3 {B : Nat} {a b c : World} (h : Below B a b) (hB : B ≤ b.heap.size) (k : Below b.heap.size b c) : Below B a c := h.trans (k.mono hB)
set_option maxHeartbeats 2000000 in
theorem natural_calls (a0 b0 : Str) (ha0 : a0.length ≤ 140737488351232) (hb0 : b0.length ≤ 140737488351232) (w : World) : Calls Tryd.prog 5 #[S a0, S b0] w fun e w' => e = .returned (I (natS a0 b0)) ∧ Below w.heap.size w w' := by
  go_enter Tryd.func5, Tryd.ntmps5
  go_wp2
  go_loopw [0, 1] (fun t u wr => (∃ a b : Str, t = S a ∧ u = S b ∧ a.length ≤ 140737488351232 ∧ b.length ≤ 140737488351232 ∧ natS a b = natS a0 b0) ∧ Below w.heap.size w wr) (fun t _ _ => match t with | .string x => x.size | _ => 0)
  case atStart => exact ⟨⟨a0, b0, rfl, rfl, ha0, hb0, rfl⟩, Below.refl _ _⟩
  case round =>
    obtain ⟨⟨a, b, rfl, rfl, ha, hb, hn⟩, hB⟩ := hrel
    have HN := Lib.hid hn
    have HB := Lib.hid hB
    clear hn hB
    by_cases h : a = [] ∨ b = []
    · have hor : a = [] ∨ (a == []) = false ∧ b = [] := by
        cases a with
        | nil => exact .inl rfl
        | cons c r => exact .inr ⟨rfl, by simpa using h⟩
      have H : Hid (natS a0 b0 = cmpI a.length b.length) := Lib.hid (by rw [← HN.out, natS_end h])
      clear h
      rcases hor with rfl | ⟨h, rfl⟩
      · replace H : Hid (natS a0 b0 = cmpI 0 b.length) := H
        go_wp2_with (go_at_call 14; refine (cmpi_calls _ _ _).mono ?_; rintro e w1 ⟨rfl, rfl⟩)
        go_ret
        exact ⟨by rw [H.out]; rfl, HB.out⟩
      · replace H : Hid (natS a0 b0 = cmpI a.length 0) := H
        go_wp2_with (go_at_call 14; refine (cmpi_calls _ _ _).mono ?_; rintro e w1 ⟨rfl, rfl⟩)
        go_ret
        exact ⟨by rw [H.out]; rfl, HB.out⟩
    · have H : Hid (natS a0 b0 = if partS (a.take (cutN a)) (b.take (cutN b)) != 0 then partS (a.take (cutN a)) (b.take (cutN b)) else natS (a.drop (cutN a)) (b.drop (cutN b))) := Lib.hid (by rw [← HN.out, natS_step h])
      have HA : Hid (a ≠ []) := Lib.hid (fun e => h (.inl e))
      have HBB : Hid (b ≠ []) := Lib.hid (fun e => h (.inr e))
      have h1 : (a == []) = false := beq_eq_false_iff_ne.2 HA.out
      have h2 : (b == []) = false := beq_eq_false_iff_ne.2 HBB.out
      have HM : Hid ((a.drop (cutN a)).length < a.length) := Lib.hid (by
        have := cutN_pos a
        have := List.length_pos_iff.2 HA.out
        rw [List.length_drop]; omega)
      have HTA : Hid (a.take (cutN a) ≠ []) := Lib.hid (by
        have := cutN_pos a
        have := List.length_pos_iff.2 HA.out
        exact fun e => by have := congrArg List.length e; rw [List.length_take, List.length_nil] at this; omega)
      have HTB : Hid (b.take (cutN b) ≠ []) := Lib.hid (by
        have := cutN_pos b
        have := List.length_pos_iff.2 HBB.out
        exact fun e => by have := congrArg List.length e; rw [List.length_take, List.length_nil] at this; omega)
      clear h
      go_wp2_with fail
      refine (cut_calls a ha HA.out _).mono ?_
      rintro e w1 ⟨rfl, hb1⟩
      have HB1 := Lib.hid (below_trans3 HB.out HB.out.size hb1); clear hb1
      go_wp2_with fail
      refine (cut_calls b hb HBB.out _).mono ?_
      rintro e w2 ⟨rfl, hb2⟩
      have HB2 := Lib.hid (below_trans3 HB1.out HB1.out.size hb2); clear hb2
      go_wp2_with fail
      refine (part_calls _ _ (by simp; omega) (by simp; omega) HTA.out HTB.out _).mono ?_
      rintro e w3 ⟨rfl, hb3⟩
      have HB3 := Lib.hid (below_trans3 HB2.out HB2.out.size hb3); clear hb3
      generalize partS (a.take (cutN a)) (b.take (cutN b)) = r at *
      cases hr : (r != 0) with
      | true =>
        have H2 : Hid (natS a0 b0 = r) := Lib.hid (by rw [H.out, if_pos hr])
        go_wp2
        go_ret
        exact ⟨by rw [H2.out]; rfl, HB3.out⟩
      | false =>
        have H2 : Hid (natS (a.drop (cutN a)) (b.drop (cutN b)) = natS a0 b0) := Lib.hid (by rw [H.out, hr]; rfl)
        go_wp2
        go_roundw
        case rel => exact ⟨⟨a.drop (cutN a), b.drop (cutN b), rfl, rfl, by simp; omega, by simp; omega, H2.out⟩, HB3.out⟩
        case measure =>
          show (⟨(a.drop (cutN a)).toArray⟩ : ByteArray).size < (⟨a.toArray⟩ : ByteArray).size
          rw [Lib.size_mk, Lib.size_mk]
          exact HM.out
end Go.Proofs.YtpmhohgaedbgjabDoor
