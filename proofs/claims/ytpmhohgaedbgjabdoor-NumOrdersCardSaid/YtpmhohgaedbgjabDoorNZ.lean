/- Contracts of num.Pad, linhayref01.Pad. -/
import Derived.Test.YtpmhohgaedbgjabDoorNW
import Derived.Laws.Concat
namespace Go.Proofs.YtpmhohgaedbgjabDoor
open Go.RowKit

def padS (s : Str) (n : Int) : Str := if 4096 < n then s else s ++ List.replicate (n - s.length).toNat 32
theorem rep_one (c : Nat) : Lib.repeatL [32] c = List.replicate c 32 := by
  induction c with
  | zero => rfl
  | succ n ih => rw [Lib.repeatL, ih, List.replicate_succ]; rfl
theorem repeat_calls (c : Nat) (hc : c ≤ 4096) (w : World) : Calls Tryd.prog 18 #[S [32], I c] w fun e w' => e = .returned (S (List.replicate c 32)) ∧ Below w.heap.size w w' := by
  have h1 : (⟨#[32]⟩ : ByteArray).size * c ≤ 140737488355328 := by
    have : (⟨#[32]⟩ : ByteArray).size = 1 := rfl
    rw [this]; omega
  have h := Tryd.strings_Repeat ⟨#[32]⟩ c w (by omega) h1
  refine h.mono ?_
  rintro e w1 ⟨rfl, hb⟩
  refine ⟨?_, hb⟩
  rw [← rep_one]
set_option maxRecDepth 100000 in
theorem pad_calls (s : Str) (n : Int) (hs : s.length ≤ 2000) (w : World) : Calls Tryd.prog 7 #[S s, I n] w fun e w' => e = .returned (S (padS s n)) ∧ Below w.heap.size w w' := by
  by_cases h1 : 4096 < n
  · have H : Hid (padS s n = s) := Lib.hid (by unfold padS; rw [if_pos h1])
    go_enter Tryd.func7, Tryd.ntmps7
    go_wp2
    go_ret
    exact ⟨by rw [H.out]; rfl, Below.refl _ _⟩
  · by_cases h2 : n ≤ (s.length : Int)
    · have H : Hid (padS s n = s) := Lib.hid (by unfold padS; rw [if_neg h1, show (n - s.length).toNat = 0 by omega]; simp)
      go_enter Tryd.func7, Tryd.ntmps7
      go_wp2
      go_ret
      exact ⟨by rw [H.out]; rfl, Below.refl _ _⟩
    · obtain ⟨c, hc⟩ : ∃ c : Nat, n = s.length + c := ⟨(n - s.length).toNat, by omega⟩
      have hc1 : c ≤ 4096 := by omega
      have hc0 : 0 < c := by omega
      have H : Hid (padS s n = s ++ List.replicate c 32) := Lib.hid (by unfold padS; rw [if_neg h1, show (n - s.length).toNat = c by omega])

      have hlen : (List.replicate c (32 : UInt8)).length ≤ 4096 := by simp; exact hc1
      have hcat : (⟨s.toArray⟩ ++ ⟨(List.replicate c (32 : UInt8)).toArray⟩ : ByteArray) = ⟨(s ++ List.replicate c 32).toArray⟩ := ByteArray.mk_append_mk s _
      have hd : n - (s.length : Int) = (c : Int) := by omega
      have HR : ∀ w : World, Calls Tryd.prog 18 #[.string ⟨#[32]⟩, .int .i64 (c : Int)] w fun e w' => e = .returned (S (List.replicate c 32)) ∧ Below w.heap.size w w' := repeat_calls c hc1
      subst hc
      generalize List.replicate c (32 : UInt8) = r at *
      go_enter Tryd.func7, Tryd.ntmps7
      go_wp2_with fail
      refine Calls.mono (HR _) ?_
      rintro e w1 ⟨rfl, hb⟩
      go_wp2
      go_ret
      exact ⟨by rw [H.out]; rfl, hb⟩
theorem refPad_calls (s : Str) (n : Int) (hs : s.length ≤ 2000) (w : World) : Calls Tryd.prog 8 #[S s, I n] w fun e w' => e = .returned (S (padS s n)) ∧ w' = w := by
  by_cases h1 : 4096 < n
  · have H : Hid (padS s n = s) := Lib.hid (by unfold padS; rw [if_pos h1])
    go_enter Tryd.func8, Tryd.ntmps8
    go_wp2
    go_ret
    exact ⟨by rw [H.out]; rfl, rfl⟩
  · have HP : Hid (padS s n = s ++ List.replicate (n - s.length).toNat 32) := Lib.hid (by unfold padS; rw [if_neg h1])
    go_enter Tryd.func8, Tryd.ntmps8
    go_wp2
    go_loop [0] (fun t => ∃ (k : Nat) (u : Str), t = S u ∧ u = s ++ List.replicate k 32 ∧ u.length = s.length + k ∧ (k = 0 ∨ (s.length + k : Int) ≤ n)) (fun t => match t with | .string x => 10000 - x.size | _ => 0)
    case atStart => exact ⟨0, s, rfl, by simp, by simp, .inl rfl⟩
    case round =>
      obtain ⟨k, u, rfl, hu, hul, hk⟩ := hrel
      have HU := Lib.hid hu
      clear hu
      by_cases hlt : (u.length : Int) < n
      · have hcat : (⟨u.toArray⟩ ++ ⟨#[32]⟩ : ByteArray) = ⟨(u ++ [32]).toArray⟩ := ByteArray.mk_append_mk u [32]
        have hsz : (u ++ [32]).length = s.length + (k + 1) := by simp [hul]; omega
        have HV : Hid (u ++ [32] = s ++ List.replicate (k + 1) 32) := Lib.hid (by rw [HU.out, List.replicate_succ', List.append_assoc])
        have hul2 : u.length ≤ 9000 := by omega
        generalize u ++ [32] = v at *
        go_wp2
        go_round
        case rel => exact ⟨k + 1, v, rfl, HV.out, hsz, .inr (by omega)⟩
        case measure =>
          show 10000 - (⟨v.toArray⟩ : ByteArray).size < 10000 - (⟨u.toArray⟩ : ByteArray).size
          rw [Lib.size_mk, Lib.size_mk]
          omega
      · have H : Hid (padS s n = u) := Lib.hid (by rw [HP.out, HU.out, show (n - s.length).toNat = k by omega])
        go_wp2
        go_ret
        exact ⟨by rw [H.out]; rfl, rfl⟩
end Go.Proofs.YtpmhohgaedbgjabDoor
