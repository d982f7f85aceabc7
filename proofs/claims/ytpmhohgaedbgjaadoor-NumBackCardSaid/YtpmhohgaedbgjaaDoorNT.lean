/- Contract of linhayref01.Text. -/
import Derived.Test.YtpmhohgaedbgjaaDoorNR
import Derived.Lib.ItoaLen
import Derived.Laws.Concat
import Derived.Laws.IdiomStrings
namespace Go.Proofs.YtpmhohgaedbgjaaDoor
open Go.RowKit

/-- What is told so far: s, and v is still to tell, of u. -/
def Told (u v : Nat) (s : Str) : Prop := (s = [] ∧ v = u) ∨ (s ≠ [] ∧ (if v = 0 then [] else Lib.decDigits v) ++ s = Lib.decDigits u)
theorem neg_u64 (n : Int) (h0 : -9223372036854775808 ≤ n) (hn : n < 0) : IntKind.u64.wrap (-IntKind.u64.wrap n) = (n.natAbs : Int) := by
  simp only [IntKind.wrap, IntKind.bits, IntKind.signed]
  simp
  omega
theorem Told.step {u v : Nat} {s : Str} (h : Told u v s) (hc : s = [] ∨ 0 < v) : Told u (v / 10) (UInt8.ofNat (48 + v % 10) :: s) := by
  refine .inr ⟨by simp, ?_⟩
  have key : (if v / 10 = 0 then [] else Lib.decDigits (v / 10)) ++ [UInt8.ofNat (48 + v % 10)] = Lib.decDigits v := by
    by_cases hv : v < 10
    · rw [if_pos (by omega), decDigits_lt hv, Nat.mod_eq_of_lt hv]; rfl
    · rw [if_neg (by omega), decDigits_ge hv]
  rw [show UInt8.ofNat (48 + v % 10) :: s = [UInt8.ofNat (48 + v % 10)] ++ s from rfl, ← List.append_assoc, key]
  rcases h with ⟨rfl, rfl⟩ | ⟨hs, h⟩
  · simp
  · by_cases hv : v = 0
    · rcases hc with hc | hc
      · exact absurd hc hs
      · omega
    · rw [if_neg hv] at h
      exact h
theorem Told.len {u v : Nat} {s : Str} (h : Told u v s) (hu : u ≤ 9223372036854775808) : s.length ≤ 20 := by
  rcases h with ⟨rfl, -⟩ | ⟨-, h⟩
  · simp
  · have h1 := congrArg List.length h
    rw [List.length_append, Lib.decDigits_length] at h1
    have := Lib.nDigits_le20 u (by omega)
    omega
theorem Told.done {u : Nat} {s : Str} (h : Told u 0 s) (hs : s ≠ []) : s = Lib.decDigits u := by
  rcases h with ⟨h, -⟩ | ⟨-, h⟩
  · exact absurd h hs
  · simpa using h
theorem pos_u64 (n : Int) (hn : ¬ n < 0) (h1 : n ≤ 9223372036854775807) : IntKind.u64.wrap n = (n.natAbs : Int) := by
  simp only [IntKind.wrap, IntKind.bits, IntKind.signed]
  simp
  omega
set_option maxRecDepth 100000 in
set_option maxHeartbeats 2000000 in
theorem refText_calls (n : Int) (h0 : -9223372036854775808 ≤ n) (h1 : n ≤ 9223372036854775807) (w : World) : Calls Tryd.prog 8 #[I n] w fun e w' => e = .returned (S (Lib.itoa n)) ∧ Below w.heap.size w w' := by
  by_cases hn : n < 0
  · have HI : Hid (Lib.itoa n = 45 :: Lib.decDigits n.natAbs) := Lib.hid (by unfold Lib.itoa; rw [if_pos hn])
    go_enter Tryd.func8, Tryd.ntmps8
    go_wp2
    go_loopw [3, 4] (fun t u wr => (∃ (s : Str) (v : Nat), v ≤ 9223372036854775808 ∧ t = S s ∧ u = .int .u64 v ∧ Told n.natAbs v s) ∧ Below w.heap.size w wr) (fun t u _ => (intOf u).toNat + (match t with | .string b => if b.size = 0 then 1 else 0 | _ => 0))
    case atStart => 
      refine ⟨⟨[], n.natAbs, by omega, rfl, ?_, .inl ⟨rfl, rfl⟩⟩, Below.refl _ _⟩
      rw [neg_u64 n h0 hn]
    case round =>
      obtain ⟨⟨s, v, hv, rfl, rfl, ht⟩, hB⟩ := hrel
      have hlen := ht.len (by omega)
      have HT := Lib.hid ht
      have HB := Lib.hid hB
      clear ht hB
      obtain ⟨d, hd⟩ : ∃ d : UInt8, d = UInt8.ofNat (48 + v % 10) := ⟨_, rfl⟩
      have HD := Lib.hid hd
      have hdn : (d.toNat : Int) = 48 + (v : Int) % 10 := by
        rw [hd, ofNat_digit (by omega)]
        omega
      clear hd
      have hcat : (⟨[d].toArray⟩ ++ ⟨s.toArray⟩ : ByteArray) = ⟨(d :: s).toArray⟩ := ByteArray.mk_append_mk [d] s
      have hcv : Sem.run Tryd.prog (convert 38 9 (.slice (some ⟨wr.heap.size, 0, none⟩) 1 1)) (wr.alloc (.cells #[.int .u8 (48 + (v : Int) % 10)] 5)) = .ok (S [d]) (wr.alloc (.cells #[.int .u8 (48 + (v : Int) % 10)] 5)) :=
        run_convert_bytes_back _ 38 9 5 ⟨wr.heap.size, 0, none⟩ 1 [d] (by kernel_rfl) (by kernel_rfl) (by kernel_rfl) (fun j hj => by
          have hj0 : j = 0 := by simpa using hj
          subst hj0
          rw [Addr.add, if_pos rfl, World.cell?_alloc_mark]
          show some (Value.int .u8 (48 + (v : Int) % 10)) = some (.int .u8 (d.toNat : Int))
          rw [hdn])
      by_cases hc : s = [] ∨ 0 < v
      · have HC := Lib.hid hc
        have hor : (s == []) = true ∨ (s == []) = false ∧ 0 < (v : Int) := by
          cases s with
          | nil => exact .inl rfl
          | cons c r => exact .inr ⟨rfl, by simpa using hc⟩
        clear hc
        rcases hor with hor | ⟨hor, hor'⟩ <;>
        · go_wp2
          go_roundw
          case rel =>
            refine ⟨⟨d :: s, v / 10, by omega, rfl, by go_num, HD.out ▸ HT.out.step HC.out⟩, ?_⟩
            exact HB.out.alloc HB.out.size _
          case measure =>
            have hne : ¬ ((⟨(d :: s).toArray⟩ : ByteArray).size = 0) := by rw [Lib.size_mk]; simp
            simp only [intOf, hne, if_false]
            rcases HC.out with rfl | hc
            · have h0 : (⟨([] : Str).toArray⟩ : ByteArray).size = 0 := rfl
              simp only [h0, if_true]; omega
            · have : (intOf (.int .u64 (v : Int))).toNat = v := rfl
              simp only [intOf] at this
              split <;> omega
      · have HS : s ≠ [] := fun e => hc (.inl e)
        have hs0 : (s == []) = false := beq_eq_false_iff_ne.2 HS
        obtain rfl : v = 0 := by omega
        have HE : Hid (s = Lib.decDigits n.natAbs) := Lib.hid (HT.out.done HS)
        clear hc HS hcv hcat
        go_wp2
        go_ret
        refine ⟨?_, HB.out⟩
        rw [HI.out, ← HE.out]
        rfl
  · have HI : Hid (Lib.itoa n = Lib.decDigits n.natAbs) := Lib.hid (by unfold Lib.itoa; rw [if_neg hn]; congr 1; omega)
    go_enter Tryd.func8, Tryd.ntmps8
    go_wp2
    go_loopw [3, 4] (fun t u wr => (∃ (s : Str) (v : Nat), v ≤ 9223372036854775808 ∧ t = S s ∧ u = .int .u64 v ∧ Told n.natAbs v s) ∧ Below w.heap.size w wr) (fun t u _ => (intOf u).toNat + (match t with | .string b => if b.size = 0 then 1 else 0 | _ => 0))
    case atStart => 
      refine ⟨⟨[], n.natAbs, by omega, rfl, ?_, .inl ⟨rfl, rfl⟩⟩, Below.refl _ _⟩
      congr 1; omega
    case round =>
      obtain ⟨⟨s, v, hv, rfl, rfl, ht⟩, hB⟩ := hrel
      have hlen := ht.len (by omega)
      have HT := Lib.hid ht
      have HB := Lib.hid hB
      clear ht hB
      obtain ⟨d, hd⟩ : ∃ d : UInt8, d = UInt8.ofNat (48 + v % 10) := ⟨_, rfl⟩
      have HD := Lib.hid hd
      have hdn : (d.toNat : Int) = 48 + (v : Int) % 10 := by
        rw [hd, ofNat_digit (by omega)]
        omega
      clear hd
      have hcat : (⟨[d].toArray⟩ ++ ⟨s.toArray⟩ : ByteArray) = ⟨(d :: s).toArray⟩ := ByteArray.mk_append_mk [d] s
      have hcv : Sem.run Tryd.prog (convert 38 9 (.slice (some ⟨wr.heap.size, 0, none⟩) 1 1)) (wr.alloc (.cells #[.int .u8 (48 + (v : Int) % 10)] 5)) = .ok (S [d]) (wr.alloc (.cells #[.int .u8 (48 + (v : Int) % 10)] 5)) :=
        run_convert_bytes_back _ 38 9 5 ⟨wr.heap.size, 0, none⟩ 1 [d] (by kernel_rfl) (by kernel_rfl) (by kernel_rfl) (fun j hj => by
          have hj0 : j = 0 := by simpa using hj
          subst hj0
          rw [Addr.add, if_pos rfl, World.cell?_alloc_mark]
          show some (Value.int .u8 (48 + (v : Int) % 10)) = some (.int .u8 (d.toNat : Int))
          rw [hdn])
      by_cases hc : s = [] ∨ 0 < v
      · have HC := Lib.hid hc
        have hor : (s == []) = true ∨ (s == []) = false ∧ 0 < (v : Int) := by
          cases s with
          | nil => exact .inl rfl
          | cons c r => exact .inr ⟨rfl, by simpa using hc⟩
        clear hc
        rcases hor with hor | ⟨hor, hor'⟩ <;>
        · go_wp2
          go_roundw
          case rel =>
            refine ⟨⟨d :: s, v / 10, by omega, rfl, by go_num, HD.out ▸ HT.out.step HC.out⟩, ?_⟩
            exact HB.out.alloc HB.out.size _
          case measure =>
            have hne : ¬ ((⟨(d :: s).toArray⟩ : ByteArray).size = 0) := by rw [Lib.size_mk]; simp
            simp only [intOf, hne, if_false]
            rcases HC.out with rfl | hc
            · have h0 : (⟨([] : Str).toArray⟩ : ByteArray).size = 0 := rfl
              simp only [h0, if_true]; omega
            · have : (intOf (.int .u64 (v : Int))).toNat = v := rfl
              simp only [intOf] at this
              split <;> omega
      · have HS : s ≠ [] := fun e => hc (.inl e)
        have hs0 : (s == []) = false := beq_eq_false_iff_ne.2 HS
        obtain rfl : v = 0 := by omega
        have HE : Hid (s = Lib.decDigits n.natAbs) := Lib.hid (HT.out.done HS)
        clear hc HS hcv hcat
        go_wp2
        go_ret
        refine ⟨?_, HB.out⟩
        rw [HI.out, ← HE.out]
        rfl
end Go.Proofs.YtpmhohgaedbgjaaDoor
