/- The order of texts by the numbers in them, in plain Lean. No program in sight. -/
import Derived.Test.YtpmhohgaedbgjabDoorNM
import Derived.Lib.TrimByte
import Derived.Sort.Walk0
namespace Go.Proofs.YtpmhohgaedbgjabDoor
open Go Go.RowKit

/-! ### The order of texts -/
abbrev ltb (a b : Str) : Bool := Op.bytesLess a b
theorem ltb_irrefl : ∀ a : Str, ltb a a = false
  | [] => rfl
  | x :: a => by
    have := ltb_irrefl a
    simp [ltb, Op.bytesLess] at this ⊢
    exact this
theorem ltb_trans : ∀ {a b c : Str}, ltb a b = true → ltb b c = true → ltb a c = true
  | [], [], _, h, _ => by simp [ltb, Op.bytesLess] at h
  | [], _ :: _, [], _, h => by simp [ltb, Op.bytesLess] at h
  | [], _ :: _, _ :: _, _, _ => by simp [ltb, Op.bytesLess]
  | _ :: _, [], _, h, _ => by simp [ltb, Op.bytesLess] at h
  | _ :: _, _ :: _, [], _, h => by simp [ltb, Op.bytesLess] at h
  | x :: a, y :: b, z :: c, h, k => by
    simp only [ltb, Op.bytesLess, Bool.or_eq_true, decide_eq_true_eq, Bool.and_eq_true, beq_iff_eq] at h k ⊢
    rcases h with h | ⟨rfl, h⟩
    · rcases k with k | ⟨rfl, k⟩
      · exact .inl (UInt8.lt_trans h k)
      · exact .inl h
    · rcases k with k | ⟨rfl, k⟩
      · exact .inl k
      · exact .inr ⟨rfl, ltb_trans h k⟩
theorem ltb_total : ∀ {a b : Str}, ltb a b = false → ltb b a = false → a = b
  | [], [], _, _ => rfl
  | [], _ :: _, h, _ => by simp [ltb, Op.bytesLess] at h
  | _ :: _, [], _, h => by simp [ltb, Op.bytesLess] at h
  | x :: a, y :: b, h, k => by
    simp only [ltb, Op.bytesLess, Bool.or_eq_false_iff, decide_eq_false_iff_not, Bool.and_eq_false_imp, beq_iff_eq] at h k
    have e : x = y := by
      have h1 := h.1
      have k1 := k.1
      exact UInt8.le_antisymm (UInt8.not_lt.1 k1) (UInt8.not_lt.1 h1)
    subst e
    rw [ltb_total (h.2 rfl) (k.2 rfl)]
theorem ltb_asymm {a b : Str} (h : ltb a b = true) : ltb b a = false := by
  cases hb : ltb b a with
  | false => rfl
  | true => have := ltb_trans h hb; rw [ltb_irrefl] at this; cases this
theorem ltb_ne {a b : Str} (h : ltb a b = true) : a ≠ b := fun e => by subst e; rw [ltb_irrefl] at h; cases h
/-- -1, 0, 1 -/
def cmpS (a b : Str) : Int := if ltb a b = true then -1 else if ltb b a = true then 1 else 0

def cmpI (a b : Int) : Int := if a < b then -1 else if b < a then 1 else 0

/-- how many digits a text begins with -/
def runN (s : Str) : Nat := (s.takeWhile dig).length
/-- how long a text's first part is -/
def cutN (s : Str) : Nat := if runN s = 0 then 1 else runN s
def partC (a b : Str) : Int := if cmpI (Lib.trimLeftB a 48).length (Lib.trimLeftB b 48).length != 0 then cmpI (Lib.trimLeftB a 48).length (Lib.trimLeftB b 48).length else cmpS (Lib.trimLeftB a 48) (Lib.trimLeftB b 48)
def partS (a b : Str) : Int := if dig (a.headD 0) && dig (b.headD 0) && partC a b != 0 then partC a b else cmpS a b
def natF : Nat → Str → Str → Int
  | 0, _, _ => 0
  | n + 1, a, b => if a = [] ∨ b = [] then cmpI a.length b.length else if partS (a.take (cutN a)) (b.take (cutN b)) != 0 then partS (a.take (cutN a)) (b.take (cutN b)) else natF n (a.drop (cutN a)) (b.drop (cutN b))
def natS (a b : Str) : Int := natF (a.length + 1) a b

theorem cutN_pos (s : Str) : 0 < cutN s := by unfold cutN; split <;> omega
theorem runN_le (s : Str) : runN s ≤ s.length := by unfold runN; exact (List.takeWhile_sublist _).length_le
theorem cutN_le (s : Str) (h : s ≠ []) : cutN s ≤ s.length := by
  have := runN_le s
  have := List.length_pos_iff.2 h
  unfold cutN; split <;> omega
theorem natF_more : ∀ (n m : Nat) (a b : Str), a.length < n → a.length < m → natF n a b = natF m a b
  | 0, _, _, _, h, _ => by omega
  | _ + 1, 0, _, _, _, h => by omega
  | n + 1, m + 1, a, b, h, k => by
    unfold natF
    by_cases h0 : a = [] ∨ b = []
    · rw [if_pos h0, if_pos h0]
    · rw [if_neg h0, if_neg h0]
      have ha : a ≠ [] := fun e => h0 (.inl e)
      have := List.length_pos_iff.2 ha
      have := cutN_pos a
      rw [natF_more n m (a.drop (cutN a)) (b.drop (cutN b)) (by rw [List.length_drop]; omega) (by rw [List.length_drop]; omega)]
theorem natS_end {a b : Str} (h : a = [] ∨ b = []) : natS a b = cmpI a.length b.length := by
  unfold natS natF; rw [if_pos h]
theorem natS_step {a b : Str} (h : ¬ (a = [] ∨ b = [])) : natS a b = if partS (a.take (cutN a)) (b.take (cutN b)) != 0 then partS (a.take (cutN a)) (b.take (cutN b)) else natS (a.drop (cutN a)) (b.drop (cutN b)) := by
  have ha : a ≠ [] := fun e => h (.inl e)
  have := List.length_pos_iff.2 ha
  have := cutN_pos a
  unfold natS
  rw [natF, if_neg h, natF_more a.length ((a.drop (cutN a)).length + 1) (a.drop (cutN a)) (b.drop (cutN b)) (by rw [List.length_drop]; omega) (by omega)]
theorem runN_eq (s : Str) (k : Nat) (hk : k ≤ s.length) (h1 : (s.take k).all dig = true) (h2 : ∀ (h : k < s.length), dig s[k] = false) : runN s = k := by
  unfold runN
  induction s generalizing k with
  | nil => simp at hk ⊢; omega
  | cons c r ih =>
    cases k with
    | zero =>
      have := h2 (by simp)
      simp only [List.getElem_cons_zero] at this
      rw [List.takeWhile_cons_of_neg (by rw [this]; decide)]
      rfl
    | succ k =>
      simp only [List.take_succ_cons, List.all_cons, Bool.and_eq_true] at h1
      rw [List.takeWhile_cons_of_pos h1.1, List.length_cons, ih k (by simpa using hk) h1.2 (fun h => by
        have := h2 (by simpa using h)
        simpa using this)]
end Go.Proofs.YtpmhohgaedbgjabDoor
