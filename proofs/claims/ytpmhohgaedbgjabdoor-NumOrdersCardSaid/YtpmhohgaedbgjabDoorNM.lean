/- Numbers and their texts in plain Lean: what a text's number is, and what a number's text is. No program in sight. -/
import Derived.Lib.AtoiAllCases
import Derived.Lib.ItoaMem
import Derived.Lib.SlTrimSet
import Derived.Lib.Strings
namespace Go.Proofs.YtpmhohgaedbgjabDoor
open Go

abbrev Str := List UInt8

def dig (b : UInt8) : Bool := decide (48 ≤ b.toNat) && decide (b.toNat ≤ 57)
def dvalFrom (acc : Nat) (l : Str) : Nat := l.foldl (fun a b => a * 10 + (b.toNat - 48)) acc
abbrev dval (l : Str) : Nat := dvalFrom 0 l
def digitsB : Str → Bool
  | [] => false
  | c :: r => (c :: r).all dig && (c != 48 || r == [])
def isNeg : Str → Bool
  | [] => false
  | c :: _ => c == 45
def body (s : Str) : Str := if isNeg s then s.drop 1 else s
def inR (n low high : Int) : Int × Int := if n < low ∨ high < n then (0, 4) else (n, 0)
def magEnd (neg : Bool) (u : Nat) (low high : Int) : Int × Int :=
  if 9223372036854775808 < u ∨ (neg = false ∧ u = 9223372036854775808) then (0, 4) else inR (if neg then -(u : Int) else u) low high
def formB (s : Str) : Bool := digitsB (body s) && !(isNeg s && body s == [48])
def parseS (s : Str) (low high : Int) : Int × Int := if formB s then magEnd (isNeg s) (dval (body s)) low high else (0, 3)

theorem dig_iff {b : UInt8} : dig b = true ↔ 48 ≤ b.toNat ∧ b.toNat ≤ 57 := by simp [dig]

theorem trimPrefix_minus (s : Str) : Lib.trimPrefix s [45] = body s := by
  unfold Lib.trimPrefix Lib.hasPrefix body isNeg
  cases s with
  | nil => rfl
  | cons c r =>
    by_cases h : c = 45
    · subst h; simp
    · have : ¬ (45 : UInt8) = c := fun e => h e.symm
      simp [h, this]

theorem all_of_dropWhile {p : UInt8 → Bool} : ∀ l : Str, (l.dropWhile p).all p = true → l.all p = true
  | [], _ => rfl
  | a :: t, h => by
    by_cases ha : p a = true
    · rw [List.dropWhile_cons_of_pos ha] at h
      simp only [List.all_cons, ha, Bool.true_and]
      exact all_of_dropWhile t h
    · rw [List.dropWhile_cons_of_neg ha] at h
      simp only [List.all_cons, Bool.and_eq_true] at h
      exact absurd h.1 ha

theorem dropWhile_all {p : UInt8 → Bool} : ∀ l : Str, l.all p = true → l.dropWhile p = []
  | [], _ => rfl
  | a :: t, h => by
    simp only [List.all_cons, Bool.and_eq_true] at h
    rw [List.dropWhile_cons_of_pos h.1]
    exact dropWhile_all t h.2

theorem all_of_dropWhile_nil {p : UInt8 → Bool} (l : Str) (h : l.dropWhile p = []) : l.all p = true := all_of_dropWhile l (by rw [h]; rfl)

theorem trimS_nil_iff (l cs : Str) : Lib.trimS l cs = [] ↔ l.all (cs.contains ·) = true := by
  unfold Lib.trimS Lib.trimLeftS Lib.trimRightS
  constructor
  · intro h
    have h1 := all_of_dropWhile_nil _ h
    rw [List.all_reverse] at h1
    have h2 := all_of_dropWhile _ h1
    rwa [List.all_reverse] at h2
  · intro h
    have : l.reverse.dropWhile (cs.contains ·) = [] := dropWhile_all _ (by rw [List.all_reverse]; exact h)
    rw [this]
    rfl

abbrev tenDigits : Str := [48, 49, 50, 51, 52, 53, 54, 55, 56, 57]
theorem ten_contains_fin : ∀ b : Fin 256, tenDigits.contains (UInt8.ofNat b.val) = dig (UInt8.ofNat b.val) := by decide +kernel
theorem ten_contains (b : UInt8) : tenDigits.contains b = dig b := by
  have := ten_contains_fin ⟨b.toNat, b.toNat_lt⟩
  simpa using this
theorem trim_ten (l : Str) : Lib.trimS l tenDigits = [] ↔ l.all dig = true := by
  rw [trimS_nil_iff, show (fun b => tenDigits.contains b) = dig from funext ten_contains]

theorem dvalFrom_ge : ∀ (l : Str) (acc : Nat), acc * 10 ^ l.length ≤ dvalFrom acc l
  | [], acc => by simp [dvalFrom]
  | c :: r, acc => by
    have := dvalFrom_ge r (acc * 10 + (c.toNat - 48))
    have e : dvalFrom acc (c :: r) = dvalFrom (acc * 10 + (c.toNat - 48)) r := rfl
    rw [e, List.length_cons, Nat.pow_succ]
    refine Nat.le_trans ?_ this
    rw [Nat.add_mul, Nat.mul_assoc, Nat.mul_comm (10 ^ r.length) 10]
    exact Nat.le_add_right _ _
theorem dvalFrom_lt : ∀ (l : Str) (acc : Nat), l.all dig = true → dvalFrom acc l < (acc + 1) * 10 ^ l.length
  | [], acc, _ => by simp [dvalFrom]
  | c :: r, acc, h => by
    simp only [List.all_cons, Bool.and_eq_true, dig_iff] at h
    have := dvalFrom_lt r (acc * 10 + (c.toNat - 48)) h.2
    have e : dvalFrom acc (c :: r) = dvalFrom (acc * 10 + (c.toNat - 48)) r := rfl
    rw [e, List.length_cons, Nat.pow_succ]
    refine Nat.lt_of_lt_of_le this ?_
    rw [Nat.mul_comm (10 ^ r.length) 10, ← Nat.mul_assoc]
    exact Nat.mul_le_mul_right _ (by omega)
theorem dvalFrom_acc : ∀ (l : Str) (acc : Nat), acc ≤ dvalFrom acc l := fun l acc =>
  Nat.le_trans (by have : 1 ≤ 10 ^ l.length := Nat.one_le_pow _ _ (by decide)
                   exact Nat.le_mul_of_pos_right _ this) (dvalFrom_ge l acc)

theorem parseUint10_digits : ∀ (l : Str) (acc : Nat), l.all dig = true →
    Lib.parseUint10 acc l = if dvalFrom acc l < 18446744073709551616 ∨ l = [] then .ok (dvalFrom acc l) else .range
  | [], acc, _ => by simp [Lib.parseUint10, dvalFrom]
  | c :: r, acc, h => by
    simp only [List.all_cons, Bool.and_eq_true, dig_iff] at h
    have e : dvalFrom acc (c :: r) = dvalFrom (acc * 10 + (c.toNat - 48)) r := rfl
    have hge := dvalFrom_acc r (acc * 10 + (c.toNat - 48))
    rw [Lib.parseUint10, if_pos h.1, e]
    by_cases h1 : 1844674407370955162 ≤ acc
    · rw [if_pos h1, if_neg (by simp; omega)]
    · rw [if_neg h1]
      by_cases h2 : 18446744073709551616 ≤ acc * 10 + (c.toNat - 48)
      · rw [if_pos h2, if_neg (by simp; omega)]
      · rw [if_neg h2, parseUint10_digits r _ h.2]
        by_cases hr : r = []
        · subst hr
          have : dvalFrom (acc * 10 + (c.toNat - 48)) [] = acc * 10 + (c.toNat - 48) := rfl
          simp [this]; omega
        · simp [hr]

theorem parseMag_digits (l : Str) (h0 : l ≠ []) (h : l.all dig = true) : Lib.parseMag l = if dval l < 18446744073709551616 then .ok (dval l) else .range := by
  unfold Lib.parseMag
  rw [if_neg h0, parseUint10_digits l 0 h]
  simp [h0]

theorem digitsB_cons {c : UInt8} {r : Str} : digitsB (c :: r) = true ↔ (c :: r).all dig = true ∧ (c ≠ 48 ∨ r = []) := by
  simp [digitsB]

/-- How Atoi ends at a text whose form is right. -/
def numEnd (neg : Bool) (u : Nat) : Lib.NumEnd Int :=
  if 9223372036854775808 < u ∨ (neg = false ∧ u = 9223372036854775808) then .range else .ok (if neg then -(u : Int) else u)

theorem atoi_form (s : Str) (h : formB s = true) : Lib.atoiAll s = numEnd (isNeg s) (dval (body s)) := by
  unfold formB at h
  simp only [Bool.and_eq_true] at h
  obtain ⟨h, -⟩ := h
  cases s with
  | nil => simp [body, isNeg, digitsB] at h
  | cons c r =>
    by_cases hc : c = 45
    · subst hc
      have e1 : isNeg (45 :: r) = true := rfl
      have e2 : body (45 :: r) = r := rfl
      rw [e1, e2]
      rw [e2] at h
      cases r with
      | nil => simp [digitsB] at h
      | cons d t =>
        rw [digitsB_cons] at h
        rw [Lib.atoiAll_minus, parseMag_digits _ (by simp) h.1]
        unfold numEnd Lib.signed
        by_cases h1 : dval (d :: t) < 18446744073709551616
        · rw [if_pos h1]; simp only [reduceCtorEq, false_and, or_false]
          rfl
        · rw [if_neg h1, if_pos (.inl (by omega))]
    · have e1 : isNeg (c :: r) = false := by simp [isNeg, hc]
      have e2 : body (c :: r) = c :: r := by simp [body, e1]
      rw [e2] at h
      rw [e1, e2]
      rw [digitsB_cons] at h
      have hd : 48 ≤ c.toNat ∧ c.toNat ≤ 57 := by
        have := h.1
        simp only [List.all_cons, Bool.and_eq_true, dig_iff] at this
        exact this.1
      have hn45 : c.toNat ≠ 45 := fun e => hc (UInt8.toNat_inj.1 e)
      rw [Lib.atoiAll_plain c r (by omega) hn45, parseMag_digits _ (by simp) h.1]
      unfold numEnd Lib.signless
      by_cases h1 : dval (c :: r) < 18446744073709551616
      · rw [if_pos h1]
        by_cases h2 : 9223372036854775808 ≤ dval (c :: r)
        · simp only [h2, if_true]
          rw [if_pos (by simp only [true_and]; omega)]
        · simp only [h2, if_false]
          rw [if_neg (by simp only [true_and]; omega)]
          rfl
      · rw [if_neg h1, if_pos (.inl (by omega))]

/-- A long text of digits is a great number. -/
theorem dval_long (f : Str) (h : digitsB f = true) (hl : 19 < f.length) : 9223372036854775808 < dval f := by
  cases f with
  | nil => simp at hl
  | cons c r =>
    rw [digitsB_cons] at h
    have h1 := h.1
    simp only [List.all_cons, Bool.and_eq_true, dig_iff] at h1
    have hc : c ≠ 48 := by
      rcases h.2 with h2 | h2
      · exact h2
      · subst h2; simp at hl
    have hc' : c.toNat ≠ 48 := fun e => hc (UInt8.toNat_inj.1 e)
    have hge := dvalFrom_ge r (0 * 10 + (c.toNat - 48))
    have e : dval (c :: r) = dvalFrom (0 * 10 + (c.toNat - 48)) r := rfl
    have hp : 10 ^ 19 ≤ 10 ^ r.length := Nat.pow_le_pow_right (by decide) (by simp at hl; omega)
    have : 1 * 10 ^ r.length ≤ (0 * 10 + (c.toNat - 48)) * 10 ^ r.length := Nat.mul_le_mul_right _ (by omega)
    omega

theorem dval_short (f : Str) (h : f.all dig = true) (hl : f.length ≤ 19) : dval f < 10000000000000000000 := by
  have := dvalFrom_lt f 0 h
  have hp : 10 ^ f.length ≤ 10 ^ 19 := Nat.pow_le_pow_right (by decide) hl
  show dvalFrom 0 f < _
  omega
theorem dval_snoc (l : Str) (c : UInt8) : dval (l ++ [c]) = dval l * 10 + (c.toNat - 48) := by simp [dval, dvalFrom]

/-! ### A number's text -/
theorem decDigits_lt {u : Nat} (h : u < 10) : Lib.decDigits u = [UInt8.ofNat (48 + u)] := by rw [Lib.decDigits, dif_pos h]
theorem decDigits_ge {u : Nat} (h : ¬ u < 10) : Lib.decDigits u = Lib.decDigits (u / 10) ++ [UInt8.ofNat (48 + u % 10)] := by
  rw [Lib.decDigits, dif_neg h]
theorem ofNat_digit {k : Nat} (h : k < 10) : (UInt8.ofNat (48 + k)).toNat = 48 + k := by
  simp; omega
theorem dec_all : ∀ u : Nat, (Lib.decDigits u).all dig = true := by
  intro u
  induction u using Nat.strongRecOn with
  | ind u ih =>
    by_cases h : u < 10
    · rw [decDigits_lt h]
      simp only [List.all_cons, List.all_nil, Bool.and_true, dig_iff, ofNat_digit h]
      omega
    · rw [decDigits_ge h, List.all_append, ih _ (by omega)]
      simp only [List.all_cons, List.all_nil, Bool.and_true, Bool.true_and, dig_iff]
      rw [ofNat_digit (by omega)]
      omega
theorem dec_val : ∀ u : Nat, dval (Lib.decDigits u) = u := by
  intro u
  induction u using Nat.strongRecOn with
  | ind u ih =>
    by_cases h : u < 10
    · rw [decDigits_lt h]
      have : dval [UInt8.ofNat (48 + u)] = 0 * 10 + ((UInt8.ofNat (48 + u)).toNat - 48) := rfl
      rw [this, ofNat_digit h]
      omega
    · rw [decDigits_ge h, dval_snoc, ih _ (by omega), ofNat_digit (by omega)]
      omega
theorem dec_head : ∀ u : Nat, ∃ c r, Lib.decDigits u = c :: r ∧ (u = 0 → c = 48 ∧ r = []) ∧ (0 < u → c ≠ 48) := by
  intro u
  induction u using Nat.strongRecOn with
  | ind u ih =>
    by_cases h : u < 10
    · refine ⟨_, _, decDigits_lt h, fun e => ⟨by subst e; rfl, rfl⟩, fun h0 e => ?_⟩
      have := congrArg UInt8.toNat e
      rw [ofNat_digit h] at this
      have : 48 + u = 48 := this
      omega
    · obtain ⟨c, r, hc, -, h2⟩ := ih (u / 10) (by omega)
      refine ⟨c, r ++ [UInt8.ofNat (48 + u % 10)], by rw [decDigits_ge h, hc]; rfl, fun e => by omega, fun _ => h2 (by omega)⟩
theorem dec_digitsB (u : Nat) : digitsB (Lib.decDigits u) = true := by
  obtain ⟨c, r, hc, h1, h2⟩ := dec_head u
  have ha := dec_all u
  rw [hc] at ha ⊢
  rw [digitsB_cons]
  refine ⟨ha, ?_⟩
  by_cases h : u = 0
  · exact .inr (h1 h).2
  · exact .inl (h2 (by omega))
theorem dec_not_neg (u : Nat) : isNeg (Lib.decDigits u) = false := by
  obtain ⟨c, r, hc, -⟩ := dec_head u
  have ha := dec_all u
  rw [hc] at ha ⊢
  simp only [List.all_cons, Bool.and_eq_true, dig_iff] at ha
  simp only [isNeg, beq_eq_false_iff_ne]
  intro e
  subst e
  have : (45 : UInt8).toNat = 45 := rfl
  omega

/-- What is told is parsed. -/
theorem parse_itoa (n low high : Int) (h0 : -9223372036854775808 ≤ n) (h1 : n ≤ 9223372036854775807) : parseS (Lib.itoa n) low high = inR n low high := by
  unfold Lib.itoa
  by_cases hn : n < 0
  · rw [if_pos hn]
    have e1 : isNeg (45 :: Lib.decDigits n.natAbs) = true := rfl
    have e2 : body (45 :: Lib.decDigits n.natAbs) = Lib.decDigits n.natAbs := rfl
    have e3 : (Lib.decDigits n.natAbs == [48]) = false := by
      rw [beq_eq_false_iff_ne]
      intro e
      have := congrArg dval e
      rw [dec_val] at this
      have : n.natAbs = 0 := this
      omega
    unfold parseS formB
    rw [e1, e2, dec_digitsB, e3, dec_val]
    simp only [Bool.and_false, Bool.not_false, Bool.and_true, if_true]
    unfold magEnd
    rw [if_neg (by simp; omega), if_pos rfl]
    congr 1
    omega
  · rw [if_neg hn]
    have e1 := dec_not_neg n.toNat
    have e2 : body (Lib.decDigits n.toNat) = Lib.decDigits n.toNat := by simp [body, e1]
    unfold parseS formB
    rw [e1, e2, dec_digitsB, dec_val]
    simp only [Bool.false_and, Bool.not_false, Bool.and_true, if_true]
    unfold magEnd
    rw [if_neg (by simp; omega)]
    simp only [Bool.false_eq_true, if_false]
    congr 1
    omega
end Go.Proofs.YtpmhohgaedbgjabDoor
