/- The order of texts by the numbers in them: the document's own answer, and the laws of the order, in plain Lean. No program in sight. -/
import Derived.Test.YtpmhohgaedbgjabDoorNO
namespace Go.Proofs.YtpmhohgaedbgjabDoor
open Go Go.RowKit

theorem cmpI_neg (a b : Int) : cmpI b a = - cmpI a b := by unfold cmpI; split <;> split <;> omega
theorem cmpI_zero {a b : Int} : cmpI a b = 0 ↔ a = b := by
  unfold cmpI
  split
  · omega
  · split <;> omega
theorem cmpS_neg (a b : Str) : cmpS b a = - cmpS a b := by
  unfold cmpS
  cases h : ltb a b with
  | true => rw [ltb_asymm h]; rfl
  | false => cases k : ltb b a <;> simp
theorem cmpS_zero {a b : Str} : cmpS a b = 0 ↔ a = b := by
  unfold cmpS
  constructor
  · intro h
    cases h1 : ltb a b with
    | true => rw [h1] at h; simp at h
    | false =>
      cases h2 : ltb b a with
      | true => rw [h1, h2] at h; simp at h
      | false => exact ltb_total h1 h2
  · rintro rfl
    rw [ltb_irrefl]; rfl
theorem partC_neg (a b : Str) : partC b a = - partC a b := by
  unfold partC
  rw [cmpI_neg (Lib.trimLeftB a 48).length, cmpS_neg (Lib.trimLeftB a 48)]
  by_cases h : cmpI (Lib.trimLeftB a 48).length (Lib.trimLeftB b 48).length = 0
  · rw [h]; rfl
  · have h1 : (cmpI (Lib.trimLeftB a 48).length (Lib.trimLeftB b 48).length != 0) = true := by simpa using h
    have h2 : (-cmpI (Lib.trimLeftB a 48).length (Lib.trimLeftB b 48).length != 0) = true := by simpa using h
    rw [h1, h2]; rfl
theorem partC_self (a : Str) : partC a a = 0 := by
  unfold partC
  rw [cmpI_zero.2 rfl, cmpS_zero.2 rfl]; rfl
theorem neg_bne (x : Int) : (-x != 0) = (x != 0) := by
  rw [Bool.eq_iff_iff]; simp
theorem partS_neg (a b : Str) : partS b a = - partS a b := by
  unfold partS
  rw [partC_neg a b, cmpS_neg a b, neg_bne, Bool.and_comm (dig (b.headD 0))]
  split <;> rfl
theorem partS_zero {a b : Str} : partS a b = 0 ↔ a = b := by
  constructor
  · intro h
    unfold partS at h
    split at h
    · rename_i h1
      rw [h] at h1
      simp at h1
    · exact cmpS_zero.1 h
  · rintro rfl
    unfold partS
    rw [partC_self, cmpS_zero.2 rfl]
    simp
theorem natF_neg : ∀ (n : Nat) (a b : Str), natF n b a = - natF n a b
  | 0, _, _ => rfl
  | n + 1, a, b => by
    unfold natF
    by_cases h : a = [] ∨ b = []
    · rw [if_pos h, if_pos h.symm, cmpI_neg]
    · rw [if_neg h, if_neg (fun e => h e.symm), partS_neg (a.take (cutN a)), neg_bne, natF_neg n (a.drop (cutN a))]
      split <;> rfl
theorem natS_neg (a b : Str) : natS b a = - natS a b := by
  unfold natS
  rw [natF_more (b.length + 1) (a.length + b.length + 1) b a (by omega) (by omega), natF_more (a.length + 1) (a.length + b.length + 1) a b (by omega) (by omega), natF_neg]
theorem natF_zero : ∀ (n : Nat) (a b : Str), a.length < n → (natF n a b = 0 ↔ a = b)
  | 0, _, _, h => by omega
  | n + 1, a, b, hn => by
    unfold natF
    by_cases h : a = [] ∨ b = []
    · rw [if_pos h, cmpI_zero]
      constructor
      · intro e
        have e' : a.length = b.length := by omega
        rcases h with rfl | rfl
        · exact (List.length_eq_zero_iff.1 e'.symm).symm
        · exact List.length_eq_zero_iff.1 e'
      · rintro rfl; rfl
    · rw [if_neg h]
      have ha : a ≠ [] := fun e => h (.inl e)
      have hp := List.length_pos_iff.2 ha
      have hc := cutN_pos a
      have ih := natF_zero n (a.drop (cutN a)) (b.drop (cutN b)) (by rw [List.length_drop]; omega)
      constructor
      · intro e
        by_cases hz : partS (a.take (cutN a)) (b.take (cutN b)) = 0
        · rw [hz] at e
          have e1 := partS_zero.1 hz
          have e2 := ih.1 (by simpa using e)
          rw [← List.take_append_drop (cutN a) a, ← List.take_append_drop (cutN b) b, e1, e2]
        · rw [if_pos (by simpa using hz)] at e
          exact absurd e hz
      · rintro rfl
        rw [partS_zero.2 rfl]
        simp only [bne_self_eq_false, Bool.false_eq_true, if_false]
        exact ih.2 rfl
theorem natS_zero {a b : Str} : natS a b = 0 ↔ a = b := natF_zero _ a b (by omega)

/-! ### The document's own answer -/
def max1 (n : Nat) : Nat := if n = 0 then 1 else n
def refF : Nat → Str → Str → Int
  | 0, _, _ => 0
  | n + 1, a, b =>
    if a = [] ∨ b = [] then cmpS a b
    else if runN a = 0 ∨ runN b = 0 then
      if cmpS (a.take (max1 (runN a))) (b.take (max1 (runN b))) != 0 then cmpS (a.take (max1 (runN a))) (b.take (max1 (runN b))) else refF n (a.drop (max1 (runN a))) (b.drop (max1 (runN b)))
    else if partC (a.take (runN a)) (b.take (runN b)) != 0 then partC (a.take (runN a)) (b.take (runN b))
    else if cmpS (a.take (runN a)) (b.take (runN b)) != 0 then cmpS (a.take (runN a)) (b.take (runN b)) else refF n (a.drop (runN a)) (b.drop (runN b))

theorem runN_zero_iff {a : Str} (h : a ≠ []) : dig ((a.take (cutN a)).headD 0) = !(runN a == 0) := by
  cases a with
  | nil => exact absurd rfl h
  | cons c r =>
    have h1 := cutN_pos (c :: r)
    obtain ⟨m, hm⟩ : ∃ m, cutN (c :: r) = m + 1 := ⟨cutN (c :: r) - 1, by omega⟩
    rw [hm]
    show dig c = _
    cases hd : dig c with
    | true =>
      have : runN (c :: r) = runN r + 1 := by unfold runN; rw [List.takeWhile_cons_of_pos hd]; rfl
      rw [this]; rfl
    | false =>
      have : runN (c :: r) = 0 := by unfold runN; rw [List.takeWhile_cons_of_neg (by rw [hd]; decide)]; rfl
      rw [this]; rfl
theorem cmpS_empty {a b : Str} (h : a = [] ∨ b = []) : cmpS a b = cmpI a.length b.length := by
  rcases h with rfl | rfl
  · cases b with
    | nil => rfl
    | cons c r =>
      have h1 : ltb [] (c :: r) = true := rfl
      unfold cmpS cmpI
      have h3 : (([] : Str).length : Int) < ((c :: r).length : Int) := by simp only [List.length_nil, List.length_cons]; omega
      rw [h1, if_pos rfl, if_pos h3]
  · cases a with
    | nil => rfl
    | cons c r =>
      have h1 : ltb (c :: r) [] = false := rfl
      have h2 : ltb [] (c :: r) = true := rfl
      unfold cmpS cmpI
      have h3 : (([] : Str).length : Int) < ((c :: r).length : Int) := by simp only [List.length_nil, List.length_cons]; omega
      have h4 : ¬ ((c :: r).length : Int) < (([] : Str).length : Int) := by omega
      rw [h1, h2, if_neg (by decide), if_pos rfl, if_neg h4, if_pos h3]
theorem refF_eq : ∀ (n : Nat) (a b : Str), refF n a b = natF n a b
  | 0, _, _ => rfl
  | n + 1, a, b => by
    unfold refF natF
    by_cases h : a = [] ∨ b = []
    · rw [if_pos h, if_pos h, cmpS_empty h]
    · rw [if_neg h, if_neg h]
      have ha : a ≠ [] := fun e => h (.inl e)
      have hb : b ≠ [] := fun e => h (.inr e)
      have ca : max1 (runN a) = cutN a := rfl
      have cb : max1 (runN b) = cutN b := rfl
      rw [ca, cb]
      by_cases hz : runN a = 0 ∨ runN b = 0
      · rw [if_pos hz]
        have : partS (a.take (cutN a)) (b.take (cutN b)) = cmpS (a.take (cutN a)) (b.take (cutN b)) := by
          unfold partS
          rw [runN_zero_iff ha, runN_zero_iff hb]
          rcases hz with hz | hz <;> simp [hz]
        rw [this, refF_eq n]
      · rw [if_neg hz]
        have za : runN a ≠ 0 := fun e => hz (.inl e)
        have zb : runN b ≠ 0 := fun e => hz (.inr e)
        have e1 : cutN a = runN a := by unfold cutN; rw [if_neg za]
        have e2 : cutN b = runN b := by unfold cutN; rw [if_neg zb]
        have d1 := runN_zero_iff ha
        have d2 := runN_zero_iff hb
        have z1 : (runN a == 0) = false := beq_eq_false_iff_ne.2 za
        have z2 : (runN b == 0) = false := beq_eq_false_iff_ne.2 zb
        rw [z1, e1] at d1
        rw [z2, e2] at d2
        rw [e1, e2, refF_eq n]
        unfold partS
        rw [d1, d2]
        by_cases hp : partC (a.take (runN a)) (b.take (runN b)) = 0
        · rw [hp]; rfl
        · have hp' : (partC (a.take (runN a)) (b.take (runN b)) != 0) = true := by simpa using hp
          rw [hp']
          simp only [Bool.not_false, Bool.and_true, if_true, hp']
def refS (a b : Str) : Int := refF (a.length + 1) a b
theorem refS_eq (a b : Str) : refS a b = natS a b := refF_eq _ _ _
end Go.Proofs.YtpmhohgaedbgjabDoor
