/- Contracts of num.Text, num.Parse, linhayref01.Text, linhayref01.Parse. -/
import Derived.Test.YtpmhohgaedbgjabDoorSh
import Derived.Test.YtpmhohgaedbgjabDoorNM
import Derived.Shelf.Strings.SlTrimAscii
import Derived.Lib.SmallJoins
import Derived.WalkKit
import Derived.WalkSpells
import Derived.WalkLawsBesides
import Derived.Deep.QuietTactic
import Derived.BigQuiet
import Derived.Lib.Hide
namespace Go.Proofs.YtpmhohgaedbgjabDoor
open Go.RowKit

abbrev S (l : Str) : Value := .string ⟨l.toArray⟩
abbrev I (n : Int) : Value := .int .i64 n
theorem str_mk (s : ByteArray) : s = ⟨s.data.toList.toArray⟩ := by cases s; simp

/-- What the package-level variables hold that numbers' texts need. -/
structure Laid (w : World) : Prop where
  syn : ∃ tp p, w.var? Tryd.prog "strconv.ErrSyntax" = some #[.iface tp p]
  rng : ∃ tp p, w.var? Tryd.prog "strconv.ErrRange" = some #[.iface tp p]
  tab : Lib.TabIs Tryd.prog w "internal/strconv.uint64pow10" .u64 Lib.pow10Tab
theorem Laid.stays {w w' : World} (h : Laid w) (hb : Below w.heap.size w w') : Laid w' where
  syn := by
    obtain ⟨tp, p, h⟩ := h.syn
    exact ⟨tp, p, Joins.var_stays (g := 0) (by kernel_rfl) h hb (Nat.le_refl _)⟩
  rng := by
    obtain ⟨tp, p, h⟩ := h.rng
    exact ⟨tp, p, Joins.var_stays (g := 1) (by kernel_rfl) h hb (Nat.le_refl _)⟩
  tab := Joins.tab_stays (g := 5) (by kernel_rfl) h.tab hb (Nat.le_refl _)

theorem trim_calls (f : Str) (w : World) (hf : f.length ≤ 9223372036854775807) : Calls Tryd.prog 20 #[S f, S tenDigits] w fun e w' => ∃ t, e = .returned (S t) ∧ (t == []) = f.all dig ∧ Below w.heap.size w w' := by
  refine (Any.strings_Trim_laid (P := Tryd.prog) Tryd.lays160 (by kernel_rfl) ⟨f.toArray⟩ ⟨tenDigits.toArray⟩ w (by rw [Lib.size_mk]; exact hf) (by decide) (ascii_of_all (by decide))).mono ?_
  rintro e w1 ⟨rfl, hb⟩
  refine ⟨_, rfl, ?_, hb⟩
  rw [Bool.eq_iff_iff, beq_iff_eq]
  show Lib.trimS f tenDigits = [] ↔ _
  exact trim_ten f
theorem trimPrefix_calls (s : Str) (w : World) : Calls Tryd.prog 19 #[S s, S [45]] w fun e w' => e = .returned (S (body s)) ∧ w = w' := by
  refine (Tryd.strings_TrimPrefix ⟨s.toArray⟩ ⟨#[45]⟩ w).mono ?_
  rintro e w1 ⟨rfl, rfl⟩
  refine ⟨?_, rfl⟩
  rw [← trimPrefix_minus]
theorem itoa_calls (n : Int) (h0 : -9223372036854775808 ≤ n) (h1 : n ≤ 9223372036854775807) (w : World) (hl : Laid w) : Calls Tryd.prog 22 #[I n] w fun e w' => e = .returned (S (Lib.itoa n)) ∧ Below w.heap.size w w' := by
  refine (Tryd.strconv_Itoa n h0 h1 w hl.tab).mono ?_
  rintro e w1 ⟨rfl, k, os, rfl⟩
  refine ⟨rfl, rfl, rfl, rfl, ?_, fun i hi => ?_⟩
  · show w.heap.size ≤ (w.heap ++ os).size
    simp
  · show (w.heap ++ os)[i]? = w.heap[i]?
    rw [Array.getElem?_append, if_pos hi]
theorem atoi_range_calls (s : Str) (hs : s.length ≤ 281474976710656) (w : World) (hl : Laid w) (h : Lib.atoiAll s = .range) : Calls Tryd.prog 21 #[S s] w fun e w' => ∃ n tp p, e = .returned (.tuple #[I n, .iface tp p]) ∧ Below w.heap.size w w' := by
  obtain ⟨tp, p, hr⟩ := hl.rng
  refine (Tryd.strconv_Atoi_range_var ⟨s.toArray⟩ (by rw [Lib.size_mk]; exact hs) h tp p w hr).mono ?_
  rintro e w1 ⟨N, rfl, -, -, hb⟩
  exact ⟨_, _, _, rfl, hb⟩
theorem atoi_ok_calls (s : Str) (hs : s.length ≤ 281474976710656) (w : World) (n : Int) (h : Lib.atoiAll s = .ok n) : Calls Tryd.prog 21 #[S s] w fun e w' => e = .returned (.tuple #[I n, .nilIface]) ∧ Below w.heap.size w w' := by
  refine (Tryd.strconv_Atoi_ok ⟨s.toArray⟩ (by rw [Lib.size_mk]; omega) n h w).mono ?_
  rintro e w1 ⟨rfl, hb⟩
  refine ⟨rfl, ?_⟩
  rcases hb with rfl | ⟨t, rfl⟩
  · exact Below.refl _ _
  · exact Lib.bytesWorld_below _ _ _
theorem text_calls (n : Int) (h0 : -9223372036854775808 ≤ n) (h1 : n ≤ 9223372036854775807) (w : World) (hl : Laid w) : Calls Tryd.prog 10 #[I n] w fun e w' => e = .returned (S (Lib.itoa n)) ∧ Below w.heap.size w w' := by
  go_enter Tryd.func10, Tryd.ntmps10
  go_wp2_with (go_at_call 22; refine (itoa_calls n h0 h1 _ hl).mono ?_; rintro e w1 ⟨rfl, hb⟩)
  go_ret
  exact ⟨rfl, hb⟩

theorem form_facts (s : Str) (h : formB s = true) : ∃ f : Str, body s = f ∧ (f == []) = false ∧ f.all dig = true ∧ ∃ h0 : 0 < f.length,
    (((((⟨f.toArray⟩ : ByteArray)[0]'(by rw [Lib.size_mk]; exact h0)).toNat : Int) == 48) = false ∨ ((((⟨f.toArray⟩ : ByteArray)[0]'(by rw [Lib.size_mk]; exact h0)).toNat : Int) == 48) = true ∧ (s == [48]) = true) := by
  refine ⟨_, rfl, ?_⟩
  unfold formB at h
  simp only [Bool.and_eq_true, Bool.not_eq_true'] at h
  obtain ⟨h1, h2⟩ := h
  have hb : ∃ f, body s = f := ⟨_, rfl⟩
  obtain ⟨f, hf⟩ := hb
  rw [hf] at h1 h2 ⊢
  cases f with
  | nil => simp [digitsB] at h1
  | cons c r =>
    rw [digitsB_cons] at h1
    refine ⟨rfl, h1.1, by simp, ?_⟩
    show (((c.toNat : Int) == 48) = false ∨ ((c.toNat : Int) == 48) = true ∧ (s == [48]) = true)
    by_cases hc : c = 48
    · right
      subst hc
      refine ⟨rfl, ?_⟩
      have hr : r = [] := by
        rcases h1.2 with h | h
        · exact absurd rfl h
        · exact h
      subst hr
      simp at h2
      unfold body at hf
      rw [h2] at hf
      simp at hf
      rw [hf]; rfl
    · left
      rw [beq_eq_false_iff_ne]
      intro e
      exact hc (UInt8.toNat_inj.1 (by have : c.toNat = 48 := by omega
                                      simpa using this))
theorem noform_facts (s : Str) (h : formB s = false) : ∃ f : Str, body s = f ∧ ((f == []) = true ∨ (f == []) = false ∧ (f.all dig = false ∨ f.all dig = true ∧ ∃ h0 : 0 < f.length,
    ((((⟨f.toArray⟩ : ByteArray)[0]'(by rw [Lib.size_mk]; exact h0)).toNat : Int) == 48) = true ∧ (s == [48]) = false)) := by
  refine ⟨_, rfl, ?_⟩
  have hb : ∃ f, body s = f := ⟨_, rfl⟩
  obtain ⟨f, hf⟩ := hb
  unfold formB at h
  rw [hf] at h ⊢
  cases f with
  | nil => exact .inl rfl
  | cons c r =>
    refine .inr ⟨rfl, ?_⟩
    cases hd : (c :: r).all dig with
    | false => exact .inl rfl
    | true =>
      refine .inr ⟨rfl, by simp, ?_⟩
      show ((c.toNat : Int) == 48) = true ∧ (s == [48]) = false
      have hc : c = 48 := by
        apply Decidable.byContradiction
        intro hc
        have : digitsB (c :: r) = true := digitsB_cons.2 ⟨hd, .inl hc⟩
        rw [this] at h
        simp [hc] at h
      subst hc
      refine ⟨rfl, ?_⟩
      rw [beq_eq_false_iff_ne]
      rintro rfl
      simp [body, isNeg] at hf
      subst hf
      simp [digitsB, isNeg] at h
      exact absurd hd (by simpa using h)

theorem below_trans {a b c : World} (h : Below a.heap.size a b) (k : Below b.heap.size b c) : Below a.heap.size a c := h.trans (k.mono h.size)
def outP (p : Int × Int) : Value := .tuple #[I p.1, I p.2]
theorem parse_calls (s : Str) (low high : Int) (hs : s.length ≤ 140737488351232) (w : World) (hl : Laid w) : Calls Tryd.prog 9 #[S s, I low, I high] w fun e w' => e = .returned (outP (parseS s low high)) ∧ Below w.heap.size w w' := by
  cases hform : formB s with
  | false =>
    have H : Hid (outP (parseS s low high) = outP (0, 3)) := Lib.hid (by unfold parseS; rw [hform]; rfl)
    obtain ⟨f, hf, h1⟩ := noform_facts s hform
    have HF := Lib.hid hf
    have hfl : f.length ≤ s.length := by rw [← hf]; unfold body; split <;> simp
    clear hf hform
    rcases h1 with h1 | ⟨h1, h2 | ⟨h2, h0, h3, h4⟩⟩
    · go_enter Tryd.func9, Tryd.ntmps9
      go_wp2_with (go_at_call 19; refine (trimPrefix_calls s _).mono ?_; rintro e w1 ⟨rfl, rfl⟩; rw [HF.out])
      go_ret2
      exact ⟨by rw [H.out]; rfl, Below.refl _ _⟩
    · go_enter Tryd.func9, Tryd.ntmps9
      go_wp2_with first | (go_at_call 19; refine (trimPrefix_calls s _).mono ?_; rintro e w1 ⟨rfl, rfl⟩; rw [HF.out]) | (go_at_call 20; refine (trim_calls f _ (by omega)).mono ?_; rintro e w1 ⟨t, rfl, ht, hb⟩; rw [h2] at ht)
      go_ret2
      exact ⟨by rw [H.out]; rfl, hb⟩
    · go_enter Tryd.func9, Tryd.ntmps9
      go_wp2_with first | (go_at_call 19; refine (trimPrefix_calls s _).mono ?_; rintro e w1 ⟨rfl, rfl⟩; rw [HF.out]) | (go_at_call 20; refine (trim_calls f _ (by omega)).mono ?_; rintro e w1 ⟨t, rfl, ht, hb⟩; rw [h2] at ht)
      go_ret2
      exact ⟨by rw [H.out]; rfl, hb⟩
  | true =>
    obtain ⟨f, hf, hne, hall, h0, h48⟩ := form_facts s hform
    have HF := Lib.hid hf
    have hfl : f.length ≤ s.length := by rw [← hf]; unfold body; split <;> simp
    have ha := atoi_form s hform
    rw [hf] at ha
    have HP : Hid (parseS s low high = magEnd (isNeg s) (dval f) low high) := Lib.hid (by unfold parseS; rw [hform, hf]; rfl)
    clear hf hform
    by_cases hbig : 9223372036854775808 < dval f ∨ (isNeg s = false ∧ dval f = 9223372036854775808)
    · have H : Hid (outP (parseS s low high) = outP (0, 4)) := Lib.hid (by rw [HP.out]; unfold magEnd; rw [if_pos hbig])
      have HA : Hid (Lib.atoiAll s = .range) := Lib.hid (by rw [ha]; unfold numEnd; rw [if_pos hbig])
      clear ha hbig
      rcases h48 with h48 | ⟨h48, h48'⟩ <;>
      · go_enter Tryd.func9, Tryd.ntmps9
        go_wp2_with first | (go_at_call 19; refine (trimPrefix_calls s _).mono ?_; rintro e w1 ⟨rfl, rfl⟩; rw [HF.out]) | (go_at_call 20; refine (trim_calls f _ (by omega)).mono ?_; rintro e w1 ⟨t, rfl, ht, hb⟩; rw [hall] at ht) | (go_at_call 21; refine (atoi_range_calls s (by omega) _ (hl.stays hb) HA.out).mono ?_; rintro e w2 ⟨n, tp, p, rfl, hb2⟩)
        go_ret2
        exact ⟨by rw [H.out]; rfl, below_trans hb hb2⟩
    · obtain ⟨n, hn⟩ : ∃ n : Int, n = if isNeg s then -(dval f : Int) else dval f := ⟨_, rfl⟩
      have HA : Hid (Lib.atoiAll s = .ok n) := Lib.hid (by rw [ha]; unfold numEnd; rw [if_neg hbig, ← hn])
      have HQ : Hid (parseS s low high = inR n low high) := Lib.hid (by rw [HP.out]; unfold magEnd; rw [if_neg hbig, ← hn])
      clear ha hbig hn
      by_cases hr : n < low ∨ high < n
      · have H : Hid (outP (parseS s low high) = outP (0, 4)) := Lib.hid (by rw [HQ.out]; unfold inR; rw [if_pos hr])
        have hr' : n < low ∨ ¬ n < low ∧ high < n := by omega
        clear hr
        rcases hr' with hr | ⟨hr, hr'⟩ <;>
        · rcases h48 with h48 | ⟨h48, h48'⟩ <;>
          · go_enter Tryd.func9, Tryd.ntmps9
            go_wp2_with first | (go_at_call 19; refine (trimPrefix_calls s _).mono ?_; rintro e w1 ⟨rfl, rfl⟩; rw [HF.out]) | (go_at_call 20; refine (trim_calls f _ (by omega)).mono ?_; rintro e w1 ⟨t, rfl, ht, hb⟩; rw [hall] at ht) | (go_at_call 21; refine (atoi_ok_calls s (by omega) _ n HA.out).mono ?_; rintro e w2 ⟨rfl, hb2⟩)
            go_ret2
            exact ⟨by rw [H.out]; rfl, below_trans hb hb2⟩
      · have H : Hid (outP (parseS s low high) = outP (n, 0)) := Lib.hid (by rw [HQ.out]; unfold inR; rw [if_neg hr])
        have hr1 : ¬ n < low := by omega
        have hr2 : ¬ high < n := by omega
        clear hr
        rcases h48 with h48 | ⟨h48, h48'⟩ <;>
        · go_enter Tryd.func9, Tryd.ntmps9
          go_wp2_with first | (go_at_call 19; refine (trimPrefix_calls s _).mono ?_; rintro e w1 ⟨rfl, rfl⟩; rw [HF.out]) | (go_at_call 20; refine (trim_calls f _ (by omega)).mono ?_; rintro e w1 ⟨t, rfl, ht, hb⟩; rw [hall] at ht) | (go_at_call 21; refine (atoi_ok_calls s (by omega) _ n HA.out).mono ?_; rintro e w2 ⟨rfl, hb2⟩)
          go_ret2
          exact ⟨by rw [H.out]; rfl, below_trans hb hb2⟩
end Go.Proofs.YtpmhohgaedbgjabDoor
