/- What the printed functions of numbers of so many bits come to, on natural numbers. No memory in sight. -/
import Derived.Test.YthhlnghpbjmfpaaBitsMath
import Derived.Test.YthhlnghpbjmfpaaPTryx
namespace Go.Proofs.Ythhlnghpbjmfpaa.PTryFns
open Go.RowKit Go.Proofs.Ythhlnghpbjmfpaa.PTry Go.Proofs.YthhlnghpbjmfpaaW.PrintWords Go.Proofs.YthhlnghpbjmfpaaW.PrintLast Go.Proofs.YthhlnghpbjmfpaaW.PrintMore Go.Proofs.Ythhlnghpbjmfpaa.BitsMath

theorem wide_is (w : Int) : bits_wide.f w = some (decide (1 ≤ w ∧ w ≤ 128)) := by
  unfold bits_wide.f
  by_cases h : 1 ≤ w
  · rw [if_pos h]; simp [h]
  · rw [if_neg h]; simp [h]
theorem cut_is (w : Nat) (h : w ≤ 128) {v : Nat} (hv : v < 2 ^ 128) : bits_cut.f w (hiOf v) (loOf v) = some ((w : Int), hiOf (v % 2 ^ w), loOf (v % 2 ^ w)) := by
  unfold bits_cut.f
  by_cases h1 : w < 64
  · rw [if_pos (by omega), if_pos (by omega), cut_hi h1, cut_lo h1, mask_nat (by omega)]
    unfold loOf
    rw [and_nat (lo_lt v) (Nat.lt_of_lt_of_le (Nat.sub_lt (Nat.two_pow_pos w) (by decide)) (Nat.pow_le_pow_right (by decide) (by omega))), Nat.and_two_pow_sub_one_eq_mod]
  · have e : wrap64 ((w : Int) - 64) = ((w - 64 : Nat) : Int) := by unfold wrap64; omega
    rw [if_neg (by omega), e, if_pos (by omega), cut_hi2 (by omega), cut_lo2 (by omega), mask_nat (by omega)]
    unfold hiOf
    have h5 : 2 ^ (w - 64) - 1 < 2 ^ 64 := by
      have : 2 ^ (w - 64) ≤ 2 ^ 64 := Nat.pow_le_pow_right (by decide) (by omega)
      have := Nat.two_pow_pos (w - 64)
      omega
    rw [and_nat (hi_lt hv) h5, Nat.and_two_pow_sub_one_eq_mod]
theorem of_is (w : Nat) (h0 : 1 ≤ w) (h : w ≤ 128) {v : Nat} (hv : v < 2 ^ 128) : bits_Of.f w (hiOf v) (loOf v) = some ((w : Int), hiOf (v % 2 ^ w), loOf (v % 2 ^ w), 0) := by
  unfold bits_Of.f
  rw [wide_is, Option.bind_some, if_pos (by simp; omega), cut_is w h hv, Option.bind_some]
theorem of_not (w hi lo : Int) (h : ¬ (1 ≤ w ∧ w ≤ 128)) : bits_Of.f w hi lo = some (0, 0, 0, 1) := by
  unfold bits_Of.f
  rw [wide_is, Option.bind_some, if_neg (by simpa using h)]
theorem check_is (w : Nat) (h0 : 1 ≤ w) (h : w ≤ 128) {v : Nat} (hv : v < 2 ^ 128) : bits_Check.f w (hiOf v) (loOf v) = some (decide (v < 2 ^ w)) := by
  unfold bits_Check.f
  rw [wide_is, Option.bind_some, if_pos (by simp; omega), cut_is w h hv, Option.bind_some]
  simp only [BEq.rfl, Bool.true_and, words_eq]
  congr 1
  have := Nat.mod_lt v (Nat.two_pow_pos w)
  by_cases h1 : v < 2 ^ w
  · simp [Nat.mod_eq_of_lt h1, h1]
  · simp [h1]; omega
theorem check_not (w hi lo : Int) (h : ¬ (1 ≤ w ∧ w ≤ 128)) : bits_Check.f w hi lo = some false := by
  unfold bits_Check.f
  rw [wide_is, Option.bind_some, if_neg (by simpa using h)]

/-! ### the reference: Number, Bits, Of, Check -/
theorem number_l (l : List Bool) (hl : l.length ≤ 128) (d : Nat) : ∀ (k i : Nat), i ≤ l.length → l.length - i = d → d < k →
    pointsmanref01_Number.l0 k l i (l.length : Int) (hiOf (natL (l.take i))) (loOf (natL (l.take i))) = some ((l.length : Int), hiOf (natL l), loOf (natL l)) := by
  induction d with
  | zero =>
    intro k i h0 hd hk
    obtain ⟨k, rfl⟩ : ∃ m, k = m + 1 := ⟨k - 1, by omega⟩
    simp only [pointsmanref01_Number.l0]
    rw [if_neg (by omega), List.take_of_length_le (by omega)]
  | succ d ih =>
    intro k i h0 hd hk
    obtain ⟨k, rfl⟩ : ∃ m, k = m + 1 := ⟨k - 1, by omega⟩
    have hn := ih k (i + 1) (by omega) (by omega) (by omega)
    have hlt : i < l.length := by omega
    have ht := natL_take_succ hlt
    have hb := natL_take_lt l i
    have hw := lo_lt (natL (l.take i))
    have hx : natL (l.take i) < 2 ^ 128 := Nat.lt_of_lt_of_le hb (Nat.pow_le_pow_right (by decide) (by omega))
    have hx := hi_lt hx
    simp only [pointsmanref01_Number.l0]
    rw [if_pos (by omega), if_pos (by omega), wrap_succ (by omega)]
    have hr : rdOf false l (i : Int) = l.getD i false := rfl
    rw [hr]
    generalize l.getD i false = b at *
    cases b with
    | false =>
      rw [if_neg (by decide)]
      have e : natL (l.take (i + 1)) = natL (l.take i) := by rw [ht]; simp
      rw [e] at hn; exact hn
    | true =>
      rw [if_pos rfl]
      have e : natL (l.take (i + 1)) = natL (l.take i) + 2 ^ i := by rw [ht]; simp
      rw [e] at hn
      have h1 := shl_nat 1
      by_cases h6 : i < 64
      · obtain ⟨e1, e2⟩ := hi_add hb h6
        rw [if_pos (by omega)]
        rw [e1, e2] at hn
        have h2 := h1 i
        rw [Nat.one_mul, Nat.mod_eq_of_lt (Nat.pow_lt_pow_right (by decide) h6)] at h2
        rw [show (1 : Int) = ((1 : Nat) : Int) from rfl, h2]
        unfold loOf
        rw [or_nat hw (Nat.pow_lt_pow_right (by decide) h6)]
        exact hn
      · obtain ⟨e1, e2⟩ := hi_add2 hb (by omega : 64 ≤ i)
        have e3 : wrap64 ((i : Int) - 64) = ((i - 64 : Nat) : Int) := by unfold wrap64; omega
        rw [if_neg (by omega), e3, if_pos (by omega)]
        rw [e1, e2] at hn
        have h2 := h1 (i - 64)
        have h7 : 2 ^ (i - 64) < 2 ^ 64 := Nat.pow_lt_pow_right (by decide) (by omega)
        rw [Nat.one_mul, Nat.mod_eq_of_lt h7] at h2
        rw [show (1 : Int) = ((1 : Nat) : Int) from rfl, h2]
        unfold hiOf
        rw [or_nat hx h7]
        exact hn
theorem number_is (l : List Bool) (hl : l.length ≤ 128) (k : Nat) (hk : 128 < k) : pointsmanref01_Number.f k l = some ((l.length : Int), hiOf (natL l), loOf (natL l)) := by
  have h := number_l l hl l.length k 0 (by omega) (by omega) (by omega)
  rw [List.take_zero, show hiOf (natL []) = 0 from rfl, show loOf (natL []) = 0 from rfl] at h
  exact h

theorem bits_l (w : Nat) {v : Nat} (hv : v < 2 ^ 128) (d : Nat) : ∀ (k i : Nat), i ≤ min w 128 → min w 128 - i = d → 2 * d + 1 < k →
    pointsmanref01_Bits.l0 k (bl i v) i w (hiOf v) (loOf v) = some (bl (min w 128) v) := by
  induction d with
  | zero =>
    intro k i h0 hd hk
    obtain ⟨k, rfl⟩ : ∃ m, k = m + 2 := ⟨k - 2, by omega⟩
    have e : min w 128 = i := by omega
    rw [pointsmanref01_Bits.l0]
    by_cases h1 : i < w
    · rw [if_pos (by omega), pointsmanref01_Bits.j1, if_neg (by simp; omega), e]
    · rw [if_neg (by omega), pointsmanref01_Bits.j1, if_neg (by decide), e]
  | succ d ih =>
    intro k i h0 hd hk
    obtain ⟨k, rfl⟩ : ∃ m, k = m + 2 := ⟨k - 2, by omega⟩
    have hn := ih k (i + 1) (by omega) (by omega) (by omega)
    rw [pointsmanref01_Bits.l0, if_pos (by omega), pointsmanref01_Bits.j1, if_pos (by simp; omega), wrap_succ (by omega)]
    rw [bl_succ] at hn
    have hlen : (bl i v).length < 140737488355328 := by rw [bl_length]; omega
    by_cases h6 : i < 64
    · rw [if_pos (by omega), if_pos (by omega), if_pos hlen, bit_word v i h6]
      exact hn
    · have e3 : wrap64 ((i : Int) - 64) = ((i - 64 : Nat) : Int) := by unfold wrap64; omega
      rw [if_neg (by omega), e3, if_pos (by omega), if_pos hlen, bit_word2 (i - 64) hv (by omega), show i - 64 + 64 = i from by omega]
      exact hn
theorem bits_is (w : Nat) {v : Nat} (hv : v < 2 ^ 128) (k : Nat) (hk : 300 < k) : pointsmanref01_Bits.f k w (hiOf v) (loOf v) = some (bl (min w 128) v) :=
  bits_l w hv (min w 128) k 0 (by omega) (by omega) (by omega)
theorem refOf_not (w hi lo : Int) (k : Nat) (hk : 300 < k) (h : ¬ (1 ≤ w ∧ w ≤ 128)) : pointsmanref01_Of.f k w hi lo = some (0, 0, 0, 1) := by
  obtain ⟨k, rfl⟩ : ∃ m, k = m + 1 := ⟨k - 1, by omega⟩
  unfold pointsmanref01_Of.f
  by_cases h1 : w < 1
  · rw [if_pos h1, pointsmanref01_Of.j0, if_pos rfl]
  · rw [if_neg h1, pointsmanref01_Of.j0, if_pos (by simp; omega)]
theorem refOf_is (w : Nat) (h0 : 1 ≤ w) (h : w ≤ 128) {v : Nat} (hv : v < 2 ^ 128) (k : Nat) (hk : 301 < k) : pointsmanref01_Of.f k w (hiOf v) (loOf v) = some ((w : Int), hiOf (v % 2 ^ w), loOf (v % 2 ^ w), 0) := by
  obtain ⟨k, rfl⟩ : ∃ m, k = m + 1 := ⟨k - 1, by omega⟩
  unfold pointsmanref01_Of.f
  rw [if_neg (by omega), pointsmanref01_Of.j0, if_neg (by simp; omega), bits_is w hv k (by omega), Option.bind_some, number_is _ (by rw [bl_length]; omega) k (by omega), Option.bind_some, bl_length, natL_bl, Nat.min_eq_left h]
theorem refCheck_not (w hi lo : Int) (k : Nat) (hk : 300 < k) (h : ¬ (1 ≤ w ∧ w ≤ 128)) : pointsmanref01_Check.f k w hi lo = some false := by
  unfold pointsmanref01_Check.f
  rw [refOf_not w hi lo k hk h, Option.bind_some, if_neg (by decide)]
theorem refCheck_is (w : Nat) (h0 : 1 ≤ w) (h : w ≤ 128) {v : Nat} (hv : v < 2 ^ 128) (k : Nat) (hk : 301 < k) : pointsmanref01_Check.f k w (hiOf v) (loOf v) = some (decide (v < 2 ^ w)) := by
  unfold pointsmanref01_Check.f
  rw [refOf_is w h0 h hv k hk, Option.bind_some, if_pos rfl]
  simp only [BEq.rfl, Bool.true_and, words_eq]
  congr 1
  have := Nat.mod_lt v (Nat.two_pow_pos w)
  by_cases h1 : v < 2 ^ w
  · simp [Nat.mod_eq_of_lt h1, h1]
  · simp [h1]; omega
end Go.Proofs.Ythhlnghpbjmfpaa.PTryFns
