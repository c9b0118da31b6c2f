/- What the printed functions of numbers of so many bits come to, on natural numbers. No memory in sight. -/
import Derived.Test.YthhlnghpbjmfpaaDoorBitsMath
import Derived.Test.YthhlnghpbjmfpaaDoorPTrydx4
namespace Go.Proofs.YthhlnghpbjmfpaaDoor.PTrydFns
open Go.RowKit Go.Proofs.YthhlnghpbjmfpaaDoor.PTryd Go.Proofs.YthhlnghpbjmfpaaDoorW.PrintWords Go.Proofs.YthhlnghpbjmfpaaDoorW.PrintLast Go.Proofs.YthhlnghpbjmfpaaDoorW.PrintMore Go.Proofs.YthhlnghpbjmfpaaDoor.BitsMath

theorem wide_is (w : Int) : bits_wide.f w = some (decide (1 ≤ w ∧ w ≤ 128)) := by
  unfold bits_wide.f
  by_cases h : 1 ≤ w
  · rw [if_pos h]; simp [h]
  · rw [if_neg h]; simp [h]
theorem cut_is (w : Nat) (h : w ≤ 128) {v : Nat} (hv : v < 2 ^ 128) : bits_cut.f w (hiOf v) (loOf v) = some ((w : Int), hiOf (v % 2 ^ w), loOf (v % 2 ^ w)) := by
  unfold bits_cut.f
  by_cases h1 : w < 64
  · rw [if_pos (by omega), if_pos (by omega), cut_hi h1, cut_lo h1, mask_nat (by omega)]
    unfold loOf
    rw [and_nat (lo_lt v) (Nat.lt_of_lt_of_le (Nat.sub_lt (Nat.two_pow_pos w) (by decide)) (Nat.pow_le_pow_right (by decide) (by omega))), Nat.and_two_pow_sub_one_eq_mod]
  · have e : wrap64 ((w : Int) - 64) = ((w - 64 : Nat) : Int) := by unfold wrap64; omega
    rw [if_neg (by omega), e, if_pos (by omega), cut_hi2 (by omega), cut_lo2 (by omega), mask_nat (by omega)]
    unfold hiOf
    have h5 : 2 ^ (w - 64) - 1 < 2 ^ 64 := by
      have : 2 ^ (w - 64) ≤ 2 ^ 64 := Nat.pow_le_pow_right (by decide) (by omega)
      have := Nat.two_pow_pos (w - 64)
      omega
    rw [and_nat (hi_lt hv) h5, Nat.and_two_pow_sub_one_eq_mod]
theorem of_is (w : Nat) (h0 : 1 ≤ w) (h : w ≤ 128) {v : Nat} (hv : v < 2 ^ 128) : bits_Of.f w (hiOf v) (loOf v) = some ((w : Int), hiOf (v % 2 ^ w), loOf (v % 2 ^ w), 0) := by
  unfold bits_Of.f
  rw [wide_is, Option.bind_some, if_pos (by simp; omega), cut_is w h hv, Option.bind_some]
theorem of_not (w hi lo : Int) (h : ¬ (1 ≤ w ∧ w ≤ 128)) : bits_Of.f w hi lo = some (0, 0, 0, 1) := by
  unfold bits_Of.f
  rw [wide_is, Option.bind_some, if_neg (by simpa using h)]
theorem check_is (w : Nat) (h0 : 1 ≤ w) (h : w ≤ 128) {v : Nat} (hv : v < 2 ^ 128) : bits_Check.f w (hiOf v) (loOf v) = some (decide (v < 2 ^ w)) := by
  unfold bits_Check.f
  rw [wide_is, Option.bind_some, if_pos (by simp; omega), cut_is w h hv, Option.bind_some]
  simp only [BEq.rfl, Bool.true_and, words_eq]
  congr 1
  have := Nat.mod_lt v (Nat.two_pow_pos w)
  by_cases h1 : v < 2 ^ w
  · simp [Nat.mod_eq_of_lt h1, h1]
  · simp [h1]; omega
theorem check_not (w hi lo : Int) (h : ¬ (1 ≤ w ∧ w ≤ 128)) : bits_Check.f w hi lo = some false := by
  unfold bits_Check.f
  rw [wide_is, Option.bind_some, if_neg (by simpa using h)]

end Go.Proofs.YthhlnghpbjmfpaaDoor.PTrydFns
