/- Plain facts on numbers of 64 and 128 bits: what the machine's shifts, masks and sums come to on natural numbers; lists of bits and their numbers. No program in sight. -/
import Derived.Laws.BitsLemmas
import Derived.OpenShut
import Derived.Test.YthhlnghpbjmfpaaDoorWMore
namespace Go.Proofs.YthhlnghpbjmfpaaDoor.BitsMath
open Go.RowKit Go.Proofs.YthhlnghpbjmfpaaDoorW.PrintWords Go.Proofs.YthhlnghpbjmfpaaDoorW.PrintMore

/-! ### one word of 64 bits -/
theorem wrap_u64 (n : Int) : IntKind.u64.wrap n = n % 18446744073709551616 := by simp [IntKind.wrap, IntKind.bits, IntKind.signed]
theorem wraps_u64 (n : Int) (h0 : 0 ≤ n) (h1 : n < 2 ^ 64) : IntKind.u64.wrap n = n := by rw [wrap_u64]; omega
theorem wrap_nat (n : Nat) : IntKind.u64.wrap (n : Int) = ((n % 2 ^ 64 : Nat) : Int) := by rw [wrap_u64]; omega
theorem u64_nat {a : Int} (h : (Lit.int .u64 a).wf = true) : ∃ n : Nat, a = n ∧ n < 2 ^ 64 := by
  have h0 := bounds_u64 h
  exact ⟨a.toNat, by omega, by omega⟩
theorem and_nat {a b : Nat} (ha : a < 2 ^ 64) (hb : b < 2 ^ 64) : Go.bits .and .u64 a b = ((a &&& b : Nat) : Int) := (bits_nat .u64 64 (by decide) wraps_u64 a b ha hb).1
theorem or_nat {a b : Nat} (ha : a < 2 ^ 64) (hb : b < 2 ^ 64) : Go.bits .or .u64 a b = ((a ||| b : Nat) : Int) := (bits_nat .u64 64 (by decide) wraps_u64 a b ha hb).2
theorem xor_nat {a b : Nat} (ha : a < 2 ^ 64) (hb : b < 2 ^ 64) : Go.bits .xor .u64 a b = ((a ^^^ b : Nat) : Int) := by
  have ha' : a % 2 ^ IntKind.u64.bits = a := Nat.mod_eq_of_lt ha
  have hb' : b % 2 ^ IntKind.u64.bits = b := Nat.mod_eq_of_lt hb
  simp only [Go.bits, BitVec.ofInt_natCast, BitVec.toNat_xor, BitVec.toNat_ofNat, ha', hb']
  have := Nat.xor_lt_two_pow ha hb
  exact wraps_u64 _ (Int.natCast_nonneg _) (by exact_mod_cast this)
theorem shl_nat (a n : Nat) : shl .u64 a n = ((a * 2 ^ n % 2 ^ 64 : Nat) : Int) := by
  unfold shl
  have e : (a : Int) * 2 ^ min (n : Int).toNat IntKind.u64.bits = ((a * 2 ^ min n 64 : Nat) : Int) := by simp [IntKind.bits]
  rw [e, wrap_nat]
  congr 1
  rcases Nat.le_total n 64 with h | h
  · rw [Nat.min_eq_left h]
  · rw [Nat.min_eq_right h]
    have h2 : 2 ^ n = 2 ^ 64 * 2 ^ (n - 64) := by rw [← Nat.pow_add]; congr 1; omega
    rw [h2, show a * (2 ^ 64 * 2 ^ (n - 64)) = 2 ^ 64 * (a * 2 ^ (n - 64)) from by rw [Nat.mul_left_comm], Nat.mul_mod_right, Nat.mul_mod_left]
theorem shr_nat {a : Nat} (n : Nat) (ha : a < 2 ^ 64) : shr .u64 a n = ((a / 2 ^ n : Nat) : Int) := by
  unfold shr
  have e : (a : Int) / 2 ^ min (n : Int).toNat IntKind.u64.bits = ((a / 2 ^ min n 64 : Nat) : Int) := by simp [IntKind.bits]
  rw [e]
  congr 1
  rcases Nat.le_total n 64 with h | h
  · rw [Nat.min_eq_left h]
  · rw [Nat.min_eq_right h, Nat.div_eq_of_lt ha, Nat.div_eq_of_lt (Nat.lt_of_lt_of_le ha (Nat.pow_le_pow_right (by decide) h))]
theorem mask_nat {n : Nat} (h : n ≤ 64) : IntKind.u64.wrap (shl .u64 1 n - 1) = ((2 ^ n - 1 : Nat) : Int) := by
  have h1 := shl_nat 1 n
  rw [show ((1 : Nat) : Int) = 1 from rfl] at h1
  rw [h1, Nat.one_mul]
  rcases Nat.lt_or_eq_of_le h with h2 | h2
  · have h3 : 2 ^ n < 2 ^ 64 := Nat.pow_lt_pow_right (by decide) h2
    have h4 : 0 < 2 ^ n := Nat.two_pow_pos n
    rw [Nat.mod_eq_of_lt h3, wrap_u64]
    generalize 2 ^ n = m at *
    omega
  · subst h2; rw [wrap_u64]; decide

/-! ### two words: a number below 2^128 -/
def hiOf (v : Nat) : Int := ((v / 2 ^ 64 : Nat) : Int)
def loOf (v : Nat) : Int := ((v % 2 ^ 64 : Nat) : Int)
theorem two_words {hi lo : Int} (h1 : (Lit.int .u64 hi).wf = true) (h2 : (Lit.int .u64 lo).wf = true) : ∃ v : Nat, v < 2 ^ 128 ∧ hi = hiOf v ∧ lo = loOf v := by
  obtain ⟨a, rfl, ha⟩ := u64_nat h1
  obtain ⟨b, rfl, hb⟩ := u64_nat h2
  refine ⟨a * 2 ^ 64 + b, by omega, ?_, ?_⟩
  · unfold hiOf; congr 1; omega
  · unfold loOf; congr 1; omega
theorem lo_lt (v : Nat) : v % 2 ^ 64 < 2 ^ 64 := Nat.mod_lt _ (by decide)
theorem hi_lt {v : Nat} (h : v < 2 ^ 128) : v / 2 ^ 64 < 2 ^ 64 := by omega
theorem words_inj {v u : Nat} : hiOf v = hiOf u → loOf v = loOf u → v = u := by unfold hiOf loOf; omega
theorem words_eq (v u : Nat) : (hiOf v == hiOf u && loOf v == loOf u) = decide (v = u) := by
  by_cases h : v = u
  · subst h; simp
  · rw [decide_eq_false h]
    by_cases h1 : hiOf v = hiOf u
    · have h2 : ¬ loOf v = loOf u := fun h2 => h (words_inj h1 h2)
      simp [h2]
    · simp [h1]
theorem hi_wf {v : Nat} (h : v < 2 ^ 128) : (Lit.int .u64 (hiOf v)).wf = true := by
  have := hi_lt h
  simp [Lit.wf, IntKind.min, IntKind.max, IntKind.bits, IntKind.signed, hiOf]
  omega
theorem lo_wf (v : Nat) : (Lit.int .u64 (loOf v)).wf = true := by
  have := lo_lt v
  simp [Lit.wf, IntKind.min, IntKind.max, IntKind.bits, IntKind.signed, loOf]
  omega

/-! ### cut to so many bits -/
theorem cut_hi {v w : Nat} (h : w < 64) : hiOf (v % 2 ^ w) = 0 := by
  unfold hiOf
  have : v % 2 ^ w < 2 ^ 64 := Nat.lt_of_lt_of_le (Nat.mod_lt _ (Nat.two_pow_pos w)) (Nat.pow_le_pow_right (by decide) (by omega))
  rw [Nat.div_eq_of_lt this]; rfl
theorem cut_lo {v w : Nat} (h : w < 64) : loOf (v % 2 ^ w) = ((v % 2 ^ 64 % 2 ^ w : Nat) : Int) := by
  unfold loOf
  congr 1
  have h1 : v % 2 ^ w < 2 ^ 64 := Nat.lt_of_lt_of_le (Nat.mod_lt _ (Nat.two_pow_pos w)) (Nat.pow_le_pow_right (by decide) (by omega))
  rw [Nat.mod_eq_of_lt h1, Nat.mod_mod_of_dvd _ (Nat.pow_dvd_pow 2 (by omega))]
theorem cut_hi2 {v w : Nat} (h : 64 ≤ w) : hiOf (v % 2 ^ w) = ((v / 2 ^ 64 % 2 ^ (w - 64) : Nat) : Int) := by
  unfold hiOf
  obtain ⟨u, rfl⟩ : ∃ u, w = 64 + u := ⟨w - 64, by omega⟩
  rw [Nat.add_sub_cancel_left, Nat.pow_add, Nat.mod_mul_right_div_self]
theorem cut_lo2 {v w : Nat} (h : 64 ≤ w) : loOf (v % 2 ^ w) = loOf v := by
  unfold loOf
  rw [Nat.mod_mod_of_dvd _ (Nat.pow_dvd_pow 2 h)]

/-! ### lists of bits -/
def natL : List Bool → Nat
  | [] => 0
  | b :: t => b.toNat + 2 * natL t
def bl (w v : Nat) : List Bool := (List.range w).map (Nat.testBit v)
theorem bl_length (w v : Nat) : (bl w v).length = w := by simp [bl]
theorem natL_lt (l : List Bool) : natL l < 2 ^ l.length := by
  induction l with
  | nil => simp [natL]
  | cons b t ih => simp only [natL, List.length_cons, Nat.pow_succ]; have := b.toNat_lt; omega
theorem natL_bit (l : List Bool) (i : Nat) : (natL l).testBit i = l.getD i false := by
  induction l generalizing i with
  | nil => simp [natL]
  | cons b t ih =>
    cases i with
    | zero => simp only [natL, Nat.testBit_zero]; cases b <;> simp <;> omega
    | succ i =>
      simp only [natL, Nat.testBit_succ]
      have : (b.toNat + 2 * natL t) / 2 = natL t := by have := b.toNat_lt; omega
      rw [this, ih]; simp
theorem bl_getD (w v i : Nat) : (bl w v).getD i false = (decide (i < w) && v.testBit i) := by
  by_cases h : i < w
  · simp [bl, List.getD_eq_getElem?_getD, h]
  · simp [bl, List.getD_eq_getElem?_getD, h]
theorem natL_bl (w v : Nat) : natL (bl w v) = v % 2 ^ w := by
  refine Nat.eq_of_testBit_eq fun i => ?_
  rw [natL_bit, bl_getD, Nat.testBit_mod_two_pow]
theorem bl_natL (l : List Bool) : bl l.length (natL l) = l := by
  refine List.ext_getElem (by simp [bl]) fun i h1 h2 => ?_
  have := natL_bit l i
  simp [bl, this, List.getD_eq_getElem?_getD, h2]
theorem natL_inj {l m : List Bool} (hl : l.length = m.length) (h : natL l = natL m) : l = m := by rw [← bl_natL l, ← bl_natL m, hl, h]
theorem bl_succ (w v : Nat) : bl (w + 1) v = bl w v ++ [v.testBit w] := by simp [bl, List.range_succ]
theorem bl_mod (w v : Nat) : bl w (v % 2 ^ w) = bl w v := by
  refine List.ext_getElem (by simp [bl]) fun i h1 h2 => ?_
  simp [bl] at h1
  simp [bl, Nat.testBit_mod_two_pow, h1]
theorem natL_append (l m : List Bool) : natL (l ++ m) = natL l + 2 ^ l.length * natL m := by
  induction l with
  | nil => simp [natL]
  | cons b t ih => simp only [List.cons_append, natL, ih, List.length_cons, Nat.pow_succ]; rw [Nat.mul_add, Nat.add_assoc]; congr 2; rw [← Nat.mul_assoc, Nat.mul_comm 2]
theorem natL_take_succ {l : List Bool} {i : Nat} (h : i < l.length) : natL (l.take (i + 1)) = natL (l.take i) + 2 ^ i * (l.getD i false).toNat := by
  rw [List.take_succ_eq_append_getElem h, natL_append]
  simp [natL, List.getD_eq_getElem?_getD, h, Nat.min_eq_left (Nat.le_of_lt h)]
theorem natL_take_lt (l : List Bool) (i : Nat) : natL (l.take i) < 2 ^ i :=
  Nat.lt_of_lt_of_le (natL_lt _) (Nat.pow_le_pow_right (by decide) (List.length_take_le _ _))
theorem bit_word (v i : Nat) (h : i < 64) : (Go.bits .and .u64 (shr .u64 (loOf v) (i : Int)) 1 == 1) = v.testBit i := by
  unfold loOf
  rw [shr_nat i (lo_lt v), show (1 : Int) = ((1 : Nat) : Int) from rfl, and_nat (Nat.lt_of_le_of_lt (Nat.div_le_self _ _) (lo_lt v)) (by decide)]
  have h1 : (v % 2 ^ 64).testBit i = v.testBit i := by rw [Nat.testBit_mod_two_pow]; simp [h]
  rw [← h1, Nat.testBit, Nat.shiftRight_eq_div_pow, Nat.and_comm]
  have hz : 1 &&& (v % 2 ^ 64 / 2 ^ i) ≤ 1 := Nat.and_le_left
  generalize 1 &&& (v % 2 ^ 64 / 2 ^ i) = z at *
  obtain rfl | rfl : z = 0 ∨ z = 1 := by omega
  · rfl
  · rfl
theorem bit_word2 {v : Nat} (i : Nat) (hv : v < 2 ^ 128) (h : i < 64) : (Go.bits .and .u64 (shr .u64 (hiOf v) (i : Int)) 1 == 1) = v.testBit (i + 64) := by
  have h0 := bit_word (v / 2 ^ 64) i h
  have h1 : loOf (v / 2 ^ 64) = hiOf v := by unfold loOf hiOf; rw [Nat.mod_eq_of_lt (hi_lt hv)]
  rw [h1] at h0
  rw [h0, Nat.testBit_div_two_pow, Nat.add_comm]
/-- Set one bit that is not set. -/
theorem or_bit {x i : Nat} (h : x < 2 ^ i) : x ||| 2 ^ i = x + 2 ^ i := by
  rw [Nat.or_comm, ← Nat.mul_one (2 ^ i), ← Nat.two_pow_add_eq_or_of_lt h, Nat.add_comm]
theorem hi_add {x i : Nat} (h : x < 2 ^ i) (hi : i < 64) : hiOf (x + 2 ^ i) = hiOf x ∧ loOf (x + 2 ^ i) = ((x % 2 ^ 64 ||| 2 ^ i : Nat) : Int) := by
  have h2 : 2 ^ i < 2 ^ 64 := Nat.pow_lt_pow_right (by decide) hi
  have h3 : 2 ^ (i + 1) ≤ 2 ^ 64 := Nat.pow_le_pow_right (by decide) hi
  rw [Nat.pow_succ] at h3
  have h4 : x % 2 ^ 64 = x := Nat.mod_eq_of_lt (by omega)
  unfold hiOf loOf
  rw [h4, or_bit h]
  constructor <;> congr 1 <;> omega
theorem hi_add2 {x i : Nat} (h : x < 2 ^ i) (hi : 64 ≤ i) : hiOf (x + 2 ^ i) = ((x / 2 ^ 64 ||| 2 ^ (i - 64) : Nat) : Int) ∧ loOf (x + 2 ^ i) = loOf x := by
  obtain ⟨u, rfl⟩ : ∃ u, i = 64 + u := ⟨i - 64, by omega⟩
  have h1 : x / 2 ^ 64 < 2 ^ u := by rw [Nat.pow_add] at h; exact Nat.div_lt_of_lt_mul h
  unfold hiOf loOf
  rw [Nat.add_sub_cancel_left, or_bit h1, Nat.pow_add]
  constructor <;> congr 1
  · rw [Nat.add_mul_div_left _ _ (by decide)]
  · rw [Nat.add_mul_mod_self_left]
theorem wrap_succ {i : Nat} (h : i < 9223372036854775807) : wrap64 ((i : Int) + 1) = ((i + 1 : Nat) : Int) := by unfold wrap64; omega
theorem wrap_sub {i : Nat} {c : Int} (h0 : c ≤ i) (hc : 0 ≤ c) (h : i < 9223372036854775807) : wrap64 ((i : Int) - c) = ((i - c.toNat : Nat) : Int) := by unfold wrap64; omega
end Go.Proofs.YthhlnghpbjmfpaaDoor.BitsMath
