/- The reference's numbers and their texts over data. -/
import Derived.Test.YtcaedggggkchiaaGreatDoorAbLaw7
import Derived.Test.YtcaedggggkchiaaGreatDoorAbHeap
import Derived.Test.YtcaedggggkchiaaGreatDoorAbInvL
import Derived.OpenShut
namespace Go.Proofs.YtcaedggggkchiaaGreatDoor.Ln
open Go Go.RowKit Go.Ab Go.Proofs 
set_option linter.unusedVariables false
set_option linter.unusedSimpArgs false
theorem sk89 : sk Tryz.prog 89 = some (4, 1, [.bool false]) := by kernel_rfl
theorem apk89 : apk Tryz.prog 89 89 = some (4, 1, 1) := by kernel_rfl
theorem un89 : Tryz.prog.underlying 89 = some (.slice 4) := by kernel_rfl
theorem kd4 : kd Tryz.prog 4 = some (false, 1) := by kernel_rfl
theorem un3 : Tryz.prog.underlying 3 = some (.int .i64) := by kernel_rfl
theorem en29 : enters Tryz.prog 29 = true := by kernel_rfl
theorem en32 : enters Tryz.prog 32 = true := by kernel_rfl
theorem en132 : enters Tryz.prog 132 = true := by kernel_rfl
theorem en28 : enters Tryz.prog 28 = true := by kernel_rfl
theorem en30 : enters Tryz.prog 30 = true := by kernel_rfl
theorem en250 : enters Tryz.prog 250 = true := by kernel_rfl

/-! ### one word of 64 bits -/
theorem wrap_nat (n : Nat) : IntKind.u64.wrap (n : Int) = ((n % 2 ^ 64 : Nat) : Int) := by rw [wrap_u64]; omega
theorem u64_nat {a : Int} (h : (Lit.int .u64 a).wf = true) : ∃ n : Nat, a = n ∧ n < 2 ^ 64 := by
  have h0 := bounds_u64 h
  exact ⟨a.toNat, by omega, by omega⟩
theorem xor_nat {a b : Nat} (ha : a < 2 ^ 64) (hb : b < 2 ^ 64) : Go.bits .xor .u64 a b = ((a ^^^ b : Nat) : Int) := by
  have ha' : a % 2 ^ IntKind.u64.bits = a := Nat.mod_eq_of_lt ha
  have hb' : b % 2 ^ IntKind.u64.bits = b := Nat.mod_eq_of_lt hb
  simp only [Go.bits, BitVec.ofInt_natCast, BitVec.toNat_xor, BitVec.toNat_ofNat, ha', hb']
  have := Nat.xor_lt_two_pow ha hb
  exact wraps_u64 _ (Int.natCast_nonneg _) (by exact_mod_cast this)
theorem two_words {hi lo : Int} (h1 : (Lit.int .u64 hi).wf = true) (h2 : (Lit.int .u64 lo).wf = true) : ∃ v : Nat, v < 2 ^ 128 ∧ hi = hiOf v ∧ lo = loOf v := by
  obtain ⟨a, rfl, ha⟩ := u64_nat h1
  obtain ⟨b, rfl, hb⟩ := u64_nat h2
  refine ⟨a * 2 ^ 64 + b, by omega, ?_, ?_⟩
  · unfold hiOf; congr 1; omega
  · unfold loOf; congr 1; omega
theorem words_inj {v u : Nat} : hiOf v = hiOf u → loOf v = loOf u → v = u := by unfold hiOf loOf; omega
theorem hi_wf {v : Nat} (h : v < 2 ^ 128) : (Lit.int .u64 (hiOf v)).wf = true := by
  have := hi_lt h
  simp [Lit.wf, IntKind.min, IntKind.max, IntKind.bits, IntKind.signed, hiOf]
  omega
theorem lo_wf (v : Nat) : (Lit.int .u64 (loOf v)).wf = true := by
  have := lo_lt v
  simp [Lit.wf, IntKind.min, IntKind.max, IntKind.bits, IntKind.signed, loOf]
  omega

/-! ### cut to so many bits -/
def natL : List Bool → Nat
  | [] => 0
  | b :: t => b.toNat + 2 * natL t
def bl (w v : Nat) : List Bool := (List.range w).map (Nat.testBit v)
theorem bl_length (w v : Nat) : (bl w v).length = w := by simp [bl]
theorem natL_lt (l : List Bool) : natL l < 2 ^ l.length := by
  induction l with
  | nil => simp [natL]
  | cons b t ih => simp only [natL, List.length_cons, Nat.pow_succ]; have := b.toNat_lt; omega
theorem natL_bit (l : List Bool) (i : Nat) : (natL l).testBit i = l.getD i false := by
  induction l generalizing i with
  | nil => simp [natL]
  | cons b t ih =>
    cases i with
    | zero => simp only [natL, Nat.testBit_zero]; cases b <;> simp <;> omega
    | succ i =>
      simp only [natL, Nat.testBit_succ]
      have : (b.toNat + 2 * natL t) / 2 = natL t := by have := b.toNat_lt; omega
      rw [this, ih]; simp
theorem bl_getD (w v i : Nat) : (bl w v).getD i false = (decide (i < w) && v.testBit i) := by
  by_cases h : i < w
  · simp [bl, List.getD_eq_getElem?_getD, h]
  · simp [bl, List.getD_eq_getElem?_getD, h]
theorem natL_bl (w v : Nat) : natL (bl w v) = v % 2 ^ w := by
  refine Nat.eq_of_testBit_eq fun i => ?_
  rw [natL_bit, bl_getD, Nat.testBit_mod_two_pow]
theorem bl_natL (l : List Bool) : bl l.length (natL l) = l := by
  refine List.ext_getElem (by simp [bl]) fun i h1 h2 => ?_
  have := natL_bit l i
  simp [bl, this, List.getD_eq_getElem?_getD, h2]
theorem natL_inj {l m : List Bool} (hl : l.length = m.length) (h : natL l = natL m) : l = m := by rw [← bl_natL l, ← bl_natL m, hl, h]
theorem bl_succ (w v : Nat) : bl (w + 1) v = bl w v ++ [v.testBit w] := by simp [bl, List.range_succ]
theorem bl_mod (w v : Nat) : bl w (v % 2 ^ w) = bl w v := by
  refine List.ext_getElem (by simp [bl]) fun i h1 h2 => ?_
  simp [bl] at h1
  simp [bl, Nat.testBit_mod_two_pow, h1]
theorem natL_append (l m : List Bool) : natL (l ++ m) = natL l + 2 ^ l.length * natL m := by
  induction l with
  | nil => simp [natL]
  | cons b t ih => simp only [List.cons_append, natL, ih, List.length_cons, Nat.pow_succ]; rw [Nat.mul_add, Nat.add_assoc]; congr 2; rw [← Nat.mul_assoc, Nat.mul_comm 2]
theorem natL_take_succ {l : List Bool} {i : Nat} (h : i < l.length) : natL (l.take (i + 1)) = natL (l.take i) + 2 ^ i * (l.getD i false).toNat := by
  rw [List.take_succ_eq_append_getElem h, natL_append]
  simp [natL, List.getD_eq_getElem?_getD, h, Nat.min_eq_left (Nat.le_of_lt h)]
theorem natL_take_lt (l : List Bool) (i : Nat) : natL (l.take i) < 2 ^ i :=
  Nat.lt_of_lt_of_le (natL_lt _) (Nat.pow_le_pow_right (by decide) (List.length_take_le _ _))
/-- Set one bit that is not set. -/
theorem or_bit {x i : Nat} (h : x < 2 ^ i) : x ||| 2 ^ i = x + 2 ^ i := by
  rw [Nat.or_comm, ← Nat.mul_one (2 ^ i), ← Nat.two_pow_add_eq_or_of_lt h, Nat.add_comm]
theorem hi_add {x i : Nat} (h : x < 2 ^ i) (hi : i < 64) : hiOf (x + 2 ^ i) = hiOf x ∧ loOf (x + 2 ^ i) = ((x % 2 ^ 64 ||| 2 ^ i : Nat) : Int) := by
  have h2 : 2 ^ i < 2 ^ 64 := Nat.pow_lt_pow_right (by decide) hi
  have h3 : 2 ^ (i + 1) ≤ 2 ^ 64 := Nat.pow_le_pow_right (by decide) hi
  rw [Nat.pow_succ] at h3
  have h4 : x % 2 ^ 64 = x := Nat.mod_eq_of_lt (by omega)
  unfold hiOf loOf
  rw [h4, or_bit h]
  constructor <;> congr 1 <;> omega
theorem hi_add2 {x i : Nat} (h : x < 2 ^ i) (hi : 64 ≤ i) : hiOf (x + 2 ^ i) = ((x / 2 ^ 64 ||| 2 ^ (i - 64) : Nat) : Int) ∧ loOf (x + 2 ^ i) = loOf x := by
  obtain ⟨u, rfl⟩ : ∃ u, i = 64 + u := ⟨i - 64, by omega⟩
  have h1 : x / 2 ^ 64 < 2 ^ u := by rw [Nat.pow_add] at h; exact Nat.div_lt_of_lt_mul h
  unfold hiOf loOf
  rw [Nat.add_sub_cancel_left, or_bit h1, Nat.pow_add]
  constructor <;> congr 1
  · rw [Nat.add_mul_div_left _ _ (by decide)]
  · rw [Nat.add_mul_mod_self_left]
theorem wrap_sub {i : Nat} {c : Int} (h0 : c ≤ i) (hc : 0 ≤ c) (h : i < 9223372036854775807) : wrap64 ((i : Int) - c) = ((i - c.toNat : Nat) : Int) := by unfold wrap64; omega


theorem bit_eqv {w X Y : Nat} (hX : X < 2 ^ 128) (hY : Y < 2 ^ 128) : (((w : Int) == (w : Int)) && ((hiOf X == hiOf Y) && ((loOf X == loOf Y) && true))) = decide (X = Y) := by
  rw [beq_self_eq_true, Bool.true_and, Bool.and_true]
  by_cases h : X = Y
  · subst h; rw [beq_self_eq_true, beq_self_eq_true, decide_eq_true rfl]; rfl
  · rw [decide_eq_false h]
    by_cases h1 : hiOf X = hiOf Y
    · have h2 : ¬ loOf X = loOf Y := fun c => h (by unfold hiOf at h1; unfold loOf at c; omega)
      rw [beq_eq_false_iff_ne.mpr h2, Bool.and_false]
    · rw [beq_eq_false_iff_ne.mpr h1, Bool.false_and]
theorem bit_w (v i : Nat) (h : i < 64) : (Go.bits .and .u64 ((v % 2 ^ 64 / 2 ^ i : Nat) : Int) 1 == 1) = v.testBit i := by
  rw [show (1 : Int) = ((1 : Nat) : Int) from rfl, and_nat (Nat.lt_of_le_of_lt (Nat.div_le_self _ _) (lo_lt v)) (by decide)]
  have h1 : (v % 2 ^ 64).testBit i = v.testBit i := by rw [Nat.testBit_mod_two_pow]; simp [h]
  rw [← h1, Nat.testBit, Nat.shiftRight_eq_div_pow, Nat.and_comm]
  have hz : 1 &&& (v % 2 ^ 64 / 2 ^ i) ≤ 1 := Nat.and_le_left
  generalize 1 &&& (v % 2 ^ 64 / 2 ^ i) = z at *
  obtain rfl | rfl : z = 0 ∨ z = 1 := by omega
  · rfl
  · rfl
theorem bit_w2 {v : Nat} (i : Nat) (hv : v < 2 ^ 128) (h : i < 64) : (Go.bits .and .u64 ((v / 2 ^ 64 / 2 ^ i : Nat) : Int) 1 == 1) = v.testBit (i + 64) := by
  have h0 := bit_w (v / 2 ^ 64) i h
  rw [Nat.mod_eq_of_lt (hi_lt hv)] at h0
  rw [h0, Nat.testBit_div_two_pow, Nat.add_comm]

def bDB (l : List Bool) : List D := l.map fun b => .sc (.bool b)
theorem bDB_len (l : List Bool) : (bDB l).length = l.length := by simp [bDB]
theorem bDB_bl (w v : Nat) : (bDB (bl w v)).length = w := by rw [bDB_len, bl_length]
theorem bDB_at {w v j : Nat} (h : j < w) : (bDB (bl w v))[((j : Int)).toNat]? = some (.sc (.bool (v.testBit j))) := by
  rw [Int.toNat_natCast, bDB, List.getElem?_map, bl, List.getElem?_map, List.getElem?_range h]; rfl
theorem bDB_succ (i v : Nat) : bDB (bl i v) ++ [.sc (.bool (v.testBit i))] = bDB (bl (i + 1) v) := by rw [bl_succ, bDB, bDB, List.map_append]; rfl
/-- So many bits of v, from a place on, the highest first. -/
def pv (v at_ n k : Nat) : Nat := v / 2 ^ (at_ + n - k) % 2 ^ k
theorem pv_lt (v at_ n k : Nat) (h : k ≤ 8) : pv v at_ n k < 256 := Nat.lt_of_lt_of_le (Nat.mod_lt _ (Nat.two_pow_pos k)) (Nat.pow_le_pow_right (by decide) h)
theorem pv_step {v at_ n k : Nat} (h : k < n) : pv v at_ n (k + 1) = 2 * pv v at_ n k + (v.testBit (at_ + (n - 1 - k))).toNat := by
  unfold pv
  have e1 : at_ + n - k = at_ + (n - 1 - k) + 1 := by omega
  have e2 : at_ + n - (k + 1) = at_ + (n - 1 - k) := by omega
  rw [e1, e2]
  generalize at_ + (n - 1 - k) = j
  rw [Nat.testBit_eq_decide_div_mod_eq, Nat.pow_succ 2 j, ← Nat.div_div_eq_div_mul]
  generalize v / 2 ^ j = x
  rw [Nat.pow_succ, Nat.mul_comm (2 ^ k) 2, Nat.mod_mul]
  by_cases h1 : x % 2 = 1
  · simp [h1]; omega
  · have : x % 2 = 0 := by omega
    simp [this]
theorem pv_t {v at_ n k : Nat} (h : k < n) (ht : v.testBit (at_ + (n - 1 - k)) = true) : pv v at_ n (k + 1) = 2 * pv v at_ n k + 1 := by rw [pv_step h, ht]; rfl
theorem pv_f {v at_ n k : Nat} (h : k < n) (ht : v.testBit (at_ + (n - 1 - k)) = false) : pv v at_ n (k + 1) = 2 * pv v at_ n k := by rw [pv_step h, ht]; rfl
theorem bit_big {w v j : Nat} (hv : v < 2 ^ w) (h : ¬ j < w) : v.testBit j = false := Nat.testBit_lt_two_pow (Nat.lt_of_lt_of_le hv (Nat.pow_le_pow_right (by decide) (by omega)))
theorem ext_dig : ∀ r : Nat, r < 10 → (⟨#[48, 49, 50, 51, 52, 53, 54, 55, 56, 57]⟩ : ByteArray).extract r (r + 1) = ⟨#[UInt8.ofNat (48 + r)]⟩ := by decide +kernel
theorem decB_big {m : Nat} (h : 9 < m) : decB m = decB (m / 10) ++ (⟨#[48, 49, 50, 51, 52, 53, 54, 55, 56, 57]⟩ : ByteArray).extract (m % 10) (m % 10 + 1) := by
  rw [ext_dig _ (Nat.mod_lt _ (by decide))]
  unfold decB
  rw [Lib.decDigits, dif_neg (by omega)]
  apply ByteArray.ext
  simp
theorem decB_small {m : Nat} (h : ¬ 9 < m) : decB m = (⟨#[48, 49, 50, 51, 52, 53, 54, 55, 56, 57]⟩ : ByteArray).extract m (m + 1) := by
  rw [ext_dig _ (by omega)]
  unfold decB
  rw [Lib.decDigits, dif_pos (by omega)]
theorem decB_len : ∀ n : Nat, n < 1000 → (decB n).size ≤ 3 := by decide +kernel
theorem app_nil (a : ByteArray) : a ++ ⟨#[]⟩ = a := by apply ByteArray.ext; simp
theorem app_assoc (a b c : ByteArray) : a ++ b ++ c = a ++ (b ++ c) := by apply ByteArray.ext; simp
theorem fdiv_nat (a i : Nat) (h : i < 64) : ((a : Int)).fdiv (2 ^ min ((i : Int)).toNat IntKind.u64.bits) = ((a / 2 ^ i : Nat) : Int) := by
  rw [show min ((i : Int)).toNat IntKind.u64.bits = i from by rw [Int.toNat_natCast]; exact Nat.min_eq_left (Nat.le_of_lt h), Int.fdiv_eq_ediv_of_nonneg _ (Int.le_of_lt (Int.pow_pos (by decide)))]
  push_cast
  rfl
theorem bit_lo {v i : Nat} (h : i < 64) : (Go.bits .and .u64 ((loOf v).fdiv (2 ^ min ((i : Int)).toNat IntKind.u64.bits)) 1 == 1) = v.testBit i := by
  rw [← bit_w v i h]; unfold loOf; rw [fdiv_nat _ _ h]
theorem bit_hi {v i : Nat} (hv : v < 2 ^ 128) (h0 : ¬ i < 64) (h : i < 128) : (Go.bits .and .u64 ((hiOf v).fdiv (2 ^ min (((i - 64 : Nat) : Int)).toNat IntKind.u64.bits)) 1 == 1) = v.testBit i := by
  have e := bit_w2 (v := v) (i - 64) hv (by omega)
  rw [show i - 64 + 64 = i from by omega] at e
  rw [← e]; unfold hiOf; rw [fdiv_nat _ _ (by omega)]

theorem natL_go {l : List Bool} {i : Nat} (h : i < l.length) (hb : l.getD i false = true) : natL (l.take (i + 1)) = natL (l.take i) + 2 ^ i := by rw [natL_take_succ h, hb]; simp
theorem natL_no {l : List Bool} {i : Nat} (h : i < l.length) (hb : l.getD i false = false) : natL (l.take (i + 1)) = natL (l.take i) := by rw [natL_take_succ h, hb]; simp
theorem bDB_getD {l : List Bool} {i : Nat} (h : i < l.length) : (bDB l)[((i : Int)).toNat]? = some (.sc (.bool (l.getD i false))) := by
  rw [Int.toNat_natCast, bDB, List.getElem?_map, List.getD, List.getElem?_eq_getElem h]; rfl
theorem pow_lt64 {i : Nat} (h : i < 64) : 2 ^ i < 2 ^ 64 := Nat.pow_lt_pow_right (by decide) h
/-- The text of the highest digits, down to the k-th. -/
def rsk (v k : Nat) : ByteArray := if k = 0 then hexB v else if v / 16 ^ k = 0 then ⟨#[]⟩ else hexB (v / 16 ^ k)
theorem ext_hx : ∀ r : Nat, r < 16 → (⟨#[48, 49, 50, 51, 52, 53, 54, 55, 56, 57, 97, 98, 99, 100, 101, 102]⟩ : ByteArray).extract r (r + 1) = ⟨#[Hex.hx r]⟩ := by decide +kernel
theorem hexB_small {u : Nat} (h : u < 16) : hexB u = ⟨#[Hex.hx u]⟩ := by unfold hexB; rw [Hex.hexL, if_pos h]
theorem hexB_big {u : Nat} (h : ¬ u < 16) : hexB u = hexB (u / 16) ++ ⟨#[Hex.hx (u % 16)]⟩ := by
  unfold hexB; rw [Hex.hexL, if_neg h]; apply ByteArray.ext; simp
theorem div_step (v k : Nat) (h : 0 < k) : v / 16 ^ k = v / 16 ^ (k - 1) / 16 := by
  rw [Nat.div_div_eq_div_mul, ← Nat.pow_succ, show (k - 1).succ = k from by omega]
theorem digit_at (v k : Nat) : v / 2 ^ (4 * k) % 2 ^ 4 = v / 16 ^ k % 16 := by rw [Nat.pow_mul]
theorem sk_pos {v k : Nat} (hk : 0 < k) : rsk v (k - 1) = if k - 1 = 0 then hexB (v / 16 ^ (k - 1)) else if v / 16 ^ (k - 1) = 0 then ⟨#[]⟩ else hexB (v / 16 ^ (k - 1)) := by
  unfold rsk
  by_cases h : k - 1 = 0
  · rw [if_pos h, if_pos h, h]; simp
  · rw [if_neg h, if_neg h]
theorem sk_app {v k : Nat} (hk : 0 < k) (h : v / 16 ^ k ≠ 0 ∨ 0 < v / 16 ^ (k - 1) % 16 ∨ k - 1 = 0) : rsk v k ++ ⟨#[Hex.hx (v / 16 ^ (k - 1) % 16)]⟩ = rsk v (k - 1) := by
  rw [sk_pos hk]
  have e := div_step v k hk
  unfold rsk
  rw [if_neg (by omega)]
  generalize v / 16 ^ (k - 1) = u at *
  by_cases h0 : v / 16 ^ k = 0
  · rw [if_pos h0]
    have hu : u < 16 := by rw [h0] at e; omega
    rw [Nat.mod_eq_of_lt hu] at *
    have e2 : (⟨#[]⟩ : ByteArray) ++ ⟨#[Hex.hx u]⟩ = hexB u := by rw [hexB_small hu]; apply ByteArray.ext; simp
    rw [e2]
    split
    · rfl
    · rename_i h1; rw [if_neg (by omega)]
  · rw [if_neg h0]
    have hu : ¬ u < 16 := by omega
    have e2 : hexB (v / 16 ^ k) ++ ⟨#[Hex.hx (u % 16)]⟩ = hexB u := by rw [hexB_big hu, e]
    rw [e2]
    split
    · rfl
    · rw [if_neg (by omega)]
theorem sk_skip {v k : Nat} (hk : 0 < k) (h : v / 16 ^ k = 0) (h1 : ¬ 0 < v / 16 ^ (k - 1) % 16) (h2 : k - 1 ≠ 0) : rsk v k = rsk v (k - 1) := by
  rw [sk_pos hk, if_neg h2]
  have e := div_step v k hk
  unfold rsk
  rw [if_neg (by omega), if_pos h, if_pos (by rw [h] at e; omega)]
theorem hexB_ne (u : Nat) : hexB u ≠ ⟨#[]⟩ := by
  intro h
  have h1 := congrArg (fun b : ByteArray => b.data.toList) h
  simp only [hexB] at h1
  rw [Hex.hexL] at h1
  split at h1 <;> simp at h1
theorem sk_ne {v k : Nat} (hk : 0 < k) (h : v / 16 ^ k ≠ 0) : rsk v k ≠ ⟨#[]⟩ := by unfold rsk; rw [if_neg (by omega), if_neg h]; exact hexB_ne _
theorem sk_nil {v k : Nat} (hk : 0 < k) (h : v / 16 ^ k = 0) : rsk v k = ⟨#[]⟩ := by unfold rsk; rw [if_neg (by omega), if_pos h]
theorem hexB_len {u : Nat} (h : u < 2 ^ 128) : (hexB u).size ≤ 32 := by
  have := hexL_le 31 u (by simpa using h)
  simpa [hexB, ByteArray.size] using this
theorem sk_len {v k : Nat} (h : v < 2 ^ 128) : (rsk v k).size ≤ 32 := by
  unfold rsk
  split
  · exact hexB_len h
  · split
    · exact Nat.zero_le _
    · exact hexB_len (Nat.lt_of_le_of_lt (Nat.div_le_self _ _) h)
set_option maxRecDepth 100000 in
theorem rbits_c {w v : Nat} (h : w ≤ 128) (hv : v < 2 ^ 128) : CallsP Tryz.prog Lw 29 [bitD w v] (.list 1 (bDB (bl w v))) := by
  refine callsP_of gs_lw Tryz.func29 rfl Tryz.ntmps29 rfl fun w0 S0 stab => ?_
  refine hits_seq ?_
  refine hits_region ?_
  refine sq (f_box rfl rfl (lt rfl)) rfl rfl ?_
  refine sq (f_assign rfl (lt rfl)) rfl rfl ?_
  refine hits_nil ?_
  refine to_next ?_
  refine hits_seq ?_
  refine hits_region ?_
  refine sq (f_assign rfl (lt rfl)) rfl rfl ?_
  refine hits_nil ?_
  refine to_next ?_
  refine hits_seq ?_
  refine hits_seq ?_
  refine hits_region ?_
  refine sq (f_assign rfl (lt rfl)) rfl rfl ?_
  refine hits_nil ?_
  refine to_next ?_
  refine hits_block ?_
  refine hits_own 3 3 1 rfl ?_
  refine hits_loop (fun i : Nat => [(.slot 3, some (.own 3 1 (bDB (bl i v)))), (.slot 4, some (.d (.sc (.int .i64 (i : Int))))), (.slot 1, some (.ptr 1 0)), (.cell 1 0, some (.d (.sc (.int .i64 (w : Int))))), (.cell 1 1, some (.d (.sc (.int .u64 (hiOf (v)))))), (.cell 1 2, some (.d (.sc (.int .u64 (loOf (v)))))), (.box 1, some (.ptr 1 0)), (.tip 3, some (.ptr 3 0))]) (fun i : Nat => i ≤ w) (fun i : Nat => w - i) 0 (Nat.zero_le _) ⟨rfl, rfl, rfl, rfl, rfl, rfl, rfl, rfl, trivial⟩ rfl ?_
  intro i hi
  refine hits_seq ?_
  refine hits_seq ?_
  by_cases h1 : i < w
  · refine hits_region ?_
    refine sq (f_move rfl (lt rfl)) rfl rfl ?_
    refine sq (f_fieldAddr rfl kf24_0 rfl (lt rfl)) rfl rfl ?_
    refine sq (f_load kd3 rfl rfl (lt rfl)) rfl rfl ?_
    refine sq (f_bin rfl rfl (bT (decide_eq_true (by omega))) (lt rfl)) rfl rfl ?_
    refine sq (f_move rfl (lt rfl)) rfl rfl ?_
    refine sq_yes (f_move rfl (lt rfl)) rfl rfl rfl rfl (lt rfl) ?_
    refine sq_yes (f_bin rfl rfl (bT (decide_eq_true (by omega))) (lt rfl)) rfl rfl rfl rfl (lt rfl) ?_
    refine sq (f_pick rfl rfl (lt rfl)) rfl rfl ?_
    refine hits_nil ?_
    refine to_next ?_
    refine hits_cond rfl (fun c0 => ?_) (fun c0 => absurd c0 Bool.false_ne_true.symm)
    refine hits_skip ?_
    refine to_next ?_
    refine hits_seq ?_
    refine hits_block ?_
    refine hits_seq ?_
    by_cases h2 : i < 64
    · refine hits_region ?_
      refine sq (f_move rfl (lt rfl)) rfl rfl ?_
      refine sq (f_bin rfl rfl (bT (decide_eq_true (by omega))) (lt rfl)) rfl rfl ?_
      refine hits_nil ?_
      refine to_next ?_
      refine hits_cond rfl (fun c1 => ?_) (fun c1 => absurd c1 Bool.false_ne_true.symm)
      refine hits_region ?_
      refine sq (f_move rfl (lt rfl)) rfl rfl ?_
      refine sq (f_fieldAddr rfl kf24_2 rfl (lt rfl)) rfl rfl ?_
      refine sq (f_load kd22 rfl rfl (lt rfl)) rfl rfl ?_
      refine sq (f_move rfl (lt rfl)) rfl rfl ?_
      refine sq (f_shr rfl rfl (by omega) (lt rfl)) rfl rfl ?_
      refine sq (f_bin rfl rfl rfl (lt rfl)) rfl rfl ?_
      refine sq (f_bin rfl rfl (bT (bit_lo h2)) (lt rfl)) rfl rfl ?_
      refine sq (f_buildSlice sk89 rfl rfl rfl rfl rfl rfl (by decide) (by decide) (lt rfl)) rfl rfl ?_
      refine sq_append rfl rfl rfl rfl apk89 (by simp [snds, bDB_bl]; omega) (by simp [snds, bDB_bl]; omega) rfl (lt rfl) ?_
      refine sq (f_assign rfl (lt rfl)) rfl rfl ?_
      refine hits_nil ?_
      refine in_next ?_
      refine to_next ?_
      refine hits_region ?_
      refine sq (f_move rfl (lt rfl)) rfl rfl ?_
      refine sq (f_bin rfl rfl (iT ((wrap_succ (by omega) : _ = ((i + 1 : Nat) : Int)))) (lt rfl)) rfl rfl ?_
      refine sq (f_assign rfl (lt rfl)) rfl rfl ?_
      refine hits_nil ?_
      refine to_next ?_
      exact round_end (i + 1) (by omega) (by omega) ⟨congrArg (fun z => some (V.own 3 1 z)) (bDB_succ i v), rfl, rfl, rfl, rfl, rfl, rfl, rfl, trivial⟩ rfl
    · refine hits_region ?_
      refine sq (f_move rfl (lt rfl)) rfl rfl ?_
      refine sq (f_bin rfl rfl (bT (decide_eq_false (by omega))) (lt rfl)) rfl rfl ?_
      refine hits_nil ?_
      refine to_next ?_
      refine hits_cond rfl (fun c1 => absurd c1 Bool.false_ne_true) (fun c1 => ?_)
      refine hits_region ?_
      refine sq (f_move rfl (lt rfl)) rfl rfl ?_
      refine sq (f_fieldAddr rfl kf24_1 rfl (lt rfl)) rfl rfl ?_
      refine sq (f_load kd22 rfl rfl (lt rfl)) rfl rfl ?_
      refine sq (f_move rfl (lt rfl)) rfl rfl ?_
      refine sq (f_bin rfl rfl (iT (((IntWalk.i64_in _ (by omega)).trans (by omega) : _ = ((i - 64 : Nat) : Int)))) (lt rfl)) rfl rfl ?_
      refine sq (f_shr rfl rfl (by omega) (lt rfl)) rfl rfl ?_
      refine sq (f_bin rfl rfl rfl (lt rfl)) rfl rfl ?_
      refine sq (f_bin rfl rfl (bT (bit_hi hv h2 (by omega))) (lt rfl)) rfl rfl ?_
      refine sq (f_buildSlice sk89 rfl rfl rfl rfl rfl rfl (by decide) (by decide) (lt rfl)) rfl rfl ?_
      refine sq_append rfl rfl rfl rfl apk89 (by simp [snds, bDB_bl]; omega) (by simp [snds, bDB_bl]; omega) rfl (lt rfl) ?_
      refine sq (f_assign rfl (lt rfl)) rfl rfl ?_
      refine hits_nil ?_
      refine in_next ?_
      refine to_next ?_
      refine hits_region ?_
      refine sq (f_move rfl (lt rfl)) rfl rfl ?_
      refine sq (f_bin rfl rfl (iT ((wrap_succ (by omega) : _ = ((i + 1 : Nat) : Int)))) (lt rfl)) rfl rfl ?_
      refine sq (f_assign rfl (lt rfl)) rfl rfl ?_
      refine hits_nil ?_
      refine to_next ?_
      exact round_end (i + 1) (by omega) (by omega) ⟨congrArg (fun z => some (V.own 3 1 z)) (bDB_succ i v), rfl, rfl, rfl, rfl, rfl, rfl, rfl, trivial⟩ rfl
  · refine hits_region ?_
    refine sq (f_move rfl (lt rfl)) rfl rfl ?_
    refine sq (f_fieldAddr rfl kf24_0 rfl (lt rfl)) rfl rfl ?_
    refine sq (f_load kd3 rfl rfl (lt rfl)) rfl rfl ?_
    refine sq (f_bin rfl rfl (bT (decide_eq_false (by omega))) (lt rfl)) rfl rfl ?_
    refine sq (f_move rfl (lt rfl)) rfl rfl ?_
    refine sq_no rfl rfl rfl rfl rfl (lt rfl) (lt rfl) ?_
    refine sq_no rfl rfl rfl rfl rfl (lt rfl) (lt rfl) ?_
    refine sq (f_pick rfl rfl (lt rfl)) rfl rfl ?_
    refine hits_nil ?_
    refine to_next ?_
    refine hits_cond rfl (fun c0 => absurd c0 Bool.false_ne_true) (fun c0 => ?_)
    refine hits_exit ?_
    refine to_exit ?_
    refine to_exit ?_
    refine in_hit rfl ?_
    refine to_next ?_
    refine hits_seq ?_
    obtain rfl : i = w := by omega
    refine hits_region ?_
    refine sq (f_move rfl (lt rfl)) rfl rfl ?_
    refine sq (f_assign rfl (lt rfl)) rfl rfl ?_
    refine hits_nil ?_
    refine to_next ?_
    refine hits_ret ?_
    exact hits_done (.inl rfl) rfl rfl rfl

set_option maxRecDepth 100000 in
theorem part_c {w v at_ n : Nat} (h : w ≤ 128) (hv : v < 2 ^ w) (ha : at_ ≤ 1000) (hn : n ≤ 8) : CallsP Tryz.prog Lw 30 [.list 1 (bDB (bl w v)), .sc (.int .i64 (at_ : Int)), .sc (.int .i64 (n : Int))] (.sc (.int .i64 ((v / 2 ^ at_ % 2 ^ n : Nat) : Int))) := by
  refine callsP_of gs_lw Tryz.func30 rfl Tryz.ntmps30 rfl fun w0 S0 stab => ?_
  refine hits_seq ?_
  refine hits_region ?_
  refine sq (f_assign rfl (lt rfl)) rfl rfl ?_
  refine hits_nil ?_
  refine to_next ?_
  refine hits_seq ?_
  refine hits_region ?_
  refine sq (f_assign rfl (lt rfl)) rfl rfl ?_
  refine hits_nil ?_
  refine to_next ?_
  refine hits_seq ?_
  refine hits_seq ?_
  refine hits_region ?_
  refine sq (f_move rfl (lt rfl)) rfl rfl ?_
  refine sq (f_bin rfl rfl (iT (((IntWalk.i64_in _ (by omega)).trans (by omega) : _ = (n : Int) - 1 - ((0 : Nat) : Int)))) (lt rfl)) rfl rfl ?_
  refine sq (f_assign rfl (lt rfl)) rfl rfl ?_
  refine hits_nil ?_
  refine to_next ?_
  refine hits_block ?_
  refine hits_loop (fun k : Nat => [(.slot 0, some (.d (.list 1 (bDB (bl w v))))), (.slot 1, some (.d (.sc (.int .i64 (at_ : Int))))), (.slot 7, some (.d (.sc (.int .i64 (pv v at_ n k : Int))))), (.slot 8, some (.d (.sc (.int .i64 ((n : Int) - 1 - (k : Int))))))]) (fun k : Nat => k ≤ n) (fun k : Nat => n - k) 0 (Nat.zero_le _) ⟨rfl, rfl, congrArg (fun z : Nat => some (V.d (.sc (.int .i64 (z : Int))))) (by simp [pv, Nat.mod_one] : 0 = pv v at_ n 0), rfl, trivial⟩ rfl ?_
  intro k hk'
  refine hits_seq ?_
  refine hits_seq ?_
  by_cases hk : k < n
  · have hp := pv_lt v at_ n k (by omega)
    refine hits_region ?_
    refine sq (f_move rfl (lt rfl)) rfl rfl ?_
    refine sq (f_bin rfl rfl (bT (decide_eq_true (by omega))) (lt rfl)) rfl rfl ?_
    refine hits_nil ?_
    refine to_next ?_
    refine hits_cond rfl (fun c0 => ?_) (fun c0 => absurd c0 Bool.false_ne_true.symm)
    refine hits_skip ?_
    refine to_next ?_
    refine hits_seq ?_
    refine hits_block ?_
    refine hits_seq ?_
    by_cases hb : at_ + (n - 1 - k) < w
    · cases ht : v.testBit (at_ + (n - 1 - k))
      · have hat := bDB_at (v := v) hb
        rw [ht] at hat
        refine hits_region ?_
        refine sq (f_move rfl (lt rfl)) rfl rfl ?_
        refine sq (f_bin rfl rfl (iT (((IntWalk.i64_in _ (by omega)).trans (by rw [pv_f hk ht]; omega) : _ = (pv v at_ n (k + 1) : Int)))) (lt rfl)) rfl rfl ?_
        refine sq (f_assign rfl (lt rfl)) rfl rfl ?_
        refine hits_nil ?_
        refine to_next ?_
        refine hits_seq ?_
        refine hits_region ?_
        refine sq (f_move rfl (lt rfl)) rfl rfl ?_
        refine sq (f_move rfl (lt rfl)) rfl rfl ?_
        refine sq (f_bin rfl rfl (iT (((IntWalk.i64_in _ (by omega)).trans (by omega) : _ = ((at_ + (n - 1 - k) : Nat) : Int)))) (lt rfl)) rfl rfl ?_
        refine sq (f_move rfl (lt rfl)) rfl rfl ?_
        refine sq (f_lenList rfl rfl un89 (lt rfl)) rfl rfl ?_
        refine sq (f_bin rfl rfl (bT (decide_eq_true (by rw [bDB_bl]; omega))) (lt rfl)) rfl rfl ?_
        refine sq (f_move rfl (lt rfl)) rfl rfl ?_
        refine sq_yes (f_move rfl (lt rfl)) rfl rfl rfl rfl (lt rfl) ?_
        refine sq_yes (f_move rfl (lt rfl)) rfl rfl rfl rfl (lt rfl) ?_
        refine sq_yes (f_move rfl (lt rfl)) rfl rfl rfl rfl (lt rfl) ?_
        refine sq_yes (f_bin rfl rfl (iT (((IntWalk.i64_in _ (by omega)).trans (by omega) : _ = ((at_ + (n - 1 - k) : Nat) : Int)))) (lt rfl)) rfl rfl rfl rfl (lt rfl) ?_
        refine sq_yes (f_idxList rfl rfl rfl un89 kd4 (Int.natCast_nonneg _) hat (lt rfl)) rfl rfl rfl rfl (lt rfl) ?_
        refine sq_yes (f_load kd4 rfl rfl (lt rfl)) rfl rfl rfl rfl (lt rfl) ?_
        refine sq (f_pick rfl rfl (lt rfl)) rfl rfl ?_
        refine hits_nil ?_
        refine to_next ?_
        refine hits_cond rfl (fun c1 => absurd c1 Bool.false_ne_true) (fun c1 => ?_)
        refine hits_skip ?_
        refine in_next ?_
        refine to_next ?_
        refine hits_region ?_
        refine sq (f_move rfl (lt rfl)) rfl rfl ?_
        refine sq (f_bin rfl rfl (iT (((IntWalk.i64_in _ (by omega)).trans (by omega) : _ = (n : Int) - 1 - ((k + 1 : Nat) : Int)))) (lt rfl)) rfl rfl ?_
        refine sq (f_assign rfl (lt rfl)) rfl rfl ?_
        refine hits_nil ?_
        refine to_next ?_
        exact round_end (k + 1) (by omega) (by omega) ⟨rfl, rfl, rfl, rfl, trivial⟩ rfl
      · have hat := bDB_at (v := v) hb
        rw [ht] at hat
        refine hits_region ?_
        refine sq (f_move rfl (lt rfl)) rfl rfl ?_
        refine sq (f_bin rfl rfl (iT (((IntWalk.i64_in _ (by omega)).trans (by omega) : _ = ((2 * pv v at_ n k : Nat) : Int)))) (lt rfl)) rfl rfl ?_
        refine sq (f_assign rfl (lt rfl)) rfl rfl ?_
        refine hits_nil ?_
        refine to_next ?_
        refine hits_seq ?_
        refine hits_region ?_
        refine sq (f_move rfl (lt rfl)) rfl rfl ?_
        refine sq (f_move rfl (lt rfl)) rfl rfl ?_
        refine sq (f_bin rfl rfl (iT (((IntWalk.i64_in _ (by omega)).trans (by omega) : _ = ((at_ + (n - 1 - k) : Nat) : Int)))) (lt rfl)) rfl rfl ?_
        refine sq (f_move rfl (lt rfl)) rfl rfl ?_
        refine sq (f_lenList rfl rfl un89 (lt rfl)) rfl rfl ?_
        refine sq (f_bin rfl rfl (bT (decide_eq_true (by rw [bDB_bl]; omega))) (lt rfl)) rfl rfl ?_
        refine sq (f_move rfl (lt rfl)) rfl rfl ?_
        refine sq_yes (f_move rfl (lt rfl)) rfl rfl rfl rfl (lt rfl) ?_
        refine sq_yes (f_move rfl (lt rfl)) rfl rfl rfl rfl (lt rfl) ?_
        refine sq_yes (f_move rfl (lt rfl)) rfl rfl rfl rfl (lt rfl) ?_
        refine sq_yes (f_bin rfl rfl (iT (((IntWalk.i64_in _ (by omega)).trans (by omega) : _ = ((at_ + (n - 1 - k) : Nat) : Int)))) (lt rfl)) rfl rfl rfl rfl (lt rfl) ?_
        refine sq_yes (f_idxList rfl rfl rfl un89 kd4 (Int.natCast_nonneg _) hat (lt rfl)) rfl rfl rfl rfl (lt rfl) ?_
        refine sq_yes (f_load kd4 rfl rfl (lt rfl)) rfl rfl rfl rfl (lt rfl) ?_
        refine sq (f_pick rfl rfl (lt rfl)) rfl rfl ?_
        refine hits_nil ?_
        refine to_next ?_
        refine hits_cond rfl (fun c1 => ?_) (fun c1 => absurd c1 Bool.false_ne_true.symm)
        refine hits_region ?_
        refine sq (f_move rfl (lt rfl)) rfl rfl ?_
        refine sq (f_bin rfl rfl (iT (((IntWalk.i64_in _ (by omega)).trans (by rw [pv_t hk ht]; omega) : _ = (pv v at_ n (k + 1) : Int)))) (lt rfl)) rfl rfl ?_
        refine sq (f_assign rfl (lt rfl)) rfl rfl ?_
        refine hits_nil ?_
        refine in_next ?_
        refine to_next ?_
        refine hits_region ?_
        refine sq (f_move rfl (lt rfl)) rfl rfl ?_
        refine sq (f_bin rfl rfl (iT (((IntWalk.i64_in _ (by omega)).trans (by omega) : _ = (n : Int) - 1 - ((k + 1 : Nat) : Int)))) (lt rfl)) rfl rfl ?_
        refine sq (f_assign rfl (lt rfl)) rfl rfl ?_
        refine hits_nil ?_
        refine to_next ?_
        exact round_end (k + 1) (by omega) (by omega) ⟨rfl, rfl, rfl, rfl, trivial⟩ rfl
    · have ht := bit_big hv hb
      refine hits_region ?_
      refine sq (f_move rfl (lt rfl)) rfl rfl ?_
      refine sq (f_bin rfl rfl (iT (((IntWalk.i64_in _ (by omega)).trans (by rw [pv_f hk ht]; omega) : _ = (pv v at_ n (k + 1) : Int)))) (lt rfl)) rfl rfl ?_
      refine sq (f_assign rfl (lt rfl)) rfl rfl ?_
      refine hits_nil ?_
      refine to_next ?_
      refine hits_seq ?_
      refine hits_region ?_
      refine sq (f_move rfl (lt rfl)) rfl rfl ?_
      refine sq (f_move rfl (lt rfl)) rfl rfl ?_
      refine sq (f_bin rfl rfl (iT (((IntWalk.i64_in _ (by omega)).trans (by omega) : _ = ((at_ + (n - 1 - k) : Nat) : Int)))) (lt rfl)) rfl rfl ?_
      refine sq (f_move rfl (lt rfl)) rfl rfl ?_
      refine sq (f_lenList rfl rfl un89 (lt rfl)) rfl rfl ?_
      refine sq (f_bin rfl rfl (bT (decide_eq_false (by rw [bDB_bl]; omega))) (lt rfl)) rfl rfl ?_
      refine sq (f_move rfl (lt rfl)) rfl rfl ?_
      refine sq_no rfl rfl rfl rfl rfl (lt rfl) (lt rfl) ?_
      refine sq_no rfl rfl rfl rfl rfl (lt rfl) (lt rfl) ?_
      refine sq_no rfl rfl rfl rfl rfl (lt rfl) (lt rfl) ?_
      refine sq_no rfl rfl rfl rfl rfl (lt rfl) (lt rfl) ?_
      refine sq_no rfl rfl rfl rfl rfl (lt rfl) (lt rfl) ?_
      refine sq_no rfl rfl rfl rfl rfl (lt rfl) (lt rfl) ?_
      refine sq (f_pick rfl rfl (lt rfl)) rfl rfl ?_
      refine hits_nil ?_
      refine to_next ?_
      refine hits_cond rfl (fun c1 => absurd c1 Bool.false_ne_true) (fun c1 => ?_)
      refine hits_skip ?_
      refine in_next ?_
      refine to_next ?_
      refine hits_region ?_
      refine sq (f_move rfl (lt rfl)) rfl rfl ?_
      refine sq (f_bin rfl rfl (iT (((IntWalk.i64_in _ (by omega)).trans (by omega) : _ = (n : Int) - 1 - ((k + 1 : Nat) : Int)))) (lt rfl)) rfl rfl ?_
      refine sq (f_assign rfl (lt rfl)) rfl rfl ?_
      refine hits_nil ?_
      refine to_next ?_
      exact round_end (k + 1) (by omega) (by omega) ⟨rfl, rfl, rfl, rfl, trivial⟩ rfl
  · obtain rfl : k = n := by omega
    refine hits_region ?_
    refine sq (f_move rfl (lt rfl)) rfl rfl ?_
    refine sq (f_bin rfl rfl (bT (decide_eq_false (by omega))) (lt rfl)) rfl rfl ?_
    refine hits_nil ?_
    refine to_next ?_
    refine hits_cond rfl (fun c0 => absurd c0 Bool.false_ne_true) (fun c0 => ?_)
    refine hits_exit ?_
    refine to_exit ?_
    refine to_exit ?_
    refine in_hit rfl ?_
    refine to_next ?_
    refine hits_seq ?_
    refine hits_region ?_
    refine sq (f_move rfl (lt rfl)) rfl rfl ?_
    refine sq (f_assign rfl (lt rfl)) rfl rfl ?_
    refine hits_nil ?_
    refine to_next ?_
    refine hits_ret ?_
    exact hits_done (.inl rfl) rfl rfl (by unfold pv; rw [Nat.add_sub_cancel]; rfl)

set_option maxRecDepth 100000 in
theorem rdig_c {n : Nat} (h : n < 1000) : CallsP Tryz.prog Lw 250 [.sc (.int .i64 (n : Int))] (.sc (.string (decB n))) := by
  have hl := decB_len n h
  refine callsP_of gs_lw Tryz.func250 rfl Tryz.ntmps250 rfl fun w0 S0 stab => ?_
  refine hits_seq ?_
  refine hits_region ?_
  refine sq (f_assign rfl (lt rfl)) rfl rfl ?_
  refine hits_nil ?_
  refine to_next ?_
  refine hits_seq ?_
  refine hits_region ?_
  refine sq (f_assign rfl (lt rfl)) rfl rfl ?_
  refine hits_nil ?_
  refine to_next ?_
  refine hits_seq ?_
  refine hits_block ?_
  refine hits_loop (fun x : Nat × ByteArray => [(.slot 0, some (.d (.sc (.int .i64 (x.1 : Int))))), (.slot 3, some (.d (.sc (.string x.2))))]) (fun x : Nat × ByteArray => x.1 < 1000 ∧ decB x.1 ++ x.2 = decB n) (fun x : Nat × ByteArray => x.1) (n, ⟨#[]⟩) ⟨h, app_nil _⟩ ⟨rfl, rfl, trivial⟩ rfl ?_
  intro x hx
  obtain ⟨m, s⟩ := x
  obtain ⟨hm1, hJ⟩ := hx
  simp only at hm1 hJ
  change Hits _ [(.slot 0, some (.d (.sc (.int .i64 (m : Int))))), (.slot 3, some (.d (.sc (.string s))))] _
  refine hits_seq ?_
  refine hits_seq ?_
  by_cases hm : 9 < m
  · have hbig := decB_big hm
    have hsz : s.size ≤ 3 := by have := congrArg ByteArray.size hJ; rw [size_app] at this; omega
    have hes := ext_le (⟨#[48, 49, 50, 51, 52, 53, 54, 55, 56, 57]⟩ : ByteArray) (m % 10) (m % 10 + 1)
    have hten : (⟨#[48, 49, 50, 51, 52, 53, 54, 55, 56, 57]⟩ : ByteArray).size = 10 := rfl
    refine hits_region ?_
    refine sq (f_move rfl (lt rfl)) rfl rfl ?_
    refine sq (f_bin rfl rfl (bT (decide_eq_true (by omega))) (lt rfl)) rfl rfl ?_
    refine hits_nil ?_
    refine to_next ?_
    refine hits_cond rfl (fun c0 => ?_) (fun c0 => absurd c0 Bool.false_ne_true.symm)
    refine hits_skip ?_
    refine to_next ?_
    refine hits_block ?_
    refine hits_seq ?_
    refine hits_region ?_
    refine sq (f_move rfl (lt rfl)) rfl rfl ?_
    refine sq (f_remI rfl rfl (by decide) (by rw [Int.tmod_eq_emod_of_nonneg (by omega)]; omega : _ = ((m % 10 : Nat) : Int)) (lt rfl)) rfl rfl ?_
    refine sq (f_move rfl (lt rfl)) rfl rfl ?_
    refine sq (f_remI rfl rfl (by decide) (by rw [Int.tmod_eq_emod_of_nonneg (by omega)]; omega : _ = ((m % 10 : Nat) : Int)) (lt rfl)) rfl rfl ?_
    refine sq (f_bin rfl rfl (iT (((IntWalk.i64_in _ (by omega)).trans (by omega) : _ = ((m % 10 + 1 : Nat) : Int)))) (lt rfl)) rfl rfl ?_
    refine sq (f_sliceStr rfl rfl rfl un9 (by omega) (by omega) (by show ((m % 10 + 1 : Nat) : Int) ≤ 10; omega) (lt rfl)) rfl rfl ?_
    refine sq (f_move rfl (lt rfl)) rfl rfl ?_
    refine sq (f_cat rfl rfl (by show (ByteArray.extract _ (m % 10) (m % 10 + 1)).size + s.size ≤ _; omega) (lt rfl)) rfl rfl ?_
    refine sq (f_assign rfl (lt rfl)) rfl rfl ?_
    refine hits_nil ?_
    refine to_next ?_
    refine hits_region ?_
    refine sq (f_move rfl (lt rfl)) rfl rfl ?_
    refine sq (f_divI rfl rfl (by decide) (by rw [Int.tdiv_eq_ediv_of_nonneg (by omega), IntWalk.i64_in _ (by omega)]; omega : _ = ((m / 10 : Nat) : Int)) (lt rfl)) rfl rfl ?_
    refine sq (f_assign rfl (lt rfl)) rfl rfl ?_
    refine hits_nil ?_
    refine in_next ?_
    refine to_next ?_
    exact round_end (m / 10, (⟨#[48, 49, 50, 51, 52, 53, 54, 55, 56, 57]⟩ : ByteArray).extract (m % 10) (m % 10 + 1) ++ s) ⟨Nat.lt_of_le_of_lt (Nat.div_le_self _ _) hm1, by show decB (m / 10) ++ (_ ++ s) = _; rw [← app_assoc, ← hbig, hJ]⟩ (by show m / 10 < m; omega) ⟨rfl, rfl, trivial⟩ rfl
  · have hsml := decB_small hm
    have hsz : s.size ≤ 3 := by have := congrArg ByteArray.size hJ; rw [size_app] at this; omega
    have hes := ext_le (⟨#[48, 49, 50, 51, 52, 53, 54, 55, 56, 57]⟩ : ByteArray) m (m + 1)
    have hten : (⟨#[48, 49, 50, 51, 52, 53, 54, 55, 56, 57]⟩ : ByteArray).size = 10 := rfl
    refine hits_region ?_
    refine sq (f_move rfl (lt rfl)) rfl rfl ?_
    refine sq (f_bin rfl rfl (bT (decide_eq_false (by omega))) (lt rfl)) rfl rfl ?_
    refine hits_nil ?_
    refine to_next ?_
    refine hits_cond rfl (fun c0 => absurd c0 Bool.false_ne_true) (fun c0 => ?_)
    refine hits_exit ?_
    refine to_exit ?_
    refine to_exit ?_
    refine in_hit rfl ?_
    refine to_next ?_
    refine hits_seq ?_
    refine hits_region ?_
    refine sq (f_move rfl (lt rfl)) rfl rfl ?_
    refine sq (f_move rfl (lt rfl)) rfl rfl ?_
    refine sq (f_bin rfl rfl (iT (((IntWalk.i64_in _ (by omega)).trans (by omega) : _ = ((m + 1 : Nat) : Int)))) (lt rfl)) rfl rfl ?_
    refine sq (f_sliceStr rfl rfl rfl un9 (by omega) (by omega) (by show ((m + 1 : Nat) : Int) ≤ 10; omega) (lt rfl)) rfl rfl ?_
    refine sq (f_move rfl (lt rfl)) rfl rfl ?_
    refine sq (f_cat rfl rfl (by show (ByteArray.extract _ m (m + 1)).size + s.size ≤ _; omega) (lt rfl)) rfl rfl ?_
    refine sq (f_assign rfl (lt rfl)) rfl rfl ?_
    refine hits_nil ?_
    refine to_next ?_
    refine hits_ret ?_
    exact hits_done (.inl rfl) rfl rfl (by rw [← hJ, hsml]; rfl)

set_option maxRecDepth 100000 in
theorem rdigit_c {c : Nat} (hc : c < 256) : CallsP Tryz.prog Lw 251 [.sc (.int .u8 (c : Int))] (.sc (.int .i64 (dgI c))) := by
  refine callsP_of gs_lw Tryz.func251 rfl Tryz.ntmps251 rfl fun w0 S0 stab => ?_
  refine hits_seq ?_
  refine hits_region ?_
  refine sq (f_assign rfl (lt rfl)) rfl rfl ?_
  refine hits_nil ?_
  refine to_next ?_
  refine hits_seq ?_
  refine hits_block ?_
  refine hits_seq ?_
  by_cases h1 : 48 ≤ c
  · by_cases h2 : c ≤ 57
    · have hd : dgI c = ((c - 48 : Nat) : Int) := if_pos ⟨h1, h2⟩
      refine hits_region ?_
      refine sq (f_move rfl (lt rfl)) rfl rfl ?_
      refine sq (f_bin rfl rfl (bT (decide_eq_true (by omega))) (lt rfl)) rfl rfl ?_
      refine sq (f_move rfl (lt rfl)) rfl rfl ?_
      refine sq_yes (f_move rfl (lt rfl)) rfl rfl rfl rfl (lt rfl) ?_
      refine sq_yes (f_bin rfl rfl (bT (decide_eq_true (by omega))) (lt rfl)) rfl rfl rfl rfl (lt rfl) ?_
      refine sq (f_pick rfl rfl (lt rfl)) rfl rfl ?_
      refine sq (f_assign rfl (lt rfl)) rfl rfl ?_
      refine hits_nil ?_
      refine to_next ?_
      refine hits_cond rfl (fun c0 => ?_) (fun c0 => absurd c0 Bool.false_ne_true.symm)
      refine hits_seq ?_
      refine hits_region ?_
      refine sq (f_move rfl (lt rfl)) rfl rfl ?_
      refine sq (f_bin rfl rfl (iT ((u8_sub hc h1 : _ = ((c - 48 : Nat) : Int)))) (lt rfl)) rfl rfl ?_
      refine sq (f_convI rfl us5 un3 ((IntWalk.i64_in _ (by omega)).trans hd.symm) (lt rfl)) rfl rfl ?_
      refine sq (f_assign rfl (lt rfl)) rfl rfl ?_
      refine hits_nil ?_
      refine to_next ?_
      refine hits_ret ?_
      refine in_ret ?_
      refine to_ret ?_
      exact hits_done (.inl rfl) rfl rfl rfl
    · have hd1 : ¬ (48 ≤ c ∧ c ≤ 57) := by omega
      refine hits_region ?_
      refine sq (f_move rfl (lt rfl)) rfl rfl ?_
      refine sq (f_bin rfl rfl (bT (decide_eq_true (by omega))) (lt rfl)) rfl rfl ?_
      refine sq (f_move rfl (lt rfl)) rfl rfl ?_
      refine sq_yes (f_move rfl (lt rfl)) rfl rfl rfl rfl (lt rfl) ?_
      refine sq_yes (f_bin rfl rfl (bT (decide_eq_false (by omega))) (lt rfl)) rfl rfl rfl rfl (lt rfl) ?_
      refine sq (f_pick rfl rfl (lt rfl)) rfl rfl ?_
      refine sq (f_assign rfl (lt rfl)) rfl rfl ?_
      refine hits_nil ?_
      refine to_next ?_
      refine hits_cond rfl (fun c0 => absurd c0 Bool.false_ne_true) (fun c0 => ?_)
      refine hits_seq ?_
      by_cases h3 : 97 ≤ c
      · by_cases h4 : c ≤ 102
        · have hd : dgI c = ((c - 87 : Nat) : Int) := by rw [dgI, if_neg hd1, if_pos ⟨h3, h4⟩]
          refine hits_region ?_
          refine sq (f_move rfl (lt rfl)) rfl rfl ?_
          refine sq (f_bin rfl rfl (bT (decide_eq_true (by omega))) (lt rfl)) rfl rfl ?_
          refine sq (f_move rfl (lt rfl)) rfl rfl ?_
          refine sq_yes (f_move rfl (lt rfl)) rfl rfl rfl rfl (lt rfl) ?_
          refine sq_yes (f_bin rfl rfl (bT (decide_eq_true (by omega))) (lt rfl)) rfl rfl rfl rfl (lt rfl) ?_
          refine sq (f_pick rfl rfl (lt rfl)) rfl rfl ?_
          refine sq (f_assign rfl (lt rfl)) rfl rfl ?_
          refine hits_nil ?_
          refine to_next ?_
          refine hits_cond rfl (fun c1 => ?_) (fun c1 => absurd c1 Bool.false_ne_true.symm)
          refine hits_seq ?_
          refine hits_region ?_
          refine sq (f_move rfl (lt rfl)) rfl rfl ?_
          refine sq (f_bin rfl rfl (iT ((u8_sub hc h3 : _ = ((c - 97 : Nat) : Int)))) (lt rfl)) rfl rfl ?_
          refine sq (f_convI rfl us5 un3 (IntWalk.i64_in _ (by omega)) (lt rfl)) rfl rfl ?_
          refine sq (f_bin rfl rfl (iT (((IntWalk.i64_in _ (by omega)).trans (by rw [hd]; omega) : _ = dgI c))) (lt rfl)) rfl rfl ?_
          refine sq (f_assign rfl (lt rfl)) rfl rfl ?_
          refine hits_nil ?_
          refine to_next ?_
          refine hits_ret ?_
          refine in_ret ?_
          refine to_ret ?_
          exact hits_done (.inl rfl) rfl rfl rfl
        · have hd : dgI c = -1 := by rw [dgI, if_neg hd1, if_neg (by omega)]
          refine hits_region ?_
          refine sq (f_move rfl (lt rfl)) rfl rfl ?_
          refine sq (f_bin rfl rfl (bT (decide_eq_true (by omega))) (lt rfl)) rfl rfl ?_
          refine sq (f_move rfl (lt rfl)) rfl rfl ?_
          refine sq_yes (f_move rfl (lt rfl)) rfl rfl rfl rfl (lt rfl) ?_
          refine sq_yes (f_bin rfl rfl (bT (decide_eq_false (by omega))) (lt rfl)) rfl rfl rfl rfl (lt rfl) ?_
          refine sq (f_pick rfl rfl (lt rfl)) rfl rfl ?_
          refine sq (f_assign rfl (lt rfl)) rfl rfl ?_
          refine hits_nil ?_
          refine to_next ?_
          refine hits_cond rfl (fun c1 => absurd c1 Bool.false_ne_true) (fun c1 => ?_)
          refine hits_skip ?_
          refine in_next ?_
          refine to_next ?_
          refine hits_seq ?_
          rw [hd]
          refine hits_region ?_
          refine sq (f_assign rfl (lt rfl)) rfl rfl ?_
          refine hits_nil ?_
          refine to_next ?_
          refine hits_ret ?_
          exact hits_done (.inl rfl) rfl rfl rfl
      · have hd : dgI c = -1 := by rw [dgI, if_neg hd1, if_neg (by omega)]
        refine hits_region ?_
        refine sq (f_move rfl (lt rfl)) rfl rfl ?_
        refine sq (f_bin rfl rfl (bT (decide_eq_false (by omega))) (lt rfl)) rfl rfl ?_
        refine sq (f_move rfl (lt rfl)) rfl rfl ?_
        refine sq_no rfl rfl rfl rfl rfl (lt rfl) (lt rfl) ?_
        refine sq_no rfl rfl rfl rfl rfl (lt rfl) (lt rfl) ?_
        refine sq (f_pick rfl rfl (lt rfl)) rfl rfl ?_
        refine sq (f_assign rfl (lt rfl)) rfl rfl ?_
        refine hits_nil ?_
        refine to_next ?_
        refine hits_cond rfl (fun c1 => absurd c1 Bool.false_ne_true) (fun c1 => ?_)
        refine hits_skip ?_
        refine in_next ?_
        refine to_next ?_
        refine hits_seq ?_
        rw [hd]
        refine hits_region ?_
        refine sq (f_assign rfl (lt rfl)) rfl rfl ?_
        refine hits_nil ?_
        refine to_next ?_
        refine hits_ret ?_
        exact hits_done (.inl rfl) rfl rfl rfl
  · have hd1 : ¬ (48 ≤ c ∧ c ≤ 57) := by omega
    refine hits_region ?_
    refine sq (f_move rfl (lt rfl)) rfl rfl ?_
    refine sq (f_bin rfl rfl (bT (decide_eq_false (by omega))) (lt rfl)) rfl rfl ?_
    refine sq (f_move rfl (lt rfl)) rfl rfl ?_
    refine sq_no rfl rfl rfl rfl rfl (lt rfl) (lt rfl) ?_
    refine sq_no rfl rfl rfl rfl rfl (lt rfl) (lt rfl) ?_
    refine sq (f_pick rfl rfl (lt rfl)) rfl rfl ?_
    refine sq (f_assign rfl (lt rfl)) rfl rfl ?_
    refine hits_nil ?_
    refine to_next ?_
    refine hits_cond rfl (fun c0 => absurd c0 Bool.false_ne_true) (fun c0 => ?_)
    refine hits_seq ?_
    by_cases h3 : 97 ≤ c
    · by_cases h4 : c ≤ 102
      · have hd : dgI c = ((c - 87 : Nat) : Int) := by rw [dgI, if_neg hd1, if_pos ⟨h3, h4⟩]
        refine hits_region ?_
        refine sq (f_move rfl (lt rfl)) rfl rfl ?_
        refine sq (f_bin rfl rfl (bT (decide_eq_true (by omega))) (lt rfl)) rfl rfl ?_
        refine sq (f_move rfl (lt rfl)) rfl rfl ?_
        refine sq_yes (f_move rfl (lt rfl)) rfl rfl rfl rfl (lt rfl) ?_
        refine sq_yes (f_bin rfl rfl (bT (decide_eq_true (by omega))) (lt rfl)) rfl rfl rfl rfl (lt rfl) ?_
        refine sq (f_pick rfl rfl (lt rfl)) rfl rfl ?_
        refine sq (f_assign rfl (lt rfl)) rfl rfl ?_
        refine hits_nil ?_
        refine to_next ?_
        refine hits_cond rfl (fun c1 => ?_) (fun c1 => absurd c1 Bool.false_ne_true.symm)
        refine hits_seq ?_
        refine hits_region ?_
        refine sq (f_move rfl (lt rfl)) rfl rfl ?_
        refine sq (f_bin rfl rfl (iT ((u8_sub hc h3 : _ = ((c - 97 : Nat) : Int)))) (lt rfl)) rfl rfl ?_
        refine sq (f_convI rfl us5 un3 (IntWalk.i64_in _ (by omega)) (lt rfl)) rfl rfl ?_
        refine sq (f_bin rfl rfl (iT (((IntWalk.i64_in _ (by omega)).trans (by rw [hd]; omega) : _ = dgI c))) (lt rfl)) rfl rfl ?_
        refine sq (f_assign rfl (lt rfl)) rfl rfl ?_
        refine hits_nil ?_
        refine to_next ?_
        refine hits_ret ?_
        refine in_ret ?_
        refine to_ret ?_
        exact hits_done (.inl rfl) rfl rfl rfl
      · have hd : dgI c = -1 := by rw [dgI, if_neg hd1, if_neg (by omega)]
        refine hits_region ?_
        refine sq (f_move rfl (lt rfl)) rfl rfl ?_
        refine sq (f_bin rfl rfl (bT (decide_eq_true (by omega))) (lt rfl)) rfl rfl ?_
        refine sq (f_move rfl (lt rfl)) rfl rfl ?_
        refine sq_yes (f_move rfl (lt rfl)) rfl rfl rfl rfl (lt rfl) ?_
        refine sq_yes (f_bin rfl rfl (bT (decide_eq_false (by omega))) (lt rfl)) rfl rfl rfl rfl (lt rfl) ?_
        refine sq (f_pick rfl rfl (lt rfl)) rfl rfl ?_
        refine sq (f_assign rfl (lt rfl)) rfl rfl ?_
        refine hits_nil ?_
        refine to_next ?_
        refine hits_cond rfl (fun c1 => absurd c1 Bool.false_ne_true) (fun c1 => ?_)
        refine hits_skip ?_
        refine in_next ?_
        refine to_next ?_
        refine hits_seq ?_
        rw [hd]
        refine hits_region ?_
        refine sq (f_assign rfl (lt rfl)) rfl rfl ?_
        refine hits_nil ?_
        refine to_next ?_
        refine hits_ret ?_
        exact hits_done (.inl rfl) rfl rfl rfl
    · have hd : dgI c = -1 := by rw [dgI, if_neg hd1, if_neg (by omega)]
      refine hits_region ?_
      refine sq (f_move rfl (lt rfl)) rfl rfl ?_
      refine sq (f_bin rfl rfl (bT (decide_eq_false (by omega))) (lt rfl)) rfl rfl ?_
      refine sq (f_move rfl (lt rfl)) rfl rfl ?_
      refine sq_no rfl rfl rfl rfl rfl (lt rfl) (lt rfl) ?_
      refine sq_no rfl rfl rfl rfl rfl (lt rfl) (lt rfl) ?_
      refine sq (f_pick rfl rfl (lt rfl)) rfl rfl ?_
      refine sq (f_assign rfl (lt rfl)) rfl rfl ?_
      refine hits_nil ?_
      refine to_next ?_
      refine hits_cond rfl (fun c1 => absurd c1 Bool.false_ne_true) (fun c1 => ?_)
      refine hits_skip ?_
      refine in_next ?_
      refine to_next ?_
      refine hits_seq ?_
      rw [hd]
      refine hits_region ?_
      refine sq (f_assign rfl (lt rfl)) rfl rfl ?_
      refine hits_nil ?_
      refine to_next ?_
      refine hits_ret ?_
      exact hits_done (.inl rfl) rfl rfl rfl

set_option maxRecDepth 100000 in
theorem rnum_c {l : List Bool} (h : l.length ≤ 128) : CallsP Tryz.prog Lw 32 [.list 1 (bDB l)] (bitD l.length (natL l)) := by
  have hl := bDB_len l
  refine callsP_of gs_lw Tryz.func32 rfl Tryz.ntmps32 rfl fun w0 S0 stab => ?_
  refine hits_seq ?_
  refine hits_region ?_
  refine sq (f_alloc zc24 (lt rfl)) rfl rfl ?_
  refine hits_nil ?_
  refine to_next ?_
  refine hits_seq ?_
  refine hits_region ?_
  refine sq (f_move rfl (lt rfl)) rfl rfl ?_
  refine sq (f_lenList rfl rfl un89 (lt rfl)) rfl rfl ?_
  refine sq (f_build bu24 rfl rfl (lt rfl)) rfl rfl ?_
  refine sq (f_alloc zc24 (lt rfl)) rfl rfl ?_
  refine sq (f_store kd24 rfl rfl rfl rfl rfl) rfl rfl ?_
  refine hits_nil ?_
  refine to_next ?_
  refine hits_seq ?_
  refine hits_seq ?_
  refine hits_region ?_
  refine sq (f_assign rfl (lt rfl)) rfl rfl ?_
  refine hits_nil ?_
  refine to_next ?_
  refine hits_block ?_
  refine hits_loop (fun i : Nat => [(.slot 0, some (.d (.list 1 (bDB l)))), (.slot 4, some (.d (.sc (.int .i64 (i : Int))))), (.slot 3, some (.ptr 3 0)), (.cell 3 0, some (.d (.sc (.int .i64 ((bDB l).length : Int))))), (.cell 3 1, some (.d (.sc (.int .u64 (hiOf (natL (l.take i))))))), (.cell 3 2, some (.d (.sc (.int .u64 (loOf (natL (l.take i))))))), (.box 3, some (.ptr 3 0)), (.slot 2, some (.ptr 2 0)), (.cell 2 0, some (.d (.sc (.int .i64 0)))), (.cell 2 1, some (.d (.sc (.int .u64 0)))), (.cell 2 2, some (.d (.sc (.int .u64 0)))), (.box 2, some (.ptr 2 0))]) (fun i : Nat => i ≤ l.length) (fun i : Nat => l.length - i) 0 (Nat.zero_le _) ⟨rfl, rfl, rfl, rfl, congrArg (fun z : Int => some (V.d (.sc (.int .u64 z)))) (by rw [List.take_zero]; rfl : (0 : Int) = hiOf (natL (l.take 0))), congrArg (fun z : Int => some (V.d (.sc (.int .u64 z)))) (by rw [List.take_zero]; rfl : (0 : Int) = loOf (natL (l.take 0))), rfl, rfl, rfl, rfl, rfl, rfl, trivial⟩ rfl ?_
  intro i hi
  refine hits_seq ?_
  refine hits_seq ?_
  by_cases h1 : i < l.length
  · refine hits_region ?_
    refine sq (f_move rfl (lt rfl)) rfl rfl ?_
    refine sq (f_move rfl (lt rfl)) rfl rfl ?_
    refine sq (f_lenList rfl rfl un89 (lt rfl)) rfl rfl ?_
    refine sq (f_bin rfl rfl (bT (decide_eq_true (by omega))) (lt rfl)) rfl rfl ?_
    refine hits_nil ?_
    refine to_next ?_
    refine hits_cond rfl (fun c0 => ?_) (fun c0 => absurd c0 Bool.false_ne_true.symm)
    refine hits_skip ?_
    refine to_next ?_
    refine hits_seq ?_
    refine hits_block ?_
    refine hits_seq ?_
    refine hits_seq ?_
    cases hb : l.getD i false
    · have hat := bDB_getD h1
      rw [hb] at hat
      have hn := natL_no h1 hb
      refine hits_region ?_
      refine sq (f_move rfl (lt rfl)) rfl rfl ?_
      refine sq (f_move rfl (lt rfl)) rfl rfl ?_
      refine sq (f_idxList rfl rfl rfl un89 kd4 (Int.natCast_nonneg _) hat (lt rfl)) rfl rfl ?_
      refine sq (f_load kd4 rfl rfl (lt rfl)) rfl rfl ?_
      refine sq (f_un rfl rfl (lt rfl)) rfl rfl ?_
      refine hits_nil ?_
      refine to_next ?_
      refine hits_cond rfl (fun c1 => ?_) (fun c1 => absurd c1 Bool.false_ne_true.symm)
      refine hits_exit ?_
      refine to_exit ?_
      refine in_hit rfl ?_
      refine to_next ?_
      refine hits_region ?_
      refine sq (f_move rfl (lt rfl)) rfl rfl ?_
      refine sq (f_bin rfl rfl (iT ((wrap_succ (by omega) : _ = ((i + 1 : Nat) : Int)))) (lt rfl)) rfl rfl ?_
      refine sq (f_assign rfl (lt rfl)) rfl rfl ?_
      refine hits_nil ?_
      refine to_next ?_
      exact round_end (i + 1) (by omega) (by omega) ⟨rfl, rfl, rfl, rfl, congrArg (fun z : Int => some (V.d (.sc (.int .u64 z)))) (congrArg hiOf hn.symm), congrArg (fun z : Int => some (V.d (.sc (.int .u64 z)))) (congrArg loOf hn.symm), rfl, rfl, rfl, rfl, rfl, rfl, trivial⟩ rfl
    · have hat := bDB_getD h1
      rw [hb] at hat
      have hn := natL_go h1 hb
      have hx := natL_take_lt l i
      refine hits_region ?_
      refine sq (f_move rfl (lt rfl)) rfl rfl ?_
      refine sq (f_move rfl (lt rfl)) rfl rfl ?_
      refine sq (f_idxList rfl rfl rfl un89 kd4 (Int.natCast_nonneg _) hat (lt rfl)) rfl rfl ?_
      refine sq (f_load kd4 rfl rfl (lt rfl)) rfl rfl ?_
      refine sq (f_un rfl rfl (lt rfl)) rfl rfl ?_
      refine hits_nil ?_
      refine to_next ?_
      refine hits_cond rfl (fun c1 => absurd c1 Bool.false_ne_true) (fun c1 => ?_)
      refine hits_skip ?_
      refine to_next ?_
      refine hits_seq ?_
      by_cases h2 : i < 64
      · have ha := hi_add hx h2
        rw [← hn] at ha
        refine hits_region ?_
        refine sq (f_move rfl (lt rfl)) rfl rfl ?_
        refine sq (f_bin rfl rfl (bT (decide_eq_true (by omega))) (lt rfl)) rfl rfl ?_
        refine hits_nil ?_
        refine to_next ?_
        refine hits_cond rfl (fun c2 => ?_) (fun c2 => absurd c2 Bool.false_ne_true.symm)
        refine hits_drawn mixed ?_
        refine dq (f_fieldAddr rfl kf24_2 rfl (lt rfl)) rfl rfl ?_
        refine dq (f_load kd22 rfl rfl (lt rfl)) rfl rfl ?_
        refine dq (f_move rfl (lt rfl)) rfl rfl ?_
        refine dq (f_shlI rfl rfl (by omega) (one_shl h2) (lt rfl)) rfl rfl ?_
        refine dq (f_bin rfl rfl (iT (((or_nat (lo_lt _) (pow_lt64 h2)).trans ha.2.symm))) (lt rfl)) rfl rfl ?_
        refine dq (f_fieldAddr rfl kf24_2 rfl (lt rfl)) rfl rfl ?_
        refine dq (f_store kd22 rfl rfl rfl rfl rfl) rfl rfl ?_
        refine dq_nil rfl ?_
        refine in_next ?_
        refine to_next ?_
        refine hits_region ?_
        refine sq (f_move rfl (lt rfl)) rfl rfl ?_
        refine sq (f_bin rfl rfl (iT ((wrap_succ (by omega) : _ = ((i + 1 : Nat) : Int)))) (lt rfl)) rfl rfl ?_
        refine sq (f_assign rfl (lt rfl)) rfl rfl ?_
        refine hits_nil ?_
        refine to_next ?_
        exact round_end (i + 1) (by omega) (by omega) ⟨rfl, rfl, rfl, rfl, congrArg (fun z : Int => some (V.d (.sc (.int .u64 z)))) ha.1.symm, rfl, rfl, rfl, rfl, rfl, rfl, rfl, trivial⟩ rfl
      · have ha := hi_add2 hx (by omega)
        rw [← hn] at ha
        have hx2 : natL (l.take i) / 2 ^ 64 < 2 ^ 64 := hi_lt (Nat.lt_of_lt_of_le hx (Nat.pow_le_pow_right (by decide) (by omega)))
        refine hits_region ?_
        refine sq (f_move rfl (lt rfl)) rfl rfl ?_
        refine sq (f_bin rfl rfl (bT (decide_eq_false (by omega))) (lt rfl)) rfl rfl ?_
        refine hits_nil ?_
        refine to_next ?_
        refine hits_cond rfl (fun c2 => absurd c2 Bool.false_ne_true) (fun c2 => ?_)
        refine hits_drawn mixed ?_
        refine dq (f_fieldAddr rfl kf24_1 rfl (lt rfl)) rfl rfl ?_
        refine dq (f_load kd22 rfl rfl (lt rfl)) rfl rfl ?_
        refine dq (f_move rfl (lt rfl)) rfl rfl ?_
        refine dq (f_bin rfl rfl (iT (((IntWalk.i64_in _ (by omega)).trans (by omega) : _ = ((i - 64 : Nat) : Int)))) (lt rfl)) rfl rfl ?_
        refine dq (f_shlI rfl rfl (by omega) (one_shl (by omega)) (lt rfl)) rfl rfl ?_
        refine dq (f_bin rfl rfl (iT (((or_nat hx2 (pow_lt64 (by omega))).trans ha.1.symm))) (lt rfl)) rfl rfl ?_
        refine dq (f_fieldAddr rfl kf24_1 rfl (lt rfl)) rfl rfl ?_
        refine dq (f_store kd22 rfl rfl rfl rfl rfl) rfl rfl ?_
        refine dq_nil rfl ?_
        refine in_next ?_
        refine to_next ?_
        refine hits_region ?_
        refine sq (f_move rfl (lt rfl)) rfl rfl ?_
        refine sq (f_bin rfl rfl (iT ((wrap_succ (by omega) : _ = ((i + 1 : Nat) : Int)))) (lt rfl)) rfl rfl ?_
        refine sq (f_assign rfl (lt rfl)) rfl rfl ?_
        refine hits_nil ?_
        refine to_next ?_
        exact round_end (i + 1) (by omega) (by omega) ⟨rfl, rfl, rfl, rfl, rfl, congrArg (fun z : Int => some (V.d (.sc (.int .u64 z)))) ha.2.symm, rfl, rfl, rfl, rfl, rfl, rfl, trivial⟩ rfl
  · obtain rfl : i = l.length := by omega
    refine hits_region ?_
    refine sq (f_move rfl (lt rfl)) rfl rfl ?_
    refine sq (f_move rfl (lt rfl)) rfl rfl ?_
    refine sq (f_lenList rfl rfl un89 (lt rfl)) rfl rfl ?_
    refine sq (f_bin rfl rfl (bT (decide_eq_false (by omega))) (lt rfl)) rfl rfl ?_
    refine hits_nil ?_
    refine to_next ?_
    refine hits_cond rfl (fun c0 => absurd c0 Bool.false_ne_true) (fun c0 => ?_)
    refine hits_exit ?_
    refine to_exit ?_
    refine to_exit ?_
    refine in_hit rfl ?_
    refine to_next ?_
    refine hits_seq ?_
    refine hits_region ?_
    refine sq (f_load kd24 rfl rfl (lt rfl)) rfl rfl ?_
    refine sq (f_store kd24 rfl rfl rfl rfl rfl) rfl rfl ?_
    refine hits_nil ?_
    refine to_next ?_
    refine hits_ret ?_
    exact hits_done (.inl rfl) rfl rfl (by rw [hl, List.take_length]; rfl)

set_option maxRecDepth 100000 in
theorem rof_ok {w v : Nat} (h0 : 1 ≤ w) (h : w ≤ 128) (hv : v < 2 ^ 128) : CallsP Tryz.prog Lw 132 [.sc (.int .i64 (w : Int)), .sc (.int .u64 (hiOf v)), .sc (.int .u64 (loOf v))] (.tup [bitD w (v % 2 ^ w), .sc (.int .i64 0)]) := by
  have hn := rnum_c (l := bl w v) (by rw [bl_length]; exact h)
  rw [bl_length, natL_bl] at hn
  refine callsP_of gs_lw Tryz.func132 rfl Tryz.ntmps132 rfl fun w0 S0 stab => ?_
  refine hits_seq ?_
  refine hits_region ?_
  refine sq (f_alloc zc24 (lt rfl)) rfl rfl ?_
  refine sq (f_assign rfl (lt rfl)) rfl rfl ?_
  refine hits_nil ?_
  refine to_next ?_
  refine hits_seq ?_
  refine hits_seq ?_
  refine hits_region ?_
  refine sq (f_move rfl (lt rfl)) rfl rfl ?_
  refine sq (f_bin rfl rfl (bT (decide_eq_false (by omega))) (lt rfl)) rfl rfl ?_
  refine sq (f_move rfl (lt rfl)) rfl rfl ?_
  refine sq_yes (f_move rfl (lt rfl)) rfl rfl rfl rfl (lt rfl) ?_
  refine sq_yes (f_bin rfl rfl (bT (decide_eq_false (by omega))) (lt rfl)) rfl rfl rfl rfl (lt rfl) ?_
  refine sq (f_pick rfl rfl (lt rfl)) rfl rfl ?_
  refine hits_nil ?_
  refine to_next ?_
  refine hits_cond rfl (fun c0 => absurd c0 Bool.false_ne_true) (fun c0 => ?_)
  refine hits_skip ?_
  refine to_next ?_
  refine hits_seq ?_
  refine hits_region ?_
  refine sq (f_move rfl (lt rfl)) rfl rfl ?_
  refine sq (f_move rfl (lt rfl)) rfl rfl ?_
  refine sq (f_move rfl (lt rfl)) rfl rfl ?_
  refine sq (f_build bu24 rfl rfl (lt rfl)) rfl rfl ?_
  refine sq (f_call en29 rfl (rbits_c h hv) (lt rfl)) rfl rfl ?_
  refine sq (f_call en32 rfl hn (lt rfl)) rfl rfl ?_
  refine sq (f_store kd24 rfl rfl rfl rfl rfl) rfl rfl ?_
  refine sq (f_assign rfl (lt rfl)) rfl rfl ?_
  refine hits_nil ?_
  refine to_next ?_
  refine hits_ret ?_
  exact hits_done (.inl rfl) rfl rfl rfl

set_option maxRecDepth 100000 in
theorem rof_no {y a b : Int} (h : ¬ (1 ≤ y ∧ y ≤ 128)) : CallsP Tryz.prog Lw 132 [.sc (.int .i64 y), .sc (.int .u64 a), .sc (.int .u64 b)] (.tup [.agg [.sc (.int .i64 0), .sc (.int .u64 0), .sc (.int .u64 0)], .sc (.int .i64 1)]) := by
  refine callsP_of gs_lw Tryz.func132 rfl Tryz.ntmps132 rfl fun w0 S0 stab => ?_
  refine hits_seq ?_
  refine hits_region ?_
  refine sq (f_alloc zc24 (lt rfl)) rfl rfl ?_
  refine sq (f_assign rfl (lt rfl)) rfl rfl ?_
  refine hits_nil ?_
  refine to_next ?_
  refine hits_seq ?_
  refine hits_seq ?_
  by_cases h1 : y < 1
  · refine hits_region ?_
    refine sq (f_move rfl (lt rfl)) rfl rfl ?_
    refine sq (f_bin rfl rfl (bT (decide_eq_true h1)) (lt rfl)) rfl rfl ?_
    refine sq (f_move rfl (lt rfl)) rfl rfl ?_
    refine sq_no rfl rfl rfl rfl rfl (lt rfl) (lt rfl) ?_
    refine sq_no rfl rfl rfl rfl rfl (lt rfl) (lt rfl) ?_
    refine sq (f_pick rfl rfl (lt rfl)) rfl rfl ?_
    refine hits_nil ?_
    refine to_next ?_
    refine hits_cond rfl (fun c0 => ?_) (fun c0 => absurd c0 Bool.false_ne_true.symm)
    refine hits_seq ?_
    refine hits_region ?_
    refine sq (f_build bu24 rfl rfl (lt rfl)) rfl rfl ?_
    refine sq (f_store kd24 rfl rfl rfl rfl rfl) rfl rfl ?_
    refine sq (f_assign rfl (lt rfl)) rfl rfl ?_
    refine hits_nil ?_
    refine to_next ?_
    refine hits_ret ?_
    refine to_ret ?_
    exact hits_done (.inl rfl) rfl rfl rfl
  · refine hits_region ?_
    refine sq (f_move rfl (lt rfl)) rfl rfl ?_
    refine sq (f_bin rfl rfl (bT (decide_eq_false h1)) (lt rfl)) rfl rfl ?_
    refine sq (f_move rfl (lt rfl)) rfl rfl ?_
    refine sq_yes (f_move rfl (lt rfl)) rfl rfl rfl rfl (lt rfl) ?_
    refine sq_yes (f_bin rfl rfl (bT (decide_eq_true (by omega))) (lt rfl)) rfl rfl rfl rfl (lt rfl) ?_
    refine sq (f_pick rfl rfl (lt rfl)) rfl rfl ?_
    refine hits_nil ?_
    refine to_next ?_
    refine hits_cond rfl (fun c0 => ?_) (fun c0 => absurd c0 Bool.false_ne_true.symm)
    refine hits_seq ?_
    refine hits_region ?_
    refine sq (f_build bu24 rfl rfl (lt rfl)) rfl rfl ?_
    refine sq (f_store kd24 rfl rfl rfl rfl rfl) rfl rfl ?_
    refine sq (f_assign rfl (lt rfl)) rfl rfl ?_
    refine hits_nil ?_
    refine to_next ?_
    refine hits_ret ?_
    refine to_ret ?_
    exact hits_done (.inl rfl) rfl rfl rfl

set_option maxRecDepth 100000 in
theorem rchk_ok {w v : Nat} (h0 : 1 ≤ w) (h : w ≤ 128) (hv : v < 2 ^ w) : CallsP Tryz.prog Lw 28 [bitD w v] (.sc (.bool true)) := by
  have ho := rof_ok h0 h (lt128 h hv)
  rw [Nat.mod_eq_of_lt hv] at ho
  refine callsP_of gs_lw Tryz.func28 rfl Tryz.ntmps28 rfl fun w0 S0 stab => ?_
  refine hits_seq ?_
  refine hits_region ?_
  refine sq (f_box rfl rfl (lt rfl)) rfl rfl ?_
  refine sq (f_assign rfl (lt rfl)) rfl rfl ?_
  refine hits_nil ?_
  refine to_next ?_
  refine hits_seq ?_
  refine hits_region ?_
  refine sq (f_fieldAddr rfl kf24_0 rfl (lt rfl)) rfl rfl ?_
  refine sq (f_load kd3 rfl rfl (lt rfl)) rfl rfl ?_
  refine sq (f_fieldAddr rfl kf24_1 rfl (lt rfl)) rfl rfl ?_
  refine sq (f_load kd22 rfl rfl (lt rfl)) rfl rfl ?_
  refine sq (f_fieldAddr rfl kf24_2 rfl (lt rfl)) rfl rfl ?_
  refine sq (f_load kd22 rfl rfl (lt rfl)) rfl rfl ?_
  refine sq (f_call en132 rfl ho (lt rfl)) rfl rfl ?_
  refine sq (f_move rfl (lt rfl)) rfl rfl ?_
  refine sq (f_extract rfl rfl (lt rfl)) rfl rfl ?_
  refine sq (f_extract rfl rfl (lt rfl)) rfl rfl ?_
  refine sq (f_alloc zc24 (lt rfl)) rfl rfl ?_
  refine sq (f_store kd24 rfl rfl rfl rfl rfl) rfl rfl ?_
  refine sq (f_assign rfl (lt rfl)) rfl rfl ?_
  refine hits_nil ?_
  refine to_next ?_
  refine hits_seq ?_
  refine hits_region ?_
  refine sq (f_move rfl (lt rfl)) rfl rfl ?_
  refine sq (f_bin rfl rfl (bT (b' := true) rfl) (lt rfl)) rfl rfl ?_
  refine sq (f_move rfl (lt rfl)) rfl rfl ?_
  refine sq_yes (f_load kd24 rfl rfl (lt rfl)) rfl rfl rfl rfl (lt rfl) ?_
  refine sq_yes (f_load kd24 rfl rfl (lt rfl)) rfl rfl rfl rfl (lt rfl) ?_
  refine sq_yes (f_eqS rfl rfl rfl rfl eqg24 (ev24 ..) (by decide) ((bit_eqv (lt128 h hv) (lt128 h hv)).trans (decide_eq_true rfl)) (lt rfl)) rfl rfl rfl rfl (lt rfl) ?_
  refine sq (f_pick rfl rfl (lt rfl)) rfl rfl ?_
  refine sq (f_assign rfl (lt rfl)) rfl rfl ?_
  refine hits_nil ?_
  refine to_next ?_
  refine hits_ret ?_
  exact hits_done (.inl rfl) rfl rfl rfl

set_option maxRecDepth 100000 in
theorem rchk_big {w v : Nat} (h0 : 1 ≤ w) (h : w ≤ 128) (hv : v < 2 ^ 128) (hb : ¬ v < 2 ^ w) : CallsP Tryz.prog Lw 28 [bitD w v] (.sc (.bool false)) := by
  have ho := rof_ok h0 h hv
  have hm := Nat.mod_lt v (Nat.two_pow_pos w)
  refine callsP_of gs_lw Tryz.func28 rfl Tryz.ntmps28 rfl fun w0 S0 stab => ?_
  refine hits_seq ?_
  refine hits_region ?_
  refine sq (f_box rfl rfl (lt rfl)) rfl rfl ?_
  refine sq (f_assign rfl (lt rfl)) rfl rfl ?_
  refine hits_nil ?_
  refine to_next ?_
  refine hits_seq ?_
  refine hits_region ?_
  refine sq (f_fieldAddr rfl kf24_0 rfl (lt rfl)) rfl rfl ?_
  refine sq (f_load kd3 rfl rfl (lt rfl)) rfl rfl ?_
  refine sq (f_fieldAddr rfl kf24_1 rfl (lt rfl)) rfl rfl ?_
  refine sq (f_load kd22 rfl rfl (lt rfl)) rfl rfl ?_
  refine sq (f_fieldAddr rfl kf24_2 rfl (lt rfl)) rfl rfl ?_
  refine sq (f_load kd22 rfl rfl (lt rfl)) rfl rfl ?_
  refine sq (f_call en132 rfl ho (lt rfl)) rfl rfl ?_
  refine sq (f_move rfl (lt rfl)) rfl rfl ?_
  refine sq (f_extract rfl rfl (lt rfl)) rfl rfl ?_
  refine sq (f_extract rfl rfl (lt rfl)) rfl rfl ?_
  refine sq (f_alloc zc24 (lt rfl)) rfl rfl ?_
  refine sq (f_store kd24 rfl rfl rfl rfl rfl) rfl rfl ?_
  refine sq (f_assign rfl (lt rfl)) rfl rfl ?_
  refine hits_nil ?_
  refine to_next ?_
  refine hits_seq ?_
  refine hits_region ?_
  refine sq (f_move rfl (lt rfl)) rfl rfl ?_
  refine sq (f_bin rfl rfl (bT (b' := true) rfl) (lt rfl)) rfl rfl ?_
  refine sq (f_move rfl (lt rfl)) rfl rfl ?_
  refine sq_yes (f_load kd24 rfl rfl (lt rfl)) rfl rfl rfl rfl (lt rfl) ?_
  refine sq_yes (f_load kd24 rfl rfl (lt rfl)) rfl rfl rfl rfl (lt rfl) ?_
  refine sq_yes (f_eqS rfl rfl rfl rfl eqg24 (ev24 ..) (by decide) ((bit_eqv (Nat.lt_of_le_of_lt (Nat.mod_le _ _) hv) hv).trans (decide_eq_false (by omega))) (lt rfl)) rfl rfl rfl rfl (lt rfl) ?_
  refine sq (f_pick rfl rfl (lt rfl)) rfl rfl ?_
  refine sq (f_assign rfl (lt rfl)) rfl rfl ?_
  refine hits_nil ?_
  refine to_next ?_
  refine hits_ret ?_
  exact hits_done (.inl rfl) rfl rfl rfl

set_option maxRecDepth 100000 in
theorem rchk_no {y a b : Int} (h : ¬ (1 ≤ y ∧ y ≤ 128)) : CallsP Tryz.prog Lw 28 [.agg [.sc (.int .i64 y), .sc (.int .u64 a), .sc (.int .u64 b)]] (.sc (.bool false)) := by
  refine callsP_of gs_lw Tryz.func28 rfl Tryz.ntmps28 rfl fun w0 S0 stab => ?_
  refine hits_seq ?_
  refine hits_region ?_
  refine sq (f_box rfl rfl (lt rfl)) rfl rfl ?_
  refine sq (f_assign rfl (lt rfl)) rfl rfl ?_
  refine hits_nil ?_
  refine to_next ?_
  refine hits_seq ?_
  refine hits_region ?_
  refine sq (f_fieldAddr rfl kf24_0 rfl (lt rfl)) rfl rfl ?_
  refine sq (f_load kd3 rfl rfl (lt rfl)) rfl rfl ?_
  refine sq (f_fieldAddr rfl kf24_1 rfl (lt rfl)) rfl rfl ?_
  refine sq (f_load kd22 rfl rfl (lt rfl)) rfl rfl ?_
  refine sq (f_fieldAddr rfl kf24_2 rfl (lt rfl)) rfl rfl ?_
  refine sq (f_load kd22 rfl rfl (lt rfl)) rfl rfl ?_
  refine sq (f_call en132 rfl (rof_no h) (lt rfl)) rfl rfl ?_
  refine sq (f_move rfl (lt rfl)) rfl rfl ?_
  refine sq (f_extract rfl rfl (lt rfl)) rfl rfl ?_
  refine sq (f_extract rfl rfl (lt rfl)) rfl rfl ?_
  refine sq (f_alloc zc24 (lt rfl)) rfl rfl ?_
  refine sq (f_store kd24 rfl rfl rfl rfl rfl) rfl rfl ?_
  refine sq (f_assign rfl (lt rfl)) rfl rfl ?_
  refine hits_nil ?_
  refine to_next ?_
  refine hits_seq ?_
  refine hits_region ?_
  refine sq (f_move rfl (lt rfl)) rfl rfl ?_
  refine sq (f_bin rfl rfl (bT (b' := false) rfl) (lt rfl)) rfl rfl ?_
  refine sq (f_move rfl (lt rfl)) rfl rfl ?_
  refine sq_no rfl rfl rfl rfl rfl (lt rfl) (lt rfl) ?_
  refine sq_no rfl rfl rfl rfl rfl (lt rfl) (lt rfl) ?_
  refine sq_no rfl rfl rfl rfl rfl (lt rfl) (lt rfl) ?_
  refine sq (f_pick rfl rfl (lt rfl)) rfl rfl ?_
  refine sq (f_assign rfl (lt rfl)) rfl rfl ?_
  refine hits_nil ?_
  refine to_next ?_
  refine hits_ret ?_
  exact hits_done (.inl rfl) rfl rfl rfl

set_option maxRecDepth 100000 in
theorem rtext_c {w v : Nat} (h0 : 1 ≤ w) (h : w ≤ 128) (hv : v < 2 ^ w) : CallsP Tryz.prog Lw 252 [bitD w v] (.tup [.sc (.string (rtextB w v)), .sc (.int .i64 0)]) := by
  have hv' := lt128 h hv
  have hdl := decB_len w (by omega)
  have hx0 := hexB_len hv'
  refine callsP_of gs_lw Tryz.func252 rfl Tryz.ntmps252 rfl fun w0 S0 stab => ?_
  refine hits_seq ?_
  refine hits_region ?_
  refine sq (f_box rfl rfl (lt rfl)) rfl rfl ?_
  refine sq (f_assign rfl (lt rfl)) rfl rfl ?_
  refine sq (f_assign rfl (lt rfl)) rfl rfl ?_
  refine hits_nil ?_
  refine to_next ?_
  refine hits_seq ?_
  refine hits_seq ?_
  refine hits_region ?_
  refine sq (f_load kd24 rfl rfl (lt rfl)) rfl rfl ?_
  refine sq (f_call en28 rfl (rchk_ok h0 h hv) (lt rfl)) rfl rfl ?_
  refine sq (f_un rfl rfl (lt rfl)) rfl rfl ?_
  refine hits_nil ?_
  refine to_next ?_
  refine hits_cond rfl (fun c0 => absurd c0 Bool.false_ne_true) (fun c0 => ?_)
  refine hits_skip ?_
  refine to_next ?_
  refine hits_seq ?_
  refine hits_region ?_
  refine sq (f_load kd24 rfl rfl (lt rfl)) rfl rfl ?_
  refine sq (f_call en29 rfl (rbits_c h hv') (lt rfl)) rfl rfl ?_
  refine sq (f_assign rfl (lt rfl)) rfl rfl ?_
  refine hits_nil ?_
  refine to_next ?_
  refine hits_seq ?_
  refine hits_region ?_
  refine sq (f_assign rfl (lt rfl)) rfl rfl ?_
  refine hits_nil ?_
  refine to_next ?_
  refine hits_seq ?_
  refine hits_seq ?_
  refine hits_region ?_
  refine sq (f_assign rfl (lt rfl)) rfl rfl ?_
  refine hits_nil ?_
  refine to_next ?_
  refine hits_block ?_
  refine hits_loop (fun k : Nat => [(.slot 4, some (.d (.list 1 (bDB (bl w v))))), (.slot 5, some (.d (.sc (.string (rsk v k))))), (.slot 6, some (.d (.sc (.int .i64 ((k : Int) - 1))))), (.slot 1, some (.ptr 1 0)), (.cell 1 0, some (.d (.sc (.int .i64 (w : Int))))), (.cell 1 1, some (.d (.sc (.int .u64 (hiOf (v)))))), (.cell 1 2, some (.d (.sc (.int .u64 (loOf (v)))))), (.box 1, some (.ptr 1 0))]) (fun k : Nat => k ≤ 32) (fun k : Nat => k) 32 (Nat.le_refl _) ⟨rfl, congrArg (fun z => some (V.d (.sc (.string z)))) (sk_nil (by decide) (Nat.div_eq_of_lt hv')).symm, rfl, rfl, rfl, rfl, rfl, rfl, trivial⟩ rfl ?_
  intro k hk'
  refine hits_seq ?_
  refine hits_seq ?_
  by_cases hk : 0 < k
  · have hp := part_c (w := w) (v := v) (at_ := 4 * (k - 1)) (n := 4) h hv (by omega) (by decide)
    rw [digit_at] at hp
    have hd16 := Nat.mod_lt (v / 16 ^ (k - 1)) (show 0 < 16 by decide)
    have hsk := sk_len (k := k) hv'
    have hes := ext_le (⟨#[48, 49, 50, 51, 52, 53, 54, 55, 56, 57, 97, 98, 99, 100, 101, 102]⟩ : ByteArray) (v / 16 ^ (k - 1) % 16) (v / 16 ^ (k - 1) % 16 + 1)
    have hten : (⟨#[48, 49, 50, 51, 52, 53, 54, 55, 56, 57, 97, 98, 99, 100, 101, 102]⟩ : ByteArray).size = 16 := rfl
    refine hits_region ?_
    refine sq (f_move rfl (lt rfl)) rfl rfl ?_
    refine sq (f_bin rfl rfl (bT (decide_eq_true (by omega))) (lt rfl)) rfl rfl ?_
    refine hits_nil ?_
    refine to_next ?_
    refine hits_cond rfl (fun c1 => ?_) (fun c1 => absurd c1 Bool.false_ne_true.symm)
    refine hits_skip ?_
    refine to_next ?_
    refine hits_seq ?_
    refine hits_block ?_
    refine hits_seq ?_
    refine hits_region ?_
    refine sq (f_move rfl (lt rfl)) rfl rfl ?_
    refine sq (f_move rfl (lt rfl)) rfl rfl ?_
    refine sq (f_bin rfl rfl (iT (((IntWalk.i64_in _ (by omega)).trans (by omega) : _ = ((4 * (k - 1) : Nat) : Int)))) (lt rfl)) rfl rfl ?_
    refine sq (f_call en30 rfl hp (lt rfl)) rfl rfl ?_
    refine sq (f_assign rfl (lt rfl)) rfl rfl ?_
    refine hits_nil ?_
    refine to_next ?_
    refine hits_seq ?_
    by_cases hz : v / 16 ^ k = 0
    · have hn := sk_nil hk hz
      by_cases hd : 0 < v / 16 ^ (k - 1) % 16
      · refine hits_region ?_
        refine sq (f_move rfl (lt rfl)) rfl rfl ?_
        refine sq (f_bin rfl rfl (bT (str_ne0 hn)) (lt rfl)) rfl rfl ?_
        refine sq (f_move rfl (lt rfl)) rfl rfl ?_
        refine sq_yes (f_move rfl (lt rfl)) rfl rfl rfl rfl (lt rfl) ?_
        refine sq_yes (f_bin rfl rfl (bT (decide_eq_true (by omega))) (lt rfl)) rfl rfl rfl rfl (lt rfl) ?_
        refine sq (f_pick rfl rfl (lt rfl)) rfl rfl ?_
        refine sq (f_move rfl (lt rfl)) rfl rfl ?_
        refine sq_no rfl rfl rfl rfl rfl (lt rfl) (lt rfl) ?_
        refine sq_no rfl rfl rfl rfl rfl (lt rfl) (lt rfl) ?_
        refine sq (f_pick rfl rfl (lt rfl)) rfl rfl ?_
        refine hits_nil ?_
        refine to_next ?_
        refine hits_cond rfl (fun c2 => ?_) (fun c2 => absurd c2 Bool.false_ne_true.symm)
        refine hits_region ?_
        refine sq (f_move rfl (lt rfl)) rfl rfl ?_
        refine sq (f_move rfl (lt rfl)) rfl rfl ?_
        refine sq (f_move rfl (lt rfl)) rfl rfl ?_
        refine sq (f_bin rfl rfl (iT (((IntWalk.i64_in _ (by omega)).trans (by omega) : _ = ((v / 16 ^ (k - 1) % 16 + 1 : Nat) : Int)))) (lt rfl)) rfl rfl ?_
        refine sq (f_sliceStr rfl rfl rfl un9 (by omega) (by omega) (by show ((v / 16 ^ (k - 1) % 16 + 1 : Nat) : Int) ≤ 16; omega) (lt rfl)) rfl rfl ?_
        refine sq (f_catI (r := rsk v (k - 1)) rfl rfl (by show (rsk v k).size + (ByteArray.extract _ (v / 16 ^ (k - 1) % 16) (v / 16 ^ (k - 1) % 16 + 1)).size ≤ _; omega) (by show rsk v k ++ ByteArray.extract _ (v / 16 ^ (k - 1) % 16) (v / 16 ^ (k - 1) % 16 + 1) = _; rw [ext_hx _ (by omega)]; exact sk_app hk (.inr (.inl hd))) (lt rfl)) rfl rfl ?_
        refine sq (f_assign rfl (lt rfl)) rfl rfl ?_
        refine hits_nil ?_
        refine in_next ?_
        refine to_next ?_
        refine hits_region ?_
        refine sq (f_move rfl (lt rfl)) rfl rfl ?_
        refine sq (f_bin rfl rfl (iT (((IntWalk.i64_in _ (by omega)) : _ = ((k : Int) - 1) - 1))) (lt rfl)) rfl rfl ?_
        refine sq (f_assign rfl (lt rfl)) rfl rfl ?_
        refine hits_nil ?_
        refine to_next ?_
        exact round_end (k - 1) (by omega) (by omega) ⟨rfl, rfl, congrArg (fun z : Int => some (V.d (.sc (.int .i64 z)))) (by omega), rfl, rfl, rfl, rfl, rfl, trivial⟩ rfl
      · by_cases h1 : k - 1 = 0
        · refine hits_region ?_
          refine sq (f_move rfl (lt rfl)) rfl rfl ?_
          refine sq (f_bin rfl rfl (bT (str_ne0 hn)) (lt rfl)) rfl rfl ?_
          refine sq (f_move rfl (lt rfl)) rfl rfl ?_
          refine sq_yes (f_move rfl (lt rfl)) rfl rfl rfl rfl (lt rfl) ?_
          refine sq_yes (f_bin rfl rfl (bT (decide_eq_false (by omega))) (lt rfl)) rfl rfl rfl rfl (lt rfl) ?_
          refine sq (f_pick rfl rfl (lt rfl)) rfl rfl ?_
          refine sq (f_move rfl (lt rfl)) rfl rfl ?_
          refine sq_yes (f_move rfl (lt rfl)) rfl rfl rfl rfl (lt rfl) ?_
          refine sq_yes (f_bin rfl rfl (bT (beq_iff_eq.mpr (by omega))) (lt rfl)) rfl rfl rfl rfl (lt rfl) ?_
          refine sq (f_pick rfl rfl (lt rfl)) rfl rfl ?_
          refine hits_nil ?_
          refine to_next ?_
          refine hits_cond rfl (fun c2 => ?_) (fun c2 => absurd c2 Bool.false_ne_true.symm)
          refine hits_region ?_
          refine sq (f_move rfl (lt rfl)) rfl rfl ?_
          refine sq (f_move rfl (lt rfl)) rfl rfl ?_
          refine sq (f_move rfl (lt rfl)) rfl rfl ?_
          refine sq (f_bin rfl rfl (iT (((IntWalk.i64_in _ (by omega)).trans (by omega) : _ = ((v / 16 ^ (k - 1) % 16 + 1 : Nat) : Int)))) (lt rfl)) rfl rfl ?_
          refine sq (f_sliceStr rfl rfl rfl un9 (by omega) (by omega) (by show ((v / 16 ^ (k - 1) % 16 + 1 : Nat) : Int) ≤ 16; omega) (lt rfl)) rfl rfl ?_
          refine sq (f_catI (r := rsk v (k - 1)) rfl rfl (by show (rsk v k).size + (ByteArray.extract _ (v / 16 ^ (k - 1) % 16) (v / 16 ^ (k - 1) % 16 + 1)).size ≤ _; omega) (by show rsk v k ++ ByteArray.extract _ (v / 16 ^ (k - 1) % 16) (v / 16 ^ (k - 1) % 16 + 1) = _; rw [ext_hx _ (by omega)]; exact sk_app hk (.inr (.inr h1))) (lt rfl)) rfl rfl ?_
          refine sq (f_assign rfl (lt rfl)) rfl rfl ?_
          refine hits_nil ?_
          refine in_next ?_
          refine to_next ?_
          refine hits_region ?_
          refine sq (f_move rfl (lt rfl)) rfl rfl ?_
          refine sq (f_bin rfl rfl (iT (((IntWalk.i64_in _ (by omega)) : _ = ((k : Int) - 1) - 1))) (lt rfl)) rfl rfl ?_
          refine sq (f_assign rfl (lt rfl)) rfl rfl ?_
          refine hits_nil ?_
          refine to_next ?_
          exact round_end (k - 1) (by omega) (by omega) ⟨rfl, rfl, congrArg (fun z : Int => some (V.d (.sc (.int .i64 z)))) (by omega), rfl, rfl, rfl, rfl, rfl, trivial⟩ rfl
        · refine hits_region ?_
          refine sq (f_move rfl (lt rfl)) rfl rfl ?_
          refine sq (f_bin rfl rfl (bT (str_ne0 hn)) (lt rfl)) rfl rfl ?_
          refine sq (f_move rfl (lt rfl)) rfl rfl ?_
          refine sq_yes (f_move rfl (lt rfl)) rfl rfl rfl rfl (lt rfl) ?_
          refine sq_yes (f_bin rfl rfl (bT (decide_eq_false (by omega))) (lt rfl)) rfl rfl rfl rfl (lt rfl) ?_
          refine sq (f_pick rfl rfl (lt rfl)) rfl rfl ?_
          refine sq (f_move rfl (lt rfl)) rfl rfl ?_
          refine sq_yes (f_move rfl (lt rfl)) rfl rfl rfl rfl (lt rfl) ?_
          refine sq_yes (f_bin rfl rfl (bT (beq_eq_false_iff_ne.mpr (by omega))) (lt rfl)) rfl rfl rfl rfl (lt rfl) ?_
          refine sq (f_pick rfl rfl (lt rfl)) rfl rfl ?_
          refine hits_nil ?_
          refine to_next ?_
          refine hits_cond rfl (fun c2 => absurd c2 Bool.false_ne_true) (fun c2 => ?_)
          refine hits_skip ?_
          refine in_next ?_
          refine to_next ?_
          refine hits_region ?_
          refine sq (f_move rfl (lt rfl)) rfl rfl ?_
          refine sq (f_bin rfl rfl (iT (((IntWalk.i64_in _ (by omega)) : _ = ((k : Int) - 1) - 1))) (lt rfl)) rfl rfl ?_
          refine sq (f_assign rfl (lt rfl)) rfl rfl ?_
          refine hits_nil ?_
          refine to_next ?_
          exact round_end (k - 1) (by omega) (by omega) ⟨rfl, congrArg (fun z => some (V.d (.sc (.string z)))) (sk_skip hk hz hd h1), congrArg (fun z : Int => some (V.d (.sc (.int .i64 z)))) (by omega), rfl, rfl, rfl, rfl, rfl, trivial⟩ rfl
    · have hn := sk_ne hk hz
      refine hits_region ?_
      refine sq (f_move rfl (lt rfl)) rfl rfl ?_
      refine sq (f_bin rfl rfl (bT (str_ne hn)) (lt rfl)) rfl rfl ?_
      refine sq (f_move rfl (lt rfl)) rfl rfl ?_
      refine sq_no rfl rfl rfl rfl rfl (lt rfl) (lt rfl) ?_
      refine sq_no rfl rfl rfl rfl rfl (lt rfl) (lt rfl) ?_
      refine sq (f_pick rfl rfl (lt rfl)) rfl rfl ?_
      refine sq (f_move rfl (lt rfl)) rfl rfl ?_
      refine sq_no rfl rfl rfl rfl rfl (lt rfl) (lt rfl) ?_
      refine sq_no rfl rfl rfl rfl rfl (lt rfl) (lt rfl) ?_
      refine sq (f_pick rfl rfl (lt rfl)) rfl rfl ?_
      refine hits_nil ?_
      refine to_next ?_
      refine hits_cond rfl (fun c2 => ?_) (fun c2 => absurd c2 Bool.false_ne_true.symm)
      refine hits_region ?_
      refine sq (f_move rfl (lt rfl)) rfl rfl ?_
      refine sq (f_move rfl (lt rfl)) rfl rfl ?_
      refine sq (f_move rfl (lt rfl)) rfl rfl ?_
      refine sq (f_bin rfl rfl (iT (((IntWalk.i64_in _ (by omega)).trans (by omega) : _ = ((v / 16 ^ (k - 1) % 16 + 1 : Nat) : Int)))) (lt rfl)) rfl rfl ?_
      refine sq (f_sliceStr rfl rfl rfl un9 (by omega) (by omega) (by show ((v / 16 ^ (k - 1) % 16 + 1 : Nat) : Int) ≤ 16; omega) (lt rfl)) rfl rfl ?_
      refine sq (f_catI (r := rsk v (k - 1)) rfl rfl (by show (rsk v k).size + (ByteArray.extract _ (v / 16 ^ (k - 1) % 16) (v / 16 ^ (k - 1) % 16 + 1)).size ≤ _; omega) (by show rsk v k ++ ByteArray.extract _ (v / 16 ^ (k - 1) % 16) (v / 16 ^ (k - 1) % 16 + 1) = _; rw [ext_hx _ (by omega)]; exact sk_app hk (.inl hz)) (lt rfl)) rfl rfl ?_
      refine sq (f_assign rfl (lt rfl)) rfl rfl ?_
      refine hits_nil ?_
      refine in_next ?_
      refine to_next ?_
      refine hits_region ?_
      refine sq (f_move rfl (lt rfl)) rfl rfl ?_
      refine sq (f_bin rfl rfl (iT (((IntWalk.i64_in _ (by omega)) : _ = ((k : Int) - 1) - 1))) (lt rfl)) rfl rfl ?_
      refine sq (f_assign rfl (lt rfl)) rfl rfl ?_
      refine hits_nil ?_
      refine to_next ?_
      exact round_end (k - 1) (by omega) (by omega) ⟨rfl, rfl, congrArg (fun z : Int => some (V.d (.sc (.int .i64 z)))) (by omega), rfl, rfl, rfl, rfl, rfl, trivial⟩ rfl
  · obtain rfl : k = 0 := by omega
    refine hits_region ?_
    refine sq (f_move rfl (lt rfl)) rfl rfl ?_
    refine sq (f_bin rfl rfl (bT (decide_eq_false (by omega))) (lt rfl)) rfl rfl ?_
    refine hits_nil ?_
    refine to_next ?_
    refine hits_cond rfl (fun c1 => absurd c1 Bool.false_ne_true) (fun c1 => ?_)
    refine hits_exit ?_
    refine to_exit ?_
    refine to_exit ?_
    refine in_hit rfl ?_
    refine to_next ?_
    refine hits_seq ?_
    refine hits_region ?_
    refine sq (f_fieldAddr rfl kf24_0 rfl (lt rfl)) rfl rfl ?_
    refine sq (f_load kd3 rfl rfl (lt rfl)) rfl rfl ?_
    refine sq (f_call en250 rfl (rdig_c (by omega)) (lt rfl)) rfl rfl ?_
    refine sq (f_cat rfl rfl (by show (decB w).size + 1 ≤ _; omega) (lt rfl)) rfl rfl ?_
    refine sq (f_move rfl (lt rfl)) rfl rfl ?_
    refine sq (f_cat rfl rfl (by show (decB w ++ ⟨#[119]⟩).size + (hexB v).size ≤ _; rw [size_app]; have e1 : (⟨#[119]⟩ : ByteArray).size = 1 := rfl; omega) (lt rfl)) rfl rfl ?_
    refine sq (f_assign rfl (lt rfl)) rfl rfl ?_
    refine sq (f_assign rfl (lt rfl)) rfl rfl ?_
    refine hits_nil ?_
    refine to_next ?_
    refine hits_ret ?_
    exact hits_done (.inl rfl) rfl rfl rfl

set_option maxRecDepth 100000 in
theorem rtext_bad {d : D} (h : CallsP Tryz.prog Lw 28 [d] (.sc (.bool false))) (hd : ∃ y a b : Int, d = .agg [.sc (.int .i64 y), .sc (.int .u64 a), .sc (.int .u64 b)]) : CallsP Tryz.prog Lw 252 [d] (.tup [.sc (.string ⟨#[]⟩), .sc (.int .i64 1)]) := by
  obtain ⟨y, a, b, rfl⟩ := hd
  refine callsP_of gs_lw Tryz.func252 rfl Tryz.ntmps252 rfl fun w0 S0 stab => ?_
  refine hits_seq ?_
  refine hits_region ?_
  refine sq (f_box rfl rfl (lt rfl)) rfl rfl ?_
  refine sq (f_assign rfl (lt rfl)) rfl rfl ?_
  refine sq (f_assign rfl (lt rfl)) rfl rfl ?_
  refine hits_nil ?_
  refine to_next ?_
  refine hits_seq ?_
  refine hits_seq ?_
  refine hits_region ?_
  refine sq (f_load kd24 rfl rfl (lt rfl)) rfl rfl ?_
  refine sq (f_call en28 rfl h (lt rfl)) rfl rfl ?_
  refine sq (f_un rfl rfl (lt rfl)) rfl rfl ?_
  refine hits_nil ?_
  refine to_next ?_
  refine hits_cond rfl (fun c0 => ?_) (fun c0 => absurd c0 Bool.false_ne_true.symm)
  refine hits_seq ?_
  refine hits_region ?_
  refine sq (f_assign rfl (lt rfl)) rfl rfl ?_
  refine sq (f_assign rfl (lt rfl)) rfl rfl ?_
  refine hits_nil ?_
  refine to_next ?_
  refine hits_ret ?_
  refine to_ret ?_
  exact hits_done (.inl rfl) rfl rfl rfl

end Go.Proofs.YtcaedggggkchiaaGreatDoor.Ln
