/- Do in the program and in the reference: the same, whatever the op and the numbers. No memory in sight. -/
import Derived.Test.YthhlnghpbjmfpaaPTryDoRef
set_option linter.unusedSimpArgs false
set_option linter.unusedVariables false
namespace Go.Proofs.Ythhlnghpbjmfpaa.PTryFns
open Go.RowKit Go.Proofs.Ythhlnghpbjmfpaa.PTry Go.Proofs.YthhlnghpbjmfpaaW.PrintWords Go.Proofs.YthhlnghpbjmfpaaW.PrintLast Go.Proofs.YthhlnghpbjmfpaaW.PrintMore Go.Proofs.Ythhlnghpbjmfpaa.BitsMath

theorem check_any (a0 : Int) {v : Nat} (hv : v < 2 ^ 128) : ∃ c, bits_Check.f a0 (hiOf v) (loOf v) = some c ∧ pointsmanref01_Check.f 1000 a0 (hiOf v) (loOf v) = some c ∧ (c = true → ∃ w : Nat, a0 = w ∧ 1 ≤ w ∧ w ≤ 128 ∧ v < 2 ^ w) := by
  by_cases h : 1 ≤ a0 ∧ a0 ≤ 128
  · obtain ⟨w, rfl⟩ := Int.eq_ofNat_of_zero_le (show 0 ≤ a0 by omega)
    exact ⟨_, check_is w (by omega) (by omega) hv, refCheck_is w (by omega) (by omega) hv 1000 (by decide), fun hc => ⟨w, rfl, by omega, by omega, of_decide_eq_true hc⟩⟩
  · exact ⟨false, check_not a0 _ _ h, refCheck_not a0 _ _ 1000 (by decide) h, fun hc => by cases hc⟩
theorem bits_any (b0 : Int) {v : Nat} (hv : v < 2 ^ 128) : ∃ l, pointsmanref01_Bits.f 1000 b0 (hiOf v) (loOf v) = some l := by
  by_cases h : 0 ≤ b0
  · obtain ⟨w, rfl⟩ := Int.eq_ofNat_of_zero_le h
    exact ⟨_, bits_is w hv 1000 (by decide)⟩
  · refine ⟨[], ?_⟩
    unfold pointsmanref01_Bits.f
    rw [pointsmanref01_Bits.l0, if_neg (by omega), pointsmanref01_Bits.j1, if_neg (by decide)]
theorem two_al (op : Int) (h : isAl op = true) : pointsmanref01_two.f 1000 op = some (true, true) := by
  simp [isAl] at h
  unfold pointsmanref01_two.f
  rcases h with (((((((((rfl | rfl) | rfl) | rfl) | rfl) | rfl) | rfl) | rfl) | rfl) | rfl) <;> simp [pointsmanref01_two.j0]
theorem two_ot (op : Int) (h : isOt op = true) : pointsmanref01_two.f 1000 op = some (true, false) := by
  simp [isOt] at h
  unfold pointsmanref01_two.f
  rcases h with ((((rfl | rfl) | rfl) | rfl) | rfl) <;> simp [pointsmanref01_two.j0]
theorem two_no (op : Int) (h : isAl op = false) (h2 : isOt op = false) : pointsmanref01_two.f 1000 op = some (false, false) := by
  simp [isAl] at h
  simp [isOt] at h2
  unfold pointsmanref01_two.f
  simp [pointsmanref01_two.j0, h, h2]
theorem number_of (l : List Bool) (hl : l.length ≤ 128) : pointsmanref01_Do_h_nu 1000 l = some ((l.length : Int), hiOf (natL l), loOf (natL l), 0) := by
  unfold pointsmanref01_Do_h_nu
  rw [number_is l hl 1000 (by decide), Option.bind_some]
theorem bl_is {w v : Nat} (h : w ≤ 128) (hv : v < 2 ^ w) : v < 2 ^ 128 ∧ pointsmanref01_Bits.f 1000 w (hiOf v) (loOf v) = some (bl w v) ∧ (bl w v).length = w ∧ natL (bl w v) = v := by
  have h1 : v < 2 ^ 128 := Nat.lt_of_lt_of_le hv (Nat.pow_le_pow_right (by decide) h)
  refine ⟨h1, ?_, bl_length w v, by rw [natL_bl, Nat.mod_eq_of_lt hv]⟩
  rw [bits_is w h1 1000 (by decide), Nat.min_eq_left h]

/-! ### of two numbers as wide as one another -/
theorem al_val (op : Int) (hA : isAl op = true) {w va vb : Nat} (h0 : 1 ≤ w) (h : w ≤ 128) (ha : va < 2 ^ w) (hb : vb < 2 ^ w) :
    ∃ (u X : Nat) (lr : List Bool), bits_alike.f op w (hiOf va) (loOf va) w (hiOf vb) (loOf vb) = some ((u : Int), hiOf X, loOf X) ∧
      pointsmanref01_Do_h_op 1000 op w (hiOf va) (loOf va) w (hiOf vb) (loOf vb) (bl w va) (bl w vb) = some lr ∧ lr.length = u ∧ u ≤ 128 ∧ natL lr = X := by
  obtain ⟨ha1, _, la1, na⟩ := bl_is h ha
  obtain ⟨hb1, _, lb1, nb⟩ := bl_is h hb
  have hlen : (bl w va).length = (bl w vb).length := by rw [la1, lb1]
  simp [isAl] at hA
  unfold bits_alike.f pointsmanref01_Do_h_op
  rcases hA with (((((((((rfl | rfl) | rfl) | rfl) | rfl) | rfl) | rfl) | rfl) | rfl) | rfl)
  · obtain ⟨r, h1, h2, h3⟩ := radd_is (bl w va) (bl w vb) hlen (by omega) false 1000 (by decide)
    refine ⟨w, (va + vb) % 2 ^ w, r, by simpa using add_is w h ha1 hb1 w, by simpa using h1, by omega, h, ?_⟩
    rw [h3, na, nb, la1]; simp
  · obtain ⟨q, g1, g2, g3⟩ := rnot_is (bl w vb) (by omega) 1000 (by decide)
    obtain ⟨r, h1, h2, h3⟩ := radd_is (bl w va) q (by omega) (by omega) true 1000 (by decide)
    refine ⟨w, (va + (2 ^ 128 - vb)) % 2 ^ w, r, by simpa using sub_is w h ha1 hb1 w, by simp [g1, h1], by omega, h, ?_⟩
    rw [h3, na, g3, nb, la1, lb1]
    have hp : 2 ^ 128 = 2 ^ w * 2 ^ (128 - w) := by rw [← Nat.pow_add]; congr 1; omega
    have hq := Nat.two_pow_pos (128 - w)
    obtain ⟨z, hz⟩ : ∃ z, 2 ^ (128 - w) = z + 1 := ⟨2 ^ (128 - w) - 1, by omega⟩
    rw [hp, hz, show va + (2 ^ w * (z + 1) - vb) = 2 ^ w * z + (va + (2 ^ w - vb)) from by rw [Nat.mul_add]; omega, Nat.mul_add_mod]
    congr 1
    simp; omega
  · obtain ⟨r, h1, h2, h3⟩ := rmul_is (bl w va) (bl w vb) hlen (by omega) 1000 (by decide)
    refine ⟨w, (va * vb) % 2 ^ w, r, by simpa using mul_is w h ha1 hb1 w, by simpa using h1, by omega, h, ?_⟩
    rw [h3, na, nb, la1]
  · obtain ⟨r, h1, h2, h3⟩ := reach_is 8 (bl w va) (bl w vb) hlen (by omega) 1000 (by decide)
    refine ⟨w, (va &&& vb) % 2 ^ w, r, by simpa using and_is w h ha1 hb1 w, by simpa using h1, by omega, h, ?_⟩
    rw [h3, na, nb, Nat.mod_eq_of_lt (Nat.and_lt_two_pow _ hb)]; rfl
  · obtain ⟨r, h1, h2, h3⟩ := reach_is 9 (bl w va) (bl w vb) hlen (by omega) 1000 (by decide)
    refine ⟨w, (va ||| vb) % 2 ^ w, r, by simpa using or_is w h ha1 hb1 w, by simpa using h1, by omega, h, ?_⟩
    rw [h3, na, nb, Nat.mod_eq_of_lt (Nat.or_lt_two_pow ha hb)]; rfl
  · obtain ⟨r, h1, h2, h3⟩ := reach_is 10 (bl w va) (bl w vb) hlen (by omega) 1000 (by decide)
    refine ⟨w, (va ^^^ vb) % 2 ^ w, r, by simpa using xor_is w h ha1 hb1 w, by simpa using h1, by omega, h, ?_⟩
    rw [h3, na, nb, Nat.mod_eq_of_lt (Nat.xor_lt_two_pow ha hb)]; rfl
  · refine ⟨1, _, [decide (va = vb)], by simpa using eq_is w w va vb rfl, ?_, rfl, by decide, by rw [natL_one]⟩
    rw [words_eq]; simp [rone_is]
  · refine ⟨1, _, [!decide (va = vb)], by simpa using ne_is w w va vb rfl, ?_, rfl, by decide, by rw [natL_one]⟩
    rw [← Bool.not_and, words_eq]; simp [rone_is]
  · refine ⟨1, _, [decide (va < vb)], by simpa using lt_is w w ha1 hb1, ?_, rfl, by decide, by rw [natL_one]⟩
    rw [rbelow_is _ _ hlen (by omega) 1000 (by decide), na, nb]; simp [rone_is]
  · refine ⟨1, _, [!decide (vb < va)], by simpa using le_is w w ha1 hb1, ?_, rfl, by decide, by rw [natL_one]⟩
    rw [rbelow_is _ _ hlen.symm (by omega) 1000 (by decide), na, nb]; simp [rone_is]

/-! ### of two numbers, each as wide as it is -/
theorem shift_out {w s : Nat} (v : Nat) (h : w ≤ s) : v * 2 ^ s % 2 ^ w = 0 := by
  rw [show s = w + (s - w) from by omega, Nat.pow_add, Nat.mul_left_comm, Nat.mul_mod_right]
theorem ot_move (op : Int) (hO : op = 12 ∨ op = 13) {w wb va vb : Nat} (h0 : 1 ≤ w) (h : w ≤ 128) (hb0 : 1 ≤ wb) (hwb : wb ≤ 128) (ha : va < 2 ^ w) (hb : vb < 2 ^ wb) :
    ∃ (X : Nat) (lr : List Bool), bits_other.f op w (hiOf va) (loOf va) wb (hiOf vb) (loOf vb) = some ((w : Int), hiOf X, loOf X) ∧ pointsmanref01_Do_h_ot 1000 op (bl w va) (bl wb vb) = some lr ∧ lr.length = w ∧ natL lr = X := by
  obtain ⟨ha1, _, la1, na⟩ := bl_is h ha
  obtain ⟨hb1, _, lb1, nb⟩ := bl_is hwb hb
  have hv := rvalue_is (bl wb vb) (by omega) 1000 (by decide)
  rw [nb] at hv
  unfold bits_other.f pointsmanref01_Do_h_ot
  rcases hO with rfl | rfl
  · obtain ⟨r, g1, g2, g3⟩ := rup_is (bl w va) (by omega) ((min vb 1000 : Nat) : Int) (by omega) (by omega) 1000 (by decide)
    refine ⟨(va * 2 ^ min vb 128) % 2 ^ w, r, ?_, by simp [hv, g1], by omega, ?_⟩
    · rw [if_pos rfl]
      unfold bits_others_1.f
      rw [by_is _ hb1, Option.bind_some, up_is w h ha1 _ (by omega)]
      rfl
    · rw [g3, if_pos (by omega), na, la1, Int.toNat_natCast]
      rcases Nat.le_total vb 128 with hc | hc
      · rw [Nat.min_eq_left hc, Nat.min_eq_left (by omega)]
      · rw [shift_out va (by omega), shift_out va (by omega)]
  · have hwn : wrap64 (-((min vb 1000 : Nat) : Int)) = -((min vb 1000 : Nat) : Int) := by unfold wrap64; omega
    obtain ⟨r, g1, g2, g3⟩ := rup_is (bl w va) (by omega) (-((min vb 1000 : Nat) : Int)) (by omega) (by omega) 1000 (by decide)
    refine ⟨(va / 2 ^ min vb 128) % 2 ^ w, r, ?_, by rw [if_neg (by decide), if_pos rfl, hv, Option.bind_some, hwn, g1], by omega, ?_⟩
    · rw [if_neg (by decide), if_pos rfl]
      unfold bits_others_2.f
      rw [by_is _ hb1, Option.bind_some, down_is w h ha1 _ (by omega)]
      rfl
    · have hd : ∀ s, va / 2 ^ s % 2 ^ w = va / 2 ^ s := fun s => Nat.mod_eq_of_lt (Nat.lt_of_le_of_lt (Nat.div_le_self _ _) ha)
      have hz : ∀ s, 128 ≤ s → va / 2 ^ s = 0 := fun s hs => Nat.div_eq_of_lt (Nat.lt_of_lt_of_le ha1 (Nat.pow_le_pow_right (by decide) hs))
      rw [hd, g3, na, la1]
      rcases Nat.eq_zero_or_pos vb with hc | hc
      · subst hc
        simp
        exact Nat.mod_eq_of_lt ha
      · rw [if_neg (by omega), Int.neg_neg, Int.toNat_natCast]
        rcases Nat.le_total vb 128 with hc | hc
        · rw [Nat.min_eq_left hc, Nat.min_eq_left (by omega)]
        · rw [hz _ (by omega), hz _ (by omega)]
theorem hi_or {a b : Nat} (ha : a < 2 ^ 128) (hb : b < 2 ^ 128) : Go.bits .or .u64 (hiOf a) (hiOf b) = hiOf (a ||| b) := by unfold hiOf; rw [or_nat (hi_lt ha) (hi_lt hb), Nat.or_div_two_pow]
theorem lo_or (a b : Nat) : Go.bits .or .u64 (loOf a) (loOf b) = loOf (a ||| b) := by unfold loOf; rw [or_nat (lo_lt a) (lo_lt b), Nat.or_mod_two_pow]
theorem wsum {w wb : Nat} (h : w ≤ 128) (hwb : wb ≤ 128) : wrap64 ((w : Int) + wb) = ((w + wb : Nat) : Int) := by unfold wrap64; omega
theorem cat_is {w wb va vb : Nat} (hs : w + wb ≤ 128) (ha : va < 2 ^ w) (hb : vb < 2 ^ wb) (h0 : 1 ≤ w) :
    bits_other.f 14 w (hiOf va) (loOf va) wb (hiOf vb) (loOf vb) = some (((w + wb : Nat) : Int), hiOf (vb + 2 ^ wb * va), loOf (vb + 2 ^ wb * va)) ∧ vb + 2 ^ wb * va < 2 ^ (w + wb) := by
  obtain ⟨ha1, _⟩ := bl_is (by omega : w ≤ 128) ha
  obtain ⟨hb1, _⟩ := bl_is (by omega : wb ≤ 128) hb
  have hm : va * 2 ^ wb + 2 ^ wb ≤ 2 ^ (w + wb) := by
    rw [Nat.pow_add, ← Nat.succ_mul]
    exact Nat.mul_le_mul_right _ ha
  have hp : 2 ^ (w + wb) ≤ 2 ^ 128 := Nat.pow_le_pow_right (by decide) hs
  have ho : va * 2 ^ wb ||| vb = vb + 2 ^ wb * va := by rw [Nat.mul_comm, ← Nat.two_pow_add_eq_or_of_lt hb, Nat.add_comm]
  have hlt : vb + 2 ^ wb * va < 2 ^ (w + wb) := by rw [Nat.mul_comm]; omega
  refine ⟨?_, hlt⟩
  unfold bits_other.f
  rw [if_neg (by decide), if_neg (by decide), if_pos rfl]
  unfold bits_others_3.f
  have hup := up_is 128 (by decide) ha1 wb (by omega)
  rw [Nat.mod_eq_of_lt (by omega)] at hup
  rw [wsum (by omega) (by omega), if_neg (by omega), show IntKind.u64.wrap (wb : Int) = wb from by rw [wrap_u64]; omega, show (128 : Int) = ((128 : Nat) : Int) from rfl, hup, Option.bind_some]
  simp only
  rw [hi_or (by omega) hb1, lo_or, ho, cut_is (w + wb) hs (by omega), Nat.mod_eq_of_lt hlt]
  rfl
theorem ot_bits (op : Int) (hO : op = 21 ∨ op = 22) {va vb : Nat} (ha : va < 2 ^ 1) (hb : vb < 2 ^ 1) :
    ∃ (X : Nat) (lr : List Bool), bits_other.f op 1 (hiOf va) (loOf va) 1 (hiOf vb) (loOf vb) = some (1, hiOf X, loOf X) ∧ pointsmanref01_Do_h_bo op (bl 1 va) (bl 1 vb) = some lr ∧ lr.length = 1 ∧ natL lr = X := by
  have h1 : va = 0 ∨ va = 1 := by omega
  have h2 : vb = 0 ∨ vb = 1 := by omega
  rcases hO with rfl | rfl <;> rcases h1 with rfl | rfl <;> rcases h2 with rfl | rfl
  all_goals
    refine ⟨_, _, ?_, rfl, rfl, rfl⟩
    decide +kernel
theorem ot_bits_not (op : Int) (hO : op = 21 ∨ op = 22) (a0 a1 a2 b0 b1 b2 : Int) (h : ¬ (a0 = 1 ∧ b0 = 1)) : bits_other.f op a0 a1 a2 b0 b1 b2 = some (0, 0, 0) := by
  unfold bits_other.f
  rcases hO with rfl | rfl
  · rw [if_neg (by decide), if_neg (by decide), if_neg (by decide), if_pos rfl]
    unfold bits_others_4.f
    by_cases c : a0 = 1
    · rw [if_pos c, if_neg (fun e => h ⟨c, e⟩)]; rfl
    · rw [if_neg c]; rfl
  · rw [if_neg (by decide), if_neg (by decide), if_neg (by decide), if_neg (by decide), if_pos rfl]
    unfold bits_others_5.f
    by_cases c : a0 = 1
    · rw [if_pos c, if_neg (fun e => h ⟨c, e⟩)]; rfl
    · rw [if_neg c]; rfl

/-! ### of one number -/
theorem not_val {w va : Nat} (h : w ≤ 128) (ha : va < 2 ^ w) : (2 ^ 128 - 1 - va) % 2 ^ w = 2 ^ w - 1 - va := by
  have hp : 2 ^ 128 = 2 ^ w * 2 ^ (128 - w) := by rw [← Nat.pow_add]; congr 1; omega
  obtain ⟨z, hz⟩ : ∃ z, 2 ^ (128 - w) = z + 1 := ⟨2 ^ (128 - w) - 1, by have := Nat.two_pow_pos (128 - w); omega⟩
  rw [hp, hz, show 2 ^ w * (z + 1) - 1 - va = 2 ^ w * z + (2 ^ w - 1 - va) from by rw [Nat.mul_add]; omega, Nat.mul_add_mod, Nat.mod_eq_of_lt (by omega)]
theorem slice_val (l : List Bool) (n m : Nat) (hm : m ≤ n) (hn : n < l.length) : ((l.take (n + 1)).drop m).length = n - m + 1 ∧ natL ((l.take (n + 1)).drop m) = natL l / 2 ^ m % 2 ^ (n - m + 1) := by
  refine ⟨by simp; omega, Nat.eq_of_testBit_eq fun i => ?_⟩
  rw [natL_bit, Nat.testBit_mod_two_pow, Nat.testBit_div_two_pow, natL_bit]
  by_cases hi : i < n - m + 1
  · simp only [List.getD_eq_getElem?_getD, List.getElem?_drop, List.getElem?_take, hi, decide_true, Bool.true_and]
    rw [if_pos (by omega), Nat.add_comm]
  · rw [getD_none _ _ (by simp; omega)]
    simp [hi]
theorem natL_false (l : List Bool) : natL (l ++ [false]) = natL l := by rw [natL_snoc]; simp
theorem natL_take (l : List Bool) (n : Nat) (hn : n ≤ l.length) : natL (l.take n) = natL l % 2 ^ n := by
  refine Nat.eq_of_testBit_eq fun i => ?_
  rw [natL_bit, Nat.testBit_mod_two_pow, natL_bit]
  by_cases hi : i < n
  · simp [List.getD_eq_getElem?_getD, List.getElem?_take, hi]
  · rw [getD_none _ _ (by simp; omega)]; simp [hi]
theorem cast_l (n : Nat) (hn : n ≤ 128) (d : Nat) : ∀ (k : Nat) (l : List Bool), n - l.length = d → l.length ≤ 128 → d + 200 < k → pointsmanref01_Do_o16.l0 k n l = some ((n : Int), hiOf (natL l % 2 ^ n), loOf (natL l % 2 ^ n), 0) := by
  induction d with
  | zero =>
    intro k l hd hl hk
    obtain ⟨k, rfl⟩ : ∃ m, k = m + 1 := ⟨k - 1, by omega⟩
    rw [pointsmanref01_Do_o16.l0, if_neg (by omega), if_pos (by omega), if_pos (by omega), Int.toNat_natCast, number_is _ (by simp; omega) k (by omega), Option.bind_some, natL_take l n (by omega), List.length_take, Nat.min_eq_left (by omega)]
  | succ d ih =>
    intro k l hd hl hk
    obtain ⟨k, rfl⟩ : ∃ m, k = m + 1 := ⟨k - 1, by omega⟩
    rw [pointsmanref01_Do_o16.l0, if_pos (by omega), if_pos (by omega), ih k _ (by simp; omega) (by simp; omega) (by omega), natL_false]
theorem bits_is' {w v : Nat} (h : w ≤ 128) (hv : v < 2 ^ w) (k : Nat) (hk : 300 < k) : pointsmanref01_Bits.f k w (hiOf v) (loOf v) = some (bl w v) := by
  have h1 : v < 2 ^ 128 := Nat.lt_of_lt_of_le hv (Nat.pow_le_pow_right (by decide) h)
  rw [bits_is w h1 k hk, Nat.min_eq_left h]
theorem bits_any' (b0 : Int) {v : Nat} (hv : v < 2 ^ 128) (k : Nat) (hk : 300 < k) : ∃ l, pointsmanref01_Bits.f k b0 (hiOf v) (loOf v) = some l := by
  by_cases h : 0 ≤ b0
  · obtain ⟨w, rfl⟩ := Int.eq_ofNat_of_zero_le h
    exact ⟨_, bits_is w hv k hk⟩
  · obtain ⟨k, rfl⟩ : ∃ m, k = m + 2 := ⟨k - 2, by omega⟩
    refine ⟨[], ?_⟩
    unfold pointsmanref01_Bits.f
    rw [pointsmanref01_Bits.l0, if_neg (by omega), pointsmanref01_Bits.j1, if_neg (by decide)]
end Go.Proofs.Ythhlnghpbjmfpaa.PTryFns
