/- What the laws' 'do' and 'cut' come to, in numbers. No memory in sight. -/
import Derived.Test.YthhlnghpbjmfpaaDoorPTrydDoFns
set_option linter.unusedSimpArgs false
set_option linter.unusedVariables false
namespace Go.Proofs.YthhlnghpbjmfpaaDoor.PTrydFns
open Go.RowKit Go.Proofs.YthhlnghpbjmfpaaDoor.PTryd Go.Proofs.YthhlnghpbjmfpaaDoorW.PrintWords Go.Proofs.YthhlnghpbjmfpaaDoorW.PrintLast Go.Proofs.YthhlnghpbjmfpaaDoorW.PrintMore Go.Proofs.YthhlnghpbjmfpaaDoor.BitsMath

theorem num_is (w : Int) (v : Nat) (hv : v < 2 ^ 64) : pointsmanlaw01_num.f w v = some (w, hiOf v, loOf v) := by
  unfold pointsmanlaw01_num.f hiOf loOf
  rw [Nat.div_eq_of_lt hv, Nat.mod_eq_of_lt hv]; rfl
theorem lt128 {w v : Nat} (h : w ≤ 128) (hv : v < 2 ^ w) : v < 2 ^ 128 := Nat.lt_of_lt_of_le hv (Nat.pow_le_pow_right (by decide) h)
theorem check_ok {w v : Nat} (h0 : 1 ≤ w) (h : w ≤ 128) (hv : v < 2 ^ w) : bits_Check.f w (hiOf v) (loOf v) = some true := by
  rw [check_is w h0 h (lt128 h hv), decide_eq_true hv]
theorem do_al (op : Int) (hA : isAl op = true) {w va vb : Nat} (h0 : 1 ≤ w) (h : w ≤ 128) (ha : va < 2 ^ w) (hb : vb < 2 ^ w) {r1 r2 r3 : Int}
    (h1 : bits_alike.f op w (hiOf va) (loOf va) w (hiOf vb) (loOf vb) = some (r1, r2, r3)) : pointsmanlaw01_do.f op w (hiOf va) (loOf va) w (hiOf vb) (loOf vb) = some (r1, r2, r3) := by
  unfold pointsmanlaw01_do.f bits_Do.f
  rw [if_pos hA, check_ok h0 h hb, Option.bind_some, if_pos rfl, check_ok h0 h ha, Option.bind_some, if_pos rfl, if_pos rfl, h1]
  rfl
theorem do_ot (op : Int) (hA : isAl op = false) (hO : isOt op = true) {w va wb vb : Nat} (h0 : 1 ≤ w) (h : w ≤ 128) (hb0 : 1 ≤ wb) (hwb : wb ≤ 128) (ha : va < 2 ^ w) (hb : vb < 2 ^ wb) {r1 r2 r3 : Int} (hr : r1 ≠ 0)
    (h1 : bits_other.f op w (hiOf va) (loOf va) wb (hiOf vb) (loOf vb) = some (r1, r2, r3)) : pointsmanlaw01_do.f op w (hiOf va) (loOf va) wb (hiOf vb) (loOf vb) = some (r1, r2, r3) := by
  unfold pointsmanlaw01_do.f bits_Do.f
  rw [if_neg (by simp [hA]), if_pos hO, check_ok hb0 hwb hb, Option.bind_some, if_pos rfl, check_ok h0 h ha, Option.bind_some, if_pos rfl, h1, Option.bind_some, if_neg hr]
  rfl
theorem do_add {w va vb : Nat} (h0 : 1 ≤ w) (h : w ≤ 128) (ha : va < 2 ^ w) (hb : vb < 2 ^ w) : pointsmanlaw01_do.f 5 w (hiOf va) (loOf va) w (hiOf vb) (loOf vb) = some ((w : Int), hiOf ((va + vb) % 2 ^ w), loOf ((va + vb) % 2 ^ w)) := by
  refine do_al 5 rfl h0 h ha hb ?_
  unfold bits_alike.f
  simpa using add_is w h (lt128 h ha) (lt128 h hb) w
theorem sub_val {w va vb : Nat} (h0 : 1 ≤ w) (h : w ≤ 128) (ha : va < 2 ^ w) (hb : vb < 2 ^ w) : (va + (2 ^ 128 - vb)) % 2 ^ w = (va + (2 ^ w - vb)) % 2 ^ w := by
  have hp : 2 ^ 128 = 2 ^ w * 2 ^ (128 - w) := by rw [← Nat.pow_add]; congr 1; omega
  obtain ⟨z, hz⟩ : ∃ z, 2 ^ (128 - w) = z + 1 := ⟨2 ^ (128 - w) - 1, by have := Nat.two_pow_pos (128 - w); omega⟩
  rw [hp, hz, show va + (2 ^ w * (z + 1) - vb) = 2 ^ w * z + (va + (2 ^ w - vb)) from by rw [Nat.mul_add]; omega, Nat.mul_add_mod]
theorem do_sub {w va vb : Nat} (h0 : 1 ≤ w) (h : w ≤ 128) (ha : va < 2 ^ w) (hb : vb < 2 ^ w) : pointsmanlaw01_do.f 6 w (hiOf va) (loOf va) w (hiOf vb) (loOf vb) = some ((w : Int), hiOf ((va + (2 ^ w - vb)) % 2 ^ w), loOf ((va + (2 ^ w - vb)) % 2 ^ w)) := by
  refine do_al 6 rfl h0 h ha hb ?_
  unfold bits_alike.f
  rw [← sub_val h0 h ha hb]
  simpa using sub_is w h (lt128 h ha) (lt128 h hb) w
theorem do_mul {w va vb : Nat} (h0 : 1 ≤ w) (h : w ≤ 128) (ha : va < 2 ^ w) (hb : vb < 2 ^ w) : pointsmanlaw01_do.f 7 w (hiOf va) (loOf va) w (hiOf vb) (loOf vb) = some ((w : Int), hiOf ((va * vb) % 2 ^ w), loOf ((va * vb) % 2 ^ w)) := by
  refine do_al 7 rfl h0 h ha hb ?_
  unfold bits_alike.f
  simpa using mul_is w h (lt128 h ha) (lt128 h hb) w
theorem do_and {w va vb : Nat} (h0 : 1 ≤ w) (h : w ≤ 128) (ha : va < 2 ^ w) (hb : vb < 2 ^ w) : pointsmanlaw01_do.f 8 w (hiOf va) (loOf va) w (hiOf vb) (loOf vb) = some ((w : Int), hiOf (va &&& vb), loOf (va &&& vb)) := by
  refine do_al 8 rfl h0 h ha hb ?_
  unfold bits_alike.f
  have e := and_is w h (lt128 h ha) (lt128 h hb) w
  rw [Nat.mod_eq_of_lt (Nat.and_lt_two_pow _ hb)] at e
  simpa using e
theorem do_xor {w va vb : Nat} (h0 : 1 ≤ w) (h : w ≤ 128) (ha : va < 2 ^ w) (hb : vb < 2 ^ w) : pointsmanlaw01_do.f 10 w (hiOf va) (loOf va) w (hiOf vb) (loOf vb) = some ((w : Int), hiOf (va ^^^ vb), loOf (va ^^^ vb)) := by
  refine do_al 10 rfl h0 h ha hb ?_
  unfold bits_alike.f
  have e := xor_is w h (lt128 h ha) (lt128 h hb) w
  rw [Nat.mod_eq_of_lt (Nat.xor_lt_two_pow ha hb)] at e
  simpa using e
theorem do_eq {w va vb : Nat} (h0 : 1 ≤ w) (h : w ≤ 128) (ha : va < 2 ^ w) (hb : vb < 2 ^ w) : pointsmanlaw01_do.f 17 w (hiOf va) (loOf va) w (hiOf vb) (loOf vb) = some (1, hiOf (decide (va = vb)).toNat, loOf (decide (va = vb)).toNat) := by
  refine do_al 17 rfl h0 h ha hb ?_
  unfold bits_alike.f
  simpa using eq_is w w va vb rfl
theorem do_ne {w va vb : Nat} (h0 : 1 ≤ w) (h : w ≤ 128) (ha : va < 2 ^ w) (hb : vb < 2 ^ w) : pointsmanlaw01_do.f 18 w (hiOf va) (loOf va) w (hiOf vb) (loOf vb) = some (1, hiOf (!decide (va = vb)).toNat, loOf (!decide (va = vb)).toNat) := by
  refine do_al 18 rfl h0 h ha hb ?_
  unfold bits_alike.f
  simpa using ne_is w w va vb rfl
theorem do_lt {w va vb : Nat} (h0 : 1 ≤ w) (h : w ≤ 128) (ha : va < 2 ^ w) (hb : vb < 2 ^ w) : pointsmanlaw01_do.f 19 w (hiOf va) (loOf va) w (hiOf vb) (loOf vb) = some (1, hiOf (decide (va < vb)).toNat, loOf (decide (va < vb)).toNat) := by
  refine do_al 19 rfl h0 h ha hb ?_
  unfold bits_alike.f
  simpa using lt_is w w (lt128 h ha) (lt128 h hb)
theorem do_le {w va vb : Nat} (h0 : 1 ≤ w) (h : w ≤ 128) (ha : va < 2 ^ w) (hb : vb < 2 ^ w) : pointsmanlaw01_do.f 20 w (hiOf va) (loOf va) w (hiOf vb) (loOf vb) = some (1, hiOf (!decide (vb < va)).toNat, loOf (!decide (vb < va)).toNat) := by
  refine do_al 20 rfl h0 h ha hb ?_
  unfold bits_alike.f
  simpa using le_is w w (lt128 h ha) (lt128 h hb)
theorem not_val {w va : Nat} (h0 : 1 ≤ w) (h : w ≤ 128) (ha : va < 2 ^ w) : (2 ^ 128 - 1 - va) % 2 ^ w = 2 ^ w - 1 - va := by
  have hp : 2 ^ 128 = 2 ^ w * 2 ^ (128 - w) := by rw [← Nat.pow_add]; congr 1; omega
  obtain ⟨z, hz⟩ : ∃ z, 2 ^ (128 - w) = z + 1 := ⟨2 ^ (128 - w) - 1, by have := Nat.two_pow_pos (128 - w); omega⟩
  rw [hp, hz, show 2 ^ w * (z + 1) - 1 - va = 2 ^ w * z + (2 ^ w - 1 - va) from by rw [Nat.mul_add]; omega, Nat.mul_add_mod, Nat.mod_eq_of_lt (by omega)]
theorem do_not {w va : Nat} (h0 : 1 ≤ w) (h : w ≤ 128) (ha : va < 2 ^ w) (b0 b1 b2 : Int) : pointsmanlaw01_do.f 11 w (hiOf va) (loOf va) b0 b1 b2 = some ((w : Int), hiOf (2 ^ w - 1 - va), loOf (2 ^ w - 1 - va)) := by
  unfold pointsmanlaw01_do.f bits_Do.f
  rw [if_neg (by decide), if_neg (by decide), check_ok h0 h ha, Option.bind_some, if_pos rfl, if_pos rfl, not_is w h (lt128 h ha), not_val h0 h ha]
  rfl
theorem do_shl {w va : Nat} (h0 : 1 ≤ w) (h : w ≤ 128) (ha : va < 2 ^ w) {wb vb : Nat} (hb0 : 1 ≤ wb) (hwb : wb ≤ 128) (hb : vb < 2 ^ wb) : pointsmanlaw01_do.f 12 w (hiOf va) (loOf va) wb (hiOf vb) (loOf vb) = some ((w : Int), hiOf ((va * 2 ^ min vb 128) % 2 ^ w), loOf ((va * 2 ^ min vb 128) % 2 ^ w)) := by
  refine do_ot 12 rfl rfl h0 h hb0 hwb ha hb (by omega) ?_
  unfold bits_other.f
  rw [if_pos rfl]
  unfold bits_others_1.f
  rw [by_is _ (lt128 hwb hb), Option.bind_some, up_is w h (lt128 h ha) _ (by omega)]
  rfl
theorem do_shr {w va : Nat} (h0 : 1 ≤ w) (h : w ≤ 128) (ha : va < 2 ^ w) {wb vb : Nat} (hb0 : 1 ≤ wb) (hwb : wb ≤ 128) (hb : vb < 2 ^ wb) : pointsmanlaw01_do.f 13 w (hiOf va) (loOf va) wb (hiOf vb) (loOf vb) = some ((w : Int), hiOf (va / 2 ^ min vb 128), loOf (va / 2 ^ min vb 128)) := by
  refine do_ot 13 rfl rfl h0 h hb0 hwb ha hb (by omega) ?_
  unfold bits_other.f
  rw [if_neg (by decide), if_pos rfl]
  unfold bits_others_2.f
  rw [by_is _ (lt128 hwb hb), Option.bind_some, down_is w h (lt128 h ha) _ (by omega), Nat.mod_eq_of_lt (Nat.lt_of_le_of_lt (Nat.div_le_self _ _) ha)]
  rfl
theorem cut_to {w va : Nat} (h0 : 1 ≤ w) (h : w ≤ 128) (ha : va < 2 ^ w) (n m : Nat) (hm : m ≤ n) (hn : n < w) : pointsmanlaw01_cut.f w (hiOf va) (loOf va) n m = some (((n - m + 1 : Nat) : Int), hiOf (va / 2 ^ m % 2 ^ (n - m + 1)), loOf (va / 2 ^ m % 2 ^ (n - m + 1))) := by
  have e2 : wrap64 (wrap64 ((n : Int) - m) + 1) = ((n - m + 1 : Nat) : Int) := by unfold wrap64; omega
  have e3 : IntKind.u64.wrap (m : Int) = m := by rw [wrap_u64]; omega
  have hd := down_is w h (lt128 h ha) m (by omega)
  have hlt : va / 2 ^ m < 2 ^ w := Nat.lt_of_le_of_lt (Nat.div_le_self _ _) ha
  rw [Nat.mod_eq_of_lt hlt] at hd
  unfold pointsmanlaw01_cut.f bits_Do.f
  rw [if_neg (by decide), if_neg (by decide), check_ok h0 h ha, Option.bind_some, if_pos rfl, if_neg (by decide), if_pos rfl, if_pos (by omega), e3, hd, Option.bind_some, e2]
  simp only
  rw [cut_is (n - m + 1) (by omega) (lt128 h hlt)]
  rfl
theorem cast_to {w va : Nat} (h0 : 1 ≤ w) (h : w ≤ 128) (ha : va < 2 ^ w) (n : Nat) (hn0 : 1 ≤ n) (hn : n ≤ 128) (b0 b1 b2 m : Int) : bits_Do.f 16 w (hiOf va) (loOf va) b0 b1 b2 n m = some ((n : Int), hiOf (va % 2 ^ n), loOf (va % 2 ^ n), 0) := by
  unfold bits_Do.f
  rw [if_neg (by decide), if_neg (by decide), check_ok h0 h ha, Option.bind_some, if_pos rfl, if_neg (by decide), if_neg (by decide), if_pos rfl, of_is n hn0 hn (lt128 h ha)]
theorem hi_or {a b : Nat} (ha : a < 2 ^ 128) (hb : b < 2 ^ 128) : Go.bits .or .u64 (hiOf a) (hiOf b) = hiOf (a ||| b) := by unfold hiOf; rw [or_nat (hi_lt ha) (hi_lt hb), Nat.or_div_two_pow]
theorem lo_or (a b : Nat) : Go.bits .or .u64 (loOf a) (loOf b) = loOf (a ||| b) := by unfold loOf; rw [or_nat (lo_lt a) (lo_lt b), Nat.or_mod_two_pow]
theorem wsum {w wb : Nat} (h : w ≤ 128) (hwb : wb ≤ 128) : wrap64 ((w : Int) + wb) = ((w + wb : Nat) : Int) := by unfold wrap64; omega
theorem cat_lt {w wb va vb : Nat} (ha : va < 2 ^ w) (hb : vb < 2 ^ wb) : vb + 2 ^ wb * va < 2 ^ (w + wb) := by
  have hm : va * 2 ^ wb + 2 ^ wb ≤ 2 ^ (w + wb) := by
    rw [Nat.pow_add, ← Nat.succ_mul]
    exact Nat.mul_le_mul_right _ ha
  rw [Nat.mul_comm]; omega
theorem do_cat {w wb va vb : Nat} (h0 : 1 ≤ w) (hb0 : 1 ≤ wb) (hs : w + wb ≤ 128) (ha : va < 2 ^ w) (hb : vb < 2 ^ wb) :
    pointsmanlaw01_do.f 14 w (hiOf va) (loOf va) wb (hiOf vb) (loOf vb) = some (((w + wb : Nat) : Int), hiOf (vb + 2 ^ wb * va), loOf (vb + 2 ^ wb * va)) := by
  refine do_ot 14 rfl rfl h0 (by omega) hb0 (by omega) ha hb (by omega) ?_
  have ha1 := lt128 (by omega : w ≤ 128) ha
  have hb1 := lt128 (by omega : wb ≤ 128) hb
  have hlt := cat_lt ha hb
  have hp : 2 ^ (w + wb) ≤ 2 ^ 128 := Nat.pow_le_pow_right (by decide) hs
  have ho : va * 2 ^ wb ||| vb = vb + 2 ^ wb * va := by rw [Nat.mul_comm, ← Nat.two_pow_add_eq_or_of_lt hb, Nat.add_comm]
  unfold bits_other.f
  rw [if_neg (by decide), if_neg (by decide), if_pos rfl]
  unfold bits_others_3.f
  have hup := up_is 128 (by decide) ha1 wb (by omega)
  rw [Nat.mod_eq_of_lt (by rw [Nat.mul_comm]; omega)] at hup
  rw [wsum (by omega) (by omega), if_neg (by omega), show IntKind.u64.wrap (wb : Int) = wb from by rw [wrap_u64]; omega, show (128 : Int) = ((128 : Nat) : Int) from rfl, hup, Option.bind_some]
  simp only
  rw [hi_or (by rw [Nat.mul_comm]; omega) hb1, lo_or, ho, cut_is (w + wb) hs (by omega), Nat.mod_eq_of_lt hlt]
  rfl
theorem check_c (a0 : Int) {v : Nat} (hv : v < 2 ^ 128) : ∃ c, bits_Check.f a0 (hiOf v) (loOf v) = some c ∧ (c = true → ∃ w : Nat, a0 = w ∧ 1 ≤ w ∧ w ≤ 128 ∧ v < 2 ^ w) := by
  by_cases h : 1 ≤ a0 ∧ a0 ≤ 128
  · obtain ⟨w, rfl⟩ := Int.eq_ofNat_of_zero_le (show 0 ≤ a0 by omega)
    exact ⟨_, check_is w (by omega) (by omega) hv, fun hc => ⟨w, rfl, by omega, by omega, of_decide_eq_true hc⟩⟩
  · exact ⟨false, check_not a0 _ _ h, fun hc => by cases hc⟩
end Go.Proofs.YthhlnghpbjmfpaaDoor.PTrydFns
