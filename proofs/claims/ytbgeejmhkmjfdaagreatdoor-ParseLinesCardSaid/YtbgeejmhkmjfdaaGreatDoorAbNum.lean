/- Numbers of so many bits, over data. -/
import Derived.Test.YtbgeejmhkmjfdaaGreatDoorAbEq
import Derived.Test.YtbgeejmhkmjfdaaGreatDoorProg
import Derived.Laws.BitsLemmas
namespace Go.Proofs.YtbgeejmhkmjfdaaGreatDoor.Ln
open Go Go.RowKit Go.Ab Go.Proofs 
set_option linter.unusedVariables false
set_option linter.unusedSimpArgs false
theorem zc35 : zc Tryz.prog 35 = some [.int .i64 0, .int .u64 0, .int .u64 0] := by kernel_rfl
theorem bu35 : bk Tryz.prog 35 = some ([(0, 1), (1, 1), (2, 1)], [.int .i64 0, .int .u64 0, .int .u64 0]) := by kernel_rfl
theorem kd35 : kd Tryz.prog 35 = some (true, 3) := by kernel_rfl
theorem eqg35 : Tryz.prog.eqGuardType Tryz.prog.depth 35 = false := by kernel_rfl
theorem ev35 (a0 b0 : Int) (a1 b1 : Int) (a2 b2 : Int) : eqV Tryz.prog 6 35 (.agg ⟨[.int .i64 a0, .int .u64 a1, .int .u64 a2]⟩) (.agg ⟨[.int .i64 b0, .int .u64 b1, .int .u64 b2]⟩) = some ((a0 == b0) && ((a1 == b1) && ((a2 == b2) && true))) := by kernel_rfl
theorem en60 : enters Tryz.prog 60 = true := by kernel_rfl
theorem en61 : enters Tryz.prog 61 = true := by kernel_rfl
theorem kf35_0 : kf Tryz.prog 35 0 = some 0 := by kernel_rfl
theorem kd3 : kd Tryz.prog 3 = some (false, 1) := by kernel_rfl
theorem kf35_1 : kf Tryz.prog 35 1 = some 1 := by kernel_rfl
theorem kd33 : kd Tryz.prog 33 = some (false, 1) := by kernel_rfl
theorem kf35_2 : kf Tryz.prog 35 2 = some 2 := by kernel_rfl
theorem mixed : Tryz.prog.follows .mixedOrders = true := by kernel_rfl
theorem wrap_u64 (n : Int) : IntKind.u64.wrap n = n % 18446744073709551616 := by simp [IntKind.wrap, IntKind.bits, IntKind.signed]
theorem wraps_u64 (n : Int) (h0 : 0 ≤ n) (h1 : n < 2 ^ 64) : IntKind.u64.wrap n = n := by rw [wrap_u64]; omega
theorem and_nat {a b : Nat} (ha : a < 2 ^ 64) (hb : b < 2 ^ 64) : Go.bits .and .u64 a b = ((a &&& b : Nat) : Int) := (bits_nat .u64 64 (by decide) wraps_u64 a b ha hb).1
def hiOf (v : Nat) : Int := ((v / 2 ^ 64 : Nat) : Int)
def loOf (v : Nat) : Int := ((v % 2 ^ 64 : Nat) : Int)
theorem lo_lt (v : Nat) : v % 2 ^ 64 < 2 ^ 64 := Nat.mod_lt _ (by decide)
theorem hi_lt {v : Nat} (h : v < 2 ^ 128) : v / 2 ^ 64 < 2 ^ 64 := by omega
theorem words_eq (v u : Nat) : (hiOf v == hiOf u && loOf v == loOf u) = decide (v = u) := by
  unfold hiOf loOf
  by_cases h : v = u
  · subst h; simp
  · have : ¬ (v / 2 ^ 64 = u / 2 ^ 64 ∧ v % 2 ^ 64 = u % 2 ^ 64) := by omega
    rw [decide_eq_false h, Bool.and_eq_false_iff]
    by_cases h1 : v / 2 ^ 64 = u / 2 ^ 64
    · right; rw [beq_eq_false_iff_ne]; intro c; exact this ⟨h1, by omega⟩
    · left; rw [beq_eq_false_iff_ne]; intro c; exact h1 (by omega)
theorem cut_hi {v w : Nat} (h : w < 64) : hiOf (v % 2 ^ w) = 0 := by
  unfold hiOf
  have h1 : v % 2 ^ w < 2 ^ 64 := Nat.lt_of_lt_of_le (Nat.mod_lt _ (Nat.two_pow_pos w)) (Nat.pow_le_pow_right (by decide) (by omega))
  rw [Nat.div_eq_of_lt h1]; rfl
theorem cut_lo {v w : Nat} (h : w < 64) : loOf (v % 2 ^ w) = ((v % 2 ^ 64 % 2 ^ w : Nat) : Int) := by
  unfold loOf
  have h1 : v % 2 ^ w < 2 ^ 64 := Nat.lt_of_lt_of_le (Nat.mod_lt _ (Nat.two_pow_pos w)) (Nat.pow_le_pow_right (by decide) (by omega))
  rw [Nat.mod_eq_of_lt h1, Nat.mod_mod_of_dvd v (Nat.pow_dvd_pow 2 (by omega : w ≤ 64))]
theorem cut_hi2 {v w : Nat} (h : 64 ≤ w) : hiOf (v % 2 ^ w) = ((v / 2 ^ 64 % 2 ^ (w - 64) : Nat) : Int) := by
  unfold hiOf
  congr 1
  rw [show w = 64 + (w - 64) from by omega, Nat.pow_add, Nat.mod_mul_right_div_self, Nat.add_sub_cancel_left]
theorem cut_lo2 {v w : Nat} (h : 64 ≤ w) : loOf (v % 2 ^ w) = loOf v := by
  unfold loOf
  rw [Nat.mod_mod_of_dvd v (Nat.pow_dvd_pow 2 h)]
theorem one_shl {n : Nat} (h : n < 64) : IntKind.u64.wrap (1 * 2 ^ (min ((n : Int)).toNat IntKind.u64.bits)) = ((2 ^ n : Nat) : Int) := by
  have h1 : 2 ^ n < 2 ^ 64 := Nat.pow_lt_pow_right (by decide) h
  have e : min ((n : Int)).toNat IntKind.u64.bits = n := by simp [IntKind.bits]; omega
  rw [e, Int.one_mul, wraps_u64 _ (Int.pow_nonneg (by decide)) (by exact_mod_cast h1)]; simp
theorem one_shl64 : IntKind.u64.wrap (1 * 2 ^ (min ((64 : Nat) : Int).toNat IntKind.u64.bits)) = 0 := by decide
theorem mask_of {n : Nat} (h : n < 64) : IntKind.u64.wrap (((2 ^ n : Nat) : Int) - 1) = ((2 ^ n - 1 : Nat) : Int) := by
  have h1 : 2 ^ n < 2 ^ 64 := Nat.pow_lt_pow_right (by decide) h
  have h2 := Nat.two_pow_pos n
  rw [wraps_u64 _ (by omega) (by omega)]; omega
theorem mask_64 : IntKind.u64.wrap ((0 : Int) - 1) = ((2 ^ 64 - 1 : Nat) : Int) := by decide
theorem and_mask {x n : Nat} (hx : x < 2 ^ 64) (h : n ≤ 64) : Go.bits .and .u64 (x : Int) ((2 ^ n - 1 : Nat) : Int) = ((x % 2 ^ n : Nat) : Int) := by
  have h1 : 2 ^ n ≤ 2 ^ 64 := Nat.pow_le_pow_right (by decide) h
  have h2 := Nat.two_pow_pos n
  rw [and_nat hx (by omega), Nat.and_two_pow_sub_one_eq_mod]
def bitD (w v : Nat) : D := .agg [.sc (.int .i64 (w : Int)), .sc (.int .u64 (hiOf v)), .sc (.int .u64 (loOf v))]
theorem lt128 {w v : Nat} (h : w ≤ 128) (hv : v < 2 ^ w) : v < 2 ^ 128 := Nat.lt_of_lt_of_le hv (Nat.pow_le_pow_right (by decide) h)
def chk (a : Int) (v : Nat) : Bool := decide (1 ≤ a ∧ a ≤ 128 ∧ v < 2 ^ a.toNat)
theorem chk_cut {w v : Nat} (h0 : 1 ≤ w) (h : w ≤ 128) : ((w : Int) == (w : Int) && ((hiOf v == hiOf (v % 2 ^ w)) && (loOf v == loOf (v % 2 ^ w)))) = chk (w : Int) v := by
  rw [words_eq]
  unfold chk
  simp only [BEq.rfl, Bool.true_and]
  have := Nat.mod_lt v (Nat.two_pow_pos w)
  by_cases h1 : v < 2 ^ w
  · rw [decide_eq_true (show v = v % 2 ^ w from (Nat.mod_eq_of_lt h1).symm), decide_eq_true ⟨by omega, by omega, by simpa using h1⟩]
  · rw [decide_eq_false (by omega : ¬ v = v % 2 ^ w), decide_eq_false (fun c => h1 (by simpa using c.2.2))]
theorem chk_no {a : Int} {v : Nat} (h : ¬ (1 ≤ a ∧ a ≤ 128)) : chk a v = false := decide_eq_false fun c => h ⟨c.1, c.2.1⟩
theorem chk_ok {w v : Nat} (h0 : 1 ≤ w) (h : w ≤ 128) (hv : v < 2 ^ w) : chk (w : Int) v = true := decide_eq_true ⟨by omega, by omega, by simpa using hv⟩
set_option maxRecDepth 100000 in
theorem wide_c {Γ : World → Prop} (hΓ : GS Γ) (n : Int) : CallsP Tryz.prog Γ 60 [.sc (.int .i64 n)] (.sc (.bool (decide (1 ≤ n ∧ n ≤ 128)))) := by
  refine callsP_of hΓ Tryz.func60 rfl Tryz.ntmps60 rfl fun w0 S0 stab => ?_
  refine hits_seq ?_
  refine hits_region ?_
  refine sq (f_assign rfl (lt rfl)) rfl rfl ?_
  refine hits_nil ?_
  refine to_next ?_
  refine hits_seq ?_
  by_cases h1 : 1 ≤ n
  · by_cases h2 : n ≤ 128
    · refine hits_region ?_
      refine sq (f_move rfl (lt rfl)) rfl rfl ?_
      refine sq (f_bin rfl rfl (bT (decide_eq_true h1)) (lt rfl)) rfl rfl ?_
      refine sq (f_move rfl (lt rfl)) rfl rfl ?_
      refine sq_yes (f_move rfl (lt rfl)) rfl rfl rfl rfl (lt rfl) ?_
      refine sq_yes (f_bin rfl rfl (bT (decide_eq_true h2)) (lt rfl)) rfl rfl rfl rfl (lt rfl) ?_
      refine sq (f_pick rfl rfl (lt rfl)) rfl rfl ?_
      refine sq (f_assign rfl (lt rfl)) rfl rfl ?_
      refine hits_nil ?_
      refine to_next ?_
      refine hits_ret ?_
      exact hits_done (.inl rfl) rfl rfl (by rw [decide_eq_true ⟨h1, h2⟩]; rfl)
    · refine hits_region ?_
      refine sq (f_move rfl (lt rfl)) rfl rfl ?_
      refine sq (f_bin rfl rfl (bT (decide_eq_true h1)) (lt rfl)) rfl rfl ?_
      refine sq (f_move rfl (lt rfl)) rfl rfl ?_
      refine sq_yes (f_move rfl (lt rfl)) rfl rfl rfl rfl (lt rfl) ?_
      refine sq_yes (f_bin rfl rfl (bT (decide_eq_false h2)) (lt rfl)) rfl rfl rfl rfl (lt rfl) ?_
      refine sq (f_pick rfl rfl (lt rfl)) rfl rfl ?_
      refine sq (f_assign rfl (lt rfl)) rfl rfl ?_
      refine hits_nil ?_
      refine to_next ?_
      refine hits_ret ?_
      exact hits_done (.inl rfl) rfl rfl (by rw [decide_eq_false fun c => h2 c.2]; rfl)
  · refine hits_region ?_
    refine sq (f_move rfl (lt rfl)) rfl rfl ?_
    refine sq (f_bin rfl rfl (bT (decide_eq_false h1)) (lt rfl)) rfl rfl ?_
    refine sq (f_move rfl (lt rfl)) rfl rfl ?_
    refine sq_no rfl rfl rfl rfl rfl (lt rfl) (lt rfl) ?_
    refine sq_no rfl rfl rfl rfl rfl (lt rfl) (lt rfl) ?_
    refine sq (f_pick rfl rfl (lt rfl)) rfl rfl ?_
    refine sq (f_assign rfl (lt rfl)) rfl rfl ?_
    refine hits_nil ?_
    refine to_next ?_
    refine hits_ret ?_
    exact hits_done (.inl rfl) rfl rfl (by rw [decide_eq_false fun c => h1 c.1]; rfl)
set_option maxRecDepth 100000 in
theorem cut_c {Γ : World → Prop} (hΓ : GS Γ) {w v : Nat} (h : w ≤ 128) (hv : v < 2 ^ 128) : CallsP Tryz.prog Γ 61 [.sc (.int .i64 (w : Int)), .sc (.int .u64 (hiOf v)), .sc (.int .u64 (loOf v))] (bitD w (v % 2 ^ w)) := by
  refine callsP_of hΓ Tryz.func61 rfl Tryz.ntmps61 rfl fun w0 S0 stab => ?_
  refine hits_seq ?_
  refine hits_region ?_
  refine sq (f_alloc zc35 (lt rfl)) rfl rfl ?_
  refine hits_nil ?_
  refine to_next ?_
  refine hits_seq ?_
  refine hits_seq ?_
  by_cases h1 : w < 64
  · refine hits_region ?_
    refine sq (f_move rfl (lt rfl)) rfl rfl ?_
    refine sq (f_bin rfl rfl (bT (decide_eq_true (by omega))) (lt rfl)) rfl rfl ?_
    refine hits_nil ?_
    refine to_next ?_
    refine hits_cond rfl (fun c0 => ?_) (fun c0 => absurd c0 Bool.false_ne_true.symm)
    refine hits_seq ?_
    refine hits_region ?_
    refine sq (f_move rfl (lt rfl)) rfl rfl ?_
    refine sq (f_move rfl (lt rfl)) rfl rfl ?_
    refine sq (f_move rfl (lt rfl)) rfl rfl ?_
    refine sq (f_shlI rfl rfl (by omega) (one_shl h1) (lt rfl)) rfl rfl ?_
    refine sq (f_bin rfl rfl (iT (mask_of h1)) (lt rfl)) rfl rfl ?_
    refine sq (f_bin rfl rfl (iT (and_mask (lo_lt v) (by omega))) (lt rfl)) rfl rfl ?_
    refine sq (f_build bu35 rfl rfl (lt rfl)) rfl rfl ?_
    refine sq (f_store kd35 rfl rfl rfl rfl rfl) rfl rfl ?_
    refine hits_nil ?_
    refine to_next ?_
    refine hits_ret ?_
    refine to_ret ?_
    exact hits_done (.inl rfl) rfl rfl (by rw [bitD, cut_hi h1, cut_lo h1]; rfl)
  · have h64 : 64 ≤ w := by omega
    by_cases h2 : w = 128
    · refine hits_region ?_
      refine sq (f_move rfl (lt rfl)) rfl rfl ?_
      refine sq (f_bin rfl rfl (bT (decide_eq_false (by omega))) (lt rfl)) rfl rfl ?_
      refine hits_nil ?_
      refine to_next ?_
      refine hits_cond rfl (fun c0 => absurd c0 Bool.false_ne_true) (fun c0 => ?_)
      refine hits_skip ?_
      refine to_next ?_
      refine hits_seq ?_
      refine hits_region ?_
      refine sq (f_move rfl (lt rfl)) rfl rfl ?_
      refine sq (f_move rfl (lt rfl)) rfl rfl ?_
      refine sq (f_move rfl (lt rfl)) rfl rfl ?_
      refine sq (f_bin rfl rfl (iT ((IntWalk.i64_in _ (by omega)).trans (by omega : _ = ((w - 64 : Nat) : Int)))) (lt rfl)) rfl rfl ?_
      refine sq (f_shlI rfl rfl (by omega) ((by rw [h2]; exact one_shl64 : _ = (0 : Int))) (lt rfl)) rfl rfl ?_
      refine sq (f_bin rfl rfl (iT (mask_64)) (lt rfl)) rfl rfl ?_
      refine sq (f_bin rfl rfl (iT ((and_mask (hi_lt hv) (Nat.le_refl 64)).trans (by rw [h2] : _ = ((v / 2 ^ 64 % 2 ^ (w - 64) : Nat) : Int)))) (lt rfl)) rfl rfl ?_
      refine sq (f_move rfl (lt rfl)) rfl rfl ?_
      refine sq (f_build bu35 rfl rfl (lt rfl)) rfl rfl ?_
      refine sq (f_store kd35 rfl rfl rfl rfl rfl) rfl rfl ?_
      refine hits_nil ?_
      refine to_next ?_
      refine hits_ret ?_
      exact hits_done (.inl rfl) rfl rfl (by rw [bitD, cut_hi2 h64, cut_lo2 h64]; rfl)
    · refine hits_region ?_
      refine sq (f_move rfl (lt rfl)) rfl rfl ?_
      refine sq (f_bin rfl rfl (bT (decide_eq_false (by omega))) (lt rfl)) rfl rfl ?_
      refine hits_nil ?_
      refine to_next ?_
      refine hits_cond rfl (fun c0 => absurd c0 Bool.false_ne_true) (fun c0 => ?_)
      refine hits_skip ?_
      refine to_next ?_
      refine hits_seq ?_
      refine hits_region ?_
      refine sq (f_move rfl (lt rfl)) rfl rfl ?_
      refine sq (f_move rfl (lt rfl)) rfl rfl ?_
      refine sq (f_move rfl (lt rfl)) rfl rfl ?_
      refine sq (f_bin rfl rfl (iT ((IntWalk.i64_in _ (by omega)).trans (by omega : _ = ((w - 64 : Nat) : Int)))) (lt rfl)) rfl rfl ?_
      refine sq (f_shlI rfl rfl (by omega) (one_shl (n := w - 64) (by omega)) (lt rfl)) rfl rfl ?_
      refine sq (f_bin rfl rfl (iT (mask_of (n := w - 64) (by omega))) (lt rfl)) rfl rfl ?_
      refine sq (f_bin rfl rfl (iT (and_mask (hi_lt hv) (by omega : w - 64 ≤ 64))) (lt rfl)) rfl rfl ?_
      refine sq (f_move rfl (lt rfl)) rfl rfl ?_
      refine sq (f_build bu35 rfl rfl (lt rfl)) rfl rfl ?_
      refine sq (f_store kd35 rfl rfl rfl rfl rfl) rfl rfl ?_
      refine hits_nil ?_
      refine to_next ?_
      refine hits_ret ?_
      exact hits_done (.inl rfl) rfl rfl (by rw [bitD, cut_hi2 h64, cut_lo2 h64]; rfl)
set_option maxRecDepth 100000 in
theorem check_in {Γ : World → Prop} (hΓ : GS Γ) {w v : Nat} (h0 : 1 ≤ w) (h : w ≤ 128) (hv : v < 2 ^ 128) : CallsP Tryz.prog Γ 37 [(.agg [.sc (.int .i64 (w : Int)), .sc (.int .u64 (hiOf v)), .sc (.int .u64 (loOf v))])] (.sc (.bool (chk (w : Int) v))) := by
  have hw := wide_c hΓ (w : Int)
  rw [decide_eq_true (by omega : (1 : Int) ≤ w ∧ (w : Int) ≤ 128)] at hw
  refine callsP_of hΓ Tryz.func37 rfl Tryz.ntmps37 rfl fun w0 S0 stab => ?_
  refine hits_seq ?_
  refine hits_region ?_
  refine sq (f_box rfl rfl (lt rfl)) rfl rfl ?_
  refine sq (f_assign rfl (lt rfl)) rfl rfl ?_
  refine hits_nil ?_
  refine to_next ?_
  refine hits_seq ?_
  refine hits_drawn mixed ?_
  refine dq (f_fieldAddr rfl kf35_0 rfl (lt rfl)) rfl rfl ?_
  refine dq (f_load kd3 rfl rfl (lt rfl)) rfl rfl ?_
  refine dq (f_call en60 rfl hw (lt rfl)) rfl rfl ?_
  refine dq (f_move rfl (lt rfl)) rfl rfl ?_
  refine dq_yes (f_load kd35 rfl rfl (lt rfl)) rfl rfl rfl rfl (lt rfl) ?_
  refine dq_yes (f_fieldAddr rfl kf35_0 rfl (lt rfl)) rfl rfl rfl rfl (lt rfl) ?_
  refine dq_yes (f_load kd3 rfl rfl (lt rfl)) rfl rfl rfl rfl (lt rfl) ?_
  refine dq_yes (f_fieldAddr rfl kf35_1 rfl (lt rfl)) rfl rfl rfl rfl (lt rfl) ?_
  refine dq_yes (f_load kd33 rfl rfl (lt rfl)) rfl rfl rfl rfl (lt rfl) ?_
  refine dq_yes (f_fieldAddr rfl kf35_2 rfl (lt rfl)) rfl rfl rfl rfl (lt rfl) ?_
  refine dq_yes (f_load kd33 rfl rfl (lt rfl)) rfl rfl rfl rfl (lt rfl) ?_
  refine dq_yes (f_call en61 rfl (cut_c hΓ h hv) (lt rfl)) rfl rfl rfl rfl (lt rfl) ?_
  refine dq_yes (f_eqS rfl rfl rfl rfl eqg35 (ev35 ..) (by decide) ((by rw [Bool.and_true]; exact chk_cut h0 h : _ = chk (w : Int) v)) (lt rfl)) rfl rfl rfl rfl (lt rfl) ?_
  refine dq (f_pick rfl rfl (lt rfl)) rfl rfl ?_
  refine dq (f_assign rfl (lt rfl)) rfl rfl ?_
  refine dq_nil rfl ?_
  refine to_next ?_
  refine hits_ret ?_
  exact hits_done (.inl rfl) rfl rfl rfl
set_option maxRecDepth 100000 in
theorem check_out {Γ : World → Prop} (hΓ : GS Γ) {a : Int} {v : Nat} (h : ¬ (1 ≤ a ∧ a ≤ 128)) : CallsP Tryz.prog Γ 37 [(.agg [.sc (.int .i64 a), .sc (.int .u64 (hiOf v)), .sc (.int .u64 (loOf v))])] (.sc (.bool (chk a v))) := by
  have hw := wide_c hΓ a
  rw [decide_eq_false h] at hw
  refine callsP_of hΓ Tryz.func37 rfl Tryz.ntmps37 rfl fun w0 S0 stab => ?_
  refine hits_seq ?_
  refine hits_region ?_
  refine sq (f_box rfl rfl (lt rfl)) rfl rfl ?_
  refine sq (f_assign rfl (lt rfl)) rfl rfl ?_
  refine hits_nil ?_
  refine to_next ?_
  refine hits_seq ?_
  refine hits_drawn mixed ?_
  refine dq (f_fieldAddr rfl kf35_0 rfl (lt rfl)) rfl rfl ?_
  refine dq (f_load kd3 rfl rfl (lt rfl)) rfl rfl ?_
  refine dq (f_call en60 rfl hw (lt rfl)) rfl rfl ?_
  refine dq (f_move rfl (lt rfl)) rfl rfl ?_
  refine dq_no rfl rfl rfl rfl rfl (lt rfl) (lt rfl) ?_
  refine dq_no rfl rfl rfl rfl rfl (lt rfl) (lt rfl) ?_
  refine dq_no rfl rfl rfl rfl rfl (lt rfl) (lt rfl) ?_
  refine dq_no rfl rfl rfl rfl rfl (lt rfl) (lt rfl) ?_
  refine dq_no rfl rfl rfl rfl rfl (lt rfl) (lt rfl) ?_
  refine dq_no rfl rfl rfl rfl rfl (lt rfl) (lt rfl) ?_
  refine dq_no rfl rfl rfl rfl rfl (lt rfl) (lt rfl) ?_
  refine dq_no rfl rfl rfl rfl rfl (lt rfl) (lt rfl) ?_
  refine dq_no rfl rfl rfl rfl rfl (lt rfl) (lt rfl) ?_
  refine dq (f_pick rfl rfl (lt rfl)) rfl rfl ?_
  refine dq (f_assign rfl (lt rfl)) rfl rfl ?_
  refine dq_nil rfl ?_
  refine to_next ?_
  refine hits_ret ?_
  exact hits_done (.inl rfl) rfl rfl (by rw [chk_no h]; rfl)
theorem check_c {Γ : World → Prop} (hΓ : GS Γ) (a : Int) {v : Nat} (hv : v < 2 ^ 128) : CallsP Tryz.prog Γ 37 [.agg [.sc (.int .i64 a), .sc (.int .u64 (hiOf v)), .sc (.int .u64 (loOf v))]] (.sc (.bool (chk a v))) := by
  by_cases h : 1 ≤ a ∧ a ≤ 128
  · obtain ⟨w, rfl⟩ : ∃ w : Nat, a = (w : Int) := ⟨a.toNat, by omega⟩
    exact check_in hΓ (by omega) (by omega) hv
  · exact check_out hΓ h
set_option maxRecDepth 100000 in
theorem of_c {Γ : World → Prop} (hΓ : GS Γ) {w v : Nat} (h0 : 1 ≤ w) (h : w ≤ 128) (hv : v < 2 ^ 128) : CallsP Tryz.prog Γ 45 [.sc (.int .i64 (w : Int)), .sc (.int .u64 (hiOf v)), .sc (.int .u64 (loOf v))] (.tup [bitD w (v % 2 ^ w), .sc (.int .i64 0)]) := by
  have hw := wide_c hΓ (w : Int)
  rw [decide_eq_true (by omega : (1 : Int) ≤ w ∧ (w : Int) ≤ 128)] at hw
  refine callsP_of hΓ Tryz.func45 rfl Tryz.ntmps45 rfl fun w0 S0 stab => ?_
  refine hits_seq ?_
  refine hits_region ?_
  refine sq (f_alloc zc35 (lt rfl)) rfl rfl ?_
  refine sq (f_assign rfl (lt rfl)) rfl rfl ?_
  refine hits_nil ?_
  refine to_next ?_
  refine hits_seq ?_
  refine hits_seq ?_
  refine hits_region ?_
  refine sq (f_move rfl (lt rfl)) rfl rfl ?_
  refine sq (f_call en60 rfl hw (lt rfl)) rfl rfl ?_
  refine sq (f_un rfl rfl (lt rfl)) rfl rfl ?_
  refine hits_nil ?_
  refine to_next ?_
  refine hits_cond rfl (fun c0 => absurd c0 Bool.false_ne_true) (fun c0 => ?_)
  refine hits_skip ?_
  refine to_next ?_
  refine hits_seq ?_
  refine hits_region ?_
  refine sq (f_move rfl (lt rfl)) rfl rfl ?_
  refine sq (f_move rfl (lt rfl)) rfl rfl ?_
  refine sq (f_move rfl (lt rfl)) rfl rfl ?_
  refine sq (f_call en61 rfl (cut_c hΓ h hv) (lt rfl)) rfl rfl ?_
  refine sq (f_store kd35 rfl rfl rfl rfl rfl) rfl rfl ?_
  refine sq (f_assign rfl (lt rfl)) rfl rfl ?_
  refine hits_nil ?_
  refine to_next ?_
  refine hits_ret ?_
  exact hits_done (.inl rfl) rfl rfl rfl
end Go.Proofs.YtbgeejmhkmjfdaaGreatDoor.Ln
