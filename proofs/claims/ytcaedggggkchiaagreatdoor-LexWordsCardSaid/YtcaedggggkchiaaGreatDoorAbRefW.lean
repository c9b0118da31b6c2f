/- The reference's words over data. -/
import Derived.Test.YtcaedggggkchiaaGreatDoorAbRef7P
namespace Go.Proofs.YtcaedggggkchiaaGreatDoor.Ln
open Go Go.RowKit Go.Ab Go.Proofs 
set_option linter.unusedVariables false
set_option linter.unusedSimpArgs false
theorem en207 : enters Tryz.prog 207 = true := by kernel_rfl
theorem en205 : enters Tryz.prog 205 = true := by kernel_rfl
theorem en225 : enters Tryz.prog 225 = true := by kernel_rfl
theorem en226 : enters Tryz.prog 226 = true := by kernel_rfl
theorem en227 : enters Tryz.prog 227 = true := by kernel_rfl

theorem ltr_few : ∀ n : Nat, n < 256 → ltr (UInt8.ofNat n) = decide (97 ≤ n ∧ n ≤ 122 ∨ 65 ≤ n ∧ n ≤ 90 ∨ n = 95) := by decide +kernel
theorem ltr_is (c : UInt8) : ltr c = decide (97 ≤ c.toNat ∧ c.toNat ≤ 122 ∨ 65 ≤ c.toNat ∧ c.toNat ≤ 90 ∨ c.toNat = 95) := by
  have := ltr_few c.toNat c.toNat_lt
  rwa [UInt8.ofNat_toNat] at this
theorem drop_at {s : List UInt8} {i : Nat} {c : UInt8} (h : s[i]? = some c) : s.drop i = c :: s.drop (i + 1) := by
  obtain ⟨h1, h2⟩ := List.getElem?_eq_some_iff.mp h
  rw [List.drop_eq_getElem_cons h1, h2]
def runL (s : List UInt8) (i : Nat) : Nat := i + ((s.drop i).takeWhile aln).length
theorem rrun_more {s : List UInt8} {i : Nat} {c : UInt8} (h : s[i]? = some c) (hc : aln c = true) : runL s (i + 1) = runL s i := by
  unfold runL; rw [drop_at h, List.takeWhile_cons_of_pos hc, List.length_cons]; omega
theorem rrun_stop {s : List UInt8} {i : Nat} {c : UInt8} (h : s[i]? = some c) (hc : ¬ aln c = true) : runL s i = i := by
  unfold runL; rw [drop_at h, List.takeWhile_cons_of_neg hc]; rfl
theorem rrun_end {s : List UInt8} {i : Nat} (h : s.length ≤ i) : runL s i = i := by
  unfold runL; rw [List.drop_eq_nil_of_le h]; rfl
theorem rtake_all {s : List UInt8} {i : Nat} {c : UInt8} (h : s[i]? = some c) (ha : (s.take i).all dgt = true) (hc : dgt c = true) : (s.take (i + 1)).all dgt = true := by
  rw [List.take_add_one, h, List.all_append, ha]; simp [hc]
theorem dig_cat9 {m : Nat} (acc : List UInt8) (h : m < 10) : (⟨#[48, 49, 50, 51, 52, 53, 54, 55, 56, 57]⟩ : ByteArray).extract ((m : Int)).toNat ((m : Int) + 1).toNat ++ B acc = B (UInt8.ofNat (48 + m) :: acc) := by
  have := dig_cat m acc; rwa [Nat.mod_eq_of_lt h] at this
theorem dig_size9 {m : Nat} (acc : List UInt8) (h : m < 10) (ha : acc.length ≤ 20) : ((⟨#[48, 49, 50, 51, 52, 53, 54, 55, 56, 57]⟩ : ByteArray).extract ((m : Int)).toNat ((m : Int) + 1).toNat).size + (B acc).size ≤ 9223372036854775807 := by
  have := dig_size m acc ha; rwa [Nat.mod_eq_of_lt h] at this
theorem dec_last9 {m : Nat} (h : m < 10) : Lib.decDigits m = [UInt8.ofNat (48 + m)] := by rw [dec_last h, Nat.mod_eq_of_lt h]
theorem rval_snoc (l : List UInt8) (c : UInt8) : valL (l ++ [c]) = 10 * valL l + (c.toNat - 48) := by simp [valL]
theorem rval_step {s : List UInt8} {i : Nat} {c : UInt8} (h : s[i]? = some c) : valL (s.take (i + 1)) = 10 * valL (s.take i) + (c.toNat - 48) := by
  rw [List.take_add_one, h]; exact rval_snoc _ _
theorem dgt_is {c : UInt8} (h : dgt c = true) : 48 ≤ c.toNat ∧ c.toNat ≤ 57 := of_decide_eq_true h
def wholeV (s : List UInt8) : Nat := valL (s.take 12)
def wholeB (s : List UInt8) : Bool := decide (wholeV s ≤ 2147483647) && decide (Lib.decDigits (wholeV s) = s)
theorem whole_take {s : List UInt8} {i : Nat} (h : ¬ i < s.length) (h2 : i ≤ s.length) (hi : i ≤ 12) : s.take i = s.take 12 := by
  rw [List.take_of_length_le (by omega), List.take_of_length_le (by omega)]
/-- The reference reads a number's text. -/
theorem rread_yes {s : ByteArray} {w v : Nat} (h : litOf s = some (w, v)) : CallsP Tryz.prog Lw 227 [.sc (.string s)] (.tup [bitD w v, .sc (.int .i64 0)]) := by
  obtain ⟨h0, h1, h2, h3⟩ := litOf_some h
  have hv' := lt128 h1 h2
  rw [rtext_eq hv'] at h3
  have hy := yes_of h1
  have hl := hexL_le 31 v (by simpa using hv')
  exact rparse_yes s (by rw [← h3]; exact rtext_list w v) hy.1 hy.2.1 hy.2.2.1 (fun c hc => by obtain ⟨d, hd, rfl⟩ := hexL_is v c hc; rw [hx_dgI d hd]; omega) (by omega) (hv_hexL v) h0 h1 h2 h3
theorem rread_no {s : ByteArray} (hs : s.size ≤ 281474976710656) (h : litOf s = none) : CallsP Tryz.prog Lw 227 [.sc (.string s)] (.tup [.agg [.sc (.int .i64 0), .sc (.int .u64 0), .sc (.int .u64 0)], .sc (.int .i64 8)]) := by
  refine rparse_no s hs fun w v h0 h1 h2 h3 => ?_
  have hv' := lt128 h1 h2
  have e : litOf (rtextB w v) = some (w, v) := by
    unfold litOf
    rw [pW_is h1, pV_is h1 hv']
    simp only [Int.toNat_natCast]
    rw [if_pos ⟨by omega, by omega, h2, rtext_eq hv'⟩]
  rw [h3, h] at e
  cases e
theorem rval_lt : ∀ (l : List UInt8) (n : Nat), l.all dgt = true → l.foldl (fun n c => 10 * n + (c.toNat - 48)) n < (n + 1) * 10 ^ l.length
  | [], n, _ => by simp
  | c :: r, n, h => by
    simp only [List.all_cons, Bool.and_eq_true] at h
    obtain ⟨h1, h2⟩ := dgt_is h.1
    have ih := rval_lt r (10 * n + (c.toNat - 48)) h.2
    rw [List.foldl_cons, List.length_cons, Nat.pow_succ]
    refine Nat.lt_of_lt_of_le ih ?_
    rw [Nat.mul_comm (10 ^ r.length) 10, ← Nat.mul_assoc]
    exact Nat.mul_le_mul_right _ (by omega)
theorem wholeV_lt (s : List UInt8) (h : s.all dgt = true) : wholeV s < 18446744073709551616 := by
  have h1 : (s.take 12).all dgt = true := List.all_eq_true.mpr fun c hc => List.all_eq_true.mp h c (List.mem_of_mem_take hc)
  have h2 := rval_lt (s.take 12) 0 h1
  have h3 : 10 ^ (s.take 12).length ≤ 10 ^ 12 := Nat.pow_le_pow_right (by decide) (by rw [List.length_take]; omega)
  unfold wholeV valL
  omega
theorem whole_num {s : List UInt8} (hd : s.all dgt = true) : wholeB s = numOk s := by
  unfold wholeB numOk
  rw [if_pos hd, ← Bool.decide_and]
  by_cases h : s.length ≤ 12
  · rw [show wholeV s = valL s from by unfold wholeV; rw [List.take_of_length_le h]]
  · have key : ∀ v : Nat, ¬ (v ≤ 2147483647 ∧ Lib.decDigits v = s) := fun v ⟨a, b⟩ => by
      have := dec_le 9 v (Nat.lt_of_le_of_lt a (by decide))
      rw [b] at this; omega
    rw [decide_eq_false (key _), decide_eq_false (key _)]
theorem whole_val {s : List UInt8} (hd : s.all dgt = true) (h0 : s ≠ []) (h : numOk s = true) : numW s = ⟨2, [], 64, 0, wholeV s, 0⟩ := by
  have h' := h
  unfold numOk at h'
  rw [if_pos hd] at h'
  obtain ⟨h1, h2⟩ := of_decide_eq_true h'
  have hlen := dec_le 9 (valL s) (Nat.lt_of_le_of_lt h1 (by decide))
  rw [h2] at hlen
  have hv : wholeV s = valL s := by unfold wholeV; rw [List.take_of_length_le (by omega)]
  unfold numW
  rw [if_pos hd, hv]
  have hp := (puB h0 hd).2 h1
  unfold puN
  rw [hp]

set_option maxRecDepth 100000 in
theorem rdigit7_c (c : UInt8) : CallsP Tryz.prog Lw 205 [.sc (.int .u8 (c.toNat : Int))] (.sc (.bool (dgt c))) := by
  refine callsP_of gs_lw Tryz.func205 rfl Tryz.ntmps205 rfl fun w0 S0 stab => ?_
  refine hits_seq ?_
  refine hits_region ?_
  refine sq (f_assign rfl (lt rfl)) rfl rfl ?_
  refine hits_nil ?_
  refine to_next ?_
  refine hits_seq ?_
  by_cases h1 : 48 ≤ c.toNat
  · by_cases h2 : c.toNat ≤ 57
    · refine hits_region ?_
      refine sq (f_move rfl (lt rfl)) rfl rfl ?_
      refine sq (f_bin rfl rfl (bT (decide_eq_true (by omega))) (lt rfl)) rfl rfl ?_
      refine sq (f_move rfl (lt rfl)) rfl rfl ?_
      refine sq_yes (f_move rfl (lt rfl)) rfl rfl rfl rfl (lt rfl) ?_
      refine sq_yes (f_bin rfl rfl (bT (decide_eq_true (by omega))) (lt rfl)) rfl rfl rfl rfl (lt rfl) ?_
      refine sq (f_pick rfl rfl (lt rfl)) rfl rfl ?_
      refine sq (f_assign rfl (lt rfl)) rfl rfl ?_
      refine hits_nil ?_
      refine to_next ?_
      refine hits_ret ?_
      exact hits_done (.inl rfl) rfl rfl (by rw [dgt, decide_eq_true ⟨h1, h2⟩]; rfl)
    · refine hits_region ?_
      refine sq (f_move rfl (lt rfl)) rfl rfl ?_
      refine sq (f_bin rfl rfl (bT (decide_eq_true (by omega))) (lt rfl)) rfl rfl ?_
      refine sq (f_move rfl (lt rfl)) rfl rfl ?_
      refine sq_yes (f_move rfl (lt rfl)) rfl rfl rfl rfl (lt rfl) ?_
      refine sq_yes (f_bin rfl rfl (bT (decide_eq_false (by omega))) (lt rfl)) rfl rfl rfl rfl (lt rfl) ?_
      refine sq (f_pick rfl rfl (lt rfl)) rfl rfl ?_
      refine sq (f_assign rfl (lt rfl)) rfl rfl ?_
      refine hits_nil ?_
      refine to_next ?_
      refine hits_ret ?_
      exact hits_done (.inl rfl) rfl rfl (by rw [dgt, decide_eq_false (by omega)]; rfl)
  · refine hits_region ?_
    refine sq (f_move rfl (lt rfl)) rfl rfl ?_
    refine sq (f_bin rfl rfl (bT (decide_eq_false (by omega))) (lt rfl)) rfl rfl ?_
    refine sq (f_move rfl (lt rfl)) rfl rfl ?_
    refine sq_no rfl rfl rfl rfl rfl (lt rfl) (lt rfl) ?_
    refine sq_no rfl rfl rfl rfl rfl (lt rfl) (lt rfl) ?_
    refine sq (f_pick rfl rfl (lt rfl)) rfl rfl ?_
    refine sq (f_assign rfl (lt rfl)) rfl rfl ?_
    refine hits_nil ?_
    refine to_next ?_
    refine hits_ret ?_
    exact hits_done (.inl rfl) rfl rfl (by rw [dgt, decide_eq_false (by omega)]; rfl)

set_option maxRecDepth 100000 in
theorem rletter7_c (c : UInt8) : CallsP Tryz.prog Lw 207 [.sc (.int .u8 (c.toNat : Int))] (.sc (.bool (ltr c))) := by
  refine callsP_of gs_lw Tryz.func207 rfl Tryz.ntmps207 rfl fun w0 S0 stab => ?_
  refine hits_seq ?_
  refine hits_region ?_
  refine sq (f_assign rfl (lt rfl)) rfl rfl ?_
  refine hits_nil ?_
  refine to_next ?_
  refine hits_seq ?_
  by_cases h1 : 97 ≤ c.toNat
  · by_cases h2 : c.toNat ≤ 122
    · refine hits_region ?_
      refine sq (f_move rfl (lt rfl)) rfl rfl ?_
      refine sq (f_bin rfl rfl (bT (decide_eq_true (by omega))) (lt rfl)) rfl rfl ?_
      refine sq (f_move rfl (lt rfl)) rfl rfl ?_
      refine sq_yes (f_move rfl (lt rfl)) rfl rfl rfl rfl (lt rfl) ?_
      refine sq_yes (f_bin rfl rfl (bT (decide_eq_true (by omega))) (lt rfl)) rfl rfl rfl rfl (lt rfl) ?_
      refine sq (f_pick rfl rfl (lt rfl)) rfl rfl ?_
      refine sq (f_move rfl (lt rfl)) rfl rfl ?_
      refine sq_no rfl rfl rfl rfl rfl (lt rfl) (lt rfl) ?_
      refine sq_no rfl rfl rfl rfl rfl (lt rfl) (lt rfl) ?_
      refine sq_no rfl rfl rfl rfl rfl (lt rfl) (lt rfl) ?_
      refine sq_no rfl rfl rfl rfl rfl (lt rfl) (lt rfl) ?_
      refine sq_no rfl rfl rfl rfl rfl (lt rfl) (lt rfl) ?_
      refine sq_no rfl rfl rfl rfl rfl (lt rfl) (lt rfl) ?_
      refine sq (f_pick rfl rfl (lt rfl)) rfl rfl ?_
      refine sq (f_move rfl (lt rfl)) rfl rfl ?_
      refine sq_no rfl rfl rfl rfl rfl (lt rfl) (lt rfl) ?_
      refine sq_no rfl rfl rfl rfl rfl (lt rfl) (lt rfl) ?_
      refine sq (f_pick rfl rfl (lt rfl)) rfl rfl ?_
      refine sq (f_assign rfl (lt rfl)) rfl rfl ?_
      refine hits_nil ?_
      refine to_next ?_
      refine hits_ret ?_
      exact hits_done (.inl rfl) rfl rfl (by rw [ltr_is, decide_eq_true (by omega)]; rfl)
    · refine hits_region ?_
      refine sq (f_move rfl (lt rfl)) rfl rfl ?_
      refine sq (f_bin rfl rfl (bT (decide_eq_true (by omega))) (lt rfl)) rfl rfl ?_
      refine sq (f_move rfl (lt rfl)) rfl rfl ?_
      refine sq_yes (f_move rfl (lt rfl)) rfl rfl rfl rfl (lt rfl) ?_
      refine sq_yes (f_bin rfl rfl (bT (decide_eq_false (by omega))) (lt rfl)) rfl rfl rfl rfl (lt rfl) ?_
      refine sq (f_pick rfl rfl (lt rfl)) rfl rfl ?_
      refine sq (f_move rfl (lt rfl)) rfl rfl ?_
      refine sq_yes (f_move rfl (lt rfl)) rfl rfl rfl rfl (lt rfl) ?_
      refine sq_yes (f_bin rfl rfl (bT (decide_eq_true (by omega))) (lt rfl)) rfl rfl rfl rfl (lt rfl) ?_
      refine sq_yes (f_move rfl (lt rfl)) rfl rfl rfl rfl (lt rfl) ?_
      refine sq_yes (f_move rfl (lt rfl)) rfl rfl rfl rfl (lt rfl) ?_
      refine sq_yes (f_bin rfl rfl (bT (decide_eq_false (by omega))) (lt rfl)) rfl rfl rfl rfl (lt rfl) ?_
      refine sq_yes (f_pick rfl rfl (lt rfl)) rfl rfl rfl rfl (lt rfl) ?_
      refine sq (f_pick rfl rfl (lt rfl)) rfl rfl ?_
      refine sq (f_move rfl (lt rfl)) rfl rfl ?_
      refine sq_yes (f_move rfl (lt rfl)) rfl rfl rfl rfl (lt rfl) ?_
      refine sq_yes (f_bin rfl rfl (bT (beq_eq_false_iff_ne.mpr (by omega))) (lt rfl)) rfl rfl rfl rfl (lt rfl) ?_
      refine sq (f_pick rfl rfl (lt rfl)) rfl rfl ?_
      refine sq (f_assign rfl (lt rfl)) rfl rfl ?_
      refine hits_nil ?_
      refine to_next ?_
      refine hits_ret ?_
      exact hits_done (.inl rfl) rfl rfl (by rw [ltr_is, decide_eq_false (by omega)]; rfl)
  · by_cases h3 : 65 ≤ c.toNat
    · by_cases h4 : c.toNat ≤ 90
      · refine hits_region ?_
        refine sq (f_move rfl (lt rfl)) rfl rfl ?_
        refine sq (f_bin rfl rfl (bT (decide_eq_false (by omega))) (lt rfl)) rfl rfl ?_
        refine sq (f_move rfl (lt rfl)) rfl rfl ?_
        refine sq_no rfl rfl rfl rfl rfl (lt rfl) (lt rfl) ?_
        refine sq_no rfl rfl rfl rfl rfl (lt rfl) (lt rfl) ?_
        refine sq (f_pick rfl rfl (lt rfl)) rfl rfl ?_
        refine sq (f_move rfl (lt rfl)) rfl rfl ?_
        refine sq_yes (f_move rfl (lt rfl)) rfl rfl rfl rfl (lt rfl) ?_
        refine sq_yes (f_bin rfl rfl (bT (decide_eq_true (by omega))) (lt rfl)) rfl rfl rfl rfl (lt rfl) ?_
        refine sq_yes (f_move rfl (lt rfl)) rfl rfl rfl rfl (lt rfl) ?_
        refine sq_yes (f_move rfl (lt rfl)) rfl rfl rfl rfl (lt rfl) ?_
        refine sq_yes (f_bin rfl rfl (bT (decide_eq_true (by omega))) (lt rfl)) rfl rfl rfl rfl (lt rfl) ?_
        refine sq_yes (f_pick rfl rfl (lt rfl)) rfl rfl rfl rfl (lt rfl) ?_
        refine sq (f_pick rfl rfl (lt rfl)) rfl rfl ?_
        refine sq (f_move rfl (lt rfl)) rfl rfl ?_
        refine sq_no rfl rfl rfl rfl rfl (lt rfl) (lt rfl) ?_
        refine sq_no rfl rfl rfl rfl rfl (lt rfl) (lt rfl) ?_
        refine sq (f_pick rfl rfl (lt rfl)) rfl rfl ?_
        refine sq (f_assign rfl (lt rfl)) rfl rfl ?_
        refine hits_nil ?_
        refine to_next ?_
        refine hits_ret ?_
        exact hits_done (.inl rfl) rfl rfl (by rw [ltr_is, decide_eq_true (by omega)]; rfl)
      · by_cases h5 : c.toNat = 95
        · refine hits_region ?_
          refine sq (f_move rfl (lt rfl)) rfl rfl ?_
          refine sq (f_bin rfl rfl (bT (decide_eq_false (by omega))) (lt rfl)) rfl rfl ?_
          refine sq (f_move rfl (lt rfl)) rfl rfl ?_
          refine sq_no rfl rfl rfl rfl rfl (lt rfl) (lt rfl) ?_
          refine sq_no rfl rfl rfl rfl rfl (lt rfl) (lt rfl) ?_
          refine sq (f_pick rfl rfl (lt rfl)) rfl rfl ?_
          refine sq (f_move rfl (lt rfl)) rfl rfl ?_
          refine sq_yes (f_move rfl (lt rfl)) rfl rfl rfl rfl (lt rfl) ?_
          refine sq_yes (f_bin rfl rfl (bT (decide_eq_true (by omega))) (lt rfl)) rfl rfl rfl rfl (lt rfl) ?_
          refine sq_yes (f_move rfl (lt rfl)) rfl rfl rfl rfl (lt rfl) ?_
          refine sq_yes (f_move rfl (lt rfl)) rfl rfl rfl rfl (lt rfl) ?_
          refine sq_yes (f_bin rfl rfl (bT (decide_eq_false (by omega))) (lt rfl)) rfl rfl rfl rfl (lt rfl) ?_
          refine sq_yes (f_pick rfl rfl (lt rfl)) rfl rfl rfl rfl (lt rfl) ?_
          refine sq (f_pick rfl rfl (lt rfl)) rfl rfl ?_
          refine sq (f_move rfl (lt rfl)) rfl rfl ?_
          refine sq_yes (f_move rfl (lt rfl)) rfl rfl rfl rfl (lt rfl) ?_
          refine sq_yes (f_bin rfl rfl (bT (beq_iff_eq.mpr (by omega))) (lt rfl)) rfl rfl rfl rfl (lt rfl) ?_
          refine sq (f_pick rfl rfl (lt rfl)) rfl rfl ?_
          refine sq (f_assign rfl (lt rfl)) rfl rfl ?_
          refine hits_nil ?_
          refine to_next ?_
          refine hits_ret ?_
          exact hits_done (.inl rfl) rfl rfl (by rw [ltr_is, decide_eq_true (by omega)]; rfl)
        · refine hits_region ?_
          refine sq (f_move rfl (lt rfl)) rfl rfl ?_
          refine sq (f_bin rfl rfl (bT (decide_eq_false (by omega))) (lt rfl)) rfl rfl ?_
          refine sq (f_move rfl (lt rfl)) rfl rfl ?_
          refine sq_no rfl rfl rfl rfl rfl (lt rfl) (lt rfl) ?_
          refine sq_no rfl rfl rfl rfl rfl (lt rfl) (lt rfl) ?_
          refine sq (f_pick rfl rfl (lt rfl)) rfl rfl ?_
          refine sq (f_move rfl (lt rfl)) rfl rfl ?_
          refine sq_yes (f_move rfl (lt rfl)) rfl rfl rfl rfl (lt rfl) ?_
          refine sq_yes (f_bin rfl rfl (bT (decide_eq_true (by omega))) (lt rfl)) rfl rfl rfl rfl (lt rfl) ?_
          refine sq_yes (f_move rfl (lt rfl)) rfl rfl rfl rfl (lt rfl) ?_
          refine sq_yes (f_move rfl (lt rfl)) rfl rfl rfl rfl (lt rfl) ?_
          refine sq_yes (f_bin rfl rfl (bT (decide_eq_false (by omega))) (lt rfl)) rfl rfl rfl rfl (lt rfl) ?_
          refine sq_yes (f_pick rfl rfl (lt rfl)) rfl rfl rfl rfl (lt rfl) ?_
          refine sq (f_pick rfl rfl (lt rfl)) rfl rfl ?_
          refine sq (f_move rfl (lt rfl)) rfl rfl ?_
          refine sq_yes (f_move rfl (lt rfl)) rfl rfl rfl rfl (lt rfl) ?_
          refine sq_yes (f_bin rfl rfl (bT (beq_eq_false_iff_ne.mpr (by omega))) (lt rfl)) rfl rfl rfl rfl (lt rfl) ?_
          refine sq (f_pick rfl rfl (lt rfl)) rfl rfl ?_
          refine sq (f_assign rfl (lt rfl)) rfl rfl ?_
          refine hits_nil ?_
          refine to_next ?_
          refine hits_ret ?_
          exact hits_done (.inl rfl) rfl rfl (by rw [ltr_is, decide_eq_false (by omega)]; rfl)
    · refine hits_region ?_
      refine sq (f_move rfl (lt rfl)) rfl rfl ?_
      refine sq (f_bin rfl rfl (bT (decide_eq_false (by omega))) (lt rfl)) rfl rfl ?_
      refine sq (f_move rfl (lt rfl)) rfl rfl ?_
      refine sq_no rfl rfl rfl rfl rfl (lt rfl) (lt rfl) ?_
      refine sq_no rfl rfl rfl rfl rfl (lt rfl) (lt rfl) ?_
      refine sq (f_pick rfl rfl (lt rfl)) rfl rfl ?_
      refine sq (f_move rfl (lt rfl)) rfl rfl ?_
      refine sq_yes (f_move rfl (lt rfl)) rfl rfl rfl rfl (lt rfl) ?_
      refine sq_yes (f_bin rfl rfl (bT (decide_eq_false (by omega))) (lt rfl)) rfl rfl rfl rfl (lt rfl) ?_
      refine sq_yes (f_move rfl (lt rfl)) rfl rfl rfl rfl (lt rfl) ?_
      refine sq_no rfl rfl rfl rfl rfl (lt rfl) (lt rfl) ?_
      refine sq_no rfl rfl rfl rfl rfl (lt rfl) (lt rfl) ?_
      refine sq_yes (f_pick rfl rfl (lt rfl)) rfl rfl rfl rfl (lt rfl) ?_
      refine sq (f_pick rfl rfl (lt rfl)) rfl rfl ?_
      refine sq (f_move rfl (lt rfl)) rfl rfl ?_
      refine sq_yes (f_move rfl (lt rfl)) rfl rfl rfl rfl (lt rfl) ?_
      refine sq_yes (f_bin rfl rfl (bT (beq_eq_false_iff_ne.mpr (by omega))) (lt rfl)) rfl rfl rfl rfl (lt rfl) ?_
      refine sq (f_pick rfl rfl (lt rfl)) rfl rfl ?_
      refine sq (f_assign rfl (lt rfl)) rfl rfl ?_
      refine hits_nil ?_
      refine to_next ?_
      refine hits_ret ?_
      exact hits_done (.inl rfl) rfl rfl (by rw [ltr_is, decide_eq_false (by omega)]; rfl)

set_option maxRecDepth 100000 in
theorem rrun_c (s : List UInt8) {i : Nat} (hs : s.length ≤ 65536) (hi : i ≤ s.length) : CallsP Tryz.prog Lw 204 [.sc (.string (B s)), .sc (.int .i64 (i : Int))] (.sc (.int .i64 (runL s i : Int))) := by
  refine callsP_of gs_lw Tryz.func204 rfl Tryz.ntmps204 rfl fun w0 S0 stab => ?_
  refine hits_seq ?_
  refine hits_region ?_
  refine sq (f_assign rfl (lt rfl)) rfl rfl ?_
  refine hits_nil ?_
  refine to_next ?_
  refine hits_seq ?_
  refine hits_block ?_
  refine hits_loop (fun j : Nat => [(.slot 0, some (.d (.sc (.string (B s))))), (.slot 1, some (.d (.sc (.int .i64 (j : Int)))))]) (fun j : Nat => j ≤ s.length ∧ runL s j = runL s i) (fun j : Nat => s.length - j) i ⟨hi, rfl⟩ ⟨rfl, rfl, trivial⟩ rfl ?_
  intro j hx
  obtain ⟨hj0, hJ⟩ := hx
  refine hits_seq ?_
  refine hits_seq ?_
  by_cases hj : j < s.length
  · obtain ⟨c, hat0⟩ : ∃ c, s[j]? = some c := ⟨_, List.getElem?_eq_getElem hj⟩
    have hat : (B s).data.toList[j]? = some c := hat0
    have hld := rletter7_c c
    have hdd := rdigit7_c c
    cases hl : ltr c
    · rw [hl] at hld
      cases hg : dgt c
      · rw [hg] at hdd
        have hal : ¬ aln c = true := by rw [aln, hl, hg]; decide
        refine hits_region ?_
        refine sq (f_move rfl (lt rfl)) rfl rfl ?_
        refine sq (f_move rfl (lt rfl)) rfl rfl ?_
        refine sq (f_lenStr rfl un9 (lt rfl)) rfl rfl ?_
        refine sq (f_bin rfl rfl (bT (decide_eq_true (by rw [B_size]; omega))) (lt rfl)) rfl rfl ?_
        refine sq (f_move rfl (lt rfl)) rfl rfl ?_
        refine sq_yes (f_move rfl (lt rfl)) rfl rfl rfl rfl (lt rfl) ?_
        refine sq_yes (f_move rfl (lt rfl)) rfl rfl rfl rfl (lt rfl) ?_
        refine sq_yes (f_idxS rfl rfl un9 hat (lt rfl)) rfl rfl rfl rfl (lt rfl) ?_
        refine sq_yes (f_call en207 rfl hld (lt rfl)) rfl rfl rfl rfl (lt rfl) ?_
        refine sq_yes (f_move rfl (lt rfl)) rfl rfl rfl rfl (lt rfl) ?_
        refine sq_yes (f_move rfl (lt rfl)) rfl rfl rfl rfl (lt rfl) ?_
        refine sq_yes (f_move rfl (lt rfl)) rfl rfl rfl rfl (lt rfl) ?_
        refine sq_yes (f_idxS rfl rfl un9 hat (lt rfl)) rfl rfl rfl rfl (lt rfl) ?_
        refine sq_yes (f_call en205 rfl hdd (lt rfl)) rfl rfl rfl rfl (lt rfl) ?_
        refine sq_yes (f_pick rfl rfl (lt rfl)) rfl rfl rfl rfl (lt rfl) ?_
        refine sq (f_pick rfl rfl (lt rfl)) rfl rfl ?_
        refine hits_nil ?_
        refine to_next ?_
        refine hits_cond rfl (fun c0 => absurd c0 Bool.false_ne_true) (fun c0 => ?_)
        refine hits_exit ?_
        refine to_exit ?_
        refine to_exit ?_
        refine in_hit rfl ?_
        refine to_next ?_
        refine hits_seq ?_
        refine hits_region ?_
        refine sq (f_move rfl (lt rfl)) rfl rfl ?_
        refine sq (f_assign rfl (lt rfl)) rfl rfl ?_
        refine hits_nil ?_
        refine to_next ?_
        refine hits_ret ?_
        exact hits_done (.inl rfl) rfl rfl (by rw [← hJ, rrun_stop hat0 hal]; rfl)
      · rw [hg] at hdd
        have hal : aln c = true := by rw [aln, hl, hg]; decide
        refine hits_region ?_
        refine sq (f_move rfl (lt rfl)) rfl rfl ?_
        refine sq (f_move rfl (lt rfl)) rfl rfl ?_
        refine sq (f_lenStr rfl un9 (lt rfl)) rfl rfl ?_
        refine sq (f_bin rfl rfl (bT (decide_eq_true (by rw [B_size]; omega))) (lt rfl)) rfl rfl ?_
        refine sq (f_move rfl (lt rfl)) rfl rfl ?_
        refine sq_yes (f_move rfl (lt rfl)) rfl rfl rfl rfl (lt rfl) ?_
        refine sq_yes (f_move rfl (lt rfl)) rfl rfl rfl rfl (lt rfl) ?_
        refine sq_yes (f_idxS rfl rfl un9 hat (lt rfl)) rfl rfl rfl rfl (lt rfl) ?_
        refine sq_yes (f_call en207 rfl hld (lt rfl)) rfl rfl rfl rfl (lt rfl) ?_
        refine sq_yes (f_move rfl (lt rfl)) rfl rfl rfl rfl (lt rfl) ?_
        refine sq_yes (f_move rfl (lt rfl)) rfl rfl rfl rfl (lt rfl) ?_
        refine sq_yes (f_move rfl (lt rfl)) rfl rfl rfl rfl (lt rfl) ?_
        refine sq_yes (f_idxS rfl rfl un9 hat (lt rfl)) rfl rfl rfl rfl (lt rfl) ?_
        refine sq_yes (f_call en205 rfl hdd (lt rfl)) rfl rfl rfl rfl (lt rfl) ?_
        refine sq_yes (f_pick rfl rfl (lt rfl)) rfl rfl rfl rfl (lt rfl) ?_
        refine sq (f_pick rfl rfl (lt rfl)) rfl rfl ?_
        refine hits_nil ?_
        refine to_next ?_
        refine hits_cond rfl (fun c0 => ?_) (fun c0 => absurd c0 Bool.false_ne_true.symm)
        refine hits_skip ?_
        refine to_next ?_
        refine hits_block ?_
        refine hits_region ?_
        refine sq (f_move rfl (lt rfl)) rfl rfl ?_
        refine sq (f_bin rfl rfl (iT (((IntWalk.i64_in _ (by omega)).trans (by omega) : _ = ((j + 1 : Nat) : Int)))) (lt rfl)) rfl rfl ?_
        refine sq (f_assign rfl (lt rfl)) rfl rfl ?_
        refine hits_nil ?_
        refine in_next ?_
        refine to_next ?_
        refine round_end (j + 1) ⟨by omega, by rw [rrun_more hat0 hal]; exact hJ⟩ (by omega) ⟨rfl, rfl, trivial⟩ rfl
    · rw [hl] at hld
      have hal : aln c = true := by rw [aln, hl, Bool.or_true]
      refine hits_region ?_
      refine sq (f_move rfl (lt rfl)) rfl rfl ?_
      refine sq (f_move rfl (lt rfl)) rfl rfl ?_
      refine sq (f_lenStr rfl un9 (lt rfl)) rfl rfl ?_
      refine sq (f_bin rfl rfl (bT (decide_eq_true (by rw [B_size]; omega))) (lt rfl)) rfl rfl ?_
      refine sq (f_move rfl (lt rfl)) rfl rfl ?_
      refine sq_yes (f_move rfl (lt rfl)) rfl rfl rfl rfl (lt rfl) ?_
      refine sq_yes (f_move rfl (lt rfl)) rfl rfl rfl rfl (lt rfl) ?_
      refine sq_yes (f_idxS rfl rfl un9 hat (lt rfl)) rfl rfl rfl rfl (lt rfl) ?_
      refine sq_yes (f_call en207 rfl hld (lt rfl)) rfl rfl rfl rfl (lt rfl) ?_
      refine sq_yes (f_move rfl (lt rfl)) rfl rfl rfl rfl (lt rfl) ?_
      refine sq_no rfl rfl rfl rfl rfl (lt rfl) (lt rfl) ?_
      refine sq_no rfl rfl rfl rfl rfl (lt rfl) (lt rfl) ?_
      refine sq_no rfl rfl rfl rfl rfl (lt rfl) (lt rfl) ?_
      refine sq_no rfl rfl rfl rfl rfl (lt rfl) (lt rfl) ?_
      refine sq_yes (f_pick rfl rfl (lt rfl)) rfl rfl rfl rfl (lt rfl) ?_
      refine sq (f_pick rfl rfl (lt rfl)) rfl rfl ?_
      refine hits_nil ?_
      refine to_next ?_
      refine hits_cond rfl (fun c0 => ?_) (fun c0 => absurd c0 Bool.false_ne_true.symm)
      refine hits_skip ?_
      refine to_next ?_
      refine hits_block ?_
      refine hits_region ?_
      refine sq (f_move rfl (lt rfl)) rfl rfl ?_
      refine sq (f_bin rfl rfl (iT (((IntWalk.i64_in _ (by omega)).trans (by omega) : _ = ((j + 1 : Nat) : Int)))) (lt rfl)) rfl rfl ?_
      refine sq (f_assign rfl (lt rfl)) rfl rfl ?_
      refine hits_nil ?_
      refine in_next ?_
      refine to_next ?_
      refine round_end (j + 1) ⟨by omega, by rw [rrun_more hat0 hal]; exact hJ⟩ (by omega) ⟨rfl, rfl, trivial⟩ rfl
  · refine hits_region ?_
    refine sq (f_move rfl (lt rfl)) rfl rfl ?_
    refine sq (f_move rfl (lt rfl)) rfl rfl ?_
    refine sq (f_lenStr rfl un9 (lt rfl)) rfl rfl ?_
    refine sq (f_bin rfl rfl (bT (decide_eq_false (by rw [B_size]; omega))) (lt rfl)) rfl rfl ?_
    refine sq (f_move rfl (lt rfl)) rfl rfl ?_
    refine sq_no rfl rfl rfl rfl rfl (lt rfl) (lt rfl) ?_
    refine sq_no rfl rfl rfl rfl rfl (lt rfl) (lt rfl) ?_
    refine sq_no rfl rfl rfl rfl rfl (lt rfl) (lt rfl) ?_
    refine sq_no rfl rfl rfl rfl rfl (lt rfl) (lt rfl) ?_
    refine sq_no rfl rfl rfl rfl rfl (lt rfl) (lt rfl) ?_
    refine sq_no rfl rfl rfl rfl rfl (lt rfl) (lt rfl) ?_
    refine sq_no rfl rfl rfl rfl rfl (lt rfl) (lt rfl) ?_
    refine sq_no rfl rfl rfl rfl rfl (lt rfl) (lt rfl) ?_
    refine sq_no rfl rfl rfl rfl rfl (lt rfl) (lt rfl) ?_
    refine sq_no rfl rfl rfl rfl rfl (lt rfl) (lt rfl) ?_
    refine sq (f_pick rfl rfl (lt rfl)) rfl rfl ?_
    refine hits_nil ?_
    refine to_next ?_
    refine hits_cond rfl (fun c0 => absurd c0 Bool.false_ne_true) (fun c0 => ?_)
    refine hits_exit ?_
    refine to_exit ?_
    refine to_exit ?_
    refine in_hit rfl ?_
    refine to_next ?_
    refine hits_seq ?_
    refine hits_region ?_
    refine sq (f_move rfl (lt rfl)) rfl rfl ?_
    refine sq (f_assign rfl (lt rfl)) rfl rfl ?_
    refine hits_nil ?_
    refine to_next ?_
    refine hits_ret ?_
    exact hits_done (.inl rfl) rfl rfl (by rw [← hJ, rrun_end (by omega)]; rfl)

set_option maxRecDepth 100000 in
theorem rdigits7_c (s : List UInt8) (hs : s.length ≤ 65536) : CallsP Tryz.prog Lw 225 [.sc (.string (B s))] (.sc (.bool (s.all dgt))) := by
  refine callsP_of gs_lw Tryz.func225 rfl Tryz.ntmps225 rfl fun w0 S0 stab => ?_
  refine hits_seq ?_
  refine hits_region ?_
  refine sq (f_assign rfl (lt rfl)) rfl rfl ?_
  refine hits_nil ?_
  refine to_next ?_
  refine hits_seq ?_
  refine hits_seq ?_
  refine hits_region ?_
  refine sq (f_assign rfl (lt rfl)) rfl rfl ?_
  refine hits_nil ?_
  refine to_next ?_
  refine hits_block ?_
  refine hits_loop (fun j : Nat => [(.slot 0, some (.d (.sc (.string (B s))))), (.slot 3, some (.d (.sc (.int .i64 (j : Int)))))]) (fun j : Nat => j ≤ s.length ∧ (s.take j).all dgt = true) (fun j : Nat => s.length - j) 0 ⟨Nat.zero_le _, rfl⟩ ⟨rfl, rfl, trivial⟩ rfl ?_
  intro j hx
  obtain ⟨hj0, hJ⟩ := hx
  refine hits_seq ?_
  refine hits_seq ?_
  by_cases hj : j < s.length
  · obtain ⟨c, hat0⟩ : ∃ c, s[j]? = some c := ⟨_, List.getElem?_eq_getElem hj⟩
    have hat : (B s).data.toList[j]? = some c := hat0
    have hdd := rdigit7_c c
    cases hg : dgt c
    · rw [hg] at hdd
      have hno : s.all dgt = false := by rw [Bool.eq_false_iff]; intro hc; have := List.all_eq_true.mp hc c (List.mem_of_getElem? hat0); rw [hg] at this; cases this
      refine hits_region ?_
      refine sq (f_move rfl (lt rfl)) rfl rfl ?_
      refine sq (f_move rfl (lt rfl)) rfl rfl ?_
      refine sq (f_lenStr rfl un9 (lt rfl)) rfl rfl ?_
      refine sq (f_bin rfl rfl (bT (decide_eq_true (by rw [B_size]; omega))) (lt rfl)) rfl rfl ?_
      refine hits_nil ?_
      refine to_next ?_
      refine hits_cond rfl (fun c0 => ?_) (fun c0 => absurd c0 Bool.false_ne_true.symm)
      refine hits_skip ?_
      refine to_next ?_
      refine hits_seq ?_
      refine hits_block ?_
      refine hits_seq ?_
      refine hits_region ?_
      refine sq (f_move rfl (lt rfl)) rfl rfl ?_
      refine sq (f_move rfl (lt rfl)) rfl rfl ?_
      refine sq (f_idxS rfl rfl un9 hat (lt rfl)) rfl rfl ?_
      refine sq (f_call en205 rfl hdd (lt rfl)) rfl rfl ?_
      refine sq (f_un rfl rfl (lt rfl)) rfl rfl ?_
      refine hits_nil ?_
      refine to_next ?_
      refine hits_cond rfl (fun c1 => ?_) (fun c1 => absurd c1 Bool.false_ne_true.symm)
      refine hits_seq ?_
      refine hits_region ?_
      refine sq (f_assign rfl (lt rfl)) rfl rfl ?_
      refine hits_nil ?_
      refine to_next ?_
      refine hits_ret ?_
      refine in_ret ?_
      refine to_ret ?_
      refine to_ret ?_
      refine in_ret ?_
      refine to_ret ?_
      exact hits_done (.inl rfl) rfl rfl (by rw [hno]; rfl)
    · rw [hg] at hdd
      refine hits_region ?_
      refine sq (f_move rfl (lt rfl)) rfl rfl ?_
      refine sq (f_move rfl (lt rfl)) rfl rfl ?_
      refine sq (f_lenStr rfl un9 (lt rfl)) rfl rfl ?_
      refine sq (f_bin rfl rfl (bT (decide_eq_true (by rw [B_size]; omega))) (lt rfl)) rfl rfl ?_
      refine hits_nil ?_
      refine to_next ?_
      refine hits_cond rfl (fun c0 => ?_) (fun c0 => absurd c0 Bool.false_ne_true.symm)
      refine hits_skip ?_
      refine to_next ?_
      refine hits_seq ?_
      refine hits_block ?_
      refine hits_seq ?_
      refine hits_region ?_
      refine sq (f_move rfl (lt rfl)) rfl rfl ?_
      refine sq (f_move rfl (lt rfl)) rfl rfl ?_
      refine sq (f_idxS rfl rfl un9 hat (lt rfl)) rfl rfl ?_
      refine sq (f_call en205 rfl hdd (lt rfl)) rfl rfl ?_
      refine sq (f_un rfl rfl (lt rfl)) rfl rfl ?_
      refine hits_nil ?_
      refine to_next ?_
      refine hits_cond rfl (fun c1 => absurd c1 Bool.false_ne_true) (fun c1 => ?_)
      refine hits_skip ?_
      refine in_next ?_
      refine to_next ?_
      refine hits_region ?_
      refine sq (f_move rfl (lt rfl)) rfl rfl ?_
      refine sq (f_bin rfl rfl (iT (((IntWalk.i64_in _ (by omega)).trans (by omega) : _ = ((j + 1 : Nat) : Int)))) (lt rfl)) rfl rfl ?_
      refine sq (f_assign rfl (lt rfl)) rfl rfl ?_
      refine hits_nil ?_
      refine to_next ?_
      refine round_end (j + 1) ⟨by omega, rtake_all hat0 hJ hg⟩ (by omega) ⟨rfl, rfl, trivial⟩ rfl
  · have hyes : s.all dgt = true := by rw [← List.take_of_length_le (show s.length ≤ j by omega)]; exact hJ
    refine hits_region ?_
    refine sq (f_move rfl (lt rfl)) rfl rfl ?_
    refine sq (f_move rfl (lt rfl)) rfl rfl ?_
    refine sq (f_lenStr rfl un9 (lt rfl)) rfl rfl ?_
    refine sq (f_bin rfl rfl (bT (decide_eq_false (by rw [B_size]; omega))) (lt rfl)) rfl rfl ?_
    refine hits_nil ?_
    refine to_next ?_
    refine hits_cond rfl (fun c0 => absurd c0 Bool.false_ne_true) (fun c0 => ?_)
    refine hits_exit ?_
    refine to_exit ?_
    refine to_exit ?_
    refine in_hit rfl ?_
    refine to_next ?_
    refine hits_seq ?_
    refine hits_region ?_
    refine sq (f_assign rfl (lt rfl)) rfl rfl ?_
    refine hits_nil ?_
    refine to_next ?_
    refine hits_ret ?_
    exact hits_done (.inl rfl) rfl rfl (by rw [hyes]; rfl)

set_option maxRecDepth 100000 in
theorem rdig12_c {n : Nat} (hn : n < 1000000000000) : CallsP Tryz.prog Lw 250 [.sc (.int .i64 (n : Int))] (.sc (.string (B (Lib.decDigits n)))) := by
  refine callsP_of gs_lw Tryz.func250 rfl Tryz.ntmps250 rfl fun w0 S0 stab => ?_
  refine hits_seq ?_
  refine hits_region ?_
  refine sq (f_assign rfl (lt rfl)) rfl rfl ?_
  refine hits_nil ?_
  refine to_next ?_
  refine hits_seq ?_
  refine hits_region ?_
  refine sq (f_assign rfl (lt rfl)) rfl rfl ?_
  refine hits_nil ?_
  refine to_next ?_
  refine hits_seq ?_
  refine hits_block ?_
  refine hits_loop (fun x : Nat × List UInt8 => [(.slot 0, some (.d (.sc (.int .i64 (x.1 : Int))))), (.slot 3, some (.d (.sc (.string (B x.2)))))]) (fun x : Nat × List UInt8 => x.1 < 1000000000000 ∧ Lib.decDigits x.1 ++ x.2 = Lib.decDigits n) (fun x : Nat × List UInt8 => x.1) (n, []) ⟨hn, by simp⟩ ⟨rfl, rfl, trivial⟩ rfl ?_
  intro x hx
  obtain ⟨m, acc⟩ := x
  obtain ⟨hm, hJ⟩ := hx
  change m < 1000000000000 at hm
  change Lib.decDigits m ++ acc = Lib.decDigits n at hJ
  change Hits _ [(.slot 0, some (.d (.sc (.int .i64 (m : Int))))), (.slot 3, some (.d (.sc (.string (B acc)))))] _
  refine hits_seq ?_
  refine hits_seq ?_
  by_cases h9 : 9 < m
  · have hacc := dec_len hJ (by omega)
    refine hits_region ?_
    refine sq (f_move rfl (lt rfl)) rfl rfl ?_
    refine sq (f_bin rfl rfl (bT (decide_eq_true (by omega))) (lt rfl)) rfl rfl ?_
    refine hits_nil ?_
    refine to_next ?_
    refine hits_cond rfl (fun c0 => ?_) (fun c0 => absurd c0 Bool.false_ne_true.symm)
    refine hits_skip ?_
    refine to_next ?_
    refine hits_block ?_
    refine hits_seq ?_
    refine hits_region ?_
    refine sq (f_move rfl (lt rfl)) rfl rfl ?_
    refine sq (f_remI rfl rfl (by decide) (by rw [Int.tmod_eq_emod_of_nonneg (by omega)]; omega : _ = ((m % 10 : Nat) : Int)) (lt rfl)) rfl rfl ?_
    refine sq (f_move rfl (lt rfl)) rfl rfl ?_
    refine sq (f_remI rfl rfl (by decide) (by rw [Int.tmod_eq_emod_of_nonneg (by omega)]; omega : _ = ((m % 10 : Nat) : Int)) (lt rfl)) rfl rfl ?_
    refine sq (f_bin rfl rfl (iT ((IntWalk.i64_in _ (by omega) : _ = ((m % 10 : Nat) : Int) + 1))) (lt rfl)) rfl rfl ?_
    refine sq (f_sliceStr rfl rfl rfl un9 (by omega) (by omega) (by have : (⟨#[48, 49, 50, 51, 52, 53, 54, 55, 56, 57]⟩ : ByteArray).size = 10 := rfl; omega) (lt rfl)) rfl rfl ?_
    refine sq (f_move rfl (lt rfl)) rfl rfl ?_
    refine sq (f_catI rfl rfl (dig_size m acc hacc) (dig_cat m acc) (lt rfl)) rfl rfl ?_
    refine sq (f_assign rfl (lt rfl)) rfl rfl ?_
    refine hits_nil ?_
    refine to_next ?_
    refine hits_region ?_
    refine sq (f_move rfl (lt rfl)) rfl rfl ?_
    refine sq (f_divI rfl rfl (by decide) (by rw [Int.tdiv_eq_ediv_of_nonneg (by omega), IntWalk.i64_in _ (by omega)]; omega : _ = ((m / 10 : Nat) : Int)) (lt rfl)) rfl rfl ?_
    refine sq (f_assign rfl (lt rfl)) rfl rfl ?_
    refine hits_nil ?_
    refine in_next ?_
    refine to_next ?_
    refine round_end (m / 10, UInt8.ofNat (48 + m % 10) :: acc) ⟨by simp only; omega, by show Lib.decDigits (m / 10) ++ UInt8.ofNat (48 + m % 10) :: acc = _; rw [← hJ, dec_more (v := m) (by omega), List.append_assoc]; rfl⟩ (by simp only; omega) ⟨rfl, rfl, trivial⟩ rfl
  · have hacc := dec_len hJ (by omega)
    refine hits_region ?_
    refine sq (f_move rfl (lt rfl)) rfl rfl ?_
    refine sq (f_bin rfl rfl (bT (decide_eq_false (by omega))) (lt rfl)) rfl rfl ?_
    refine hits_nil ?_
    refine to_next ?_
    refine hits_cond rfl (fun c0 => absurd c0 Bool.false_ne_true) (fun c0 => ?_)
    refine hits_exit ?_
    refine to_exit ?_
    refine to_exit ?_
    refine in_hit rfl ?_
    refine to_next ?_
    refine hits_seq ?_
    refine hits_region ?_
    refine sq (f_move rfl (lt rfl)) rfl rfl ?_
    refine sq (f_move rfl (lt rfl)) rfl rfl ?_
    refine sq (f_bin rfl rfl (iT ((IntWalk.i64_in _ (by omega) : _ = (m : Int) + 1))) (lt rfl)) rfl rfl ?_
    refine sq (f_sliceStr rfl rfl rfl un9 (by omega) (by omega) (by have : (⟨#[48, 49, 50, 51, 52, 53, 54, 55, 56, 57]⟩ : ByteArray).size = 10 := rfl; omega) (lt rfl)) rfl rfl ?_
    refine sq (f_move rfl (lt rfl)) rfl rfl ?_
    refine sq (f_catI rfl rfl (dig_size9 acc (by omega) hacc) (dig_cat9 acc (by omega)) (lt rfl)) rfl rfl ?_
    refine sq (f_assign rfl (lt rfl)) rfl rfl ?_
    refine hits_nil ?_
    refine to_next ?_
    refine hits_ret ?_
    exact hits_done (.inl rfl) rfl rfl (by rw [← hJ, dec_last9 (by omega)]; rfl)

set_option maxRecDepth 100000 in
theorem rwhole_c (s : List UInt8) (hs : s.length ≤ 65536) (hd : s.all dgt = true) : CallsP Tryz.prog Lw 226 [.sc (.string (B s))] (.tup [.sc (.int .i64 (wholeV s : Int)), .sc (.bool (wholeB s))]) := by
  refine callsP_of gs_lw Tryz.func226 rfl Tryz.ntmps226 rfl fun w0 S0 stab => ?_
  refine hits_seq ?_
  refine hits_region ?_
  refine sq (f_assign rfl (lt rfl)) rfl rfl ?_
  refine sq (f_assign rfl (lt rfl)) rfl rfl ?_
  refine hits_nil ?_
  refine to_next ?_
  refine hits_seq ?_
  refine hits_region ?_
  refine sq (f_assign rfl (lt rfl)) rfl rfl ?_
  refine hits_nil ?_
  refine to_next ?_
  refine hits_seq ?_
  refine hits_seq ?_
  refine hits_region ?_
  refine sq (f_assign rfl (lt rfl)) rfl rfl ?_
  refine hits_nil ?_
  refine to_next ?_
  refine hits_block ?_
  refine hits_loop (fun i : Nat => [(.slot 0, some (.d (.sc (.string (B s))))), (.slot 4, some (.d (.sc (.int .i64 (valL (s.take i) : Int))))), (.slot 5, some (.d (.sc (.int .i64 (i : Int)))))]) (fun i : Nat => i ≤ s.length ∧ i ≤ 12 ∧ valL (s.take i) < 10 ^ i) (fun i : Nat => 12 - i) 0 ⟨Nat.zero_le _, by decide, by show valL [] < 1; decide⟩ ⟨rfl, rfl, rfl, trivial⟩ rfl ?_
  intro i hx
  obtain ⟨hi1, hi2, hlt⟩ := hx
  refine hits_seq ?_
  refine hits_seq ?_
  by_cases hi : i < s.length
  · by_cases hi12 : i < 12
    · obtain ⟨c, hat0⟩ : ∃ c, s[i]? = some c := ⟨_, List.getElem?_eq_getElem hi⟩
      have hat : (B s).data.toList[i]? = some c := hat0
      have hdg := List.all_eq_true.mp hd c (List.mem_of_getElem? hat0)
      obtain ⟨hc1, hc2⟩ := dgt_is hdg
      have hdd := rdigit7_c c
      rw [hdg] at hdd
      have hst := rval_step hat0
      have hp : 10 ^ (i + 1) = 10 ^ i * 10 := Nat.pow_succ _ _
      have hp2 : 10 ^ (i + 1) ≤ 10 ^ 12 := Nat.pow_le_pow_right (by decide) (by omega)
      refine hits_region ?_
      refine sq (f_move rfl (lt rfl)) rfl rfl ?_
      refine sq (f_move rfl (lt rfl)) rfl rfl ?_
      refine sq (f_lenStr rfl un9 (lt rfl)) rfl rfl ?_
      refine sq (f_bin rfl rfl (bT (decide_eq_true (by rw [B_size]; omega))) (lt rfl)) rfl rfl ?_
      refine sq (f_move rfl (lt rfl)) rfl rfl ?_
      refine sq_yes (f_move rfl (lt rfl)) rfl rfl rfl rfl (lt rfl) ?_
      refine sq_yes (f_bin rfl rfl (bT (decide_eq_true (by omega))) (lt rfl)) rfl rfl rfl rfl (lt rfl) ?_
      refine sq (f_pick rfl rfl (lt rfl)) rfl rfl ?_
      refine hits_nil ?_
      refine to_next ?_
      refine hits_cond rfl (fun c0 => ?_) (fun c0 => absurd c0 Bool.false_ne_true.symm)
      refine hits_skip ?_
      refine to_next ?_
      refine hits_seq ?_
      refine hits_block ?_
      refine hits_seq ?_
      refine hits_seq ?_
      refine hits_region ?_
      refine sq (f_move rfl (lt rfl)) rfl rfl ?_
      refine sq (f_move rfl (lt rfl)) rfl rfl ?_
      refine sq (f_idxS rfl rfl un9 hat (lt rfl)) rfl rfl ?_
      refine sq (f_call en205 rfl hdd (lt rfl)) rfl rfl ?_
      refine sq (f_un rfl rfl (lt rfl)) rfl rfl ?_
      refine hits_nil ?_
      refine to_next ?_
      refine hits_cond rfl (fun c1 => absurd c1 Bool.false_ne_true) (fun c1 => ?_)
      refine hits_skip ?_
      refine to_next ?_
      refine hits_region ?_
      refine sq (f_move rfl (lt rfl)) rfl rfl ?_
      refine sq (f_bin rfl rfl (iT (((IntWalk.i64_in _ (by omega)).trans (by omega) : _ = ((10 * valL (s.take i) : Nat) : Int)))) (lt rfl)) rfl rfl ?_
      refine sq (f_move rfl (lt rfl)) rfl rfl ?_
      refine sq (f_move rfl (lt rfl)) rfl rfl ?_
      refine sq (f_idxS rfl rfl un9 hat (lt rfl)) rfl rfl ?_
      refine sq (f_bin rfl rfl (iT ((u8_sub c.toNat_lt hc1 : _ = ((c.toNat - 48 : Nat) : Int)))) (lt rfl)) rfl rfl ?_
      refine sq (f_convI rfl us5 un3 (IntWalk.i64_in _ (by omega)) (lt rfl)) rfl rfl ?_
      refine sq (f_bin rfl rfl (iT (((IntWalk.i64_in _ (by omega)).trans (by rw [hst]; omega) : _ = ((valL (s.take (i + 1)) : Nat) : Int)))) (lt rfl)) rfl rfl ?_
      refine sq (f_assign rfl (lt rfl)) rfl rfl ?_
      refine hits_nil ?_
      refine in_next ?_
      refine to_next ?_
      refine hits_region ?_
      refine sq (f_move rfl (lt rfl)) rfl rfl ?_
      refine sq (f_bin rfl rfl (iT (((IntWalk.i64_in _ (by omega)).trans (by omega) : _ = ((i + 1 : Nat) : Int)))) (lt rfl)) rfl rfl ?_
      refine sq (f_assign rfl (lt rfl)) rfl rfl ?_
      refine hits_nil ?_
      refine to_next ?_
      refine round_end (i + 1) ⟨by omega, by omega, by rw [hst]; omega⟩ (by omega) ⟨rfl, rfl, rfl, trivial⟩ rfl
    · have hie : i = 12 := by omega
      have hti : s.take i = s.take 12 := by rw [hie]
      have hv12 : wholeV s < 1000000000000 := by unfold wholeV; rw [← hti]; exact Nat.lt_of_lt_of_le hlt (Nat.pow_le_pow_right (by decide) hi2)
      have hrd := rdig12_c hv12
      unfold wholeV at hrd
      rw [← hti] at hrd
      refine hits_region ?_
      refine sq (f_move rfl (lt rfl)) rfl rfl ?_
      refine sq (f_move rfl (lt rfl)) rfl rfl ?_
      refine sq (f_lenStr rfl un9 (lt rfl)) rfl rfl ?_
      refine sq (f_bin rfl rfl (bT (decide_eq_true (by rw [B_size]; omega))) (lt rfl)) rfl rfl ?_
      refine sq (f_move rfl (lt rfl)) rfl rfl ?_
      refine sq_yes (f_move rfl (lt rfl)) rfl rfl rfl rfl (lt rfl) ?_
      refine sq_yes (f_bin rfl rfl (bT (decide_eq_false (by omega))) (lt rfl)) rfl rfl rfl rfl (lt rfl) ?_
      refine sq (f_pick rfl rfl (lt rfl)) rfl rfl ?_
      refine hits_nil ?_
      refine to_next ?_
      refine hits_cond rfl (fun c0 => absurd c0 Bool.false_ne_true) (fun c0 => ?_)
      refine hits_exit ?_
      refine to_exit ?_
      refine to_exit ?_
      refine in_hit rfl ?_
      refine to_next ?_
      refine hits_seq ?_
      by_cases hle : valL (s.take i) ≤ 2147483647
      · refine hits_region ?_
        refine sq (f_move rfl (lt rfl)) rfl rfl ?_
        refine sq (f_move rfl (lt rfl)) rfl rfl ?_
        refine sq (f_bin rfl rfl (bT (decide_eq_true (by omega))) (lt rfl)) rfl rfl ?_
        refine sq (f_move rfl (lt rfl)) rfl rfl ?_
        refine sq_yes (f_move rfl (lt rfl)) rfl rfl rfl rfl (lt rfl) ?_
        refine sq_yes (f_call en250 rfl hrd (lt rfl)) rfl rfl rfl rfl (lt rfl) ?_
        refine sq_yes (f_move rfl (lt rfl)) rfl rfl rfl rfl (lt rfl) ?_
        refine sq_yes (f_bin rfl rfl (bT ((B_beq _ _))) (lt rfl)) rfl rfl rfl rfl (lt rfl) ?_
        refine sq (f_pick rfl rfl (lt rfl)) rfl rfl ?_
        refine sq (f_assign rfl (lt rfl)) rfl rfl ?_
        refine sq (f_assign rfl (lt rfl)) rfl rfl ?_
        refine hits_nil ?_
        refine to_next ?_
        refine hits_ret ?_
        exact hits_done (.inl rfl) rfl rfl (by rw [wholeB, wholeV, ← hti, decide_eq_true hle, Bool.true_and]; rfl)
      · refine hits_region ?_
        refine sq (f_move rfl (lt rfl)) rfl rfl ?_
        refine sq (f_move rfl (lt rfl)) rfl rfl ?_
        refine sq (f_bin rfl rfl (bT (decide_eq_false (by omega))) (lt rfl)) rfl rfl ?_
        refine sq (f_move rfl (lt rfl)) rfl rfl ?_
        refine sq_no rfl rfl rfl rfl rfl (lt rfl) (lt rfl) ?_
        refine sq_no rfl rfl rfl rfl rfl (lt rfl) (lt rfl) ?_
        refine sq_no rfl rfl rfl rfl rfl (lt rfl) (lt rfl) ?_
        refine sq_no rfl rfl rfl rfl rfl (lt rfl) (lt rfl) ?_
        refine sq (f_pick rfl rfl (lt rfl)) rfl rfl ?_
        refine sq (f_assign rfl (lt rfl)) rfl rfl ?_
        refine sq (f_assign rfl (lt rfl)) rfl rfl ?_
        refine hits_nil ?_
        refine to_next ?_
        refine hits_ret ?_
        exact hits_done (.inl rfl) rfl rfl (by rw [wholeB, wholeV, ← hti, decide_eq_false hle, Bool.false_and]; rfl)
  · have hti := whole_take hi hi1 hi2
    have hv12 : wholeV s < 1000000000000 := by unfold wholeV; rw [← hti]; exact Nat.lt_of_lt_of_le hlt (Nat.pow_le_pow_right (by decide) hi2)
    have hrd := rdig12_c hv12
    unfold wholeV at hrd
    rw [← hti] at hrd
    refine hits_region ?_
    refine sq (f_move rfl (lt rfl)) rfl rfl ?_
    refine sq (f_move rfl (lt rfl)) rfl rfl ?_
    refine sq (f_lenStr rfl un9 (lt rfl)) rfl rfl ?_
    refine sq (f_bin rfl rfl (bT (decide_eq_false (by rw [B_size]; omega))) (lt rfl)) rfl rfl ?_
    refine sq (f_move rfl (lt rfl)) rfl rfl ?_
    refine sq_no rfl rfl rfl rfl rfl (lt rfl) (lt rfl) ?_
    refine sq_no rfl rfl rfl rfl rfl (lt rfl) (lt rfl) ?_
    refine sq (f_pick rfl rfl (lt rfl)) rfl rfl ?_
    refine hits_nil ?_
    refine to_next ?_
    refine hits_cond rfl (fun c0 => absurd c0 Bool.false_ne_true) (fun c0 => ?_)
    refine hits_exit ?_
    refine to_exit ?_
    refine to_exit ?_
    refine in_hit rfl ?_
    refine to_next ?_
    refine hits_seq ?_
    by_cases hle : valL (s.take i) ≤ 2147483647
    · refine hits_region ?_
      refine sq (f_move rfl (lt rfl)) rfl rfl ?_
      refine sq (f_move rfl (lt rfl)) rfl rfl ?_
      refine sq (f_bin rfl rfl (bT (decide_eq_true (by omega))) (lt rfl)) rfl rfl ?_
      refine sq (f_move rfl (lt rfl)) rfl rfl ?_
      refine sq_yes (f_move rfl (lt rfl)) rfl rfl rfl rfl (lt rfl) ?_
      refine sq_yes (f_call en250 rfl hrd (lt rfl)) rfl rfl rfl rfl (lt rfl) ?_
      refine sq_yes (f_move rfl (lt rfl)) rfl rfl rfl rfl (lt rfl) ?_
      refine sq_yes (f_bin rfl rfl (bT ((B_beq _ _))) (lt rfl)) rfl rfl rfl rfl (lt rfl) ?_
      refine sq (f_pick rfl rfl (lt rfl)) rfl rfl ?_
      refine sq (f_assign rfl (lt rfl)) rfl rfl ?_
      refine sq (f_assign rfl (lt rfl)) rfl rfl ?_
      refine hits_nil ?_
      refine to_next ?_
      refine hits_ret ?_
      exact hits_done (.inl rfl) rfl rfl (by rw [wholeB, wholeV, ← hti, decide_eq_true hle, Bool.true_and]; rfl)
    · refine hits_region ?_
      refine sq (f_move rfl (lt rfl)) rfl rfl ?_
      refine sq (f_move rfl (lt rfl)) rfl rfl ?_
      refine sq (f_bin rfl rfl (bT (decide_eq_false (by omega))) (lt rfl)) rfl rfl ?_
      refine sq (f_move rfl (lt rfl)) rfl rfl ?_
      refine sq_no rfl rfl rfl rfl rfl (lt rfl) (lt rfl) ?_
      refine sq_no rfl rfl rfl rfl rfl (lt rfl) (lt rfl) ?_
      refine sq_no rfl rfl rfl rfl rfl (lt rfl) (lt rfl) ?_
      refine sq_no rfl rfl rfl rfl rfl (lt rfl) (lt rfl) ?_
      refine sq (f_pick rfl rfl (lt rfl)) rfl rfl ?_
      refine sq (f_assign rfl (lt rfl)) rfl rfl ?_
      refine sq (f_assign rfl (lt rfl)) rfl rfl ?_
      refine hits_nil ?_
      refine to_next ?_
      refine hits_ret ?_
      exact hits_done (.inl rfl) rfl rfl (by rw [wholeB, wholeV, ← hti, decide_eq_false hle, Bool.false_and]; rfl)

set_option maxRecDepth 100000 in
theorem rnumber_dig (s : List UInt8) (hs : s.length ≤ 65536) (hd : s.all dgt = true) : CallsP Tryz.prog Lw 206 [.sc (.string (B s))] (.tup [.agg [.sc (.int .u8 2), .sc (.string ByteArray.empty), .sc (.int .i64 64), .sc (.int .u64 0), .sc (.int .u64 (wholeV s : Int)), .sc (.int .i64 0)], .sc (.bool (wholeB s))]) := by
  have h1 := rdigits7_c s hs
  rw [hd] at h1
  have h2 := rwhole_c s hs hd
  have hv := wholeV_lt s hd
  refine callsP_of gs_lw Tryz.func206 rfl Tryz.ntmps206 rfl fun w0 S0 stab => ?_
  refine hits_seq ?_
  refine hits_region ?_
  refine sq (f_alloc zc77 (lt rfl)) rfl rfl ?_
  refine sq (f_assign rfl (lt rfl)) rfl rfl ?_
  refine hits_nil ?_
  refine to_next ?_
  refine hits_seq ?_
  refine hits_seq ?_
  refine hits_region ?_
  refine sq (f_move rfl (lt rfl)) rfl rfl ?_
  refine sq (f_call en225 rfl h1 (lt rfl)) rfl rfl ?_
  refine hits_nil ?_
  refine to_next ?_
  refine hits_cond rfl (fun c0 => ?_) (fun c0 => absurd c0 Bool.false_ne_true.symm)
  refine hits_seq ?_
  refine hits_region ?_
  refine sq (f_move rfl (lt rfl)) rfl rfl ?_
  refine sq (f_call en226 rfl h2 (lt rfl)) rfl rfl ?_
  refine sq (f_move rfl (lt rfl)) rfl rfl ?_
  refine sq (f_extract rfl rfl (lt rfl)) rfl rfl ?_
  refine sq (f_extract rfl rfl (lt rfl)) rfl rfl ?_
  refine sq (f_assign rfl (lt rfl)) rfl rfl ?_
  refine sq (f_assign rfl (lt rfl)) rfl rfl ?_
  refine hits_nil ?_
  refine to_next ?_
  refine hits_seq ?_
  refine hits_region ?_
  refine sq (f_move rfl (lt rfl)) rfl rfl ?_
  refine sq (f_convI rfl us3 un22 (wraps_u64 _ (by omega) (by omega)) (lt rfl)) rfl rfl ?_
  refine sq (f_build bu24 rfl (l := [.sc (.int .i64 64), .sc (.int .u64 0), .sc (.int .u64 (wholeV s : Int))]) rfl (lt rfl)) rfl rfl ?_
  refine sq (f_build bu77 rfl (l := [.sc (.int .u8 2), .sc (.string ByteArray.empty), .sc (.int .i64 64), .sc (.int .u64 0), .sc (.int .u64 (wholeV s : Int)), .sc (.int .i64 0)]) rfl (lt rfl)) rfl rfl ?_
  refine sq (f_move rfl (lt rfl)) rfl rfl ?_
  refine sq (f_store kd77 rfl rfl rfl rfl rfl) rfl rfl ?_
  refine sq (f_assign rfl (lt rfl)) rfl rfl ?_
  refine hits_nil ?_
  refine to_next ?_
  refine hits_ret ?_
  refine to_ret ?_
  exact hits_done (.inl rfl) rfl rfl rfl

set_option maxRecDepth 100000 in
theorem rnumber_yes (s : List UInt8) (hs : s.length ≤ 65536) (hd : s.all dgt = false) {w v : Nat} (hl : litOf (B s) = some (w, v)) : CallsP Tryz.prog Lw 206 [.sc (.string (B s))] (.tup [.agg [.sc (.int .u8 3), .sc (.string ByteArray.empty), .sc (.int .i64 (w : Int)), .sc (.int .u64 (hiOf v)), .sc (.int .u64 (loOf v)), .sc (.int .i64 0)], .sc (.bool true)]) := by
  have h1 := rdigits7_c s hs
  rw [hd] at h1
  have h2 := rread_yes hl
  refine callsP_of gs_lw Tryz.func206 rfl Tryz.ntmps206 rfl fun w0 S0 stab => ?_
  refine hits_seq ?_
  refine hits_region ?_
  refine sq (f_alloc zc77 (lt rfl)) rfl rfl ?_
  refine sq (f_assign rfl (lt rfl)) rfl rfl ?_
  refine hits_nil ?_
  refine to_next ?_
  refine hits_seq ?_
  refine hits_seq ?_
  refine hits_region ?_
  refine sq (f_move rfl (lt rfl)) rfl rfl ?_
  refine sq (f_call en225 rfl h1 (lt rfl)) rfl rfl ?_
  refine hits_nil ?_
  refine to_next ?_
  refine hits_cond rfl (fun c0 => absurd c0 Bool.false_ne_true) (fun c0 => ?_)
  refine hits_skip ?_
  refine to_next ?_
  refine hits_seq ?_
  refine hits_region ?_
  refine sq (f_move rfl (lt rfl)) rfl rfl ?_
  refine sq (f_call en227 rfl h2 (lt rfl)) rfl rfl ?_
  refine sq (f_move rfl (lt rfl)) rfl rfl ?_
  refine sq (f_extract rfl rfl (lt rfl)) rfl rfl ?_
  refine sq (f_extract rfl rfl (lt rfl)) rfl rfl ?_
  refine sq (f_alloc zc24 (lt rfl)) rfl rfl ?_
  refine sq (f_store kd24 rfl rfl rfl rfl rfl) rfl rfl ?_
  refine sq (f_assign rfl (lt rfl)) rfl rfl ?_
  refine hits_nil ?_
  refine to_next ?_
  refine hits_seq ?_
  refine hits_region ?_
  refine sq (f_load kd24 rfl rfl (lt rfl)) rfl rfl ?_
  refine sq (f_build bu77 rfl (l := [.sc (.int .u8 3), .sc (.string ByteArray.empty), .sc (.int .i64 (w : Int)), .sc (.int .u64 (hiOf v)), .sc (.int .u64 (loOf v)), .sc (.int .i64 0)]) rfl (lt rfl)) rfl rfl ?_
  refine sq (f_move rfl (lt rfl)) rfl rfl ?_
  refine sq (f_bin rfl rfl (bT (b' := true) rfl) (lt rfl)) rfl rfl ?_
  refine sq (f_store kd77 rfl rfl rfl rfl rfl) rfl rfl ?_
  refine sq (f_assign rfl (lt rfl)) rfl rfl ?_
  refine hits_nil ?_
  refine to_next ?_
  refine hits_ret ?_
  exact hits_done (.inl rfl) rfl rfl rfl

set_option maxRecDepth 100000 in
theorem rnumber_no (s : List UInt8) (hs : s.length ≤ 65536) (hd : s.all dgt = false) (hl : litOf (B s) = none) : CallsP Tryz.prog Lw 206 [.sc (.string (B s))] (.tup [.agg [.sc (.int .u8 3), .sc (.string ByteArray.empty), .sc (.int .i64 0), .sc (.int .u64 0), .sc (.int .u64 0), .sc (.int .i64 0)], .sc (.bool false)]) := by
  have h1 := rdigits7_c s hs
  rw [hd] at h1
  have h2 := rread_no (by rw [B_size]; omega) hl
  refine callsP_of gs_lw Tryz.func206 rfl Tryz.ntmps206 rfl fun w0 S0 stab => ?_
  refine hits_seq ?_
  refine hits_region ?_
  refine sq (f_alloc zc77 (lt rfl)) rfl rfl ?_
  refine sq (f_assign rfl (lt rfl)) rfl rfl ?_
  refine hits_nil ?_
  refine to_next ?_
  refine hits_seq ?_
  refine hits_seq ?_
  refine hits_region ?_
  refine sq (f_move rfl (lt rfl)) rfl rfl ?_
  refine sq (f_call en225 rfl h1 (lt rfl)) rfl rfl ?_
  refine hits_nil ?_
  refine to_next ?_
  refine hits_cond rfl (fun c0 => absurd c0 Bool.false_ne_true) (fun c0 => ?_)
  refine hits_skip ?_
  refine to_next ?_
  refine hits_seq ?_
  refine hits_region ?_
  refine sq (f_move rfl (lt rfl)) rfl rfl ?_
  refine sq (f_call en227 rfl h2 (lt rfl)) rfl rfl ?_
  refine sq (f_move rfl (lt rfl)) rfl rfl ?_
  refine sq (f_extract rfl rfl (lt rfl)) rfl rfl ?_
  refine sq (f_extract rfl rfl (lt rfl)) rfl rfl ?_
  refine sq (f_alloc zc24 (lt rfl)) rfl rfl ?_
  refine sq (f_store kd24 rfl rfl rfl rfl rfl) rfl rfl ?_
  refine sq (f_assign rfl (lt rfl)) rfl rfl ?_
  refine hits_nil ?_
  refine to_next ?_
  refine hits_seq ?_
  refine hits_region ?_
  refine sq (f_load kd24 rfl rfl (lt rfl)) rfl rfl ?_
  refine sq (f_build bu77 rfl (l := [.sc (.int .u8 3), .sc (.string ByteArray.empty), .sc (.int .i64 0), .sc (.int .u64 0), .sc (.int .u64 0), .sc (.int .i64 0)]) rfl (lt rfl)) rfl rfl ?_
  refine sq (f_move rfl (lt rfl)) rfl rfl ?_
  refine sq (f_bin rfl rfl (bT (b' := false) rfl) (lt rfl)) rfl rfl ?_
  refine sq (f_store kd77 rfl rfl rfl rfl rfl) rfl rfl ?_
  refine sq (f_assign rfl (lt rfl)) rfl rfl ?_
  refine hits_nil ?_
  refine to_next ?_
  refine hits_ret ?_
  exact hits_done (.inl rfl) rfl rfl rfl

end Go.Proofs.YtcaedggggkchiaaGreatDoor.Ln
