/- Words as texts, over data. -/
import Derived.Test.YtbgeejmhkmjfdaaGreatDoorAbWords
namespace Go.Proofs.YtbgeejmhkmjfdaaGreatDoor.Ln
open Go Go.RowKit Go.Ab Go.Proofs 
set_option linter.unusedVariables false
set_option linter.unusedSimpArgs false
theorem en17 : enters Tryz.prog 17 = true := by kernel_rfl
theorem kf37_2 : kf Tryz.prog 37 2 = some 2 := by kernel_rfl
theorem div10 {v : Nat} (h : v < 18446744073709551616) : IntKind.u64.wrap ((v : Int).tdiv 10) = ((v / 10 : Nat) : Int) := by
  rw [Int.tdiv_eq_ediv_of_nonneg (by omega), wraps_u64 _ (by omega) (by omega)]; omega
theorem dec_last {v : Nat} (h : v < 10) : Lib.decDigits v = [UInt8.ofNat (48 + v % 10)] := by
  rw [Lib.decDigits, dif_pos h, Nat.mod_eq_of_lt h]
theorem dec_more {v : Nat} (h : ¬ v < 10) : Lib.decDigits v = Lib.decDigits (v / 10) ++ [UInt8.ofNat (48 + v % 10)] := by
  rw [Lib.decDigits, dif_neg h]
theorem dec_le : ∀ (k v : Nat), v < 10 ^ (k + 1) → (Lib.decDigits v).length ≤ k + 1
  | 0, v, h => by rw [dec_last (by simpa using h)]; simp
  | k + 1, v, h => by
    by_cases h1 : v < 10
    · rw [dec_last h1]; simp
    · rw [dec_more h1]
      have := dec_le k (v / 10) (Nat.div_lt_of_lt_mul (by rw [Nat.pow_succ] at h; omega))
      simp; omega
theorem dec_len {u v : Nat} {acc : List UInt8} (hJ : Lib.decDigits v ++ acc = Lib.decDigits u) (hu : u < 18446744073709551616) : acc.length ≤ 20 := by
  have h1 := dec_le 19 u (Nat.lt_of_lt_of_le hu (by decide))
  rw [← hJ, List.length_append] at h1
  omega
theorem dig_at : ∀ d : Nat, d < 10 → (⟨#[48, 49, 50, 51, 52, 53, 54, 55, 56, 57]⟩ : ByteArray).extract d (d + 1) = B [UInt8.ofNat (48 + d)] := by decide +kernel
theorem dig_ext (v : Nat) : (⟨#[48, 49, 50, 51, 52, 53, 54, 55, 56, 57]⟩ : ByteArray).extract (((v % 10 : Nat) : Int)).toNat (((v % 10 : Nat) : Int) + 1).toNat = B [UInt8.ofNat (48 + v % 10)] := by
  rw [Int.toNat_natCast, show (((v % 10 : Nat) : Int) + 1).toNat = v % 10 + 1 from by omega]
  exact dig_at _ (Nat.mod_lt _ (by decide))
theorem dig_size (v : Nat) (acc : List UInt8) (h : acc.length ≤ 20) : ((⟨#[48, 49, 50, 51, 52, 53, 54, 55, 56, 57]⟩ : ByteArray).extract (((v % 10 : Nat) : Int)).toNat (((v % 10 : Nat) : Int) + 1).toNat).size + (B acc).size ≤ 9223372036854775807 := by
  rw [dig_ext, B_size, B_size]; simp; omega
theorem dig_cat (v : Nat) (acc : List UInt8) : (⟨#[48, 49, 50, 51, 52, 53, 54, 55, 56, 57]⟩ : ByteArray).extract (((v % 10 : Nat) : Int)).toNat (((v % 10 : Nat) : Int) + 1).toNat ++ B acc = B (UInt8.ofNat (48 + v % 10) :: acc) := by
  rw [dig_ext, B_app]; rfl
theorem bitD_of {w hi lo : Nat} (h : lo < 18446744073709551616) : bitD w (hi * 18446744073709551616 + lo) = .agg [.sc (.int .i64 (w : Int)), .sc (.int .u64 (hi : Int)), .sc (.int .u64 (lo : Int))] := by
  have e1 : hiOf (hi * 18446744073709551616 + lo) = (hi : Int) := by unfold hiOf; omega
  have e2 : loOf (hi * 18446744073709551616 + lo) = (lo : Int) := by unfold loOf; omega
  rw [bitD, e1, e2]
theorem wordD_at {a : List Wd} {i : Nat} {p : Wd} (h : a[i]? = some p) : (a.map wordD)[((i : Int)).toNat]? = some (wordD p) := by rw [Int.toNat_natCast, List.getElem?_map, h]; rfl
theorem take_succ {a : List Wd} {i : Nat} {p : Wd} (h : a[i]? = some p) : a.take (i + 1) = a.take i ++ [p] := by rw [List.take_add_one, h]; rfl
theorem nat_beq (a b : Nat) : ((a : Int) == (b : Int)) = decide (a = b) := by
  by_cases h : a = b
  · subst h; simp
  · rw [decide_eq_false h, beq_eq_false_iff_ne]; omega
theorem word_beq (p q : Wd) : (((p.k : Int) == (q.k : Int)) && (((B p.s).toList == (B q.s).toList) && ((((p.w : Int) == (q.w : Int)) && (((p.hi : Int) == (q.hi : Int)) && (((p.lo : Int) == (q.lo : Int)) && true))) && (((p.ln : Int) == (q.ln : Int)) && true)))) = decide (p = q) := by
  simp only [nat_beq, B_beq, Bool.and_true]
  cases p; cases q
  simp only [Wd.mk.injEq]
  rw [← Bool.decide_and, ← Bool.decide_and, ← Bool.decide_and, ← Bool.decide_and, ← Bool.decide_and]
  congr 1
  simp only [and_assoc]
def aliveL : List Wd := [⟨1, [97], 0, 0, 0, 0⟩, ⟨4, [60, 60], 0, 0, 0, 0⟩, ⟨3, [], 12, 0, 31, 0⟩, ⟨4, [59], 0, 0, 0, 0⟩, ⟨2, [], 64, 0, 7, 1⟩]
theorem alive_1 : W [97, 60, 60, 49, 50, 119, 49, 102, 59, 47, 47, 32, 115, 111, 10, 55] 0 = .inr aliveL := by decide +kernel
theorem alive_2 : W [97, 10, 10, 36] 0 = .inl 2 := by decide +kernel
set_option maxRecDepth 100000 in
theorem digits_c {u : Nat} (hu : u < 18446744073709551616) : CallsP Tryz.prog Lw 17 [.sc (.int .u64 (u : Int))] (.sc (.string (B (Lib.decDigits u)))) := by
  refine callsP_of gs_lw Tryz.func17 rfl Tryz.ntmps17 rfl fun w0 S0 stab => ?_
  refine hits_seq ?_
  refine hits_region ?_
  refine sq (f_assign rfl (lt rfl)) rfl rfl ?_
  refine hits_nil ?_
  refine to_next ?_
  refine hits_seq ?_
  refine hits_region ?_
  refine sq (f_assign rfl (lt rfl)) rfl rfl ?_
  refine hits_nil ?_
  refine to_next ?_
  refine hits_block ?_
  refine hits_loop (fun x : Nat × List UInt8 => [(.slot 0, some (.d (.sc (.int .u64 (x.1 : Int))))), (.slot 3, some (.d (.sc (.string (B x.2)))))]) (fun x : Nat × List UInt8 => x.1 < 18446744073709551616 ∧ Lib.decDigits x.1 ++ x.2 = Lib.decDigits u) (fun x : Nat × List UInt8 => x.1) (u, []) ⟨hu, by simp⟩ ⟨rfl, rfl, trivial⟩ rfl ?_
  intro x hx
  obtain ⟨v, acc⟩ := x
  obtain ⟨hv, hJ⟩ := hx
  change v < 18446744073709551616 at hv
  change Lib.decDigits v ++ acc = Lib.decDigits u at hJ
  have hacc := dec_len hJ hu
  change Hits _ [(.slot 0, some (.d (.sc (.int .u64 (v : Int))))), (.slot 3, some (.d (.sc (.string (B acc)))))] _
  refine hits_block ?_
  refine hits_seq ?_
  refine hits_region ?_
  refine sq (f_move rfl (lt rfl)) rfl rfl ?_
  refine sq (f_remI rfl rfl (by decide) (by rw [Int.tmod_eq_emod_of_nonneg (by omega)]; omega : _ = ((v % 10 : Nat) : Int)) (lt rfl)) rfl rfl ?_
  refine sq (f_assign rfl (lt rfl)) rfl rfl ?_
  refine hits_nil ?_
  refine to_next ?_
  refine hits_seq ?_
  refine hits_region ?_
  refine sq (f_move rfl (lt rfl)) rfl rfl ?_
  refine sq (f_move rfl (lt rfl)) rfl rfl ?_
  refine sq (f_bin rfl rfl (iT ((wraps_u64 _ (by omega) (by omega) : _ = ((v % 10 : Nat) : Int) + 1))) (lt rfl)) rfl rfl ?_
  refine sq (f_sliceStr rfl rfl rfl un9 (by omega) (by omega) (by have : (⟨#[48, 49, 50, 51, 52, 53, 54, 55, 56, 57]⟩ : ByteArray).size = 10 := rfl; omega) (lt rfl)) rfl rfl ?_
  refine sq (f_move rfl (lt rfl)) rfl rfl ?_
  refine sq (f_catI rfl rfl (dig_size v acc hacc) (dig_cat v acc) (lt rfl)) rfl rfl ?_
  refine sq (f_assign rfl (lt rfl)) rfl rfl ?_
  refine hits_nil ?_
  refine to_next ?_
  refine hits_seq ?_
  refine hits_region ?_
  refine sq (f_move rfl (lt rfl)) rfl rfl ?_
  refine sq (f_divI rfl rfl (by decide) (div10 hv : _ = ((v / 10 : Nat) : Int)) (lt rfl)) rfl rfl ?_
  refine sq (f_assign rfl (lt rfl)) rfl rfl ?_
  refine hits_nil ?_
  refine to_next ?_
  refine hits_seq ?_
  by_cases hz : v / 10 = 0
  · refine hits_region ?_
    refine sq (f_move rfl (lt rfl)) rfl rfl ?_
    refine sq (f_bin rfl rfl (bT (beq_iff_eq.mpr (by omega))) (lt rfl)) rfl rfl ?_
    refine hits_nil ?_
    refine to_next ?_
    refine hits_cond rfl (fun c0 => ?_) (fun c0 => absurd c0 Bool.false_ne_true.symm)
    refine hits_seq ?_
    refine hits_region ?_
    refine sq (f_move rfl (lt rfl)) rfl rfl ?_
    refine sq (f_assign rfl (lt rfl)) rfl rfl ?_
    refine hits_nil ?_
    refine to_next ?_
    refine hits_ret ?_
    refine in_ret ?_
    refine to_ret ?_
    refine in_ret ?_
    exact hits_done (.inl rfl) rfl rfl (by rw [← hJ, dec_last (by omega)]; rfl)
  · refine hits_region ?_
    refine sq (f_move rfl (lt rfl)) rfl rfl ?_
    refine sq (f_bin rfl rfl (bT (beq_eq_false_iff_ne.mpr (by omega))) (lt rfl)) rfl rfl ?_
    refine hits_nil ?_
    refine to_next ?_
    refine hits_cond rfl (fun c0 => absurd c0 Bool.false_ne_true) (fun c0 => ?_)
    refine hits_skip ?_
    refine in_next ?_
    refine to_next ?_
    refine round_end (v / 10, UInt8.ofNat (48 + v % 10) :: acc) ⟨by simp only; omega, by show Lib.decDigits (v / 10) ++ UInt8.ofNat (48 + v % 10) :: acc = _; rw [← hJ, dec_more (v := v) (by omega), List.append_assoc]; rfl⟩ (by simp only; omega) ⟨rfl, rfl, trivial⟩ rfl
set_option maxRecDepth 100000 in
theorem told_c (x : Wd) (h2 : x.k = 2 → x.lo < 18446744073709551616) (h3 : x.k = 3 → 1 ≤ x.w ∧ x.w ≤ 128 ∧ x.hi * 18446744073709551616 + x.lo < 2 ^ x.w ∧ x.lo < 18446744073709551616) : CallsP Tryz.prog Lw 9 [wordD x] (.sc (.string (B (told x)))) := by
  refine callsP_of gs_lw Tryz.func9 rfl Tryz.ntmps9 rfl fun w0 S0 stab => ?_
  refine hits_seq ?_
  refine hits_region ?_
  refine sq (f_box rfl rfl (lt rfl)) rfl rfl ?_
  refine sq (f_assign rfl (lt rfl)) rfl rfl ?_
  refine hits_nil ?_
  refine to_next ?_
  refine hits_seq ?_
  refine hits_seq ?_
  refine hits_region ?_
  refine sq (f_fieldAddr rfl kf37_0 rfl (lt rfl)) rfl rfl ?_
  refine sq (f_load kd32 rfl rfl (lt rfl)) rfl rfl ?_
  refine hits_nil ?_
  refine to_next ?_
  refine hits_block ?_
  refine hits_seq ?_
  by_cases e2 : x.k = 2
  · have hd := digits_c (h2 e2)
    refine hits_region ?_
    refine sq (f_bin rfl rfl (bT (beq_iff_eq.mpr (by omega))) (lt rfl)) rfl rfl ?_
    refine sq (f_assign rfl (lt rfl)) rfl rfl ?_
    refine hits_nil ?_
    refine to_next ?_
    refine hits_cond rfl (fun c0 => ?_) (fun c0 => absurd c0 Bool.false_ne_true.symm)
    refine hits_seq ?_
    refine hits_region ?_
    refine sq (f_fieldAddr rfl kf37_2 rfl (lt rfl)) rfl rfl ?_
    refine sq (f_fieldAddr rfl kf35_2 rfl (lt rfl)) rfl rfl ?_
    refine sq (f_load kd33 rfl rfl (lt rfl)) rfl rfl ?_
    refine sq (f_call en17 rfl hd (lt rfl)) rfl rfl ?_
    refine sq (f_assign rfl (lt rfl)) rfl rfl ?_
    refine hits_nil ?_
    refine to_next ?_
    refine hits_ret ?_
    refine in_ret ?_
    refine to_ret ?_
    exact hits_done (.inl rfl) rfl rfl (by rw [told, if_pos e2]; rfl)
  · by_cases e3 : x.k = 3
    · obtain ⟨g1, g2, g3, g4⟩ := h3 e3
      have ht := text_c g1 g2 g3
      rw [bitD_of g4] at ht
      refine hits_region ?_
      refine sq (f_bin rfl rfl (bT (beq_eq_false_iff_ne.mpr (by omega))) (lt rfl)) rfl rfl ?_
      refine sq (f_assign rfl (lt rfl)) rfl rfl ?_
      refine hits_nil ?_
      refine to_next ?_
      refine hits_cond rfl (fun c0 => absurd c0 Bool.false_ne_true) (fun c0 => ?_)
      refine hits_seq ?_
      refine hits_region ?_
      refine sq (f_bin rfl rfl (bT (beq_iff_eq.mpr (by omega))) (lt rfl)) rfl rfl ?_
      refine sq (f_assign rfl (lt rfl)) rfl rfl ?_
      refine hits_nil ?_
      refine to_next ?_
      refine hits_cond rfl (fun c1 => ?_) (fun c1 => absurd c1 Bool.false_ne_true.symm)
      refine hits_seq ?_
      refine hits_region ?_
      refine sq (f_fieldAddr rfl kf37_2 rfl (lt rfl)) rfl rfl ?_
      refine sq (f_load kd35 rfl rfl (lt rfl)) rfl rfl ?_
      refine sq (f_call en18 rfl ht (lt rfl)) rfl rfl ?_
      refine sq (f_move rfl (lt rfl)) rfl rfl ?_
      refine sq (f_extract rfl rfl (lt rfl)) rfl rfl ?_
      refine sq (f_extract rfl rfl (lt rfl)) rfl rfl ?_
      refine sq (f_assign rfl (lt rfl)) rfl rfl ?_
      refine sq (f_assign rfl (lt rfl)) rfl rfl ?_
      refine hits_nil ?_
      refine to_next ?_
      refine hits_seq ?_
      refine hits_region ?_
      refine sq (f_move rfl (lt rfl)) rfl rfl ?_
      refine sq (f_assign rfl (lt rfl)) rfl rfl ?_
      refine hits_nil ?_
      refine to_next ?_
      refine hits_ret ?_
      refine in_ret ?_
      refine to_ret ?_
      exact hits_done (.inl rfl) rfl rfl (by rw [told, if_neg e2, if_pos e3, B_of]; rfl)
    · refine hits_region ?_
      refine sq (f_bin rfl rfl (bT (beq_eq_false_iff_ne.mpr (by omega))) (lt rfl)) rfl rfl ?_
      refine sq (f_assign rfl (lt rfl)) rfl rfl ?_
      refine hits_nil ?_
      refine to_next ?_
      refine hits_cond rfl (fun c0 => absurd c0 Bool.false_ne_true) (fun c0 => ?_)
      refine hits_seq ?_
      refine hits_region ?_
      refine sq (f_bin rfl rfl (bT (beq_eq_false_iff_ne.mpr (by omega))) (lt rfl)) rfl rfl ?_
      refine sq (f_assign rfl (lt rfl)) rfl rfl ?_
      refine hits_nil ?_
      refine to_next ?_
      refine hits_cond rfl (fun c1 => absurd c1 Bool.false_ne_true) (fun c1 => ?_)
      refine hits_skip ?_
      refine in_next ?_
      refine to_next ?_
      refine hits_seq ?_
      refine hits_region ?_
      refine sq (f_fieldAddr rfl kf37_1 rfl (lt rfl)) rfl rfl ?_
      refine sq (f_load kd9 rfl rfl (lt rfl)) rfl rfl ?_
      refine sq (f_assign rfl (lt rfl)) rfl rfl ?_
      refine hits_nil ?_
      refine to_next ?_
      refine hits_ret ?_
      exact hits_done (.inl rfl) rfl rfl (by rw [told, if_neg e2, if_neg e3]; rfl)
end Go.Proofs.YtbgeejmhkmjfdaaGreatDoor.Ln
