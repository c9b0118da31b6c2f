/- Words as texts, over data. -/
import Derived.Test.YtogodijfdkffaaaGreatDoorJ4
set_option linter.unusedVariables false
set_option linter.unusedSimpArgs false
set_option maxRecDepth 100000
namespace Go.Proofs.YtogodijfdkffaaaGreatDoor.Ln
open Go Go.RowKit Go.Ab Go.Proofs 
theorem en21 : enters Tryz.prog 21 = true := by kernel_rfl
theorem kf37_2 : kf Tryz.prog 37 2 = some 2 := by kernel_rfl
theorem div10 {v : Nat} (h : v < 18446744073709551616) : IntKind.u64.wrap ((v : Int).tdiv 10) = ((v / 10 : Nat) : Int) := by
  rw [Int.tdiv_eq_ediv_of_nonneg (by omega), wraps_u64 _ (by omega) (by omega)]; omega
theorem dec_last {v : Nat} (h : v < 10) : Lib.decDigits v = [UInt8.ofNat (48 + v % 10)] := by
  rw [Lib.decDigits, dif_pos h, Nat.mod_eq_of_lt h]
theorem dec_more {v : Nat} (h : ¬ v < 10) : Lib.decDigits v = Lib.decDigits (v / 10) ++ [UInt8.ofNat (48 + v % 10)] := by
  rw [Lib.decDigits, dif_neg h]
theorem dec_le : ∀ (k v : Nat), v < 10 ^ (k + 1) → (Lib.decDigits v).length ≤ k + 1
  | 0, v, h => by rw [dec_last (by simpa using h)]; simp
  | k + 1, v, h => by
    by_cases h1 : v < 10
    · rw [dec_last h1]; simp
    · rw [dec_more h1]
      have := dec_le k (v / 10) (Nat.div_lt_of_lt_mul (by rw [Nat.pow_succ] at h; omega))
      simp; omega
theorem dec_len {u v : Nat} {acc : List UInt8} (hJ : Lib.decDigits v ++ acc = Lib.decDigits u) (hu : u < 18446744073709551616) : acc.length ≤ 20 := by
  have h1 := dec_le 19 u (Nat.lt_of_lt_of_le hu (by decide))
  rw [← hJ, List.length_append] at h1
  omega
theorem dig_at : ∀ d : Nat, d < 10 → (⟨#[48, 49, 50, 51, 52, 53, 54, 55, 56, 57]⟩ : ByteArray).extract d (d + 1) = B [UInt8.ofNat (48 + d)] := by decide +kernel
theorem dig_ext (v : Nat) : (⟨#[48, 49, 50, 51, 52, 53, 54, 55, 56, 57]⟩ : ByteArray).extract (((v % 10 : Nat) : Int)).toNat (((v % 10 : Nat) : Int) + 1).toNat = B [UInt8.ofNat (48 + v % 10)] := by
  rw [Int.toNat_natCast, show (((v % 10 : Nat) : Int) + 1).toNat = v % 10 + 1 from by omega]
  exact dig_at _ (Nat.mod_lt _ (by decide))
theorem dig_size (v : Nat) (acc : List UInt8) (h : acc.length ≤ 20) : ((⟨#[48, 49, 50, 51, 52, 53, 54, 55, 56, 57]⟩ : ByteArray).extract (((v % 10 : Nat) : Int)).toNat (((v % 10 : Nat) : Int) + 1).toNat).size + (B acc).size ≤ 9223372036854775807 := by
  rw [dig_ext, B_size, B_size]; simp; omega
theorem dig_cat (v : Nat) (acc : List UInt8) : (⟨#[48, 49, 50, 51, 52, 53, 54, 55, 56, 57]⟩ : ByteArray).extract (((v % 10 : Nat) : Int)).toNat (((v % 10 : Nat) : Int) + 1).toNat ++ B acc = B (UInt8.ofNat (48 + v % 10) :: acc) := by
  rw [dig_ext, B_app]; rfl
theorem bitD_of {w hi lo : Nat} (h : lo < 18446744073709551616) : bitD w (hi * 18446744073709551616 + lo) = .agg [.sc (.int .i64 (w : Int)), .sc (.int .u64 (hi : Int)), .sc (.int .u64 (lo : Int))] := by
  have e1 : hiOf (hi * 18446744073709551616 + lo) = (hi : Int) := by unfold hiOf; omega
  have e2 : loOf (hi * 18446744073709551616 + lo) = (lo : Int) := by unfold loOf; omega
  rw [bitD, e1, e2]
theorem wordD_at {a : List Wd} {i : Nat} {p : Wd} (h : a[i]? = some p) : (a.map wordD)[((i : Int)).toNat]? = some (wordD p) := by rw [Int.toNat_natCast, List.getElem?_map, h]; rfl
theorem digits_c {u : Nat} (hu : u < 18446744073709551616) : CallsP Tryz.prog Lw 21 [.sc (.int .u64 (u : Int))] (.sc (.string (B (Lib.decDigits u)))) := by
  refine callsP_of gs_lw Tryz.func21 rfl Tryz.ntmps21 rfl fun w0 S0 stab => ?_
  refine sqq <| rgq <| asq rfl rfl <| nxq <| sqq <| rgq <| asq rfl rfl <| nxq ?_
  refine hits_block <| hits_loop (fun x : Nat × List UInt8 => [(.slot 0, some (.d (.sc (.int .u64 (x.1 : Int))))), (.slot 3, some (.d (.sc (.string (B x.2)))))]) (fun x : Nat × List UInt8 => x.1 < 18446744073709551616 ∧ Lib.decDigits x.1 ++ x.2 = Lib.decDigits u) (fun x : Nat × List UInt8 => x.1) (u, []) ⟨hu, by simp⟩ ⟨rfl, rfl, trivial⟩ rfl ?_
  intro x hx
  obtain ⟨v, acc⟩ := x
  obtain ⟨hv, hJ⟩ := hx
  change v < 18446744073709551616 at hv
  change Lib.decDigits v ++ acc = Lib.decDigits u at hJ
  have hacc := dec_len hJ hu
  change Hits _ [(.slot 0, some (.d (.sc (.int .u64 (v : Int))))), (.slot 3, some (.d (.sc (.string (B acc)))))] _
  refine hits_block <| sqq <| rgq <| mvq rfl rfl <| sq (f_remI rfl rfl (by decide) (by rw [Int.tmod_eq_emod_of_nonneg (by omega)]; omega : _ = ((v % 10 : Nat) : Int)) (lt rfl)) rfl rfl ?_
  refine asq rfl rfl <| nxq <| sqq <| rgq <| mvq rfl rfl <| mvq rfl rfl <| sq (f_bin rfl rfl (iT ((wraps_u64 _ (by omega) (by omega) : _ = ((v % 10 : Nat) : Int) + 1))) (lt rfl)) rfl rfl <| sq (f_sliceStr rfl rfl rfl un9 (by omega) (by omega) (by have : (⟨#[48, 49, 50, 51, 52, 53, 54, 55, 56, 57]⟩ : ByteArray).size = 10 := rfl; omega) (lt rfl)) rfl rfl ?_
  refine mvq rfl rfl <| sq (f_catI rfl rfl (dig_size v acc hacc) (dig_cat v acc) (lt rfl)) rfl rfl <| asq rfl rfl <| nxq <| sqq <| rgq <| mvq rfl rfl <| sq (f_divI rfl rfl (by decide) (div10 hv : _ = ((v / 10 : Nat) : Int)) (lt rfl)) rfl rfl ?_
  refine asq rfl rfl <| nxq <| sqq ?_
  by_cases hz : v / 10 = 0
  · refine rgq <| mvq rfl rfl <| sq (f_bin rfl rfl (bT (beq_iff_eq.mpr (by omega))) (lt rfl)) rfl rfl <| nxq <| cnT rfl <| sqq <| rgq <| mvq rfl rfl ?_
    refine asq rfl rfl <| nxq <| rtq <| in_ret <| to_ret <| in_ret ?_
    exact hits_done (.inl rfl) rfl rfl (by rw [← hJ, dec_last (by omega)]; rfl)
  · refine rgq <| mvq rfl rfl <| sq (f_bin rfl rfl (bT (beq_eq_false_iff_ne.mpr (by omega))) (lt rfl)) rfl rfl <| nxq <| cnF rfl <| skq <| inq <| toq ?_
    refine round_end (v / 10, UInt8.ofNat (48 + v % 10) :: acc) ⟨by simp only; omega, by show Lib.decDigits (v / 10) ++ UInt8.ofNat (48 + v % 10) :: acc = _; rw [← hJ, dec_more (v := v) (by omega), List.append_assoc]; rfl⟩ (by simp only; omega) ⟨rfl, rfl, trivial⟩ rfl
theorem told_c (x : Wd) (h2 : x.k = 2 → x.lo < 18446744073709551616) (h3 : x.k = 3 → 1 ≤ x.w ∧ x.w ≤ 128 ∧ x.hi * 18446744073709551616 + x.lo < 2 ^ x.w ∧ x.lo < 18446744073709551616) : CallsP Tryz.prog Lw 10 [wordD x] (.sc (.string (B (told x)))) := by
  refine callsP_of gs_lw Tryz.func10 rfl Tryz.ntmps10 rfl fun w0 S0 stab => ?_
  refine sqq <| rgq <| sq (f_box rfl rfl (lt rfl)) rfl rfl <| asq rfl rfl <| nxq <| sqq <| sqq <| rgq ?_
  refine faq rfl kf37_0 rfl rfl <| ldq kd32 rfl rfl rfl <| nxq <| hits_block <| sqq ?_
  by_cases e2 : x.k = 2
  · have hd := digits_c (h2 e2)
    refine rgq <| sq (f_bin rfl rfl (bT (beq_iff_eq.mpr (by omega))) (lt rfl)) rfl rfl <| asq rfl rfl <| nxq <| cnT rfl <| sqq <| rgq <| faq rfl kf37_2 rfl rfl ?_
    refine faq rfl kf35_2 rfl rfl <| ldq kd33 rfl rfl rfl <| sq (f_call en21 rfl hd (lt rfl)) rfl rfl <| asq rfl rfl <| nxq <| rtq <| in_ret <| to_ret ?_
    exact hits_done (.inl rfl) rfl rfl (by rw [told, if_pos e2]; rfl)
  · by_cases e3 : x.k = 3
    · obtain ⟨g1, g2, g3, g4⟩ := h3 e3
      have ht := text_c g1 g2 g3
      rw [bitD_of g4] at ht
      refine rgq <| sq (f_bin rfl rfl (bT (beq_eq_false_iff_ne.mpr (by omega))) (lt rfl)) rfl rfl <| asq rfl rfl <| nxq <| cnF rfl <| sqq <| rgq <| sq (f_bin rfl rfl (bT (beq_iff_eq.mpr (by omega))) (lt rfl)) rfl rfl ?_
      refine asq rfl rfl <| nxq <| cnT rfl <| sqq <| rgq <| faq rfl kf37_2 rfl rfl <| ldq kd35 rfl rfl rfl <| sq (f_call en22 rfl ht (lt rfl)) rfl rfl ?_
      refine mvq rfl rfl <| exq rfl rfl rfl <| exq rfl rfl rfl <| asq rfl rfl <| asq rfl rfl <| nxq <| sqq <| rgq ?_
      refine mvq rfl rfl <| asq rfl rfl <| nxq <| rtq <| in_ret <| to_ret ?_
      exact hits_done (.inl rfl) rfl rfl (by rw [told, if_neg e2, if_pos e3, B_of]; rfl)
    · refine rgq <| sq (f_bin rfl rfl (bT (beq_eq_false_iff_ne.mpr (by omega))) (lt rfl)) rfl rfl <| asq rfl rfl <| nxq <| cnF rfl <| sqq <| rgq <| sq (f_bin rfl rfl (bT (beq_eq_false_iff_ne.mpr (by omega))) (lt rfl)) rfl rfl ?_
      refine asq rfl rfl <| nxq <| cnF rfl <| skq <| inq <| toq <| sqq <| rgq ?_
      refine faq rfl kf37_1 rfl rfl <| ldq kd9 rfl rfl rfl <| asq rfl rfl <| nxq <| rtq ?_
      exact hits_done (.inl rfl) rfl rfl (by rw [told, if_neg e2, if_neg e3]; rfl)
end Go.Proofs.YtogodijfdkffaaaGreatDoor.Ln
