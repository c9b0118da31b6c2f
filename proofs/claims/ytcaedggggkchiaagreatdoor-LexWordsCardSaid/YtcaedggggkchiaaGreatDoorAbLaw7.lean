/- Helpers of the laws of lex, over data. -/
import Derived.Test.YtcaedggggkchiaaGreatDoorAbWords
namespace Go.Proofs.YtcaedggggkchiaaGreatDoor.Ln
open Go Go.RowKit Go.Ab Go.Proofs 
set_option linter.unusedVariables false
set_option linter.unusedSimpArgs false
theorem en25 : enters Tryz.prog 25 = true := by kernel_rfl
theorem kf77_2 : kf Tryz.prog 77 2 = some 2 := by kernel_rfl
theorem eqg77 : Tryz.prog.eqGuardType Tryz.prog.depth 77 = false := by kernel_rfl
theorem ev77 (a0 b0 : Int) (a1 b1 : ByteArray) (a2 b2 : Int) (a3 b3 : Int) (a4 b4 : Int) (a5 b5 : Int) : eqV Tryz.prog 6 77 (.agg ⟨[.int .u8 a0, .string a1, .int .i64 a2, .int .u64 a3, .int .u64 a4, .int .i64 a5]⟩) (.agg ⟨[.int .u8 b0, .string b1, .int .i64 b2, .int .u64 b3, .int .u64 b4, .int .i64 b5]⟩) = some ((a0 == b0) && ((a1.toList == b1.toList) && (((a2 == b2) && ((a3 == b3) && ((a4 == b4) && true))) && ((a5 == b5) && true)))) := by kernel_rfl
theorem un69 : Tryz.prog.underlying 69 = some (.slice 77) := by kernel_rfl
theorem en18 : enters Tryz.prog 18 = true := by kernel_rfl
theorem en20 : enters Tryz.prog 20 = true := by kernel_rfl

theorem div10 {v : Nat} (h : v < 18446744073709551616) : IntKind.u64.wrap ((v : Int).tdiv 10) = ((v / 10 : Nat) : Int) := by
  rw [Int.tdiv_eq_ediv_of_nonneg (by omega), wraps_u64 _ (by omega) (by omega)]; omega
theorem dec_last {v : Nat} (h : v < 10) : Lib.decDigits v = [UInt8.ofNat (48 + v % 10)] := by
  rw [Lib.decDigits, dif_pos h, Nat.mod_eq_of_lt h]
theorem dec_more {v : Nat} (h : ¬ v < 10) : Lib.decDigits v = Lib.decDigits (v / 10) ++ [UInt8.ofNat (48 + v % 10)] := by
  rw [Lib.decDigits, dif_neg h]
theorem dec_le : ∀ (k v : Nat), v < 10 ^ (k + 1) → (Lib.decDigits v).length ≤ k + 1
  | 0, v, h => by rw [dec_last (by simpa using h)]; simp
  | k + 1, v, h => by
    by_cases h1 : v < 10
    · rw [dec_last h1]; simp
    · rw [dec_more h1]
      have := dec_le k (v / 10) (Nat.div_lt_of_lt_mul (by rw [Nat.pow_succ] at h; omega))
      simp; omega
theorem dec_len {u v : Nat} {acc : List UInt8} (hJ : Lib.decDigits v ++ acc = Lib.decDigits u) (hu : u < 18446744073709551616) : acc.length ≤ 20 := by
  have h1 := dec_le 19 u (Nat.lt_of_lt_of_le hu (by decide))
  rw [← hJ, List.length_append] at h1
  omega
theorem dig_at : ∀ d : Nat, d < 10 → (⟨#[48, 49, 50, 51, 52, 53, 54, 55, 56, 57]⟩ : ByteArray).extract d (d + 1) = B [UInt8.ofNat (48 + d)] := by decide +kernel
theorem dig_ext (v : Nat) : (⟨#[48, 49, 50, 51, 52, 53, 54, 55, 56, 57]⟩ : ByteArray).extract (((v % 10 : Nat) : Int)).toNat (((v % 10 : Nat) : Int) + 1).toNat = B [UInt8.ofNat (48 + v % 10)] := by
  rw [Int.toNat_natCast, show (((v % 10 : Nat) : Int) + 1).toNat = v % 10 + 1 from by omega]
  exact dig_at _ (Nat.mod_lt _ (by decide))
theorem dig_size (v : Nat) (acc : List UInt8) (h : acc.length ≤ 20) : ((⟨#[48, 49, 50, 51, 52, 53, 54, 55, 56, 57]⟩ : ByteArray).extract (((v % 10 : Nat) : Int)).toNat (((v % 10 : Nat) : Int) + 1).toNat).size + (B acc).size ≤ 9223372036854775807 := by
  rw [dig_ext, B_size, B_size]; simp; omega
theorem dig_cat (v : Nat) (acc : List UInt8) : (⟨#[48, 49, 50, 51, 52, 53, 54, 55, 56, 57]⟩ : ByteArray).extract (((v % 10 : Nat) : Int)).toNat (((v % 10 : Nat) : Int) + 1).toNat ++ B acc = B (UInt8.ofNat (48 + v % 10) :: acc) := by
  rw [dig_ext, B_app]; rfl
theorem bitD_of {w hi lo : Nat} (h : lo < 18446744073709551616) : bitD w (hi * 18446744073709551616 + lo) = .agg [.sc (.int .i64 (w : Int)), .sc (.int .u64 (hi : Int)), .sc (.int .u64 (lo : Int))] := by
  have e1 : hiOf (hi * 18446744073709551616 + lo) = (hi : Int) := by unfold hiOf; omega
  have e2 : loOf (hi * 18446744073709551616 + lo) = (lo : Int) := by unfold loOf; omega
  rw [bitD, e1, e2]
theorem wordD_at {a : List Wd} {i : Nat} {p : Wd} (h : a[i]? = some p) : (a.map wordD)[((i : Int)).toNat]? = some (wordD p) := by rw [Int.toNat_natCast, List.getElem?_map, h]; rfl
theorem take_succ {a : List Wd} {i : Nat} {p : Wd} (h : a[i]? = some p) : a.take (i + 1) = a.take i ++ [p] := by rw [List.take_add_one, h]; rfl
theorem nat_beq (a b : Nat) : ((a : Int) == (b : Int)) = decide (a = b) := by
  by_cases h : a = b
  · subst h; simp
  · rw [decide_eq_false h, beq_eq_false_iff_ne]; omega
theorem word_beq (p q : Wd) : (((p.k : Int) == (q.k : Int)) && (((B p.s).toList == (B q.s).toList) && ((((p.w : Int) == (q.w : Int)) && (((p.hi : Int) == (q.hi : Int)) && (((p.lo : Int) == (q.lo : Int)) && true))) && (((p.ln : Int) == (q.ln : Int)) && true)))) = decide (p = q) := by
  simp only [nat_beq, B_beq, Bool.and_true]
  cases p; cases q
  simp only [Wd.mk.injEq]
  rw [← Bool.decide_and, ← Bool.decide_and, ← Bool.decide_and, ← Bool.decide_and, ← Bool.decide_and]
  congr 1
  simp only [and_assoc]
def aliveL : List Wd := [⟨1, [97], 0, 0, 0, 0⟩, ⟨4, [60, 60], 0, 0, 0, 0⟩, ⟨3, [], 12, 0, 31, 0⟩, ⟨4, [59], 0, 0, 0, 0⟩, ⟨2, [], 64, 0, 7, 1⟩]
theorem alive_1 : W [97, 60, 60, 49, 50, 119, 49, 102, 59, 47, 47, 32, 115, 111, 10, 55] 0 = .inr aliveL := by decide +kernel
theorem alive_2 : W [97, 10, 10, 36] 0 = .inl 2 := by decide +kernel

set_option maxRecDepth 100000 in
theorem digits_c {u : Nat} (hu : u < 18446744073709551616) : CallsP Tryz.prog Lw 25 [.sc (.int .u64 (u : Int))] (.sc (.string (B (Lib.decDigits u)))) := by
  refine callsP_of gs_lw Tryz.func25 rfl Tryz.ntmps25 rfl fun w0 S0 stab => ?_
  refine hits_seq ?_
  refine hits_region ?_
  refine sq (f_assign rfl (lt rfl)) rfl rfl ?_
  refine hits_nil ?_
  refine to_next ?_
  refine hits_seq ?_
  refine hits_region ?_
  refine sq (f_assign rfl (lt rfl)) rfl rfl ?_
  refine hits_nil ?_
  refine to_next ?_
  refine hits_block ?_
  refine hits_loop (fun x : Nat × List UInt8 => [(.slot 0, some (.d (.sc (.int .u64 (x.1 : Int))))), (.slot 3, some (.d (.sc (.string (B x.2)))))]) (fun x : Nat × List UInt8 => x.1 < 18446744073709551616 ∧ Lib.decDigits x.1 ++ x.2 = Lib.decDigits u) (fun x : Nat × List UInt8 => x.1) (u, []) ⟨hu, by simp⟩ ⟨rfl, rfl, trivial⟩ rfl ?_
  intro x hx
  obtain ⟨v, acc⟩ := x
  obtain ⟨hv, hJ⟩ := hx
  change v < 18446744073709551616 at hv
  change Lib.decDigits v ++ acc = Lib.decDigits u at hJ
  have hacc := dec_len hJ hu
  change Hits _ [(.slot 0, some (.d (.sc (.int .u64 (v : Int))))), (.slot 3, some (.d (.sc (.string (B acc)))))] _
  refine hits_block ?_
  refine hits_seq ?_
  refine hits_region ?_
  refine sq (f_move rfl (lt rfl)) rfl rfl ?_
  refine sq (f_remI rfl rfl (by decide) (by rw [Int.tmod_eq_emod_of_nonneg (by omega)]; omega : _ = ((v % 10 : Nat) : Int)) (lt rfl)) rfl rfl ?_
  refine sq (f_assign rfl (lt rfl)) rfl rfl ?_
  refine hits_nil ?_
  refine to_next ?_
  refine hits_seq ?_
  refine hits_region ?_
  refine sq (f_move rfl (lt rfl)) rfl rfl ?_
  refine sq (f_move rfl (lt rfl)) rfl rfl ?_
  refine sq (f_bin rfl rfl (iT ((wraps_u64 _ (by omega) (by omega) : _ = ((v % 10 : Nat) : Int) + 1))) (lt rfl)) rfl rfl ?_
  refine sq (f_sliceStr rfl rfl rfl un9 (by omega) (by omega) (by have : (⟨#[48, 49, 50, 51, 52, 53, 54, 55, 56, 57]⟩ : ByteArray).size = 10 := rfl; omega) (lt rfl)) rfl rfl ?_
  refine sq (f_move rfl (lt rfl)) rfl rfl ?_
  refine sq (f_catI rfl rfl (dig_size v acc hacc) (dig_cat v acc) (lt rfl)) rfl rfl ?_
  refine sq (f_assign rfl (lt rfl)) rfl rfl ?_
  refine hits_nil ?_
  refine to_next ?_
  refine hits_seq ?_
  refine hits_region ?_
  refine sq (f_move rfl (lt rfl)) rfl rfl ?_
  refine sq (f_divI rfl rfl (by decide) (div10 hv : _ = ((v / 10 : Nat) : Int)) (lt rfl)) rfl rfl ?_
  refine sq (f_assign rfl (lt rfl)) rfl rfl ?_
  refine hits_nil ?_
  refine to_next ?_
  refine hits_seq ?_
  by_cases hz : v / 10 = 0
  · refine hits_region ?_
    refine sq (f_move rfl (lt rfl)) rfl rfl ?_
    refine sq (f_bin rfl rfl (bT (beq_iff_eq.mpr (by omega))) (lt rfl)) rfl rfl ?_
    refine hits_nil ?_
    refine to_next ?_
    refine hits_cond rfl (fun c0 => ?_) (fun c0 => absurd c0 Bool.false_ne_true.symm)
    refine hits_seq ?_
    refine hits_region ?_
    refine sq (f_move rfl (lt rfl)) rfl rfl ?_
    refine sq (f_assign rfl (lt rfl)) rfl rfl ?_
    refine hits_nil ?_
    refine to_next ?_
    refine hits_ret ?_
    refine in_ret ?_
    refine to_ret ?_
    refine in_ret ?_
    exact hits_done (.inl rfl) rfl rfl (by rw [← hJ, dec_last (by omega)]; rfl)
  · refine hits_region ?_
    refine sq (f_move rfl (lt rfl)) rfl rfl ?_
    refine sq (f_bin rfl rfl (bT (beq_eq_false_iff_ne.mpr (by omega))) (lt rfl)) rfl rfl ?_
    refine hits_nil ?_
    refine to_next ?_
    refine hits_cond rfl (fun c0 => absurd c0 Bool.false_ne_true) (fun c0 => ?_)
    refine hits_skip ?_
    refine in_next ?_
    refine to_next ?_
    refine round_end (v / 10, UInt8.ofNat (48 + v % 10) :: acc) ⟨by simp only; omega, by show Lib.decDigits (v / 10) ++ UInt8.ofNat (48 + v % 10) :: acc = _; rw [← hJ, dec_more (v := v) (by omega), List.append_assoc]; rfl⟩ (by simp only; omega) ⟨rfl, rfl, trivial⟩ rfl

set_option maxRecDepth 100000 in
theorem told_c (x : Wd) (h2 : x.k = 2 → x.lo < 18446744073709551616) (h3 : x.k = 3 → 1 ≤ x.w ∧ x.w ≤ 128 ∧ x.hi * 18446744073709551616 + x.lo < 2 ^ x.w ∧ x.lo < 18446744073709551616) : CallsP Tryz.prog Lw 23 [wordD x] (.sc (.string (B (told x)))) := by
  refine callsP_of gs_lw Tryz.func23 rfl Tryz.ntmps23 rfl fun w0 S0 stab => ?_
  refine hits_seq ?_
  refine hits_region ?_
  refine sq (f_box rfl rfl (lt rfl)) rfl rfl ?_
  refine sq (f_assign rfl (lt rfl)) rfl rfl ?_
  refine hits_nil ?_
  refine to_next ?_
  refine hits_seq ?_
  refine hits_seq ?_
  refine hits_region ?_
  refine sq (f_fieldAddr rfl kf77_0 rfl (lt rfl)) rfl rfl ?_
  refine sq (f_load kd75 rfl rfl (lt rfl)) rfl rfl ?_
  refine hits_nil ?_
  refine to_next ?_
  refine hits_block ?_
  refine hits_seq ?_
  by_cases e2 : x.k = 2
  · have hd := digits_c (h2 e2)
    refine hits_region ?_
    refine sq (f_bin rfl rfl (bT (beq_iff_eq.mpr (by omega))) (lt rfl)) rfl rfl ?_
    refine sq (f_assign rfl (lt rfl)) rfl rfl ?_
    refine hits_nil ?_
    refine to_next ?_
    refine hits_cond rfl (fun c0 => ?_) (fun c0 => absurd c0 Bool.false_ne_true.symm)
    refine hits_seq ?_
    refine hits_region ?_
    refine sq (f_fieldAddr rfl kf77_2 rfl (lt rfl)) rfl rfl ?_
    refine sq (f_fieldAddr rfl kf24_2 rfl (lt rfl)) rfl rfl ?_
    refine sq (f_load kd22 rfl rfl (lt rfl)) rfl rfl ?_
    refine sq (f_call en25 rfl hd (lt rfl)) rfl rfl ?_
    refine sq (f_assign rfl (lt rfl)) rfl rfl ?_
    refine hits_nil ?_
    refine to_next ?_
    refine hits_ret ?_
    refine in_ret ?_
    refine to_ret ?_
    exact hits_done (.inl rfl) rfl rfl (by rw [told, if_pos e2]; rfl)
  · by_cases e3 : x.k = 3
    · obtain ⟨g1, g2, g3, g4⟩ := h3 e3
      have ht := text_c g1 g2 g3
      rw [bitD_of g4] at ht
      refine hits_region ?_
      refine sq (f_bin rfl rfl (bT (beq_eq_false_iff_ne.mpr (by omega))) (lt rfl)) rfl rfl ?_
      refine sq (f_assign rfl (lt rfl)) rfl rfl ?_
      refine hits_nil ?_
      refine to_next ?_
      refine hits_cond rfl (fun c0 => absurd c0 Bool.false_ne_true) (fun c0 => ?_)
      refine hits_seq ?_
      refine hits_region ?_
      refine sq (f_bin rfl rfl (bT (beq_iff_eq.mpr (by omega))) (lt rfl)) rfl rfl ?_
      refine sq (f_assign rfl (lt rfl)) rfl rfl ?_
      refine hits_nil ?_
      refine to_next ?_
      refine hits_cond rfl (fun c1 => ?_) (fun c1 => absurd c1 Bool.false_ne_true.symm)
      refine hits_seq ?_
      refine hits_region ?_
      refine sq (f_fieldAddr rfl kf77_2 rfl (lt rfl)) rfl rfl ?_
      refine sq (f_load kd24 rfl rfl (lt rfl)) rfl rfl ?_
      refine sq (f_call en24 rfl ht (lt rfl)) rfl rfl ?_
      refine sq (f_move rfl (lt rfl)) rfl rfl ?_
      refine sq (f_extract rfl rfl (lt rfl)) rfl rfl ?_
      refine sq (f_extract rfl rfl (lt rfl)) rfl rfl ?_
      refine sq (f_assign rfl (lt rfl)) rfl rfl ?_
      refine sq (f_assign rfl (lt rfl)) rfl rfl ?_
      refine hits_nil ?_
      refine to_next ?_
      refine hits_seq ?_
      refine hits_region ?_
      refine sq (f_move rfl (lt rfl)) rfl rfl ?_
      refine sq (f_assign rfl (lt rfl)) rfl rfl ?_
      refine hits_nil ?_
      refine to_next ?_
      refine hits_ret ?_
      refine in_ret ?_
      refine to_ret ?_
      exact hits_done (.inl rfl) rfl rfl (by rw [told, if_neg e2, if_pos e3, B_of]; rfl)
    · refine hits_region ?_
      refine sq (f_bin rfl rfl (bT (beq_eq_false_iff_ne.mpr (by omega))) (lt rfl)) rfl rfl ?_
      refine sq (f_assign rfl (lt rfl)) rfl rfl ?_
      refine hits_nil ?_
      refine to_next ?_
      refine hits_cond rfl (fun c0 => absurd c0 Bool.false_ne_true) (fun c0 => ?_)
      refine hits_seq ?_
      refine hits_region ?_
      refine sq (f_bin rfl rfl (bT (beq_eq_false_iff_ne.mpr (by omega))) (lt rfl)) rfl rfl ?_
      refine sq (f_assign rfl (lt rfl)) rfl rfl ?_
      refine hits_nil ?_
      refine to_next ?_
      refine hits_cond rfl (fun c1 => absurd c1 Bool.false_ne_true) (fun c1 => ?_)
      refine hits_skip ?_
      refine in_next ?_
      refine to_next ?_
      refine hits_seq ?_
      refine hits_region ?_
      refine sq (f_fieldAddr rfl kf77_1 rfl (lt rfl)) rfl rfl ?_
      refine sq (f_load kd9 rfl rfl (lt rfl)) rfl rfl ?_
      refine sq (f_assign rfl (lt rfl)) rfl rfl ?_
      refine hits_nil ?_
      refine to_next ?_
      refine hits_ret ?_
      exact hits_done (.inl rfl) rfl rfl (by rw [told, if_neg e2, if_neg e3]; rfl)

set_option maxRecDepth 100000 in
theorem samew_c (a b : List Wd) (ha : a.length ≤ 281474976710656) : CallsP Tryz.prog Lw 20 [.list 6 (a.map wordD), .list 6 (b.map wordD)] (.sc (.bool (decide (a = b)))) := by
  have hla : (a.map wordD).length = a.length := List.length_map _
  have hlb : (b.map wordD).length = b.length := List.length_map _
  refine callsP_of gs_lw Tryz.func20 rfl Tryz.ntmps20 rfl fun w0 S0 stab => ?_
  refine hits_seq ?_
  refine hits_region ?_
  refine sq (f_assign rfl (lt rfl)) rfl rfl ?_
  refine hits_nil ?_
  refine to_next ?_
  refine hits_seq ?_
  refine hits_seq ?_
  by_cases hlen : a.length = b.length
  · refine hits_region ?_
    refine sq (f_move rfl (lt rfl)) rfl rfl ?_
    refine sq (f_lenList rfl rfl un69 (lt rfl)) rfl rfl ?_
    refine sq (f_move rfl (lt rfl)) rfl rfl ?_
    refine sq (f_lenList rfl rfl un69 (lt rfl)) rfl rfl ?_
    refine sq (f_bin rfl rfl (bT ((by rw [hla, hlb, hlen]; exact bne_self_eq_false _ : _ = false))) (lt rfl)) rfl rfl ?_
    refine hits_nil ?_
    refine to_next ?_
    refine hits_cond rfl (fun c0 => absurd c0 Bool.false_ne_true) (fun c0 => ?_)
    refine hits_skip ?_
    refine to_next ?_
    refine hits_seq ?_
    refine hits_seq ?_
    refine hits_region ?_
    refine sq (f_assign rfl (lt rfl)) rfl rfl ?_
    refine hits_nil ?_
    refine to_next ?_
    refine hits_block ?_
    refine hits_loop (fun i : Nat => [(.slot 0, some (.d (.list 6 (a.map wordD)))), (.slot 1, some (.d (.list 6 (b.map wordD)))), (.slot 5, some (.d (.sc (.int .i64 (i : Int)))))]) (fun i : Nat => i ≤ a.length ∧ a.take i = b.take i) (fun i : Nat => a.length - i) 0 ⟨Nat.zero_le _, rfl⟩ ⟨rfl, rfl, rfl, trivial⟩ rfl ?_
    intro i hx
    obtain ⟨hi0, hJ⟩ := hx
    refine hits_seq ?_
    refine hits_seq ?_
    by_cases hi : i < a.length
    · obtain ⟨p, hp⟩ : ∃ p, a[i]? = some p := ⟨_, List.getElem?_eq_getElem hi⟩
      obtain ⟨q, hq⟩ : ∃ q, b[i]? = some q := ⟨_, List.getElem?_eq_getElem (by omega)⟩
      by_cases hpq : p = q
      · refine hits_region ?_
        refine sq (f_move rfl (lt rfl)) rfl rfl ?_
        refine sq (f_move rfl (lt rfl)) rfl rfl ?_
        refine sq (f_lenList rfl rfl un69 (lt rfl)) rfl rfl ?_
        refine sq (f_bin rfl rfl (bT (decide_eq_true (by omega))) (lt rfl)) rfl rfl ?_
        refine hits_nil ?_
        refine to_next ?_
        refine hits_cond rfl (fun c1 => ?_) (fun c1 => absurd c1 Bool.false_ne_true.symm)
        refine hits_skip ?_
        refine to_next ?_
        refine hits_seq ?_
        refine hits_block ?_
        refine hits_seq ?_
        refine hits_drawn mixed ?_
        refine dq (f_move rfl (lt rfl)) rfl rfl ?_
        refine dq (f_move rfl (lt rfl)) rfl rfl ?_
        refine dq (f_idxList rfl rfl rfl un69 kd77 (Int.natCast_nonneg _) (wordD_at hp) (lt rfl)) rfl rfl ?_
        refine dq (f_load kd77 rfl rfl (lt rfl)) rfl rfl ?_
        refine dq (f_move rfl (lt rfl)) rfl rfl ?_
        refine dq (f_move rfl (lt rfl)) rfl rfl ?_
        refine dq (f_idxList rfl rfl rfl un69 kd77 (Int.natCast_nonneg _) (wordD_at hq) (lt rfl)) rfl rfl ?_
        refine dq (f_load kd77 rfl rfl (lt rfl)) rfl rfl ?_
        refine dq (f_neS rfl rfl rfl rfl eqg77 (ev77 ..) (by decide) (by rw [word_beq, decide_eq_true hpq]; rfl : _ = false) (lt rfl)) rfl rfl ?_
        refine dq_nil rfl ?_
        refine to_next ?_
        refine hits_cond rfl (fun c2 => absurd c2 Bool.false_ne_true) (fun c2 => ?_)
        refine hits_skip ?_
        refine in_next ?_
        refine to_next ?_
        refine hits_region ?_
        refine sq (f_move rfl (lt rfl)) rfl rfl ?_
        refine sq (f_bin rfl rfl (iT (((IntWalk.i64_in _ (by omega)).trans (by omega) : _ = ((i + 1 : Nat) : Int)))) (lt rfl)) rfl rfl ?_
        refine sq (f_assign rfl (lt rfl)) rfl rfl ?_
        refine hits_nil ?_
        refine to_next ?_
        refine round_end (i + 1) ⟨by omega, by rw [take_succ hp, take_succ hq, hJ, hpq]⟩ (by omega) ⟨rfl, rfl, rfl, trivial⟩ rfl
      · refine hits_region ?_
        refine sq (f_move rfl (lt rfl)) rfl rfl ?_
        refine sq (f_move rfl (lt rfl)) rfl rfl ?_
        refine sq (f_lenList rfl rfl un69 (lt rfl)) rfl rfl ?_
        refine sq (f_bin rfl rfl (bT (decide_eq_true (by omega))) (lt rfl)) rfl rfl ?_
        refine hits_nil ?_
        refine to_next ?_
        refine hits_cond rfl (fun c1 => ?_) (fun c1 => absurd c1 Bool.false_ne_true.symm)
        refine hits_skip ?_
        refine to_next ?_
        refine hits_seq ?_
        refine hits_block ?_
        refine hits_seq ?_
        refine hits_drawn mixed ?_
        refine dq (f_move rfl (lt rfl)) rfl rfl ?_
        refine dq (f_move rfl (lt rfl)) rfl rfl ?_
        refine dq (f_idxList rfl rfl rfl un69 kd77 (Int.natCast_nonneg _) (wordD_at hp) (lt rfl)) rfl rfl ?_
        refine dq (f_load kd77 rfl rfl (lt rfl)) rfl rfl ?_
        refine dq (f_move rfl (lt rfl)) rfl rfl ?_
        refine dq (f_move rfl (lt rfl)) rfl rfl ?_
        refine dq (f_idxList rfl rfl rfl un69 kd77 (Int.natCast_nonneg _) (wordD_at hq) (lt rfl)) rfl rfl ?_
        refine dq (f_load kd77 rfl rfl (lt rfl)) rfl rfl ?_
        refine dq (f_neS rfl rfl rfl rfl eqg77 (ev77 ..) (by decide) (by rw [word_beq, decide_eq_false hpq]; rfl : _ = true) (lt rfl)) rfl rfl ?_
        refine dq_nil rfl ?_
        refine to_next ?_
        refine hits_cond rfl (fun c2 => ?_) (fun c2 => absurd c2 Bool.false_ne_true.symm)
        refine hits_seq ?_
        refine hits_region ?_
        refine sq (f_assign rfl (lt rfl)) rfl rfl ?_
        refine hits_nil ?_
        refine to_next ?_
        refine hits_ret ?_
        refine in_ret ?_
        refine to_ret ?_
        refine to_ret ?_
        refine in_ret ?_
        refine to_ret ?_
        exact hits_done (.inl rfl) rfl rfl (by rw [decide_eq_false (fun c => by subst c; rw [hp] at hq; exact hpq (Option.some.inj hq))]; rfl)
    · have hab : a = b := by rw [List.take_of_length_le (by omega), List.take_of_length_le (by omega)] at hJ; exact hJ
      refine hits_region ?_
      refine sq (f_move rfl (lt rfl)) rfl rfl ?_
      refine sq (f_move rfl (lt rfl)) rfl rfl ?_
      refine sq (f_lenList rfl rfl un69 (lt rfl)) rfl rfl ?_
      refine sq (f_bin rfl rfl (bT (decide_eq_false (by omega))) (lt rfl)) rfl rfl ?_
      refine hits_nil ?_
      refine to_next ?_
      refine hits_cond rfl (fun c1 => absurd c1 Bool.false_ne_true) (fun c1 => ?_)
      refine hits_exit ?_
      refine to_exit ?_
      refine to_exit ?_
      refine in_hit rfl ?_
      refine to_next ?_
      refine hits_seq ?_
      refine hits_region ?_
      refine sq (f_assign rfl (lt rfl)) rfl rfl ?_
      refine hits_nil ?_
      refine to_next ?_
      refine hits_ret ?_
      exact hits_done (.inl rfl) rfl rfl (by rw [decide_eq_true hab]; rfl)
  · refine hits_region ?_
    refine sq (f_move rfl (lt rfl)) rfl rfl ?_
    refine sq (f_lenList rfl rfl un69 (lt rfl)) rfl rfl ?_
    refine sq (f_move rfl (lt rfl)) rfl rfl ?_
    refine sq (f_lenList rfl rfl un69 (lt rfl)) rfl rfl ?_
    refine sq (f_bin rfl rfl (bT ((bne_iff_ne.mpr (by omega) : _ = true))) (lt rfl)) rfl rfl ?_
    refine hits_nil ?_
    refine to_next ?_
    refine hits_cond rfl (fun c0 => ?_) (fun c0 => absurd c0 Bool.false_ne_true.symm)
    refine hits_seq ?_
    refine hits_region ?_
    refine sq (f_assign rfl (lt rfl)) rfl rfl ?_
    refine hits_nil ?_
    refine to_next ?_
    refine hits_ret ?_
    refine to_ret ?_
    exact hits_done (.inl rfl) rfl rfl (by rw [decide_eq_false (fun c => hlen (by rw [c]))]; rfl)

set_option maxRecDepth 100000 in
theorem alive_c : CallsP Tryz.prog Lw 22 [] (.sc (.bool true)) := by
  have h1 := words_c [97, 60, 60, 49, 50, 119, 49, 102, 59, 47, 47, 32, 115, 111, 10, 55] (by decide)
  have h2 := words_c [97, 10, 10, 36] (by decide)
  rw [alive_1] at h1
  rw [alive_2] at h2
  have h3 := samew_c aliveL aliveL (by decide)
  rw [decide_eq_true rfl] at h3
  refine callsP_of gs_lw Tryz.func22 rfl Tryz.ntmps22 rfl fun w0 S0 stab => ?_
  refine hits_seq ?_
  refine hits_region ?_
  refine sq (f_assign rfl (lt rfl)) rfl rfl ?_
  refine hits_nil ?_
  refine to_next ?_
  refine hits_seq ?_
  refine hits_region ?_
  refine sq (f_call en18 rfl h1 (lt rfl)) rfl rfl ?_
  refine sq (f_move rfl (lt rfl)) rfl rfl ?_
  refine sq (f_extract rfl rfl (lt rfl)) rfl rfl ?_
  refine sq (f_extract rfl rfl (lt rfl)) rfl rfl ?_
  refine sq (f_extract rfl rfl (lt rfl)) rfl rfl ?_
  refine sq (f_assign rfl (lt rfl)) rfl rfl ?_
  refine sq (f_assign rfl (lt rfl)) rfl rfl ?_
  refine sq (f_assign rfl (lt rfl)) rfl rfl ?_
  refine hits_nil ?_
  refine to_next ?_
  refine hits_seq ?_
  refine hits_region ?_
  refine sq (f_call en18 rfl h2 (lt rfl)) rfl rfl ?_
  refine sq (f_move rfl (lt rfl)) rfl rfl ?_
  refine sq (f_extract rfl rfl (lt rfl)) rfl rfl ?_
  refine sq (f_extract rfl rfl (lt rfl)) rfl rfl ?_
  refine sq (f_extract rfl rfl (lt rfl)) rfl rfl ?_
  refine sq (f_assign rfl (lt rfl)) rfl rfl ?_
  refine sq (f_assign rfl (lt rfl)) rfl rfl ?_
  refine sq (f_assign rfl (lt rfl)) rfl rfl ?_
  refine hits_nil ?_
  refine to_next ?_
  refine hits_seq ?_
  refine hits_region ?_
  refine sq (f_build bu77 rfl rfl (lt rfl)) rfl rfl ?_
  refine sq (f_build bu77 rfl rfl (lt rfl)) rfl rfl ?_
  refine sq (f_build bu24 rfl rfl (lt rfl)) rfl rfl ?_
  refine sq (f_build bu77 rfl rfl (lt rfl)) rfl rfl ?_
  refine sq (f_build bu77 rfl rfl (lt rfl)) rfl rfl ?_
  refine sq (f_build bu24 rfl rfl (lt rfl)) rfl rfl ?_
  refine sq (f_build bu77 rfl rfl (lt rfl)) rfl rfl ?_
  refine sq (f_buildSlice sk69 rfl rfl rfl rfl rfl rfl (by decide) (by decide) (lt rfl)) rfl rfl ?_
  refine sq (f_assign rfl (lt rfl)) rfl rfl ?_
  refine hits_nil ?_
  refine to_next ?_
  refine hits_seq ?_
  refine hits_region ?_
  refine sq (f_move rfl (lt rfl)) rfl rfl ?_
  refine sq (f_bin rfl rfl (bT (b' := true) rfl) (lt rfl)) rfl rfl ?_
  refine sq (f_move rfl (lt rfl)) rfl rfl ?_
  refine sq_yes (f_move rfl (lt rfl)) rfl rfl rfl rfl (lt rfl) ?_
  refine sq_yes (f_bin rfl rfl (bT (b' := true) rfl) (lt rfl)) rfl rfl rfl rfl (lt rfl) ?_
  refine sq (f_pick rfl rfl (lt rfl)) rfl rfl ?_
  refine sq (f_move rfl (lt rfl)) rfl rfl ?_
  refine sq_yes (f_move rfl (lt rfl)) rfl rfl rfl rfl (lt rfl) ?_
  refine sq_yes (f_move rfl (lt rfl)) rfl rfl rfl rfl (lt rfl) ?_
  refine sq_yes (f_call en20 rfl h3 (lt rfl)) rfl rfl rfl rfl (lt rfl) ?_
  refine sq (f_pick rfl rfl (lt rfl)) rfl rfl ?_
  refine sq (f_move rfl (lt rfl)) rfl rfl ?_
  refine sq_yes (f_move rfl (lt rfl)) rfl rfl rfl rfl (lt rfl) ?_
  refine sq_yes (f_bin rfl rfl (bT (b' := true) rfl) (lt rfl)) rfl rfl rfl rfl (lt rfl) ?_
  refine sq (f_pick rfl rfl (lt rfl)) rfl rfl ?_
  refine sq (f_move rfl (lt rfl)) rfl rfl ?_
  refine sq_yes (f_move rfl (lt rfl)) rfl rfl rfl rfl (lt rfl) ?_
  refine sq_yes (f_bin rfl rfl (bT (b' := true) rfl) (lt rfl)) rfl rfl rfl rfl (lt rfl) ?_
  refine sq (f_pick rfl rfl (lt rfl)) rfl rfl ?_
  refine sq (f_assign rfl (lt rfl)) rfl rfl ?_
  refine hits_nil ?_
  refine to_next ?_
  refine hits_ret ?_
  exact hits_done (.inl rfl) rfl rfl rfl

end Go.Proofs.YtcaedggggkchiaaGreatDoor.Ln
