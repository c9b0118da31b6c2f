/- The law BitsBack: its walk over data, and the law as a row asks it. -/
import Derived.Test.YthhlnghpbjmfpaaDoorAbBack
namespace Go.Proofs.YthhlnghpbjmfpaaDoor.AbBits
open Go Go.RowKit Go.Ab Go.Proofs Go.Proofs.YthhlnghpbjmfpaaDoor Go.Proofs.YthhlnghpbjmfpaaDoor.PTryd Go.Proofs.YthhlnghpbjmfpaaDoor.PTrydFns Go.Proofs.YthhlnghpbjmfpaaDoor.BitsMath Go.Proofs.YthhlnghpbjmfpaaDoor.Press
set_option linter.unusedVariables false
set_option linter.unusedSimpArgs false
theorem en10 : enters Tryd.prog 10 = true := by kernel_rfl
theorem en22 : enters Tryd.prog 22 = true := by kernel_rfl
theorem en19 : enters Tryd.prog 19 = true := by kernel_rfl
theorem back_parse {w v : Nat} (h0 : 1 ≤ w) (h : w ≤ 128) (hv : v < 2 ^ w) : CallsP Tryd.prog Errs 19 [.sc (.string (textB w v))] (.tup [bitD w v, .sc (.int .i64 0)]) := by
  have hv' := lt128 h hv
  have hlen := hexL_le 31 v (by simpa using hv')
  have hsz := rtext_size (w := w) (v := v)
  have hy := yes_of h
  have e := parse_yes (rtextB w v) (by omega) ⟨w, pW_is h, h0, h, by rw [pV_is h hv']; exact hv, by rw [pV_is h hv', rtext_eq hv']⟩
  rw [← pV_hi, ← pV_lo, pV_is h hv', pW_is h] at e
  rw [rtext_eq hv']; exact e

set_option maxRecDepth 100000 in
theorem back_ok {w v w' v' : Nat} (h0 : 1 ≤ w) (h : w ≤ 128) (hv : v < 2 ^ w) (h0' : 1 ≤ w') (h' : w' ≤ 128) (hw : v' < 2 ^ w') : CallsP Tryd.prog Errs 8 [bitD w v, bitD w' v'] (.sc (.bool true)) := by
  have hv' := lt128 h hv
  have hl : ((bytesOf w v).map fun n => D.sc (.int .u8 n)).length = (w + 7) / 8 := by rw [List.length_map, bytesOf_len]
  have hb := up (bytes_c h0 h hv)
  have ht := up (text_c h0 h hv)
  have hr := up (read_c h0 h hv)
  have hp := back_parse h0 h hv
  have ht' := up (text_c h0' h' hw)
  have hinj := text_inj h hv' h' (lt128 h' hw)
  refine callsP_of gs_errs Tryd.func8 rfl Tryd.ntmps8 rfl fun w0 S0 stab => ?_
  refine hits_seq ?_
  refine hits_region ?_
  refine sq (f_box rfl rfl (lt rfl)) rfl rfl ?_
  refine sq (f_box rfl rfl (lt rfl)) rfl rfl ?_
  refine sq (f_assign rfl (lt rfl)) rfl rfl ?_
  refine hits_nil ?_
  refine to_next ?_
  refine hits_seq ?_
  refine hits_region ?_
  refine sq (f_load kd27 rfl rfl (lt rfl)) rfl rfl ?_
  refine sq (f_call en21 rfl hb (lt rfl)) rfl rfl ?_
  refine sq (f_move rfl (lt rfl)) rfl rfl ?_
  refine sq (f_extract rfl rfl (lt rfl)) rfl rfl ?_
  refine sq (f_extract rfl rfl (lt rfl)) rfl rfl ?_
  refine sq (f_assign rfl (lt rfl)) rfl rfl ?_
  refine sq (f_assign rfl (lt rfl)) rfl rfl ?_
  refine hits_nil ?_
  refine to_next ?_
  refine hits_seq ?_
  refine hits_region ?_
  refine sq (f_load kd27 rfl rfl (lt rfl)) rfl rfl ?_
  refine sq (f_call en17 rfl ht (lt rfl)) rfl rfl ?_
  refine sq (f_move rfl (lt rfl)) rfl rfl ?_
  refine sq (f_extract rfl rfl (lt rfl)) rfl rfl ?_
  refine sq (f_extract rfl rfl (lt rfl)) rfl rfl ?_
  refine sq (f_assign rfl (lt rfl)) rfl rfl ?_
  refine sq (f_assign rfl (lt rfl)) rfl rfl ?_
  refine hits_nil ?_
  refine to_next ?_
  refine hits_seq ?_
  refine hits_seq ?_
  refine hits_region ?_
  refine sq (f_call en10 rfl (up alive_c) (lt rfl)) rfl rfl ?_
  refine sq (f_un rfl rfl (lt rfl)) rfl rfl ?_
  refine sq (f_move rfl (lt rfl)) rfl rfl ?_
  refine sq_yes (f_move rfl (lt rfl)) rfl rfl rfl rfl (lt rfl) ?_
  refine sq_yes (f_bin rfl rfl (bT (b' := false) rfl) (lt rfl)) rfl rfl rfl rfl (lt rfl) ?_
  refine sq (f_pick rfl rfl (lt rfl)) rfl rfl ?_
  refine sq (f_move rfl (lt rfl)) rfl rfl ?_
  refine sq_yes (f_move rfl (lt rfl)) rfl rfl rfl rfl (lt rfl) ?_
  refine sq_yes (f_bin rfl rfl (bT (b' := false) rfl) (lt rfl)) rfl rfl rfl rfl (lt rfl) ?_
  refine sq (f_pick rfl rfl (lt rfl)) rfl rfl ?_
  refine hits_nil ?_
  refine to_next ?_
  refine hits_cond rfl (fun c0 => ?_) (fun c0 => ?_)
  case refine_1 => exact absurd c0 Bool.false_ne_true
  case refine_2 =>
    refine hits_skip ?_
    refine to_next ?_
    refine hits_seq ?_
    refine hits_region ?_
    refine sq (f_fieldAddr rfl kf27_0 rfl (lt rfl)) rfl rfl ?_
    refine sq (f_load kd3 rfl rfl (lt rfl)) rfl rfl ?_
    refine sq (f_move rfl (lt rfl)) rfl rfl ?_
    refine sq (f_call en22 rfl hr (lt rfl)) rfl rfl ?_
    refine sq (f_move rfl (lt rfl)) rfl rfl ?_
    refine sq (f_extract rfl rfl (lt rfl)) rfl rfl ?_
    refine sq (f_extract rfl rfl (lt rfl)) rfl rfl ?_
    refine sq (f_alloc zc27 (lt rfl)) rfl rfl ?_
    refine sq (f_store kd27 rfl rfl rfl rfl rfl) rfl rfl ?_
    refine sq (f_assign rfl (lt rfl)) rfl rfl ?_
    refine hits_nil ?_
    refine to_next ?_
    refine hits_seq ?_
    refine hits_region ?_
    refine sq (f_move rfl (lt rfl)) rfl rfl ?_
    refine sq (f_call en19 rfl hp (lt rfl)) rfl rfl ?_
    refine sq (f_move rfl (lt rfl)) rfl rfl ?_
    refine sq (f_extract rfl rfl (lt rfl)) rfl rfl ?_
    refine sq (f_extract rfl rfl (lt rfl)) rfl rfl ?_
    refine sq (f_alloc zc27 (lt rfl)) rfl rfl ?_
    refine sq (f_store kd27 rfl rfl rfl rfl rfl) rfl rfl ?_
    refine sq (f_assign rfl (lt rfl)) rfl rfl ?_
    refine hits_nil ?_
    refine to_next ?_
    refine hits_seq ?_
    refine hits_seq ?_
    refine hits_region ?_
    refine sq (f_move rfl (lt rfl)) rfl rfl ?_
    refine sq (f_bin rfl rfl (bT (b' := false) rfl) (lt rfl)) rfl rfl ?_
    refine sq (f_move rfl (lt rfl)) rfl rfl ?_
    refine sq_yes (f_move rfl (lt rfl)) rfl rfl rfl rfl (lt rfl) ?_
    refine sq_yes (f_bin rfl rfl (bT (b' := false) rfl) (lt rfl)) rfl rfl rfl rfl (lt rfl) ?_
    refine sq (f_pick rfl rfl (lt rfl)) rfl rfl ?_
    refine sq (f_move rfl (lt rfl)) rfl rfl ?_
    refine sq_yes (f_load kd27 rfl rfl (lt rfl)) rfl rfl rfl rfl (lt rfl) ?_
    refine sq_yes (f_load kd27 rfl rfl (lt rfl)) rfl rfl rfl rfl (lt rfl) ?_
    refine sq_yes (f_neB rfl rfl (neF rfl) (lt rfl)) rfl rfl rfl rfl (lt rfl) ?_
    refine sq (f_pick rfl rfl (lt rfl)) rfl rfl ?_
    refine sq (f_move rfl (lt rfl)) rfl rfl ?_
    refine sq_yes (f_load kd27 rfl rfl (lt rfl)) rfl rfl rfl rfl (lt rfl) ?_
    refine sq_yes (f_load kd27 rfl rfl (lt rfl)) rfl rfl rfl rfl (lt rfl) ?_
    refine sq_yes (f_neB rfl rfl (neF rfl) (lt rfl)) rfl rfl rfl rfl (lt rfl) ?_
    refine sq (f_pick rfl rfl (lt rfl)) rfl rfl ?_
    refine sq (f_move rfl (lt rfl)) rfl rfl ?_
    refine sq_yes (f_move rfl (lt rfl)) rfl rfl rfl rfl (lt rfl) ?_
    refine sq_yes (f_lenList rfl rfl un49 (lt rfl)) rfl rfl rfl rfl (lt rfl) ?_
    refine sq_yes (f_fieldAddr rfl kf27_0 rfl (lt rfl)) rfl rfl rfl rfl (lt rfl) ?_
    refine sq_yes (f_load kd3 rfl rfl (lt rfl)) rfl rfl rfl rfl (lt rfl) ?_
    refine sq_yes (f_bin rfl rfl (iT (((IntWalk.i64_in _ (by omega)).trans (by omega) : _ = ((w + 7 : Nat) : Int)))) (lt rfl)) rfl rfl rfl rfl (lt rfl) ?_
    refine sq_yes (f_divI rfl rfl (by decide) (by rw [Int.tdiv_eq_ediv_of_nonneg (by omega), IntWalk.i64_in _ (by omega)]; omega : _ = (((w + 7) / 8 : Nat) : Int)) (lt rfl)) rfl rfl rfl rfl (lt rfl) ?_
    refine sq_yes (f_bin rfl rfl (bT (b' := false) (by show ((((bytesOf w v).map fun n => D.sc (.int .u8 n)).length : Int) != (((w + 7) / 8 : Nat) : Int)) = false; rw [hl]; simp)) (lt rfl)) rfl rfl rfl rfl (lt rfl) ?_
    refine sq (f_pick rfl rfl (lt rfl)) rfl rfl ?_
    refine hits_nil ?_
    refine to_next ?_
    refine hits_cond rfl (fun c1 => ?_) (fun c1 => ?_)
    case refine_1 => exact absurd c1 Bool.false_ne_true
    case refine_2 =>
      refine hits_skip ?_
      refine to_next ?_
      refine hits_seq ?_
      refine hits_region ?_
      refine sq (f_load kd27 rfl rfl (lt rfl)) rfl rfl ?_
      refine sq (f_call en17 rfl ht' (lt rfl)) rfl rfl ?_
      refine sq (f_move rfl (lt rfl)) rfl rfl ?_
      refine sq (f_extract rfl rfl (lt rfl)) rfl rfl ?_
      refine sq (f_extract rfl rfl (lt rfl)) rfl rfl ?_
      refine sq (f_assign rfl (lt rfl)) rfl rfl ?_
      refine sq (f_assign rfl (lt rfl)) rfl rfl ?_
      refine hits_nil ?_
      refine to_next ?_
      refine hits_seq ?_
      refine hits_region ?_
      refine sq (f_move rfl (lt rfl)) rfl rfl ?_
      refine sq (f_bin rfl rfl (bT (b' := false) rfl) (lt rfl)) rfl rfl ?_
      refine sq (f_move rfl (lt rfl)) rfl rfl ?_
      refine sq_yes (f_move rfl (lt rfl)) rfl rfl rfl rfl (lt rfl) ?_
      refine sq_yes (f_move rfl (lt rfl)) rfl rfl rfl rfl (lt rfl) ?_
      refine sq_yes (f_bin rfl rfl (bT (str_beq _ _)) (lt rfl)) rfl rfl rfl rfl (lt rfl) ?_
      refine sq_yes (f_load kd27 rfl rfl (lt rfl)) rfl rfl rfl rfl (lt rfl) ?_
      refine sq_yes (f_load kd27 rfl rfl (lt rfl)) rfl rfl rfl rfl (lt rfl) ?_
      refine sq_yes (f_eqB rfl rfl rfl (lt rfl)) rfl rfl rfl rfl (lt rfl) ?_
      refine sq_yes (f_binW rfl rfl (fun wo => by rw [eql4, hinj]) (lt rfl)) rfl rfl rfl rfl (lt rfl) ?_
      refine sq (f_pick rfl rfl (lt rfl)) rfl rfl ?_
      refine sq (f_assign rfl (lt rfl)) rfl rfl ?_
      refine hits_nil ?_
      refine to_next ?_
      refine hits_ret ?_
      exact hits_done (.inl rfl) rfl rfl rfl

set_option maxRecDepth 100000 in
theorem back_bad {w v : Nat} {a0 a1 a2 : Int} (h0 : 1 ≤ w) (h : w ≤ 128) (hv : v < 2 ^ w) (hc : PTryd.bits_Check.f a0 a1 a2 = some false) : CallsP Tryd.prog Errs 8 [bitD w v, .agg [.sc (.int .i64 a0), .sc (.int .u64 a1), .sc (.int .u64 a2)]] (.sc (.bool true)) := by
  have hv' := lt128 h hv
  have hl : ((bytesOf w v).map fun n => D.sc (.int .u8 n)).length = (w + 7) / 8 := by rw [List.length_map, bytesOf_len]
  have hb := up (bytes_c h0 h hv)
  have ht := up (text_c h0 h hv)
  have hr := up (read_c h0 h hv)
  have hp := back_parse h0 h hv
  refine callsP_of gs_errs Tryd.func8 rfl Tryd.ntmps8 rfl fun w0 S0 stab => ?_
  refine hits_seq ?_
  refine hits_region ?_
  refine sq (f_box rfl rfl (lt rfl)) rfl rfl ?_
  refine sq (f_box rfl rfl (lt rfl)) rfl rfl ?_
  refine sq (f_assign rfl (lt rfl)) rfl rfl ?_
  refine hits_nil ?_
  refine to_next ?_
  refine hits_seq ?_
  refine hits_region ?_
  refine sq (f_load kd27 rfl rfl (lt rfl)) rfl rfl ?_
  refine sq (f_call en21 rfl hb (lt rfl)) rfl rfl ?_
  refine sq (f_move rfl (lt rfl)) rfl rfl ?_
  refine sq (f_extract rfl rfl (lt rfl)) rfl rfl ?_
  refine sq (f_extract rfl rfl (lt rfl)) rfl rfl ?_
  refine sq (f_assign rfl (lt rfl)) rfl rfl ?_
  refine sq (f_assign rfl (lt rfl)) rfl rfl ?_
  refine hits_nil ?_
  refine to_next ?_
  refine hits_seq ?_
  refine hits_region ?_
  refine sq (f_load kd27 rfl rfl (lt rfl)) rfl rfl ?_
  refine sq (f_call en17 rfl ht (lt rfl)) rfl rfl ?_
  refine sq (f_move rfl (lt rfl)) rfl rfl ?_
  refine sq (f_extract rfl rfl (lt rfl)) rfl rfl ?_
  refine sq (f_extract rfl rfl (lt rfl)) rfl rfl ?_
  refine sq (f_assign rfl (lt rfl)) rfl rfl ?_
  refine sq (f_assign rfl (lt rfl)) rfl rfl ?_
  refine hits_nil ?_
  refine to_next ?_
  refine hits_seq ?_
  refine hits_seq ?_
  refine hits_region ?_
  refine sq (f_call en10 rfl (up alive_c) (lt rfl)) rfl rfl ?_
  refine sq (f_un rfl rfl (lt rfl)) rfl rfl ?_
  refine sq (f_move rfl (lt rfl)) rfl rfl ?_
  refine sq_yes (f_move rfl (lt rfl)) rfl rfl rfl rfl (lt rfl) ?_
  refine sq_yes (f_bin rfl rfl (bT (b' := false) rfl) (lt rfl)) rfl rfl rfl rfl (lt rfl) ?_
  refine sq (f_pick rfl rfl (lt rfl)) rfl rfl ?_
  refine sq (f_move rfl (lt rfl)) rfl rfl ?_
  refine sq_yes (f_move rfl (lt rfl)) rfl rfl rfl rfl (lt rfl) ?_
  refine sq_yes (f_bin rfl rfl (bT (b' := false) rfl) (lt rfl)) rfl rfl rfl rfl (lt rfl) ?_
  refine sq (f_pick rfl rfl (lt rfl)) rfl rfl ?_
  refine hits_nil ?_
  refine to_next ?_
  refine hits_cond rfl (fun c0 => ?_) (fun c0 => ?_)
  case refine_1 => exact absurd c0 Bool.false_ne_true
  case refine_2 =>
    refine hits_skip ?_
    refine to_next ?_
    refine hits_seq ?_
    refine hits_region ?_
    refine sq (f_fieldAddr rfl kf27_0 rfl (lt rfl)) rfl rfl ?_
    refine sq (f_load kd3 rfl rfl (lt rfl)) rfl rfl ?_
    refine sq (f_move rfl (lt rfl)) rfl rfl ?_
    refine sq (f_call en22 rfl hr (lt rfl)) rfl rfl ?_
    refine sq (f_move rfl (lt rfl)) rfl rfl ?_
    refine sq (f_extract rfl rfl (lt rfl)) rfl rfl ?_
    refine sq (f_extract rfl rfl (lt rfl)) rfl rfl ?_
    refine sq (f_alloc zc27 (lt rfl)) rfl rfl ?_
    refine sq (f_store kd27 rfl rfl rfl rfl rfl) rfl rfl ?_
    refine sq (f_assign rfl (lt rfl)) rfl rfl ?_
    refine hits_nil ?_
    refine to_next ?_
    refine hits_seq ?_
    refine hits_region ?_
    refine sq (f_move rfl (lt rfl)) rfl rfl ?_
    refine sq (f_call en19 rfl hp (lt rfl)) rfl rfl ?_
    refine sq (f_move rfl (lt rfl)) rfl rfl ?_
    refine sq (f_extract rfl rfl (lt rfl)) rfl rfl ?_
    refine sq (f_extract rfl rfl (lt rfl)) rfl rfl ?_
    refine sq (f_alloc zc27 (lt rfl)) rfl rfl ?_
    refine sq (f_store kd27 rfl rfl rfl rfl rfl) rfl rfl ?_
    refine sq (f_assign rfl (lt rfl)) rfl rfl ?_
    refine hits_nil ?_
    refine to_next ?_
    refine hits_seq ?_
    refine hits_seq ?_
    refine hits_region ?_
    refine sq (f_move rfl (lt rfl)) rfl rfl ?_
    refine sq (f_bin rfl rfl (bT (b' := false) rfl) (lt rfl)) rfl rfl ?_
    refine sq (f_move rfl (lt rfl)) rfl rfl ?_
    refine sq_yes (f_move rfl (lt rfl)) rfl rfl rfl rfl (lt rfl) ?_
    refine sq_yes (f_bin rfl rfl (bT (b' := false) rfl) (lt rfl)) rfl rfl rfl rfl (lt rfl) ?_
    refine sq (f_pick rfl rfl (lt rfl)) rfl rfl ?_
    refine sq (f_move rfl (lt rfl)) rfl rfl ?_
    refine sq_yes (f_load kd27 rfl rfl (lt rfl)) rfl rfl rfl rfl (lt rfl) ?_
    refine sq_yes (f_load kd27 rfl rfl (lt rfl)) rfl rfl rfl rfl (lt rfl) ?_
    refine sq_yes (f_neB rfl rfl (neF rfl) (lt rfl)) rfl rfl rfl rfl (lt rfl) ?_
    refine sq (f_pick rfl rfl (lt rfl)) rfl rfl ?_
    refine sq (f_move rfl (lt rfl)) rfl rfl ?_
    refine sq_yes (f_load kd27 rfl rfl (lt rfl)) rfl rfl rfl rfl (lt rfl) ?_
    refine sq_yes (f_load kd27 rfl rfl (lt rfl)) rfl rfl rfl rfl (lt rfl) ?_
    refine sq_yes (f_neB rfl rfl (neF rfl) (lt rfl)) rfl rfl rfl rfl (lt rfl) ?_
    refine sq (f_pick rfl rfl (lt rfl)) rfl rfl ?_
    refine sq (f_move rfl (lt rfl)) rfl rfl ?_
    refine sq_yes (f_move rfl (lt rfl)) rfl rfl rfl rfl (lt rfl) ?_
    refine sq_yes (f_lenList rfl rfl un49 (lt rfl)) rfl rfl rfl rfl (lt rfl) ?_
    refine sq_yes (f_fieldAddr rfl kf27_0 rfl (lt rfl)) rfl rfl rfl rfl (lt rfl) ?_
    refine sq_yes (f_load kd3 rfl rfl (lt rfl)) rfl rfl rfl rfl (lt rfl) ?_
    refine sq_yes (f_bin rfl rfl (iT (((IntWalk.i64_in _ (by omega)).trans (by omega) : _ = ((w + 7 : Nat) : Int)))) (lt rfl)) rfl rfl rfl rfl (lt rfl) ?_
    refine sq_yes (f_divI rfl rfl (by decide) (by rw [Int.tdiv_eq_ediv_of_nonneg (by omega), IntWalk.i64_in _ (by omega)]; omega : _ = (((w + 7) / 8 : Nat) : Int)) (lt rfl)) rfl rfl rfl rfl (lt rfl) ?_
    refine sq_yes (f_bin rfl rfl (bT (b' := false) (by show ((((bytesOf w v).map fun n => D.sc (.int .u8 n)).length : Int) != (((w + 7) / 8 : Nat) : Int)) = false; rw [hl]; simp)) (lt rfl)) rfl rfl rfl rfl (lt rfl) ?_
    refine sq (f_pick rfl rfl (lt rfl)) rfl rfl ?_
    refine hits_nil ?_
    refine to_next ?_
    refine hits_cond rfl (fun c1 => ?_) (fun c1 => ?_)
    case refine_1 => exact absurd c1 Bool.false_ne_true
    case refine_2 =>
      refine hits_skip ?_
      refine to_next ?_
      refine hits_seq ?_
      refine hits_region ?_
      refine sq (f_load kd27 rfl rfl (lt rfl)) rfl rfl ?_
      refine sq (f_call en17 rfl (up (text_no hc)) (lt rfl)) rfl rfl ?_
      refine sq (f_move rfl (lt rfl)) rfl rfl ?_
      refine sq (f_extract rfl rfl (lt rfl)) rfl rfl ?_
      refine sq (f_extract rfl rfl (lt rfl)) rfl rfl ?_
      refine sq (f_assign rfl (lt rfl)) rfl rfl ?_
      refine sq (f_assign rfl (lt rfl)) rfl rfl ?_
      refine hits_nil ?_
      refine to_next ?_
      refine hits_seq ?_
      refine hits_region ?_
      refine sq (f_move rfl (lt rfl)) rfl rfl ?_
      refine sq (f_bin rfl rfl (bT (b' := true) rfl) (lt rfl)) rfl rfl ?_
      refine sq (f_move rfl (lt rfl)) rfl rfl ?_
      refine sq_no rfl rfl rfl rfl rfl (lt rfl) (lt rfl) ?_
      refine sq_no rfl rfl rfl rfl rfl (lt rfl) (lt rfl) ?_
      refine sq_no rfl rfl rfl rfl rfl (lt rfl) (lt rfl) ?_
      refine sq_no rfl rfl rfl rfl rfl (lt rfl) (lt rfl) ?_
      refine sq_no rfl rfl rfl rfl rfl (lt rfl) (lt rfl) ?_
      refine sq_no rfl rfl rfl rfl rfl (lt rfl) (lt rfl) ?_
      refine sq_no rfl rfl rfl rfl rfl (lt rfl) (lt rfl) ?_
      refine sq (f_pick rfl rfl (lt rfl)) rfl rfl ?_
      refine sq (f_assign rfl (lt rfl)) rfl rfl ?_
      refine hits_nil ?_
      refine to_next ?_
      refine hits_ret ?_
      exact hits_done (.inl rfl) rfl rfl rfl

set_option maxRecDepth 100000 in
theorem back_no {a0 a1 a2 b0 b1 b2 : Int} (hc : PTryd.bits_Check.f a0 a1 a2 = some false) : CallsP Tryd.prog Errs 8 [.agg [.sc (.int .i64 a0), .sc (.int .u64 a1), .sc (.int .u64 a2)], .agg [.sc (.int .i64 b0), .sc (.int .u64 b1), .sc (.int .u64 b2)]] (.sc (.bool true)) := by
  refine callsP_of gs_errs Tryd.func8 rfl Tryd.ntmps8 rfl fun w0 S0 stab => ?_
  refine hits_seq ?_
  refine hits_region ?_
  refine sq (f_box rfl rfl (lt rfl)) rfl rfl ?_
  refine sq (f_box rfl rfl (lt rfl)) rfl rfl ?_
  refine sq (f_assign rfl (lt rfl)) rfl rfl ?_
  refine hits_nil ?_
  refine to_next ?_
  refine hits_seq ?_
  refine hits_region ?_
  refine sq (f_load kd27 rfl rfl (lt rfl)) rfl rfl ?_
  refine sq (f_call en21 rfl (up (bytes_no hc)) (lt rfl)) rfl rfl ?_
  refine sq (f_move rfl (lt rfl)) rfl rfl ?_
  refine sq (f_extract rfl rfl (lt rfl)) rfl rfl ?_
  refine sq (f_extract rfl rfl (lt rfl)) rfl rfl ?_
  refine sq (f_assign rfl (lt rfl)) rfl rfl ?_
  refine sq (f_assign rfl (lt rfl)) rfl rfl ?_
  refine hits_nil ?_
  refine to_next ?_
  refine hits_seq ?_
  refine hits_region ?_
  refine sq (f_load kd27 rfl rfl (lt rfl)) rfl rfl ?_
  refine sq (f_call en17 rfl (up (text_no hc)) (lt rfl)) rfl rfl ?_
  refine sq (f_move rfl (lt rfl)) rfl rfl ?_
  refine sq (f_extract rfl rfl (lt rfl)) rfl rfl ?_
  refine sq (f_extract rfl rfl (lt rfl)) rfl rfl ?_
  refine sq (f_assign rfl (lt rfl)) rfl rfl ?_
  refine sq (f_assign rfl (lt rfl)) rfl rfl ?_
  refine hits_nil ?_
  refine to_next ?_
  refine hits_seq ?_
  refine hits_seq ?_
  refine hits_region ?_
  refine sq (f_call en10 rfl (up alive_c) (lt rfl)) rfl rfl ?_
  refine sq (f_un rfl rfl (lt rfl)) rfl rfl ?_
  refine sq (f_move rfl (lt rfl)) rfl rfl ?_
  refine sq_yes (f_move rfl (lt rfl)) rfl rfl rfl rfl (lt rfl) ?_
  refine sq_yes (f_bin rfl rfl (bT (b' := true) rfl) (lt rfl)) rfl rfl rfl rfl (lt rfl) ?_
  refine sq (f_pick rfl rfl (lt rfl)) rfl rfl ?_
  refine sq (f_move rfl (lt rfl)) rfl rfl ?_
  refine sq_no rfl rfl rfl rfl rfl (lt rfl) (lt rfl) ?_
  refine sq_no rfl rfl rfl rfl rfl (lt rfl) (lt rfl) ?_
  refine sq (f_pick rfl rfl (lt rfl)) rfl rfl ?_
  refine hits_nil ?_
  refine to_next ?_
  refine hits_cond rfl (fun c0 => ?_) (fun c0 => ?_)
  case refine_2 => exact absurd c0 Bool.false_ne_true.symm
  case refine_1 =>
    refine hits_seq ?_
    refine hits_region ?_
    refine sq (f_call en10 rfl (up alive_c) (lt rfl)) rfl rfl ?_
    refine sq (f_move rfl (lt rfl)) rfl rfl ?_
    refine sq_yes (f_load kd27 rfl rfl (lt rfl)) rfl rfl rfl rfl (lt rfl) ?_
    refine sq_yes (f_call en15 rfl (check_c hc) (lt rfl)) rfl rfl rfl rfl (lt rfl) ?_
    refine sq_yes (f_un rfl rfl (lt rfl)) rfl rfl rfl rfl (lt rfl) ?_
    refine sq (f_pick rfl rfl (lt rfl)) rfl rfl ?_
    refine sq (f_move rfl (lt rfl)) rfl rfl ?_
    refine sq_yes (f_move rfl (lt rfl)) rfl rfl rfl rfl (lt rfl) ?_
    refine sq_yes (f_bin rfl rfl (bT (b' := true) rfl) (lt rfl)) rfl rfl rfl rfl (lt rfl) ?_
    refine sq (f_pick rfl rfl (lt rfl)) rfl rfl ?_
    refine sq (f_move rfl (lt rfl)) rfl rfl ?_
    refine sq_yes (f_move rfl (lt rfl)) rfl rfl rfl rfl (lt rfl) ?_
    refine sq_yes (f_bin rfl rfl (bT (b' := true) rfl) (lt rfl)) rfl rfl rfl rfl (lt rfl) ?_
    refine sq (f_pick rfl rfl (lt rfl)) rfl rfl ?_
    refine sq (f_assign rfl (lt rfl)) rfl rfl ?_
    refine hits_nil ?_
    refine to_next ?_
    refine hits_ret ?_
    refine to_ret ?_
    exact hits_done (.inl rfl) rfl rfl rfl

end Go.Proofs.YthhlnghpbjmfpaaDoor.AbBits
namespace Go.Proofs.YthhlnghpbjmfpaaDoor.PAb
open Go Go.RowKit Go.Ab Go.Proofs.YthhlnghpbjmfpaaDoor.Press
def pointsmanlaw01_BitsBack.f (a0_0 a0_1 a0_2 a1_0 a1_1 a1_2 : Int) : Option Bool := if (Lit.int .i64 a0_0).wf = true ∧ (Lit.int .u64 a0_1).wf = true ∧ (Lit.int .u64 a0_2).wf = true ∧ (Lit.int .i64 a1_0).wf = true ∧ (Lit.int .u64 a1_1).wf = true ∧ (Lit.int .u64 a1_2).wf = true then some true else none
theorem pointsmanlaw01_BitsBack.calls (a0_0 a0_1 a0_2 a1_0 a1_1 a1_2 : Int) (r : Bool) (w : World) (hT : AbBits.Errs w) (h : pointsmanlaw01_BitsBack.f a0_0 a0_1 a0_2 a1_0 a1_1 a1_2 = some r) : Calls Tryd.prog 8 #[.agg #[.int .i64 a0_0, .int .u64 a0_1, .int .u64 a0_2], .agg #[.int .i64 a1_0, .int .u64 a1_1, .int .u64 a1_2]] w fun e w' => e = .returned (.bool r) ∧ Below w.heap.size w w' := by
  unfold pointsmanlaw01_BitsBack.f at h
  split at h
  · rename_i c
    obtain rfl := Option.some.inj h
    obtain ⟨g0, g1, g2, g3, g4, g5⟩ := c
    obtain ⟨x, hx, rfl, rfl⟩ := BitsMath.two_words g1 g2
    obtain ⟨y, hy, rfl, rfl⟩ := BitsMath.two_words g4 g5
    obtain ⟨c, hc, hx1⟩ := Go.Proofs.YthhlnghpbjmfpaaDoor.PTrydFns.check_c a0_0 hx
    obtain ⟨d, hd, hy1⟩ := Go.Proofs.YthhlnghpbjmfpaaDoor.PTrydFns.check_c a1_0 hy
    cases c
    · exact (AbBits.back_no hc).calls rfl rfl w hT
    · obtain ⟨n, rfl, q1, q2, q3⟩ := hx1 rfl
      cases d
      · exact (AbBits.back_bad q1 q2 q3 hd).calls rfl rfl w hT
      · obtain ⟨m, rfl, p1, p2, p3⟩ := hy1 rfl
        exact (AbBits.back_ok q1 q2 q3 p1 p2 p3).calls rfl rfl w hT
  · cases h
end Go.Proofs.YthhlnghpbjmfpaaDoor.PAb
namespace Go.Proofs.YthhlnghpbjmfpaaDoor.Pure
theorem BitsBack (a0_0 a0_1 a0_2 a1_0 a1_1 a1_2 : Int) (g0 : (Lit.int .i64 a0_0).wf = true) (g1 : (Lit.int .u64 a0_1).wf = true) (g2 : (Lit.int .u64 a0_2).wf = true) (g3 : (Lit.int .i64 a1_0).wf = true) (g4 : (Lit.int .u64 a1_1).wf = true) (g5 : (Lit.int .u64 a1_2).wf = true) : PAb.pointsmanlaw01_BitsBack.f a0_0 a0_1 a0_2 a1_0 a1_1 a1_2 = some true := if_pos ⟨g0, g1, g2, g3, g4, g5⟩
end Go.Proofs.YthhlnghpbjmfpaaDoor.Pure
