/- The law BitsCuts: its walk over data, and the law as a row asks it. -/
import Derived.Test.YthhlnghpbjmfpaaDoorAbMore
namespace Go.Proofs.YthhlnghpbjmfpaaDoor.AbBits
open Go Go.RowKit Go.Ab Go.Proofs.YthhlnghpbjmfpaaDoor Go.Proofs.YthhlnghpbjmfpaaDoor.PTryd Go.Proofs.YthhlnghpbjmfpaaDoor.PTrydFns Go.Proofs.YthhlnghpbjmfpaaDoor.BitsMath Go.Proofs.YthhlnghpbjmfpaaDoor.Press
set_option linter.unusedVariables false
set_option linter.unusedSimpArgs false
theorem en10 : enters Tryd.prog 10 = true := by kernel_rfl
theorem en9 : enters Tryd.prog 9 = true := by kernel_rfl
theorem kf25_0 : kf Tryd.prog 25 0 = some 0 := by kernel_rfl
theorem kd25 : kd Tryd.prog 25 = some (true, 7) := by kernel_rfl
theorem un22 : Tryd.prog.underlying 22 = some (.int .u64) := by kernel_rfl
theorem en13 : enters Tryd.prog 13 = true := by kernel_rfl
theorem kf36_0 : kf Tryd.prog 36 0 = some 0 := by kernel_rfl
theorem kf36_2 : kf Tryd.prog 36 2 = some 3 := by kernel_rfl
theorem kf36_1 : kf Tryd.prog 36 1 = some 1 := by kernel_rfl
theorem un23 : Tryd.prog.underlying 23 = some (.array 2 22) := by kernel_rfl
def cutD (n : Int) (x : Nat) (m : Int) : D := .agg [.sc (.int .i64 n), .sc (.int .u64 (hiOf x)), .sc (.int .u64 (loOf x)), .sc (.int .i64 m)]

set_option maxHeartbeats 4000000 in
set_option maxRecDepth 100000 in
theorem cuts_ok {n x b : Nat} {m y : Int} (h0 : 1 ≤ n) (h : n ≤ 128) (hx : x < 2 ^ 128) (hb : b < 2 ^ 128) : CallsP Tryd.prog Tabs 4 [cutD n x m, bitI y b] (.sc (.bool true)) := by
  have hp := Nat.two_pow_pos n
  have hof := of_is n h0 h hx
  have ha : x % 2 ^ n < 2 ^ n := Nat.mod_lt _ hp
  generalize x % 2 ^ n = a at *
  have hall := cut_all h0 h ha
  have hw := wpred h0 h
  obtain ⟨c, hc, hx⟩ := Go.Proofs.YthhlnghpbjmfpaaDoor.PTrydFns.check_c y hb
  refine callsP_of gs_tabs Tryd.func4 rfl Tryd.ntmps4 rfl fun w0 S0 stab => ?_
  refine hits_seq ?_
  refine hits_region ?_
  refine sq (f_box rfl rfl (lt rfl)) rfl rfl ?_
  refine sq (f_box rfl rfl (lt rfl)) rfl rfl ?_
  refine sq (f_assign rfl (lt rfl)) rfl rfl ?_
  refine hits_nil ?_
  refine to_next ?_
  refine hits_seq ?_
  refine hits_drawn mixed ?_
  refine dq (f_fieldAddr rfl kf36_0 rfl (lt rfl)) rfl rfl ?_
  refine dq (f_load kd3 rfl rfl (lt rfl)) rfl rfl ?_
  refine dq (f_fieldAddr rfl kf36_2 rfl (lt rfl)) rfl rfl ?_
  refine dq (f_load kd3 rfl rfl (lt rfl)) rfl rfl ?_
  refine dq (f_assign rfl (lt rfl)) rfl rfl ?_
  refine dq (f_assign rfl (lt rfl)) rfl rfl ?_
  refine dq_nil rfl ?_
  refine to_next ?_
  refine hits_seq ?_
  refine hits_region ?_
  refine sq (f_move rfl (lt rfl)) rfl rfl ?_
  refine sq (f_fieldAddr rfl kf36_1 rfl (lt rfl)) rfl rfl ?_
  refine sq (f_idxArr rfl rfl un23 kd22 rfl (lt rfl)) rfl rfl ?_
  refine sq (f_load kd22 rfl rfl (lt rfl)) rfl rfl ?_
  refine sq (f_fieldAddr rfl kf36_1 rfl (lt rfl)) rfl rfl ?_
  refine sq (f_idxArr rfl rfl un23 kd22 rfl (lt rfl)) rfl rfl ?_
  refine sq (f_load kd22 rfl rfl (lt rfl)) rfl rfl ?_
  refine sq (f_call en13 rfl (of_c (hof)) (lt rfl)) rfl rfl ?_
  refine sq (f_move rfl (lt rfl)) rfl rfl ?_
  refine sq (f_extract rfl rfl (lt rfl)) rfl rfl ?_
  refine sq (f_extract rfl rfl (lt rfl)) rfl rfl ?_
  refine sq (f_alloc zc27 (lt rfl)) rfl rfl ?_
  refine sq (f_store kd27 rfl rfl rfl rfl rfl) rfl rfl ?_
  refine sq (f_assign rfl (lt rfl)) rfl rfl ?_
  refine hits_nil ?_
  refine to_next ?_
  refine hits_seq ?_
  refine hits_seq ?_
  refine hits_region ?_
  refine sq (f_call en10 rfl alive_c (lt rfl)) rfl rfl ?_
  refine sq (f_un rfl rfl (lt rfl)) rfl rfl ?_
  refine sq (f_move rfl (lt rfl)) rfl rfl ?_
  refine sq_yes (f_move rfl (lt rfl)) rfl rfl rfl rfl (lt rfl) ?_
  refine sq_yes (f_bin rfl rfl (bT (b' := false) rfl) (lt rfl)) rfl rfl rfl rfl (lt rfl) ?_
  refine sq (f_pick rfl rfl (lt rfl)) rfl rfl ?_
  refine hits_nil ?_
  refine to_next ?_
  refine hits_cond rfl (fun c0 => ?_) (fun c0 => ?_)
  case refine_1 => exact absurd c0 Bool.false_ne_true
  case refine_2 =>
    refine hits_skip ?_
    refine to_next ?_
    refine hits_seq ?_
    refine hits_seq ?_
    by_cases z1 : m > 0
    · by_cases z2 : m < n
      · obtain ⟨t, rfl⟩ := Int.eq_ofNat_of_zero_le (show 0 ≤ m by omega)
        have hd : a / 2 ^ t < 2 ^ (n - t) := by
          rw [Nat.div_lt_iff_lt_mul (Nat.two_pow_pos t), ← Nat.pow_add, show n - t + t = n from by omega]; exact ha
        have u1 := cut_to h0 h ha (n - 1) t (by omega) (by omega)
        rw [show n - 1 - t + 1 = n - t from by omega, Nat.mod_eq_of_lt hd] at u1
        have u2 := cut_to h0 h ha (t - 1) 0 (by omega) (by omega)
        rw [show t - 1 - 0 + 1 = t from by omega, Nat.pow_zero, Nat.div_one] at u2
        have u3 := do_cat (w := n - t) (wb := t) (by omega) (by omega) (by omega) hd (Nat.mod_lt a (Nat.two_pow_pos t))
        rw [Nat.mod_add_div, show n - t + t = n from by omega] at u3
        refine hits_drawn mixed ?_
        refine dq (f_move rfl (lt rfl)) rfl rfl ?_
        refine dq (f_bin rfl rfl (bT (decide_eq_true z1)) (lt rfl)) rfl rfl ?_
        refine dq (f_move rfl (lt rfl)) rfl rfl ?_
        refine dq_yes (f_move rfl (lt rfl)) rfl rfl rfl rfl (lt rfl) ?_
        refine dq_yes (f_move rfl (lt rfl)) rfl rfl rfl rfl (lt rfl) ?_
        refine dq_yes (f_bin rfl rfl (bT (decide_eq_true z2)) (lt rfl)) rfl rfl rfl rfl (lt rfl) ?_
        refine dq (f_pick rfl rfl (lt rfl)) rfl rfl ?_
        refine dq (f_move rfl (lt rfl)) rfl rfl ?_
        refine dq_yes (f_load kd27 rfl rfl (lt rfl)) rfl rfl rfl rfl (lt rfl) ?_
        refine dq_yes (f_move rfl (lt rfl)) rfl rfl rfl rfl (lt rfl) ?_
        refine dq_yes (f_bin rfl rfl (iT (hw)) (lt rfl)) rfl rfl rfl rfl (lt rfl) ?_
        refine dq_yes (f_move rfl (lt rfl)) rfl rfl rfl rfl (lt rfl) ?_
        refine dq_yes (f_call en14 rfl (lcut_c (u1)) (lt rfl)) rfl rfl rfl rfl (lt rfl) ?_
        refine dq_yes (f_load kd27 rfl rfl (lt rfl)) rfl rfl rfl rfl (lt rfl) ?_
        refine dq_yes (f_move rfl (lt rfl)) rfl rfl rfl rfl (lt rfl) ?_
        refine dq_yes (f_bin rfl rfl (iT (wpred (by omega) (by omega))) (lt rfl)) rfl rfl rfl rfl (lt rfl) ?_
        refine dq_yes (f_call en14 rfl (lcut_c (u2)) (lt rfl)) rfl rfl rfl rfl (lt rfl) ?_
        refine dq_yes (f_call en11 rfl (do_c (u3)) (lt rfl)) rfl rfl rfl rfl (lt rfl) ?_
        refine dq_yes (f_load kd27 rfl rfl (lt rfl)) rfl rfl rfl rfl (lt rfl) ?_
        refine dq_yes (f_neB rfl rfl (neF rfl) (lt rfl)) rfl rfl rfl rfl (lt rfl) ?_
        refine dq (f_pick rfl rfl (lt rfl)) rfl rfl ?_
        refine dq_nil rfl ?_
        refine to_next ?_
        refine hits_cond rfl (fun c1 => ?_) (fun c1 => ?_)
        case refine_1 => exact absurd c1 Bool.false_ne_true
        case refine_2 =>
          refine hits_skip ?_
          refine to_next ?_
          refine hits_seq ?_
          refine hits_seq ?_
          cases c
          · refine hits_drawn mixed ?_
            refine dq (f_load kd27 rfl rfl (lt rfl)) rfl rfl ?_
            refine dq (f_move rfl (lt rfl)) rfl rfl ?_
            refine dq (f_bin rfl rfl (iT (hw)) (lt rfl)) rfl rfl ?_
            refine dq (f_call en14 rfl (lcut_c (hall)) (lt rfl)) rfl rfl ?_
            refine dq (f_load kd27 rfl rfl (lt rfl)) rfl rfl ?_
            refine dq (f_neB rfl rfl (neF rfl) (lt rfl)) rfl rfl ?_
            refine dq (f_move rfl (lt rfl)) rfl rfl ?_
            refine dq_yes (f_load kd27 rfl rfl (lt rfl)) rfl rfl rfl rfl (lt rfl) ?_
            refine dq_yes (f_call en15 rfl (check_c hc) (lt rfl)) rfl rfl rfl rfl (lt rfl) ?_
            refine dq_yes (f_un rfl rfl (lt rfl)) rfl rfl rfl rfl (lt rfl) ?_
            refine dq (f_pick rfl rfl (lt rfl)) rfl rfl ?_
            refine dq (f_move rfl (lt rfl)) rfl rfl ?_
            refine dq_no rfl rfl rfl rfl rfl (lt rfl) (lt rfl) ?_
            refine dq_no rfl rfl rfl rfl rfl (lt rfl) (lt rfl) ?_
            refine dq_no rfl rfl rfl rfl rfl (lt rfl) (lt rfl) ?_
            refine dq_no rfl rfl rfl rfl rfl (lt rfl) (lt rfl) ?_
            refine dq_no rfl rfl rfl rfl rfl (lt rfl) (lt rfl) ?_
            refine dq (f_pick rfl rfl (lt rfl)) rfl rfl ?_
            refine dq_nil rfl ?_
            refine to_next ?_
            refine hits_cond rfl (fun c2 => ?_) (fun c2 => ?_)
            case refine_2 => exact absurd c2 Bool.false_ne_true.symm
            case refine_1 =>
              refine hits_seq ?_
              refine hits_drawn mixed ?_
              refine dq (f_load kd27 rfl rfl (lt rfl)) rfl rfl ?_
              refine dq (f_move rfl (lt rfl)) rfl rfl ?_
              refine dq (f_bin rfl rfl (iT (hw)) (lt rfl)) rfl rfl ?_
              refine dq (f_call en14 rfl (lcut_c (hall)) (lt rfl)) rfl rfl ?_
              refine dq (f_load kd27 rfl rfl (lt rfl)) rfl rfl ?_
              refine dq (f_eqB rfl rfl (eqT rfl) (lt rfl)) rfl rfl ?_
              refine dq (f_assign rfl (lt rfl)) rfl rfl ?_
              refine dq_nil rfl ?_
              refine to_next ?_
              refine hits_ret ?_
              refine to_ret ?_
              exact hits_done (.inl rfl) rfl rfl rfl
          · obtain ⟨wb, rfl, hb0, hb1, hbv⟩ := hx rfl
            have hW := wsumK h hb1
            by_cases hs : n + wb ≤ 128
            · have hB := cat_lt ha hbv
              have hpb := Nat.two_pow_pos wb
              have hcat := do_cat h0 hb0 hs ha hbv
              have hd : (b + 2 ^ wb * a) / 2 ^ wb = a := by rw [Nat.add_mul_div_left _ _ hpb, Nat.div_eq_of_lt hbv, Nat.zero_add]
              have hm : (b + 2 ^ wb * a) % 2 ^ wb = b := by rw [Nat.add_mul_mod_self_left, Nat.mod_eq_of_lt hbv]
              have hlt : a < 2 ^ (n + wb) := Nat.lt_of_lt_of_le ha (Nat.pow_le_pow_right (by decide) (by omega))
              have z1 := cut_to (by omega) hs hB (n + wb - 1) wb (by omega) (by omega)
              rw [show n + wb - 1 - wb + 1 = n from by omega, hd, Nat.mod_eq_of_lt ha] at z1
              have z2 := cut_to (by omega) hs hB (wb - 1) 0 (by omega) (by omega)
              rw [show wb - 1 - 0 + 1 = wb from by omega, Nat.pow_zero, Nat.div_one, hm] at z2
              have k1 := cast_to h0 h ha (n + wb) (by omega) hs 0 0 0 0
              rw [Nat.mod_eq_of_lt hlt] at k1
              have k2 := cast_to (by omega) hs hB wb hb0 (by omega) 0 0 0 0
              rw [hm] at k2
              have hsh := do_shr (by omega) hs hB (wb := 8) (vb := wb) (by decide) (by decide) (by omega : wb < 2 ^ 8)
              rw [show min wb 128 = wb from by omega, hd] at hsh
              have hcv : IntKind.u64.wrap (wb : Int) = wb := by rw [wrap_u64]; omega
              refine hits_drawn mixed ?_
              refine dq (f_load kd27 rfl rfl (lt rfl)) rfl rfl ?_
              refine dq (f_move rfl (lt rfl)) rfl rfl ?_
              refine dq (f_bin rfl rfl (iT (hw)) (lt rfl)) rfl rfl ?_
              refine dq (f_call en14 rfl (lcut_c (hall)) (lt rfl)) rfl rfl ?_
              refine dq (f_load kd27 rfl rfl (lt rfl)) rfl rfl ?_
              refine dq (f_neB rfl rfl (neF rfl) (lt rfl)) rfl rfl ?_
              refine dq (f_move rfl (lt rfl)) rfl rfl ?_
              refine dq_yes (f_load kd27 rfl rfl (lt rfl)) rfl rfl rfl rfl (lt rfl) ?_
              refine dq_yes (f_call en15 rfl (check_c hc) (lt rfl)) rfl rfl rfl rfl (lt rfl) ?_
              refine dq_yes (f_un rfl rfl (lt rfl)) rfl rfl rfl rfl (lt rfl) ?_
              refine dq (f_pick rfl rfl (lt rfl)) rfl rfl ?_
              refine dq (f_move rfl (lt rfl)) rfl rfl ?_
              refine dq_yes (f_move rfl (lt rfl)) rfl rfl rfl rfl (lt rfl) ?_
              refine dq_yes (f_fieldAddr rfl kf27_0 rfl (lt rfl)) rfl rfl rfl rfl (lt rfl) ?_
              refine dq_yes (f_load kd3 rfl rfl (lt rfl)) rfl rfl rfl rfl (lt rfl) ?_
              refine dq_yes (f_bin rfl rfl (iT (hW)) (lt rfl)) rfl rfl rfl rfl (lt rfl) ?_
              refine dq_yes (f_bin rfl rfl (bT (decide_eq_false (by omega))) (lt rfl)) rfl rfl rfl rfl (lt rfl) ?_
              refine dq (f_pick rfl rfl (lt rfl)) rfl rfl ?_
              refine dq_nil rfl ?_
              refine to_next ?_
              refine hits_cond rfl (fun c2 => ?_) (fun c2 => ?_)
              case refine_1 => exact absurd c2 Bool.false_ne_true
              case refine_2 =>
                refine hits_skip ?_
                refine to_next ?_
                refine hits_seq ?_
                refine hits_region ?_
                refine sq (f_load kd27 rfl rfl (lt rfl)) rfl rfl ?_
                refine sq (f_load kd27 rfl rfl (lt rfl)) rfl rfl ?_
                refine sq (f_call en11 rfl (do_c (hcat)) (lt rfl)) rfl rfl ?_
                refine sq (f_alloc zc27 (lt rfl)) rfl rfl ?_
                refine sq (f_store kd27 rfl rfl rfl rfl rfl) rfl rfl ?_
                refine hits_nil ?_
                refine to_next ?_
                refine hits_seq ?_
                refine hits_region ?_
                refine sq (f_load kd27 rfl rfl (lt rfl)) rfl rfl ?_
                refine sq (f_build bu27 rfl rfl (lt rfl)) rfl rfl ?_
                refine sq (f_move rfl (lt rfl)) rfl rfl ?_
                refine sq (f_fieldAddr rfl kf27_0 rfl (lt rfl)) rfl rfl ?_
                refine sq (f_load kd3 rfl rfl (lt rfl)) rfl rfl ?_
                refine sq (f_bin rfl rfl (iT (hW)) (lt rfl)) rfl rfl ?_
                refine sq (f_call en16 rfl (Do_c k1) (lt rfl)) rfl rfl ?_
                refine sq (f_move rfl (lt rfl)) rfl rfl ?_
                refine sq (f_extract rfl rfl (lt rfl)) rfl rfl ?_
                refine sq (f_extract rfl rfl (lt rfl)) rfl rfl ?_
                refine sq (f_alloc zc27 (lt rfl)) rfl rfl ?_
                refine sq (f_store kd27 rfl rfl rfl rfl rfl) rfl rfl ?_
                refine sq (f_assign rfl (lt rfl)) rfl rfl ?_
                refine hits_nil ?_
                refine to_next ?_
                refine hits_seq ?_
                refine hits_region ?_
                refine sq (f_load kd27 rfl rfl (lt rfl)) rfl rfl ?_
                refine sq (f_build bu27 rfl rfl (lt rfl)) rfl rfl ?_
                refine sq (f_fieldAddr rfl kf27_0 rfl (lt rfl)) rfl rfl ?_
                refine sq (f_load kd3 rfl rfl (lt rfl)) rfl rfl ?_
                refine sq (f_call en16 rfl (Do_c k2) (lt rfl)) rfl rfl ?_
                refine sq (f_move rfl (lt rfl)) rfl rfl ?_
                refine sq (f_extract rfl rfl (lt rfl)) rfl rfl ?_
                refine sq (f_extract rfl rfl (lt rfl)) rfl rfl ?_
                refine sq (f_alloc zc27 (lt rfl)) rfl rfl ?_
                refine sq (f_store kd27 rfl rfl rfl rfl rfl) rfl rfl ?_
                refine sq (f_assign rfl (lt rfl)) rfl rfl ?_
                refine hits_nil ?_
                refine to_next ?_
                refine hits_seq ?_
                refine hits_drawn mixed ?_
                refine dq (f_fieldAddr rfl kf27_0 rfl (lt rfl)) rfl rfl ?_
                refine dq (f_load kd3 rfl rfl (lt rfl)) rfl rfl ?_
                refine dq (f_move rfl (lt rfl)) rfl rfl ?_
                refine dq (f_fieldAddr rfl kf27_0 rfl (lt rfl)) rfl rfl ?_
                refine dq (f_load kd3 rfl rfl (lt rfl)) rfl rfl ?_
                refine dq (f_bin rfl rfl (iT (hW)) (lt rfl)) rfl rfl ?_
                refine dq (f_bin rfl rfl (bT (beq_self_eq_true _)) (lt rfl)) rfl rfl ?_
                refine dq (f_move rfl (lt rfl)) rfl rfl ?_
                refine dq_yes (f_load kd27 rfl rfl (lt rfl)) rfl rfl rfl rfl (lt rfl) ?_
                refine dq_yes (f_fieldAddr rfl kf27_0 rfl (lt rfl)) rfl rfl rfl rfl (lt rfl) ?_
                refine dq_yes (f_load kd3 rfl rfl (lt rfl)) rfl rfl rfl rfl (lt rfl) ?_
                refine dq_yes (f_bin rfl rfl (iT (wpred (w := n + wb) (by omega) hs)) (lt rfl)) rfl rfl rfl rfl (lt rfl) ?_
                refine dq_yes (f_fieldAddr rfl kf27_0 rfl (lt rfl)) rfl rfl rfl rfl (lt rfl) ?_
                refine dq_yes (f_load kd3 rfl rfl (lt rfl)) rfl rfl rfl rfl (lt rfl) ?_
                refine dq_yes (f_call en14 rfl (lcut_c (z1)) (lt rfl)) rfl rfl rfl rfl (lt rfl) ?_
                refine dq_yes (f_load kd27 rfl rfl (lt rfl)) rfl rfl rfl rfl (lt rfl) ?_
                refine dq_yes (f_eqB rfl rfl (eqT rfl) (lt rfl)) rfl rfl rfl rfl (lt rfl) ?_
                refine dq (f_pick rfl rfl (lt rfl)) rfl rfl ?_
                refine dq (f_move rfl (lt rfl)) rfl rfl ?_
                refine dq_yes (f_load kd27 rfl rfl (lt rfl)) rfl rfl rfl rfl (lt rfl) ?_
                refine dq_yes (f_fieldAddr rfl kf27_0 rfl (lt rfl)) rfl rfl rfl rfl (lt rfl) ?_
                refine dq_yes (f_load kd3 rfl rfl (lt rfl)) rfl rfl rfl rfl (lt rfl) ?_
                refine dq_yes (f_bin rfl rfl (iT (wpred hb0 (by omega))) (lt rfl)) rfl rfl rfl rfl (lt rfl) ?_
                refine dq_yes (f_call en14 rfl (lcut_c (z2)) (lt rfl)) rfl rfl rfl rfl (lt rfl) ?_
                refine dq_yes (f_load kd27 rfl rfl (lt rfl)) rfl rfl rfl rfl (lt rfl) ?_
                refine dq_yes (f_eqB rfl rfl (eqT rfl) (lt rfl)) rfl rfl rfl rfl (lt rfl) ?_
                refine dq (f_pick rfl rfl (lt rfl)) rfl rfl ?_
                refine dq (f_move rfl (lt rfl)) rfl rfl ?_
                refine dq_yes (f_move rfl (lt rfl)) rfl rfl rfl rfl (lt rfl) ?_
                refine dq_yes (f_bin rfl rfl (bT (b' := true) rfl) (lt rfl)) rfl rfl rfl rfl (lt rfl) ?_
                refine dq (f_pick rfl rfl (lt rfl)) rfl rfl ?_
                refine dq (f_move rfl (lt rfl)) rfl rfl ?_
                refine dq_yes (f_move rfl (lt rfl)) rfl rfl rfl rfl (lt rfl) ?_
                refine dq_yes (f_bin rfl rfl (bT (b' := true) rfl) (lt rfl)) rfl rfl rfl rfl (lt rfl) ?_
                refine dq (f_pick rfl rfl (lt rfl)) rfl rfl ?_
                refine dq (f_move rfl (lt rfl)) rfl rfl ?_
                refine dq_yes (f_load kd27 rfl rfl (lt rfl)) rfl rfl rfl rfl (lt rfl) ?_
                refine dq_yes (f_load kd27 rfl rfl (lt rfl)) rfl rfl rfl rfl (lt rfl) ?_
                refine dq_yes (f_eqB rfl rfl (eqT rfl) (lt rfl)) rfl rfl rfl rfl (lt rfl) ?_
                refine dq (f_pick rfl rfl (lt rfl)) rfl rfl ?_
                refine dq (f_move rfl (lt rfl)) rfl rfl ?_
                refine dq_yes (f_load kd27 rfl rfl (lt rfl)) rfl rfl rfl rfl (lt rfl) ?_
                refine dq_yes (f_fieldAddr rfl kf27_0 rfl (lt rfl)) rfl rfl rfl rfl (lt rfl) ?_
                refine dq_yes (f_load kd3 rfl rfl (lt rfl)) rfl rfl rfl rfl (lt rfl) ?_
                refine dq_yes (f_convI rfl us3 un22 hcv (lt rfl)) rfl rfl rfl rfl (lt rfl) ?_
                refine dq_yes (f_call en12 rfl (num_b 8 wb (by omega)) (lt rfl)) rfl rfl rfl rfl (lt rfl) ?_
                refine dq_yes (f_call en11 rfl (do_c (hsh)) (lt rfl)) rfl rfl rfl rfl (lt rfl) ?_
                refine dq_yes (f_load kd27 rfl rfl (lt rfl)) rfl rfl rfl rfl (lt rfl) ?_
                refine dq_yes (f_eqB rfl rfl (eqT rfl) (lt rfl)) rfl rfl rfl rfl (lt rfl) ?_
                refine dq (f_pick rfl rfl (lt rfl)) rfl rfl ?_
                refine dq (f_assign rfl (lt rfl)) rfl rfl ?_
                refine dq_nil (by kernel_rfl) ?_
                refine to_next ?_
                refine hits_ret ?_
                exact hits_done (.inl rfl) rfl rfl rfl
            · refine hits_drawn mixed ?_
              refine dq (f_load kd27 rfl rfl (lt rfl)) rfl rfl ?_
              refine dq (f_move rfl (lt rfl)) rfl rfl ?_
              refine dq (f_bin rfl rfl (iT (hw)) (lt rfl)) rfl rfl ?_
              refine dq (f_call en14 rfl (lcut_c (hall)) (lt rfl)) rfl rfl ?_
              refine dq (f_load kd27 rfl rfl (lt rfl)) rfl rfl ?_
              refine dq (f_neB rfl rfl (neF rfl) (lt rfl)) rfl rfl ?_
              refine dq (f_move rfl (lt rfl)) rfl rfl ?_
              refine dq_yes (f_load kd27 rfl rfl (lt rfl)) rfl rfl rfl rfl (lt rfl) ?_
              refine dq_yes (f_call en15 rfl (check_c hc) (lt rfl)) rfl rfl rfl rfl (lt rfl) ?_
              refine dq_yes (f_un rfl rfl (lt rfl)) rfl rfl rfl rfl (lt rfl) ?_
              refine dq (f_pick rfl rfl (lt rfl)) rfl rfl ?_
              refine dq (f_move rfl (lt rfl)) rfl rfl ?_
              refine dq_yes (f_move rfl (lt rfl)) rfl rfl rfl rfl (lt rfl) ?_
              refine dq_yes (f_fieldAddr rfl kf27_0 rfl (lt rfl)) rfl rfl rfl rfl (lt rfl) ?_
              refine dq_yes (f_load kd3 rfl rfl (lt rfl)) rfl rfl rfl rfl (lt rfl) ?_
              refine dq_yes (f_bin rfl rfl (iT (hW)) (lt rfl)) rfl rfl rfl rfl (lt rfl) ?_
              refine dq_yes (f_bin rfl rfl (bT (decide_eq_true (by omega))) (lt rfl)) rfl rfl rfl rfl (lt rfl) ?_
              refine dq (f_pick rfl rfl (lt rfl)) rfl rfl ?_
              refine dq_nil rfl ?_
              refine to_next ?_
              refine hits_cond rfl (fun c2 => ?_) (fun c2 => ?_)
              case refine_2 => exact absurd c2 Bool.false_ne_true.symm
              case refine_1 =>
                refine hits_seq ?_
                refine hits_drawn mixed ?_
                refine dq (f_load kd27 rfl rfl (lt rfl)) rfl rfl ?_
                refine dq (f_move rfl (lt rfl)) rfl rfl ?_
                refine dq (f_bin rfl rfl (iT (hw)) (lt rfl)) rfl rfl ?_
                refine dq (f_call en14 rfl (lcut_c (hall)) (lt rfl)) rfl rfl ?_
                refine dq (f_load kd27 rfl rfl (lt rfl)) rfl rfl ?_
                refine dq (f_eqB rfl rfl (eqT rfl) (lt rfl)) rfl rfl ?_
                refine dq (f_assign rfl (lt rfl)) rfl rfl ?_
                refine dq_nil rfl ?_
                refine to_next ?_
                refine hits_ret ?_
                refine to_ret ?_
                exact hits_done (.inl rfl) rfl rfl rfl
      · refine hits_drawn mixed ?_
        refine dq (f_move rfl (lt rfl)) rfl rfl ?_
        refine dq (f_bin rfl rfl (bT (decide_eq_true z1)) (lt rfl)) rfl rfl ?_
        refine dq (f_move rfl (lt rfl)) rfl rfl ?_
        refine dq_yes (f_move rfl (lt rfl)) rfl rfl rfl rfl (lt rfl) ?_
        refine dq_yes (f_move rfl (lt rfl)) rfl rfl rfl rfl (lt rfl) ?_
        refine dq_yes (f_bin rfl rfl (bT (decide_eq_false z2)) (lt rfl)) rfl rfl rfl rfl (lt rfl) ?_
        refine dq (f_pick rfl rfl (lt rfl)) rfl rfl ?_
        refine dq (f_move rfl (lt rfl)) rfl rfl ?_
        refine dq_no rfl rfl rfl rfl rfl (lt rfl) (lt rfl) ?_
        refine dq_no rfl rfl rfl rfl rfl (lt rfl) (lt rfl) ?_
        refine dq_no rfl rfl rfl rfl rfl (lt rfl) (lt rfl) ?_
        refine dq_no rfl rfl rfl rfl rfl (lt rfl) (lt rfl) ?_
        refine dq_no rfl rfl rfl rfl rfl (lt rfl) (lt rfl) ?_
        refine dq_no rfl rfl rfl rfl rfl (lt rfl) (lt rfl) ?_
        refine dq_no rfl rfl rfl rfl rfl (lt rfl) (lt rfl) ?_
        refine dq_no rfl rfl rfl rfl rfl (lt rfl) (lt rfl) ?_
        refine dq_no rfl rfl rfl rfl rfl (lt rfl) (lt rfl) ?_
        refine dq_no rfl rfl rfl rfl rfl (lt rfl) (lt rfl) ?_
        refine dq_no rfl rfl rfl rfl rfl (lt rfl) (lt rfl) ?_
        refine dq_no rfl rfl rfl rfl rfl (lt rfl) (lt rfl) ?_
        refine dq (f_pick rfl rfl (lt rfl)) rfl rfl ?_
        refine dq_nil rfl ?_
        refine to_next ?_
        refine hits_cond rfl (fun c1 => ?_) (fun c1 => ?_)
        case refine_1 => exact absurd c1 Bool.false_ne_true
        case refine_2 =>
          refine hits_skip ?_
          refine to_next ?_
          refine hits_seq ?_
          refine hits_seq ?_
          cases c
          · refine hits_drawn mixed ?_
            refine dq (f_load kd27 rfl rfl (lt rfl)) rfl rfl ?_
            refine dq (f_move rfl (lt rfl)) rfl rfl ?_
            refine dq (f_bin rfl rfl (iT (hw)) (lt rfl)) rfl rfl ?_
            refine dq (f_call en14 rfl (lcut_c (hall)) (lt rfl)) rfl rfl ?_
            refine dq (f_load kd27 rfl rfl (lt rfl)) rfl rfl ?_
            refine dq (f_neB rfl rfl (neF rfl) (lt rfl)) rfl rfl ?_
            refine dq (f_move rfl (lt rfl)) rfl rfl ?_
            refine dq_yes (f_load kd27 rfl rfl (lt rfl)) rfl rfl rfl rfl (lt rfl) ?_
            refine dq_yes (f_call en15 rfl (check_c hc) (lt rfl)) rfl rfl rfl rfl (lt rfl) ?_
            refine dq_yes (f_un rfl rfl (lt rfl)) rfl rfl rfl rfl (lt rfl) ?_
            refine dq (f_pick rfl rfl (lt rfl)) rfl rfl ?_
            refine dq (f_move rfl (lt rfl)) rfl rfl ?_
            refine dq_no rfl rfl rfl rfl rfl (lt rfl) (lt rfl) ?_
            refine dq_no rfl rfl rfl rfl rfl (lt rfl) (lt rfl) ?_
            refine dq_no rfl rfl rfl rfl rfl (lt rfl) (lt rfl) ?_
            refine dq_no rfl rfl rfl rfl rfl (lt rfl) (lt rfl) ?_
            refine dq_no rfl rfl rfl rfl rfl (lt rfl) (lt rfl) ?_
            refine dq (f_pick rfl rfl (lt rfl)) rfl rfl ?_
            refine dq_nil rfl ?_
            refine to_next ?_
            refine hits_cond rfl (fun c2 => ?_) (fun c2 => ?_)
            case refine_2 => exact absurd c2 Bool.false_ne_true.symm
            case refine_1 =>
              refine hits_seq ?_
              refine hits_drawn mixed ?_
              refine dq (f_load kd27 rfl rfl (lt rfl)) rfl rfl ?_
              refine dq (f_move rfl (lt rfl)) rfl rfl ?_
              refine dq (f_bin rfl rfl (iT (hw)) (lt rfl)) rfl rfl ?_
              refine dq (f_call en14 rfl (lcut_c (hall)) (lt rfl)) rfl rfl ?_
              refine dq (f_load kd27 rfl rfl (lt rfl)) rfl rfl ?_
              refine dq (f_eqB rfl rfl (eqT rfl) (lt rfl)) rfl rfl ?_
              refine dq (f_assign rfl (lt rfl)) rfl rfl ?_
              refine dq_nil rfl ?_
              refine to_next ?_
              refine hits_ret ?_
              refine to_ret ?_
              exact hits_done (.inl rfl) rfl rfl rfl
          · obtain ⟨wb, rfl, hb0, hb1, hbv⟩ := hx rfl
            have hW := wsumK h hb1
            by_cases hs : n + wb ≤ 128
            · have hB := cat_lt ha hbv
              have hpb := Nat.two_pow_pos wb
              have hcat := do_cat h0 hb0 hs ha hbv
              have hd : (b + 2 ^ wb * a) / 2 ^ wb = a := by rw [Nat.add_mul_div_left _ _ hpb, Nat.div_eq_of_lt hbv, Nat.zero_add]
              have hm : (b + 2 ^ wb * a) % 2 ^ wb = b := by rw [Nat.add_mul_mod_self_left, Nat.mod_eq_of_lt hbv]
              have hlt : a < 2 ^ (n + wb) := Nat.lt_of_lt_of_le ha (Nat.pow_le_pow_right (by decide) (by omega))
              have z1 := cut_to (by omega) hs hB (n + wb - 1) wb (by omega) (by omega)
              rw [show n + wb - 1 - wb + 1 = n from by omega, hd, Nat.mod_eq_of_lt ha] at z1
              have z2 := cut_to (by omega) hs hB (wb - 1) 0 (by omega) (by omega)
              rw [show wb - 1 - 0 + 1 = wb from by omega, Nat.pow_zero, Nat.div_one, hm] at z2
              have k1 := cast_to h0 h ha (n + wb) (by omega) hs 0 0 0 0
              rw [Nat.mod_eq_of_lt hlt] at k1
              have k2 := cast_to (by omega) hs hB wb hb0 (by omega) 0 0 0 0
              rw [hm] at k2
              have hsh := do_shr (by omega) hs hB (wb := 8) (vb := wb) (by decide) (by decide) (by omega : wb < 2 ^ 8)
              rw [show min wb 128 = wb from by omega, hd] at hsh
              have hcv : IntKind.u64.wrap (wb : Int) = wb := by rw [wrap_u64]; omega
              refine hits_drawn mixed ?_
              refine dq (f_load kd27 rfl rfl (lt rfl)) rfl rfl ?_
              refine dq (f_move rfl (lt rfl)) rfl rfl ?_
              refine dq (f_bin rfl rfl (iT (hw)) (lt rfl)) rfl rfl ?_
              refine dq (f_call en14 rfl (lcut_c (hall)) (lt rfl)) rfl rfl ?_
              refine dq (f_load kd27 rfl rfl (lt rfl)) rfl rfl ?_
              refine dq (f_neB rfl rfl (neF rfl) (lt rfl)) rfl rfl ?_
              refine dq (f_move rfl (lt rfl)) rfl rfl ?_
              refine dq_yes (f_load kd27 rfl rfl (lt rfl)) rfl rfl rfl rfl (lt rfl) ?_
              refine dq_yes (f_call en15 rfl (check_c hc) (lt rfl)) rfl rfl rfl rfl (lt rfl) ?_
              refine dq_yes (f_un rfl rfl (lt rfl)) rfl rfl rfl rfl (lt rfl) ?_
              refine dq (f_pick rfl rfl (lt rfl)) rfl rfl ?_
              refine dq (f_move rfl (lt rfl)) rfl rfl ?_
              refine dq_yes (f_move rfl (lt rfl)) rfl rfl rfl rfl (lt rfl) ?_
              refine dq_yes (f_fieldAddr rfl kf27_0 rfl (lt rfl)) rfl rfl rfl rfl (lt rfl) ?_
              refine dq_yes (f_load kd3 rfl rfl (lt rfl)) rfl rfl rfl rfl (lt rfl) ?_
              refine dq_yes (f_bin rfl rfl (iT (hW)) (lt rfl)) rfl rfl rfl rfl (lt rfl) ?_
              refine dq_yes (f_bin rfl rfl (bT (decide_eq_false (by omega))) (lt rfl)) rfl rfl rfl rfl (lt rfl) ?_
              refine dq (f_pick rfl rfl (lt rfl)) rfl rfl ?_
              refine dq_nil rfl ?_
              refine to_next ?_
              refine hits_cond rfl (fun c2 => ?_) (fun c2 => ?_)
              case refine_1 => exact absurd c2 Bool.false_ne_true
              case refine_2 =>
                refine hits_skip ?_
                refine to_next ?_
                refine hits_seq ?_
                refine hits_region ?_
                refine sq (f_load kd27 rfl rfl (lt rfl)) rfl rfl ?_
                refine sq (f_load kd27 rfl rfl (lt rfl)) rfl rfl ?_
                refine sq (f_call en11 rfl (do_c (hcat)) (lt rfl)) rfl rfl ?_
                refine sq (f_alloc zc27 (lt rfl)) rfl rfl ?_
                refine sq (f_store kd27 rfl rfl rfl rfl rfl) rfl rfl ?_
                refine hits_nil ?_
                refine to_next ?_
                refine hits_seq ?_
                refine hits_region ?_
                refine sq (f_load kd27 rfl rfl (lt rfl)) rfl rfl ?_
                refine sq (f_build bu27 rfl rfl (lt rfl)) rfl rfl ?_
                refine sq (f_move rfl (lt rfl)) rfl rfl ?_
                refine sq (f_fieldAddr rfl kf27_0 rfl (lt rfl)) rfl rfl ?_
                refine sq (f_load kd3 rfl rfl (lt rfl)) rfl rfl ?_
                refine sq (f_bin rfl rfl (iT (hW)) (lt rfl)) rfl rfl ?_
                refine sq (f_call en16 rfl (Do_c k1) (lt rfl)) rfl rfl ?_
                refine sq (f_move rfl (lt rfl)) rfl rfl ?_
                refine sq (f_extract rfl rfl (lt rfl)) rfl rfl ?_
                refine sq (f_extract rfl rfl (lt rfl)) rfl rfl ?_
                refine sq (f_alloc zc27 (lt rfl)) rfl rfl ?_
                refine sq (f_store kd27 rfl rfl rfl rfl rfl) rfl rfl ?_
                refine sq (f_assign rfl (lt rfl)) rfl rfl ?_
                refine hits_nil ?_
                refine to_next ?_
                refine hits_seq ?_
                refine hits_region ?_
                refine sq (f_load kd27 rfl rfl (lt rfl)) rfl rfl ?_
                refine sq (f_build bu27 rfl rfl (lt rfl)) rfl rfl ?_
                refine sq (f_fieldAddr rfl kf27_0 rfl (lt rfl)) rfl rfl ?_
                refine sq (f_load kd3 rfl rfl (lt rfl)) rfl rfl ?_
                refine sq (f_call en16 rfl (Do_c k2) (lt rfl)) rfl rfl ?_
                refine sq (f_move rfl (lt rfl)) rfl rfl ?_
                refine sq (f_extract rfl rfl (lt rfl)) rfl rfl ?_
                refine sq (f_extract rfl rfl (lt rfl)) rfl rfl ?_
                refine sq (f_alloc zc27 (lt rfl)) rfl rfl ?_
                refine sq (f_store kd27 rfl rfl rfl rfl rfl) rfl rfl ?_
                refine sq (f_assign rfl (lt rfl)) rfl rfl ?_
                refine hits_nil ?_
                refine to_next ?_
                refine hits_seq ?_
                refine hits_drawn mixed ?_
                refine dq (f_fieldAddr rfl kf27_0 rfl (lt rfl)) rfl rfl ?_
                refine dq (f_load kd3 rfl rfl (lt rfl)) rfl rfl ?_
                refine dq (f_move rfl (lt rfl)) rfl rfl ?_
                refine dq (f_fieldAddr rfl kf27_0 rfl (lt rfl)) rfl rfl ?_
                refine dq (f_load kd3 rfl rfl (lt rfl)) rfl rfl ?_
                refine dq (f_bin rfl rfl (iT (hW)) (lt rfl)) rfl rfl ?_
                refine dq (f_bin rfl rfl (bT (beq_self_eq_true _)) (lt rfl)) rfl rfl ?_
                refine dq (f_move rfl (lt rfl)) rfl rfl ?_
                refine dq_yes (f_load kd27 rfl rfl (lt rfl)) rfl rfl rfl rfl (lt rfl) ?_
                refine dq_yes (f_fieldAddr rfl kf27_0 rfl (lt rfl)) rfl rfl rfl rfl (lt rfl) ?_
                refine dq_yes (f_load kd3 rfl rfl (lt rfl)) rfl rfl rfl rfl (lt rfl) ?_
                refine dq_yes (f_bin rfl rfl (iT (wpred (w := n + wb) (by omega) hs)) (lt rfl)) rfl rfl rfl rfl (lt rfl) ?_
                refine dq_yes (f_fieldAddr rfl kf27_0 rfl (lt rfl)) rfl rfl rfl rfl (lt rfl) ?_
                refine dq_yes (f_load kd3 rfl rfl (lt rfl)) rfl rfl rfl rfl (lt rfl) ?_
                refine dq_yes (f_call en14 rfl (lcut_c (z1)) (lt rfl)) rfl rfl rfl rfl (lt rfl) ?_
                refine dq_yes (f_load kd27 rfl rfl (lt rfl)) rfl rfl rfl rfl (lt rfl) ?_
                refine dq_yes (f_eqB rfl rfl (eqT rfl) (lt rfl)) rfl rfl rfl rfl (lt rfl) ?_
                refine dq (f_pick rfl rfl (lt rfl)) rfl rfl ?_
                refine dq (f_move rfl (lt rfl)) rfl rfl ?_
                refine dq_yes (f_load kd27 rfl rfl (lt rfl)) rfl rfl rfl rfl (lt rfl) ?_
                refine dq_yes (f_fieldAddr rfl kf27_0 rfl (lt rfl)) rfl rfl rfl rfl (lt rfl) ?_
                refine dq_yes (f_load kd3 rfl rfl (lt rfl)) rfl rfl rfl rfl (lt rfl) ?_
                refine dq_yes (f_bin rfl rfl (iT (wpred hb0 (by omega))) (lt rfl)) rfl rfl rfl rfl (lt rfl) ?_
                refine dq_yes (f_call en14 rfl (lcut_c (z2)) (lt rfl)) rfl rfl rfl rfl (lt rfl) ?_
                refine dq_yes (f_load kd27 rfl rfl (lt rfl)) rfl rfl rfl rfl (lt rfl) ?_
                refine dq_yes (f_eqB rfl rfl (eqT rfl) (lt rfl)) rfl rfl rfl rfl (lt rfl) ?_
                refine dq (f_pick rfl rfl (lt rfl)) rfl rfl ?_
                refine dq (f_move rfl (lt rfl)) rfl rfl ?_
                refine dq_yes (f_move rfl (lt rfl)) rfl rfl rfl rfl (lt rfl) ?_
                refine dq_yes (f_bin rfl rfl (bT (b' := true) rfl) (lt rfl)) rfl rfl rfl rfl (lt rfl) ?_
                refine dq (f_pick rfl rfl (lt rfl)) rfl rfl ?_
                refine dq (f_move rfl (lt rfl)) rfl rfl ?_
                refine dq_yes (f_move rfl (lt rfl)) rfl rfl rfl rfl (lt rfl) ?_
                refine dq_yes (f_bin rfl rfl (bT (b' := true) rfl) (lt rfl)) rfl rfl rfl rfl (lt rfl) ?_
                refine dq (f_pick rfl rfl (lt rfl)) rfl rfl ?_
                refine dq (f_move rfl (lt rfl)) rfl rfl ?_
                refine dq_yes (f_load kd27 rfl rfl (lt rfl)) rfl rfl rfl rfl (lt rfl) ?_
                refine dq_yes (f_load kd27 rfl rfl (lt rfl)) rfl rfl rfl rfl (lt rfl) ?_
                refine dq_yes (f_eqB rfl rfl (eqT rfl) (lt rfl)) rfl rfl rfl rfl (lt rfl) ?_
                refine dq (f_pick rfl rfl (lt rfl)) rfl rfl ?_
                refine dq (f_move rfl (lt rfl)) rfl rfl ?_
                refine dq_yes (f_load kd27 rfl rfl (lt rfl)) rfl rfl rfl rfl (lt rfl) ?_
                refine dq_yes (f_fieldAddr rfl kf27_0 rfl (lt rfl)) rfl rfl rfl rfl (lt rfl) ?_
                refine dq_yes (f_load kd3 rfl rfl (lt rfl)) rfl rfl rfl rfl (lt rfl) ?_
                refine dq_yes (f_convI rfl us3 un22 hcv (lt rfl)) rfl rfl rfl rfl (lt rfl) ?_
                refine dq_yes (f_call en12 rfl (num_b 8 wb (by omega)) (lt rfl)) rfl rfl rfl rfl (lt rfl) ?_
                refine dq_yes (f_call en11 rfl (do_c (hsh)) (lt rfl)) rfl rfl rfl rfl (lt rfl) ?_
                refine dq_yes (f_load kd27 rfl rfl (lt rfl)) rfl rfl rfl rfl (lt rfl) ?_
                refine dq_yes (f_eqB rfl rfl (eqT rfl) (lt rfl)) rfl rfl rfl rfl (lt rfl) ?_
                refine dq (f_pick rfl rfl (lt rfl)) rfl rfl ?_
                refine dq (f_assign rfl (lt rfl)) rfl rfl ?_
                refine dq_nil (by kernel_rfl) ?_
                refine to_next ?_
                refine hits_ret ?_
                exact hits_done (.inl rfl) rfl rfl rfl
            · refine hits_drawn mixed ?_
              refine dq (f_load kd27 rfl rfl (lt rfl)) rfl rfl ?_
              refine dq (f_move rfl (lt rfl)) rfl rfl ?_
              refine dq (f_bin rfl rfl (iT (hw)) (lt rfl)) rfl rfl ?_
              refine dq (f_call en14 rfl (lcut_c (hall)) (lt rfl)) rfl rfl ?_
              refine dq (f_load kd27 rfl rfl (lt rfl)) rfl rfl ?_
              refine dq (f_neB rfl rfl (neF rfl) (lt rfl)) rfl rfl ?_
              refine dq (f_move rfl (lt rfl)) rfl rfl ?_
              refine dq_yes (f_load kd27 rfl rfl (lt rfl)) rfl rfl rfl rfl (lt rfl) ?_
              refine dq_yes (f_call en15 rfl (check_c hc) (lt rfl)) rfl rfl rfl rfl (lt rfl) ?_
              refine dq_yes (f_un rfl rfl (lt rfl)) rfl rfl rfl rfl (lt rfl) ?_
              refine dq (f_pick rfl rfl (lt rfl)) rfl rfl ?_
              refine dq (f_move rfl (lt rfl)) rfl rfl ?_
              refine dq_yes (f_move rfl (lt rfl)) rfl rfl rfl rfl (lt rfl) ?_
              refine dq_yes (f_fieldAddr rfl kf27_0 rfl (lt rfl)) rfl rfl rfl rfl (lt rfl) ?_
              refine dq_yes (f_load kd3 rfl rfl (lt rfl)) rfl rfl rfl rfl (lt rfl) ?_
              refine dq_yes (f_bin rfl rfl (iT (hW)) (lt rfl)) rfl rfl rfl rfl (lt rfl) ?_
              refine dq_yes (f_bin rfl rfl (bT (decide_eq_true (by omega))) (lt rfl)) rfl rfl rfl rfl (lt rfl) ?_
              refine dq (f_pick rfl rfl (lt rfl)) rfl rfl ?_
              refine dq_nil rfl ?_
              refine to_next ?_
              refine hits_cond rfl (fun c2 => ?_) (fun c2 => ?_)
              case refine_2 => exact absurd c2 Bool.false_ne_true.symm
              case refine_1 =>
                refine hits_seq ?_
                refine hits_drawn mixed ?_
                refine dq (f_load kd27 rfl rfl (lt rfl)) rfl rfl ?_
                refine dq (f_move rfl (lt rfl)) rfl rfl ?_
                refine dq (f_bin rfl rfl (iT (hw)) (lt rfl)) rfl rfl ?_
                refine dq (f_call en14 rfl (lcut_c (hall)) (lt rfl)) rfl rfl ?_
                refine dq (f_load kd27 rfl rfl (lt rfl)) rfl rfl ?_
                refine dq (f_eqB rfl rfl (eqT rfl) (lt rfl)) rfl rfl ?_
                refine dq (f_assign rfl (lt rfl)) rfl rfl ?_
                refine dq_nil rfl ?_
                refine to_next ?_
                refine hits_ret ?_
                refine to_ret ?_
                exact hits_done (.inl rfl) rfl rfl rfl
    · refine hits_drawn mixed ?_
      refine dq (f_move rfl (lt rfl)) rfl rfl ?_
      refine dq (f_bin rfl rfl (bT (decide_eq_false z1)) (lt rfl)) rfl rfl ?_
      refine dq (f_move rfl (lt rfl)) rfl rfl ?_
      refine dq_no rfl rfl rfl rfl rfl (lt rfl) (lt rfl) ?_
      refine dq_no rfl rfl rfl rfl rfl (lt rfl) (lt rfl) ?_
      refine dq_no rfl rfl rfl rfl rfl (lt rfl) (lt rfl) ?_
      refine dq (f_pick rfl rfl (lt rfl)) rfl rfl ?_
      refine dq (f_move rfl (lt rfl)) rfl rfl ?_
      refine dq_no rfl rfl rfl rfl rfl (lt rfl) (lt rfl) ?_
      refine dq_no rfl rfl rfl rfl rfl (lt rfl) (lt rfl) ?_
      refine dq_no rfl rfl rfl rfl rfl (lt rfl) (lt rfl) ?_
      refine dq_no rfl rfl rfl rfl rfl (lt rfl) (lt rfl) ?_
      refine dq_no rfl rfl rfl rfl rfl (lt rfl) (lt rfl) ?_
      refine dq_no rfl rfl rfl rfl rfl (lt rfl) (lt rfl) ?_
      refine dq_no rfl rfl rfl rfl rfl (lt rfl) (lt rfl) ?_
      refine dq_no rfl rfl rfl rfl rfl (lt rfl) (lt rfl) ?_
      refine dq_no rfl rfl rfl rfl rfl (lt rfl) (lt rfl) ?_
      refine dq_no rfl rfl rfl rfl rfl (lt rfl) (lt rfl) ?_
      refine dq_no rfl rfl rfl rfl rfl (lt rfl) (lt rfl) ?_
      refine dq_no rfl rfl rfl rfl rfl (lt rfl) (lt rfl) ?_
      refine dq (f_pick rfl rfl (lt rfl)) rfl rfl ?_
      refine dq_nil rfl ?_
      refine to_next ?_
      refine hits_cond rfl (fun c1 => ?_) (fun c1 => ?_)
      case refine_1 => exact absurd c1 Bool.false_ne_true
      case refine_2 =>
        refine hits_skip ?_
        refine to_next ?_
        refine hits_seq ?_
        refine hits_seq ?_
        cases c
        · refine hits_drawn mixed ?_
          refine dq (f_load kd27 rfl rfl (lt rfl)) rfl rfl ?_
          refine dq (f_move rfl (lt rfl)) rfl rfl ?_
          refine dq (f_bin rfl rfl (iT (hw)) (lt rfl)) rfl rfl ?_
          refine dq (f_call en14 rfl (lcut_c (hall)) (lt rfl)) rfl rfl ?_
          refine dq (f_load kd27 rfl rfl (lt rfl)) rfl rfl ?_
          refine dq (f_neB rfl rfl (neF rfl) (lt rfl)) rfl rfl ?_
          refine dq (f_move rfl (lt rfl)) rfl rfl ?_
          refine dq_yes (f_load kd27 rfl rfl (lt rfl)) rfl rfl rfl rfl (lt rfl) ?_
          refine dq_yes (f_call en15 rfl (check_c hc) (lt rfl)) rfl rfl rfl rfl (lt rfl) ?_
          refine dq_yes (f_un rfl rfl (lt rfl)) rfl rfl rfl rfl (lt rfl) ?_
          refine dq (f_pick rfl rfl (lt rfl)) rfl rfl ?_
          refine dq (f_move rfl (lt rfl)) rfl rfl ?_
          refine dq_no rfl rfl rfl rfl rfl (lt rfl) (lt rfl) ?_
          refine dq_no rfl rfl rfl rfl rfl (lt rfl) (lt rfl) ?_
          refine dq_no rfl rfl rfl rfl rfl (lt rfl) (lt rfl) ?_
          refine dq_no rfl rfl rfl rfl rfl (lt rfl) (lt rfl) ?_
          refine dq_no rfl rfl rfl rfl rfl (lt rfl) (lt rfl) ?_
          refine dq (f_pick rfl rfl (lt rfl)) rfl rfl ?_
          refine dq_nil rfl ?_
          refine to_next ?_
          refine hits_cond rfl (fun c2 => ?_) (fun c2 => ?_)
          case refine_2 => exact absurd c2 Bool.false_ne_true.symm
          case refine_1 =>
            refine hits_seq ?_
            refine hits_drawn mixed ?_
            refine dq (f_load kd27 rfl rfl (lt rfl)) rfl rfl ?_
            refine dq (f_move rfl (lt rfl)) rfl rfl ?_
            refine dq (f_bin rfl rfl (iT (hw)) (lt rfl)) rfl rfl ?_
            refine dq (f_call en14 rfl (lcut_c (hall)) (lt rfl)) rfl rfl ?_
            refine dq (f_load kd27 rfl rfl (lt rfl)) rfl rfl ?_
            refine dq (f_eqB rfl rfl (eqT rfl) (lt rfl)) rfl rfl ?_
            refine dq (f_assign rfl (lt rfl)) rfl rfl ?_
            refine dq_nil rfl ?_
            refine to_next ?_
            refine hits_ret ?_
            refine to_ret ?_
            exact hits_done (.inl rfl) rfl rfl rfl
        · obtain ⟨wb, rfl, hb0, hb1, hbv⟩ := hx rfl
          have hW := wsumK h hb1
          by_cases hs : n + wb ≤ 128
          · have hB := cat_lt ha hbv
            have hpb := Nat.two_pow_pos wb
            have hcat := do_cat h0 hb0 hs ha hbv
            have hd : (b + 2 ^ wb * a) / 2 ^ wb = a := by rw [Nat.add_mul_div_left _ _ hpb, Nat.div_eq_of_lt hbv, Nat.zero_add]
            have hm : (b + 2 ^ wb * a) % 2 ^ wb = b := by rw [Nat.add_mul_mod_self_left, Nat.mod_eq_of_lt hbv]
            have hlt : a < 2 ^ (n + wb) := Nat.lt_of_lt_of_le ha (Nat.pow_le_pow_right (by decide) (by omega))
            have z1 := cut_to (by omega) hs hB (n + wb - 1) wb (by omega) (by omega)
            rw [show n + wb - 1 - wb + 1 = n from by omega, hd, Nat.mod_eq_of_lt ha] at z1
            have z2 := cut_to (by omega) hs hB (wb - 1) 0 (by omega) (by omega)
            rw [show wb - 1 - 0 + 1 = wb from by omega, Nat.pow_zero, Nat.div_one, hm] at z2
            have k1 := cast_to h0 h ha (n + wb) (by omega) hs 0 0 0 0
            rw [Nat.mod_eq_of_lt hlt] at k1
            have k2 := cast_to (by omega) hs hB wb hb0 (by omega) 0 0 0 0
            rw [hm] at k2
            have hsh := do_shr (by omega) hs hB (wb := 8) (vb := wb) (by decide) (by decide) (by omega : wb < 2 ^ 8)
            rw [show min wb 128 = wb from by omega, hd] at hsh
            have hcv : IntKind.u64.wrap (wb : Int) = wb := by rw [wrap_u64]; omega
            refine hits_drawn mixed ?_
            refine dq (f_load kd27 rfl rfl (lt rfl)) rfl rfl ?_
            refine dq (f_move rfl (lt rfl)) rfl rfl ?_
            refine dq (f_bin rfl rfl (iT (hw)) (lt rfl)) rfl rfl ?_
            refine dq (f_call en14 rfl (lcut_c (hall)) (lt rfl)) rfl rfl ?_
            refine dq (f_load kd27 rfl rfl (lt rfl)) rfl rfl ?_
            refine dq (f_neB rfl rfl (neF rfl) (lt rfl)) rfl rfl ?_
            refine dq (f_move rfl (lt rfl)) rfl rfl ?_
            refine dq_yes (f_load kd27 rfl rfl (lt rfl)) rfl rfl rfl rfl (lt rfl) ?_
            refine dq_yes (f_call en15 rfl (check_c hc) (lt rfl)) rfl rfl rfl rfl (lt rfl) ?_
            refine dq_yes (f_un rfl rfl (lt rfl)) rfl rfl rfl rfl (lt rfl) ?_
            refine dq (f_pick rfl rfl (lt rfl)) rfl rfl ?_
            refine dq (f_move rfl (lt rfl)) rfl rfl ?_
            refine dq_yes (f_move rfl (lt rfl)) rfl rfl rfl rfl (lt rfl) ?_
            refine dq_yes (f_fieldAddr rfl kf27_0 rfl (lt rfl)) rfl rfl rfl rfl (lt rfl) ?_
            refine dq_yes (f_load kd3 rfl rfl (lt rfl)) rfl rfl rfl rfl (lt rfl) ?_
            refine dq_yes (f_bin rfl rfl (iT (hW)) (lt rfl)) rfl rfl rfl rfl (lt rfl) ?_
            refine dq_yes (f_bin rfl rfl (bT (decide_eq_false (by omega))) (lt rfl)) rfl rfl rfl rfl (lt rfl) ?_
            refine dq (f_pick rfl rfl (lt rfl)) rfl rfl ?_
            refine dq_nil rfl ?_
            refine to_next ?_
            refine hits_cond rfl (fun c2 => ?_) (fun c2 => ?_)
            case refine_1 => exact absurd c2 Bool.false_ne_true
            case refine_2 =>
              refine hits_skip ?_
              refine to_next ?_
              refine hits_seq ?_
              refine hits_region ?_
              refine sq (f_load kd27 rfl rfl (lt rfl)) rfl rfl ?_
              refine sq (f_load kd27 rfl rfl (lt rfl)) rfl rfl ?_
              refine sq (f_call en11 rfl (do_c (hcat)) (lt rfl)) rfl rfl ?_
              refine sq (f_alloc zc27 (lt rfl)) rfl rfl ?_
              refine sq (f_store kd27 rfl rfl rfl rfl rfl) rfl rfl ?_
              refine hits_nil ?_
              refine to_next ?_
              refine hits_seq ?_
              refine hits_region ?_
              refine sq (f_load kd27 rfl rfl (lt rfl)) rfl rfl ?_
              refine sq (f_build bu27 rfl rfl (lt rfl)) rfl rfl ?_
              refine sq (f_move rfl (lt rfl)) rfl rfl ?_
              refine sq (f_fieldAddr rfl kf27_0 rfl (lt rfl)) rfl rfl ?_
              refine sq (f_load kd3 rfl rfl (lt rfl)) rfl rfl ?_
              refine sq (f_bin rfl rfl (iT (hW)) (lt rfl)) rfl rfl ?_
              refine sq (f_call en16 rfl (Do_c k1) (lt rfl)) rfl rfl ?_
              refine sq (f_move rfl (lt rfl)) rfl rfl ?_
              refine sq (f_extract rfl rfl (lt rfl)) rfl rfl ?_
              refine sq (f_extract rfl rfl (lt rfl)) rfl rfl ?_
              refine sq (f_alloc zc27 (lt rfl)) rfl rfl ?_
              refine sq (f_store kd27 rfl rfl rfl rfl rfl) rfl rfl ?_
              refine sq (f_assign rfl (lt rfl)) rfl rfl ?_
              refine hits_nil ?_
              refine to_next ?_
              refine hits_seq ?_
              refine hits_region ?_
              refine sq (f_load kd27 rfl rfl (lt rfl)) rfl rfl ?_
              refine sq (f_build bu27 rfl rfl (lt rfl)) rfl rfl ?_
              refine sq (f_fieldAddr rfl kf27_0 rfl (lt rfl)) rfl rfl ?_
              refine sq (f_load kd3 rfl rfl (lt rfl)) rfl rfl ?_
              refine sq (f_call en16 rfl (Do_c k2) (lt rfl)) rfl rfl ?_
              refine sq (f_move rfl (lt rfl)) rfl rfl ?_
              refine sq (f_extract rfl rfl (lt rfl)) rfl rfl ?_
              refine sq (f_extract rfl rfl (lt rfl)) rfl rfl ?_
              refine sq (f_alloc zc27 (lt rfl)) rfl rfl ?_
              refine sq (f_store kd27 rfl rfl rfl rfl rfl) rfl rfl ?_
              refine sq (f_assign rfl (lt rfl)) rfl rfl ?_
              refine hits_nil ?_
              refine to_next ?_
              refine hits_seq ?_
              refine hits_drawn mixed ?_
              refine dq (f_fieldAddr rfl kf27_0 rfl (lt rfl)) rfl rfl ?_
              refine dq (f_load kd3 rfl rfl (lt rfl)) rfl rfl ?_
              refine dq (f_move rfl (lt rfl)) rfl rfl ?_
              refine dq (f_fieldAddr rfl kf27_0 rfl (lt rfl)) rfl rfl ?_
              refine dq (f_load kd3 rfl rfl (lt rfl)) rfl rfl ?_
              refine dq (f_bin rfl rfl (iT (hW)) (lt rfl)) rfl rfl ?_
              refine dq (f_bin rfl rfl (bT (beq_self_eq_true _)) (lt rfl)) rfl rfl ?_
              refine dq (f_move rfl (lt rfl)) rfl rfl ?_
              refine dq_yes (f_load kd27 rfl rfl (lt rfl)) rfl rfl rfl rfl (lt rfl) ?_
              refine dq_yes (f_fieldAddr rfl kf27_0 rfl (lt rfl)) rfl rfl rfl rfl (lt rfl) ?_
              refine dq_yes (f_load kd3 rfl rfl (lt rfl)) rfl rfl rfl rfl (lt rfl) ?_
              refine dq_yes (f_bin rfl rfl (iT (wpred (w := n + wb) (by omega) hs)) (lt rfl)) rfl rfl rfl rfl (lt rfl) ?_
              refine dq_yes (f_fieldAddr rfl kf27_0 rfl (lt rfl)) rfl rfl rfl rfl (lt rfl) ?_
              refine dq_yes (f_load kd3 rfl rfl (lt rfl)) rfl rfl rfl rfl (lt rfl) ?_
              refine dq_yes (f_call en14 rfl (lcut_c (z1)) (lt rfl)) rfl rfl rfl rfl (lt rfl) ?_
              refine dq_yes (f_load kd27 rfl rfl (lt rfl)) rfl rfl rfl rfl (lt rfl) ?_
              refine dq_yes (f_eqB rfl rfl (eqT rfl) (lt rfl)) rfl rfl rfl rfl (lt rfl) ?_
              refine dq (f_pick rfl rfl (lt rfl)) rfl rfl ?_
              refine dq (f_move rfl (lt rfl)) rfl rfl ?_
              refine dq_yes (f_load kd27 rfl rfl (lt rfl)) rfl rfl rfl rfl (lt rfl) ?_
              refine dq_yes (f_fieldAddr rfl kf27_0 rfl (lt rfl)) rfl rfl rfl rfl (lt rfl) ?_
              refine dq_yes (f_load kd3 rfl rfl (lt rfl)) rfl rfl rfl rfl (lt rfl) ?_
              refine dq_yes (f_bin rfl rfl (iT (wpred hb0 (by omega))) (lt rfl)) rfl rfl rfl rfl (lt rfl) ?_
              refine dq_yes (f_call en14 rfl (lcut_c (z2)) (lt rfl)) rfl rfl rfl rfl (lt rfl) ?_
              refine dq_yes (f_load kd27 rfl rfl (lt rfl)) rfl rfl rfl rfl (lt rfl) ?_
              refine dq_yes (f_eqB rfl rfl (eqT rfl) (lt rfl)) rfl rfl rfl rfl (lt rfl) ?_
              refine dq (f_pick rfl rfl (lt rfl)) rfl rfl ?_
              refine dq (f_move rfl (lt rfl)) rfl rfl ?_
              refine dq_yes (f_move rfl (lt rfl)) rfl rfl rfl rfl (lt rfl) ?_
              refine dq_yes (f_bin rfl rfl (bT (b' := true) rfl) (lt rfl)) rfl rfl rfl rfl (lt rfl) ?_
              refine dq (f_pick rfl rfl (lt rfl)) rfl rfl ?_
              refine dq (f_move rfl (lt rfl)) rfl rfl ?_
              refine dq_yes (f_move rfl (lt rfl)) rfl rfl rfl rfl (lt rfl) ?_
              refine dq_yes (f_bin rfl rfl (bT (b' := true) rfl) (lt rfl)) rfl rfl rfl rfl (lt rfl) ?_
              refine dq (f_pick rfl rfl (lt rfl)) rfl rfl ?_
              refine dq (f_move rfl (lt rfl)) rfl rfl ?_
              refine dq_yes (f_load kd27 rfl rfl (lt rfl)) rfl rfl rfl rfl (lt rfl) ?_
              refine dq_yes (f_load kd27 rfl rfl (lt rfl)) rfl rfl rfl rfl (lt rfl) ?_
              refine dq_yes (f_eqB rfl rfl (eqT rfl) (lt rfl)) rfl rfl rfl rfl (lt rfl) ?_
              refine dq (f_pick rfl rfl (lt rfl)) rfl rfl ?_
              refine dq (f_move rfl (lt rfl)) rfl rfl ?_
              refine dq_yes (f_load kd27 rfl rfl (lt rfl)) rfl rfl rfl rfl (lt rfl) ?_
              refine dq_yes (f_fieldAddr rfl kf27_0 rfl (lt rfl)) rfl rfl rfl rfl (lt rfl) ?_
              refine dq_yes (f_load kd3 rfl rfl (lt rfl)) rfl rfl rfl rfl (lt rfl) ?_
              refine dq_yes (f_convI rfl us3 un22 hcv (lt rfl)) rfl rfl rfl rfl (lt rfl) ?_
              refine dq_yes (f_call en12 rfl (num_b 8 wb (by omega)) (lt rfl)) rfl rfl rfl rfl (lt rfl) ?_
              refine dq_yes (f_call en11 rfl (do_c (hsh)) (lt rfl)) rfl rfl rfl rfl (lt rfl) ?_
              refine dq_yes (f_load kd27 rfl rfl (lt rfl)) rfl rfl rfl rfl (lt rfl) ?_
              refine dq_yes (f_eqB rfl rfl (eqT rfl) (lt rfl)) rfl rfl rfl rfl (lt rfl) ?_
              refine dq (f_pick rfl rfl (lt rfl)) rfl rfl ?_
              refine dq (f_assign rfl (lt rfl)) rfl rfl ?_
              refine dq_nil (by kernel_rfl) ?_
              refine to_next ?_
              refine hits_ret ?_
              exact hits_done (.inl rfl) rfl rfl rfl
          · refine hits_drawn mixed ?_
            refine dq (f_load kd27 rfl rfl (lt rfl)) rfl rfl ?_
            refine dq (f_move rfl (lt rfl)) rfl rfl ?_
            refine dq (f_bin rfl rfl (iT (hw)) (lt rfl)) rfl rfl ?_
            refine dq (f_call en14 rfl (lcut_c (hall)) (lt rfl)) rfl rfl ?_
            refine dq (f_load kd27 rfl rfl (lt rfl)) rfl rfl ?_
            refine dq (f_neB rfl rfl (neF rfl) (lt rfl)) rfl rfl ?_
            refine dq (f_move rfl (lt rfl)) rfl rfl ?_
            refine dq_yes (f_load kd27 rfl rfl (lt rfl)) rfl rfl rfl rfl (lt rfl) ?_
            refine dq_yes (f_call en15 rfl (check_c hc) (lt rfl)) rfl rfl rfl rfl (lt rfl) ?_
            refine dq_yes (f_un rfl rfl (lt rfl)) rfl rfl rfl rfl (lt rfl) ?_
            refine dq (f_pick rfl rfl (lt rfl)) rfl rfl ?_
            refine dq (f_move rfl (lt rfl)) rfl rfl ?_
            refine dq_yes (f_move rfl (lt rfl)) rfl rfl rfl rfl (lt rfl) ?_
            refine dq_yes (f_fieldAddr rfl kf27_0 rfl (lt rfl)) rfl rfl rfl rfl (lt rfl) ?_
            refine dq_yes (f_load kd3 rfl rfl (lt rfl)) rfl rfl rfl rfl (lt rfl) ?_
            refine dq_yes (f_bin rfl rfl (iT (hW)) (lt rfl)) rfl rfl rfl rfl (lt rfl) ?_
            refine dq_yes (f_bin rfl rfl (bT (decide_eq_true (by omega))) (lt rfl)) rfl rfl rfl rfl (lt rfl) ?_
            refine dq (f_pick rfl rfl (lt rfl)) rfl rfl ?_
            refine dq_nil rfl ?_
            refine to_next ?_
            refine hits_cond rfl (fun c2 => ?_) (fun c2 => ?_)
            case refine_2 => exact absurd c2 Bool.false_ne_true.symm
            case refine_1 =>
              refine hits_seq ?_
              refine hits_drawn mixed ?_
              refine dq (f_load kd27 rfl rfl (lt rfl)) rfl rfl ?_
              refine dq (f_move rfl (lt rfl)) rfl rfl ?_
              refine dq (f_bin rfl rfl (iT (hw)) (lt rfl)) rfl rfl ?_
              refine dq (f_call en14 rfl (lcut_c (hall)) (lt rfl)) rfl rfl ?_
              refine dq (f_load kd27 rfl rfl (lt rfl)) rfl rfl ?_
              refine dq (f_eqB rfl rfl (eqT rfl) (lt rfl)) rfl rfl ?_
              refine dq (f_assign rfl (lt rfl)) rfl rfl ?_
              refine dq_nil rfl ?_
              refine to_next ?_
              refine hits_ret ?_
              refine to_ret ?_
              exact hits_done (.inl rfl) rfl rfl rfl

set_option maxRecDepth 100000 in
theorem cuts_no {n : Int} {x b : Nat} {m y : Int} (h : ¬ (1 ≤ n ∧ n ≤ 128)) : CallsP Tryd.prog Tabs 4 [cutD n x m, bitI y b] (.sc (.bool true)) := by
  refine callsP_of gs_tabs Tryd.func4 rfl Tryd.ntmps4 rfl fun w0 S0 stab => ?_
  refine hits_seq ?_
  refine hits_region ?_
  refine sq (f_box rfl rfl (lt rfl)) rfl rfl ?_
  refine sq (f_box rfl rfl (lt rfl)) rfl rfl ?_
  refine sq (f_assign rfl (lt rfl)) rfl rfl ?_
  refine hits_nil ?_
  refine to_next ?_
  refine hits_seq ?_
  refine hits_drawn mixed ?_
  refine dq (f_fieldAddr rfl kf36_0 rfl (lt rfl)) rfl rfl ?_
  refine dq (f_load kd3 rfl rfl (lt rfl)) rfl rfl ?_
  refine dq (f_fieldAddr rfl kf36_2 rfl (lt rfl)) rfl rfl ?_
  refine dq (f_load kd3 rfl rfl (lt rfl)) rfl rfl ?_
  refine dq (f_assign rfl (lt rfl)) rfl rfl ?_
  refine dq (f_assign rfl (lt rfl)) rfl rfl ?_
  refine dq_nil rfl ?_
  refine to_next ?_
  refine hits_seq ?_
  refine hits_region ?_
  refine sq (f_move rfl (lt rfl)) rfl rfl ?_
  refine sq (f_fieldAddr rfl kf36_1 rfl (lt rfl)) rfl rfl ?_
  refine sq (f_idxArr rfl rfl un23 kd22 rfl (lt rfl)) rfl rfl ?_
  refine sq (f_load kd22 rfl rfl (lt rfl)) rfl rfl ?_
  refine sq (f_fieldAddr rfl kf36_1 rfl (lt rfl)) rfl rfl ?_
  refine sq (f_idxArr rfl rfl un23 kd22 rfl (lt rfl)) rfl rfl ?_
  refine sq (f_load kd22 rfl rfl (lt rfl)) rfl rfl ?_
  refine sq (f_call en13 rfl (of_c (of_not _ _ _ h)) (lt rfl)) rfl rfl ?_
  refine sq (f_move rfl (lt rfl)) rfl rfl ?_
  refine sq (f_extract rfl rfl (lt rfl)) rfl rfl ?_
  refine sq (f_extract rfl rfl (lt rfl)) rfl rfl ?_
  refine sq (f_alloc zc27 (lt rfl)) rfl rfl ?_
  refine sq (f_store kd27 rfl rfl rfl rfl rfl) rfl rfl ?_
  refine sq (f_assign rfl (lt rfl)) rfl rfl ?_
  refine hits_nil ?_
  refine to_next ?_
  refine hits_seq ?_
  refine hits_seq ?_
  refine hits_region ?_
  refine sq (f_call en10 rfl alive_c (lt rfl)) rfl rfl ?_
  refine sq (f_un rfl rfl (lt rfl)) rfl rfl ?_
  refine sq (f_move rfl (lt rfl)) rfl rfl ?_
  refine sq_yes (f_move rfl (lt rfl)) rfl rfl rfl rfl (lt rfl) ?_
  refine sq_yes (f_bin rfl rfl (bT (b' := true) rfl) (lt rfl)) rfl rfl rfl rfl (lt rfl) ?_
  refine sq (f_pick rfl rfl (lt rfl)) rfl rfl ?_
  refine hits_nil ?_
  refine to_next ?_
  refine hits_cond rfl (fun c0 => ?_) (fun c0 => ?_)
  case refine_2 => exact absurd c0 Bool.false_ne_true.symm
  case refine_1 =>
    refine hits_seq ?_
    refine hits_region ?_
    refine sq (f_call en10 rfl alive_c (lt rfl)) rfl rfl ?_
    refine sq (f_assign rfl (lt rfl)) rfl rfl ?_
    refine hits_nil ?_
    refine to_next ?_
    refine hits_ret ?_
    refine to_ret ?_
    exact hits_done (.inl rfl) rfl rfl rfl

end Go.Proofs.YthhlnghpbjmfpaaDoor.AbBits
namespace Go.Proofs.YthhlnghpbjmfpaaDoor.PAb
open Go Go.RowKit Go.Ab Go.Proofs.YthhlnghpbjmfpaaDoor.Press
def pointsmanlaw01_BitsCuts.f (a0_0 a0_1_0 a0_1_1 a0_2 a1_0 a1_1 a1_2 : Int) : Option Bool := if (Lit.int .i64 a0_0).wf = true ∧ (Lit.int .u64 a0_1_0).wf = true ∧ (Lit.int .u64 a0_1_1).wf = true ∧ (Lit.int .i64 a0_2).wf = true ∧ (Lit.int .i64 a1_0).wf = true ∧ (Lit.int .u64 a1_1).wf = true ∧ (Lit.int .u64 a1_2).wf = true then some true else none
theorem pointsmanlaw01_BitsCuts.calls (a0_0 : Int) (a0_1_0 : Int) (a0_1_1 : Int) (a0_2 : Int) (a1_0 : Int) (a1_1 : Int) (a1_2 : Int) (r : Bool) (w : World) (hT : Tabs w) (h : pointsmanlaw01_BitsCuts.f a0_0 a0_1_0 a0_1_1 a0_2 a1_0 a1_1 a1_2 = some r) : Calls Tryd.prog 4 #[.agg #[.int .i64 a0_0, .int .u64 a0_1_0, .int .u64 a0_1_1, .int .i64 a0_2], .agg #[.int .i64 a1_0, .int .u64 a1_1, .int .u64 a1_2]] w fun e w' => e = .returned (.bool r) ∧ Below w.heap.size w w' := by
  unfold pointsmanlaw01_BitsCuts.f at h
  split at h
  · rename_i c
    obtain rfl := Option.some.inj h
    obtain ⟨g0, g1, g2, g3, g4, g5, g6⟩ := c
    obtain ⟨x, hx, rfl, rfl⟩ := BitsMath.two_words g1 g2
    obtain ⟨b, hb, rfl, rfl⟩ := BitsMath.two_words g5 g6
    by_cases hw : 1 ≤ a0_0 ∧ a0_0 ≤ 128
    · obtain ⟨n, rfl⟩ := Int.eq_ofNat_of_zero_le (show 0 ≤ a0_0 by omega)
      exact (AbBits.cuts_ok (n := n) (by omega) (by omega) hx hb).calls rfl rfl w hT
    · exact (AbBits.cuts_no (x := x) (b := b) hw).calls rfl rfl w hT
  · cases h
end Go.Proofs.YthhlnghpbjmfpaaDoor.PAb
namespace Go.Proofs.YthhlnghpbjmfpaaDoor.Pure
theorem BitsCuts (a0_0 a0_1_0 a0_1_1 a0_2 a1_0 a1_1 a1_2 : Int) (g0 : (Lit.int .i64 a0_0).wf = true) (g1 : (Lit.int .u64 a0_1_0).wf = true) (g2 : (Lit.int .u64 a0_1_1).wf = true) (g3 : (Lit.int .i64 a0_2).wf = true) (g4 : (Lit.int .i64 a1_0).wf = true) (g5 : (Lit.int .u64 a1_1).wf = true) (g6 : (Lit.int .u64 a1_2).wf = true) : PAb.pointsmanlaw01_BitsCuts.f a0_0 a0_1_0 a0_1_1 a0_2 a1_0 a1_1 a1_2 = some true := if_pos ⟨g0, g1, g2, g3, g4, g5, g6⟩
end Go.Proofs.YthhlnghpbjmfpaaDoor.Pure
