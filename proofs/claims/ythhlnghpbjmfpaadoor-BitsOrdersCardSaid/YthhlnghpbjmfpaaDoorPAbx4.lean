/- The law BitsOrders: its walk over data, and the law as a row asks it. -/
import Derived.Test.YthhlnghpbjmfpaaDoorAbMore
namespace Go.Proofs.YthhlnghpbjmfpaaDoor.AbBits
open Go Go.RowKit Go.Ab Go.Proofs.YthhlnghpbjmfpaaDoor Go.Proofs.YthhlnghpbjmfpaaDoor.PTryd Go.Proofs.YthhlnghpbjmfpaaDoor.PTrydFns Go.Proofs.YthhlnghpbjmfpaaDoor.BitsMath Go.Proofs.YthhlnghpbjmfpaaDoor.Press
set_option linter.unusedVariables false
set_option linter.unusedSimpArgs false
theorem en10 : enters Tryd.prog 10 = true := by kernel_rfl
theorem en9 : enters Tryd.prog 9 = true := by kernel_rfl
theorem kf25_0 : kf Tryd.prog 25 0 = some 0 := by kernel_rfl
theorem kd25 : kd Tryd.prog 25 = some (true, 7) := by kernel_rfl
theorem un22 : Tryd.prog.underlying 22 = some (.int .u64) := by kernel_rfl
theorem en13 : enters Tryd.prog 13 = true := by kernel_rfl
theorem kf36_0 : kf Tryd.prog 36 0 = some 0 := by kernel_rfl
theorem kf36_2 : kf Tryd.prog 36 2 = some 3 := by kernel_rfl
theorem kf36_1 : kf Tryd.prog 36 1 = some 1 := by kernel_rfl
theorem un23 : Tryd.prog.underlying 23 = some (.array 2 22) := by kernel_rfl
theorem us5 : (Tryd.prog.underlying 5).isSome = true := by kernel_rfl
theorem un3 : Tryd.prog.underlying 3 = some (.int .i64) := by kernel_rfl
set_option maxHeartbeats 4000000 in
set_option maxRecDepth 100000 in
theorem orders_ok {n x y z : Nat} (h0 : 1 ≤ n) (h : n ≤ 128) (hx : x < 2 ^ 128) (hy : y < 2 ^ 128) (hz : z < 2 ^ 128) : CallsP Tryd.prog Tabs 6 [threeD n x y z] (.sc (.bool true)) := by
  have hp := Nat.two_pow_pos n
  have hnum := numbers_ok h0 h hx hy hz
  have md : ∀ v, v % 2 ^ n < 2 ^ n := fun v => Nat.mod_lt _ hp
  have ha := md x
  have hb := md y
  have hc := md z
  generalize x % 2 ^ n = a at *
  generalize y % 2 ^ n = b at *
  generalize z % 2 ^ n = c at *
  refine callsP_of gs_tabs Tryd.func6 rfl Tryd.ntmps6 rfl fun w0 S0 stab => ?_
  refine hits_seq ?_
  refine hits_region ?_
  refine sq (f_box rfl rfl (lt rfl)) rfl rfl ?_
  refine sq (f_assign rfl (lt rfl)) rfl rfl ?_
  refine hits_nil ?_
  refine to_next ?_
  refine hits_seq ?_
  refine hits_region ?_
  refine sq (f_load kd25 rfl rfl (lt rfl)) rfl rfl ?_
  refine sq (f_call en9 rfl hnum (lt rfl)) rfl rfl ?_
  refine sq (f_move rfl (lt rfl)) rfl rfl ?_
  refine sq (f_extract rfl rfl (lt rfl)) rfl rfl ?_
  refine sq (f_extract rfl rfl (lt rfl)) rfl rfl ?_
  refine sq (f_extract rfl rfl (lt rfl)) rfl rfl ?_
  refine sq (f_extract rfl rfl (lt rfl)) rfl rfl ?_
  refine sq (f_alloc zc27 (lt rfl)) rfl rfl ?_
  refine sq (f_alloc zc27 (lt rfl)) rfl rfl ?_
  refine sq (f_alloc zc27 (lt rfl)) rfl rfl ?_
  refine sq (f_store kd27 rfl rfl rfl rfl rfl) rfl rfl ?_
  refine sq (f_store kd27 rfl rfl rfl rfl rfl) rfl rfl ?_
  refine sq (f_store kd27 rfl rfl rfl rfl rfl) rfl rfl ?_
  refine sq (f_assign rfl (lt rfl)) rfl rfl ?_
  refine hits_nil ?_
  refine to_next ?_
  refine hits_seq ?_
  refine hits_seq ?_
  refine hits_region ?_
  refine sq (f_call en10 rfl alive_c (lt rfl)) rfl rfl ?_
  refine sq (f_un rfl rfl (lt rfl)) rfl rfl ?_
  refine sq (f_move rfl (lt rfl)) rfl rfl ?_
  refine sq_yes (f_move rfl (lt rfl)) rfl rfl rfl rfl (lt rfl) ?_
  refine sq_yes (f_un rfl rfl (lt rfl)) rfl rfl rfl rfl (lt rfl) ?_
  refine sq (f_pick rfl rfl (lt rfl)) rfl rfl ?_
  refine hits_nil ?_
  refine to_next ?_
  refine hits_cond rfl (fun c0 => ?_) (fun c0 => ?_)
  case refine_1 => exact absurd c0 Bool.false_ne_true
  case refine_2 =>
    refine hits_skip ?_
    refine to_next ?_
    refine hits_seq ?_
    refine hits_region ?_
    refine sq (f_call en12 rfl (num_b 1 1 (by decide)) (lt rfl)) rfl rfl ?_
    refine sq (f_alloc zc27 (lt rfl)) rfl rfl ?_
    refine sq (f_store kd27 rfl rfl rfl rfl rfl) rfl rfl ?_
    refine hits_nil ?_
    refine to_next ?_
    refine hits_seq ?_
    rcases Nat.lt_trichotomy a b with hl | hl | hl
    · have q1 : pointsmanlaw01_do.f 19 n (hiOf a) (loOf a) n (hiOf b) (loOf b) = some (((1 : Nat) : Int), hiOf 1, loOf 1) := by
        rw [do_lt h0 h ha hb, decide_eq_true (show a < b by omega)]; rfl
      have q2 : pointsmanlaw01_do.f 19 n (hiOf b) (loOf b) n (hiOf a) (loOf a) = some (((1 : Nat) : Int), hiOf 0, loOf 0) := by
        rw [do_lt h0 h hb ha, decide_eq_false (show ¬ b < a by omega)]; rfl
      have q3 : pointsmanlaw01_do.f 17 n (hiOf a) (loOf a) n (hiOf b) (loOf b) = some (((1 : Nat) : Int), hiOf 0, loOf 0) := by
        rw [do_eq h0 h ha hb, decide_eq_false (show ¬ a = b by omega)]; rfl
      have q4 : pointsmanlaw01_do.f 20 n (hiOf a) (loOf a) n (hiOf b) (loOf b) = some (((1 : Nat) : Int), hiOf 1, loOf 1) := by
        rw [do_le h0 h ha hb, decide_eq_false (show ¬ b < a by omega)]; rfl
      have q5 : pointsmanlaw01_do.f 18 n (hiOf a) (loOf a) n (hiOf b) (loOf b) = some (((1 : Nat) : Int), hiOf 1, loOf 1) := by
        rw [do_ne h0 h ha hb, decide_eq_false (show ¬ a = b by omega)]; rfl
      have hi : (hiOf a < hiOf b → a < b) ∧ (hiOf a = hiOf b → (loOf a < loOf b ↔ a < b)) ∧ (¬ hiOf a < hiOf b → ¬ hiOf a = hiOf b → ¬ a < b) := by unfold hiOf loOf; omega
      refine hits_drawn mixed ?_
      refine dq (f_load kd27 rfl rfl (lt rfl)) rfl rfl ?_
      refine dq (f_load kd27 rfl rfl (lt rfl)) rfl rfl ?_
      refine dq (f_call en11 rfl (do_c (q1)) (lt rfl)) rfl rfl ?_
      refine dq (f_load kd27 rfl rfl (lt rfl)) rfl rfl ?_
      refine dq (f_eqB rfl rfl (eqT rfl) (lt rfl)) rfl rfl ?_
      refine dq (f_load kd27 rfl rfl (lt rfl)) rfl rfl ?_
      refine dq (f_load kd27 rfl rfl (lt rfl)) rfl rfl ?_
      refine dq (f_call en11 rfl (do_c (q2)) (lt rfl)) rfl rfl ?_
      refine dq (f_load kd27 rfl rfl (lt rfl)) rfl rfl ?_
      refine dq (f_eqB rfl rfl (eqF (by decide)) (lt rfl)) rfl rfl ?_
      refine dq (f_load kd27 rfl rfl (lt rfl)) rfl rfl ?_
      refine dq (f_load kd27 rfl rfl (lt rfl)) rfl rfl ?_
      refine dq (f_call en11 rfl (do_c (q3)) (lt rfl)) rfl rfl ?_
      refine dq (f_load kd27 rfl rfl (lt rfl)) rfl rfl ?_
      refine dq (f_eqB rfl rfl (eqF (by decide)) (lt rfl)) rfl rfl ?_
      refine dq (f_assign rfl (lt rfl)) rfl rfl ?_
      refine dq (f_assign rfl (lt rfl)) rfl rfl ?_
      refine dq (f_assign rfl (lt rfl)) rfl rfl ?_
      refine dq_nil rfl ?_
      refine to_next ?_
      refine hits_seq ?_
      refine hits_drawn mixed ?_
      refine dq (f_load kd27 rfl rfl (lt rfl)) rfl rfl ?_
      refine dq (f_load kd27 rfl rfl (lt rfl)) rfl rfl ?_
      refine dq (f_call en11 rfl (do_c (q4)) (lt rfl)) rfl rfl ?_
      refine dq (f_load kd27 rfl rfl (lt rfl)) rfl rfl ?_
      refine dq (f_eqB rfl rfl (eqT rfl) (lt rfl)) rfl rfl ?_
      refine dq (f_load kd27 rfl rfl (lt rfl)) rfl rfl ?_
      refine dq (f_load kd27 rfl rfl (lt rfl)) rfl rfl ?_
      refine dq (f_call en11 rfl (do_c (q5)) (lt rfl)) rfl rfl ?_
      refine dq (f_load kd27 rfl rfl (lt rfl)) rfl rfl ?_
      refine dq (f_eqB rfl rfl (eqT rfl) (lt rfl)) rfl rfl ?_
      refine dq (f_assign rfl (lt rfl)) rfl rfl ?_
      refine dq (f_assign rfl (lt rfl)) rfl rfl ?_
      refine dq_nil rfl ?_
      refine to_next ?_
      refine hits_seq ?_
      refine hits_region ?_
      refine sq (f_assign rfl (lt rfl)) rfl rfl ?_
      refine hits_nil ?_
      refine to_next ?_
      refine hits_seq ?_
      refine hits_seq ?_
      refine hits_region ?_
      refine sq (f_move rfl (lt rfl)) rfl rfl ?_
      refine hits_nil ?_
      refine to_next ?_
      refine hits_cond rfl (fun c1 => ?_) (fun c1 => ?_)
      case refine_2 => exact absurd c1 Bool.false_ne_true.symm
      case refine_1 =>
        refine hits_region ?_
        refine sq (f_move rfl (lt rfl)) rfl rfl ?_
        refine sq (f_bin rfl rfl rfl (lt rfl)) rfl rfl ?_
        refine sq (f_assign rfl (lt rfl)) rfl rfl ?_
        refine hits_nil ?_
        refine to_next ?_
        refine hits_seq ?_
        refine hits_seq ?_
        refine hits_region ?_
        refine sq (f_move rfl (lt rfl)) rfl rfl ?_
        refine hits_nil ?_
        refine to_next ?_
        refine hits_cond rfl (fun c2 => ?_) (fun c2 => ?_)
        case refine_1 => exact absurd c2 Bool.false_ne_true
        case refine_2 =>
          refine hits_skip ?_
          refine to_next ?_
          refine hits_seq ?_
          refine hits_seq ?_
          refine hits_region ?_
          refine sq (f_move rfl (lt rfl)) rfl rfl ?_
          refine hits_nil ?_
          refine to_next ?_
          refine hits_cond rfl (fun c3 => ?_) (fun c3 => ?_)
          case refine_1 => exact absurd c3 Bool.false_ne_true
          case refine_2 =>
            refine hits_skip ?_
            refine to_next ?_
            refine hits_seq ?_
            refine hits_seq ?_
            refine hits_region ?_
            refine sq (f_move rfl (lt rfl)) rfl rfl ?_
            refine sq (f_bin rfl rfl (bT (b' := false) rfl) (lt rfl)) rfl rfl ?_
            refine sq (f_move rfl (lt rfl)) rfl rfl ?_
            refine sq_yes (f_move rfl (lt rfl)) rfl rfl rfl rfl (lt rfl) ?_
            refine sq_yes (f_move rfl (lt rfl)) rfl rfl rfl rfl (lt rfl) ?_
            refine sq_yes (f_move rfl (lt rfl)) rfl rfl rfl rfl (lt rfl) ?_
            refine sq_no rfl rfl rfl rfl rfl (lt rfl) (lt rfl) ?_
            refine sq_yes (f_pick rfl rfl (lt rfl)) rfl rfl rfl rfl (lt rfl) ?_
            refine sq_yes (f_binW rfl rfl (fun w => neq4 _ _ _ _ w) (lt rfl)) rfl rfl rfl rfl (lt rfl) ?_
            refine sq (f_pick rfl rfl (lt rfl)) rfl rfl ?_
            refine sq (f_move rfl (lt rfl)) rfl rfl ?_
            refine sq_yes (f_move rfl (lt rfl)) rfl rfl rfl rfl (lt rfl) ?_
            refine sq_yes (f_move rfl (lt rfl)) rfl rfl rfl rfl (lt rfl) ?_
            refine sq_yes (f_binW rfl rfl (fun w => eql4 _ _ _ _ w) (lt rfl)) rfl rfl rfl rfl (lt rfl) ?_
            refine sq (f_pick rfl rfl (lt rfl)) rfl rfl ?_
            refine sq (f_move rfl (lt rfl)) rfl rfl ?_
            refine sq_yes (f_move rfl (lt rfl)) rfl rfl rfl rfl (lt rfl) ?_
            refine sq_yes (f_load kd27 rfl rfl (lt rfl)) rfl rfl rfl rfl (lt rfl) ?_
            refine sq_yes (f_load kd27 rfl rfl (lt rfl)) rfl rfl rfl rfl (lt rfl) ?_
            refine sq_yes (f_eqB rfl rfl (eqF (by omega)) (lt rfl)) rfl rfl rfl rfl (lt rfl) ?_
            refine sq_yes (f_binW rfl rfl (fun w => neq4 _ _ _ _ w) (lt rfl)) rfl rfl rfl rfl (lt rfl) ?_
            refine sq (f_pick rfl rfl (lt rfl)) rfl rfl ?_
            refine hits_nil ?_
            refine to_next ?_
            refine hits_cond rfl (fun c4 => ?_) (fun c4 => ?_)
            case refine_1 => exact absurd c4 Bool.false_ne_true
            case refine_2 =>
              refine hits_skip ?_
              refine to_next ?_
              refine hits_seq ?_
              by_cases z1 : hiOf a < hiOf b
              · refine hits_region ?_
                refine sq (f_fieldAddr rfl kf27_1 rfl (lt rfl)) rfl rfl ?_
                refine sq (f_load kd22 rfl rfl (lt rfl)) rfl rfl ?_
                refine sq (f_fieldAddr rfl kf27_1 rfl (lt rfl)) rfl rfl ?_
                refine sq (f_load kd22 rfl rfl (lt rfl)) rfl rfl ?_
                refine sq (f_bin rfl rfl (bT (decide_eq_true z1)) (lt rfl)) rfl rfl ?_
                refine sq (f_move rfl (lt rfl)) rfl rfl ?_
                refine sq_no rfl rfl rfl rfl rfl (lt rfl) (lt rfl) ?_
                refine sq_no rfl rfl rfl rfl rfl (lt rfl) (lt rfl) ?_
                refine sq_no rfl rfl rfl rfl rfl (lt rfl) (lt rfl) ?_
                refine sq_no rfl rfl rfl rfl rfl (lt rfl) (lt rfl) ?_
                refine sq_no rfl rfl rfl rfl rfl (lt rfl) (lt rfl) ?_
                refine sq_no rfl rfl rfl rfl rfl (lt rfl) (lt rfl) ?_
                refine sq_no rfl rfl rfl rfl rfl (lt rfl) (lt rfl) ?_
                refine sq_no rfl rfl rfl rfl rfl (lt rfl) (lt rfl) ?_
                refine sq_no rfl rfl rfl rfl rfl (lt rfl) (lt rfl) ?_
                refine sq_no rfl rfl rfl rfl rfl (lt rfl) (lt rfl) ?_
                refine sq_no rfl rfl rfl rfl rfl (lt rfl) (lt rfl) ?_
                refine sq_no rfl rfl rfl rfl rfl (lt rfl) (lt rfl) ?_
                refine sq (f_pick rfl rfl (lt rfl)) rfl rfl ?_
                refine sq (f_assign rfl (lt rfl)) rfl rfl ?_
                refine hits_nil ?_
                refine to_next ?_
                refine hits_seq ?_
                by_cases hbc : b < c
                · have q6 : pointsmanlaw01_do.f 19 n (hiOf b) (loOf b) n (hiOf c) (loOf c) = some (((1 : Nat) : Int), hiOf 1, loOf 1) := by
                    rw [do_lt h0 h hb hc, decide_eq_true hbc]; rfl
                  have q7 : pointsmanlaw01_do.f 19 n (hiOf a) (loOf a) n (hiOf c) (loOf c) = some (((1 : Nat) : Int), hiOf 1, loOf 1) := by
                    rw [do_lt h0 h ha hc, decide_eq_true (show a < c by omega)]; rfl
                  refine hits_drawn mixed ?_
                  refine dq (f_move rfl (lt rfl)) rfl rfl ?_
                  refine dq (f_move rfl (lt rfl)) rfl rfl ?_
                  refine dq (f_binW rfl rfl (fun w => eql4 _ _ _ _ w) (lt rfl)) rfl rfl ?_
                  refine dq (f_move rfl (lt rfl)) rfl rfl ?_
                  refine dq_yes (f_move rfl (lt rfl)) rfl rfl rfl rfl (lt rfl) ?_
                  refine dq_yes (f_un rfl rfl (lt rfl)) rfl rfl rfl rfl (lt rfl) ?_
                  refine dq_yes (f_move rfl (lt rfl)) rfl rfl rfl rfl (lt rfl) ?_
                  refine dq_yes (f_load kd27 rfl rfl (lt rfl)) rfl rfl rfl rfl (lt rfl) ?_
                  refine dq_yes (f_load kd27 rfl rfl (lt rfl)) rfl rfl rfl rfl (lt rfl) ?_
                  refine dq_yes (f_call en11 rfl (do_c (q6)) (lt rfl)) rfl rfl rfl rfl (lt rfl) ?_
                  refine dq_yes (f_load kd27 rfl rfl (lt rfl)) rfl rfl rfl rfl (lt rfl) ?_
                  refine dq_yes (f_neB rfl rfl (neF rfl) (lt rfl)) rfl rfl rfl rfl (lt rfl) ?_
                  refine dq_yes (f_pick rfl rfl (lt rfl)) rfl rfl rfl rfl (lt rfl) ?_
                  refine dq_yes (f_move rfl (lt rfl)) rfl rfl rfl rfl (lt rfl) ?_
                  refine dq_yes (f_load kd27 rfl rfl (lt rfl)) rfl rfl rfl rfl (lt rfl) ?_
                  refine dq_yes (f_load kd27 rfl rfl (lt rfl)) rfl rfl rfl rfl (lt rfl) ?_
                  refine dq_yes (f_call en11 rfl (do_c (q7)) (lt rfl)) rfl rfl rfl rfl (lt rfl) ?_
                  refine dq_yes (f_load kd27 rfl rfl (lt rfl)) rfl rfl rfl rfl (lt rfl) ?_
                  refine dq_yes (f_eqB rfl rfl (eqT rfl) (lt rfl)) rfl rfl rfl rfl (lt rfl) ?_
                  refine dq_yes (f_pick rfl rfl (lt rfl)) rfl rfl rfl rfl (lt rfl) ?_
                  refine dq (f_pick rfl rfl (lt rfl)) rfl rfl ?_
                  refine dq (f_assign rfl (lt rfl)) rfl rfl ?_
                  refine dq_nil rfl ?_
                  refine to_next ?_
                  refine hits_ret ?_
                  exact hits_done (.inl rfl) rfl rfl rfl
                · have q6 : pointsmanlaw01_do.f 19 n (hiOf b) (loOf b) n (hiOf c) (loOf c) = some (((1 : Nat) : Int), hiOf 0, loOf 0) := by
                    rw [do_lt h0 h hb hc, decide_eq_false hbc]; rfl
                  refine hits_drawn mixed ?_
                  refine dq (f_move rfl (lt rfl)) rfl rfl ?_
                  refine dq (f_move rfl (lt rfl)) rfl rfl ?_
                  refine dq (f_binW rfl rfl (fun w => eql4 _ _ _ _ w) (lt rfl)) rfl rfl ?_
                  refine dq (f_move rfl (lt rfl)) rfl rfl ?_
                  refine dq_yes (f_move rfl (lt rfl)) rfl rfl rfl rfl (lt rfl) ?_
                  refine dq_yes (f_un rfl rfl (lt rfl)) rfl rfl rfl rfl (lt rfl) ?_
                  refine dq_yes (f_move rfl (lt rfl)) rfl rfl rfl rfl (lt rfl) ?_
                  refine dq_yes (f_load kd27 rfl rfl (lt rfl)) rfl rfl rfl rfl (lt rfl) ?_
                  refine dq_yes (f_load kd27 rfl rfl (lt rfl)) rfl rfl rfl rfl (lt rfl) ?_
                  refine dq_yes (f_call en11 rfl (do_c (q6)) (lt rfl)) rfl rfl rfl rfl (lt rfl) ?_
                  refine dq_yes (f_load kd27 rfl rfl (lt rfl)) rfl rfl rfl rfl (lt rfl) ?_
                  refine dq_yes (f_neB rfl rfl (neT (by decide)) (lt rfl)) rfl rfl rfl rfl (lt rfl) ?_
                  refine dq_yes (f_pick rfl rfl (lt rfl)) rfl rfl rfl rfl (lt rfl) ?_
                  refine dq_yes (f_move rfl (lt rfl)) rfl rfl rfl rfl (lt rfl) ?_
                  refine dq_no rfl rfl rfl rfl rfl (lt rfl) (lt rfl) ?_
                  refine dq_no rfl rfl rfl rfl rfl (lt rfl) (lt rfl) ?_
                  refine dq_no rfl rfl rfl rfl rfl (lt rfl) (lt rfl) ?_
                  refine dq_no rfl rfl rfl rfl rfl (lt rfl) (lt rfl) ?_
                  refine dq_no rfl rfl rfl rfl rfl (lt rfl) (lt rfl) ?_
                  refine dq_yes (f_pick rfl rfl (lt rfl)) rfl rfl rfl rfl (lt rfl) ?_
                  refine dq (f_pick rfl rfl (lt rfl)) rfl rfl ?_
                  refine dq (f_assign rfl (lt rfl)) rfl rfl ?_
                  refine dq_nil rfl ?_
                  refine to_next ?_
                  refine hits_ret ?_
                  exact hits_done (.inl rfl) rfl rfl rfl
              · have z2 : hiOf a = hiOf b := Classical.byContradiction fun c => hi.2.2 z1 c hl
                refine hits_region ?_
                refine sq (f_fieldAddr rfl kf27_1 rfl (lt rfl)) rfl rfl ?_
                refine sq (f_load kd22 rfl rfl (lt rfl)) rfl rfl ?_
                refine sq (f_fieldAddr rfl kf27_1 rfl (lt rfl)) rfl rfl ?_
                refine sq (f_load kd22 rfl rfl (lt rfl)) rfl rfl ?_
                refine sq (f_bin rfl rfl (bT (decide_eq_false z1)) (lt rfl)) rfl rfl ?_
                refine sq (f_move rfl (lt rfl)) rfl rfl ?_
                refine sq_yes (f_fieldAddr rfl kf27_1 rfl (lt rfl)) rfl rfl rfl rfl (lt rfl) ?_
                refine sq_yes (f_load kd22 rfl rfl (lt rfl)) rfl rfl rfl rfl (lt rfl) ?_
                refine sq_yes (f_fieldAddr rfl kf27_1 rfl (lt rfl)) rfl rfl rfl rfl (lt rfl) ?_
                refine sq_yes (f_load kd22 rfl rfl (lt rfl)) rfl rfl rfl rfl (lt rfl) ?_
                refine sq_yes (f_bin rfl rfl (bT (beq_iff_eq.mpr z2)) (lt rfl)) rfl rfl rfl rfl (lt rfl) ?_
                refine sq_yes (f_move rfl (lt rfl)) rfl rfl rfl rfl (lt rfl) ?_
                refine sq_yes (f_fieldAddr rfl kf27_2 rfl (lt rfl)) rfl rfl rfl rfl (lt rfl) ?_
                refine sq_yes (f_load kd22 rfl rfl (lt rfl)) rfl rfl rfl rfl (lt rfl) ?_
                refine sq_yes (f_fieldAddr rfl kf27_2 rfl (lt rfl)) rfl rfl rfl rfl (lt rfl) ?_
                refine sq_yes (f_load kd22 rfl rfl (lt rfl)) rfl rfl rfl rfl (lt rfl) ?_
                refine sq_yes (f_bin rfl rfl (bT (decide_eq_true ((hi.2.1 z2).mpr hl))) (lt rfl)) rfl rfl rfl rfl (lt rfl) ?_
                refine sq_yes (f_pick rfl rfl (lt rfl)) rfl rfl rfl rfl (lt rfl) ?_
                refine sq (f_pick rfl rfl (lt rfl)) rfl rfl ?_
                refine sq (f_assign rfl (lt rfl)) rfl rfl ?_
                refine hits_nil ?_
                refine to_next ?_
                refine hits_seq ?_
                by_cases hbc : b < c
                · have q6 : pointsmanlaw01_do.f 19 n (hiOf b) (loOf b) n (hiOf c) (loOf c) = some (((1 : Nat) : Int), hiOf 1, loOf 1) := by
                    rw [do_lt h0 h hb hc, decide_eq_true hbc]; rfl
                  have q7 : pointsmanlaw01_do.f 19 n (hiOf a) (loOf a) n (hiOf c) (loOf c) = some (((1 : Nat) : Int), hiOf 1, loOf 1) := by
                    rw [do_lt h0 h ha hc, decide_eq_true (show a < c by omega)]; rfl
                  refine hits_drawn mixed ?_
                  refine dq (f_move rfl (lt rfl)) rfl rfl ?_
                  refine dq (f_move rfl (lt rfl)) rfl rfl ?_
                  refine dq (f_binW rfl rfl (fun w => eql4 _ _ _ _ w) (lt rfl)) rfl rfl ?_
                  refine dq (f_move rfl (lt rfl)) rfl rfl ?_
                  refine dq_yes (f_move rfl (lt rfl)) rfl rfl rfl rfl (lt rfl) ?_
                  refine dq_yes (f_un rfl rfl (lt rfl)) rfl rfl rfl rfl (lt rfl) ?_
                  refine dq_yes (f_move rfl (lt rfl)) rfl rfl rfl rfl (lt rfl) ?_
                  refine dq_yes (f_load kd27 rfl rfl (lt rfl)) rfl rfl rfl rfl (lt rfl) ?_
                  refine dq_yes (f_load kd27 rfl rfl (lt rfl)) rfl rfl rfl rfl (lt rfl) ?_
                  refine dq_yes (f_call en11 rfl (do_c (q6)) (lt rfl)) rfl rfl rfl rfl (lt rfl) ?_
                  refine dq_yes (f_load kd27 rfl rfl (lt rfl)) rfl rfl rfl rfl (lt rfl) ?_
                  refine dq_yes (f_neB rfl rfl (neF rfl) (lt rfl)) rfl rfl rfl rfl (lt rfl) ?_
                  refine dq_yes (f_pick rfl rfl (lt rfl)) rfl rfl rfl rfl (lt rfl) ?_
                  refine dq_yes (f_move rfl (lt rfl)) rfl rfl rfl rfl (lt rfl) ?_
                  refine dq_yes (f_load kd27 rfl rfl (lt rfl)) rfl rfl rfl rfl (lt rfl) ?_
                  refine dq_yes (f_load kd27 rfl rfl (lt rfl)) rfl rfl rfl rfl (lt rfl) ?_
                  refine dq_yes (f_call en11 rfl (do_c (q7)) (lt rfl)) rfl rfl rfl rfl (lt rfl) ?_
                  refine dq_yes (f_load kd27 rfl rfl (lt rfl)) rfl rfl rfl rfl (lt rfl) ?_
                  refine dq_yes (f_eqB rfl rfl (eqT rfl) (lt rfl)) rfl rfl rfl rfl (lt rfl) ?_
                  refine dq_yes (f_pick rfl rfl (lt rfl)) rfl rfl rfl rfl (lt rfl) ?_
                  refine dq (f_pick rfl rfl (lt rfl)) rfl rfl ?_
                  refine dq (f_assign rfl (lt rfl)) rfl rfl ?_
                  refine dq_nil rfl ?_
                  refine to_next ?_
                  refine hits_ret ?_
                  exact hits_done (.inl rfl) rfl rfl rfl
                · have q6 : pointsmanlaw01_do.f 19 n (hiOf b) (loOf b) n (hiOf c) (loOf c) = some (((1 : Nat) : Int), hiOf 0, loOf 0) := by
                    rw [do_lt h0 h hb hc, decide_eq_false hbc]; rfl
                  refine hits_drawn mixed ?_
                  refine dq (f_move rfl (lt rfl)) rfl rfl ?_
                  refine dq (f_move rfl (lt rfl)) rfl rfl ?_
                  refine dq (f_binW rfl rfl (fun w => eql4 _ _ _ _ w) (lt rfl)) rfl rfl ?_
                  refine dq (f_move rfl (lt rfl)) rfl rfl ?_
                  refine dq_yes (f_move rfl (lt rfl)) rfl rfl rfl rfl (lt rfl) ?_
                  refine dq_yes (f_un rfl rfl (lt rfl)) rfl rfl rfl rfl (lt rfl) ?_
                  refine dq_yes (f_move rfl (lt rfl)) rfl rfl rfl rfl (lt rfl) ?_
                  refine dq_yes (f_load kd27 rfl rfl (lt rfl)) rfl rfl rfl rfl (lt rfl) ?_
                  refine dq_yes (f_load kd27 rfl rfl (lt rfl)) rfl rfl rfl rfl (lt rfl) ?_
                  refine dq_yes (f_call en11 rfl (do_c (q6)) (lt rfl)) rfl rfl rfl rfl (lt rfl) ?_
                  refine dq_yes (f_load kd27 rfl rfl (lt rfl)) rfl rfl rfl rfl (lt rfl) ?_
                  refine dq_yes (f_neB rfl rfl (neT (by decide)) (lt rfl)) rfl rfl rfl rfl (lt rfl) ?_
                  refine dq_yes (f_pick rfl rfl (lt rfl)) rfl rfl rfl rfl (lt rfl) ?_
                  refine dq_yes (f_move rfl (lt rfl)) rfl rfl rfl rfl (lt rfl) ?_
                  refine dq_no rfl rfl rfl rfl rfl (lt rfl) (lt rfl) ?_
                  refine dq_no rfl rfl rfl rfl rfl (lt rfl) (lt rfl) ?_
                  refine dq_no rfl rfl rfl rfl rfl (lt rfl) (lt rfl) ?_
                  refine dq_no rfl rfl rfl rfl rfl (lt rfl) (lt rfl) ?_
                  refine dq_no rfl rfl rfl rfl rfl (lt rfl) (lt rfl) ?_
                  refine dq_yes (f_pick rfl rfl (lt rfl)) rfl rfl rfl rfl (lt rfl) ?_
                  refine dq (f_pick rfl rfl (lt rfl)) rfl rfl ?_
                  refine dq (f_assign rfl (lt rfl)) rfl rfl ?_
                  refine dq_nil rfl ?_
                  refine to_next ?_
                  refine hits_ret ?_
                  exact hits_done (.inl rfl) rfl rfl rfl
    · have hq : hiOf a = hiOf b := by rw [hl]
      have q1 : pointsmanlaw01_do.f 19 n (hiOf a) (loOf a) n (hiOf b) (loOf b) = some (((1 : Nat) : Int), hiOf 0, loOf 0) := by
        rw [do_lt h0 h ha hb, decide_eq_false (show ¬ a < b by omega)]; rfl
      have q2 : pointsmanlaw01_do.f 19 n (hiOf b) (loOf b) n (hiOf a) (loOf a) = some (((1 : Nat) : Int), hiOf 0, loOf 0) := by
        rw [do_lt h0 h hb ha, decide_eq_false (show ¬ b < a by omega)]; rfl
      have q3 : pointsmanlaw01_do.f 17 n (hiOf a) (loOf a) n (hiOf b) (loOf b) = some (((1 : Nat) : Int), hiOf 1, loOf 1) := by
        rw [do_eq h0 h ha hb, decide_eq_true (show a = b by omega)]; rfl
      have q4 : pointsmanlaw01_do.f 20 n (hiOf a) (loOf a) n (hiOf b) (loOf b) = some (((1 : Nat) : Int), hiOf 1, loOf 1) := by
        rw [do_le h0 h ha hb, decide_eq_false (show ¬ b < a by omega)]; rfl
      have q5 : pointsmanlaw01_do.f 18 n (hiOf a) (loOf a) n (hiOf b) (loOf b) = some (((1 : Nat) : Int), hiOf 0, loOf 0) := by
        rw [do_ne h0 h ha hb, decide_eq_true (show a = b by omega)]; rfl
      have hi : (hiOf a < hiOf b → a < b) ∧ (hiOf a = hiOf b → (loOf a < loOf b ↔ a < b)) ∧ (¬ hiOf a < hiOf b → ¬ hiOf a = hiOf b → ¬ a < b) := by unfold hiOf loOf; omega
      refine hits_drawn mixed ?_
      refine dq (f_load kd27 rfl rfl (lt rfl)) rfl rfl ?_
      refine dq (f_load kd27 rfl rfl (lt rfl)) rfl rfl ?_
      refine dq (f_call en11 rfl (do_c (q1)) (lt rfl)) rfl rfl ?_
      refine dq (f_load kd27 rfl rfl (lt rfl)) rfl rfl ?_
      refine dq (f_eqB rfl rfl (eqF (by decide)) (lt rfl)) rfl rfl ?_
      refine dq (f_load kd27 rfl rfl (lt rfl)) rfl rfl ?_
      refine dq (f_load kd27 rfl rfl (lt rfl)) rfl rfl ?_
      refine dq (f_call en11 rfl (do_c (q2)) (lt rfl)) rfl rfl ?_
      refine dq (f_load kd27 rfl rfl (lt rfl)) rfl rfl ?_
      refine dq (f_eqB rfl rfl (eqF (by decide)) (lt rfl)) rfl rfl ?_
      refine dq (f_load kd27 rfl rfl (lt rfl)) rfl rfl ?_
      refine dq (f_load kd27 rfl rfl (lt rfl)) rfl rfl ?_
      refine dq (f_call en11 rfl (do_c (q3)) (lt rfl)) rfl rfl ?_
      refine dq (f_load kd27 rfl rfl (lt rfl)) rfl rfl ?_
      refine dq (f_eqB rfl rfl (eqT rfl) (lt rfl)) rfl rfl ?_
      refine dq (f_assign rfl (lt rfl)) rfl rfl ?_
      refine dq (f_assign rfl (lt rfl)) rfl rfl ?_
      refine dq (f_assign rfl (lt rfl)) rfl rfl ?_
      refine dq_nil rfl ?_
      refine to_next ?_
      refine hits_seq ?_
      refine hits_drawn mixed ?_
      refine dq (f_load kd27 rfl rfl (lt rfl)) rfl rfl ?_
      refine dq (f_load kd27 rfl rfl (lt rfl)) rfl rfl ?_
      refine dq (f_call en11 rfl (do_c (q4)) (lt rfl)) rfl rfl ?_
      refine dq (f_load kd27 rfl rfl (lt rfl)) rfl rfl ?_
      refine dq (f_eqB rfl rfl (eqT rfl) (lt rfl)) rfl rfl ?_
      refine dq (f_load kd27 rfl rfl (lt rfl)) rfl rfl ?_
      refine dq (f_load kd27 rfl rfl (lt rfl)) rfl rfl ?_
      refine dq (f_call en11 rfl (do_c (q5)) (lt rfl)) rfl rfl ?_
      refine dq (f_load kd27 rfl rfl (lt rfl)) rfl rfl ?_
      refine dq (f_eqB rfl rfl (eqF (by decide)) (lt rfl)) rfl rfl ?_
      refine dq (f_assign rfl (lt rfl)) rfl rfl ?_
      refine dq (f_assign rfl (lt rfl)) rfl rfl ?_
      refine dq_nil rfl ?_
      refine to_next ?_
      refine hits_seq ?_
      refine hits_region ?_
      refine sq (f_assign rfl (lt rfl)) rfl rfl ?_
      refine hits_nil ?_
      refine to_next ?_
      refine hits_seq ?_
      refine hits_seq ?_
      refine hits_region ?_
      refine sq (f_move rfl (lt rfl)) rfl rfl ?_
      refine hits_nil ?_
      refine to_next ?_
      refine hits_cond rfl (fun c1 => ?_) (fun c1 => ?_)
      case refine_1 => exact absurd c1 Bool.false_ne_true
      case refine_2 =>
        refine hits_skip ?_
        refine to_next ?_
        refine hits_seq ?_
        refine hits_seq ?_
        refine hits_region ?_
        refine sq (f_move rfl (lt rfl)) rfl rfl ?_
        refine hits_nil ?_
        refine to_next ?_
        refine hits_cond rfl (fun c2 => ?_) (fun c2 => ?_)
        case refine_1 => exact absurd c2 Bool.false_ne_true
        case refine_2 =>
          refine hits_skip ?_
          refine to_next ?_
          refine hits_seq ?_
          refine hits_seq ?_
          refine hits_region ?_
          refine sq (f_move rfl (lt rfl)) rfl rfl ?_
          refine hits_nil ?_
          refine to_next ?_
          refine hits_cond rfl (fun c3 => ?_) (fun c3 => ?_)
          case refine_2 => exact absurd c3 Bool.false_ne_true.symm
          case refine_1 =>
            refine hits_region ?_
            refine sq (f_move rfl (lt rfl)) rfl rfl ?_
            refine sq (f_bin rfl rfl rfl (lt rfl)) rfl rfl ?_
            refine sq (f_assign rfl (lt rfl)) rfl rfl ?_
            refine hits_nil ?_
            refine to_next ?_
            refine hits_seq ?_
            refine hits_seq ?_
            refine hits_region ?_
            refine sq (f_move rfl (lt rfl)) rfl rfl ?_
            refine sq (f_bin rfl rfl (bT (b' := false) rfl) (lt rfl)) rfl rfl ?_
            refine sq (f_move rfl (lt rfl)) rfl rfl ?_
            refine sq_yes (f_move rfl (lt rfl)) rfl rfl rfl rfl (lt rfl) ?_
            refine sq_yes (f_move rfl (lt rfl)) rfl rfl rfl rfl (lt rfl) ?_
            refine sq_yes (f_move rfl (lt rfl)) rfl rfl rfl rfl (lt rfl) ?_
            refine sq_yes (f_move rfl (lt rfl)) rfl rfl rfl rfl (lt rfl) ?_
            refine sq_yes (f_pick rfl rfl (lt rfl)) rfl rfl rfl rfl (lt rfl) ?_
            refine sq_yes (f_binW rfl rfl (fun w => neq4 _ _ _ _ w) (lt rfl)) rfl rfl rfl rfl (lt rfl) ?_
            refine sq (f_pick rfl rfl (lt rfl)) rfl rfl ?_
            refine sq (f_move rfl (lt rfl)) rfl rfl ?_
            refine sq_yes (f_move rfl (lt rfl)) rfl rfl rfl rfl (lt rfl) ?_
            refine sq_yes (f_move rfl (lt rfl)) rfl rfl rfl rfl (lt rfl) ?_
            refine sq_yes (f_binW rfl rfl (fun w => eql4 _ _ _ _ w) (lt rfl)) rfl rfl rfl rfl (lt rfl) ?_
            refine sq (f_pick rfl rfl (lt rfl)) rfl rfl ?_
            refine sq (f_move rfl (lt rfl)) rfl rfl ?_
            refine sq_yes (f_move rfl (lt rfl)) rfl rfl rfl rfl (lt rfl) ?_
            refine sq_yes (f_load kd27 rfl rfl (lt rfl)) rfl rfl rfl rfl (lt rfl) ?_
            refine sq_yes (f_load kd27 rfl rfl (lt rfl)) rfl rfl rfl rfl (lt rfl) ?_
            refine sq_yes (f_eqB rfl rfl (eqT (by omega)) (lt rfl)) rfl rfl rfl rfl (lt rfl) ?_
            refine sq_yes (f_binW rfl rfl (fun w => neq4 _ _ _ _ w) (lt rfl)) rfl rfl rfl rfl (lt rfl) ?_
            refine sq (f_pick rfl rfl (lt rfl)) rfl rfl ?_
            refine hits_nil ?_
            refine to_next ?_
            refine hits_cond rfl (fun c4 => ?_) (fun c4 => ?_)
            case refine_1 => exact absurd c4 Bool.false_ne_true
            case refine_2 =>
              refine hits_skip ?_
              refine to_next ?_
              refine hits_seq ?_
              refine hits_region ?_
              refine sq (f_fieldAddr rfl kf27_1 rfl (lt rfl)) rfl rfl ?_
              refine sq (f_load kd22 rfl rfl (lt rfl)) rfl rfl ?_
              refine sq (f_fieldAddr rfl kf27_1 rfl (lt rfl)) rfl rfl ?_
              refine sq (f_load kd22 rfl rfl (lt rfl)) rfl rfl ?_
              refine sq (f_bin rfl rfl (bT (decide_eq_false (by omega))) (lt rfl)) rfl rfl ?_
              refine sq (f_move rfl (lt rfl)) rfl rfl ?_
              refine sq_yes (f_fieldAddr rfl kf27_1 rfl (lt rfl)) rfl rfl rfl rfl (lt rfl) ?_
              refine sq_yes (f_load kd22 rfl rfl (lt rfl)) rfl rfl rfl rfl (lt rfl) ?_
              refine sq_yes (f_fieldAddr rfl kf27_1 rfl (lt rfl)) rfl rfl rfl rfl (lt rfl) ?_
              refine sq_yes (f_load kd22 rfl rfl (lt rfl)) rfl rfl rfl rfl (lt rfl) ?_
              refine sq_yes (f_bin rfl rfl (bT (beq_iff_eq.mpr hq)) (lt rfl)) rfl rfl rfl rfl (lt rfl) ?_
              refine sq_yes (f_move rfl (lt rfl)) rfl rfl rfl rfl (lt rfl) ?_
              refine sq_yes (f_fieldAddr rfl kf27_2 rfl (lt rfl)) rfl rfl rfl rfl (lt rfl) ?_
              refine sq_yes (f_load kd22 rfl rfl (lt rfl)) rfl rfl rfl rfl (lt rfl) ?_
              refine sq_yes (f_fieldAddr rfl kf27_2 rfl (lt rfl)) rfl rfl rfl rfl (lt rfl) ?_
              refine sq_yes (f_load kd22 rfl rfl (lt rfl)) rfl rfl rfl rfl (lt rfl) ?_
              refine sq_yes (f_bin rfl rfl (bT (decide_eq_false (fun c => absurd ((hi.2.1 hq).mp c) (by omega)))) (lt rfl)) rfl rfl rfl rfl (lt rfl) ?_
              refine sq_yes (f_pick rfl rfl (lt rfl)) rfl rfl rfl rfl (lt rfl) ?_
              refine sq (f_pick rfl rfl (lt rfl)) rfl rfl ?_
              refine sq (f_assign rfl (lt rfl)) rfl rfl ?_
              refine hits_nil ?_
              refine to_next ?_
              refine hits_seq ?_
              refine hits_drawn mixed ?_
              refine dq (f_move rfl (lt rfl)) rfl rfl ?_
              refine dq (f_move rfl (lt rfl)) rfl rfl ?_
              refine dq (f_binW rfl rfl (fun w => eql4 _ _ _ _ w) (lt rfl)) rfl rfl ?_
              refine dq (f_move rfl (lt rfl)) rfl rfl ?_
              refine dq_yes (f_move rfl (lt rfl)) rfl rfl rfl rfl (lt rfl) ?_
              refine dq_yes (f_un rfl rfl (lt rfl)) rfl rfl rfl rfl (lt rfl) ?_
              refine dq_yes (f_move rfl (lt rfl)) rfl rfl rfl rfl (lt rfl) ?_
              refine dq_no rfl rfl rfl rfl rfl (lt rfl) (lt rfl) ?_
              refine dq_no rfl rfl rfl rfl rfl (lt rfl) (lt rfl) ?_
              refine dq_no rfl rfl rfl rfl rfl (lt rfl) (lt rfl) ?_
              refine dq_no rfl rfl rfl rfl rfl (lt rfl) (lt rfl) ?_
              refine dq_no rfl rfl rfl rfl rfl (lt rfl) (lt rfl) ?_
              refine dq_yes (f_pick rfl rfl (lt rfl)) rfl rfl rfl rfl (lt rfl) ?_
              refine dq_yes (f_move rfl (lt rfl)) rfl rfl rfl rfl (lt rfl) ?_
              refine dq_no rfl rfl rfl rfl rfl (lt rfl) (lt rfl) ?_
              refine dq_no rfl rfl rfl rfl rfl (lt rfl) (lt rfl) ?_
              refine dq_no rfl rfl rfl rfl rfl (lt rfl) (lt rfl) ?_
              refine dq_no rfl rfl rfl rfl rfl (lt rfl) (lt rfl) ?_
              refine dq_no rfl rfl rfl rfl rfl (lt rfl) (lt rfl) ?_
              refine dq_yes (f_pick rfl rfl (lt rfl)) rfl rfl rfl rfl (lt rfl) ?_
              refine dq (f_pick rfl rfl (lt rfl)) rfl rfl ?_
              refine dq (f_assign rfl (lt rfl)) rfl rfl ?_
              refine dq_nil rfl ?_
              refine to_next ?_
              refine hits_ret ?_
              exact hits_done (.inl rfl) rfl rfl rfl
    · have q1 : pointsmanlaw01_do.f 19 n (hiOf a) (loOf a) n (hiOf b) (loOf b) = some (((1 : Nat) : Int), hiOf 0, loOf 0) := by
        rw [do_lt h0 h ha hb, decide_eq_false (show ¬ a < b by omega)]; rfl
      have q2 : pointsmanlaw01_do.f 19 n (hiOf b) (loOf b) n (hiOf a) (loOf a) = some (((1 : Nat) : Int), hiOf 1, loOf 1) := by
        rw [do_lt h0 h hb ha, decide_eq_true (show b < a by omega)]; rfl
      have q3 : pointsmanlaw01_do.f 17 n (hiOf a) (loOf a) n (hiOf b) (loOf b) = some (((1 : Nat) : Int), hiOf 0, loOf 0) := by
        rw [do_eq h0 h ha hb, decide_eq_false (show ¬ a = b by omega)]; rfl
      have q4 : pointsmanlaw01_do.f 20 n (hiOf a) (loOf a) n (hiOf b) (loOf b) = some (((1 : Nat) : Int), hiOf 0, loOf 0) := by
        rw [do_le h0 h ha hb, decide_eq_true (show b < a by omega)]; rfl
      have q5 : pointsmanlaw01_do.f 18 n (hiOf a) (loOf a) n (hiOf b) (loOf b) = some (((1 : Nat) : Int), hiOf 1, loOf 1) := by
        rw [do_ne h0 h ha hb, decide_eq_false (show ¬ a = b by omega)]; rfl
      have hi : (hiOf a < hiOf b → a < b) ∧ (hiOf a = hiOf b → (loOf a < loOf b ↔ a < b)) ∧ (¬ hiOf a < hiOf b → ¬ hiOf a = hiOf b → ¬ a < b) := by unfold hiOf loOf; omega
      have z1 : ¬ hiOf a < hiOf b := fun c => absurd (hi.1 c) (by omega)
      refine hits_drawn mixed ?_
      refine dq (f_load kd27 rfl rfl (lt rfl)) rfl rfl ?_
      refine dq (f_load kd27 rfl rfl (lt rfl)) rfl rfl ?_
      refine dq (f_call en11 rfl (do_c (q1)) (lt rfl)) rfl rfl ?_
      refine dq (f_load kd27 rfl rfl (lt rfl)) rfl rfl ?_
      refine dq (f_eqB rfl rfl (eqF (by decide)) (lt rfl)) rfl rfl ?_
      refine dq (f_load kd27 rfl rfl (lt rfl)) rfl rfl ?_
      refine dq (f_load kd27 rfl rfl (lt rfl)) rfl rfl ?_
      refine dq (f_call en11 rfl (do_c (q2)) (lt rfl)) rfl rfl ?_
      refine dq (f_load kd27 rfl rfl (lt rfl)) rfl rfl ?_
      refine dq (f_eqB rfl rfl (eqT rfl) (lt rfl)) rfl rfl ?_
      refine dq (f_load kd27 rfl rfl (lt rfl)) rfl rfl ?_
      refine dq (f_load kd27 rfl rfl (lt rfl)) rfl rfl ?_
      refine dq (f_call en11 rfl (do_c (q3)) (lt rfl)) rfl rfl ?_
      refine dq (f_load kd27 rfl rfl (lt rfl)) rfl rfl ?_
      refine dq (f_eqB rfl rfl (eqF (by decide)) (lt rfl)) rfl rfl ?_
      refine dq (f_assign rfl (lt rfl)) rfl rfl ?_
      refine dq (f_assign rfl (lt rfl)) rfl rfl ?_
      refine dq (f_assign rfl (lt rfl)) rfl rfl ?_
      refine dq_nil rfl ?_
      refine to_next ?_
      refine hits_seq ?_
      refine hits_drawn mixed ?_
      refine dq (f_load kd27 rfl rfl (lt rfl)) rfl rfl ?_
      refine dq (f_load kd27 rfl rfl (lt rfl)) rfl rfl ?_
      refine dq (f_call en11 rfl (do_c (q4)) (lt rfl)) rfl rfl ?_
      refine dq (f_load kd27 rfl rfl (lt rfl)) rfl rfl ?_
      refine dq (f_eqB rfl rfl (eqF (by decide)) (lt rfl)) rfl rfl ?_
      refine dq (f_load kd27 rfl rfl (lt rfl)) rfl rfl ?_
      refine dq (f_load kd27 rfl rfl (lt rfl)) rfl rfl ?_
      refine dq (f_call en11 rfl (do_c (q5)) (lt rfl)) rfl rfl ?_
      refine dq (f_load kd27 rfl rfl (lt rfl)) rfl rfl ?_
      refine dq (f_eqB rfl rfl (eqT rfl) (lt rfl)) rfl rfl ?_
      refine dq (f_assign rfl (lt rfl)) rfl rfl ?_
      refine dq (f_assign rfl (lt rfl)) rfl rfl ?_
      refine dq_nil rfl ?_
      refine to_next ?_
      refine hits_seq ?_
      refine hits_region ?_
      refine sq (f_assign rfl (lt rfl)) rfl rfl ?_
      refine hits_nil ?_
      refine to_next ?_
      refine hits_seq ?_
      refine hits_seq ?_
      refine hits_region ?_
      refine sq (f_move rfl (lt rfl)) rfl rfl ?_
      refine hits_nil ?_
      refine to_next ?_
      refine hits_cond rfl (fun c1 => ?_) (fun c1 => ?_)
      case refine_1 => exact absurd c1 Bool.false_ne_true
      case refine_2 =>
        refine hits_skip ?_
        refine to_next ?_
        refine hits_seq ?_
        refine hits_seq ?_
        refine hits_region ?_
        refine sq (f_move rfl (lt rfl)) rfl rfl ?_
        refine hits_nil ?_
        refine to_next ?_
        refine hits_cond rfl (fun c2 => ?_) (fun c2 => ?_)
        case refine_2 => exact absurd c2 Bool.false_ne_true.symm
        case refine_1 =>
          refine hits_region ?_
          refine sq (f_move rfl (lt rfl)) rfl rfl ?_
          refine sq (f_bin rfl rfl rfl (lt rfl)) rfl rfl ?_
          refine sq (f_assign rfl (lt rfl)) rfl rfl ?_
          refine hits_nil ?_
          refine to_next ?_
          refine hits_seq ?_
          refine hits_seq ?_
          refine hits_region ?_
          refine sq (f_move rfl (lt rfl)) rfl rfl ?_
          refine hits_nil ?_
          refine to_next ?_
          refine hits_cond rfl (fun c3 => ?_) (fun c3 => ?_)
          case refine_1 => exact absurd c3 Bool.false_ne_true
          case refine_2 =>
            refine hits_skip ?_
            refine to_next ?_
            refine hits_seq ?_
            refine hits_seq ?_
            refine hits_region ?_
            refine sq (f_move rfl (lt rfl)) rfl rfl ?_
            refine sq (f_bin rfl rfl (bT (b' := false) rfl) (lt rfl)) rfl rfl ?_
            refine sq (f_move rfl (lt rfl)) rfl rfl ?_
            refine sq_yes (f_move rfl (lt rfl)) rfl rfl rfl rfl (lt rfl) ?_
            refine sq_yes (f_move rfl (lt rfl)) rfl rfl rfl rfl (lt rfl) ?_
            refine sq_yes (f_move rfl (lt rfl)) rfl rfl rfl rfl (lt rfl) ?_
            refine sq_yes (f_move rfl (lt rfl)) rfl rfl rfl rfl (lt rfl) ?_
            refine sq_yes (f_pick rfl rfl (lt rfl)) rfl rfl rfl rfl (lt rfl) ?_
            refine sq_yes (f_binW rfl rfl (fun w => neq4 _ _ _ _ w) (lt rfl)) rfl rfl rfl rfl (lt rfl) ?_
            refine sq (f_pick rfl rfl (lt rfl)) rfl rfl ?_
            refine sq (f_move rfl (lt rfl)) rfl rfl ?_
            refine sq_yes (f_move rfl (lt rfl)) rfl rfl rfl rfl (lt rfl) ?_
            refine sq_yes (f_move rfl (lt rfl)) rfl rfl rfl rfl (lt rfl) ?_
            refine sq_yes (f_binW rfl rfl (fun w => eql4 _ _ _ _ w) (lt rfl)) rfl rfl rfl rfl (lt rfl) ?_
            refine sq (f_pick rfl rfl (lt rfl)) rfl rfl ?_
            refine sq (f_move rfl (lt rfl)) rfl rfl ?_
            refine sq_yes (f_move rfl (lt rfl)) rfl rfl rfl rfl (lt rfl) ?_
            refine sq_yes (f_load kd27 rfl rfl (lt rfl)) rfl rfl rfl rfl (lt rfl) ?_
            refine sq_yes (f_load kd27 rfl rfl (lt rfl)) rfl rfl rfl rfl (lt rfl) ?_
            refine sq_yes (f_eqB rfl rfl (eqF (by omega)) (lt rfl)) rfl rfl rfl rfl (lt rfl) ?_
            refine sq_yes (f_binW rfl rfl (fun w => neq4 _ _ _ _ w) (lt rfl)) rfl rfl rfl rfl (lt rfl) ?_
            refine sq (f_pick rfl rfl (lt rfl)) rfl rfl ?_
            refine hits_nil ?_
            refine to_next ?_
            refine hits_cond rfl (fun c4 => ?_) (fun c4 => ?_)
            case refine_1 => exact absurd c4 Bool.false_ne_true
            case refine_2 =>
              refine hits_skip ?_
              refine to_next ?_
              refine hits_seq ?_
              by_cases z2 : hiOf a = hiOf b
              · refine hits_region ?_
                refine sq (f_fieldAddr rfl kf27_1 rfl (lt rfl)) rfl rfl ?_
                refine sq (f_load kd22 rfl rfl (lt rfl)) rfl rfl ?_
                refine sq (f_fieldAddr rfl kf27_1 rfl (lt rfl)) rfl rfl ?_
                refine sq (f_load kd22 rfl rfl (lt rfl)) rfl rfl ?_
                refine sq (f_bin rfl rfl (bT (decide_eq_false z1)) (lt rfl)) rfl rfl ?_
                refine sq (f_move rfl (lt rfl)) rfl rfl ?_
                refine sq_yes (f_fieldAddr rfl kf27_1 rfl (lt rfl)) rfl rfl rfl rfl (lt rfl) ?_
                refine sq_yes (f_load kd22 rfl rfl (lt rfl)) rfl rfl rfl rfl (lt rfl) ?_
                refine sq_yes (f_fieldAddr rfl kf27_1 rfl (lt rfl)) rfl rfl rfl rfl (lt rfl) ?_
                refine sq_yes (f_load kd22 rfl rfl (lt rfl)) rfl rfl rfl rfl (lt rfl) ?_
                refine sq_yes (f_bin rfl rfl (bT (beq_iff_eq.mpr z2)) (lt rfl)) rfl rfl rfl rfl (lt rfl) ?_
                refine sq_yes (f_move rfl (lt rfl)) rfl rfl rfl rfl (lt rfl) ?_
                refine sq_yes (f_fieldAddr rfl kf27_2 rfl (lt rfl)) rfl rfl rfl rfl (lt rfl) ?_
                refine sq_yes (f_load kd22 rfl rfl (lt rfl)) rfl rfl rfl rfl (lt rfl) ?_
                refine sq_yes (f_fieldAddr rfl kf27_2 rfl (lt rfl)) rfl rfl rfl rfl (lt rfl) ?_
                refine sq_yes (f_load kd22 rfl rfl (lt rfl)) rfl rfl rfl rfl (lt rfl) ?_
                refine sq_yes (f_bin rfl rfl (bT (decide_eq_false (fun c => absurd ((hi.2.1 z2).mp c) (by omega)))) (lt rfl)) rfl rfl rfl rfl (lt rfl) ?_
                refine sq_yes (f_pick rfl rfl (lt rfl)) rfl rfl rfl rfl (lt rfl) ?_
                refine sq (f_pick rfl rfl (lt rfl)) rfl rfl ?_
                refine sq (f_assign rfl (lt rfl)) rfl rfl ?_
                refine hits_nil ?_
                refine to_next ?_
                refine hits_seq ?_
                refine hits_drawn mixed ?_
                refine dq (f_move rfl (lt rfl)) rfl rfl ?_
                refine dq (f_move rfl (lt rfl)) rfl rfl ?_
                refine dq (f_binW rfl rfl (fun w => eql4 _ _ _ _ w) (lt rfl)) rfl rfl ?_
                refine dq (f_move rfl (lt rfl)) rfl rfl ?_
                refine dq_yes (f_move rfl (lt rfl)) rfl rfl rfl rfl (lt rfl) ?_
                refine dq_yes (f_un rfl rfl (lt rfl)) rfl rfl rfl rfl (lt rfl) ?_
                refine dq_yes (f_move rfl (lt rfl)) rfl rfl rfl rfl (lt rfl) ?_
                refine dq_no rfl rfl rfl rfl rfl (lt rfl) (lt rfl) ?_
                refine dq_no rfl rfl rfl rfl rfl (lt rfl) (lt rfl) ?_
                refine dq_no rfl rfl rfl rfl rfl (lt rfl) (lt rfl) ?_
                refine dq_no rfl rfl rfl rfl rfl (lt rfl) (lt rfl) ?_
                refine dq_no rfl rfl rfl rfl rfl (lt rfl) (lt rfl) ?_
                refine dq_yes (f_pick rfl rfl (lt rfl)) rfl rfl rfl rfl (lt rfl) ?_
                refine dq_yes (f_move rfl (lt rfl)) rfl rfl rfl rfl (lt rfl) ?_
                refine dq_no rfl rfl rfl rfl rfl (lt rfl) (lt rfl) ?_
                refine dq_no rfl rfl rfl rfl rfl (lt rfl) (lt rfl) ?_
                refine dq_no rfl rfl rfl rfl rfl (lt rfl) (lt rfl) ?_
                refine dq_no rfl rfl rfl rfl rfl (lt rfl) (lt rfl) ?_
                refine dq_no rfl rfl rfl rfl rfl (lt rfl) (lt rfl) ?_
                refine dq_yes (f_pick rfl rfl (lt rfl)) rfl rfl rfl rfl (lt rfl) ?_
                refine dq (f_pick rfl rfl (lt rfl)) rfl rfl ?_
                refine dq (f_assign rfl (lt rfl)) rfl rfl ?_
                refine dq_nil rfl ?_
                refine to_next ?_
                refine hits_ret ?_
                exact hits_done (.inl rfl) rfl rfl rfl
              · refine hits_region ?_
                refine sq (f_fieldAddr rfl kf27_1 rfl (lt rfl)) rfl rfl ?_
                refine sq (f_load kd22 rfl rfl (lt rfl)) rfl rfl ?_
                refine sq (f_fieldAddr rfl kf27_1 rfl (lt rfl)) rfl rfl ?_
                refine sq (f_load kd22 rfl rfl (lt rfl)) rfl rfl ?_
                refine sq (f_bin rfl rfl (bT (decide_eq_false z1)) (lt rfl)) rfl rfl ?_
                refine sq (f_move rfl (lt rfl)) rfl rfl ?_
                refine sq_yes (f_fieldAddr rfl kf27_1 rfl (lt rfl)) rfl rfl rfl rfl (lt rfl) ?_
                refine sq_yes (f_load kd22 rfl rfl (lt rfl)) rfl rfl rfl rfl (lt rfl) ?_
                refine sq_yes (f_fieldAddr rfl kf27_1 rfl (lt rfl)) rfl rfl rfl rfl (lt rfl) ?_
                refine sq_yes (f_load kd22 rfl rfl (lt rfl)) rfl rfl rfl rfl (lt rfl) ?_
                refine sq_yes (f_bin rfl rfl (bT (beq_eq_false_iff_ne.mpr z2)) (lt rfl)) rfl rfl rfl rfl (lt rfl) ?_
                refine sq_yes (f_move rfl (lt rfl)) rfl rfl rfl rfl (lt rfl) ?_
                refine sq_no rfl rfl rfl rfl rfl (lt rfl) (lt rfl) ?_
                refine sq_no rfl rfl rfl rfl rfl (lt rfl) (lt rfl) ?_
                refine sq_no rfl rfl rfl rfl rfl (lt rfl) (lt rfl) ?_
                refine sq_no rfl rfl rfl rfl rfl (lt rfl) (lt rfl) ?_
                refine sq_no rfl rfl rfl rfl rfl (lt rfl) (lt rfl) ?_
                refine sq_yes (f_pick rfl rfl (lt rfl)) rfl rfl rfl rfl (lt rfl) ?_
                refine sq (f_pick rfl rfl (lt rfl)) rfl rfl ?_
                refine sq (f_assign rfl (lt rfl)) rfl rfl ?_
                refine hits_nil ?_
                refine to_next ?_
                refine hits_seq ?_
                refine hits_drawn mixed ?_
                refine dq (f_move rfl (lt rfl)) rfl rfl ?_
                refine dq (f_move rfl (lt rfl)) rfl rfl ?_
                refine dq (f_binW rfl rfl (fun w => eql4 _ _ _ _ w) (lt rfl)) rfl rfl ?_
                refine dq (f_move rfl (lt rfl)) rfl rfl ?_
                refine dq_yes (f_move rfl (lt rfl)) rfl rfl rfl rfl (lt rfl) ?_
                refine dq_yes (f_un rfl rfl (lt rfl)) rfl rfl rfl rfl (lt rfl) ?_
                refine dq_yes (f_move rfl (lt rfl)) rfl rfl rfl rfl (lt rfl) ?_
                refine dq_no rfl rfl rfl rfl rfl (lt rfl) (lt rfl) ?_
                refine dq_no rfl rfl rfl rfl rfl (lt rfl) (lt rfl) ?_
                refine dq_no rfl rfl rfl rfl rfl (lt rfl) (lt rfl) ?_
                refine dq_no rfl rfl rfl rfl rfl (lt rfl) (lt rfl) ?_
                refine dq_no rfl rfl rfl rfl rfl (lt rfl) (lt rfl) ?_
                refine dq_yes (f_pick rfl rfl (lt rfl)) rfl rfl rfl rfl (lt rfl) ?_
                refine dq_yes (f_move rfl (lt rfl)) rfl rfl rfl rfl (lt rfl) ?_
                refine dq_no rfl rfl rfl rfl rfl (lt rfl) (lt rfl) ?_
                refine dq_no rfl rfl rfl rfl rfl (lt rfl) (lt rfl) ?_
                refine dq_no rfl rfl rfl rfl rfl (lt rfl) (lt rfl) ?_
                refine dq_no rfl rfl rfl rfl rfl (lt rfl) (lt rfl) ?_
                refine dq_no rfl rfl rfl rfl rfl (lt rfl) (lt rfl) ?_
                refine dq_yes (f_pick rfl rfl (lt rfl)) rfl rfl rfl rfl (lt rfl) ?_
                refine dq (f_pick rfl rfl (lt rfl)) rfl rfl ?_
                refine dq (f_assign rfl (lt rfl)) rfl rfl ?_
                refine dq_nil rfl ?_
                refine to_next ?_
                refine hits_ret ?_
                exact hits_done (.inl rfl) rfl rfl rfl

set_option maxRecDepth 100000 in
theorem orders_no {n : Int} {x y z : Nat} (h : ¬ (1 ≤ n ∧ n ≤ 128)) : CallsP Tryd.prog Tabs 6 [threeD n x y z] (.sc (.bool true)) := by
  refine callsP_of gs_tabs Tryd.func6 rfl Tryd.ntmps6 rfl fun w0 S0 stab => ?_
  refine hits_seq ?_
  refine hits_region ?_
  refine sq (f_box rfl rfl (lt rfl)) rfl rfl ?_
  refine sq (f_assign rfl (lt rfl)) rfl rfl ?_
  refine hits_nil ?_
  refine to_next ?_
  refine hits_seq ?_
  refine hits_region ?_
  refine sq (f_load kd25 rfl rfl (lt rfl)) rfl rfl ?_
  refine sq (f_call en9 rfl (numbers_not h) (lt rfl)) rfl rfl ?_
  refine sq (f_move rfl (lt rfl)) rfl rfl ?_
  refine sq (f_extract rfl rfl (lt rfl)) rfl rfl ?_
  refine sq (f_extract rfl rfl (lt rfl)) rfl rfl ?_
  refine sq (f_extract rfl rfl (lt rfl)) rfl rfl ?_
  refine sq (f_extract rfl rfl (lt rfl)) rfl rfl ?_
  refine sq (f_alloc zc27 (lt rfl)) rfl rfl ?_
  refine sq (f_alloc zc27 (lt rfl)) rfl rfl ?_
  refine sq (f_alloc zc27 (lt rfl)) rfl rfl ?_
  refine sq (f_store kd27 rfl rfl rfl rfl rfl) rfl rfl ?_
  refine sq (f_store kd27 rfl rfl rfl rfl rfl) rfl rfl ?_
  refine sq (f_store kd27 rfl rfl rfl rfl rfl) rfl rfl ?_
  refine sq (f_assign rfl (lt rfl)) rfl rfl ?_
  refine hits_nil ?_
  refine to_next ?_
  refine hits_seq ?_
  refine hits_seq ?_
  refine hits_region ?_
  refine sq (f_call en10 rfl alive_c (lt rfl)) rfl rfl ?_
  refine sq (f_un rfl rfl (lt rfl)) rfl rfl ?_
  refine sq (f_move rfl (lt rfl)) rfl rfl ?_
  refine sq_yes (f_move rfl (lt rfl)) rfl rfl rfl rfl (lt rfl) ?_
  refine sq_yes (f_un rfl rfl (lt rfl)) rfl rfl rfl rfl (lt rfl) ?_
  refine sq (f_pick rfl rfl (lt rfl)) rfl rfl ?_
  refine hits_nil ?_
  refine to_next ?_
  refine hits_cond rfl (fun c0 => ?_) (fun c0 => ?_)
  case refine_2 => exact absurd c0 Bool.false_ne_true.symm
  case refine_1 =>
    refine hits_seq ?_
    refine hits_region ?_
    refine sq (f_call en10 rfl alive_c (lt rfl)) rfl rfl ?_
    refine sq (f_assign rfl (lt rfl)) rfl rfl ?_
    refine hits_nil ?_
    refine to_next ?_
    refine hits_ret ?_
    refine to_ret ?_
    exact hits_done (.inl rfl) rfl rfl rfl

end Go.Proofs.YthhlnghpbjmfpaaDoor.AbBits
namespace Go.Proofs.YthhlnghpbjmfpaaDoor.PAb
open Go Go.RowKit Go.Ab Go.Proofs.YthhlnghpbjmfpaaDoor.Press
def pointsmanlaw01_BitsOrders.f (a0_0 a0_1 a0_2 a0_3 a0_4 a0_5 a0_6 : Int) : Option Bool := if (Lit.int .i64 a0_0).wf = true ∧ (Lit.int .u64 a0_1).wf = true ∧ (Lit.int .u64 a0_2).wf = true ∧ (Lit.int .u64 a0_3).wf = true ∧ (Lit.int .u64 a0_4).wf = true ∧ (Lit.int .u64 a0_5).wf = true ∧ (Lit.int .u64 a0_6).wf = true then some true else none
theorem pointsmanlaw01_BitsOrders.calls (a0_0 : Int) (a0_1 : Int) (a0_2 : Int) (a0_3 : Int) (a0_4 : Int) (a0_5 : Int) (a0_6 : Int) (r : Bool) (w : World) (hT : Tabs w) (h : pointsmanlaw01_BitsOrders.f a0_0 a0_1 a0_2 a0_3 a0_4 a0_5 a0_6 = some r) : Calls Tryd.prog 6 #[.agg #[.int .i64 a0_0, .int .u64 a0_1, .int .u64 a0_2, .int .u64 a0_3, .int .u64 a0_4, .int .u64 a0_5, .int .u64 a0_6]] w fun e w' => e = .returned (.bool r) ∧ Below w.heap.size w w' := by
  unfold pointsmanlaw01_BitsOrders.f at h
  split at h
  · rename_i c
    obtain rfl := Option.some.inj h
    obtain ⟨g0, g1, g2, g3, g4, g5, g6⟩ := c
    obtain ⟨x, hx, rfl, rfl⟩ := BitsMath.two_words g1 g2
    obtain ⟨y, hy, rfl, rfl⟩ := BitsMath.two_words g3 g4
    obtain ⟨z, hz, rfl, rfl⟩ := BitsMath.two_words g5 g6
    by_cases hw : 1 ≤ a0_0 ∧ a0_0 ≤ 128
    · obtain ⟨n, rfl⟩ := Int.eq_ofNat_of_zero_le (show 0 ≤ a0_0 by omega)
      exact (AbBits.orders_ok (n := n) (by omega) (by omega) hx hy hz).calls rfl rfl w hT
    · exact (AbBits.orders_no (x := x) (y := y) (z := z) hw).calls rfl rfl w hT
  · cases h
end Go.Proofs.YthhlnghpbjmfpaaDoor.PAb
namespace Go.Proofs.YthhlnghpbjmfpaaDoor.Pure
theorem BitsOrders (a0_0 a0_1 a0_2 a0_3 a0_4 a0_5 a0_6 : Int) (g0 : (Lit.int .i64 a0_0).wf = true) (g1 : (Lit.int .u64 a0_1).wf = true) (g2 : (Lit.int .u64 a0_2).wf = true) (g3 : (Lit.int .u64 a0_3).wf = true) (g4 : (Lit.int .u64 a0_4).wf = true) (g5 : (Lit.int .u64 a0_5).wf = true) (g6 : (Lit.int .u64 a0_6).wf = true) : PAb.pointsmanlaw01_BitsOrders.f a0_0 a0_1 a0_2 a0_3 a0_4 a0_5 a0_6 = some true := if_pos ⟨g0, g1, g2, g3, g4, g5, g6⟩
end Go.Proofs.YthhlnghpbjmfpaaDoor.Pure
