/- The law BitsMoves: its walk over data, and the law as a row asks it. -/
import Derived.Test.YthhlnghpbjmfpaaDoorAbMore
namespace Go.Proofs.YthhlnghpbjmfpaaDoor.AbBits
open Go Go.RowKit Go.Ab Go.Proofs.YthhlnghpbjmfpaaDoor Go.Proofs.YthhlnghpbjmfpaaDoor.PTryd Go.Proofs.YthhlnghpbjmfpaaDoor.PTrydFns Go.Proofs.YthhlnghpbjmfpaaDoor.BitsMath Go.Proofs.YthhlnghpbjmfpaaDoor.Press
set_option linter.unusedVariables false
set_option linter.unusedSimpArgs false
theorem en10 : enters Tryd.prog 10 = true := by kernel_rfl
theorem en9 : enters Tryd.prog 9 = true := by kernel_rfl
theorem kf25_0 : kf Tryd.prog 25 0 = some 0 := by kernel_rfl
theorem kd25 : kd Tryd.prog 25 = some (true, 7) := by kernel_rfl
theorem un22 : Tryd.prog.underlying 22 = some (.int .u64) := by kernel_rfl
theorem en13 : enters Tryd.prog 13 = true := by kernel_rfl
theorem kf36_0 : kf Tryd.prog 36 0 = some 0 := by kernel_rfl
theorem kf36_2 : kf Tryd.prog 36 2 = some 3 := by kernel_rfl
theorem kf36_1 : kf Tryd.prog 36 1 = some 1 := by kernel_rfl
theorem un23 : Tryd.prog.underlying 23 = some (.array 2 22) := by kernel_rfl
theorem us5 : (Tryd.prog.underlying 5).isSome = true := by kernel_rfl
theorem un3 : Tryd.prog.underlying 3 = some (.int .i64) := by kernel_rfl
set_option maxRecDepth 100000 in
theorem moves_ok {n x s : Nat} (h0 : 1 ≤ n) (h : n ≤ 128) (hx : x < 2 ^ 128) (hs : s < 2 ^ 8) : CallsP Tryd.prog Tabs 5 [.sc (.int .i64 (n : Int)), .agg [.sc (.int .u64 (hiOf x)), .sc (.int .u64 (loOf x))], .sc (.int .u8 (s : Int))] (.sc (.bool true)) := by
  have hp := Nat.two_pow_pos n
  have hof := of_is n h0 h hx
  have ha : x % 2 ^ n < 2 ^ n := Nat.mod_lt _ hp
  generalize x % 2 ^ n = a at *
  have hw := wpred h0 h
  have hcu : IntKind.u64.wrap (s : Int) = s := by rw [wrap_u64]; omega
  have hci : IntKind.i64.wrap (s : Int) = s := IntWalk.i64_in _ (by omega)
  have hshl := do_shl h0 h ha (wb := 8) (vb := s) (by decide) (by decide) hs
  have hshr := do_shr h0 h ha (wb := 8) (vb := s) (by decide) (by decide) hs
  refine callsP_of gs_tabs Tryd.func5 rfl Tryd.ntmps5 rfl fun w0 S0 stab => ?_
  refine hits_seq ?_
  refine hits_region ?_
  refine sq (f_box rfl rfl (lt rfl)) rfl rfl ?_
  refine sq (f_assign rfl (lt rfl)) rfl rfl ?_
  refine hits_nil ?_
  refine to_next ?_
  refine hits_seq ?_
  refine hits_region ?_
  refine sq (f_move rfl (lt rfl)) rfl rfl ?_
  refine sq (f_idxArr rfl rfl un23 kd22 rfl (lt rfl)) rfl rfl ?_
  refine sq (f_load kd22 rfl rfl (lt rfl)) rfl rfl ?_
  refine sq (f_idxArr rfl rfl un23 kd22 rfl (lt rfl)) rfl rfl ?_
  refine sq (f_load kd22 rfl rfl (lt rfl)) rfl rfl ?_
  refine sq (f_call en13 rfl (of_c (hof)) (lt rfl)) rfl rfl ?_
  refine sq (f_move rfl (lt rfl)) rfl rfl ?_
  refine sq (f_extract rfl rfl (lt rfl)) rfl rfl ?_
  refine sq (f_extract rfl rfl (lt rfl)) rfl rfl ?_
  refine sq (f_alloc zc27 (lt rfl)) rfl rfl ?_
  refine sq (f_store kd27 rfl rfl rfl rfl rfl) rfl rfl ?_
  refine sq (f_assign rfl (lt rfl)) rfl rfl ?_
  refine hits_nil ?_
  refine to_next ?_
  refine hits_seq ?_
  refine hits_seq ?_
  refine hits_region ?_
  refine sq (f_call en10 rfl alive_c (lt rfl)) rfl rfl ?_
  refine sq (f_un rfl rfl (lt rfl)) rfl rfl ?_
  refine sq (f_move rfl (lt rfl)) rfl rfl ?_
  refine sq_yes (f_move rfl (lt rfl)) rfl rfl rfl rfl (lt rfl) ?_
  refine sq_yes (f_bin rfl rfl (bT (b' := false) rfl) (lt rfl)) rfl rfl rfl rfl (lt rfl) ?_
  refine sq (f_pick rfl rfl (lt rfl)) rfl rfl ?_
  refine hits_nil ?_
  refine to_next ?_
  refine hits_cond rfl (fun c0 => ?_) (fun c0 => ?_)
  case refine_1 => exact absurd c0 Bool.false_ne_true
  case refine_2 =>
    refine hits_skip ?_
    refine to_next ?_
    refine hits_seq ?_
    refine hits_region ?_
    refine sq (f_move rfl (lt rfl)) rfl rfl ?_
    refine sq (f_convI rfl us5 un22 hcu (lt rfl)) rfl rfl ?_
    refine sq (f_call en12 rfl (num_b 8 s (by omega)) (lt rfl)) rfl rfl ?_
    refine sq (f_alloc zc27 (lt rfl)) rfl rfl ?_
    refine sq (f_store kd27 rfl rfl rfl rfl rfl) rfl rfl ?_
    refine hits_nil ?_
    refine to_next ?_
    refine hits_seq ?_
    by_cases hc : n ≤ s
    · have e1 : a * 2 ^ min s 128 % 2 ^ n = 0 := by
        rw [show min s 128 = n + (min s 128 - n) from by omega, Nat.pow_add, Nat.mul_left_comm, Nat.mul_mod_right]
      have e2 : a / 2 ^ min s 128 = 0 := Nat.div_eq_of_lt (Nat.lt_of_lt_of_le ha (Nat.pow_le_pow_right (by decide) (by omega)))
      rw [e1] at hshl
      rw [e2] at hshr
      refine hits_region ?_
      refine sq (f_load kd27 rfl rfl (lt rfl)) rfl rfl ?_
      refine sq (f_load kd27 rfl rfl (lt rfl)) rfl rfl ?_
      refine sq (f_call en11 rfl (do_c (hshl)) (lt rfl)) rfl rfl ?_
      refine sq (f_alloc zc27 (lt rfl)) rfl rfl ?_
      refine sq (f_store kd27 rfl rfl rfl rfl rfl) rfl rfl ?_
      refine hits_nil ?_
      refine to_next ?_
      refine hits_seq ?_
      refine hits_region ?_
      refine sq (f_load kd27 rfl rfl (lt rfl)) rfl rfl ?_
      refine sq (f_load kd27 rfl rfl (lt rfl)) rfl rfl ?_
      refine sq (f_call en11 rfl (do_c (hshr)) (lt rfl)) rfl rfl ?_
      refine sq (f_alloc zc27 (lt rfl)) rfl rfl ?_
      refine sq (f_store kd27 rfl rfl rfl rfl rfl) rfl rfl ?_
      refine hits_nil ?_
      refine to_next ?_
      refine hits_seq ?_
      refine hits_region ?_
      refine sq (f_move rfl (lt rfl)) rfl rfl ?_
      refine sq (f_convI rfl us5 un3 hci (lt rfl)) rfl rfl ?_
      refine sq (f_assign rfl (lt rfl)) rfl rfl ?_
      refine hits_nil ?_
      refine to_next ?_
      refine hits_seq ?_
      refine hits_seq ?_
      refine hits_region ?_
      refine sq (f_move rfl (lt rfl)) rfl rfl ?_
      refine sq (f_move rfl (lt rfl)) rfl rfl ?_
      refine sq (f_bin rfl rfl (bT (decide_eq_true (by omega))) (lt rfl)) rfl rfl ?_
      refine hits_nil ?_
      refine to_next ?_
      refine hits_cond rfl (fun c1 => ?_) (fun c1 => ?_)
      case refine_2 => exact absurd c1 Bool.false_ne_true.symm
      case refine_1 =>
        refine hits_seq ?_
        refine hits_drawn mixed ?_
        refine dq (f_load kd27 rfl rfl (lt rfl)) rfl rfl ?_
        refine dq (f_move rfl (lt rfl)) rfl rfl ?_
        refine dq (f_call en12 rfl (num_b n 0 (by decide)) (lt rfl)) rfl rfl ?_
        refine dq (f_eqB rfl rfl (eqT rfl) (lt rfl)) rfl rfl ?_
        refine dq (f_move rfl (lt rfl)) rfl rfl ?_
        refine dq_yes (f_load kd27 rfl rfl (lt rfl)) rfl rfl rfl rfl (lt rfl) ?_
        refine dq_yes (f_move rfl (lt rfl)) rfl rfl rfl rfl (lt rfl) ?_
        refine dq_yes (f_call en12 rfl (num_b n 0 (by decide)) (lt rfl)) rfl rfl rfl rfl (lt rfl) ?_
        refine dq_yes (f_eqB rfl rfl (eqT rfl) (lt rfl)) rfl rfl rfl rfl (lt rfl) ?_
        refine dq (f_pick rfl rfl (lt rfl)) rfl rfl ?_
        refine dq (f_assign rfl (lt rfl)) rfl rfl ?_
        refine dq_nil rfl ?_
        refine to_next ?_
        refine hits_ret ?_
        refine to_ret ?_
        exact hits_done (.inl rfl) rfl rfl rfl
    · rw [show min s 128 = s from by omega] at hshl hshr
      refine hits_region ?_
      refine sq (f_load kd27 rfl rfl (lt rfl)) rfl rfl ?_
      refine sq (f_load kd27 rfl rfl (lt rfl)) rfl rfl ?_
      refine sq (f_call en11 rfl (do_c (hshl)) (lt rfl)) rfl rfl ?_
      refine sq (f_alloc zc27 (lt rfl)) rfl rfl ?_
      refine sq (f_store kd27 rfl rfl rfl rfl rfl) rfl rfl ?_
      refine hits_nil ?_
      refine to_next ?_
      refine hits_seq ?_
      refine hits_region ?_
      refine sq (f_load kd27 rfl rfl (lt rfl)) rfl rfl ?_
      refine sq (f_load kd27 rfl rfl (lt rfl)) rfl rfl ?_
      refine sq (f_call en11 rfl (do_c (hshr)) (lt rfl)) rfl rfl ?_
      refine sq (f_alloc zc27 (lt rfl)) rfl rfl ?_
      refine sq (f_store kd27 rfl rfl rfl rfl rfl) rfl rfl ?_
      refine hits_nil ?_
      refine to_next ?_
      refine hits_seq ?_
      refine hits_region ?_
      refine sq (f_move rfl (lt rfl)) rfl rfl ?_
      refine sq (f_convI rfl us5 un3 hci (lt rfl)) rfl rfl ?_
      refine sq (f_assign rfl (lt rfl)) rfl rfl ?_
      refine hits_nil ?_
      refine to_next ?_
      refine hits_seq ?_
      refine hits_seq ?_
      refine hits_region ?_
      refine sq (f_move rfl (lt rfl)) rfl rfl ?_
      refine sq (f_move rfl (lt rfl)) rfl rfl ?_
      refine sq (f_bin rfl rfl (bT (decide_eq_false (by omega))) (lt rfl)) rfl rfl ?_
      refine hits_nil ?_
      refine to_next ?_
      refine hits_cond rfl (fun c1 => ?_) (fun c1 => ?_)
      case refine_1 => exact absurd c1 Bool.false_ne_true
      case refine_2 =>
        refine hits_skip ?_
        refine to_next ?_
        refine hits_seq ?_
        refine hits_region ?_
        refine sq (f_move rfl (lt rfl)) rfl rfl ?_
        refine sq (f_call en12 rfl (num_b n 1 (by decide)) (lt rfl)) rfl rfl ?_
        refine sq (f_alloc zc27 (lt rfl)) rfl rfl ?_
        refine sq (f_store kd27 rfl rfl rfl rfl rfl) rfl rfl ?_
        refine hits_nil ?_
        refine to_next ?_
        refine hits_seq ?_
        refine hits_seq ?_
        refine hits_region ?_
        refine sq (f_assign rfl (lt rfl)) rfl rfl ?_
        refine hits_nil ?_
        refine to_next ?_
        refine hits_block ?_
        refine hits_loop (fun i : Nat => [(.slot 0, some (.d (.sc (.int .i64 (n : Int))))), (.slot 12, some (.d (.sc (.int .i64 (s : Int))))), (.slot 14, some (.d (.sc (.int .i64 (i : Int))))), (.slot 7, some (.ptr 7 0)), (.cell 7 0, some (.d (.sc (.int .i64 (n : Int))))), (.cell 7 1, some (.d (.sc (.int .u64 (hiOf (a)))))), (.cell 7 2, some (.d (.sc (.int .u64 (loOf (a)))))), (.box 7, some (.ptr 7 0)), (.slot 10, some (.ptr 10 0)), (.cell 10 0, some (.d (.sc (.int .i64 (n : Int))))), (.cell 10 1, some (.d (.sc (.int .u64 (hiOf (a * 2 ^ s % 2 ^ n)))))), (.cell 10 2, some (.d (.sc (.int .u64 (loOf (a * 2 ^ s % 2 ^ n)))))), (.box 10, some (.ptr 10 0)), (.slot 11, some (.ptr 11 0)), (.cell 11 0, some (.d (.sc (.int .i64 (n : Int))))), (.cell 11 1, some (.d (.sc (.int .u64 (hiOf (a / 2 ^ s)))))), (.cell 11 2, some (.d (.sc (.int .u64 (loOf (a / 2 ^ s)))))), (.box 11, some (.ptr 11 0)), (.slot 13, some (.ptr 13 0)), (.cell 13 0, some (.d (.sc (.int .i64 (n : Int))))), (.cell 13 1, some (.d (.sc (.int .u64 (hiOf (2 ^ i)))))), (.cell 13 2, some (.d (.sc (.int .u64 (loOf (2 ^ i)))))), (.box 13, some (.ptr 13 0))]) (fun i : Nat => i ≤ s) (fun i : Nat => s - i) 0 (Nat.zero_le _) ⟨rfl, rfl, rfl, rfl, rfl, rfl, rfl, rfl, rfl, rfl, rfl, rfl, rfl, rfl, rfl, rfl, rfl, rfl, rfl, rfl, rfl, rfl, rfl, trivial⟩ rfl ?_
        intro i hi
        refine hits_seq ?_
        refine hits_seq ?_
        refine hits_region ?_
        refine sq (f_move rfl (lt rfl)) rfl rfl ?_
        refine sq (f_move rfl (lt rfl)) rfl rfl ?_
        refine sq (f_bin rfl rfl rfl (lt rfl)) rfl rfl ?_
        refine hits_nil ?_
        refine to_next ?_
        refine hits_cond rfl (fun c2 => ?_) (fun c2 => ?_)
        · refine hits_skip ?_
          refine to_next ?_
          refine hits_seq ?_
          refine hits_block ?_
          have hlt : i < s := by simpa using c2
          have hpow : 2 ^ i < 2 ^ n := Nat.pow_lt_pow_right (by decide) (by omega)
          have hpow2 : 2 ^ (i + 1) < 2 ^ n := Nat.pow_lt_pow_right (by decide) (by omega)
          have hadd := do_add h0 h hpow hpow
          rw [show 2 ^ i + 2 ^ i = 2 ^ (i + 1) from by rw [Nat.pow_succ]; omega, Nat.mod_eq_of_lt hpow2] at hadd
          refine hits_region ?_
          refine sq (f_load kd27 rfl rfl (lt rfl)) rfl rfl ?_
          refine sq (f_load kd27 rfl rfl (lt rfl)) rfl rfl ?_
          refine sq (f_call en11 rfl (do_c (hadd)) (lt rfl)) rfl rfl ?_
          refine sq (f_store kd27 rfl rfl rfl rfl rfl) rfl rfl ?_
          refine hits_nil ?_
          refine in_next ?_
          refine to_next ?_
          refine hits_region ?_
          refine sq (f_move rfl (lt rfl)) rfl rfl ?_
          refine sq (f_bin rfl rfl (iT (wrap_succ (by omega))) (lt rfl)) rfl rfl ?_
          refine sq (f_assign rfl (lt rfl)) rfl rfl ?_
          refine hits_nil ?_
          refine to_next ?_
          exact round_end (i + 1) (by omega) (by omega) ⟨rfl, rfl, rfl, rfl, rfl, rfl, rfl, rfl, rfl, rfl, rfl, rfl, rfl, rfl, rfl, rfl, rfl, rfl, rfl, rfl, rfl, rfl, rfl, trivial⟩ rfl
        · refine hits_exit ?_
          refine to_exit ?_
          refine to_exit ?_
          refine in_hit rfl ?_
          refine to_next ?_
          refine hits_seq ?_
          obtain rfl : i = s := by have := of_decide_eq_false c2; omega
          have hlt : a / 2 ^ i < 2 ^ (n - i) := by
            rw [Nat.div_lt_iff_lt_mul (Nat.two_pow_pos i), ← Nat.pow_add, show n - i + i = n from by omega]; exact ha
          have hlt2 : a / 2 ^ i < 2 ^ n := Nat.lt_of_le_of_lt (Nat.div_le_self _ _) ha
          have hpow : 2 ^ i < 2 ^ n := Nat.pow_lt_pow_right (by decide) (by omega)
          have hcut := cut_to h0 h ha (n - 1) i (by omega) (by omega)
          rw [show n - 1 - i + 1 = n - i from by omega, Nat.mod_eq_of_lt hlt] at hcut
          have hcast := cast_to (by omega) (by omega) hlt n h0 h 0 0 0 0
          rw [Nat.mod_eq_of_lt hlt2] at hcast
          refine hits_region ?_
          refine sq (f_load kd27 rfl rfl (lt rfl)) rfl rfl ?_
          refine sq (f_move rfl (lt rfl)) rfl rfl ?_
          refine sq (f_bin rfl rfl (iT (hw)) (lt rfl)) rfl rfl ?_
          refine sq (f_move rfl (lt rfl)) rfl rfl ?_
          refine sq (f_call en14 rfl (lcut_c (hcut)) (lt rfl)) rfl rfl ?_
          refine sq (f_build bu27 rfl rfl (lt rfl)) rfl rfl ?_
          refine sq (f_move rfl (lt rfl)) rfl rfl ?_
          refine sq (f_call en16 rfl (Do_c hcast) (lt rfl)) rfl rfl ?_
          refine sq (f_move rfl (lt rfl)) rfl rfl ?_
          refine sq (f_extract rfl rfl (lt rfl)) rfl rfl ?_
          refine sq (f_extract rfl rfl (lt rfl)) rfl rfl ?_
          refine sq (f_alloc zc27 (lt rfl)) rfl rfl ?_
          refine sq (f_store kd27 rfl rfl rfl rfl rfl) rfl rfl ?_
          refine sq (f_assign rfl (lt rfl)) rfl rfl ?_
          refine hits_nil ?_
          refine to_next ?_
          refine hits_seq ?_
          refine hits_drawn mixed ?_
          refine dq (f_load kd27 rfl rfl (lt rfl)) rfl rfl ?_
          refine dq (f_load kd27 rfl rfl (lt rfl)) rfl rfl ?_
          refine dq (f_load kd27 rfl rfl (lt rfl)) rfl rfl ?_
          refine dq (f_call en11 rfl (do_c (do_mul h0 h ha hpow)) (lt rfl)) rfl rfl ?_
          refine dq (f_eqB rfl rfl (eqT rfl) (lt rfl)) rfl rfl ?_
          refine dq (f_move rfl (lt rfl)) rfl rfl ?_
          refine dq_yes (f_move rfl (lt rfl)) rfl rfl rfl rfl (lt rfl) ?_
          refine dq_yes (f_bin rfl rfl (bT (b' := true) rfl) (lt rfl)) rfl rfl rfl rfl (lt rfl) ?_
          refine dq (f_pick rfl rfl (lt rfl)) rfl rfl ?_
          refine dq (f_move rfl (lt rfl)) rfl rfl ?_
          refine dq_yes (f_load kd27 rfl rfl (lt rfl)) rfl rfl rfl rfl (lt rfl) ?_
          refine dq_yes (f_load kd27 rfl rfl (lt rfl)) rfl rfl rfl rfl (lt rfl) ?_
          refine dq_yes (f_eqB rfl rfl (eqT rfl) (lt rfl)) rfl rfl rfl rfl (lt rfl) ?_
          refine dq (f_pick rfl rfl (lt rfl)) rfl rfl ?_
          refine dq (f_assign rfl (lt rfl)) rfl rfl ?_
          refine dq_nil rfl ?_
          refine to_next ?_
          refine hits_ret ?_
          exact hits_done (.inl rfl) rfl rfl rfl

set_option maxRecDepth 100000 in
theorem moves_no {n s : Int} {x : Nat} (h : ¬ (1 ≤ n ∧ n ≤ 128)) : CallsP Tryd.prog Tabs 5 [.sc (.int .i64 n), .agg [.sc (.int .u64 (hiOf x)), .sc (.int .u64 (loOf x))], .sc (.int .u8 s)] (.sc (.bool true)) := by
  refine callsP_of gs_tabs Tryd.func5 rfl Tryd.ntmps5 rfl fun w0 S0 stab => ?_
  refine hits_seq ?_
  refine hits_region ?_
  refine sq (f_box rfl rfl (lt rfl)) rfl rfl ?_
  refine sq (f_assign rfl (lt rfl)) rfl rfl ?_
  refine hits_nil ?_
  refine to_next ?_
  refine hits_seq ?_
  refine hits_region ?_
  refine sq (f_move rfl (lt rfl)) rfl rfl ?_
  refine sq (f_idxArr rfl rfl un23 kd22 rfl (lt rfl)) rfl rfl ?_
  refine sq (f_load kd22 rfl rfl (lt rfl)) rfl rfl ?_
  refine sq (f_idxArr rfl rfl un23 kd22 rfl (lt rfl)) rfl rfl ?_
  refine sq (f_load kd22 rfl rfl (lt rfl)) rfl rfl ?_
  refine sq (f_call en13 rfl (of_c (of_not _ _ _ h)) (lt rfl)) rfl rfl ?_
  refine sq (f_move rfl (lt rfl)) rfl rfl ?_
  refine sq (f_extract rfl rfl (lt rfl)) rfl rfl ?_
  refine sq (f_extract rfl rfl (lt rfl)) rfl rfl ?_
  refine sq (f_alloc zc27 (lt rfl)) rfl rfl ?_
  refine sq (f_store kd27 rfl rfl rfl rfl rfl) rfl rfl ?_
  refine sq (f_assign rfl (lt rfl)) rfl rfl ?_
  refine hits_nil ?_
  refine to_next ?_
  refine hits_seq ?_
  refine hits_seq ?_
  refine hits_region ?_
  refine sq (f_call en10 rfl alive_c (lt rfl)) rfl rfl ?_
  refine sq (f_un rfl rfl (lt rfl)) rfl rfl ?_
  refine sq (f_move rfl (lt rfl)) rfl rfl ?_
  refine sq_yes (f_move rfl (lt rfl)) rfl rfl rfl rfl (lt rfl) ?_
  refine sq_yes (f_bin rfl rfl (bT (b' := true) rfl) (lt rfl)) rfl rfl rfl rfl (lt rfl) ?_
  refine sq (f_pick rfl rfl (lt rfl)) rfl rfl ?_
  refine hits_nil ?_
  refine to_next ?_
  refine hits_cond rfl (fun c0 => ?_) (fun c0 => ?_)
  case refine_2 => exact absurd c0 Bool.false_ne_true.symm
  case refine_1 =>
    refine hits_seq ?_
    refine hits_region ?_
    refine sq (f_call en10 rfl alive_c (lt rfl)) rfl rfl ?_
    refine sq (f_assign rfl (lt rfl)) rfl rfl ?_
    refine hits_nil ?_
    refine to_next ?_
    refine hits_ret ?_
    refine to_ret ?_
    exact hits_done (.inl rfl) rfl rfl rfl

end Go.Proofs.YthhlnghpbjmfpaaDoor.AbBits
namespace Go.Proofs.YthhlnghpbjmfpaaDoor.PAb
open Go Go.RowKit Go.Ab Go.Proofs.YthhlnghpbjmfpaaDoor.Press
def pointsmanlaw01_BitsMoves.f (a0 a1_0 a1_1 a2 : Int) : Option Bool := if (Lit.int .i64 a0).wf = true ∧ (Lit.int .u64 a1_0).wf = true ∧ (Lit.int .u64 a1_1).wf = true ∧ (Lit.int .u8 a2).wf = true then some true else none
theorem pointsmanlaw01_BitsMoves.calls (a0 : Int) (a1_0 : Int) (a1_1 : Int) (a2 : Int) (r : Bool) (w : World) (hT : Tabs w) (h : pointsmanlaw01_BitsMoves.f a0 a1_0 a1_1 a2 = some r) : Calls Tryd.prog 5 #[.int .i64 a0, .agg #[.int .u64 a1_0, .int .u64 a1_1], .int .u8 a2] w fun e w' => e = .returned (.bool r) ∧ Below w.heap.size w w' := by
  unfold pointsmanlaw01_BitsMoves.f at h
  split at h
  · rename_i c
    obtain rfl := Option.some.inj h
    obtain ⟨g0, g1, g2, g3⟩ := c
    have hn : 0 ≤ a2 ∧ a2 < 256 := by
      have h4 := g3
      simp [Lit.wf, IntKind.min, IntKind.max, IntKind.signed, IntKind.bits] at h4
      omega
    obtain ⟨x, hx, rfl, rfl⟩ := BitsMath.two_words g1 g2
    by_cases hw : 1 ≤ a0 ∧ a0 ≤ 128
    · obtain ⟨n, rfl⟩ := Int.eq_ofNat_of_zero_le (show 0 ≤ a0 by omega)
      obtain ⟨s, rfl⟩ := Int.eq_ofNat_of_zero_le hn.1
      exact (AbBits.moves_ok (n := n) (s := s) (by omega) (by omega) hx (by omega)).calls rfl rfl w hT
    · exact (AbBits.moves_no (x := x) hw).calls rfl rfl w hT
  · cases h
end Go.Proofs.YthhlnghpbjmfpaaDoor.PAb
namespace Go.Proofs.YthhlnghpbjmfpaaDoor.Pure
theorem BitsMoves (a0 a1_0 a1_1 a2 : Int) (g0 : (Lit.int .i64 a0).wf = true) (g1 : (Lit.int .u64 a1_0).wf = true) (g2 : (Lit.int .u64 a1_1).wf = true) (g3 : (Lit.int .u8 a2).wf = true) : PAb.pointsmanlaw01_BitsMoves.f a0 a1_0 a1_1 a2 = some true := if_pos ⟨g0, g1, g2, g3⟩
end Go.Proofs.YthhlnghpbjmfpaaDoor.Pure
