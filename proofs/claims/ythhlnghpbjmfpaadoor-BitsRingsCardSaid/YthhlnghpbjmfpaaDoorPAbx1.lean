/- The law BitsRings: its walk over data, and the law as a row asks it. -/
import Derived.Test.YthhlnghpbjmfpaaDoorAbNums
namespace Go.Proofs.YthhlnghpbjmfpaaDoor.AbBits
open Go Go.RowKit Go.Ab Go.Proofs.YthhlnghpbjmfpaaDoor Go.Proofs.YthhlnghpbjmfpaaDoor.PTryd Go.Proofs.YthhlnghpbjmfpaaDoor.PTrydFns Go.Proofs.YthhlnghpbjmfpaaDoor.BitsMath Go.Proofs.YthhlnghpbjmfpaaDoor.Press
set_option linter.unusedVariables false
set_option linter.unusedSimpArgs false
theorem en10 : enters Tryd.prog 10 = true := by kernel_rfl
theorem en9 : enters Tryd.prog 9 = true := by kernel_rfl
theorem kf25_0 : kf Tryd.prog 25 0 = some 0 := by kernel_rfl
theorem kd25 : kd Tryd.prog 25 = some (true, 7) := by kernel_rfl
theorem xor_and (a : Nat) : ∀ b, (a ^^^ b) + (a &&& b) * 2 = a + b := by
  induction a using Nat.strongRecOn with
  | _ a ih =>
    intro b
    rcases Nat.eq_zero_or_pos a with h | h
    · subst h; simp
    · have e := ih (a / 2) (by omega) (b / 2)
      have h1 := Nat.xor_div_two (a := a) (b := b)
      have h2 := Nat.and_div_two (a := a) (b := b)
      have h3 : (a ^^^ b) % 2 = if a % 2 = b % 2 then 0 else 1 := by
        have := Nat.xor_mod_two_eq_one (a := a) (b := b)
        split <;> omega
      have h4 : (a &&& b) % 2 = if a % 2 = 1 ∧ b % 2 = 1 then 1 else 0 := by
        have := Nat.and_mod_two_eq_one (a := a) (b := b)
        split <;> omega
      rw [← h1, ← h2] at e
      split at h3 <;> split at h4 <;> omega

set_option maxRecDepth 100000 in
theorem rings_ok {n x y z : Nat} (h0 : 1 ≤ n) (h : n ≤ 128) (hx : x < 2 ^ 128) (hy : y < 2 ^ 128) (hz : z < 2 ^ 128) : CallsP Tryd.prog Tabs 3 [threeD n x y z] (.sc (.bool true)) := by
  have hp := Nat.two_pow_pos n
  have hnum := numbers_ok h0 h hx hy hz
  have md : ∀ v, v % 2 ^ n < 2 ^ n := fun v => Nat.mod_lt _ hp
  have ha := md x
  have hb := md y
  have hc := md z
  have hone : 1 < 2 ^ n := Nat.one_lt_two_pow (by omega)
  generalize x % 2 ^ n = a at *
  generalize y % 2 ^ n = b at *
  generalize z % 2 ^ n = c at *
  have hs := md (a + b)
  have hn : 2 ^ n - 1 - a < 2 ^ n := by omega
  have hab := Nat.and_lt_two_pow a hb
  have hxo := Nat.xor_lt_two_pow ha hb
  have e1 : (a + b) % 2 ^ n = (b + a) % 2 ^ n := by rw [Nat.add_comm]
  have e2 : ((a + b) % 2 ^ n + (2 ^ n - b)) % 2 ^ n = a := by rw [Nat.mod_add_mod, show a + b + (2 ^ n - b) = a + 2 ^ n from by omega, Nat.add_mod_right, Nat.mod_eq_of_lt ha]
  have e3 : a * b % 2 ^ n = b * a % 2 ^ n := by rw [Nat.mul_comm]
  have e4 : ((a + b) % 2 ^ n + c) % 2 ^ n = (a + (b + c) % 2 ^ n) % 2 ^ n := by rw [Nat.mod_add_mod, Nat.add_mod_mod, Nat.add_assoc]
  have e5 : (a * b % 2 ^ n * c) % 2 ^ n = (a * (b * c % 2 ^ n)) % 2 ^ n := by rw [Nat.mod_mul_mod, Nat.mul_mod_mod, Nat.mul_assoc]
  have e6 : ((a + b) % 2 ^ n * c) % 2 ^ n = (a * c % 2 ^ n + b * c % 2 ^ n) % 2 ^ n := by rw [Nat.mod_mul_mod, ← Nat.add_mod, Nat.add_mul]
  have e7 : (a + (2 ^ n - a)) % 2 ^ n = 0 := by rw [show a + (2 ^ n - a) = 2 ^ n from by omega, Nat.mod_self]
  have e8 : a * 1 % 2 ^ n = a := by rw [Nat.mul_one, Nat.mod_eq_of_lt ha]
  have e9 : (2 ^ n - 1 - a + 1) % 2 ^ n = ((a + (2 ^ n - a)) % 2 ^ n + (2 ^ n - a)) % 2 ^ n := by rw [e7, Nat.zero_add, show 2 ^ n - 1 - a + 1 = 2 ^ n - a from by omega]
  have e10 : ((a ^^^ b) + (a &&& b) * 2 ^ min 1 128 % 2 ^ n) % 2 ^ n = (a + b) % 2 ^ n := by rw [Nat.add_mod_mod, show 2 ^ min 1 128 = 2 from rfl, xor_and]
  refine callsP_of gs_tabs Tryd.func3 rfl Tryd.ntmps3 rfl fun w0 S0 stab => ?_
  refine hits_seq ?_
  refine hits_region ?_
  refine sq (f_box rfl rfl (lt rfl)) rfl rfl ?_
  refine sq (f_assign rfl (lt rfl)) rfl rfl ?_
  refine hits_nil ?_
  refine to_next ?_
  refine hits_seq ?_
  refine hits_region ?_
  refine sq (f_fieldAddr rfl kf25_0 rfl (lt rfl)) rfl rfl ?_
  refine sq (f_load kd3 rfl rfl (lt rfl)) rfl rfl ?_
  refine sq (f_assign rfl (lt rfl)) rfl rfl ?_
  refine hits_nil ?_
  refine to_next ?_
  refine hits_seq ?_
  refine hits_region ?_
  refine sq (f_load kd25 rfl rfl (lt rfl)) rfl rfl ?_
  refine sq (f_call en9 rfl hnum (lt rfl)) rfl rfl ?_
  refine sq (f_move rfl (lt rfl)) rfl rfl ?_
  refine sq (f_extract rfl rfl (lt rfl)) rfl rfl ?_
  refine sq (f_extract rfl rfl (lt rfl)) rfl rfl ?_
  refine sq (f_extract rfl rfl (lt rfl)) rfl rfl ?_
  refine sq (f_extract rfl rfl (lt rfl)) rfl rfl ?_
  refine sq (f_alloc zc27 (lt rfl)) rfl rfl ?_
  refine sq (f_alloc zc27 (lt rfl)) rfl rfl ?_
  refine sq (f_alloc zc27 (lt rfl)) rfl rfl ?_
  refine sq (f_store kd27 rfl rfl rfl rfl rfl) rfl rfl ?_
  refine sq (f_store kd27 rfl rfl rfl rfl rfl) rfl rfl ?_
  refine sq (f_store kd27 rfl rfl rfl rfl rfl) rfl rfl ?_
  refine sq (f_assign rfl (lt rfl)) rfl rfl ?_
  refine hits_nil ?_
  refine to_next ?_
  refine hits_seq ?_
  refine hits_seq ?_
  refine hits_region ?_
  refine sq (f_call en10 rfl alive_c (lt rfl)) rfl rfl ?_
  refine sq (f_un rfl rfl (lt rfl)) rfl rfl ?_
  refine sq (f_move rfl (lt rfl)) rfl rfl ?_
  refine sq_yes (f_move rfl (lt rfl)) rfl rfl rfl rfl (lt rfl) ?_
  refine sq_yes (f_un rfl rfl (lt rfl)) rfl rfl rfl rfl (lt rfl) ?_
  refine sq (f_pick rfl rfl (lt rfl)) rfl rfl ?_
  refine hits_nil ?_
  refine to_next ?_
  refine hits_cond rfl (fun c0 => ?_) (fun c0 => ?_)
  case refine_1 => exact absurd c0 Bool.false_ne_true
  case refine_2 =>
    refine hits_skip ?_
    refine to_next ?_
    refine hits_seq ?_
    refine hits_region ?_
    refine sq (f_load kd27 rfl rfl (lt rfl)) rfl rfl ?_
    refine sq (f_load kd27 rfl rfl (lt rfl)) rfl rfl ?_
    refine sq (f_call en11 rfl (do_c (do_add h0 h ha hb)) (lt rfl)) rfl rfl ?_
    refine sq (f_alloc zc27 (lt rfl)) rfl rfl ?_
    refine sq (f_store kd27 rfl rfl rfl rfl rfl) rfl rfl ?_
    refine hits_nil ?_
    refine to_next ?_
    refine hits_seq ?_
    refine hits_region ?_
    refine sq (f_load kd27 rfl rfl (lt rfl)) rfl rfl ?_
    refine sq (f_load kd27 rfl rfl (lt rfl)) rfl rfl ?_
    refine sq (f_call en11 rfl (do_c (do_sub h0 h ha ha)) (lt rfl)) rfl rfl ?_
    refine sq (f_alloc zc27 (lt rfl)) rfl rfl ?_
    refine sq (f_store kd27 rfl rfl rfl rfl rfl) rfl rfl ?_
    refine hits_nil ?_
    refine to_next ?_
    refine hits_seq ?_
    refine hits_region ?_
    refine sq (f_load kd27 rfl rfl (lt rfl)) rfl rfl ?_
    refine sq (f_load kd27 rfl rfl (lt rfl)) rfl rfl ?_
    refine sq (f_call en11 rfl (do_c (do_not h0 h ha _ _ _)) (lt rfl)) rfl rfl ?_
    refine sq (f_move rfl (lt rfl)) rfl rfl ?_
    refine sq (f_call en12 rfl (num_b n 1 (by decide)) (lt rfl)) rfl rfl ?_
    refine sq (f_call en11 rfl (do_c (do_add h0 h hn hone)) (lt rfl)) rfl rfl ?_
    refine sq (f_alloc zc27 (lt rfl)) rfl rfl ?_
    refine sq (f_store kd27 rfl rfl rfl rfl rfl) rfl rfl ?_
    refine hits_nil ?_
    refine to_next ?_
    refine hits_seq ?_
    refine hits_drawn mixed ?_
    refine dq (f_load kd27 rfl rfl (lt rfl)) rfl rfl ?_
    refine dq (f_load kd27 rfl rfl (lt rfl)) rfl rfl ?_
    refine dq (f_load kd27 rfl rfl (lt rfl)) rfl rfl ?_
    refine dq (f_call en11 rfl (do_c (do_add h0 h hb ha)) (lt rfl)) rfl rfl ?_
    refine dq (f_eqB rfl rfl (eqT e1) (lt rfl)) rfl rfl ?_
    refine dq (f_move rfl (lt rfl)) rfl rfl ?_
    refine dq_yes (f_load kd27 rfl rfl (lt rfl)) rfl rfl rfl rfl (lt rfl) ?_
    refine dq_yes (f_load kd27 rfl rfl (lt rfl)) rfl rfl rfl rfl (lt rfl) ?_
    refine dq_yes (f_call en11 rfl (do_c (do_sub h0 h hs hb)) (lt rfl)) rfl rfl rfl rfl (lt rfl) ?_
    refine dq_yes (f_load kd27 rfl rfl (lt rfl)) rfl rfl rfl rfl (lt rfl) ?_
    refine dq_yes (f_eqB rfl rfl (eqT e2) (lt rfl)) rfl rfl rfl rfl (lt rfl) ?_
    refine dq (f_pick rfl rfl (lt rfl)) rfl rfl ?_
    refine dq (f_move rfl (lt rfl)) rfl rfl ?_
    refine dq_yes (f_load kd27 rfl rfl (lt rfl)) rfl rfl rfl rfl (lt rfl) ?_
    refine dq_yes (f_load kd27 rfl rfl (lt rfl)) rfl rfl rfl rfl (lt rfl) ?_
    refine dq_yes (f_call en11 rfl (do_c (do_mul h0 h ha hb)) (lt rfl)) rfl rfl rfl rfl (lt rfl) ?_
    refine dq_yes (f_load kd27 rfl rfl (lt rfl)) rfl rfl rfl rfl (lt rfl) ?_
    refine dq_yes (f_load kd27 rfl rfl (lt rfl)) rfl rfl rfl rfl (lt rfl) ?_
    refine dq_yes (f_call en11 rfl (do_c (do_mul h0 h hb ha)) (lt rfl)) rfl rfl rfl rfl (lt rfl) ?_
    refine dq_yes (f_eqB rfl rfl (eqT e3) (lt rfl)) rfl rfl rfl rfl (lt rfl) ?_
    refine dq (f_pick rfl rfl (lt rfl)) rfl rfl ?_
    refine dq (f_move rfl (lt rfl)) rfl rfl ?_
    refine dq_yes (f_load kd27 rfl rfl (lt rfl)) rfl rfl rfl rfl (lt rfl) ?_
    refine dq_yes (f_load kd27 rfl rfl (lt rfl)) rfl rfl rfl rfl (lt rfl) ?_
    refine dq_yes (f_call en11 rfl (do_c (do_add h0 h hs hc)) (lt rfl)) rfl rfl rfl rfl (lt rfl) ?_
    refine dq_yes (f_load kd27 rfl rfl (lt rfl)) rfl rfl rfl rfl (lt rfl) ?_
    refine dq_yes (f_load kd27 rfl rfl (lt rfl)) rfl rfl rfl rfl (lt rfl) ?_
    refine dq_yes (f_load kd27 rfl rfl (lt rfl)) rfl rfl rfl rfl (lt rfl) ?_
    refine dq_yes (f_call en11 rfl (do_c (do_add h0 h hb hc)) (lt rfl)) rfl rfl rfl rfl (lt rfl) ?_
    refine dq_yes (f_call en11 rfl (do_c (do_add h0 h ha (md _))) (lt rfl)) rfl rfl rfl rfl (lt rfl) ?_
    refine dq_yes (f_eqB rfl rfl (eqT e4) (lt rfl)) rfl rfl rfl rfl (lt rfl) ?_
    refine dq (f_pick rfl rfl (lt rfl)) rfl rfl ?_
    refine dq (f_move rfl (lt rfl)) rfl rfl ?_
    refine dq_yes (f_load kd27 rfl rfl (lt rfl)) rfl rfl rfl rfl (lt rfl) ?_
    refine dq_yes (f_load kd27 rfl rfl (lt rfl)) rfl rfl rfl rfl (lt rfl) ?_
    refine dq_yes (f_call en11 rfl (do_c (do_mul h0 h ha hb)) (lt rfl)) rfl rfl rfl rfl (lt rfl) ?_
    refine dq_yes (f_load kd27 rfl rfl (lt rfl)) rfl rfl rfl rfl (lt rfl) ?_
    refine dq_yes (f_call en11 rfl (do_c (do_mul h0 h (md _) hc)) (lt rfl)) rfl rfl rfl rfl (lt rfl) ?_
    refine dq_yes (f_load kd27 rfl rfl (lt rfl)) rfl rfl rfl rfl (lt rfl) ?_
    refine dq_yes (f_load kd27 rfl rfl (lt rfl)) rfl rfl rfl rfl (lt rfl) ?_
    refine dq_yes (f_load kd27 rfl rfl (lt rfl)) rfl rfl rfl rfl (lt rfl) ?_
    refine dq_yes (f_call en11 rfl (do_c (do_mul h0 h hb hc)) (lt rfl)) rfl rfl rfl rfl (lt rfl) ?_
    refine dq_yes (f_call en11 rfl (do_c (do_mul h0 h ha (md _))) (lt rfl)) rfl rfl rfl rfl (lt rfl) ?_
    refine dq_yes (f_eqB rfl rfl (eqT e5) (lt rfl)) rfl rfl rfl rfl (lt rfl) ?_
    refine dq (f_pick rfl rfl (lt rfl)) rfl rfl ?_
    refine dq (f_move rfl (lt rfl)) rfl rfl ?_
    refine dq_yes (f_load kd27 rfl rfl (lt rfl)) rfl rfl rfl rfl (lt rfl) ?_
    refine dq_yes (f_load kd27 rfl rfl (lt rfl)) rfl rfl rfl rfl (lt rfl) ?_
    refine dq_yes (f_call en11 rfl (do_c (do_mul h0 h hs hc)) (lt rfl)) rfl rfl rfl rfl (lt rfl) ?_
    refine dq_yes (f_load kd27 rfl rfl (lt rfl)) rfl rfl rfl rfl (lt rfl) ?_
    refine dq_yes (f_load kd27 rfl rfl (lt rfl)) rfl rfl rfl rfl (lt rfl) ?_
    refine dq_yes (f_call en11 rfl (do_c (do_mul h0 h ha hc)) (lt rfl)) rfl rfl rfl rfl (lt rfl) ?_
    refine dq_yes (f_load kd27 rfl rfl (lt rfl)) rfl rfl rfl rfl (lt rfl) ?_
    refine dq_yes (f_load kd27 rfl rfl (lt rfl)) rfl rfl rfl rfl (lt rfl) ?_
    refine dq_yes (f_call en11 rfl (do_c (do_mul h0 h hb hc)) (lt rfl)) rfl rfl rfl rfl (lt rfl) ?_
    refine dq_yes (f_call en11 rfl (do_c (do_add h0 h (md _) (md _))) (lt rfl)) rfl rfl rfl rfl (lt rfl) ?_
    refine dq_yes (f_eqB rfl rfl (eqT e6) (lt rfl)) rfl rfl rfl rfl (lt rfl) ?_
    refine dq (f_pick rfl rfl (lt rfl)) rfl rfl ?_
    refine dq (f_move rfl (lt rfl)) rfl rfl ?_
    refine dq_yes (f_load kd27 rfl rfl (lt rfl)) rfl rfl rfl rfl (lt rfl) ?_
    refine dq_yes (f_move rfl (lt rfl)) rfl rfl rfl rfl (lt rfl) ?_
    refine dq_yes (f_call en12 rfl (num_b n 0 (by decide)) (lt rfl)) rfl rfl rfl rfl (lt rfl) ?_
    refine dq_yes (f_eqB rfl rfl (eqT e7) (lt rfl)) rfl rfl rfl rfl (lt rfl) ?_
    refine dq (f_pick rfl rfl (lt rfl)) rfl rfl ?_
    refine dq (f_move rfl (lt rfl)) rfl rfl ?_
    refine dq_yes (f_load kd27 rfl rfl (lt rfl)) rfl rfl rfl rfl (lt rfl) ?_
    refine dq_yes (f_move rfl (lt rfl)) rfl rfl rfl rfl (lt rfl) ?_
    refine dq_yes (f_call en12 rfl (num_b n 1 (by decide)) (lt rfl)) rfl rfl rfl rfl (lt rfl) ?_
    refine dq_yes (f_call en11 rfl (do_c (do_mul h0 h ha hone)) (lt rfl)) rfl rfl rfl rfl (lt rfl) ?_
    refine dq_yes (f_load kd27 rfl rfl (lt rfl)) rfl rfl rfl rfl (lt rfl) ?_
    refine dq_yes (f_eqB rfl rfl (eqT e8) (lt rfl)) rfl rfl rfl rfl (lt rfl) ?_
    refine dq (f_pick rfl rfl (lt rfl)) rfl rfl ?_
    refine dq (f_move rfl (lt rfl)) rfl rfl ?_
    refine dq_yes (f_load kd27 rfl rfl (lt rfl)) rfl rfl rfl rfl (lt rfl) ?_
    refine dq_yes (f_load kd27 rfl rfl (lt rfl)) rfl rfl rfl rfl (lt rfl) ?_
    refine dq_yes (f_load kd27 rfl rfl (lt rfl)) rfl rfl rfl rfl (lt rfl) ?_
    refine dq_yes (f_call en11 rfl (do_c (do_sub h0 h (md _) ha)) (lt rfl)) rfl rfl rfl rfl (lt rfl) ?_
    refine dq_yes (f_eqB rfl rfl (eqT e9) (lt rfl)) rfl rfl rfl rfl (lt rfl) ?_
    refine dq (f_pick rfl rfl (lt rfl)) rfl rfl ?_
    refine dq (f_move rfl (lt rfl)) rfl rfl ?_
    refine dq_yes (f_load kd27 rfl rfl (lt rfl)) rfl rfl rfl rfl (lt rfl) ?_
    refine dq_yes (f_load kd27 rfl rfl (lt rfl)) rfl rfl rfl rfl (lt rfl) ?_
    refine dq_yes (f_call en11 rfl (do_c (do_xor h0 h ha hb)) (lt rfl)) rfl rfl rfl rfl (lt rfl) ?_
    refine dq_yes (f_load kd27 rfl rfl (lt rfl)) rfl rfl rfl rfl (lt rfl) ?_
    refine dq_yes (f_load kd27 rfl rfl (lt rfl)) rfl rfl rfl rfl (lt rfl) ?_
    refine dq_yes (f_call en11 rfl (do_c (do_and h0 h ha hb)) (lt rfl)) rfl rfl rfl rfl (lt rfl) ?_
    refine dq_yes (f_move rfl (lt rfl)) rfl rfl rfl rfl (lt rfl) ?_
    refine dq_yes (f_call en12 rfl (num_b n 1 (by decide)) (lt rfl)) rfl rfl rfl rfl (lt rfl) ?_
    refine dq_yes (f_call en11 rfl (do_c (do_shl h0 h hab h0 h hone)) (lt rfl)) rfl rfl rfl rfl (lt rfl) ?_
    refine dq_yes (f_call en11 rfl (do_c (do_add h0 h hxo (md _))) (lt rfl)) rfl rfl rfl rfl (lt rfl) ?_
    refine dq_yes (f_load kd27 rfl rfl (lt rfl)) rfl rfl rfl rfl (lt rfl) ?_
    refine dq_yes (f_eqB rfl rfl (eqT e10) (lt rfl)) rfl rfl rfl rfl (lt rfl) ?_
    refine dq (f_pick rfl rfl (lt rfl)) rfl rfl ?_
    refine dq (f_move rfl (lt rfl)) rfl rfl ?_
    refine dq_no rfl rfl rfl rfl rfl (lt rfl) (lt rfl) ?_
    refine dq_no rfl rfl rfl rfl rfl (lt rfl) (lt rfl) ?_
    refine dq_no rfl rfl rfl rfl rfl (lt rfl) (lt rfl) ?_
    refine dq_no rfl rfl rfl rfl rfl (lt rfl) (lt rfl) ?_
    refine dq_no rfl rfl rfl rfl rfl (lt rfl) (lt rfl) ?_
    refine dq_no rfl rfl rfl rfl rfl (lt rfl) (lt rfl) ?_
    refine dq_no rfl rfl rfl rfl rfl (lt rfl) (lt rfl) ?_
    refine dq_no rfl rfl rfl rfl rfl (lt rfl) (lt rfl) ?_
    refine dq_no rfl rfl rfl rfl rfl (lt rfl) (lt rfl) ?_
    refine dq_no rfl rfl rfl rfl rfl (lt rfl) (lt rfl) ?_
    refine dq_no rfl rfl rfl rfl rfl (lt rfl) (lt rfl) ?_
    refine dq_no rfl rfl rfl rfl rfl (lt rfl) (lt rfl) ?_
    refine dq_no rfl rfl rfl rfl rfl (lt rfl) (lt rfl) ?_
    refine dq_no rfl rfl rfl rfl rfl (lt rfl) (lt rfl) ?_
    refine dq_no rfl rfl rfl rfl rfl (lt rfl) (lt rfl) ?_
    refine dq_no rfl rfl rfl rfl rfl (lt rfl) (lt rfl) ?_
    refine dq_no rfl rfl rfl rfl rfl (lt rfl) (lt rfl) ?_
    refine dq_no rfl rfl rfl rfl rfl (lt rfl) (lt rfl) ?_
    refine dq (f_pick rfl rfl (lt rfl)) rfl rfl ?_
    refine dq (f_assign rfl (lt rfl)) rfl rfl ?_
    refine dq_nil (by kernel_rfl) ?_
    refine to_next ?_
    refine hits_ret ?_
    exact hits_done (.inl rfl) rfl rfl rfl

set_option maxRecDepth 100000 in
theorem rings_lo {n : Int} {x y z : Nat} (h : n < 1) : CallsP Tryd.prog Tabs 3 [threeD n x y z] (.sc (.bool true)) := by
  refine callsP_of gs_tabs Tryd.func3 rfl Tryd.ntmps3 rfl fun w0 S0 stab => ?_
  refine hits_seq ?_
  refine hits_region ?_
  refine sq (f_box rfl rfl (lt rfl)) rfl rfl ?_
  refine sq (f_assign rfl (lt rfl)) rfl rfl ?_
  refine hits_nil ?_
  refine to_next ?_
  refine hits_seq ?_
  refine hits_region ?_
  refine sq (f_fieldAddr rfl kf25_0 rfl (lt rfl)) rfl rfl ?_
  refine sq (f_load kd3 rfl rfl (lt rfl)) rfl rfl ?_
  refine sq (f_assign rfl (lt rfl)) rfl rfl ?_
  refine hits_nil ?_
  refine to_next ?_
  refine hits_seq ?_
  refine hits_region ?_
  refine sq (f_load kd25 rfl rfl (lt rfl)) rfl rfl ?_
  refine sq (f_call en9 rfl (numbers_not (by omega)) (lt rfl)) rfl rfl ?_
  refine sq (f_move rfl (lt rfl)) rfl rfl ?_
  refine sq (f_extract rfl rfl (lt rfl)) rfl rfl ?_
  refine sq (f_extract rfl rfl (lt rfl)) rfl rfl ?_
  refine sq (f_extract rfl rfl (lt rfl)) rfl rfl ?_
  refine sq (f_extract rfl rfl (lt rfl)) rfl rfl ?_
  refine sq (f_alloc zc27 (lt rfl)) rfl rfl ?_
  refine sq (f_alloc zc27 (lt rfl)) rfl rfl ?_
  refine sq (f_alloc zc27 (lt rfl)) rfl rfl ?_
  refine sq (f_store kd27 rfl rfl rfl rfl rfl) rfl rfl ?_
  refine sq (f_store kd27 rfl rfl rfl rfl rfl) rfl rfl ?_
  refine sq (f_store kd27 rfl rfl rfl rfl rfl) rfl rfl ?_
  refine sq (f_assign rfl (lt rfl)) rfl rfl ?_
  refine hits_nil ?_
  refine to_next ?_
  refine hits_seq ?_
  refine hits_seq ?_
  refine hits_region ?_
  refine sq (f_call en10 rfl alive_c (lt rfl)) rfl rfl ?_
  refine sq (f_un rfl rfl (lt rfl)) rfl rfl ?_
  refine sq (f_move rfl (lt rfl)) rfl rfl ?_
  refine sq_yes (f_move rfl (lt rfl)) rfl rfl rfl rfl (lt rfl) ?_
  refine sq_yes (f_un rfl rfl (lt rfl)) rfl rfl rfl rfl (lt rfl) ?_
  refine sq (f_pick rfl rfl (lt rfl)) rfl rfl ?_
  refine hits_nil ?_
  refine to_next ?_
  refine hits_cond rfl (fun c0 => ?_) (fun c0 => ?_)
  case refine_2 => exact absurd c0 Bool.false_ne_true.symm
  case refine_1 =>
    refine hits_seq ?_
    refine hits_region ?_
    refine sq (f_call en10 rfl alive_c (lt rfl)) rfl rfl ?_
    refine sq (f_move rfl (lt rfl)) rfl rfl ?_
    refine sq_yes (f_move rfl (lt rfl)) rfl rfl rfl rfl (lt rfl) ?_
    refine sq_yes (f_bin rfl rfl (bT (decide_eq_true h)) (lt rfl)) rfl rfl rfl rfl (lt rfl) ?_
    refine sq_yes (f_move rfl (lt rfl)) rfl rfl rfl rfl (lt rfl) ?_
    refine sq_no rfl rfl rfl rfl rfl (lt rfl) (lt rfl) ?_
    refine sq_no rfl rfl rfl rfl rfl (lt rfl) (lt rfl) ?_
    refine sq_yes (f_pick rfl rfl (lt rfl)) rfl rfl rfl rfl (lt rfl) ?_
    refine sq (f_pick rfl rfl (lt rfl)) rfl rfl ?_
    refine sq (f_assign rfl (lt rfl)) rfl rfl ?_
    refine hits_nil ?_
    refine to_next ?_
    refine hits_ret ?_
    refine to_ret ?_
    exact hits_done (.inl rfl) rfl rfl rfl

set_option maxRecDepth 100000 in
theorem rings_hi {n : Int} {x y z : Nat} (h : n > 128) : CallsP Tryd.prog Tabs 3 [threeD n x y z] (.sc (.bool true)) := by
  refine callsP_of gs_tabs Tryd.func3 rfl Tryd.ntmps3 rfl fun w0 S0 stab => ?_
  refine hits_seq ?_
  refine hits_region ?_
  refine sq (f_box rfl rfl (lt rfl)) rfl rfl ?_
  refine sq (f_assign rfl (lt rfl)) rfl rfl ?_
  refine hits_nil ?_
  refine to_next ?_
  refine hits_seq ?_
  refine hits_region ?_
  refine sq (f_fieldAddr rfl kf25_0 rfl (lt rfl)) rfl rfl ?_
  refine sq (f_load kd3 rfl rfl (lt rfl)) rfl rfl ?_
  refine sq (f_assign rfl (lt rfl)) rfl rfl ?_
  refine hits_nil ?_
  refine to_next ?_
  refine hits_seq ?_
  refine hits_region ?_
  refine sq (f_load kd25 rfl rfl (lt rfl)) rfl rfl ?_
  refine sq (f_call en9 rfl (numbers_not (by omega)) (lt rfl)) rfl rfl ?_
  refine sq (f_move rfl (lt rfl)) rfl rfl ?_
  refine sq (f_extract rfl rfl (lt rfl)) rfl rfl ?_
  refine sq (f_extract rfl rfl (lt rfl)) rfl rfl ?_
  refine sq (f_extract rfl rfl (lt rfl)) rfl rfl ?_
  refine sq (f_extract rfl rfl (lt rfl)) rfl rfl ?_
  refine sq (f_alloc zc27 (lt rfl)) rfl rfl ?_
  refine sq (f_alloc zc27 (lt rfl)) rfl rfl ?_
  refine sq (f_alloc zc27 (lt rfl)) rfl rfl ?_
  refine sq (f_store kd27 rfl rfl rfl rfl rfl) rfl rfl ?_
  refine sq (f_store kd27 rfl rfl rfl rfl rfl) rfl rfl ?_
  refine sq (f_store kd27 rfl rfl rfl rfl rfl) rfl rfl ?_
  refine sq (f_assign rfl (lt rfl)) rfl rfl ?_
  refine hits_nil ?_
  refine to_next ?_
  refine hits_seq ?_
  refine hits_seq ?_
  refine hits_region ?_
  refine sq (f_call en10 rfl alive_c (lt rfl)) rfl rfl ?_
  refine sq (f_un rfl rfl (lt rfl)) rfl rfl ?_
  refine sq (f_move rfl (lt rfl)) rfl rfl ?_
  refine sq_yes (f_move rfl (lt rfl)) rfl rfl rfl rfl (lt rfl) ?_
  refine sq_yes (f_un rfl rfl (lt rfl)) rfl rfl rfl rfl (lt rfl) ?_
  refine sq (f_pick rfl rfl (lt rfl)) rfl rfl ?_
  refine hits_nil ?_
  refine to_next ?_
  refine hits_cond rfl (fun c0 => ?_) (fun c0 => ?_)
  case refine_2 => exact absurd c0 Bool.false_ne_true.symm
  case refine_1 =>
    refine hits_seq ?_
    refine hits_region ?_
    refine sq (f_call en10 rfl alive_c (lt rfl)) rfl rfl ?_
    refine sq (f_move rfl (lt rfl)) rfl rfl ?_
    refine sq_yes (f_move rfl (lt rfl)) rfl rfl rfl rfl (lt rfl) ?_
    refine sq_yes (f_bin rfl rfl (bT (decide_eq_false (by omega))) (lt rfl)) rfl rfl rfl rfl (lt rfl) ?_
    refine sq_yes (f_move rfl (lt rfl)) rfl rfl rfl rfl (lt rfl) ?_
    refine sq_yes (f_move rfl (lt rfl)) rfl rfl rfl rfl (lt rfl) ?_
    refine sq_yes (f_bin rfl rfl (bT (decide_eq_true h)) (lt rfl)) rfl rfl rfl rfl (lt rfl) ?_
    refine sq_yes (f_pick rfl rfl (lt rfl)) rfl rfl rfl rfl (lt rfl) ?_
    refine sq (f_pick rfl rfl (lt rfl)) rfl rfl ?_
    refine sq (f_assign rfl (lt rfl)) rfl rfl ?_
    refine hits_nil ?_
    refine to_next ?_
    refine hits_ret ?_
    refine to_ret ?_
    exact hits_done (.inl rfl) rfl rfl rfl

end Go.Proofs.YthhlnghpbjmfpaaDoor.AbBits
namespace Go.Proofs.YthhlnghpbjmfpaaDoor.PAb
open Go Go.RowKit Go.Ab Go.Proofs.YthhlnghpbjmfpaaDoor.Press
def pointsmanlaw01_BitsRings.f (a0_0 a0_1 a0_2 a0_3 a0_4 a0_5 a0_6 : Int) : Option Bool := if (Lit.int .i64 a0_0).wf = true ∧ (Lit.int .u64 a0_1).wf = true ∧ (Lit.int .u64 a0_2).wf = true ∧ (Lit.int .u64 a0_3).wf = true ∧ (Lit.int .u64 a0_4).wf = true ∧ (Lit.int .u64 a0_5).wf = true ∧ (Lit.int .u64 a0_6).wf = true then some true else none
theorem pointsmanlaw01_BitsRings.calls (a0_0 : Int) (a0_1 : Int) (a0_2 : Int) (a0_3 : Int) (a0_4 : Int) (a0_5 : Int) (a0_6 : Int) (r : Bool) (w : World) (hT : Tabs w) (h : pointsmanlaw01_BitsRings.f a0_0 a0_1 a0_2 a0_3 a0_4 a0_5 a0_6 = some r) : Calls Tryd.prog 3 #[.agg #[.int .i64 a0_0, .int .u64 a0_1, .int .u64 a0_2, .int .u64 a0_3, .int .u64 a0_4, .int .u64 a0_5, .int .u64 a0_6]] w fun e w' => e = .returned (.bool r) ∧ Below w.heap.size w w' := by
  unfold pointsmanlaw01_BitsRings.f at h
  split at h
  · rename_i c
    obtain rfl := Option.some.inj h
    obtain ⟨g0, g1, g2, g3, g4, g5, g6⟩ := c
    obtain ⟨x, hx, rfl, rfl⟩ := BitsMath.two_words g1 g2
    obtain ⟨y, hy, rfl, rfl⟩ := BitsMath.two_words g3 g4
    obtain ⟨z, hz, rfl, rfl⟩ := BitsMath.two_words g5 g6
    by_cases hw : 1 ≤ a0_0 ∧ a0_0 ≤ 128
    · obtain ⟨n, rfl⟩ := Int.eq_ofNat_of_zero_le (show 0 ≤ a0_0 by omega)
      exact (AbBits.rings_ok (n := n) (by omega) (by omega) hx hy hz).calls rfl rfl w hT
    · by_cases hl : a0_0 < 1
      · exact (AbBits.rings_lo (x := x) (y := y) (z := z) hl).calls rfl rfl w hT
      · exact (AbBits.rings_hi (x := x) (y := y) (z := z) (by omega)).calls rfl rfl w hT
  · cases h
end Go.Proofs.YthhlnghpbjmfpaaDoor.PAb
namespace Go.Proofs.YthhlnghpbjmfpaaDoor.Pure
theorem BitsRings (a0_0 a0_1 a0_2 a0_3 a0_4 a0_5 a0_6 : Int) (g0 : (Lit.int .i64 a0_0).wf = true) (g1 : (Lit.int .u64 a0_1).wf = true) (g2 : (Lit.int .u64 a0_2).wf = true) (g3 : (Lit.int .u64 a0_3).wf = true) (g4 : (Lit.int .u64 a0_4).wf = true) (g5 : (Lit.int .u64 a0_5).wf = true) (g6 : (Lit.int .u64 a0_6).wf = true) : PAb.pointsmanlaw01_BitsRings.f a0_0 a0_1 a0_2 a0_3 a0_4 a0_5 a0_6 = some true := if_pos ⟨g0, g1, g2, g3, g4, g5, g6⟩
end Go.Proofs.YthhlnghpbjmfpaaDoor.Pure
