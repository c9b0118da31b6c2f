/- The law ParseBinds over data. -/
import Derived.Test.YtbgeejmhkmjfdaaGreatDoorAbBi
import Derived.OpenShut
namespace Go.Proofs.YtbgeejmhkmjfdaaGreatDoor.Ln
open Go Go.RowKit Go.Ab Go.Proofs 
set_option linter.unusedVariables false
set_option linter.unusedSimpArgs false
theorem sk42 : sk Tryz.prog 42 = some (3, 1, [.int .i64 0]) := by kernel_rfl
theorem un42 : Tryz.prog.underlying 42 = some (.slice 3) := by kernel_rfl
theorem en7 : enters Tryz.prog 7 = true := by kernel_rfl
theorem en10 : enters Tryz.prog 10 = true := by kernel_rfl

theorem u8_nat {a : Int} (h : (Lit.int .u8 a).wf = true) : ∃ n : Nat, a = n ∧ n < 256 := by
  have h0 := bounds_u8 h
  exact ⟨a.toNat, by omega, by omega⟩
theorem tmod_nat (a n : Nat) : (a : Int).tmod (n : Int) = ((a % n : Nat) : Int) := (Int.ofNat_tmod a n).symm

set_option maxRecDepth 100000 in
theorem binds_no {a b : Nat} {p q : Sgn} (ha : a < 256) (hb : b < 256) (hp : twosL[a % 15]? = some p) (hq : twosL[b % 15]? = some q) (h2 : p.2.2 = 2 ∧ q.2.2 = 2) : CallsP Tryz.prog Lw 5 [.sc (.int .u8 (a : Int)), .sc (.int .u8 (b : Int))] (.sc (.bool true)) := by
  have mp := List.mem_of_getElem? hp
  have mq := List.mem_of_getElem? hq
  have ap := map_at (g := fun p : Sgn => txD p.1) hp
  have aq := map_at (g := fun p : Sgn => txD p.1) hq
  have bp := map_at (g := fun p : Sgn => nD p.2.2) hp
  have bq := map_at (g := fun p : Sgn => nD p.2.2) hq
  refine callsP_of gs_lw Tryz.func5 rfl Tryz.ntmps5 rfl fun w0 S0 stab => ?_
  refine hits_seq ?_
  refine hits_region ?_
  refine sq (f_assign rfl (lt rfl)) rfl rfl ?_
  refine hits_nil ?_
  refine to_next ?_
  refine hits_seq ?_
  refine hits_region ?_
  refine sq (f_buildSlice sk41 rfl rfl rfl rfl rfl rfl (by decide) (by decide) (lt rfl)) rfl rfl ?_
  refine sq (f_assign rfl (lt rfl)) rfl rfl ?_
  refine hits_nil ?_
  refine to_next ?_
  refine hits_seq ?_
  refine hits_region ?_
  refine sq (f_buildSlice sk42 rfl rfl rfl rfl rfl rfl (by decide) (by decide) (lt rfl)) rfl rfl ?_
  refine sq (f_assign rfl (lt rfl)) rfl rfl ?_
  refine hits_nil ?_
  refine to_next ?_
  refine hits_seq ?_
  refine hits_region ?_
  refine sq (f_move rfl (lt rfl)) rfl rfl ?_
  refine sq (f_convI rfl us5 un3 (IntWalk.i64_in _ (by omega)) (lt rfl)) rfl rfl ?_
  refine sq (f_remI rfl rfl (by decide) (tmod_nat a 15) (lt rfl)) rfl rfl ?_
  refine sq (f_move rfl (lt rfl)) rfl rfl ?_
  refine sq (f_convI rfl us5 un3 (IntWalk.i64_in _ (by omega)) (lt rfl)) rfl rfl ?_
  refine sq (f_remI rfl rfl (by decide) (tmod_nat b 15) (lt rfl)) rfl rfl ?_
  refine sq (f_assign rfl (lt rfl)) rfl rfl ?_
  refine sq (f_assign rfl (lt rfl)) rfl rfl ?_
  refine hits_nil ?_
  refine to_next ?_
  refine hits_seq ?_
  refine hits_drawn mixed ?_
  refine dq (f_move rfl (lt rfl)) rfl rfl ?_
  refine dq (f_move rfl (lt rfl)) rfl rfl ?_
  refine dq (f_idxList rfl rfl rfl un41 kd9 (Int.natCast_nonneg _) ap (lt rfl)) rfl rfl ?_
  refine dq (f_load kd9 rfl rfl (lt rfl)) rfl rfl ?_
  refine dq (f_move rfl (lt rfl)) rfl rfl ?_
  refine dq (f_move rfl (lt rfl)) rfl rfl ?_
  refine dq (f_idxList rfl rfl rfl un41 kd9 (Int.natCast_nonneg _) aq (lt rfl)) rfl rfl ?_
  refine dq (f_load kd9 rfl rfl (lt rfl)) rfl rfl ?_
  refine dq (f_call en10 rfl (signed_no mp mq h2) (lt rfl)) rfl rfl ?_
  refine dq (f_move rfl (lt rfl)) rfl rfl ?_
  refine dq (f_extract rfl rfl (lt rfl)) rfl rfl ?_
  refine dq (f_extract rfl rfl (lt rfl)) rfl rfl ?_
  refine dq (f_alloc zc46 (lt rfl)) rfl rfl ?_
  refine dq (f_store kd46 rfl rfl rfl rfl rfl) rfl rfl ?_
  refine dq (f_assign rfl (lt rfl)) rfl rfl ?_
  refine dq_nil rfl ?_
  refine to_next ?_
  refine hits_seq ?_
  refine hits_seq ?_
  refine hits_region ?_
  refine sq (f_move rfl (lt rfl)) rfl rfl ?_
  refine sq (f_move rfl (lt rfl)) rfl rfl ?_
  refine sq (f_idxList rfl rfl rfl un42 kd3 (Int.natCast_nonneg _) bp (lt rfl)) rfl rfl ?_
  refine sq (f_load kd3 rfl rfl (lt rfl)) rfl rfl ?_
  refine sq (f_bin rfl rfl (bT (beq_iff_eq.mpr (by rw [h2.1]; rfl))) (lt rfl)) rfl rfl ?_
  refine sq (f_move rfl (lt rfl)) rfl rfl ?_
  refine sq_yes (f_move rfl (lt rfl)) rfl rfl rfl rfl (lt rfl) ?_
  refine sq_yes (f_move rfl (lt rfl)) rfl rfl rfl rfl (lt rfl) ?_
  refine sq_yes (f_idxList rfl rfl rfl un42 kd3 (Int.natCast_nonneg _) bq (lt rfl)) rfl rfl rfl rfl (lt rfl) ?_
  refine sq_yes (f_load kd3 rfl rfl (lt rfl)) rfl rfl rfl rfl (lt rfl) ?_
  refine sq_yes (f_bin rfl rfl (bT (beq_iff_eq.mpr (by rw [h2.2]; rfl))) (lt rfl)) rfl rfl rfl rfl (lt rfl) ?_
  refine sq (f_pick rfl rfl (lt rfl)) rfl rfl ?_
  refine hits_nil ?_
  refine to_next ?_
  refine hits_cond rfl (fun c0 => ?_) (fun c0 => absurd c0 Bool.false_ne_true.symm)
  refine hits_seq ?_
  refine hits_region ?_
  refine sq (f_call en7 rfl alive_c (lt rfl)) rfl rfl ?_
  refine sq (f_move rfl (lt rfl)) rfl rfl ?_
  refine sq_yes (f_move rfl (lt rfl)) rfl rfl rfl rfl (lt rfl) ?_
  refine sq_yes (f_un rfl rfl (lt rfl)) rfl rfl rfl rfl (lt rfl) ?_
  refine sq (f_pick rfl rfl (lt rfl)) rfl rfl ?_
  refine sq (f_assign rfl (lt rfl)) rfl rfl ?_
  refine hits_nil ?_
  refine to_next ?_
  refine hits_ret ?_
  refine to_ret ?_
  exact hits_done (.inl rfl) rfl rfl rfl

set_option maxRecDepth 100000 in
theorem binds_r {a b : Nat} {p q : Sgn} (ha : a < 256) (hb : b < 256) (hp : twosL[a % 15]? = some p) (hq : twosL[b % 15]? = some q) (h2 : ¬ (p.2.2 = 2 ∧ q.2.2 = 2)) (h3 : p.2.2 < q.2.2) : CallsP Tryz.prog Lw 5 [.sc (.int .u8 (a : Int)), .sc (.int .u8 (b : Int))] (.sc (.bool true)) := by
  have mp := List.mem_of_getElem? hp
  have mq := List.mem_of_getElem? hq
  have ap := map_at (g := fun p : Sgn => txD p.1) hp
  have aq := map_at (g := fun p : Sgn => txD p.1) hq
  have bp := map_at (g := fun p : Sgn => nD p.2.2) hp
  have bq := map_at (g := fun p : Sgn => nD p.2.2) hq
  refine callsP_of gs_lw Tryz.func5 rfl Tryz.ntmps5 rfl fun w0 S0 stab => ?_
  refine hits_seq ?_
  refine hits_region ?_
  refine sq (f_assign rfl (lt rfl)) rfl rfl ?_
  refine hits_nil ?_
  refine to_next ?_
  refine hits_seq ?_
  refine hits_region ?_
  refine sq (f_buildSlice sk41 rfl rfl rfl rfl rfl rfl (by decide) (by decide) (lt rfl)) rfl rfl ?_
  refine sq (f_assign rfl (lt rfl)) rfl rfl ?_
  refine hits_nil ?_
  refine to_next ?_
  refine hits_seq ?_
  refine hits_region ?_
  refine sq (f_buildSlice sk42 rfl rfl rfl rfl rfl rfl (by decide) (by decide) (lt rfl)) rfl rfl ?_
  refine sq (f_assign rfl (lt rfl)) rfl rfl ?_
  refine hits_nil ?_
  refine to_next ?_
  refine hits_seq ?_
  refine hits_region ?_
  refine sq (f_move rfl (lt rfl)) rfl rfl ?_
  refine sq (f_convI rfl us5 un3 (IntWalk.i64_in _ (by omega)) (lt rfl)) rfl rfl ?_
  refine sq (f_remI rfl rfl (by decide) (tmod_nat a 15) (lt rfl)) rfl rfl ?_
  refine sq (f_move rfl (lt rfl)) rfl rfl ?_
  refine sq (f_convI rfl us5 un3 (IntWalk.i64_in _ (by omega)) (lt rfl)) rfl rfl ?_
  refine sq (f_remI rfl rfl (by decide) (tmod_nat b 15) (lt rfl)) rfl rfl ?_
  refine sq (f_assign rfl (lt rfl)) rfl rfl ?_
  refine sq (f_assign rfl (lt rfl)) rfl rfl ?_
  refine hits_nil ?_
  refine to_next ?_
  refine hits_seq ?_
  refine hits_drawn mixed ?_
  refine dq (f_move rfl (lt rfl)) rfl rfl ?_
  refine dq (f_move rfl (lt rfl)) rfl rfl ?_
  refine dq (f_idxList rfl rfl rfl un41 kd9 (Int.natCast_nonneg _) ap (lt rfl)) rfl rfl ?_
  refine dq (f_load kd9 rfl rfl (lt rfl)) rfl rfl ?_
  refine dq (f_move rfl (lt rfl)) rfl rfl ?_
  refine dq (f_move rfl (lt rfl)) rfl rfl ?_
  refine dq (f_idxList rfl rfl rfl un41 kd9 (Int.natCast_nonneg _) aq (lt rfl)) rfl rfl ?_
  refine dq (f_load kd9 rfl rfl (lt rfl)) rfl rfl ?_
  refine dq (f_call en10 rfl (signed_r mp mq h2 h3) (lt rfl)) rfl rfl ?_
  refine dq (f_move rfl (lt rfl)) rfl rfl ?_
  refine dq (f_extract rfl rfl (lt rfl)) rfl rfl ?_
  refine dq (f_extract rfl rfl (lt rfl)) rfl rfl ?_
  refine dq (f_alloc zc46 (lt rfl)) rfl rfl ?_
  refine dq (f_store kd46 rfl rfl rfl rfl rfl) rfl rfl ?_
  refine dq (f_assign rfl (lt rfl)) rfl rfl ?_
  refine dq_nil rfl ?_
  refine to_next ?_
  refine hits_seq ?_
  refine hits_seq ?_
  by_cases h5 : p.2.2 = 2
  · refine hits_region ?_
    refine sq (f_move rfl (lt rfl)) rfl rfl ?_
    refine sq (f_move rfl (lt rfl)) rfl rfl ?_
    refine sq (f_idxList rfl rfl rfl un42 kd3 (Int.natCast_nonneg _) bp (lt rfl)) rfl rfl ?_
    refine sq (f_load kd3 rfl rfl (lt rfl)) rfl rfl ?_
    refine sq (f_bin rfl rfl (bT (beq_iff_eq.mpr (by rw [h5]; rfl))) (lt rfl)) rfl rfl ?_
    refine sq (f_move rfl (lt rfl)) rfl rfl ?_
    refine sq_yes (f_move rfl (lt rfl)) rfl rfl rfl rfl (lt rfl) ?_
    refine sq_yes (f_move rfl (lt rfl)) rfl rfl rfl rfl (lt rfl) ?_
    refine sq_yes (f_idxList rfl rfl rfl un42 kd3 (Int.natCast_nonneg _) bq (lt rfl)) rfl rfl rfl rfl (lt rfl) ?_
    refine sq_yes (f_load kd3 rfl rfl (lt rfl)) rfl rfl rfl rfl (lt rfl) ?_
    refine sq_yes (f_bin rfl rfl (bT (beq_eq_false_iff_ne.mpr (by omega))) (lt rfl)) rfl rfl rfl rfl (lt rfl) ?_
    refine sq (f_pick rfl rfl (lt rfl)) rfl rfl ?_
    refine hits_nil ?_
    refine to_next ?_
    refine hits_cond rfl (fun c0 => absurd c0 Bool.false_ne_true) (fun c0 => ?_)
    refine hits_skip ?_
    refine to_next ?_
    refine hits_seq ?_
    refine hits_seq ?_
    refine hits_region ?_
    refine sq (f_call en7 rfl alive_c (lt rfl)) rfl rfl ?_
    refine sq (f_un rfl rfl (lt rfl)) rfl rfl ?_
    refine sq (f_move rfl (lt rfl)) rfl rfl ?_
    refine sq_yes (f_move rfl (lt rfl)) rfl rfl rfl rfl (lt rfl) ?_
    refine sq_yes (f_un rfl rfl (lt rfl)) rfl rfl rfl rfl (lt rfl) ?_
    refine sq (f_pick rfl rfl (lt rfl)) rfl rfl ?_
    refine sq (f_move rfl (lt rfl)) rfl rfl ?_
    refine sq_yes (f_fieldAddr rfl kf46_6 rfl (lt rfl)) rfl rfl rfl rfl (lt rfl) ?_
    refine sq_yes (f_load kd44 rfl rfl (lt rfl)) rfl rfl rfl rfl (lt rfl) ?_
    refine sq_yes (f_lenListN rfl rfl un44 rfl (lt rfl)) rfl rfl rfl rfl (lt rfl) ?_
    refine sq_yes (f_bin rfl rfl (bT (b' := false) rfl) (lt rfl)) rfl rfl rfl rfl (lt rfl) ?_
    refine sq (f_pick rfl rfl (lt rfl)) rfl rfl ?_
    refine hits_nil ?_
    refine to_next ?_
    refine hits_cond rfl (fun c1 => absurd c1 Bool.false_ne_true) (fun c1 => ?_)
    refine hits_skip ?_
    refine to_next ?_
    refine hits_seq ?_
    refine hits_seq ?_
    refine hits_drawn mixed ?_
    refine dq (f_move rfl (lt rfl)) rfl rfl ?_
    refine dq (f_move rfl (lt rfl)) rfl rfl ?_
    refine dq (f_idxList rfl rfl rfl un42 kd3 (Int.natCast_nonneg _) bq (lt rfl)) rfl rfl ?_
    refine dq (f_load kd3 rfl rfl (lt rfl)) rfl rfl ?_
    refine dq (f_move rfl (lt rfl)) rfl rfl ?_
    refine dq (f_move rfl (lt rfl)) rfl rfl ?_
    refine dq (f_idxList rfl rfl rfl un42 kd3 (Int.natCast_nonneg _) bp (lt rfl)) rfl rfl ?_
    refine dq (f_load kd3 rfl rfl (lt rfl)) rfl rfl ?_
    refine dq (f_bin rfl rfl (bT (decide_eq_true (by omega))) (lt rfl)) rfl rfl ?_
    refine dq_nil rfl ?_
    refine to_next ?_
    refine hits_cond rfl (fun c2 => ?_) (fun c2 => absurd c2 Bool.false_ne_true.symm)
    refine hits_seq ?_
    refine hits_region ?_
    refine sq (f_fieldAddr rfl kf46_6 rfl (lt rfl)) rfl rfl ?_
    refine sq (f_load kd44 rfl rfl (lt rfl)) rfl rfl ?_
    refine sq (f_idxList rfl rfl rfl un44 kd46 (by decide) rfl (lt rfl)) rfl rfl ?_
    refine sq (f_fieldAddr rfl kf46_2 rfl (lt rfl)) rfl rfl ?_
    refine sq (f_load kd9 rfl rfl (lt rfl)) rfl rfl ?_
    refine sq (f_bin rfl rfl (bT (((B_beq [120] [120]).trans (decide_eq_true rfl)))) (lt rfl)) rfl rfl ?_
    refine sq (f_move rfl (lt rfl)) rfl rfl ?_
    refine sq_yes (f_fieldAddr rfl kf46_6 rfl (lt rfl)) rfl rfl rfl rfl (lt rfl) ?_
    refine sq_yes (f_load kd44 rfl rfl (lt rfl)) rfl rfl rfl rfl (lt rfl) ?_
    refine sq_yes (f_idxList rfl rfl rfl un44 kd46 (by decide) rfl (lt rfl)) rfl rfl rfl rfl (lt rfl) ?_
    refine sq_yes (f_fieldAddr rfl kf46_6 rfl (lt rfl)) rfl rfl rfl rfl (lt rfl) ?_
    refine sq_yes (f_load kd44 rfl rfl (lt rfl)) rfl rfl rfl rfl (lt rfl) ?_
    refine sq_yes (f_lenListN rfl rfl un44 rfl (lt rfl)) rfl rfl rfl rfl (lt rfl) ?_
    refine sq_yes (f_bin rfl rfl (bT (b' := true) rfl) (lt rfl)) rfl rfl rfl rfl (lt rfl) ?_
    refine sq (f_pick rfl rfl (lt rfl)) rfl rfl ?_
    refine sq (f_move rfl (lt rfl)) rfl rfl ?_
    refine sq_yes (f_fieldAddr rfl kf46_6 rfl (lt rfl)) rfl rfl rfl rfl (lt rfl) ?_
    refine sq_yes (f_load kd44 rfl rfl (lt rfl)) rfl rfl rfl rfl (lt rfl) ?_
    refine sq_yes (f_idxList rfl rfl rfl un44 kd46 (by decide) rfl (lt rfl)) rfl rfl rfl rfl (lt rfl) ?_
    refine sq_yes (f_fieldAddr rfl kf46_6 rfl (lt rfl)) rfl rfl rfl rfl (lt rfl) ?_
    refine sq_yes (f_load kd44 rfl rfl (lt rfl)) rfl rfl rfl rfl (lt rfl) ?_
    refine sq_yes (f_idxList rfl rfl rfl un44 kd46 (by decide) rfl (lt rfl)) rfl rfl rfl rfl (lt rfl) ?_
    refine sq_yes (f_fieldAddr rfl kf46_2 rfl (lt rfl)) rfl rfl rfl rfl (lt rfl) ?_
    refine sq_yes (f_load kd9 rfl rfl (lt rfl)) rfl rfl rfl rfl (lt rfl) ?_
    refine sq_yes (f_bin rfl rfl (bT (((B_beq [121] [121]).trans (decide_eq_true rfl)))) (lt rfl)) rfl rfl rfl rfl (lt rfl) ?_
    refine sq (f_pick rfl rfl (lt rfl)) rfl rfl ?_
    refine sq (f_assign rfl (lt rfl)) rfl rfl ?_
    refine hits_nil ?_
    refine to_next ?_
    refine hits_ret ?_
    refine to_ret ?_
    exact hits_done (.inl rfl) rfl rfl rfl
  · refine hits_region ?_
    refine sq (f_move rfl (lt rfl)) rfl rfl ?_
    refine sq (f_move rfl (lt rfl)) rfl rfl ?_
    refine sq (f_idxList rfl rfl rfl un42 kd3 (Int.natCast_nonneg _) bp (lt rfl)) rfl rfl ?_
    refine sq (f_load kd3 rfl rfl (lt rfl)) rfl rfl ?_
    refine sq (f_bin rfl rfl (bT (beq_eq_false_iff_ne.mpr (by omega))) (lt rfl)) rfl rfl ?_
    refine sq (f_move rfl (lt rfl)) rfl rfl ?_
    refine sq_no rfl rfl rfl rfl rfl (lt rfl) (lt rfl) ?_
    refine sq_no rfl rfl rfl rfl rfl (lt rfl) (lt rfl) ?_
    refine sq_no rfl rfl rfl rfl rfl (lt rfl) (lt rfl) ?_
    refine sq_no rfl rfl rfl rfl rfl (lt rfl) (lt rfl) ?_
    refine sq_no rfl rfl rfl rfl rfl (lt rfl) (lt rfl) ?_
    refine sq (f_pick rfl rfl (lt rfl)) rfl rfl ?_
    refine hits_nil ?_
    refine to_next ?_
    refine hits_cond rfl (fun c0 => absurd c0 Bool.false_ne_true) (fun c0 => ?_)
    refine hits_skip ?_
    refine to_next ?_
    refine hits_seq ?_
    refine hits_seq ?_
    refine hits_region ?_
    refine sq (f_call en7 rfl alive_c (lt rfl)) rfl rfl ?_
    refine sq (f_un rfl rfl (lt rfl)) rfl rfl ?_
    refine sq (f_move rfl (lt rfl)) rfl rfl ?_
    refine sq_yes (f_move rfl (lt rfl)) rfl rfl rfl rfl (lt rfl) ?_
    refine sq_yes (f_un rfl rfl (lt rfl)) rfl rfl rfl rfl (lt rfl) ?_
    refine sq (f_pick rfl rfl (lt rfl)) rfl rfl ?_
    refine sq (f_move rfl (lt rfl)) rfl rfl ?_
    refine sq_yes (f_fieldAddr rfl kf46_6 rfl (lt rfl)) rfl rfl rfl rfl (lt rfl) ?_
    refine sq_yes (f_load kd44 rfl rfl (lt rfl)) rfl rfl rfl rfl (lt rfl) ?_
    refine sq_yes (f_lenListN rfl rfl un44 rfl (lt rfl)) rfl rfl rfl rfl (lt rfl) ?_
    refine sq_yes (f_bin rfl rfl (bT (b' := false) rfl) (lt rfl)) rfl rfl rfl rfl (lt rfl) ?_
    refine sq (f_pick rfl rfl (lt rfl)) rfl rfl ?_
    refine hits_nil ?_
    refine to_next ?_
    refine hits_cond rfl (fun c1 => absurd c1 Bool.false_ne_true) (fun c1 => ?_)
    refine hits_skip ?_
    refine to_next ?_
    refine hits_seq ?_
    refine hits_seq ?_
    refine hits_drawn mixed ?_
    refine dq (f_move rfl (lt rfl)) rfl rfl ?_
    refine dq (f_move rfl (lt rfl)) rfl rfl ?_
    refine dq (f_idxList rfl rfl rfl un42 kd3 (Int.natCast_nonneg _) bq (lt rfl)) rfl rfl ?_
    refine dq (f_load kd3 rfl rfl (lt rfl)) rfl rfl ?_
    refine dq (f_move rfl (lt rfl)) rfl rfl ?_
    refine dq (f_move rfl (lt rfl)) rfl rfl ?_
    refine dq (f_idxList rfl rfl rfl un42 kd3 (Int.natCast_nonneg _) bp (lt rfl)) rfl rfl ?_
    refine dq (f_load kd3 rfl rfl (lt rfl)) rfl rfl ?_
    refine dq (f_bin rfl rfl (bT (decide_eq_true (by omega))) (lt rfl)) rfl rfl ?_
    refine dq_nil rfl ?_
    refine to_next ?_
    refine hits_cond rfl (fun c2 => ?_) (fun c2 => absurd c2 Bool.false_ne_true.symm)
    refine hits_seq ?_
    refine hits_region ?_
    refine sq (f_fieldAddr rfl kf46_6 rfl (lt rfl)) rfl rfl ?_
    refine sq (f_load kd44 rfl rfl (lt rfl)) rfl rfl ?_
    refine sq (f_idxList rfl rfl rfl un44 kd46 (by decide) rfl (lt rfl)) rfl rfl ?_
    refine sq (f_fieldAddr rfl kf46_2 rfl (lt rfl)) rfl rfl ?_
    refine sq (f_load kd9 rfl rfl (lt rfl)) rfl rfl ?_
    refine sq (f_bin rfl rfl (bT (((B_beq [120] [120]).trans (decide_eq_true rfl)))) (lt rfl)) rfl rfl ?_
    refine sq (f_move rfl (lt rfl)) rfl rfl ?_
    refine sq_yes (f_fieldAddr rfl kf46_6 rfl (lt rfl)) rfl rfl rfl rfl (lt rfl) ?_
    refine sq_yes (f_load kd44 rfl rfl (lt rfl)) rfl rfl rfl rfl (lt rfl) ?_
    refine sq_yes (f_idxList rfl rfl rfl un44 kd46 (by decide) rfl (lt rfl)) rfl rfl rfl rfl (lt rfl) ?_
    refine sq_yes (f_fieldAddr rfl kf46_6 rfl (lt rfl)) rfl rfl rfl rfl (lt rfl) ?_
    refine sq_yes (f_load kd44 rfl rfl (lt rfl)) rfl rfl rfl rfl (lt rfl) ?_
    refine sq_yes (f_lenListN rfl rfl un44 rfl (lt rfl)) rfl rfl rfl rfl (lt rfl) ?_
    refine sq_yes (f_bin rfl rfl (bT (b' := true) rfl) (lt rfl)) rfl rfl rfl rfl (lt rfl) ?_
    refine sq (f_pick rfl rfl (lt rfl)) rfl rfl ?_
    refine sq (f_move rfl (lt rfl)) rfl rfl ?_
    refine sq_yes (f_fieldAddr rfl kf46_6 rfl (lt rfl)) rfl rfl rfl rfl (lt rfl) ?_
    refine sq_yes (f_load kd44 rfl rfl (lt rfl)) rfl rfl rfl rfl (lt rfl) ?_
    refine sq_yes (f_idxList rfl rfl rfl un44 kd46 (by decide) rfl (lt rfl)) rfl rfl rfl rfl (lt rfl) ?_
    refine sq_yes (f_fieldAddr rfl kf46_6 rfl (lt rfl)) rfl rfl rfl rfl (lt rfl) ?_
    refine sq_yes (f_load kd44 rfl rfl (lt rfl)) rfl rfl rfl rfl (lt rfl) ?_
    refine sq_yes (f_idxList rfl rfl rfl un44 kd46 (by decide) rfl (lt rfl)) rfl rfl rfl rfl (lt rfl) ?_
    refine sq_yes (f_fieldAddr rfl kf46_2 rfl (lt rfl)) rfl rfl rfl rfl (lt rfl) ?_
    refine sq_yes (f_load kd9 rfl rfl (lt rfl)) rfl rfl rfl rfl (lt rfl) ?_
    refine sq_yes (f_bin rfl rfl (bT (((B_beq [121] [121]).trans (decide_eq_true rfl)))) (lt rfl)) rfl rfl rfl rfl (lt rfl) ?_
    refine sq (f_pick rfl rfl (lt rfl)) rfl rfl ?_
    refine sq (f_assign rfl (lt rfl)) rfl rfl ?_
    refine hits_nil ?_
    refine to_next ?_
    refine hits_ret ?_
    refine to_ret ?_
    exact hits_done (.inl rfl) rfl rfl rfl

set_option maxRecDepth 100000 in
theorem binds_l {a b : Nat} {p q : Sgn} (ha : a < 256) (hb : b < 256) (hp : twosL[a % 15]? = some p) (hq : twosL[b % 15]? = some q) (h2 : ¬ (p.2.2 = 2 ∧ q.2.2 = 2)) (h3 : ¬ p.2.2 < q.2.2) : CallsP Tryz.prog Lw 5 [.sc (.int .u8 (a : Int)), .sc (.int .u8 (b : Int))] (.sc (.bool true)) := by
  have mp := List.mem_of_getElem? hp
  have mq := List.mem_of_getElem? hq
  have ap := map_at (g := fun p : Sgn => txD p.1) hp
  have aq := map_at (g := fun p : Sgn => txD p.1) hq
  have bp := map_at (g := fun p : Sgn => nD p.2.2) hp
  have bq := map_at (g := fun p : Sgn => nD p.2.2) hq
  refine callsP_of gs_lw Tryz.func5 rfl Tryz.ntmps5 rfl fun w0 S0 stab => ?_
  refine hits_seq ?_
  refine hits_region ?_
  refine sq (f_assign rfl (lt rfl)) rfl rfl ?_
  refine hits_nil ?_
  refine to_next ?_
  refine hits_seq ?_
  refine hits_region ?_
  refine sq (f_buildSlice sk41 rfl rfl rfl rfl rfl rfl (by decide) (by decide) (lt rfl)) rfl rfl ?_
  refine sq (f_assign rfl (lt rfl)) rfl rfl ?_
  refine hits_nil ?_
  refine to_next ?_
  refine hits_seq ?_
  refine hits_region ?_
  refine sq (f_buildSlice sk42 rfl rfl rfl rfl rfl rfl (by decide) (by decide) (lt rfl)) rfl rfl ?_
  refine sq (f_assign rfl (lt rfl)) rfl rfl ?_
  refine hits_nil ?_
  refine to_next ?_
  refine hits_seq ?_
  refine hits_region ?_
  refine sq (f_move rfl (lt rfl)) rfl rfl ?_
  refine sq (f_convI rfl us5 un3 (IntWalk.i64_in _ (by omega)) (lt rfl)) rfl rfl ?_
  refine sq (f_remI rfl rfl (by decide) (tmod_nat a 15) (lt rfl)) rfl rfl ?_
  refine sq (f_move rfl (lt rfl)) rfl rfl ?_
  refine sq (f_convI rfl us5 un3 (IntWalk.i64_in _ (by omega)) (lt rfl)) rfl rfl ?_
  refine sq (f_remI rfl rfl (by decide) (tmod_nat b 15) (lt rfl)) rfl rfl ?_
  refine sq (f_assign rfl (lt rfl)) rfl rfl ?_
  refine sq (f_assign rfl (lt rfl)) rfl rfl ?_
  refine hits_nil ?_
  refine to_next ?_
  refine hits_seq ?_
  refine hits_drawn mixed ?_
  refine dq (f_move rfl (lt rfl)) rfl rfl ?_
  refine dq (f_move rfl (lt rfl)) rfl rfl ?_
  refine dq (f_idxList rfl rfl rfl un41 kd9 (Int.natCast_nonneg _) ap (lt rfl)) rfl rfl ?_
  refine dq (f_load kd9 rfl rfl (lt rfl)) rfl rfl ?_
  refine dq (f_move rfl (lt rfl)) rfl rfl ?_
  refine dq (f_move rfl (lt rfl)) rfl rfl ?_
  refine dq (f_idxList rfl rfl rfl un41 kd9 (Int.natCast_nonneg _) aq (lt rfl)) rfl rfl ?_
  refine dq (f_load kd9 rfl rfl (lt rfl)) rfl rfl ?_
  refine dq (f_call en10 rfl (signed_l mp mq h2 h3) (lt rfl)) rfl rfl ?_
  refine dq (f_move rfl (lt rfl)) rfl rfl ?_
  refine dq (f_extract rfl rfl (lt rfl)) rfl rfl ?_
  refine dq (f_extract rfl rfl (lt rfl)) rfl rfl ?_
  refine dq (f_alloc zc46 (lt rfl)) rfl rfl ?_
  refine dq (f_store kd46 rfl rfl rfl rfl rfl) rfl rfl ?_
  refine dq (f_assign rfl (lt rfl)) rfl rfl ?_
  refine dq_nil rfl ?_
  refine to_next ?_
  refine hits_seq ?_
  refine hits_seq ?_
  by_cases h5 : p.2.2 = 2
  · refine hits_region ?_
    refine sq (f_move rfl (lt rfl)) rfl rfl ?_
    refine sq (f_move rfl (lt rfl)) rfl rfl ?_
    refine sq (f_idxList rfl rfl rfl un42 kd3 (Int.natCast_nonneg _) bp (lt rfl)) rfl rfl ?_
    refine sq (f_load kd3 rfl rfl (lt rfl)) rfl rfl ?_
    refine sq (f_bin rfl rfl (bT (beq_iff_eq.mpr (by rw [h5]; rfl))) (lt rfl)) rfl rfl ?_
    refine sq (f_move rfl (lt rfl)) rfl rfl ?_
    refine sq_yes (f_move rfl (lt rfl)) rfl rfl rfl rfl (lt rfl) ?_
    refine sq_yes (f_move rfl (lt rfl)) rfl rfl rfl rfl (lt rfl) ?_
    refine sq_yes (f_idxList rfl rfl rfl un42 kd3 (Int.natCast_nonneg _) bq (lt rfl)) rfl rfl rfl rfl (lt rfl) ?_
    refine sq_yes (f_load kd3 rfl rfl (lt rfl)) rfl rfl rfl rfl (lt rfl) ?_
    refine sq_yes (f_bin rfl rfl (bT (beq_eq_false_iff_ne.mpr (by omega))) (lt rfl)) rfl rfl rfl rfl (lt rfl) ?_
    refine sq (f_pick rfl rfl (lt rfl)) rfl rfl ?_
    refine hits_nil ?_
    refine to_next ?_
    refine hits_cond rfl (fun c0 => absurd c0 Bool.false_ne_true) (fun c0 => ?_)
    refine hits_skip ?_
    refine to_next ?_
    refine hits_seq ?_
    refine hits_seq ?_
    refine hits_region ?_
    refine sq (f_call en7 rfl alive_c (lt rfl)) rfl rfl ?_
    refine sq (f_un rfl rfl (lt rfl)) rfl rfl ?_
    refine sq (f_move rfl (lt rfl)) rfl rfl ?_
    refine sq_yes (f_move rfl (lt rfl)) rfl rfl rfl rfl (lt rfl) ?_
    refine sq_yes (f_un rfl rfl (lt rfl)) rfl rfl rfl rfl (lt rfl) ?_
    refine sq (f_pick rfl rfl (lt rfl)) rfl rfl ?_
    refine sq (f_move rfl (lt rfl)) rfl rfl ?_
    refine sq_yes (f_fieldAddr rfl kf46_6 rfl (lt rfl)) rfl rfl rfl rfl (lt rfl) ?_
    refine sq_yes (f_load kd44 rfl rfl (lt rfl)) rfl rfl rfl rfl (lt rfl) ?_
    refine sq_yes (f_lenListN rfl rfl un44 rfl (lt rfl)) rfl rfl rfl rfl (lt rfl) ?_
    refine sq_yes (f_bin rfl rfl (bT (b' := false) rfl) (lt rfl)) rfl rfl rfl rfl (lt rfl) ?_
    refine sq (f_pick rfl rfl (lt rfl)) rfl rfl ?_
    refine hits_nil ?_
    refine to_next ?_
    refine hits_cond rfl (fun c1 => absurd c1 Bool.false_ne_true) (fun c1 => ?_)
    refine hits_skip ?_
    refine to_next ?_
    refine hits_seq ?_
    refine hits_seq ?_
    refine hits_drawn mixed ?_
    refine dq (f_move rfl (lt rfl)) rfl rfl ?_
    refine dq (f_move rfl (lt rfl)) rfl rfl ?_
    refine dq (f_idxList rfl rfl rfl un42 kd3 (Int.natCast_nonneg _) bq (lt rfl)) rfl rfl ?_
    refine dq (f_load kd3 rfl rfl (lt rfl)) rfl rfl ?_
    refine dq (f_move rfl (lt rfl)) rfl rfl ?_
    refine dq (f_move rfl (lt rfl)) rfl rfl ?_
    refine dq (f_idxList rfl rfl rfl un42 kd3 (Int.natCast_nonneg _) bp (lt rfl)) rfl rfl ?_
    refine dq (f_load kd3 rfl rfl (lt rfl)) rfl rfl ?_
    refine dq (f_bin rfl rfl (bT (decide_eq_false (by omega))) (lt rfl)) rfl rfl ?_
    refine dq_nil rfl ?_
    refine to_next ?_
    refine hits_cond rfl (fun c2 => absurd c2 Bool.false_ne_true) (fun c2 => ?_)
    refine hits_skip ?_
    refine to_next ?_
    refine hits_seq ?_
    refine hits_region ?_
    refine sq (f_fieldAddr rfl kf46_6 rfl (lt rfl)) rfl rfl ?_
    refine sq (f_load kd44 rfl rfl (lt rfl)) rfl rfl ?_
    refine sq (f_idxList rfl rfl rfl un44 kd46 (by decide) rfl (lt rfl)) rfl rfl ?_
    refine sq (f_fieldAddr rfl kf46_2 rfl (lt rfl)) rfl rfl ?_
    refine sq (f_load kd9 rfl rfl (lt rfl)) rfl rfl ?_
    refine sq (f_bin rfl rfl (bT (((B_beq [122] [122]).trans (decide_eq_true rfl)))) (lt rfl)) rfl rfl ?_
    refine sq (f_move rfl (lt rfl)) rfl rfl ?_
    refine sq_yes (f_fieldAddr rfl kf46_6 rfl (lt rfl)) rfl rfl rfl rfl (lt rfl) ?_
    refine sq_yes (f_load kd44 rfl rfl (lt rfl)) rfl rfl rfl rfl (lt rfl) ?_
    refine sq_yes (f_idxList rfl rfl rfl un44 kd46 (by decide) rfl (lt rfl)) rfl rfl rfl rfl (lt rfl) ?_
    refine sq_yes (f_fieldAddr rfl kf46_6 rfl (lt rfl)) rfl rfl rfl rfl (lt rfl) ?_
    refine sq_yes (f_load kd44 rfl rfl (lt rfl)) rfl rfl rfl rfl (lt rfl) ?_
    refine sq_yes (f_lenListN rfl rfl un44 rfl (lt rfl)) rfl rfl rfl rfl (lt rfl) ?_
    refine sq_yes (f_bin rfl rfl (bT (b' := true) rfl) (lt rfl)) rfl rfl rfl rfl (lt rfl) ?_
    refine sq (f_pick rfl rfl (lt rfl)) rfl rfl ?_
    refine sq (f_move rfl (lt rfl)) rfl rfl ?_
    refine sq_yes (f_fieldAddr rfl kf46_6 rfl (lt rfl)) rfl rfl rfl rfl (lt rfl) ?_
    refine sq_yes (f_load kd44 rfl rfl (lt rfl)) rfl rfl rfl rfl (lt rfl) ?_
    refine sq_yes (f_idxList rfl rfl rfl un44 kd46 (by decide) rfl (lt rfl)) rfl rfl rfl rfl (lt rfl) ?_
    refine sq_yes (f_fieldAddr rfl kf46_6 rfl (lt rfl)) rfl rfl rfl rfl (lt rfl) ?_
    refine sq_yes (f_load kd44 rfl rfl (lt rfl)) rfl rfl rfl rfl (lt rfl) ?_
    refine sq_yes (f_idxList rfl rfl rfl un44 kd46 (by decide) rfl (lt rfl)) rfl rfl rfl rfl (lt rfl) ?_
    refine sq_yes (f_fieldAddr rfl kf46_2 rfl (lt rfl)) rfl rfl rfl rfl (lt rfl) ?_
    refine sq_yes (f_load kd9 rfl rfl (lt rfl)) rfl rfl rfl rfl (lt rfl) ?_
    refine sq_yes (f_bin rfl rfl (bT (((B_beq [121] [121]).trans (decide_eq_true rfl)))) (lt rfl)) rfl rfl rfl rfl (lt rfl) ?_
    refine sq (f_pick rfl rfl (lt rfl)) rfl rfl ?_
    refine sq (f_assign rfl (lt rfl)) rfl rfl ?_
    refine hits_nil ?_
    refine to_next ?_
    refine hits_ret ?_
    exact hits_done (.inl rfl) rfl rfl rfl
  · refine hits_region ?_
    refine sq (f_move rfl (lt rfl)) rfl rfl ?_
    refine sq (f_move rfl (lt rfl)) rfl rfl ?_
    refine sq (f_idxList rfl rfl rfl un42 kd3 (Int.natCast_nonneg _) bp (lt rfl)) rfl rfl ?_
    refine sq (f_load kd3 rfl rfl (lt rfl)) rfl rfl ?_
    refine sq (f_bin rfl rfl (bT (beq_eq_false_iff_ne.mpr (by omega))) (lt rfl)) rfl rfl ?_
    refine sq (f_move rfl (lt rfl)) rfl rfl ?_
    refine sq_no rfl rfl rfl rfl rfl (lt rfl) (lt rfl) ?_
    refine sq_no rfl rfl rfl rfl rfl (lt rfl) (lt rfl) ?_
    refine sq_no rfl rfl rfl rfl rfl (lt rfl) (lt rfl) ?_
    refine sq_no rfl rfl rfl rfl rfl (lt rfl) (lt rfl) ?_
    refine sq_no rfl rfl rfl rfl rfl (lt rfl) (lt rfl) ?_
    refine sq (f_pick rfl rfl (lt rfl)) rfl rfl ?_
    refine hits_nil ?_
    refine to_next ?_
    refine hits_cond rfl (fun c0 => absurd c0 Bool.false_ne_true) (fun c0 => ?_)
    refine hits_skip ?_
    refine to_next ?_
    refine hits_seq ?_
    refine hits_seq ?_
    refine hits_region ?_
    refine sq (f_call en7 rfl alive_c (lt rfl)) rfl rfl ?_
    refine sq (f_un rfl rfl (lt rfl)) rfl rfl ?_
    refine sq (f_move rfl (lt rfl)) rfl rfl ?_
    refine sq_yes (f_move rfl (lt rfl)) rfl rfl rfl rfl (lt rfl) ?_
    refine sq_yes (f_un rfl rfl (lt rfl)) rfl rfl rfl rfl (lt rfl) ?_
    refine sq (f_pick rfl rfl (lt rfl)) rfl rfl ?_
    refine sq (f_move rfl (lt rfl)) rfl rfl ?_
    refine sq_yes (f_fieldAddr rfl kf46_6 rfl (lt rfl)) rfl rfl rfl rfl (lt rfl) ?_
    refine sq_yes (f_load kd44 rfl rfl (lt rfl)) rfl rfl rfl rfl (lt rfl) ?_
    refine sq_yes (f_lenListN rfl rfl un44 rfl (lt rfl)) rfl rfl rfl rfl (lt rfl) ?_
    refine sq_yes (f_bin rfl rfl (bT (b' := false) rfl) (lt rfl)) rfl rfl rfl rfl (lt rfl) ?_
    refine sq (f_pick rfl rfl (lt rfl)) rfl rfl ?_
    refine hits_nil ?_
    refine to_next ?_
    refine hits_cond rfl (fun c1 => absurd c1 Bool.false_ne_true) (fun c1 => ?_)
    refine hits_skip ?_
    refine to_next ?_
    refine hits_seq ?_
    refine hits_seq ?_
    refine hits_drawn mixed ?_
    refine dq (f_move rfl (lt rfl)) rfl rfl ?_
    refine dq (f_move rfl (lt rfl)) rfl rfl ?_
    refine dq (f_idxList rfl rfl rfl un42 kd3 (Int.natCast_nonneg _) bq (lt rfl)) rfl rfl ?_
    refine dq (f_load kd3 rfl rfl (lt rfl)) rfl rfl ?_
    refine dq (f_move rfl (lt rfl)) rfl rfl ?_
    refine dq (f_move rfl (lt rfl)) rfl rfl ?_
    refine dq (f_idxList rfl rfl rfl un42 kd3 (Int.natCast_nonneg _) bp (lt rfl)) rfl rfl ?_
    refine dq (f_load kd3 rfl rfl (lt rfl)) rfl rfl ?_
    refine dq (f_bin rfl rfl (bT (decide_eq_false (by omega))) (lt rfl)) rfl rfl ?_
    refine dq_nil rfl ?_
    refine to_next ?_
    refine hits_cond rfl (fun c2 => absurd c2 Bool.false_ne_true) (fun c2 => ?_)
    refine hits_skip ?_
    refine to_next ?_
    refine hits_seq ?_
    refine hits_region ?_
    refine sq (f_fieldAddr rfl kf46_6 rfl (lt rfl)) rfl rfl ?_
    refine sq (f_load kd44 rfl rfl (lt rfl)) rfl rfl ?_
    refine sq (f_idxList rfl rfl rfl un44 kd46 (by decide) rfl (lt rfl)) rfl rfl ?_
    refine sq (f_fieldAddr rfl kf46_2 rfl (lt rfl)) rfl rfl ?_
    refine sq (f_load kd9 rfl rfl (lt rfl)) rfl rfl ?_
    refine sq (f_bin rfl rfl (bT (((B_beq [122] [122]).trans (decide_eq_true rfl)))) (lt rfl)) rfl rfl ?_
    refine sq (f_move rfl (lt rfl)) rfl rfl ?_
    refine sq_yes (f_fieldAddr rfl kf46_6 rfl (lt rfl)) rfl rfl rfl rfl (lt rfl) ?_
    refine sq_yes (f_load kd44 rfl rfl (lt rfl)) rfl rfl rfl rfl (lt rfl) ?_
    refine sq_yes (f_idxList rfl rfl rfl un44 kd46 (by decide) rfl (lt rfl)) rfl rfl rfl rfl (lt rfl) ?_
    refine sq_yes (f_fieldAddr rfl kf46_6 rfl (lt rfl)) rfl rfl rfl rfl (lt rfl) ?_
    refine sq_yes (f_load kd44 rfl rfl (lt rfl)) rfl rfl rfl rfl (lt rfl) ?_
    refine sq_yes (f_lenListN rfl rfl un44 rfl (lt rfl)) rfl rfl rfl rfl (lt rfl) ?_
    refine sq_yes (f_bin rfl rfl (bT (b' := true) rfl) (lt rfl)) rfl rfl rfl rfl (lt rfl) ?_
    refine sq (f_pick rfl rfl (lt rfl)) rfl rfl ?_
    refine sq (f_move rfl (lt rfl)) rfl rfl ?_
    refine sq_yes (f_fieldAddr rfl kf46_6 rfl (lt rfl)) rfl rfl rfl rfl (lt rfl) ?_
    refine sq_yes (f_load kd44 rfl rfl (lt rfl)) rfl rfl rfl rfl (lt rfl) ?_
    refine sq_yes (f_idxList rfl rfl rfl un44 kd46 (by decide) rfl (lt rfl)) rfl rfl rfl rfl (lt rfl) ?_
    refine sq_yes (f_fieldAddr rfl kf46_6 rfl (lt rfl)) rfl rfl rfl rfl (lt rfl) ?_
    refine sq_yes (f_load kd44 rfl rfl (lt rfl)) rfl rfl rfl rfl (lt rfl) ?_
    refine sq_yes (f_idxList rfl rfl rfl un44 kd46 (by decide) rfl (lt rfl)) rfl rfl rfl rfl (lt rfl) ?_
    refine sq_yes (f_fieldAddr rfl kf46_2 rfl (lt rfl)) rfl rfl rfl rfl (lt rfl) ?_
    refine sq_yes (f_load kd9 rfl rfl (lt rfl)) rfl rfl rfl rfl (lt rfl) ?_
    refine sq_yes (f_bin rfl rfl (bT (((B_beq [121] [121]).trans (decide_eq_true rfl)))) (lt rfl)) rfl rfl rfl rfl (lt rfl) ?_
    refine sq (f_pick rfl rfl (lt rfl)) rfl rfl ?_
    refine sq (f_assign rfl (lt rfl)) rfl rfl ?_
    refine hits_nil ?_
    refine to_next ?_
    refine hits_ret ?_
    exact hits_done (.inl rfl) rfl rfl rfl

theorem binds_c {a b : Nat} (ha : a < 256) (hb : b < 256) : CallsP Tryz.prog Lw 5 [.sc (.int .u8 (a : Int)), .sc (.int .u8 (b : Int))] (.sc (.bool true)) := by
  have ex : ∀ n : Nat, ∃ p, twosL[n % 15]? = some p := fun n => ⟨_, List.getElem?_eq_getElem (by show n % 15 < 15; omega)⟩
  obtain ⟨p, hp⟩ := ex a
  obtain ⟨q, hq⟩ := ex b
  by_cases h2 : p.2.2 = 2 ∧ q.2.2 = 2
  · exact binds_no ha hb hp hq h2
  by_cases h3 : p.2.2 < q.2.2
  · exact binds_r ha hb hp hq h2 h3
  · exact binds_l ha hb hp hq h2 h3
theorem pointsmanlaw08_ParseBinds.calls (a0 a1 : Int) (r : Bool) (w : World) (hg : Lw w) (hk : r = true) (w0 : (Lit.int .u8 a0).wf = true) (w1 : (Lit.int .u8 a1).wf = true) : Calls Tryz.prog 5 #[.int .u8 a0, .int .u8 a1] w fun e w' => e = .returned (.bool r) ∧ Below w.heap.size w w' := by
  subst hk
  obtain ⟨a, rfl, ha⟩ := u8_nat w0
  obtain ⟨b, rfl, hb⟩ := u8_nat w1
  exact (binds_c ha hb).calls rfl rfl w hg

end Go.Proofs.YtbgeejmhkmjfdaaGreatDoor.Ln
