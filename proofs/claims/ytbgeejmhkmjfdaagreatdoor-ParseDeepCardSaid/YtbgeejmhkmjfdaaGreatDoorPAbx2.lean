/- The law ParseDeep over data. -/
import Derived.Test.YtbgeejmhkmjfdaaGreatDoorAbDp
import Derived.Test.YtbgeejmhkmjfdaaGreatDoorAbBi
import Derived.OpenShut
namespace Go.Proofs.YtbgeejmhkmjfdaaGreatDoor.Ln
open Go Go.RowKit Go.Ab Go.Proofs 
set_option linter.unusedVariables false
set_option linter.unusedSimpArgs false
theorem en7 : enters Tryz.prog 7 = true := by kernel_rfl
theorem us39 : (Tryz.prog.underlying 39).isSome = true := by kernel_rfl
theorem u8_nat {a : Int} (h : (Lit.int .u8 a).wf = true) : ∃ n : Nat, a = n ∧ n < 256 := by
  have h0 := bounds_u8 h
  exact ⟨a.toNat, by omega, by omega⟩
theorem tmod_nat (a n : Nat) : (a : Int).tmod (n : Int) = ((a % n : Nat) : Int) := (Int.ofNat_tmod a n).symm
theorem u16_nat {a : Int} (h : (Lit.int .u16 a).wf = true) : ∃ n : Nat, a = n ∧ n < 65536 := by
  have h0 := bounds_u16 h
  exact ⟨a.toNat, by omega, by omega⟩
set_option maxRecDepth 100000 in
theorem eqlB (x y : Operand) (p q : Bool) (w : World) : ((do eqGuard .eql 4 x y (.bool p) (.bool q); binOp .eql 4 (.bool p) (.bool q)) : Sem Value).run Tryz.prog w = .ok (.bool (p == q)) w := by
  have e2 : (Op.equal 4 (.bool p) (.bool q)).run Tryz.prog w = .ok (p == q) w := run_equalIn_bool' w 9999 4 p q (by kernel_rfl)
  have e3 : Tryz.prog.eqGuardType Tryz.prog.depth 4 = false := by kernel_rfl
  simp [eqGuard, binOp, e2, e3]
set_option maxHeartbeats 4000000 in
set_option maxRecDepth 100000 in
theorem deep_c {n d b : Nat} (hn : n < 65536) (hd : d < 256) (hb : b < 256) : CallsP Tryz.prog Lw 4 [.sc (.int .u16 (n : Int)), .sc (.int .u8 (d : Int)), .sc (.int .u8 (b : Int))] (.sc (.bool true)) := by
  obtain ⟨k, hkn⟩ : ∃ k, n % 5000 = k := ⟨_, rfl⟩
  have hk : k < 5000 := by omega
  have p1 := deep1 hk
  obtain ⟨ds2, p2⟩ := deep2 hd
  obtain ⟨ds3, p3⟩ := deep3 hb
  have c3 := parse_is p3 rfl
  refine callsP_of gs_lw Tryz.func4 rfl Tryz.ntmps4 rfl fun w0 S0 stab => ?_
  refine hits_seq ?_
  refine hits_region ?_
  refine sq (f_assign rfl (lt rfl)) rfl rfl ?_
  refine hits_nil ?_
  refine to_next ?_
  refine hits_seq ?_
  refine hits_region ?_
  refine sq (f_move rfl (lt rfl)) rfl rfl ?_
  refine sq (f_convI rfl us39 un3 (IntWalk.i64_in _ (by omega)) (lt rfl)) rfl rfl ?_
  refine sq (f_remI rfl rfl (by decide) ((tmod_nat n 5000).trans (by rw [hkn])) (lt rfl)) rfl rfl ?_
  refine sq (f_assign rfl (lt rfl)) rfl rfl ?_
  refine hits_nil ?_
  refine to_next ?_
  refine hits_seq ?_
  refine hits_region ?_
  refine sq (f_assign rfl (lt rfl)) rfl rfl ?_
  refine hits_nil ?_
  refine to_next ?_
  refine hits_seq ?_
  refine hits_seq ?_
  refine hits_region ?_
  refine sq (f_assign rfl (lt rfl)) rfl rfl ?_
  refine hits_nil ?_
  refine to_next ?_
  refine hits_block ?_
  refine hits_loop (fun x : Nat => [(.slot 1, some (.d (.sc (.int .u8 (d : Int))))), (.slot 2, some (.d (.sc (.int .u8 (b : Int))))), (.slot 7, some (.d (nD k))), (.slot 8, some (.d (.sc (.string (B (ctlT ++ rep [100, 114, 111, 112, 59] (x))))))), (.slot 9, some (.d (nD (x))))]) (fun x : Nat => x ≤ k) (fun x : Nat => k - x) 0 (Nat.zero_le _) ⟨rfl, rfl, rfl, rfl, rfl, trivial⟩ rfl ?_
  intro j hj0
  change j ≤ k at hj0
  change Hits _ [(.slot 1, some (.d (.sc (.int .u8 (d : Int))))), (.slot 2, some (.d (.sc (.int .u8 (b : Int))))), (.slot 7, some (.d (nD k))), (.slot 8, some (.d (.sc (.string (B (ctlT ++ rep [100, 114, 111, 112, 59] (j))))))), (.slot 9, some (.d (nD (j))))] _
  refine hits_seq ?_
  refine hits_seq ?_
  by_cases hj : j < k
  · refine hits_region ?_
    refine sq (f_move rfl (lt rfl)) rfl rfl ?_
    refine sq (f_move rfl (lt rfl)) rfl rfl ?_
    refine sq (f_bin rfl rfl (bT (decide_eq_true (by omega))) (lt rfl)) rfl rfl ?_
    refine hits_nil ?_
    refine to_next ?_
    refine hits_cond rfl (fun c0 => ?_) (fun c0 => absurd c0 Bool.false_ne_true.symm)
    refine hits_skip ?_
    refine to_next ?_
    refine hits_seq ?_
    refine hits_block ?_
    refine hits_region ?_
    refine sq (f_move rfl (lt rfl)) rfl rfl ?_
    refine sq (f_catI rfl rfl (cat_ok (ctlT ++ rep [100, 114, 111, 112, 59] j) ([100, 114, 111, 112, 59]) (by simp only [ctlT, setT, rep_len, List.length_append, List.length_cons, List.length_nil]; omega)) (B_app (ctlT ++ rep [100, 114, 111, 112, 59] j) ([100, 114, 111, 112, 59])) (lt rfl)) rfl rfl ?_
    refine sq (f_assign rfl (lt rfl)) rfl rfl ?_
    refine hits_nil ?_
    refine in_next ?_
    refine to_next ?_
    refine hits_region ?_
    refine sq (f_move rfl (lt rfl)) rfl rfl ?_
    refine sq (f_bin rfl rfl (iT (((IntWalk.i64_in _ (by omega)).trans (by omega) : _ = ((j + 1 : Nat) : Int)))) (lt rfl)) rfl rfl ?_
    refine sq (f_assign rfl (lt rfl)) rfl rfl ?_
    refine hits_nil ?_
    refine to_next ?_
    refine round_end (j + 1) (by omega : j + 1 ≤ k) (by omega) ⟨rfl, rfl, rfl, (congrArg (fun z => some (V.d (.sc (.string (B z))))) (List.append_assoc _ _ _)), rfl, trivial⟩ rfl
  · obtain rfl : k = j := by omega
    refine hits_region ?_
    refine sq (f_move rfl (lt rfl)) rfl rfl ?_
    refine sq (f_move rfl (lt rfl)) rfl rfl ?_
    refine sq (f_bin rfl rfl (bT (decide_eq_false (by omega))) (lt rfl)) rfl rfl ?_
    refine hits_nil ?_
    refine to_next ?_
    refine hits_cond rfl (fun c0 => absurd c0 Bool.false_ne_true) (fun c0 => ?_)
    refine hits_exit ?_
    refine to_exit ?_
    refine to_exit ?_
    refine in_hit rfl ?_
    refine to_next ?_
    refine hits_seq ?_
    refine hits_region ?_
    refine sq (f_assign rfl (lt rfl)) rfl rfl ?_
    refine sq (f_assign rfl (lt rfl)) rfl rfl ?_
    refine sq (f_assign rfl (lt rfl)) rfl rfl ?_
    refine hits_nil ?_
    refine to_next ?_
    refine hits_seq ?_
    refine hits_seq ?_
    refine hits_region ?_
    refine sq (f_assign rfl (lt rfl)) rfl rfl ?_
    refine hits_nil ?_
    refine to_next ?_
    refine hits_block ?_
    refine hits_loop (fun x : Nat => [(.slot 1, some (.d (.sc (.int .u8 (d : Int))))), (.slot 2, some (.d (.sc (.int .u8 (b : Int))))), (.slot 7, some (.d (nD k))), (.slot 8, some (.d (.sc (.string (B (ctlT ++ rep [100, 114, 111, 112, 59] k)))))), (.slot 10, some (.d (.sc (.string (B (rep [126] (x))))))), (.slot 11, some (.d (.sc (.string (B ([])))))), (.slot 12, some (.d (.sc (.string (B ([])))))), (.slot 13, some (.d (nD (x))))]) (fun x : Nat => x ≤ d) (fun x : Nat => d - x) 0 (Nat.zero_le _) ⟨rfl, rfl, rfl, rfl, rfl, rfl, rfl, rfl, trivial⟩ rfl ?_
    intro j hj0
    change j ≤ d at hj0
    change Hits _ [(.slot 1, some (.d (.sc (.int .u8 (d : Int))))), (.slot 2, some (.d (.sc (.int .u8 (b : Int))))), (.slot 7, some (.d (nD k))), (.slot 8, some (.d (.sc (.string (B (ctlT ++ rep [100, 114, 111, 112, 59] k)))))), (.slot 10, some (.d (.sc (.string (B (rep [126] (j))))))), (.slot 11, some (.d (.sc (.string (B ([])))))), (.slot 12, some (.d (.sc (.string (B ([])))))), (.slot 13, some (.d (nD (j))))] _
    refine hits_seq ?_
    refine hits_seq ?_
    by_cases hj : j < d
    · refine hits_region ?_
      refine sq (f_move rfl (lt rfl)) rfl rfl ?_
      refine sq (f_move rfl (lt rfl)) rfl rfl ?_
      refine sq (f_convI rfl us5 un3 (IntWalk.i64_in _ (by omega)) (lt rfl)) rfl rfl ?_
      refine sq (f_bin rfl rfl (bT (decide_eq_true (by omega))) (lt rfl)) rfl rfl ?_
      refine hits_nil ?_
      refine to_next ?_
      refine hits_cond rfl (fun c1 => ?_) (fun c1 => absurd c1 Bool.false_ne_true.symm)
      refine hits_skip ?_
      refine to_next ?_
      refine hits_seq ?_
      refine hits_block ?_
      refine hits_region ?_
      refine sq (f_move rfl (lt rfl)) rfl rfl ?_
      refine sq (f_catI rfl rfl (cat_ok (rep [126] j) ([126]) (by simp only [ctlT, setT, rep_len, List.length_append, List.length_cons, List.length_nil]; omega)) (B_app (rep [126] j) ([126])) (lt rfl)) rfl rfl ?_
      refine sq (f_assign rfl (lt rfl)) rfl rfl ?_
      refine hits_nil ?_
      refine in_next ?_
      refine to_next ?_
      refine hits_region ?_
      refine sq (f_move rfl (lt rfl)) rfl rfl ?_
      refine sq (f_bin rfl rfl (iT (((IntWalk.i64_in _ (by omega)).trans (by omega) : _ = ((j + 1 : Nat) : Int)))) (lt rfl)) rfl rfl ?_
      refine sq (f_assign rfl (lt rfl)) rfl rfl ?_
      refine hits_nil ?_
      refine to_next ?_
      refine round_end (j + 1) (by omega : j + 1 ≤ d) (by omega) ⟨rfl, rfl, rfl, rfl, rfl, rfl, rfl, rfl, trivial⟩ rfl
    · obtain rfl : d = j := by omega
      refine hits_region ?_
      refine sq (f_move rfl (lt rfl)) rfl rfl ?_
      refine sq (f_move rfl (lt rfl)) rfl rfl ?_
      refine sq (f_convI rfl us5 un3 (IntWalk.i64_in _ (by omega)) (lt rfl)) rfl rfl ?_
      refine sq (f_bin rfl rfl (bT (decide_eq_false (by omega))) (lt rfl)) rfl rfl ?_
      refine hits_nil ?_
      refine to_next ?_
      refine hits_cond rfl (fun c1 => absurd c1 Bool.false_ne_true) (fun c1 => ?_)
      refine hits_exit ?_
      refine to_exit ?_
      refine to_exit ?_
      refine in_hit rfl ?_
      refine to_next ?_
      refine hits_seq ?_
      refine hits_seq ?_
      refine hits_region ?_
      refine sq (f_assign rfl (lt rfl)) rfl rfl ?_
      refine hits_nil ?_
      refine to_next ?_
      refine hits_block ?_
      refine hits_loop (fun x : Nat => [(.slot 1, some (.d (.sc (.int .u8 (d : Int))))), (.slot 2, some (.d (.sc (.int .u8 (b : Int))))), (.slot 7, some (.d (nD k))), (.slot 8, some (.d (.sc (.string (B (ctlT ++ rep [100, 114, 111, 112, 59] k)))))), (.slot 10, some (.d (.sc (.string (B (rep [126] d)))))), (.slot 11, some (.d (.sc (.string (B (rep [40] (x))))))), (.slot 12, some (.d (.sc (.string (B (rep [41] (x))))))), (.slot 14, some (.d (nD (x))))]) (fun x : Nat => x ≤ b) (fun x : Nat => b - x) 0 (Nat.zero_le _) ⟨rfl, rfl, rfl, rfl, rfl, rfl, rfl, rfl, trivial⟩ rfl ?_
      intro j hj0
      change j ≤ b at hj0
      change Hits _ [(.slot 1, some (.d (.sc (.int .u8 (d : Int))))), (.slot 2, some (.d (.sc (.int .u8 (b : Int))))), (.slot 7, some (.d (nD k))), (.slot 8, some (.d (.sc (.string (B (ctlT ++ rep [100, 114, 111, 112, 59] k)))))), (.slot 10, some (.d (.sc (.string (B (rep [126] d)))))), (.slot 11, some (.d (.sc (.string (B (rep [40] (j))))))), (.slot 12, some (.d (.sc (.string (B (rep [41] (j))))))), (.slot 14, some (.d (nD (j))))] _
      refine hits_seq ?_
      refine hits_seq ?_
      by_cases hj : j < b
      · refine hits_region ?_
        refine sq (f_move rfl (lt rfl)) rfl rfl ?_
        refine sq (f_move rfl (lt rfl)) rfl rfl ?_
        refine sq (f_convI rfl us5 un3 (IntWalk.i64_in _ (by omega)) (lt rfl)) rfl rfl ?_
        refine sq (f_bin rfl rfl (bT (decide_eq_true (by omega))) (lt rfl)) rfl rfl ?_
        refine hits_nil ?_
        refine to_next ?_
        refine hits_cond rfl (fun c2 => ?_) (fun c2 => absurd c2 Bool.false_ne_true.symm)
        refine hits_skip ?_
        refine to_next ?_
        refine hits_seq ?_
        refine hits_block ?_
        refine hits_seq ?_
        refine hits_region ?_
        refine sq (f_move rfl (lt rfl)) rfl rfl ?_
        refine sq (f_catI rfl rfl (cat_ok (rep [40] j) ([40]) (by simp only [ctlT, setT, rep_len, List.length_append, List.length_cons, List.length_nil]; omega)) (B_app (rep [40] j) ([40])) (lt rfl)) rfl rfl ?_
        refine sq (f_assign rfl (lt rfl)) rfl rfl ?_
        refine hits_nil ?_
        refine to_next ?_
        refine hits_region ?_
        refine sq (f_move rfl (lt rfl)) rfl rfl ?_
        refine sq (f_catI rfl rfl (cat_ok (rep [41] j) ([41]) (by simp only [ctlT, setT, rep_len, List.length_append, List.length_cons, List.length_nil]; omega)) (B_app (rep [41] j) ([41])) (lt rfl)) rfl rfl ?_
        refine sq (f_assign rfl (lt rfl)) rfl rfl ?_
        refine hits_nil ?_
        refine in_next ?_
        refine to_next ?_
        refine hits_region ?_
        refine sq (f_move rfl (lt rfl)) rfl rfl ?_
        refine sq (f_bin rfl rfl (iT (((IntWalk.i64_in _ (by omega)).trans (by omega) : _ = ((j + 1 : Nat) : Int)))) (lt rfl)) rfl rfl ?_
        refine sq (f_assign rfl (lt rfl)) rfl rfl ?_
        refine hits_nil ?_
        refine to_next ?_
        refine round_end (j + 1) (by omega : j + 1 ≤ b) (by omega) ⟨rfl, rfl, rfl, rfl, rfl, rfl, rfl, rfl, trivial⟩ rfl
      · obtain rfl : b = j := by omega
        refine hits_region ?_
        refine sq (f_move rfl (lt rfl)) rfl rfl ?_
        refine sq (f_move rfl (lt rfl)) rfl rfl ?_
        refine sq (f_convI rfl us5 un3 (IntWalk.i64_in _ (by omega)) (lt rfl)) rfl rfl ?_
        refine sq (f_bin rfl rfl (bT (decide_eq_false (by omega))) (lt rfl)) rfl rfl ?_
        refine hits_nil ?_
        refine to_next ?_
        refine hits_cond rfl (fun c2 => absurd c2 Bool.false_ne_true) (fun c2 => ?_)
        refine hits_exit ?_
        refine to_exit ?_
        refine to_exit ?_
        refine in_hit rfl ?_
        refine to_next ?_
        refine hits_seq ?_
        by_cases h1 : 1 + k ≤ 4096
        · rw [if_pos h1] at p1
          have c1 := parse_is p1 rfl
          refine hits_region ?_
          refine sq (f_move rfl (lt rfl)) rfl rfl ?_
          refine sq (f_catI rfl rfl (cat_ok (ctlT ++ rep [100, 114, 111, 112, 59] k) ([125]) (by simp only [ctlT, setT, rep_len, List.length_append, List.length_cons, List.length_nil]; omega)) (B_app (ctlT ++ rep [100, 114, 111, 112, 59] k) ([125])) (lt rfl)) rfl rfl ?_
          refine sq (f_call en8 rfl c1 (lt rfl)) rfl rfl ?_
          refine sq (f_move rfl (lt rfl)) rfl rfl ?_
          refine sq (f_extract rfl rfl (lt rfl)) rfl rfl ?_
          refine sq (f_extract rfl rfl (lt rfl)) rfl rfl ?_
          refine sq (f_extract rfl rfl (lt rfl)) rfl rfl ?_
          refine sq (f_assign rfl (lt rfl)) rfl rfl ?_
          refine sq (f_assign rfl (lt rfl)) rfl rfl ?_
          refine sq (f_assign rfl (lt rfl)) rfl rfl ?_
          refine hits_nil ?_
          refine to_next ?_
          refine hits_seq ?_
          by_cases h2 : d + 3 ≤ 64
          · rw [if_pos h2] at p2
            have c2 := parse_is p2 rfl
            refine hits_region ?_
            refine sq (f_move rfl (lt rfl)) rfl rfl ?_
            refine sq (f_catI rfl rfl (cat_ok (setT) (rep [126] d) (by simp only [ctlT, setT, rep_len, List.length_append, List.length_cons, List.length_nil]; omega)) (B_app (setT) (rep [126] d)) (lt rfl)) rfl rfl ?_
            refine sq (f_catI rfl rfl (cat_ok (setT ++ rep [126] d) ([112, 59, 32, 125]) (by simp only [ctlT, setT, rep_len, List.length_append, List.length_cons, List.length_nil]; omega)) (B_app (setT ++ rep [126] d) ([112, 59, 32, 125])) (lt rfl)) rfl rfl ?_
            refine sq (f_call en8 rfl c2 (lt rfl)) rfl rfl ?_
            refine sq (f_move rfl (lt rfl)) rfl rfl ?_
            refine sq (f_extract rfl rfl (lt rfl)) rfl rfl ?_
            refine sq (f_extract rfl rfl (lt rfl)) rfl rfl ?_
            refine sq (f_extract rfl rfl (lt rfl)) rfl rfl ?_
            refine sq (f_assign rfl (lt rfl)) rfl rfl ?_
            refine sq (f_assign rfl (lt rfl)) rfl rfl ?_
            refine sq (f_assign rfl (lt rfl)) rfl rfl ?_
            refine hits_nil ?_
            refine to_next ?_
            refine hits_seq ?_
            refine hits_region ?_
            refine sq (f_move rfl (lt rfl)) rfl rfl ?_
            refine sq (f_catI rfl rfl (cat_ok (setT) (rep [40] b) (by simp only [ctlT, setT, rep_len, List.length_append, List.length_cons, List.length_nil]; omega)) (B_app (setT) (rep [40] b)) (lt rfl)) rfl rfl ?_
            refine sq (f_catI rfl rfl (cat_ok (setT ++ rep [40] b) ([112]) (by simp only [ctlT, setT, rep_len, List.length_append, List.length_cons, List.length_nil]; omega)) (B_app (setT ++ rep [40] b) ([112])) (lt rfl)) rfl rfl ?_
            refine sq (f_move rfl (lt rfl)) rfl rfl ?_
            refine sq (f_catI rfl rfl (cat_ok ((setT ++ rep [40] b) ++ [112]) (rep [41] b) (by simp only [ctlT, setT, rep_len, List.length_append, List.length_cons, List.length_nil]; omega)) (B_app ((setT ++ rep [40] b) ++ [112]) (rep [41] b)) (lt rfl)) rfl rfl ?_
            refine sq (f_catI rfl rfl (cat_ok (((setT ++ rep [40] b) ++ [112]) ++ rep [41] b) ([59, 32, 125]) (by simp only [ctlT, setT, rep_len, List.length_append, List.length_cons, List.length_nil]; omega)) (B_app (((setT ++ rep [40] b) ++ [112]) ++ rep [41] b) ([59, 32, 125])) (lt rfl)) rfl rfl ?_
            refine sq (f_call en8 rfl c3 (lt rfl)) rfl rfl ?_
            refine sq (f_move rfl (lt rfl)) rfl rfl ?_
            refine sq (f_extract rfl rfl (lt rfl)) rfl rfl ?_
            refine sq (f_extract rfl rfl (lt rfl)) rfl rfl ?_
            refine sq (f_extract rfl rfl (lt rfl)) rfl rfl ?_
            refine sq (f_assign rfl (lt rfl)) rfl rfl ?_
            refine sq (f_assign rfl (lt rfl)) rfl rfl ?_
            refine sq (f_assign rfl (lt rfl)) rfl rfl ?_
            refine hits_nil ?_
            refine to_next ?_
            refine hits_seq ?_
            refine hits_region ?_
            refine sq (f_call en7 rfl alive_c (lt rfl)) rfl rfl ?_
            refine sq (f_move rfl (lt rfl)) rfl rfl ?_
            refine sq_yes (f_move rfl (lt rfl)) rfl rfl rfl rfl (lt rfl) ?_
            refine sq_yes (f_bin rfl rfl (bT (b' := true) rfl) (lt rfl)) rfl rfl rfl rfl (lt rfl) ?_
            refine sq_yes (f_move rfl (lt rfl)) rfl rfl rfl rfl (lt rfl) ?_
            refine sq_yes (f_bin rfl rfl (iT (((IntWalk.i64_in _ (by omega)).trans (by omega) : _ = ((k + 1 : Nat) : Int)))) (lt rfl)) rfl rfl rfl rfl (lt rfl) ?_
            refine sq_yes (f_bin rfl rfl (bT (decide_eq_true (by omega))) (lt rfl)) rfl rfl rfl rfl (lt rfl) ?_
            refine sq_yes (f_binW rfl rfl (fun w => eqlB _ _ _ _ w) (lt rfl)) rfl rfl rfl rfl (lt rfl) ?_
            refine sq (f_pick rfl rfl (lt rfl)) rfl rfl ?_
            refine sq (f_move rfl (lt rfl)) rfl rfl ?_
            refine sq_yes (f_move rfl (lt rfl)) rfl rfl rfl rfl (lt rfl) ?_
            refine sq_yes (f_bin rfl rfl (bT (b' := true) rfl) (lt rfl)) rfl rfl rfl rfl (lt rfl) ?_
            refine sq_yes (f_move rfl (lt rfl)) rfl rfl rfl rfl (lt rfl) ?_
            refine sq_yes (f_convI rfl us5 un3 (IntWalk.i64_in _ (by omega)) (lt rfl)) rfl rfl rfl rfl (lt rfl) ?_
            refine sq_yes (f_bin rfl rfl (iT (((IntWalk.i64_in _ (by omega)).trans (by omega) : _ = ((d + 3 : Nat) : Int)))) (lt rfl)) rfl rfl rfl rfl (lt rfl) ?_
            refine sq_yes (f_bin rfl rfl (bT (decide_eq_true (by omega))) (lt rfl)) rfl rfl rfl rfl (lt rfl) ?_
            refine sq_yes (f_binW rfl rfl (fun w => eqlB _ _ _ _ w) (lt rfl)) rfl rfl rfl rfl (lt rfl) ?_
            refine sq (f_pick rfl rfl (lt rfl)) rfl rfl ?_
            refine sq (f_move rfl (lt rfl)) rfl rfl ?_
            refine sq_yes (f_move rfl (lt rfl)) rfl rfl rfl rfl (lt rfl) ?_
            refine sq_yes (f_bin rfl rfl (bT (b' := true) rfl) (lt rfl)) rfl rfl rfl rfl (lt rfl) ?_
            refine sq (f_pick rfl rfl (lt rfl)) rfl rfl ?_
            refine sq (f_move rfl (lt rfl)) rfl rfl ?_
            refine sq_yes (f_move rfl (lt rfl)) rfl rfl rfl rfl (lt rfl) ?_
            refine sq_yes (f_bin rfl rfl (bT (b' := true) rfl) (lt rfl)) rfl rfl rfl rfl (lt rfl) ?_
            refine sq_yes (f_move rfl (lt rfl)) rfl rfl rfl rfl (lt rfl) ?_
            refine sq_no rfl rfl rfl rfl rfl (lt rfl) (lt rfl) ?_
            refine sq_no rfl rfl rfl rfl rfl (lt rfl) (lt rfl) ?_
            refine sq_yes (f_pick rfl rfl (lt rfl)) rfl rfl rfl rfl (lt rfl) ?_
            refine sq (f_pick rfl rfl (lt rfl)) rfl rfl ?_
            refine sq (f_move rfl (lt rfl)) rfl rfl ?_
            refine sq_yes (f_move rfl (lt rfl)) rfl rfl rfl rfl (lt rfl) ?_
            refine sq_yes (f_bin rfl rfl (bT (b' := true) rfl) (lt rfl)) rfl rfl rfl rfl (lt rfl) ?_
            refine sq_yes (f_move rfl (lt rfl)) rfl rfl rfl rfl (lt rfl) ?_
            refine sq_no rfl rfl rfl rfl rfl (lt rfl) (lt rfl) ?_
            refine sq_no rfl rfl rfl rfl rfl (lt rfl) (lt rfl) ?_
            refine sq_yes (f_pick rfl rfl (lt rfl)) rfl rfl rfl rfl (lt rfl) ?_
            refine sq (f_pick rfl rfl (lt rfl)) rfl rfl ?_
            refine sq (f_assign rfl (lt rfl)) rfl rfl ?_
            refine hits_nil ?_
            refine to_next ?_
            refine hits_ret ?_
            exact hits_done (.inl rfl) rfl rfl rfl
          · rw [if_neg h2] at p2
            have c2 := parse_is p2 rfl
            refine hits_region ?_
            refine sq (f_move rfl (lt rfl)) rfl rfl ?_
            refine sq (f_catI rfl rfl (cat_ok (setT) (rep [126] d) (by simp only [ctlT, setT, rep_len, List.length_append, List.length_cons, List.length_nil]; omega)) (B_app (setT) (rep [126] d)) (lt rfl)) rfl rfl ?_
            refine sq (f_catI rfl rfl (cat_ok (setT ++ rep [126] d) ([112, 59, 32, 125]) (by simp only [ctlT, setT, rep_len, List.length_append, List.length_cons, List.length_nil]; omega)) (B_app (setT ++ rep [126] d) ([112, 59, 32, 125])) (lt rfl)) rfl rfl ?_
            refine sq (f_call en8 rfl c2 (lt rfl)) rfl rfl ?_
            refine sq (f_move rfl (lt rfl)) rfl rfl ?_
            refine sq (f_extract rfl rfl (lt rfl)) rfl rfl ?_
            refine sq (f_extract rfl rfl (lt rfl)) rfl rfl ?_
            refine sq (f_extract rfl rfl (lt rfl)) rfl rfl ?_
            refine sq (f_assign rfl (lt rfl)) rfl rfl ?_
            refine sq (f_assign rfl (lt rfl)) rfl rfl ?_
            refine sq (f_assign rfl (lt rfl)) rfl rfl ?_
            refine hits_nil ?_
            refine to_next ?_
            refine hits_seq ?_
            refine hits_region ?_
            refine sq (f_move rfl (lt rfl)) rfl rfl ?_
            refine sq (f_catI rfl rfl (cat_ok (setT) (rep [40] b) (by simp only [ctlT, setT, rep_len, List.length_append, List.length_cons, List.length_nil]; omega)) (B_app (setT) (rep [40] b)) (lt rfl)) rfl rfl ?_
            refine sq (f_catI rfl rfl (cat_ok (setT ++ rep [40] b) ([112]) (by simp only [ctlT, setT, rep_len, List.length_append, List.length_cons, List.length_nil]; omega)) (B_app (setT ++ rep [40] b) ([112])) (lt rfl)) rfl rfl ?_
            refine sq (f_move rfl (lt rfl)) rfl rfl ?_
            refine sq (f_catI rfl rfl (cat_ok ((setT ++ rep [40] b) ++ [112]) (rep [41] b) (by simp only [ctlT, setT, rep_len, List.length_append, List.length_cons, List.length_nil]; omega)) (B_app ((setT ++ rep [40] b) ++ [112]) (rep [41] b)) (lt rfl)) rfl rfl ?_
            refine sq (f_catI rfl rfl (cat_ok (((setT ++ rep [40] b) ++ [112]) ++ rep [41] b) ([59, 32, 125]) (by simp only [ctlT, setT, rep_len, List.length_append, List.length_cons, List.length_nil]; omega)) (B_app (((setT ++ rep [40] b) ++ [112]) ++ rep [41] b) ([59, 32, 125])) (lt rfl)) rfl rfl ?_
            refine sq (f_call en8 rfl c3 (lt rfl)) rfl rfl ?_
            refine sq (f_move rfl (lt rfl)) rfl rfl ?_
            refine sq (f_extract rfl rfl (lt rfl)) rfl rfl ?_
            refine sq (f_extract rfl rfl (lt rfl)) rfl rfl ?_
            refine sq (f_extract rfl rfl (lt rfl)) rfl rfl ?_
            refine sq (f_assign rfl (lt rfl)) rfl rfl ?_
            refine sq (f_assign rfl (lt rfl)) rfl rfl ?_
            refine sq (f_assign rfl (lt rfl)) rfl rfl ?_
            refine hits_nil ?_
            refine to_next ?_
            refine hits_seq ?_
            refine hits_region ?_
            refine sq (f_call en7 rfl alive_c (lt rfl)) rfl rfl ?_
            refine sq (f_move rfl (lt rfl)) rfl rfl ?_
            refine sq_yes (f_move rfl (lt rfl)) rfl rfl rfl rfl (lt rfl) ?_
            refine sq_yes (f_bin rfl rfl (bT (b' := true) rfl) (lt rfl)) rfl rfl rfl rfl (lt rfl) ?_
            refine sq_yes (f_move rfl (lt rfl)) rfl rfl rfl rfl (lt rfl) ?_
            refine sq_yes (f_bin rfl rfl (iT (((IntWalk.i64_in _ (by omega)).trans (by omega) : _ = ((k + 1 : Nat) : Int)))) (lt rfl)) rfl rfl rfl rfl (lt rfl) ?_
            refine sq_yes (f_bin rfl rfl (bT (decide_eq_true (by omega))) (lt rfl)) rfl rfl rfl rfl (lt rfl) ?_
            refine sq_yes (f_binW rfl rfl (fun w => eqlB _ _ _ _ w) (lt rfl)) rfl rfl rfl rfl (lt rfl) ?_
            refine sq (f_pick rfl rfl (lt rfl)) rfl rfl ?_
            refine sq (f_move rfl (lt rfl)) rfl rfl ?_
            refine sq_yes (f_move rfl (lt rfl)) rfl rfl rfl rfl (lt rfl) ?_
            refine sq_yes (f_bin rfl rfl (bT (b' := false) rfl) (lt rfl)) rfl rfl rfl rfl (lt rfl) ?_
            refine sq_yes (f_move rfl (lt rfl)) rfl rfl rfl rfl (lt rfl) ?_
            refine sq_yes (f_convI rfl us5 un3 (IntWalk.i64_in _ (by omega)) (lt rfl)) rfl rfl rfl rfl (lt rfl) ?_
            refine sq_yes (f_bin rfl rfl (iT (((IntWalk.i64_in _ (by omega)).trans (by omega) : _ = ((d + 3 : Nat) : Int)))) (lt rfl)) rfl rfl rfl rfl (lt rfl) ?_
            refine sq_yes (f_bin rfl rfl (bT (decide_eq_false (by omega))) (lt rfl)) rfl rfl rfl rfl (lt rfl) ?_
            refine sq_yes (f_binW rfl rfl (fun w => eqlB _ _ _ _ w) (lt rfl)) rfl rfl rfl rfl (lt rfl) ?_
            refine sq (f_pick rfl rfl (lt rfl)) rfl rfl ?_
            refine sq (f_move rfl (lt rfl)) rfl rfl ?_
            refine sq_yes (f_move rfl (lt rfl)) rfl rfl rfl rfl (lt rfl) ?_
            refine sq_yes (f_bin rfl rfl (bT (b' := true) rfl) (lt rfl)) rfl rfl rfl rfl (lt rfl) ?_
            refine sq (f_pick rfl rfl (lt rfl)) rfl rfl ?_
            refine sq (f_move rfl (lt rfl)) rfl rfl ?_
            refine sq_yes (f_move rfl (lt rfl)) rfl rfl rfl rfl (lt rfl) ?_
            refine sq_yes (f_bin rfl rfl (bT (b' := true) rfl) (lt rfl)) rfl rfl rfl rfl (lt rfl) ?_
            refine sq_yes (f_move rfl (lt rfl)) rfl rfl rfl rfl (lt rfl) ?_
            refine sq_no rfl rfl rfl rfl rfl (lt rfl) (lt rfl) ?_
            refine sq_no rfl rfl rfl rfl rfl (lt rfl) (lt rfl) ?_
            refine sq_yes (f_pick rfl rfl (lt rfl)) rfl rfl rfl rfl (lt rfl) ?_
            refine sq (f_pick rfl rfl (lt rfl)) rfl rfl ?_
            refine sq (f_move rfl (lt rfl)) rfl rfl ?_
            refine sq_yes (f_move rfl (lt rfl)) rfl rfl rfl rfl (lt rfl) ?_
            refine sq_yes (f_bin rfl rfl (bT (b' := false) rfl) (lt rfl)) rfl rfl rfl rfl (lt rfl) ?_
            refine sq_yes (f_move rfl (lt rfl)) rfl rfl rfl rfl (lt rfl) ?_
            refine sq_yes (f_move rfl (lt rfl)) rfl rfl rfl rfl (lt rfl) ?_
            refine sq_yes (f_bin rfl rfl (bT (b' := true) rfl) (lt rfl)) rfl rfl rfl rfl (lt rfl) ?_
            refine sq_yes (f_pick rfl rfl (lt rfl)) rfl rfl rfl rfl (lt rfl) ?_
            refine sq (f_pick rfl rfl (lt rfl)) rfl rfl ?_
            refine sq (f_assign rfl (lt rfl)) rfl rfl ?_
            refine hits_nil ?_
            refine to_next ?_
            refine hits_ret ?_
            exact hits_done (.inl rfl) rfl rfl rfl
        · rw [if_neg h1] at p1
          have c1 := parse_is p1 rfl
          refine hits_region ?_
          refine sq (f_move rfl (lt rfl)) rfl rfl ?_
          refine sq (f_catI rfl rfl (cat_ok (ctlT ++ rep [100, 114, 111, 112, 59] k) ([125]) (by simp only [ctlT, setT, rep_len, List.length_append, List.length_cons, List.length_nil]; omega)) (B_app (ctlT ++ rep [100, 114, 111, 112, 59] k) ([125])) (lt rfl)) rfl rfl ?_
          refine sq (f_call en8 rfl c1 (lt rfl)) rfl rfl ?_
          refine sq (f_move rfl (lt rfl)) rfl rfl ?_
          refine sq (f_extract rfl rfl (lt rfl)) rfl rfl ?_
          refine sq (f_extract rfl rfl (lt rfl)) rfl rfl ?_
          refine sq (f_extract rfl rfl (lt rfl)) rfl rfl ?_
          refine sq (f_assign rfl (lt rfl)) rfl rfl ?_
          refine sq (f_assign rfl (lt rfl)) rfl rfl ?_
          refine sq (f_assign rfl (lt rfl)) rfl rfl ?_
          refine hits_nil ?_
          refine to_next ?_
          refine hits_seq ?_
          by_cases h2 : d + 3 ≤ 64
          · rw [if_pos h2] at p2
            have c2 := parse_is p2 rfl
            refine hits_region ?_
            refine sq (f_move rfl (lt rfl)) rfl rfl ?_
            refine sq (f_catI rfl rfl (cat_ok (setT) (rep [126] d) (by simp only [ctlT, setT, rep_len, List.length_append, List.length_cons, List.length_nil]; omega)) (B_app (setT) (rep [126] d)) (lt rfl)) rfl rfl ?_
            refine sq (f_catI rfl rfl (cat_ok (setT ++ rep [126] d) ([112, 59, 32, 125]) (by simp only [ctlT, setT, rep_len, List.length_append, List.length_cons, List.length_nil]; omega)) (B_app (setT ++ rep [126] d) ([112, 59, 32, 125])) (lt rfl)) rfl rfl ?_
            refine sq (f_call en8 rfl c2 (lt rfl)) rfl rfl ?_
            refine sq (f_move rfl (lt rfl)) rfl rfl ?_
            refine sq (f_extract rfl rfl (lt rfl)) rfl rfl ?_
            refine sq (f_extract rfl rfl (lt rfl)) rfl rfl ?_
            refine sq (f_extract rfl rfl (lt rfl)) rfl rfl ?_
            refine sq (f_assign rfl (lt rfl)) rfl rfl ?_
            refine sq (f_assign rfl (lt rfl)) rfl rfl ?_
            refine sq (f_assign rfl (lt rfl)) rfl rfl ?_
            refine hits_nil ?_
            refine to_next ?_
            refine hits_seq ?_
            refine hits_region ?_
            refine sq (f_move rfl (lt rfl)) rfl rfl ?_
            refine sq (f_catI rfl rfl (cat_ok (setT) (rep [40] b) (by simp only [ctlT, setT, rep_len, List.length_append, List.length_cons, List.length_nil]; omega)) (B_app (setT) (rep [40] b)) (lt rfl)) rfl rfl ?_
            refine sq (f_catI rfl rfl (cat_ok (setT ++ rep [40] b) ([112]) (by simp only [ctlT, setT, rep_len, List.length_append, List.length_cons, List.length_nil]; omega)) (B_app (setT ++ rep [40] b) ([112])) (lt rfl)) rfl rfl ?_
            refine sq (f_move rfl (lt rfl)) rfl rfl ?_
            refine sq (f_catI rfl rfl (cat_ok ((setT ++ rep [40] b) ++ [112]) (rep [41] b) (by simp only [ctlT, setT, rep_len, List.length_append, List.length_cons, List.length_nil]; omega)) (B_app ((setT ++ rep [40] b) ++ [112]) (rep [41] b)) (lt rfl)) rfl rfl ?_
            refine sq (f_catI rfl rfl (cat_ok (((setT ++ rep [40] b) ++ [112]) ++ rep [41] b) ([59, 32, 125]) (by simp only [ctlT, setT, rep_len, List.length_append, List.length_cons, List.length_nil]; omega)) (B_app (((setT ++ rep [40] b) ++ [112]) ++ rep [41] b) ([59, 32, 125])) (lt rfl)) rfl rfl ?_
            refine sq (f_call en8 rfl c3 (lt rfl)) rfl rfl ?_
            refine sq (f_move rfl (lt rfl)) rfl rfl ?_
            refine sq (f_extract rfl rfl (lt rfl)) rfl rfl ?_
            refine sq (f_extract rfl rfl (lt rfl)) rfl rfl ?_
            refine sq (f_extract rfl rfl (lt rfl)) rfl rfl ?_
            refine sq (f_assign rfl (lt rfl)) rfl rfl ?_
            refine sq (f_assign rfl (lt rfl)) rfl rfl ?_
            refine sq (f_assign rfl (lt rfl)) rfl rfl ?_
            refine hits_nil ?_
            refine to_next ?_
            refine hits_seq ?_
            refine hits_region ?_
            refine sq (f_call en7 rfl alive_c (lt rfl)) rfl rfl ?_
            refine sq (f_move rfl (lt rfl)) rfl rfl ?_
            refine sq_yes (f_move rfl (lt rfl)) rfl rfl rfl rfl (lt rfl) ?_
            refine sq_yes (f_bin rfl rfl (bT (b' := false) rfl) (lt rfl)) rfl rfl rfl rfl (lt rfl) ?_
            refine sq_yes (f_move rfl (lt rfl)) rfl rfl rfl rfl (lt rfl) ?_
            refine sq_yes (f_bin rfl rfl (iT (((IntWalk.i64_in _ (by omega)).trans (by omega) : _ = ((k + 1 : Nat) : Int)))) (lt rfl)) rfl rfl rfl rfl (lt rfl) ?_
            refine sq_yes (f_bin rfl rfl (bT (decide_eq_false (by omega))) (lt rfl)) rfl rfl rfl rfl (lt rfl) ?_
            refine sq_yes (f_binW rfl rfl (fun w => eqlB _ _ _ _ w) (lt rfl)) rfl rfl rfl rfl (lt rfl) ?_
            refine sq (f_pick rfl rfl (lt rfl)) rfl rfl ?_
            refine sq (f_move rfl (lt rfl)) rfl rfl ?_
            refine sq_yes (f_move rfl (lt rfl)) rfl rfl rfl rfl (lt rfl) ?_
            refine sq_yes (f_bin rfl rfl (bT (b' := true) rfl) (lt rfl)) rfl rfl rfl rfl (lt rfl) ?_
            refine sq_yes (f_move rfl (lt rfl)) rfl rfl rfl rfl (lt rfl) ?_
            refine sq_yes (f_convI rfl us5 un3 (IntWalk.i64_in _ (by omega)) (lt rfl)) rfl rfl rfl rfl (lt rfl) ?_
            refine sq_yes (f_bin rfl rfl (iT (((IntWalk.i64_in _ (by omega)).trans (by omega) : _ = ((d + 3 : Nat) : Int)))) (lt rfl)) rfl rfl rfl rfl (lt rfl) ?_
            refine sq_yes (f_bin rfl rfl (bT (decide_eq_true (by omega))) (lt rfl)) rfl rfl rfl rfl (lt rfl) ?_
            refine sq_yes (f_binW rfl rfl (fun w => eqlB _ _ _ _ w) (lt rfl)) rfl rfl rfl rfl (lt rfl) ?_
            refine sq (f_pick rfl rfl (lt rfl)) rfl rfl ?_
            refine sq (f_move rfl (lt rfl)) rfl rfl ?_
            refine sq_yes (f_move rfl (lt rfl)) rfl rfl rfl rfl (lt rfl) ?_
            refine sq_yes (f_bin rfl rfl (bT (b' := true) rfl) (lt rfl)) rfl rfl rfl rfl (lt rfl) ?_
            refine sq (f_pick rfl rfl (lt rfl)) rfl rfl ?_
            refine sq (f_move rfl (lt rfl)) rfl rfl ?_
            refine sq_yes (f_move rfl (lt rfl)) rfl rfl rfl rfl (lt rfl) ?_
            refine sq_yes (f_bin rfl rfl (bT (b' := false) rfl) (lt rfl)) rfl rfl rfl rfl (lt rfl) ?_
            refine sq_yes (f_move rfl (lt rfl)) rfl rfl rfl rfl (lt rfl) ?_
            refine sq_yes (f_move rfl (lt rfl)) rfl rfl rfl rfl (lt rfl) ?_
            refine sq_yes (f_bin rfl rfl (bT (b' := true) rfl) (lt rfl)) rfl rfl rfl rfl (lt rfl) ?_
            refine sq_yes (f_pick rfl rfl (lt rfl)) rfl rfl rfl rfl (lt rfl) ?_
            refine sq (f_pick rfl rfl (lt rfl)) rfl rfl ?_
            refine sq (f_move rfl (lt rfl)) rfl rfl ?_
            refine sq_yes (f_move rfl (lt rfl)) rfl rfl rfl rfl (lt rfl) ?_
            refine sq_yes (f_bin rfl rfl (bT (b' := true) rfl) (lt rfl)) rfl rfl rfl rfl (lt rfl) ?_
            refine sq_yes (f_move rfl (lt rfl)) rfl rfl rfl rfl (lt rfl) ?_
            refine sq_no rfl rfl rfl rfl rfl (lt rfl) (lt rfl) ?_
            refine sq_no rfl rfl rfl rfl rfl (lt rfl) (lt rfl) ?_
            refine sq_yes (f_pick rfl rfl (lt rfl)) rfl rfl rfl rfl (lt rfl) ?_
            refine sq (f_pick rfl rfl (lt rfl)) rfl rfl ?_
            refine sq (f_assign rfl (lt rfl)) rfl rfl ?_
            refine hits_nil ?_
            refine to_next ?_
            refine hits_ret ?_
            exact hits_done (.inl rfl) rfl rfl rfl
          · rw [if_neg h2] at p2
            have c2 := parse_is p2 rfl
            refine hits_region ?_
            refine sq (f_move rfl (lt rfl)) rfl rfl ?_
            refine sq (f_catI rfl rfl (cat_ok (setT) (rep [126] d) (by simp only [ctlT, setT, rep_len, List.length_append, List.length_cons, List.length_nil]; omega)) (B_app (setT) (rep [126] d)) (lt rfl)) rfl rfl ?_
            refine sq (f_catI rfl rfl (cat_ok (setT ++ rep [126] d) ([112, 59, 32, 125]) (by simp only [ctlT, setT, rep_len, List.length_append, List.length_cons, List.length_nil]; omega)) (B_app (setT ++ rep [126] d) ([112, 59, 32, 125])) (lt rfl)) rfl rfl ?_
            refine sq (f_call en8 rfl c2 (lt rfl)) rfl rfl ?_
            refine sq (f_move rfl (lt rfl)) rfl rfl ?_
            refine sq (f_extract rfl rfl (lt rfl)) rfl rfl ?_
            refine sq (f_extract rfl rfl (lt rfl)) rfl rfl ?_
            refine sq (f_extract rfl rfl (lt rfl)) rfl rfl ?_
            refine sq (f_assign rfl (lt rfl)) rfl rfl ?_
            refine sq (f_assign rfl (lt rfl)) rfl rfl ?_
            refine sq (f_assign rfl (lt rfl)) rfl rfl ?_
            refine hits_nil ?_
            refine to_next ?_
            refine hits_seq ?_
            refine hits_region ?_
            refine sq (f_move rfl (lt rfl)) rfl rfl ?_
            refine sq (f_catI rfl rfl (cat_ok (setT) (rep [40] b) (by simp only [ctlT, setT, rep_len, List.length_append, List.length_cons, List.length_nil]; omega)) (B_app (setT) (rep [40] b)) (lt rfl)) rfl rfl ?_
            refine sq (f_catI rfl rfl (cat_ok (setT ++ rep [40] b) ([112]) (by simp only [ctlT, setT, rep_len, List.length_append, List.length_cons, List.length_nil]; omega)) (B_app (setT ++ rep [40] b) ([112])) (lt rfl)) rfl rfl ?_
            refine sq (f_move rfl (lt rfl)) rfl rfl ?_
            refine sq (f_catI rfl rfl (cat_ok ((setT ++ rep [40] b) ++ [112]) (rep [41] b) (by simp only [ctlT, setT, rep_len, List.length_append, List.length_cons, List.length_nil]; omega)) (B_app ((setT ++ rep [40] b) ++ [112]) (rep [41] b)) (lt rfl)) rfl rfl ?_
            refine sq (f_catI rfl rfl (cat_ok (((setT ++ rep [40] b) ++ [112]) ++ rep [41] b) ([59, 32, 125]) (by simp only [ctlT, setT, rep_len, List.length_append, List.length_cons, List.length_nil]; omega)) (B_app (((setT ++ rep [40] b) ++ [112]) ++ rep [41] b) ([59, 32, 125])) (lt rfl)) rfl rfl ?_
            refine sq (f_call en8 rfl c3 (lt rfl)) rfl rfl ?_
            refine sq (f_move rfl (lt rfl)) rfl rfl ?_
            refine sq (f_extract rfl rfl (lt rfl)) rfl rfl ?_
            refine sq (f_extract rfl rfl (lt rfl)) rfl rfl ?_
            refine sq (f_extract rfl rfl (lt rfl)) rfl rfl ?_
            refine sq (f_assign rfl (lt rfl)) rfl rfl ?_
            refine sq (f_assign rfl (lt rfl)) rfl rfl ?_
            refine sq (f_assign rfl (lt rfl)) rfl rfl ?_
            refine hits_nil ?_
            refine to_next ?_
            refine hits_seq ?_
            refine hits_region ?_
            refine sq (f_call en7 rfl alive_c (lt rfl)) rfl rfl ?_
            refine sq (f_move rfl (lt rfl)) rfl rfl ?_
            refine sq_yes (f_move rfl (lt rfl)) rfl rfl rfl rfl (lt rfl) ?_
            refine sq_yes (f_bin rfl rfl (bT (b' := false) rfl) (lt rfl)) rfl rfl rfl rfl (lt rfl) ?_
            refine sq_yes (f_move rfl (lt rfl)) rfl rfl rfl rfl (lt rfl) ?_
            refine sq_yes (f_bin rfl rfl (iT (((IntWalk.i64_in _ (by omega)).trans (by omega) : _ = ((k + 1 : Nat) : Int)))) (lt rfl)) rfl rfl rfl rfl (lt rfl) ?_
            refine sq_yes (f_bin rfl rfl (bT (decide_eq_false (by omega))) (lt rfl)) rfl rfl rfl rfl (lt rfl) ?_
            refine sq_yes (f_binW rfl rfl (fun w => eqlB _ _ _ _ w) (lt rfl)) rfl rfl rfl rfl (lt rfl) ?_
            refine sq (f_pick rfl rfl (lt rfl)) rfl rfl ?_
            refine sq (f_move rfl (lt rfl)) rfl rfl ?_
            refine sq_yes (f_move rfl (lt rfl)) rfl rfl rfl rfl (lt rfl) ?_
            refine sq_yes (f_bin rfl rfl (bT (b' := false) rfl) (lt rfl)) rfl rfl rfl rfl (lt rfl) ?_
            refine sq_yes (f_move rfl (lt rfl)) rfl rfl rfl rfl (lt rfl) ?_
            refine sq_yes (f_convI rfl us5 un3 (IntWalk.i64_in _ (by omega)) (lt rfl)) rfl rfl rfl rfl (lt rfl) ?_
            refine sq_yes (f_bin rfl rfl (iT (((IntWalk.i64_in _ (by omega)).trans (by omega) : _ = ((d + 3 : Nat) : Int)))) (lt rfl)) rfl rfl rfl rfl (lt rfl) ?_
            refine sq_yes (f_bin rfl rfl (bT (decide_eq_false (by omega))) (lt rfl)) rfl rfl rfl rfl (lt rfl) ?_
            refine sq_yes (f_binW rfl rfl (fun w => eqlB _ _ _ _ w) (lt rfl)) rfl rfl rfl rfl (lt rfl) ?_
            refine sq (f_pick rfl rfl (lt rfl)) rfl rfl ?_
            refine sq (f_move rfl (lt rfl)) rfl rfl ?_
            refine sq_yes (f_move rfl (lt rfl)) rfl rfl rfl rfl (lt rfl) ?_
            refine sq_yes (f_bin rfl rfl (bT (b' := true) rfl) (lt rfl)) rfl rfl rfl rfl (lt rfl) ?_
            refine sq (f_pick rfl rfl (lt rfl)) rfl rfl ?_
            refine sq (f_move rfl (lt rfl)) rfl rfl ?_
            refine sq_yes (f_move rfl (lt rfl)) rfl rfl rfl rfl (lt rfl) ?_
            refine sq_yes (f_bin rfl rfl (bT (b' := false) rfl) (lt rfl)) rfl rfl rfl rfl (lt rfl) ?_
            refine sq_yes (f_move rfl (lt rfl)) rfl rfl rfl rfl (lt rfl) ?_
            refine sq_yes (f_move rfl (lt rfl)) rfl rfl rfl rfl (lt rfl) ?_
            refine sq_yes (f_bin rfl rfl (bT (b' := true) rfl) (lt rfl)) rfl rfl rfl rfl (lt rfl) ?_
            refine sq_yes (f_pick rfl rfl (lt rfl)) rfl rfl rfl rfl (lt rfl) ?_
            refine sq (f_pick rfl rfl (lt rfl)) rfl rfl ?_
            refine sq (f_move rfl (lt rfl)) rfl rfl ?_
            refine sq_yes (f_move rfl (lt rfl)) rfl rfl rfl rfl (lt rfl) ?_
            refine sq_yes (f_bin rfl rfl (bT (b' := false) rfl) (lt rfl)) rfl rfl rfl rfl (lt rfl) ?_
            refine sq_yes (f_move rfl (lt rfl)) rfl rfl rfl rfl (lt rfl) ?_
            refine sq_yes (f_move rfl (lt rfl)) rfl rfl rfl rfl (lt rfl) ?_
            refine sq_yes (f_bin rfl rfl (bT (b' := true) rfl) (lt rfl)) rfl rfl rfl rfl (lt rfl) ?_
            refine sq_yes (f_pick rfl rfl (lt rfl)) rfl rfl rfl rfl (lt rfl) ?_
            refine sq (f_pick rfl rfl (lt rfl)) rfl rfl ?_
            refine sq (f_assign rfl (lt rfl)) rfl rfl ?_
            refine hits_nil ?_
            refine to_next ?_
            refine hits_ret ?_
            exact hits_done (.inl rfl) rfl rfl rfl
theorem pointsmanlaw08_ParseDeep.calls (a0 a1 a2 : Int) (r : Bool) (w : World) (hg : Lw w) (hk : r = true) (w0 : (Lit.int .u16 a0).wf = true) (w1 : (Lit.int .u8 a1).wf = true) (w2 : (Lit.int .u8 a2).wf = true) : Calls Tryz.prog 4 #[.int .u16 a0, .int .u8 a1, .int .u8 a2] w fun e w' => e = .returned (.bool r) ∧ Below w.heap.size w w' := by
  subst hk
  obtain ⟨n, rfl, hn⟩ := u16_nat w0
  obtain ⟨d, rfl, hd⟩ := u8_nat w1
  obtain ⟨b, rfl, hb⟩ := u8_nat w2
  exact (deep_c hn hd hb).calls rfl rfl w hg
end Go.Proofs.YtbgeejmhkmjfdaaGreatDoor.Ln
