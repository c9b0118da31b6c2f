/- The law BitsTexts: its walk over data, and the law as a row asks it. -/
import Derived.Test.YthhlnghpbjmfpaaDoorAbReads
namespace Go.Proofs.YthhlnghpbjmfpaaDoor.AbBits
open Go Go.RowKit Go.Ab Go.Proofs Go.Proofs.YthhlnghpbjmfpaaDoor Go.Proofs.YthhlnghpbjmfpaaDoor.PTryd Go.Proofs.YthhlnghpbjmfpaaDoor.PTrydFns Go.Proofs.YthhlnghpbjmfpaaDoor.BitsMath Go.Proofs.YthhlnghpbjmfpaaDoor.Press
set_option linter.unusedVariables false
set_option linter.unusedSimpArgs false
theorem en19 : enters Tryd.prog 19 = true := by kernel_rfl
theorem en20 : enters Tryd.prog 20 = true := by kernel_rfl
theorem eqs27 (x y : Operand) (a b c : Int) (w : World) : ((do eqGuard .eql 27 x y (.agg ⟨[.int .i64 a, .int .u64 b, .int .u64 c]⟩) (.agg ⟨[.int .i64 a, .int .u64 b, .int .u64 c]⟩); binOp .eql 27 (.agg ⟨[.int .i64 a, .int .u64 b, .int .u64 c]⟩) (.agg ⟨[.int .i64 a, .int .u64 b, .int .u64 c]⟩)) : Sem Value).run Tryd.prog w = .ok (.bool true) w := by rw [eql27]; simp
set_option maxRecDepth 100000 in
theorem texts_ok {y : Int} {v : Nat} {s t : ByteArray} {e b0 b1 b2 g : Int} (h1 : CallsP Tryd.prog Errs 17 [bitI y v] (.tup [.sc (.string t), .sc (.int .i64 e)])) (h2 : CallsP Tryd.prog Errs 18 [bitI y v] (.tup [.sc (.string t), .sc (.int .i64 e)])) (h3 : CallsP Tryd.prog Errs 19 [.sc (.string s)] (.tup [.agg [.sc (.int .i64 b0), .sc (.int .u64 b1), .sc (.int .u64 b2)], .sc (.int .i64 g)])) (h4 : CallsP Tryd.prog Errs 20 [.sc (.string s)] (.tup [.agg [.sc (.int .i64 b0), .sc (.int .u64 b1), .sc (.int .u64 b2)], .sc (.int .i64 g)])) : CallsP Tryd.prog Errs 7 [bitI y v, .sc (.string s)] (.sc (.bool true)) := by
  refine callsP_of gs_errs Tryd.func7 rfl Tryd.ntmps7 rfl fun w0 S0 stab => ?_
  refine hits_seq ?_
  refine hits_region ?_
  refine sq (f_box rfl rfl (lt rfl)) rfl rfl ?_
  refine sq (f_assign rfl (lt rfl)) rfl rfl ?_
  refine hits_nil ?_
  refine to_next ?_
  refine hits_seq ?_
  refine hits_region ?_
  refine sq (f_load kd27 rfl rfl (lt rfl)) rfl rfl ?_
  refine sq (f_call en17 rfl h1 (lt rfl)) rfl rfl ?_
  refine sq (f_move rfl (lt rfl)) rfl rfl ?_
  refine sq (f_extract rfl rfl (lt rfl)) rfl rfl ?_
  refine sq (f_extract rfl rfl (lt rfl)) rfl rfl ?_
  refine sq (f_assign rfl (lt rfl)) rfl rfl ?_
  refine sq (f_assign rfl (lt rfl)) rfl rfl ?_
  refine hits_nil ?_
  refine to_next ?_
  refine hits_seq ?_
  refine hits_region ?_
  refine sq (f_load kd27 rfl rfl (lt rfl)) rfl rfl ?_
  refine sq (f_call en18 rfl h2 (lt rfl)) rfl rfl ?_
  refine sq (f_move rfl (lt rfl)) rfl rfl ?_
  refine sq (f_extract rfl rfl (lt rfl)) rfl rfl ?_
  refine sq (f_extract rfl rfl (lt rfl)) rfl rfl ?_
  refine sq (f_assign rfl (lt rfl)) rfl rfl ?_
  refine sq (f_assign rfl (lt rfl)) rfl rfl ?_
  refine hits_nil ?_
  refine to_next ?_
  refine hits_seq ?_
  refine hits_region ?_
  refine sq (f_move rfl (lt rfl)) rfl rfl ?_
  refine sq (f_call en19 rfl h3 (lt rfl)) rfl rfl ?_
  refine sq (f_move rfl (lt rfl)) rfl rfl ?_
  refine sq (f_extract rfl rfl (lt rfl)) rfl rfl ?_
  refine sq (f_extract rfl rfl (lt rfl)) rfl rfl ?_
  refine sq (f_alloc zc27 (lt rfl)) rfl rfl ?_
  refine sq (f_store kd27 rfl rfl rfl rfl rfl) rfl rfl ?_
  refine sq (f_assign rfl (lt rfl)) rfl rfl ?_
  refine hits_nil ?_
  refine to_next ?_
  refine hits_seq ?_
  refine hits_region ?_
  refine sq (f_move rfl (lt rfl)) rfl rfl ?_
  refine sq (f_call en20 rfl h4 (lt rfl)) rfl rfl ?_
  refine sq (f_move rfl (lt rfl)) rfl rfl ?_
  refine sq (f_extract rfl rfl (lt rfl)) rfl rfl ?_
  refine sq (f_extract rfl rfl (lt rfl)) rfl rfl ?_
  refine sq (f_alloc zc27 (lt rfl)) rfl rfl ?_
  refine sq (f_store kd27 rfl rfl rfl rfl rfl) rfl rfl ?_
  refine sq (f_assign rfl (lt rfl)) rfl rfl ?_
  refine hits_nil ?_
  refine to_next ?_
  refine hits_seq ?_
  refine hits_region ?_
  refine sq (f_move rfl (lt rfl)) rfl rfl ?_
  refine sq (f_move rfl (lt rfl)) rfl rfl ?_
  refine sq (f_bin rfl rfl (bT (b' := true) (beq_self_eq_true _)) (lt rfl)) rfl rfl ?_
  refine sq (f_move rfl (lt rfl)) rfl rfl ?_
  refine sq_yes (f_move rfl (lt rfl)) rfl rfl rfl rfl (lt rfl) ?_
  refine sq_yes (f_move rfl (lt rfl)) rfl rfl rfl rfl (lt rfl) ?_
  refine sq_yes (f_bin rfl rfl (bT (b' := true) (beq_self_eq_true _)) (lt rfl)) rfl rfl rfl rfl (lt rfl) ?_
  refine sq (f_pick rfl rfl (lt rfl)) rfl rfl ?_
  refine sq (f_move rfl (lt rfl)) rfl rfl ?_
  refine sq_yes (f_load kd27 rfl rfl (lt rfl)) rfl rfl rfl rfl (lt rfl) ?_
  refine sq_yes (f_load kd27 rfl rfl (lt rfl)) rfl rfl rfl rfl (lt rfl) ?_
  refine sq_yes (f_eqA rfl rfl rfl rfl (fun w => eqs27 _ _ _ _ _ w) (lt rfl)) rfl rfl rfl rfl (lt rfl) ?_
  refine sq (f_pick rfl rfl (lt rfl)) rfl rfl ?_
  refine sq (f_move rfl (lt rfl)) rfl rfl ?_
  refine sq_yes (f_move rfl (lt rfl)) rfl rfl rfl rfl (lt rfl) ?_
  refine sq_yes (f_move rfl (lt rfl)) rfl rfl rfl rfl (lt rfl) ?_
  refine sq_yes (f_bin rfl rfl (bT (b' := true) (beq_self_eq_true _)) (lt rfl)) rfl rfl rfl rfl (lt rfl) ?_
  refine sq (f_pick rfl rfl (lt rfl)) rfl rfl ?_
  refine sq (f_assign rfl (lt rfl)) rfl rfl ?_
  refine hits_nil ?_
  refine to_next ?_
  refine hits_ret ?_
  exact hits_done (.inl rfl) rfl rfl rfl
theorem texts_all (y : Int) {v : Nat} (hv : v < 2 ^ 128) (s : ByteArray) (hs : s.size ≤ 140737488351232) : CallsP Tryd.prog Errs 7 [bitI y v, .sc (.string s)] (.sc (.bool true)) := by
  have ht : ∃ (t : ByteArray) (e : Int), CallsP Tryd.prog Errs 17 [bitI y v] (.tup [.sc (.string t), .sc (.int .i64 e)]) ∧ CallsP Tryd.prog Errs 18 [bitI y v] (.tup [.sc (.string t), .sc (.int .i64 e)]) := by
    by_cases h : 1 ≤ y ∧ y ≤ 128
    · obtain ⟨w, rfl⟩ := Int.eq_ofNat_of_zero_le (show 0 ≤ y by omega)
      by_cases hb : v < 2 ^ w
      · exact ⟨rtextB w v, 0, by rw [← rtext_eq hv]; exact up (text_c (by omega) (by omega) hb), rtext_c (by omega) (by omega) hb⟩
      · exact ⟨_, _, up (text_no (by rw [Go.Proofs.YthhlnghpbjmfpaaDoor.PTrydFns.check_is w (by omega) (by omega) hv, decide_eq_false hb])), rtext_bad (rchk_big (by omega) (by omega) hv hb) ⟨_, _, _, rfl⟩⟩
    · exact ⟨_, _, up (text_no (Go.Proofs.YthhlnghpbjmfpaaDoor.PTrydFns.check_not _ _ _ h)), rtext_bad (rchk_no h) ⟨_, _, _, rfl⟩⟩
  obtain ⟨t, e, h1, h2⟩ := ht
  by_cases h : ∃ w v, 1 ≤ w ∧ w ≤ 128 ∧ v < 2 ^ w ∧ rtextB w v = s
  · obtain ⟨w', v', a1, a2, a3, rfl⟩ := h
    have r := read_yes a1 a2 a3
    exact texts_ok h1 h2 r.1 r.2
  · have r := read_no (s := s) (by omega) fun w' v' a1 a2 a3 a4 => h ⟨w', v', a1, a2, a3, a4⟩
    exact texts_ok h1 h2 r.1 r.2

end Go.Proofs.YthhlnghpbjmfpaaDoor.AbBits
namespace Go.Proofs.YthhlnghpbjmfpaaDoor.PAb
open Go Go.RowKit Go.Ab Go.Proofs.YthhlnghpbjmfpaaDoor.Press
def pointsmanlaw01_BitsTexts.f (a0_0 a0_1 a0_2 : Int) (a1 : ByteArray) : Option Bool := if (Lit.int .i64 a0_0).wf = true ∧ (Lit.int .u64 a0_1).wf = true ∧ (Lit.int .u64 a0_2).wf = true ∧ a1.size ≤ 140737488351232 then some true else none
theorem pointsmanlaw01_BitsTexts.calls (a0_0 a0_1 a0_2 : Int) (a1 : ByteArray) (r : Bool) (w : World) (hT : AbBits.Errs w) (h : pointsmanlaw01_BitsTexts.f a0_0 a0_1 a0_2 a1 = some r) : Calls Tryd.prog 7 #[.agg #[.int .i64 a0_0, .int .u64 a0_1, .int .u64 a0_2], .string a1] w fun e w' => e = .returned (.bool r) ∧ Below w.heap.size w w' := by
  unfold pointsmanlaw01_BitsTexts.f at h
  split at h
  · rename_i c
    obtain rfl := Option.some.inj h
    obtain ⟨g0, g1, g2, g3⟩ := c
    obtain ⟨x, hx, rfl, rfl⟩ := BitsMath.two_words g1 g2
    exact (AbBits.texts_all a0_0 hx a1 g3).calls rfl rfl w hT
  · cases h
end Go.Proofs.YthhlnghpbjmfpaaDoor.PAb
namespace Go.Proofs.YthhlnghpbjmfpaaDoor.Pure
theorem BitsTexts (a0_0 a0_1 a0_2 : Int) (a1 : ByteArray) (g0 : (Lit.int .i64 a0_0).wf = true) (g1 : (Lit.int .u64 a0_1).wf = true) (g2 : (Lit.int .u64 a0_2).wf = true) (g3 : a1.size ≤ 140737488351232) : PAb.pointsmanlaw01_BitsTexts.f a0_0 a0_1 a0_2 a1 = some true := if_pos ⟨g0, g1, g2, g3⟩
end Go.Proofs.YthhlnghpbjmfpaaDoor.Pure
