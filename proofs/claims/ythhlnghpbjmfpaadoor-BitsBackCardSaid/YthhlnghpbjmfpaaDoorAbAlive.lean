/- The laws' own check of some answers; comparisons of numbers. -/
import Derived.Test.YthhlnghpbjmfpaaDoorAbText
namespace Go.Proofs.YthhlnghpbjmfpaaDoor.AbBits
open Go Go.RowKit Go.Ab Go.Proofs.YthhlnghpbjmfpaaDoor Go.Proofs.YthhlnghpbjmfpaaDoor.PTryd Go.Proofs.YthhlnghpbjmfpaaDoor.PTrydFns Go.Proofs.YthhlnghpbjmfpaaDoor.BitsMath Go.Proofs.YthhlnghpbjmfpaaDoor.Press
set_option linter.unusedVariables false
set_option linter.unusedSimpArgs false
theorem en12 : enters Tryd.prog 12 = true := by kernel_rfl
theorem en16 : enters Tryd.prog 16 = true := by kernel_rfl
theorem en17 : enters Tryd.prog 17 = true := by kernel_rfl
theorem en21 : enters Tryd.prog 21 = true := by kernel_rfl
theorem en23 : enters Tryd.prog 23 = true := by kernel_rfl
theorem en11 : enters Tryd.prog 11 = true := by kernel_rfl
theorem en14 : enters Tryd.prog 14 = true := by kernel_rfl
theorem zc27 : zc Tryd.prog 27 = some [.int .i64 0, .int .u64 0, .int .u64 0] := by kernel_rfl
theorem bu27 : bk Tryd.prog 27 = some ([(0, 1), (1, 1), (2, 1)], [.int .i64 0, .int .u64 0, .int .u64 0]) := by kernel_rfl
theorem eqg27 : Tryd.prog.eqGuardType Tryd.prog.depth 27 = false := by kernel_rfl
theorem eql27 (x y : Operand) (a b c a' b' c' : Int) (w : World) : ((do eqGuard .eql 27 x y (.agg ⟨[.int .i64 a, .int .u64 b, .int .u64 c]⟩) (.agg ⟨[.int .i64 a', .int .u64 b', .int .u64 c']⟩); binOp .eql 27 (.agg ⟨[.int .i64 a, .int .u64 b, .int .u64 c]⟩) (.agg ⟨[.int .i64 a', .int .u64 b', .int .u64 c']⟩)) : Sem Value).run Tryd.prog w = .ok (.bool (a == a' && (b == b' && (c == c')))) w := by
  have e2 : (Op.equal 27 (.agg ⟨[.int .i64 a, .int .u64 b, .int .u64 c]⟩) (.agg ⟨[.int .i64 a', .int .u64 b', .int .u64 c']⟩)).run Tryd.prog w = .ok (a == a' && (b == b' && (c == c'))) w := eqA27 9998 w a a' b b' c c'
  simp [eqGuard, binOp, eqg27, e2]
theorem neq27 (x y : Operand) (a b c a' b' c' : Int) (w : World) : ((do eqGuard .neq 27 x y (.agg ⟨[.int .i64 a, .int .u64 b, .int .u64 c]⟩) (.agg ⟨[.int .i64 a', .int .u64 b', .int .u64 c']⟩); binOp .neq 27 (.agg ⟨[.int .i64 a, .int .u64 b, .int .u64 c]⟩) (.agg ⟨[.int .i64 a', .int .u64 b', .int .u64 c']⟩)) : Sem Value).run Tryd.prog w = .ok (.bool (!(a == a' && (b == b' && (c == c'))))) w := by
  have e2 : (Op.equal 27 (.agg ⟨[.int .i64 a, .int .u64 b, .int .u64 c]⟩) (.agg ⟨[.int .i64 a', .int .u64 b', .int .u64 c']⟩)).run Tryd.prog w = .ok (a == a' && (b == b' && (c == c'))) w := eqA27 9998 w a a' b b' c c'
  simp [eqGuard, binOp, eqg27, e2]
section
variable {E : Env} {st : St} {d : Nat} {ty yt : TypeId} {pos : String} {af : Array Edge} {g : Option (Nat × Bool)} {x y : Operand} {w w' X Y : Nat}
theorem bits_beq : ((w : Int) == (w' : Int) && (hiOf X == hiOf Y && (loOf X == loOf Y))) = decide (w = w' ∧ X = Y) := by
  rw [words_eq]
  by_cases h1 : w = w' <;> by_cases h2 : X = Y <;> simp [h1, h2]
  intro h; omega
/-- Two numbers held against one another. -/
theorem f_eqB (hx : ev st x = some (.d (bitD w X))) (hy : ev st y = some (.d (bitD w' Y))) {v : Bool} (h : decide (w = w' ∧ X = Y) = v) (hd : d < E.N) : FOk Tryd.prog E ⟨some d, .binOp .eql 27 x y yt, ty, pos, af, g⟩ st (evL x ++ evL y) [] [(.slot d, some (.d (.sc (.bool v))))] :=
  f_eqA hx hy rfl rfl (fun wo => by rw [eql27, bits_beq, h]) hd
theorem f_neB (hx : ev st x = some (.d (bitD w X))) (hy : ev st y = some (.d (bitD w' Y))) {v : Bool} (h : (!decide (w = w' ∧ X = Y)) = v) (hd : d < E.N) : FOk Tryd.prog E ⟨some d, .binOp .neq 27 x y yt, ty, pos, af, g⟩ st (evL x ++ evL y) [] [(.slot d, some (.d (.sc (.bool v))))] :=
  f_eqA hx hy rfl rfl (fun wo => by rw [neq27, bits_beq, h]) hd
end
theorem hex_2565 : Hex.hexL 2565 = [97, 48, 53] := by
  rw [Hex.hexL, if_neg (by decide), show 2565 / 16 = 160 from rfl, Hex.hexL, if_neg (by decide), show 160 / 16 = 10 from rfl, Hex.hexL, if_pos (by decide)]
  decide +kernel
theorem text_alive : CallsP Tryd.prog Tabs 17 [.agg [.sc (.int .i64 12), .sc (.int .u64 0), .sc (.int .u64 2565)]] (.tup [.sc (.string ⟨#[49, 50, 119, 97, 48, 53]⟩), .sc (.int .i64 0)]) := by
  have h := text_c (w := 12) (v := 2565) (by decide) (by decide) (by decide)
  have e1 : bitD 12 2565 = .agg [.sc (.int .i64 12), .sc (.int .u64 0), .sc (.int .u64 2565)] := rfl
  have e2 : textB 12 2565 = ⟨#[49, 50, 119, 97, 48, 53]⟩ := by
    rw [textB_lo _ _ (by decide)]
    unfold hexB
    rw [show 2565 % 2 ^ 64 = 2565 from rfl, hex_2565]
    decide +kernel
  rw [e1, e2] at h; exact h
theorem bytes_alive : CallsP Tryd.prog Tabs 21 [.agg [.sc (.int .i64 12), .sc (.int .u64 0), .sc (.int .u64 2565)]] (.tup [.list 1 [.sc (.int .u8 10), .sc (.int .u8 5)], .sc (.int .i64 0)]) := by
  have h := bytes_c (w := 12) (v := 2565) (by decide) (by decide) (by decide)
  have e1 : bitD 12 2565 = .agg [.sc (.int .i64 12), .sc (.int .u64 0), .sc (.int .u64 2565)] := rfl
  have e2 : bytesOf 12 2565 = [10, 5] := by decide +kernel
  rw [e1, e2] at h; exact h
theorem same_alive : CallsP Tryd.prog Tabs 23 [.list 1 [.sc (.int .u8 10), .sc (.int .u8 5)], .list 1 [.sc (.int .u8 10), .sc (.int .u8 5)]] (.sc (.bool true)) := same_c [10, 5] [10, 5] (by decide) (by decide)

set_option maxRecDepth 100000 in
theorem alive_c : CallsP Tryd.prog Tabs 10 [] (.sc (.bool true)) := by
  refine callsP_of gs_tabs Tryd.func10 rfl Tryd.ntmps10 rfl fun w0 S0 stab => ?_
  refine hits_seq ?_
  refine hits_region ?_
  refine sq (f_assign rfl (lt rfl)) rfl rfl ?_
  refine hits_nil ?_
  refine to_next ?_
  refine hits_seq ?_
  refine hits_region ?_
  refine sq (f_call en12 rfl num_c (lt rfl)) rfl rfl ?_
  refine sq (f_call en12 rfl num_c (lt rfl)) rfl rfl ?_
  refine sq (f_call en16 rfl (Do_c (by decide +kernel) (r0 := 0) (r1 := 0) (r2 := 0) (r3 := 7)) (lt rfl)) rfl rfl ?_
  refine sq (f_move rfl (lt rfl)) rfl rfl ?_
  refine sq (f_extract rfl rfl (lt rfl)) rfl rfl ?_
  refine sq (f_extract rfl rfl (lt rfl)) rfl rfl ?_
  refine sq (f_alloc zc27 (lt rfl)) rfl rfl ?_
  refine sq (f_store kd27 rfl rfl rfl rfl rfl) rfl rfl ?_
  refine sq (f_assign rfl (lt rfl)) rfl rfl ?_
  refine hits_nil ?_
  refine to_next ?_
  refine hits_seq ?_
  refine hits_region ?_
  refine sq (f_call en12 rfl num_c (lt rfl)) rfl rfl ?_
  refine sq (f_build bu27 rfl rfl (lt rfl)) rfl rfl ?_
  refine sq (f_call en16 rfl (Do_c (by decide +kernel) (r0 := 0) (r1 := 0) (r2 := 0) (r3 := 1)) (lt rfl)) rfl rfl ?_
  refine sq (f_move rfl (lt rfl)) rfl rfl ?_
  refine sq (f_extract rfl rfl (lt rfl)) rfl rfl ?_
  refine sq (f_extract rfl rfl (lt rfl)) rfl rfl ?_
  refine sq (f_alloc zc27 (lt rfl)) rfl rfl ?_
  refine sq (f_store kd27 rfl rfl rfl rfl rfl) rfl rfl ?_
  refine sq (f_assign rfl (lt rfl)) rfl rfl ?_
  refine hits_nil ?_
  refine to_next ?_
  refine hits_seq ?_
  refine hits_region ?_
  refine sq (f_call en12 rfl num_c (lt rfl)) rfl rfl ?_
  refine sq (f_call en12 rfl num_c (lt rfl)) rfl rfl ?_
  refine sq (f_call en16 rfl (Do_c (by decide +kernel) (r0 := 0) (r1 := 0) (r2 := 0) (r3 := 1)) (lt rfl)) rfl rfl ?_
  refine sq (f_move rfl (lt rfl)) rfl rfl ?_
  refine sq (f_extract rfl rfl (lt rfl)) rfl rfl ?_
  refine sq (f_extract rfl rfl (lt rfl)) rfl rfl ?_
  refine sq (f_alloc zc27 (lt rfl)) rfl rfl ?_
  refine sq (f_store kd27 rfl rfl rfl rfl rfl) rfl rfl ?_
  refine sq (f_assign rfl (lt rfl)) rfl rfl ?_
  refine hits_nil ?_
  refine to_next ?_
  refine hits_seq ?_
  refine hits_region ?_
  refine sq (f_call en12 rfl num_c (lt rfl)) rfl rfl ?_
  refine sq (f_call en17 rfl text_alive (lt rfl)) rfl rfl ?_
  refine sq (f_move rfl (lt rfl)) rfl rfl ?_
  refine sq (f_extract rfl rfl (lt rfl)) rfl rfl ?_
  refine sq (f_extract rfl rfl (lt rfl)) rfl rfl ?_
  refine sq (f_assign rfl (lt rfl)) rfl rfl ?_
  refine sq (f_assign rfl (lt rfl)) rfl rfl ?_
  refine hits_nil ?_
  refine to_next ?_
  refine hits_seq ?_
  refine hits_region ?_
  refine sq (f_call en12 rfl num_c (lt rfl)) rfl rfl ?_
  refine sq (f_call en21 rfl bytes_alive (lt rfl)) rfl rfl ?_
  refine sq (f_move rfl (lt rfl)) rfl rfl ?_
  refine sq (f_extract rfl rfl (lt rfl)) rfl rfl ?_
  refine sq (f_extract rfl rfl (lt rfl)) rfl rfl ?_
  refine sq (f_assign rfl (lt rfl)) rfl rfl ?_
  refine sq (f_assign rfl (lt rfl)) rfl rfl ?_
  refine hits_nil ?_
  refine to_next ?_
  refine hits_seq ?_
  refine hits_region ?_
  refine sq (f_move rfl (lt rfl)) rfl rfl ?_
  refine sq (f_bin rfl rfl rfl (lt rfl)) rfl rfl ?_
  refine sq (f_move rfl (lt rfl)) rfl rfl ?_
  refine sq_yes (f_move rfl (lt rfl)) rfl rfl rfl rfl (lt rfl) ?_
  refine sq_yes (f_bin rfl rfl rfl (lt rfl)) rfl rfl rfl rfl (lt rfl) ?_
  refine sq (f_pick rfl rfl (lt rfl)) rfl rfl ?_
  refine sq (f_move rfl (lt rfl)) rfl rfl ?_
  refine sq_yes (f_move rfl (lt rfl)) rfl rfl rfl rfl (lt rfl) ?_
  refine sq_yes (f_bin rfl rfl rfl (lt rfl)) rfl rfl rfl rfl (lt rfl) ?_
  refine sq (f_pick rfl rfl (lt rfl)) rfl rfl ?_
  refine sq (f_move rfl (lt rfl)) rfl rfl ?_
  refine sq_yes (f_move rfl (lt rfl)) rfl rfl rfl rfl (lt rfl) ?_
  refine sq_yes (f_bin rfl rfl rfl (lt rfl)) rfl rfl rfl rfl (lt rfl) ?_
  refine sq (f_pick rfl rfl (lt rfl)) rfl rfl ?_
  refine sq (f_move rfl (lt rfl)) rfl rfl ?_
  refine sq_yes (f_move rfl (lt rfl)) rfl rfl rfl rfl (lt rfl) ?_
  refine sq_yes (f_bin rfl rfl rfl (lt rfl)) rfl rfl rfl rfl (lt rfl) ?_
  refine sq (f_pick rfl rfl (lt rfl)) rfl rfl ?_
  refine sq (f_move rfl (lt rfl)) rfl rfl ?_
  refine sq_yes (f_move rfl (lt rfl)) rfl rfl rfl rfl (lt rfl) ?_
  refine sq_yes (f_bin rfl rfl rfl (lt rfl)) rfl rfl rfl rfl (lt rfl) ?_
  rw [beq_self_eq_true (ByteArray.toList _)]
  refine sq (f_pick rfl rfl (lt rfl)) rfl rfl ?_
  refine sq (f_move rfl (lt rfl)) rfl rfl ?_
  refine sq_yes (f_move rfl (lt rfl)) rfl rfl rfl rfl (lt rfl) ?_
  refine sq_yes (f_buildSlice sk49 rfl rfl rfl rfl rfl rfl (by decide) (by decide) (lt rfl)) rfl rfl rfl rfl (lt rfl) ?_
  refine sq_yes (f_call en23 rfl same_alive (lt rfl)) rfl rfl rfl rfl (lt rfl) ?_
  refine sq (f_pick rfl rfl (lt rfl)) rfl rfl ?_
  refine sq (f_move rfl (lt rfl)) rfl rfl ?_
  refine sq_yes (f_call en12 rfl num_c (lt rfl)) rfl rfl rfl rfl (lt rfl) ?_
  refine sq_yes (f_call en12 rfl num_c (lt rfl)) rfl rfl rfl rfl (lt rfl) ?_
  refine sq_yes (f_call en11 rfl (do_c (by decide +kernel) (r0 := 8) (r1 := 0) (r2 := 1)) (lt rfl)) rfl rfl rfl rfl (lt rfl) ?_
  refine sq_yes (f_call en12 rfl num_c (lt rfl)) rfl rfl rfl rfl (lt rfl) ?_
  refine sq_yes (f_eqA rfl rfl rfl rfl (fun w => eql27 _ _ _ _ _ _ _ _ w) (lt rfl)) rfl rfl rfl rfl (lt rfl) ?_
  refine sq (f_pick rfl rfl (lt rfl)) rfl rfl ?_
  refine sq (f_move rfl (lt rfl)) rfl rfl ?_
  refine sq_yes (f_call en12 rfl num_c (lt rfl)) rfl rfl rfl rfl (lt rfl) ?_
  refine sq_yes (f_call en12 rfl num_c (lt rfl)) rfl rfl rfl rfl (lt rfl) ?_
  refine sq_yes (f_call en11 rfl (do_c (by decide +kernel) (r0 := 8) (r1 := 0) (r2 := 2)) (lt rfl)) rfl rfl rfl rfl (lt rfl) ?_
  refine sq_yes (f_call en12 rfl num_c (lt rfl)) rfl rfl rfl rfl (lt rfl) ?_
  refine sq_yes (f_eqA rfl rfl rfl rfl (fun w => eql27 _ _ _ _ _ _ _ _ w) (lt rfl)) rfl rfl rfl rfl (lt rfl) ?_
  refine sq (f_pick rfl rfl (lt rfl)) rfl rfl ?_
  refine sq (f_move rfl (lt rfl)) rfl rfl ?_
  refine sq_yes (f_call en12 rfl num_c (lt rfl)) rfl rfl rfl rfl (lt rfl) ?_
  refine sq_yes (f_call en12 rfl num_c (lt rfl)) rfl rfl rfl rfl (lt rfl) ?_
  refine sq_yes (f_call en11 rfl (do_c (by decide +kernel) (r0 := 12) (r1 := 0) (r2 := 2565)) (lt rfl)) rfl rfl rfl rfl (lt rfl) ?_
  refine sq_yes (f_call en12 rfl num_c (lt rfl)) rfl rfl rfl rfl (lt rfl) ?_
  refine sq_yes (f_eqA rfl rfl rfl rfl (fun w => eql27 _ _ _ _ _ _ _ _ w) (lt rfl)) rfl rfl rfl rfl (lt rfl) ?_
  refine sq (f_pick rfl rfl (lt rfl)) rfl rfl ?_
  refine sq (f_move rfl (lt rfl)) rfl rfl ?_
  refine sq_yes (f_call en12 rfl num_c (lt rfl)) rfl rfl rfl rfl (lt rfl) ?_
  refine sq_yes (f_call en14 rfl (lcut_c (by decide +kernel) (r0 := 4) (r1 := 0) (r2 := 10)) (lt rfl)) rfl rfl rfl rfl (lt rfl) ?_
  refine sq_yes (f_call en12 rfl num_c (lt rfl)) rfl rfl rfl rfl (lt rfl) ?_
  refine sq_yes (f_eqA rfl rfl rfl rfl (fun w => eql27 _ _ _ _ _ _ _ _ w) (lt rfl)) rfl rfl rfl rfl (lt rfl) ?_
  refine sq (f_pick rfl rfl (lt rfl)) rfl rfl ?_
  refine sq (f_assign rfl (lt rfl)) rfl rfl ?_
  refine hits_nil ?_
  refine to_next ?_
  refine hits_ret ?_
  exact hits_done (.inl rfl) rfl rfl rfl

end Go.Proofs.YthhlnghpbjmfpaaDoor.AbBits
