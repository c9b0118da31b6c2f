/- What the laws of the parser ask of it, at certain texts. -/
import Derived.Test.YtbgeejmhkmjfdaaGreatDoorAbPc
namespace Go.Proofs.YtbgeejmhkmjfdaaGreatDoor.Ln
open Go Go.RowKit Go.Ab Go.Proofs 
set_option linter.unusedVariables false
set_option linter.unusedSimpArgs false
theorem en8 : enters Tryz.prog 8 = true := by kernel_rfl
theorem cat_ok (a b : List UInt8) (h : a.length + b.length ≤ 9223372036854775807) : (B a).size + (B b).size ≤ 9223372036854775807 := by rw [B_size, B_size]; exact h
theorem parse_is {s : Tx} {r : List Dc × Nat × Nat} {x : D} (h : parseS s = r) (e : parsedD r = x) : CallsP Tryz.prog Lw 8 [txD s] x := by
  rw [← e, ← h]; exact parse_c s
theorem al1 : CallsP Tryz.prog Lw 8 [txD [97, 99, 116, 105, 111, 110, 32, 102, 40, 112, 32, 56, 41, 32, 123, 32, 104, 46, 97, 32, 61, 32, 126, 112, 91, 51, 58, 48, 93, 32, 43, 43, 32, 99, 97, 115, 116, 32, 52, 40, 104, 46, 98, 41, 32, 43, 32, 56, 119, 49, 59, 32, 125]] (.tup [.list 15 [.agg [.sc (.int .u8 7), txD [102], .list 2 [.agg [txD [112], nD 8]], nD 0, nD 0, nD 0, nD 0, .list 6 [], .list 11 [], .list 1 [], txD [], .list 3 [], .list 9 [.agg [.sc (.int .u8 1), txD [104], txD [97], txD [], nD 0, .list 10 [.agg [.sc (.int .u8 5), nD 0, .sc (.int .u64 0), .sc (.int .u64 0), txD [], txD [], nD 0, nD 0, .list 10 [.agg [.sc (.int .u8 14), nD 0, .sc (.int .u64 0), .sc (.int .u64 0), txD [], txD [], nD 0, nD 0, .list 10 [.agg [.sc (.int .u8 11), nD 0, .sc (.int .u64 0), .sc (.int .u64 0), txD [], txD [], nD 0, nD 0, .list 10 [.agg [.sc (.int .u8 15), nD 0, .sc (.int .u64 0), .sc (.int .u64 0), txD [], txD [], nD 3, nD 0, .list 10 [.agg [.sc (.int .u8 3), nD 0, .sc (.int .u64 0), .sc (.int .u64 0), txD [112], txD [], nD 0, nD 0, .list 10 [], nD 0]], nD 0]], nD 0], .agg [.sc (.int .u8 16), nD 0, .sc (.int .u64 0), .sc (.int .u64 0), txD [], txD [], nD 4, nD 0, .list 10 [.agg [.sc (.int .u8 2), nD 0, .sc (.int .u64 0), .sc (.int .u64 0), txD [104], txD [98], nD 0, nD 0, .list 10 [], nD 0]], nD 0]], nD 0], .agg [.sc (.int .u8 1), nD 8, .sc (.int .u64 0), .sc (.int .u64 1), txD [], txD [], nD 0, nD 0, .list 10 [], nD 0]], nD 0]], .list 9 [], .list 9 [], nD 0]], .list 1 [], nD 0]], nD 0, nD 0]) := parse_is (r := ([(⟨7, [102], [([112], 8)], 0, 0, 0, 0, [], [], [], [], [], [(Sm.mk 1 [104] [97] [] 0 [(Ex.mk 5 0 0 0 [] [] 0 0 [(Ex.mk 14 0 0 0 [] [] 0 0 [(Ex.mk 11 0 0 0 [] [] 0 0 [(Ex.mk 15 0 0 0 [] [] 3 0 [(Ex.mk 3 0 0 0 [112] [] 0 0 [] 0)] 0)] 0), (Ex.mk 16 0 0 0 [] [] 4 0 [(Ex.mk 2 0 0 0 [104] [98] 0 0 [] 0)] 0)] 0), (Ex.mk 1 8 0 1 [] [] 0 0 [] 0)] 0)] [] [] 0)], [], 0⟩ : Dc)], 0, 0)) (by kernel_rfl) (by kernel_rfl)
theorem al2 : CallsP Tryz.prog Lw 8 [txD [99, 111, 110, 116, 114, 111, 108, 32, 123, 10, 100, 114, 111, 112, 59]] (.tup [.list 15 [], nD 1, nD 5]) := parse_is (r := ([], 1, 5)) (by kernel_rfl) (by kernel_rfl)
theorem al3 : CallsP Tryz.prog Lw 8 [txD [99, 111, 110, 116, 114, 111, 108, 32, 123, 32, 97, 32, 61, 61, 32, 98, 32, 61, 61, 32, 99, 59, 32, 125]] (.tup [.list 15 [], nD 0, nD 5]) := parse_is (r := ([], 0, 5)) (by kernel_rfl) (by kernel_rfl)
set_option maxRecDepth 100000 in
theorem alive_c : CallsP Tryz.prog Lw 7 [] (.sc (.bool true)) := by
  refine callsP_of gs_lw Tryz.func7 rfl Tryz.ntmps7 rfl fun w0 S0 stab => ?_
  refine hits_seq ?_
  refine hits_region ?_
  refine sq (f_assign rfl (lt rfl)) rfl rfl ?_
  refine hits_nil ?_
  refine to_next ?_
  refine hits_seq ?_
  refine hits_region ?_
  refine sq (f_call en8 rfl al1 (lt rfl)) rfl rfl ?_
  refine sq (f_move rfl (lt rfl)) rfl rfl ?_
  refine sq (f_extract rfl rfl (lt rfl)) rfl rfl ?_
  refine sq (f_extract rfl rfl (lt rfl)) rfl rfl ?_
  refine sq (f_extract rfl rfl (lt rfl)) rfl rfl ?_
  refine sq (f_assign rfl (lt rfl)) rfl rfl ?_
  refine sq (f_assign rfl (lt rfl)) rfl rfl ?_
  refine sq (f_assign rfl (lt rfl)) rfl rfl ?_
  refine hits_nil ?_
  refine to_next ?_
  refine hits_seq ?_
  refine hits_region ?_
  refine sq (f_call en8 rfl al2 (lt rfl)) rfl rfl ?_
  refine sq (f_move rfl (lt rfl)) rfl rfl ?_
  refine sq (f_extract rfl rfl (lt rfl)) rfl rfl ?_
  refine sq (f_extract rfl rfl (lt rfl)) rfl rfl ?_
  refine sq (f_extract rfl rfl (lt rfl)) rfl rfl ?_
  refine sq (f_assign rfl (lt rfl)) rfl rfl ?_
  refine sq (f_assign rfl (lt rfl)) rfl rfl ?_
  refine sq (f_assign rfl (lt rfl)) rfl rfl ?_
  refine hits_nil ?_
  refine to_next ?_
  refine hits_seq ?_
  refine hits_region ?_
  refine sq (f_call en8 rfl al3 (lt rfl)) rfl rfl ?_
  refine sq (f_move rfl (lt rfl)) rfl rfl ?_
  refine sq (f_extract rfl rfl (lt rfl)) rfl rfl ?_
  refine sq (f_extract rfl rfl (lt rfl)) rfl rfl ?_
  refine sq (f_extract rfl rfl (lt rfl)) rfl rfl ?_
  refine sq (f_assign rfl (lt rfl)) rfl rfl ?_
  refine sq (f_assign rfl (lt rfl)) rfl rfl ?_
  refine sq (f_assign rfl (lt rfl)) rfl rfl ?_
  refine hits_nil ?_
  refine to_next ?_
  refine hits_seq ?_
  refine hits_seq ?_
  refine hits_region ?_
  refine sq (f_move rfl (lt rfl)) rfl rfl ?_
  refine sq (f_bin rfl rfl (bT (b' := false) rfl) (lt rfl)) rfl rfl ?_
  refine sq (f_move rfl (lt rfl)) rfl rfl ?_
  refine sq_yes (f_move rfl (lt rfl)) rfl rfl rfl rfl (lt rfl) ?_
  refine sq_yes (f_bin rfl rfl (bT (b' := false) rfl) (lt rfl)) rfl rfl rfl rfl (lt rfl) ?_
  refine sq (f_pick rfl rfl (lt rfl)) rfl rfl ?_
  refine sq (f_move rfl (lt rfl)) rfl rfl ?_
  refine sq_yes (f_move rfl (lt rfl)) rfl rfl rfl rfl (lt rfl) ?_
  refine sq_yes (f_bin rfl rfl (bT (b' := false) rfl) (lt rfl)) rfl rfl rfl rfl (lt rfl) ?_
  refine sq (f_pick rfl rfl (lt rfl)) rfl rfl ?_
  refine sq (f_move rfl (lt rfl)) rfl rfl ?_
  refine sq_yes (f_move rfl (lt rfl)) rfl rfl rfl rfl (lt rfl) ?_
  refine sq_yes (f_bin rfl rfl (bT (b' := false) rfl) (lt rfl)) rfl rfl rfl rfl (lt rfl) ?_
  refine sq (f_pick rfl rfl (lt rfl)) rfl rfl ?_
  refine sq (f_move rfl (lt rfl)) rfl rfl ?_
  refine sq_yes (f_move rfl (lt rfl)) rfl rfl rfl rfl (lt rfl) ?_
  refine sq_yes (f_bin rfl rfl (bT (b' := false) rfl) (lt rfl)) rfl rfl rfl rfl (lt rfl) ?_
  refine sq (f_pick rfl rfl (lt rfl)) rfl rfl ?_
  refine sq (f_move rfl (lt rfl)) rfl rfl ?_
  refine sq_yes (f_move rfl (lt rfl)) rfl rfl rfl rfl (lt rfl) ?_
  refine sq_yes (f_lenList rfl rfl un28 (lt rfl)) rfl rfl rfl rfl (lt rfl) ?_
  refine sq_yes (f_bin rfl rfl (bT (b' := false) rfl) (lt rfl)) rfl rfl rfl rfl (lt rfl) ?_
  refine sq (f_pick rfl rfl (lt rfl)) rfl rfl ?_
  refine sq (f_move rfl (lt rfl)) rfl rfl ?_
  refine sq_yes (f_move rfl (lt rfl)) rfl rfl rfl rfl (lt rfl) ?_
  refine sq_yes (f_idxList rfl rfl rfl un28 kd62 (by decide) rfl (lt rfl)) rfl rfl rfl rfl (lt rfl) ?_
  refine sq_yes (f_fieldAddr rfl kf62_0 rfl (lt rfl)) rfl rfl rfl rfl (lt rfl) ?_
  refine sq_yes (f_load kd55 rfl rfl (lt rfl)) rfl rfl rfl rfl (lt rfl) ?_
  refine sq_yes (f_bin rfl rfl (bT (b' := false) rfl) (lt rfl)) rfl rfl rfl rfl (lt rfl) ?_
  refine sq (f_pick rfl rfl (lt rfl)) rfl rfl ?_
  refine sq (f_move rfl (lt rfl)) rfl rfl ?_
  refine sq_yes (f_move rfl (lt rfl)) rfl rfl rfl rfl (lt rfl) ?_
  refine sq_yes (f_idxList rfl rfl rfl un28 kd62 (by decide) rfl (lt rfl)) rfl rfl rfl rfl (lt rfl) ?_
  refine sq_yes (f_fieldAddr rfl kf62_1 rfl (lt rfl)) rfl rfl rfl rfl (lt rfl) ?_
  refine sq_yes (f_load kd9 rfl rfl (lt rfl)) rfl rfl rfl rfl (lt rfl) ?_
  refine sq_yes (f_bin rfl rfl (bT ((congrArg not ((B_beq [102] [102]).trans (decide_eq_true rfl))))) (lt rfl)) rfl rfl rfl rfl (lt rfl) ?_
  refine sq (f_pick rfl rfl (lt rfl)) rfl rfl ?_
  refine sq (f_move rfl (lt rfl)) rfl rfl ?_
  refine sq_yes (f_move rfl (lt rfl)) rfl rfl rfl rfl (lt rfl) ?_
  refine sq_yes (f_idxList rfl rfl rfl un28 kd62 (by decide) rfl (lt rfl)) rfl rfl rfl rfl (lt rfl) ?_
  refine sq_yes (f_fieldAddr rfl kf62_12 rfl (lt rfl)) rfl rfl rfl rfl (lt rfl) ?_
  refine sq_yes (f_load kd60 rfl rfl (lt rfl)) rfl rfl rfl rfl (lt rfl) ?_
  refine sq_yes (f_lenList rfl rfl un60 (lt rfl)) rfl rfl rfl rfl (lt rfl) ?_
  refine sq_yes (f_bin rfl rfl (bT (b' := false) rfl) (lt rfl)) rfl rfl rfl rfl (lt rfl) ?_
  refine sq (f_pick rfl rfl (lt rfl)) rfl rfl ?_
  refine hits_nil ?_
  refine to_next ?_
  refine hits_cond rfl (fun c0 => absurd c0 Bool.false_ne_true) (fun c0 => ?_)
  refine hits_skip ?_
  refine to_next ?_
  refine hits_seq ?_
  refine hits_region ?_
  refine sq (f_move rfl (lt rfl)) rfl rfl ?_
  refine sq (f_idxList rfl rfl rfl un28 kd62 (by decide) rfl (lt rfl)) rfl rfl ?_
  refine sq (f_fieldAddr rfl kf62_12 rfl (lt rfl)) rfl rfl ?_
  refine sq (f_load kd60 rfl rfl (lt rfl)) rfl rfl ?_
  refine sq (f_idxList rfl rfl rfl un60 kd65 (by decide) rfl (lt rfl)) rfl rfl ?_
  refine sq (f_fieldAddr rfl kf65_5 rfl (lt rfl)) rfl rfl ?_
  refine sq (f_load kd44 rfl rfl (lt rfl)) rfl rfl ?_
  refine sq (f_idxList rfl rfl rfl un44 kd46 (by decide) rfl (lt rfl)) rfl rfl ?_
  refine sq (f_load kd46 rfl rfl (lt rfl)) rfl rfl ?_
  refine sq (f_alloc zc46 (lt rfl)) rfl rfl ?_
  refine sq (f_store kd46 rfl rfl rfl rfl rfl) rfl rfl ?_
  refine hits_nil ?_
  refine to_next ?_
  refine hits_seq ?_
  refine hits_region ?_
  refine sq (f_fieldAddr rfl kf46_0 rfl (lt rfl)) rfl rfl ?_
  refine sq (f_load kd43 rfl rfl (lt rfl)) rfl rfl ?_
  refine sq (f_bin rfl rfl (bT (b' := true) rfl) (lt rfl)) rfl rfl ?_
  refine sq (f_move rfl (lt rfl)) rfl rfl ?_
  refine sq_yes (f_fieldAddr rfl kf46_6 rfl (lt rfl)) rfl rfl rfl rfl (lt rfl) ?_
  refine sq_yes (f_load kd44 rfl rfl (lt rfl)) rfl rfl rfl rfl (lt rfl) ?_
  refine sq_yes (f_idxList rfl rfl rfl un44 kd46 (by decide) rfl (lt rfl)) rfl rfl rfl rfl (lt rfl) ?_
  refine sq_yes (f_fieldAddr rfl kf46_0 rfl (lt rfl)) rfl rfl rfl rfl (lt rfl) ?_
  refine sq_yes (f_load kd43 rfl rfl (lt rfl)) rfl rfl rfl rfl (lt rfl) ?_
  refine sq_yes (f_bin rfl rfl (bT (b' := true) rfl) (lt rfl)) rfl rfl rfl rfl (lt rfl) ?_
  refine sq (f_pick rfl rfl (lt rfl)) rfl rfl ?_
  refine sq (f_move rfl (lt rfl)) rfl rfl ?_
  refine sq_yes (f_fieldAddr rfl kf46_6 rfl (lt rfl)) rfl rfl rfl rfl (lt rfl) ?_
  refine sq_yes (f_load kd44 rfl rfl (lt rfl)) rfl rfl rfl rfl (lt rfl) ?_
  refine sq_yes (f_idxList rfl rfl rfl un44 kd46 (by decide) rfl (lt rfl)) rfl rfl rfl rfl (lt rfl) ?_
  refine sq_yes (f_fieldAddr rfl kf46_6 rfl (lt rfl)) rfl rfl rfl rfl (lt rfl) ?_
  refine sq_yes (f_load kd44 rfl rfl (lt rfl)) rfl rfl rfl rfl (lt rfl) ?_
  refine sq_yes (f_idxList rfl rfl rfl un44 kd46 (by decide) rfl (lt rfl)) rfl rfl rfl rfl (lt rfl) ?_
  refine sq_yes (f_fieldAddr rfl kf46_0 rfl (lt rfl)) rfl rfl rfl rfl (lt rfl) ?_
  refine sq_yes (f_load kd43 rfl rfl (lt rfl)) rfl rfl rfl rfl (lt rfl) ?_
  refine sq_yes (f_bin rfl rfl (bT (b' := true) rfl) (lt rfl)) rfl rfl rfl rfl (lt rfl) ?_
  refine sq (f_pick rfl rfl (lt rfl)) rfl rfl ?_
  refine sq (f_move rfl (lt rfl)) rfl rfl ?_
  refine sq_yes (f_fieldAddr rfl kf46_6 rfl (lt rfl)) rfl rfl rfl rfl (lt rfl) ?_
  refine sq_yes (f_load kd44 rfl rfl (lt rfl)) rfl rfl rfl rfl (lt rfl) ?_
  refine sq_yes (f_idxList rfl rfl rfl un44 kd46 (by decide) rfl (lt rfl)) rfl rfl rfl rfl (lt rfl) ?_
  refine sq_yes (f_fieldAddr rfl kf46_6 rfl (lt rfl)) rfl rfl rfl rfl (lt rfl) ?_
  refine sq_yes (f_load kd44 rfl rfl (lt rfl)) rfl rfl rfl rfl (lt rfl) ?_
  refine sq_yes (f_idxList rfl rfl rfl un44 kd46 (by decide) rfl (lt rfl)) rfl rfl rfl rfl (lt rfl) ?_
  refine sq_yes (f_fieldAddr rfl kf46_6 rfl (lt rfl)) rfl rfl rfl rfl (lt rfl) ?_
  refine sq_yes (f_load kd44 rfl rfl (lt rfl)) rfl rfl rfl rfl (lt rfl) ?_
  refine sq_yes (f_idxList rfl rfl rfl un44 kd46 (by decide) rfl (lt rfl)) rfl rfl rfl rfl (lt rfl) ?_
  refine sq_yes (f_fieldAddr rfl kf46_0 rfl (lt rfl)) rfl rfl rfl rfl (lt rfl) ?_
  refine sq_yes (f_load kd43 rfl rfl (lt rfl)) rfl rfl rfl rfl (lt rfl) ?_
  refine sq_yes (f_bin rfl rfl (bT (b' := true) rfl) (lt rfl)) rfl rfl rfl rfl (lt rfl) ?_
  refine sq (f_pick rfl rfl (lt rfl)) rfl rfl ?_
  refine sq (f_move rfl (lt rfl)) rfl rfl ?_
  refine sq_yes (f_fieldAddr rfl kf46_6 rfl (lt rfl)) rfl rfl rfl rfl (lt rfl) ?_
  refine sq_yes (f_load kd44 rfl rfl (lt rfl)) rfl rfl rfl rfl (lt rfl) ?_
  refine sq_yes (f_idxList rfl rfl rfl un44 kd46 (by decide) rfl (lt rfl)) rfl rfl rfl rfl (lt rfl) ?_
  refine sq_yes (f_fieldAddr rfl kf46_1 rfl (lt rfl)) rfl rfl rfl rfl (lt rfl) ?_
  refine sq_yes (f_load kd35 rfl rfl (lt rfl)) rfl rfl rfl rfl (lt rfl) ?_
  refine sq_yes (f_build bu35 rfl rfl (lt rfl)) rfl rfl rfl rfl (lt rfl) ?_
  refine sq_yes (f_eqS rfl rfl rfl rfl eqg35 (ev35 ..) (by decide) (rfl : _ = true) (lt rfl)) rfl rfl rfl rfl (lt rfl) ?_
  refine sq (f_pick rfl rfl (lt rfl)) rfl rfl ?_
  refine sq (f_assign rfl (lt rfl)) rfl rfl ?_
  refine hits_nil ?_
  refine to_next ?_
  refine hits_ret ?_
  exact hits_done (.inl rfl) rfl rfl rfl
abbrev Sgn := Tx × Nat × Nat
def sgA (p q : Sgn) : Tx := ((([99, 111, 110, 116, 114, 111, 108, 32, 123, 32, 104, 46, 97, 32, 61, 32, 120, 32] ++ p.1) ++ [32, 121, 32]) ++ q.1) ++ [32, 122, 59, 32, 125]
def exB (op : Nat) (x y : Ex) : Ex := .mk op 0 0 0 [] [] 0 0 [x, y] 0
def bindX (p q : Sgn) : Ex := if p.2.2 < q.2.2 then exB p.2.1 (Ex.mk 3 0 0 0 [120] [] 0 0 [] 0) (exB q.2.1 (Ex.mk 3 0 0 0 [121] [] 0 0 [] 0) (Ex.mk 3 0 0 0 [122] [] 0 0 [] 0)) else exB q.2.1 (exB p.2.1 (Ex.mk 3 0 0 0 [120] [] 0 0 [] 0) (Ex.mk 3 0 0 0 [121] [] 0 0 [] 0)) (Ex.mk 3 0 0 0 [122] [] 0 0 [] 0)
def bindR (p q : Sgn) : List Dc × Nat × Nat := if p.2.2 = 2 ∧ q.2.2 = 2 then ([], 0, 5) else ([(⟨9, [], [], 0, 0, 0, 0, [], [], [], [], [], [(Sm.mk 1 [104] [97] [] 0 [bindX p q] [] [] 0)], [], 0⟩ : Dc)], 0, 0)
theorem bind_tab : (twosL.map fun p => twosL.map fun q => parseS (sgA p q)) = twosL.map fun p => twosL.map fun q => bindR p q := by kernel_rfl
theorem bind_all {p q : Sgn} (hp : p ∈ twosL) (hq : q ∈ twosL) : parseS (sgA p q) = bindR p q :=
  List.map_inj_left.mp (List.map_inj_left.mp bind_tab p hp) q hq
theorem sgn_short : ∀ p ∈ twosL, p.1.length ≤ 2 := by decide
set_option maxRecDepth 100000 in
theorem signed_r {p q : Sgn} (hp : p ∈ twosL) (hq : q ∈ twosL) (h2' : ¬ (p.2.2 = 2 ∧ q.2.2 = 2)) (hb : p.2.2 < q.2.2) : CallsP Tryz.prog Lw 10 [txD p.1, txD q.1] (.tup [.agg [.sc (.int .u8 (p.2.1 : Int)), nD 0, .sc (.int .u64 0), .sc (.int .u64 0), txD [], txD [], nD 0, nD 0, .list 10 [.agg [.sc (.int .u8 3), nD 0, .sc (.int .u64 0), .sc (.int .u64 0), txD [120], txD [], nD 0, nD 0, .list 10 [], nD 0], .agg [.sc (.int .u8 (q.2.1 : Int)), nD 0, .sc (.int .u64 0), .sc (.int .u64 0), txD [], txD [], nD 0, nD 0, .list 10 [.agg [.sc (.int .u8 3), nD 0, .sc (.int .u64 0), .sc (.int .u64 0), txD [121], txD [], nD 0, nD 0, .list 10 [], nD 0], .agg [.sc (.int .u8 3), nD 0, .sc (.int .u64 0), .sc (.int .u64 0), txD [122], txD [], nD 0, nD 0, .list 10 [], nD 0]], nD 0]], nD 0], .sc (.bool true)]) := by
  have h1 := sgn_short p hp
  have h2 := sgn_short q hq
  have hr : CallsP Tryz.prog Lw 8 [txD (sgA p q)] (.tup [.list 15 [.agg [.sc (.int .u8 9), txD [], .list 2 [], nD 0, nD 0, nD 0, nD 0, .list 6 [], .list 11 [], .list 1 [], txD [], .list 3 [], .list 9 [.agg [.sc (.int .u8 1), txD [104], txD [97], txD [], nD 0, .list 10 [.agg [.sc (.int .u8 (p.2.1 : Int)), nD 0, .sc (.int .u64 0), .sc (.int .u64 0), txD [], txD [], nD 0, nD 0, .list 10 [.agg [.sc (.int .u8 3), nD 0, .sc (.int .u64 0), .sc (.int .u64 0), txD [120], txD [], nD 0, nD 0, .list 10 [], nD 0], .agg [.sc (.int .u8 (q.2.1 : Int)), nD 0, .sc (.int .u64 0), .sc (.int .u64 0), txD [], txD [], nD 0, nD 0, .list 10 [.agg [.sc (.int .u8 3), nD 0, .sc (.int .u64 0), .sc (.int .u64 0), txD [121], txD [], nD 0, nD 0, .list 10 [], nD 0], .agg [.sc (.int .u8 3), nD 0, .sc (.int .u64 0), .sc (.int .u64 0), txD [122], txD [], nD 0, nD 0, .list 10 [], nD 0]], nD 0]], nD 0]], .list 9 [], .list 9 [], nD 0]], .list 1 [], nD 0]], nD 0, nD 0]) := parse_is (bind_all hp hq) (by rw [bindR, if_neg h2', bindX, if_pos hb]; rfl)
  refine callsP_of gs_lw Tryz.func10 rfl Tryz.ntmps10 rfl fun w0 S0 stab => ?_
  refine hits_seq ?_
  refine hits_region ?_
  refine sq (f_alloc zc46 (lt rfl)) rfl rfl ?_
  refine sq (f_assign rfl (lt rfl)) rfl rfl ?_
  refine hits_nil ?_
  refine to_next ?_
  refine hits_seq ?_
  refine hits_region ?_
  refine sq (f_move rfl (lt rfl)) rfl rfl ?_
  refine sq (f_catI rfl rfl (cat_ok ([99, 111, 110, 116, 114, 111, 108, 32, 123, 32, 104, 46, 97, 32, 61, 32, 120, 32]) (p.1) (by simp only [List.length_append, List.length_cons, List.length_nil]; omega)) (B_app ([99, 111, 110, 116, 114, 111, 108, 32, 123, 32, 104, 46, 97, 32, 61, 32, 120, 32]) (p.1)) (lt rfl)) rfl rfl ?_
  refine sq (f_catI rfl rfl (cat_ok ([99, 111, 110, 116, 114, 111, 108, 32, 123, 32, 104, 46, 97, 32, 61, 32, 120, 32] ++ p.1) ([32, 121, 32]) (by simp only [List.length_append, List.length_cons, List.length_nil]; omega)) (B_app ([99, 111, 110, 116, 114, 111, 108, 32, 123, 32, 104, 46, 97, 32, 61, 32, 120, 32] ++ p.1) ([32, 121, 32])) (lt rfl)) rfl rfl ?_
  refine sq (f_move rfl (lt rfl)) rfl rfl ?_
  refine sq (f_catI rfl rfl (cat_ok (([99, 111, 110, 116, 114, 111, 108, 32, 123, 32, 104, 46, 97, 32, 61, 32, 120, 32] ++ p.1) ++ [32, 121, 32]) (q.1) (by simp only [List.length_append, List.length_cons, List.length_nil]; omega)) (B_app (([99, 111, 110, 116, 114, 111, 108, 32, 123, 32, 104, 46, 97, 32, 61, 32, 120, 32] ++ p.1) ++ [32, 121, 32]) (q.1)) (lt rfl)) rfl rfl ?_
  refine sq (f_catI rfl rfl (cat_ok ((([99, 111, 110, 116, 114, 111, 108, 32, 123, 32, 104, 46, 97, 32, 61, 32, 120, 32] ++ p.1) ++ [32, 121, 32]) ++ q.1) ([32, 122, 59, 32, 125]) (by simp only [List.length_append, List.length_cons, List.length_nil]; omega)) (B_app ((([99, 111, 110, 116, 114, 111, 108, 32, 123, 32, 104, 46, 97, 32, 61, 32, 120, 32] ++ p.1) ++ [32, 121, 32]) ++ q.1) ([32, 122, 59, 32, 125])) (lt rfl)) rfl rfl ?_
  refine sq (f_call en8 rfl hr (lt rfl)) rfl rfl ?_
  refine sq (f_move rfl (lt rfl)) rfl rfl ?_
  refine sq (f_extract rfl rfl (lt rfl)) rfl rfl ?_
  refine sq (f_extract rfl rfl (lt rfl)) rfl rfl ?_
  refine sq (f_extract rfl rfl (lt rfl)) rfl rfl ?_
  refine sq (f_assign rfl (lt rfl)) rfl rfl ?_
  refine sq (f_assign rfl (lt rfl)) rfl rfl ?_
  refine sq (f_assign rfl (lt rfl)) rfl rfl ?_
  refine hits_nil ?_
  refine to_next ?_
  refine hits_seq ?_
  refine hits_seq ?_
  refine hits_region ?_
  refine sq (f_move rfl (lt rfl)) rfl rfl ?_
  refine sq (f_bin rfl rfl (bT (b' := false) rfl) (lt rfl)) rfl rfl ?_
  refine sq (f_move rfl (lt rfl)) rfl rfl ?_
  refine sq_yes (f_move rfl (lt rfl)) rfl rfl rfl rfl (lt rfl) ?_
  refine sq_yes (f_lenList rfl rfl un28 (lt rfl)) rfl rfl rfl rfl (lt rfl) ?_
  refine sq_yes (f_bin rfl rfl (bT (b' := false) rfl) (lt rfl)) rfl rfl rfl rfl (lt rfl) ?_
  refine sq (f_pick rfl rfl (lt rfl)) rfl rfl ?_
  refine sq (f_move rfl (lt rfl)) rfl rfl ?_
  refine sq_yes (f_move rfl (lt rfl)) rfl rfl rfl rfl (lt rfl) ?_
  refine sq_yes (f_idxList rfl rfl rfl un28 kd62 (by decide) rfl (lt rfl)) rfl rfl rfl rfl (lt rfl) ?_
  refine sq_yes (f_fieldAddr rfl kf62_12 rfl (lt rfl)) rfl rfl rfl rfl (lt rfl) ?_
  refine sq_yes (f_load kd60 rfl rfl (lt rfl)) rfl rfl rfl rfl (lt rfl) ?_
  refine sq_yes (f_lenList rfl rfl un60 (lt rfl)) rfl rfl rfl rfl (lt rfl) ?_
  refine sq_yes (f_bin rfl rfl (bT (b' := false) rfl) (lt rfl)) rfl rfl rfl rfl (lt rfl) ?_
  refine sq (f_pick rfl rfl (lt rfl)) rfl rfl ?_
  refine sq (f_move rfl (lt rfl)) rfl rfl ?_
  refine sq_yes (f_move rfl (lt rfl)) rfl rfl rfl rfl (lt rfl) ?_
  refine sq_yes (f_idxList rfl rfl rfl un28 kd62 (by decide) rfl (lt rfl)) rfl rfl rfl rfl (lt rfl) ?_
  refine sq_yes (f_fieldAddr rfl kf62_12 rfl (lt rfl)) rfl rfl rfl rfl (lt rfl) ?_
  refine sq_yes (f_load kd60 rfl rfl (lt rfl)) rfl rfl rfl rfl (lt rfl) ?_
  refine sq_yes (f_idxList rfl rfl rfl un60 kd65 (by decide) rfl (lt rfl)) rfl rfl rfl rfl (lt rfl) ?_
  refine sq_yes (f_fieldAddr rfl kf65_5 rfl (lt rfl)) rfl rfl rfl rfl (lt rfl) ?_
  refine sq_yes (f_load kd44 rfl rfl (lt rfl)) rfl rfl rfl rfl (lt rfl) ?_
  refine sq_yes (f_lenList rfl rfl un44 (lt rfl)) rfl rfl rfl rfl (lt rfl) ?_
  refine sq_yes (f_bin rfl rfl (bT (b' := false) rfl) (lt rfl)) rfl rfl rfl rfl (lt rfl) ?_
  refine sq (f_pick rfl rfl (lt rfl)) rfl rfl ?_
  refine hits_nil ?_
  refine to_next ?_
  refine hits_cond rfl (fun c0 => absurd c0 Bool.false_ne_true) (fun c0 => ?_)
  refine hits_skip ?_
  refine to_next ?_
  refine hits_seq ?_
  refine hits_region ?_
  refine sq (f_move rfl (lt rfl)) rfl rfl ?_
  refine sq (f_idxList rfl rfl rfl un28 kd62 (by decide) rfl (lt rfl)) rfl rfl ?_
  refine sq (f_fieldAddr rfl kf62_12 rfl (lt rfl)) rfl rfl ?_
  refine sq (f_load kd60 rfl rfl (lt rfl)) rfl rfl ?_
  refine sq (f_idxList rfl rfl rfl un60 kd65 (by decide) rfl (lt rfl)) rfl rfl ?_
  refine sq (f_fieldAddr rfl kf65_5 rfl (lt rfl)) rfl rfl ?_
  refine sq (f_load kd44 rfl rfl (lt rfl)) rfl rfl ?_
  refine sq (f_idxList rfl rfl rfl un44 kd46 (by decide) rfl (lt rfl)) rfl rfl ?_
  refine sq (f_load kd46 rfl rfl (lt rfl)) rfl rfl ?_
  refine sq (f_store kd46 rfl rfl rfl rfl rfl) rfl rfl ?_
  refine sq (f_assign rfl (lt rfl)) rfl rfl ?_
  refine hits_nil ?_
  refine to_next ?_
  refine hits_ret ?_
  exact hits_done (.inl rfl) rfl rfl rfl
set_option maxRecDepth 100000 in
theorem signed_l {p q : Sgn} (hp : p ∈ twosL) (hq : q ∈ twosL) (h2' : ¬ (p.2.2 = 2 ∧ q.2.2 = 2)) (hb : ¬ p.2.2 < q.2.2) : CallsP Tryz.prog Lw 10 [txD p.1, txD q.1] (.tup [.agg [.sc (.int .u8 (q.2.1 : Int)), nD 0, .sc (.int .u64 0), .sc (.int .u64 0), txD [], txD [], nD 0, nD 0, .list 10 [.agg [.sc (.int .u8 (p.2.1 : Int)), nD 0, .sc (.int .u64 0), .sc (.int .u64 0), txD [], txD [], nD 0, nD 0, .list 10 [.agg [.sc (.int .u8 3), nD 0, .sc (.int .u64 0), .sc (.int .u64 0), txD [120], txD [], nD 0, nD 0, .list 10 [], nD 0], .agg [.sc (.int .u8 3), nD 0, .sc (.int .u64 0), .sc (.int .u64 0), txD [121], txD [], nD 0, nD 0, .list 10 [], nD 0]], nD 0], .agg [.sc (.int .u8 3), nD 0, .sc (.int .u64 0), .sc (.int .u64 0), txD [122], txD [], nD 0, nD 0, .list 10 [], nD 0]], nD 0], .sc (.bool true)]) := by
  have h1 := sgn_short p hp
  have h2 := sgn_short q hq
  have hr : CallsP Tryz.prog Lw 8 [txD (sgA p q)] (.tup [.list 15 [.agg [.sc (.int .u8 9), txD [], .list 2 [], nD 0, nD 0, nD 0, nD 0, .list 6 [], .list 11 [], .list 1 [], txD [], .list 3 [], .list 9 [.agg [.sc (.int .u8 1), txD [104], txD [97], txD [], nD 0, .list 10 [.agg [.sc (.int .u8 (q.2.1 : Int)), nD 0, .sc (.int .u64 0), .sc (.int .u64 0), txD [], txD [], nD 0, nD 0, .list 10 [.agg [.sc (.int .u8 (p.2.1 : Int)), nD 0, .sc (.int .u64 0), .sc (.int .u64 0), txD [], txD [], nD 0, nD 0, .list 10 [.agg [.sc (.int .u8 3), nD 0, .sc (.int .u64 0), .sc (.int .u64 0), txD [120], txD [], nD 0, nD 0, .list 10 [], nD 0], .agg [.sc (.int .u8 3), nD 0, .sc (.int .u64 0), .sc (.int .u64 0), txD [121], txD [], nD 0, nD 0, .list 10 [], nD 0]], nD 0], .agg [.sc (.int .u8 3), nD 0, .sc (.int .u64 0), .sc (.int .u64 0), txD [122], txD [], nD 0, nD 0, .list 10 [], nD 0]], nD 0]], .list 9 [], .list 9 [], nD 0]], .list 1 [], nD 0]], nD 0, nD 0]) := parse_is (bind_all hp hq) (by rw [bindR, if_neg h2', bindX, if_neg hb]; rfl)
  refine callsP_of gs_lw Tryz.func10 rfl Tryz.ntmps10 rfl fun w0 S0 stab => ?_
  refine hits_seq ?_
  refine hits_region ?_
  refine sq (f_alloc zc46 (lt rfl)) rfl rfl ?_
  refine sq (f_assign rfl (lt rfl)) rfl rfl ?_
  refine hits_nil ?_
  refine to_next ?_
  refine hits_seq ?_
  refine hits_region ?_
  refine sq (f_move rfl (lt rfl)) rfl rfl ?_
  refine sq (f_catI rfl rfl (cat_ok ([99, 111, 110, 116, 114, 111, 108, 32, 123, 32, 104, 46, 97, 32, 61, 32, 120, 32]) (p.1) (by simp only [List.length_append, List.length_cons, List.length_nil]; omega)) (B_app ([99, 111, 110, 116, 114, 111, 108, 32, 123, 32, 104, 46, 97, 32, 61, 32, 120, 32]) (p.1)) (lt rfl)) rfl rfl ?_
  refine sq (f_catI rfl rfl (cat_ok ([99, 111, 110, 116, 114, 111, 108, 32, 123, 32, 104, 46, 97, 32, 61, 32, 120, 32] ++ p.1) ([32, 121, 32]) (by simp only [List.length_append, List.length_cons, List.length_nil]; omega)) (B_app ([99, 111, 110, 116, 114, 111, 108, 32, 123, 32, 104, 46, 97, 32, 61, 32, 120, 32] ++ p.1) ([32, 121, 32])) (lt rfl)) rfl rfl ?_
  refine sq (f_move rfl (lt rfl)) rfl rfl ?_
  refine sq (f_catI rfl rfl (cat_ok (([99, 111, 110, 116, 114, 111, 108, 32, 123, 32, 104, 46, 97, 32, 61, 32, 120, 32] ++ p.1) ++ [32, 121, 32]) (q.1) (by simp only [List.length_append, List.length_cons, List.length_nil]; omega)) (B_app (([99, 111, 110, 116, 114, 111, 108, 32, 123, 32, 104, 46, 97, 32, 61, 32, 120, 32] ++ p.1) ++ [32, 121, 32]) (q.1)) (lt rfl)) rfl rfl ?_
  refine sq (f_catI rfl rfl (cat_ok ((([99, 111, 110, 116, 114, 111, 108, 32, 123, 32, 104, 46, 97, 32, 61, 32, 120, 32] ++ p.1) ++ [32, 121, 32]) ++ q.1) ([32, 122, 59, 32, 125]) (by simp only [List.length_append, List.length_cons, List.length_nil]; omega)) (B_app ((([99, 111, 110, 116, 114, 111, 108, 32, 123, 32, 104, 46, 97, 32, 61, 32, 120, 32] ++ p.1) ++ [32, 121, 32]) ++ q.1) ([32, 122, 59, 32, 125])) (lt rfl)) rfl rfl ?_
  refine sq (f_call en8 rfl hr (lt rfl)) rfl rfl ?_
  refine sq (f_move rfl (lt rfl)) rfl rfl ?_
  refine sq (f_extract rfl rfl (lt rfl)) rfl rfl ?_
  refine sq (f_extract rfl rfl (lt rfl)) rfl rfl ?_
  refine sq (f_extract rfl rfl (lt rfl)) rfl rfl ?_
  refine sq (f_assign rfl (lt rfl)) rfl rfl ?_
  refine sq (f_assign rfl (lt rfl)) rfl rfl ?_
  refine sq (f_assign rfl (lt rfl)) rfl rfl ?_
  refine hits_nil ?_
  refine to_next ?_
  refine hits_seq ?_
  refine hits_seq ?_
  refine hits_region ?_
  refine sq (f_move rfl (lt rfl)) rfl rfl ?_
  refine sq (f_bin rfl rfl (bT (b' := false) rfl) (lt rfl)) rfl rfl ?_
  refine sq (f_move rfl (lt rfl)) rfl rfl ?_
  refine sq_yes (f_move rfl (lt rfl)) rfl rfl rfl rfl (lt rfl) ?_
  refine sq_yes (f_lenList rfl rfl un28 (lt rfl)) rfl rfl rfl rfl (lt rfl) ?_
  refine sq_yes (f_bin rfl rfl (bT (b' := false) rfl) (lt rfl)) rfl rfl rfl rfl (lt rfl) ?_
  refine sq (f_pick rfl rfl (lt rfl)) rfl rfl ?_
  refine sq (f_move rfl (lt rfl)) rfl rfl ?_
  refine sq_yes (f_move rfl (lt rfl)) rfl rfl rfl rfl (lt rfl) ?_
  refine sq_yes (f_idxList rfl rfl rfl un28 kd62 (by decide) rfl (lt rfl)) rfl rfl rfl rfl (lt rfl) ?_
  refine sq_yes (f_fieldAddr rfl kf62_12 rfl (lt rfl)) rfl rfl rfl rfl (lt rfl) ?_
  refine sq_yes (f_load kd60 rfl rfl (lt rfl)) rfl rfl rfl rfl (lt rfl) ?_
  refine sq_yes (f_lenList rfl rfl un60 (lt rfl)) rfl rfl rfl rfl (lt rfl) ?_
  refine sq_yes (f_bin rfl rfl (bT (b' := false) rfl) (lt rfl)) rfl rfl rfl rfl (lt rfl) ?_
  refine sq (f_pick rfl rfl (lt rfl)) rfl rfl ?_
  refine sq (f_move rfl (lt rfl)) rfl rfl ?_
  refine sq_yes (f_move rfl (lt rfl)) rfl rfl rfl rfl (lt rfl) ?_
  refine sq_yes (f_idxList rfl rfl rfl un28 kd62 (by decide) rfl (lt rfl)) rfl rfl rfl rfl (lt rfl) ?_
  refine sq_yes (f_fieldAddr rfl kf62_12 rfl (lt rfl)) rfl rfl rfl rfl (lt rfl) ?_
  refine sq_yes (f_load kd60 rfl rfl (lt rfl)) rfl rfl rfl rfl (lt rfl) ?_
  refine sq_yes (f_idxList rfl rfl rfl un60 kd65 (by decide) rfl (lt rfl)) rfl rfl rfl rfl (lt rfl) ?_
  refine sq_yes (f_fieldAddr rfl kf65_5 rfl (lt rfl)) rfl rfl rfl rfl (lt rfl) ?_
  refine sq_yes (f_load kd44 rfl rfl (lt rfl)) rfl rfl rfl rfl (lt rfl) ?_
  refine sq_yes (f_lenList rfl rfl un44 (lt rfl)) rfl rfl rfl rfl (lt rfl) ?_
  refine sq_yes (f_bin rfl rfl (bT (b' := false) rfl) (lt rfl)) rfl rfl rfl rfl (lt rfl) ?_
  refine sq (f_pick rfl rfl (lt rfl)) rfl rfl ?_
  refine hits_nil ?_
  refine to_next ?_
  refine hits_cond rfl (fun c0 => absurd c0 Bool.false_ne_true) (fun c0 => ?_)
  refine hits_skip ?_
  refine to_next ?_
  refine hits_seq ?_
  refine hits_region ?_
  refine sq (f_move rfl (lt rfl)) rfl rfl ?_
  refine sq (f_idxList rfl rfl rfl un28 kd62 (by decide) rfl (lt rfl)) rfl rfl ?_
  refine sq (f_fieldAddr rfl kf62_12 rfl (lt rfl)) rfl rfl ?_
  refine sq (f_load kd60 rfl rfl (lt rfl)) rfl rfl ?_
  refine sq (f_idxList rfl rfl rfl un60 kd65 (by decide) rfl (lt rfl)) rfl rfl ?_
  refine sq (f_fieldAddr rfl kf65_5 rfl (lt rfl)) rfl rfl ?_
  refine sq (f_load kd44 rfl rfl (lt rfl)) rfl rfl ?_
  refine sq (f_idxList rfl rfl rfl un44 kd46 (by decide) rfl (lt rfl)) rfl rfl ?_
  refine sq (f_load kd46 rfl rfl (lt rfl)) rfl rfl ?_
  refine sq (f_store kd46 rfl rfl rfl rfl rfl) rfl rfl ?_
  refine sq (f_assign rfl (lt rfl)) rfl rfl ?_
  refine hits_nil ?_
  refine to_next ?_
  refine hits_ret ?_
  exact hits_done (.inl rfl) rfl rfl rfl
set_option maxRecDepth 100000 in
theorem signed_no {p q : Sgn} (hp : p ∈ twosL) (hq : q ∈ twosL) (h2' : p.2.2 = 2 ∧ q.2.2 = 2) : CallsP Tryz.prog Lw 10 [txD p.1, txD q.1] (.tup [.agg [.sc (.int .u8 0), .sc (.int .i64 0), .sc (.int .u64 0), .sc (.int .u64 0), .sc (.string ByteArray.empty), .sc (.string ByteArray.empty), .sc (.int .i64 0), .sc (.int .i64 0), .sc (.slice none 0 0), .sc (.int .i64 0)], .sc (.bool false)]) := by
  have h1 := sgn_short p hp
  have h2 := sgn_short q hq
  have hr : CallsP Tryz.prog Lw 8 [txD (sgA p q)] (.tup [.list 15 [], nD 0, nD 5]) := parse_is (bind_all hp hq) (by rw [bindR, if_pos h2']; rfl)
  refine callsP_of gs_lw Tryz.func10 rfl Tryz.ntmps10 rfl fun w0 S0 stab => ?_
  refine hits_seq ?_
  refine hits_region ?_
  refine sq (f_alloc zc46 (lt rfl)) rfl rfl ?_
  refine sq (f_assign rfl (lt rfl)) rfl rfl ?_
  refine hits_nil ?_
  refine to_next ?_
  refine hits_seq ?_
  refine hits_region ?_
  refine sq (f_move rfl (lt rfl)) rfl rfl ?_
  refine sq (f_catI rfl rfl (cat_ok ([99, 111, 110, 116, 114, 111, 108, 32, 123, 32, 104, 46, 97, 32, 61, 32, 120, 32]) (p.1) (by simp only [List.length_append, List.length_cons, List.length_nil]; omega)) (B_app ([99, 111, 110, 116, 114, 111, 108, 32, 123, 32, 104, 46, 97, 32, 61, 32, 120, 32]) (p.1)) (lt rfl)) rfl rfl ?_
  refine sq (f_catI rfl rfl (cat_ok ([99, 111, 110, 116, 114, 111, 108, 32, 123, 32, 104, 46, 97, 32, 61, 32, 120, 32] ++ p.1) ([32, 121, 32]) (by simp only [List.length_append, List.length_cons, List.length_nil]; omega)) (B_app ([99, 111, 110, 116, 114, 111, 108, 32, 123, 32, 104, 46, 97, 32, 61, 32, 120, 32] ++ p.1) ([32, 121, 32])) (lt rfl)) rfl rfl ?_
  refine sq (f_move rfl (lt rfl)) rfl rfl ?_
  refine sq (f_catI rfl rfl (cat_ok (([99, 111, 110, 116, 114, 111, 108, 32, 123, 32, 104, 46, 97, 32, 61, 32, 120, 32] ++ p.1) ++ [32, 121, 32]) (q.1) (by simp only [List.length_append, List.length_cons, List.length_nil]; omega)) (B_app (([99, 111, 110, 116, 114, 111, 108, 32, 123, 32, 104, 46, 97, 32, 61, 32, 120, 32] ++ p.1) ++ [32, 121, 32]) (q.1)) (lt rfl)) rfl rfl ?_
  refine sq (f_catI rfl rfl (cat_ok ((([99, 111, 110, 116, 114, 111, 108, 32, 123, 32, 104, 46, 97, 32, 61, 32, 120, 32] ++ p.1) ++ [32, 121, 32]) ++ q.1) ([32, 122, 59, 32, 125]) (by simp only [List.length_append, List.length_cons, List.length_nil]; omega)) (B_app ((([99, 111, 110, 116, 114, 111, 108, 32, 123, 32, 104, 46, 97, 32, 61, 32, 120, 32] ++ p.1) ++ [32, 121, 32]) ++ q.1) ([32, 122, 59, 32, 125])) (lt rfl)) rfl rfl ?_
  refine sq (f_call en8 rfl hr (lt rfl)) rfl rfl ?_
  refine sq (f_move rfl (lt rfl)) rfl rfl ?_
  refine sq (f_extract rfl rfl (lt rfl)) rfl rfl ?_
  refine sq (f_extract rfl rfl (lt rfl)) rfl rfl ?_
  refine sq (f_extract rfl rfl (lt rfl)) rfl rfl ?_
  refine sq (f_assign rfl (lt rfl)) rfl rfl ?_
  refine sq (f_assign rfl (lt rfl)) rfl rfl ?_
  refine sq (f_assign rfl (lt rfl)) rfl rfl ?_
  refine hits_nil ?_
  refine to_next ?_
  refine hits_seq ?_
  refine hits_seq ?_
  refine hits_region ?_
  refine sq (f_move rfl (lt rfl)) rfl rfl ?_
  refine sq (f_bin rfl rfl (bT (b' := true) rfl) (lt rfl)) rfl rfl ?_
  refine sq (f_move rfl (lt rfl)) rfl rfl ?_
  refine sq_no rfl rfl rfl rfl rfl (lt rfl) (lt rfl) ?_
  refine sq_no rfl rfl rfl rfl rfl (lt rfl) (lt rfl) ?_
  refine sq_no rfl rfl rfl rfl rfl (lt rfl) (lt rfl) ?_
  refine sq (f_pick rfl rfl (lt rfl)) rfl rfl ?_
  refine sq (f_move rfl (lt rfl)) rfl rfl ?_
  refine sq_no rfl rfl rfl rfl rfl (lt rfl) (lt rfl) ?_
  refine sq_no rfl rfl rfl rfl rfl (lt rfl) (lt rfl) ?_
  refine sq_no rfl rfl rfl rfl rfl (lt rfl) (lt rfl) ?_
  refine sq_no rfl rfl rfl rfl rfl (lt rfl) (lt rfl) ?_
  refine sq_no rfl rfl rfl rfl rfl (lt rfl) (lt rfl) ?_
  refine sq_no rfl rfl rfl rfl rfl (lt rfl) (lt rfl) ?_
  refine sq (f_pick rfl rfl (lt rfl)) rfl rfl ?_
  refine sq (f_move rfl (lt rfl)) rfl rfl ?_
  refine sq_no rfl rfl rfl rfl rfl (lt rfl) (lt rfl) ?_
  refine sq_no rfl rfl rfl rfl rfl (lt rfl) (lt rfl) ?_
  refine sq_no rfl rfl rfl rfl rfl (lt rfl) (lt rfl) ?_
  refine sq_no rfl rfl rfl rfl rfl (lt rfl) (lt rfl) ?_
  refine sq_no rfl rfl rfl rfl rfl (lt rfl) (lt rfl) ?_
  refine sq_no rfl rfl rfl rfl rfl (lt rfl) (lt rfl) ?_
  refine sq_no rfl rfl rfl rfl rfl (lt rfl) (lt rfl) ?_
  refine sq_no rfl rfl rfl rfl rfl (lt rfl) (lt rfl) ?_
  refine sq_no rfl rfl rfl rfl rfl (lt rfl) (lt rfl) ?_
  refine sq (f_pick rfl rfl (lt rfl)) rfl rfl ?_
  refine hits_nil ?_
  refine to_next ?_
  refine hits_cond rfl (fun c0 => ?_) (fun c0 => absurd c0 Bool.false_ne_true.symm)
  refine hits_seq ?_
  refine hits_region ?_
  refine sq (f_build bu46 rfl rfl (lt rfl)) rfl rfl ?_
  refine sq (f_store kd46 rfl rfl rfl rfl rfl) rfl rfl ?_
  refine sq (f_assign rfl (lt rfl)) rfl rfl ?_
  refine hits_nil ?_
  refine to_next ?_
  refine hits_ret ?_
  refine to_ret ?_
  exact hits_done (.inl rfl) rfl rfl rfl
end Go.Proofs.YtbgeejmhkmjfdaaGreatDoor.Ln
