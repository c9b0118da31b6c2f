/- The Book of lists: methods that meet no list, the marks. -/
import Derived.Test.YtcaedggggkchiaaGreatDoorAbLaw7
import Derived.Test.YtcaedggggkchiaaGreatDoorAbHeap
namespace Go.Proofs.YtcaedggggkchiaaGreatDoor.Ln
open Go Go.RowKit Go.Ab Go.Proofs 
set_option linter.unusedVariables false
set_option linter.unusedSimpArgs false
theorem kf65_1 : kf Tryz.prog 65 1 = some 1 := by kernel_rfl
theorem kd34 : kd Tryz.prog 34 = some (false, 1) := by kernel_rfl
theorem un34 : Tryz.prog.underlying 34 = some (.slice 110) := by kernel_rfl
theorem kf65_2 : kf Tryz.prog 65 2 = some 2 := by kernel_rfl
theorem kd35 : kd Tryz.prog 35 = some (false, 1) := by kernel_rfl
theorem un35 : Tryz.prog.underlying 35 = some (.slice 108) := by kernel_rfl
theorem kf65_3 : kf Tryz.prog 65 3 = some 3 := by kernel_rfl
theorem kd36 : kd Tryz.prog 36 = some (false, 1) := by kernel_rfl
theorem un36 : Tryz.prog.underlying 36 = some (.slice 115) := by kernel_rfl
theorem kf65_4 : kf Tryz.prog 65 4 = some 4 := by kernel_rfl
theorem kd37 : kd Tryz.prog 37 = some (false, 1) := by kernel_rfl
theorem un37 : Tryz.prog.underlying 37 = some (.slice 120) := by kernel_rfl
theorem kf65_5 : kf Tryz.prog 65 5 = some 5 := by kernel_rfl
theorem kd38 : kd Tryz.prog 38 = some (false, 1) := by kernel_rfl
theorem un38 : Tryz.prog.underlying 38 = some (.slice 123) := by kernel_rfl
theorem kf65_6 : kf Tryz.prog 65 6 = some 6 := by kernel_rfl
theorem kd39 : kd Tryz.prog 39 = some (false, 1) := by kernel_rfl
theorem un39 : Tryz.prog.underlying 39 = some (.slice 127) := by kernel_rfl
theorem kf65_7 : kf Tryz.prog 65 7 = some 7 := by kernel_rfl
theorem kd40 : kd Tryz.prog 40 = some (false, 1) := by kernel_rfl
theorem un40 : Tryz.prog.underlying 40 = some (.slice 130) := by kernel_rfl
theorem kf65_8 : kf Tryz.prog 65 8 = some 8 := by kernel_rfl
theorem kd41 : kd Tryz.prog 41 = some (false, 1) := by kernel_rfl
theorem un41 : Tryz.prog.underlying 41 = some (.slice 134) := by kernel_rfl
theorem kf65_9 : kf Tryz.prog 65 9 = some 9 := by kernel_rfl
theorem kd42 : kd Tryz.prog 42 = some (false, 1) := by kernel_rfl
theorem un42 : Tryz.prog.underlying 42 = some (.slice 140) := by kernel_rfl
theorem kf65_10 : kf Tryz.prog 65 10 = some 10 := by kernel_rfl
theorem kd43 : kd Tryz.prog 43 = some (false, 1) := by kernel_rfl
theorem un43 : Tryz.prog.underlying 43 = some (.slice 146) := by kernel_rfl
theorem kf65_11 : kf Tryz.prog 65 11 = some 11 := by kernel_rfl
theorem kd44 : kd Tryz.prog 44 = some (false, 1) := by kernel_rfl
theorem un44 : Tryz.prog.underlying 44 = some (.slice 153) := by kernel_rfl
theorem kf65_12 : kf Tryz.prog 65 12 = some 12 := by kernel_rfl
theorem kd45 : kd Tryz.prog 45 = some (false, 1) := by kernel_rfl
theorem un45 : Tryz.prog.underlying 45 = some (.slice 159) := by kernel_rfl
theorem kf65_13 : kf Tryz.prog 65 13 = some 13 := by kernel_rfl
theorem kd46 : kd Tryz.prog 46 = some (false, 1) := by kernel_rfl
theorem un46 : Tryz.prog.underlying 46 = some (.slice 165) := by kernel_rfl
theorem kf65_14 : kf Tryz.prog 65 14 = some 14 := by kernel_rfl
theorem kd47 : kd Tryz.prog 47 = some (false, 1) := by kernel_rfl
theorem un47 : Tryz.prog.underlying 47 = some (.slice 172) := by kernel_rfl
theorem kf65_15 : kf Tryz.prog 65 15 = some 15 := by kernel_rfl
theorem kd48 : kd Tryz.prog 48 = some (false, 1) := by kernel_rfl
theorem un48 : Tryz.prog.underlying 48 = some (.slice 179) := by kernel_rfl
theorem kf65_16 : kf Tryz.prog 65 16 = some 16 := by kernel_rfl
theorem kd49 : kd Tryz.prog 49 = some (false, 1) := by kernel_rfl
theorem un49 : Tryz.prog.underlying 49 = some (.slice 185) := by kernel_rfl
theorem kf65_17 : kf Tryz.prog 65 17 = some 17 := by kernel_rfl
theorem kd50 : kd Tryz.prog 50 = some (false, 1) := by kernel_rfl
theorem un50 : Tryz.prog.underlying 50 = some (.slice 191) := by kernel_rfl
theorem kf65_18 : kf Tryz.prog 65 18 = some 18 := by kernel_rfl
theorem kd51 : kd Tryz.prog 51 = some (false, 1) := by kernel_rfl
theorem un51 : Tryz.prog.underlying 51 = some (.slice 197) := by kernel_rfl
theorem kf65_19 : kf Tryz.prog 65 19 = some 19 := by kernel_rfl
theorem kd52 : kd Tryz.prog 52 = some (false, 1) := by kernel_rfl
theorem un52 : Tryz.prog.underlying 52 = some (.slice 203) := by kernel_rfl
theorem kf65_20 : kf Tryz.prog 65 20 = some 20 := by kernel_rfl
theorem kd53 : kd Tryz.prog 53 = some (false, 1) := by kernel_rfl
theorem un53 : Tryz.prog.underlying 53 = some (.slice 209) := by kernel_rfl
theorem kf65_21 : kf Tryz.prog 65 21 = some 21 := by kernel_rfl
theorem kd54 : kd Tryz.prog 54 = some (false, 1) := by kernel_rfl
theorem un54 : Tryz.prog.underlying 54 = some (.slice 215) := by kernel_rfl
theorem kf65_22 : kf Tryz.prog 65 22 = some 22 := by kernel_rfl
theorem kd55 : kd Tryz.prog 55 = some (false, 1) := by kernel_rfl
theorem un55 : Tryz.prog.underlying 55 = some (.slice 222) := by kernel_rfl
theorem kf65_23 : kf Tryz.prog 65 23 = some 23 := by kernel_rfl
theorem kd56 : kd Tryz.prog 56 = some (false, 1) := by kernel_rfl
theorem un56 : Tryz.prog.underlying 56 = some (.slice 228) := by kernel_rfl
theorem kf65_24 : kf Tryz.prog 65 24 = some 24 := by kernel_rfl
theorem kd57 : kd Tryz.prog 57 = some (false, 1) := by kernel_rfl
theorem un57 : Tryz.prog.underlying 57 = some (.slice 233) := by kernel_rfl
theorem kf65_25 : kf Tryz.prog 65 25 = some 25 := by kernel_rfl
theorem kd58 : kd Tryz.prog 58 = some (false, 1) := by kernel_rfl
theorem un58 : Tryz.prog.underlying 58 = some (.slice 240) := by kernel_rfl
theorem kf65_26 : kf Tryz.prog 65 26 = some 26 := by kernel_rfl
theorem kd59 : kd Tryz.prog 59 = some (false, 1) := by kernel_rfl
theorem un59 : Tryz.prog.underlying 59 = some (.slice 247) := by kernel_rfl
theorem kf65_27 : kf Tryz.prog 65 27 = some 27 := by kernel_rfl
theorem kd60 : kd Tryz.prog 60 = some (false, 1) := by kernel_rfl
theorem un60 : Tryz.prog.underlying 60 = some (.slice 254) := by kernel_rfl
theorem kf65_28 : kf Tryz.prog 65 28 = some 28 := by kernel_rfl
theorem kd61 : kd Tryz.prog 61 = some (false, 1) := by kernel_rfl
theorem un61 : Tryz.prog.underlying 61 = some (.slice 261) := by kernel_rfl
theorem kf65_29 : kf Tryz.prog 65 29 = some 29 := by kernel_rfl
theorem kd62 : kd Tryz.prog 62 = some (false, 1) := by kernel_rfl
theorem un62 : Tryz.prog.underlying 62 = some (.slice 269) := by kernel_rfl
theorem kf65_30 : kf Tryz.prog 65 30 = some 30 := by kernel_rfl
theorem kd63 : kd Tryz.prog 63 = some (false, 1) := by kernel_rfl
theorem un63 : Tryz.prog.underlying 63 = some (.slice 275) := by kernel_rfl
theorem en216 : enters Tryz.prog 216 = true := by kernel_rfl
theorem kd130 : kd Tryz.prog 130 = some (true, 3) := by kernel_rfl
theorem en169 : enters Tryz.prog 169 = true := by kernel_rfl
theorem zc130 : zc Tryz.prog 130 = some [.slice none 0 0, .slice none 0 0, .int .i64 0] := by kernel_rfl
theorem kf130_1 : kf Tryz.prog 130 1 = some 1 := by kernel_rfl
theorem kd69 : kd Tryz.prog 69 = some (false, 1) := by kernel_rfl
theorem kf130_0 : kf Tryz.prog 130 0 = some 0 := by kernel_rfl
theorem kf130_2 : kf Tryz.prog 130 2 = some 2 := by kernel_rfl



def markS (n : Nat) : ByteArray := ⟨#[35]⟩ ++ ⟨(Lib.itoa (n : Int)).toArray⟩
theorem itoa_few : ∀ n : Nat, n < 8 → (⟨(Lib.itoa (n : Int)).toArray⟩ : ByteArray).size = 1 := by decide +kernel
theorem mark_size {n : Nat} (h : n < 8) : (⟨#[35]⟩ : ByteArray).size + (⟨(Lib.itoa (n : Int)).toArray⟩ : ByteArray).size ≤ 9223372036854775807 := by rw [itoa_few n h]; decide

set_option maxRecDepth 100000 in
theorem fillInt_no : CallsP Tryz.prog Lw 34 [.eptr [.any, .list 3 []]] (.tup []) := by
  refine callsP_of gs_lw Tryz.func34 rfl Tryz.ntmps34 rfl fun w0 S0 stab => ?_
  refine hits_seq ?_
  refine hits_region ?_
  refine sq (f_assign rfl (lt rfl)) rfl rfl ?_
  refine hits_nil ?_
  refine to_next ?_
  refine hits_block ?_
  refine hits_once ?_
  refine hits_seq ?_
  refine hits_seq ?_
  refine hits_region ?_
  refine sq (f_move rfl (lt rfl)) rfl rfl ?_
  refine sq (f_move rfl (lt rfl)) rfl rfl ?_
  refine sq (f_nil rfl rfl (lt rfl)) rfl rfl ?_
  refine sq (f_fieldAddr rfl kf65_1 rfl (lt rfl)) rfl rfl ?_
  refine sq (f_load kd34 rfl rfl (lt rfl)) rfl rfl ?_
  refine sq (f_lenList rfl rfl un34 (lt rfl)) rfl rfl ?_
  refine sq (f_bin rfl rfl (bT (decide_eq_false (by simp))) (lt rfl)) rfl rfl ?_
  refine hits_nil ?_
  refine to_next ?_
  refine hits_cond rfl (fun c0 => absurd c0 Bool.false_ne_true) (fun c0 => ?_)
  refine hits_exit ?_
  refine to_exit ?_
  refine to_exit ?_
  refine in_hit rfl ?_
  exact hits_done (.inr rfl) rfl rfl rfl

set_option maxRecDepth 100000 in
theorem growInt_no : CallsP Tryz.prog Lw 64 [.eptr [.any, .list 3 []]] (.tup []) := by
  refine callsP_of gs_lw Tryz.func64 rfl Tryz.ntmps64 rfl fun w0 S0 stab => ?_
  refine hits_seq ?_
  refine hits_region ?_
  refine sq (f_assign rfl (lt rfl)) rfl rfl ?_
  refine hits_nil ?_
  refine to_next ?_
  refine hits_block ?_
  refine hits_once ?_
  refine hits_seq ?_
  refine hits_seq ?_
  refine hits_region ?_
  refine sq (f_move rfl (lt rfl)) rfl rfl ?_
  refine sq (f_move rfl (lt rfl)) rfl rfl ?_
  refine sq (f_nil rfl rfl (lt rfl)) rfl rfl ?_
  refine sq (f_fieldAddr rfl kf65_1 rfl (lt rfl)) rfl rfl ?_
  refine sq (f_load kd34 rfl rfl (lt rfl)) rfl rfl ?_
  refine sq (f_lenList rfl rfl un34 (lt rfl)) rfl rfl ?_
  refine sq (f_bin rfl rfl (bT (decide_eq_false (by simp))) (lt rfl)) rfl rfl ?_
  refine hits_nil ?_
  refine to_next ?_
  refine hits_cond rfl (fun c0 => absurd c0 Bool.false_ne_true) (fun c0 => ?_)
  refine hits_exit ?_
  refine to_exit ?_
  refine to_exit ?_
  refine in_hit rfl ?_
  exact hits_done (.inr rfl) rfl rfl rfl

set_option maxRecDepth 100000 in
theorem lookInt_no : CallsP Tryz.prog Lw 94 [.eptr [.any, .list 3 []]] (.sc (.bool true)) := by
  refine callsP_of gs_lw Tryz.func94 rfl Tryz.ntmps94 rfl fun w0 S0 stab => ?_
  refine hits_seq ?_
  refine hits_region ?_
  refine sq (f_assign rfl (lt rfl)) rfl rfl ?_
  refine hits_nil ?_
  refine to_next ?_
  refine hits_seq ?_
  refine hits_seq ?_
  refine hits_region ?_
  refine sq (f_assign rfl (lt rfl)) rfl rfl ?_
  refine hits_nil ?_
  refine to_next ?_
  refine hits_block ?_
  refine hits_once ?_
  refine hits_seq ?_
  refine hits_seq ?_
  refine hits_region ?_
  refine sq (f_move rfl (lt rfl)) rfl rfl ?_
  refine sq (f_move rfl (lt rfl)) rfl rfl ?_
  refine sq (f_nil rfl rfl (lt rfl)) rfl rfl ?_
  refine sq (f_fieldAddr rfl kf65_1 rfl (lt rfl)) rfl rfl ?_
  refine sq (f_load kd34 rfl rfl (lt rfl)) rfl rfl ?_
  refine sq (f_lenList rfl rfl un34 (lt rfl)) rfl rfl ?_
  refine sq (f_bin rfl rfl (bT (decide_eq_false (by simp))) (lt rfl)) rfl rfl ?_
  refine hits_nil ?_
  refine to_next ?_
  refine hits_cond rfl (fun c0 => absurd c0 Bool.false_ne_true) (fun c0 => ?_)
  refine hits_exit ?_
  refine to_exit ?_
  refine to_exit ?_
  refine in_hit rfl ?_
  refine to_next ?_
  refine hits_seq ?_
  refine hits_region ?_
  refine sq (f_assign rfl (lt rfl)) rfl rfl ?_
  refine hits_nil ?_
  refine to_next ?_
  refine hits_ret ?_
  exact hits_done (.inl rfl) rfl rfl rfl

set_option maxRecDepth 100000 in
theorem fillByte_no : CallsP Tryz.prog Lw 35 [.eptr [.any, .any, .list 3 []]] (.tup []) := by
  refine callsP_of gs_lw Tryz.func35 rfl Tryz.ntmps35 rfl fun w0 S0 stab => ?_
  refine hits_seq ?_
  refine hits_region ?_
  refine sq (f_assign rfl (lt rfl)) rfl rfl ?_
  refine hits_nil ?_
  refine to_next ?_
  refine hits_block ?_
  refine hits_once ?_
  refine hits_seq ?_
  refine hits_seq ?_
  refine hits_region ?_
  refine sq (f_move rfl (lt rfl)) rfl rfl ?_
  refine sq (f_move rfl (lt rfl)) rfl rfl ?_
  refine sq (f_nil rfl rfl (lt rfl)) rfl rfl ?_
  refine sq (f_fieldAddr rfl kf65_2 rfl (lt rfl)) rfl rfl ?_
  refine sq (f_load kd35 rfl rfl (lt rfl)) rfl rfl ?_
  refine sq (f_lenList rfl rfl un35 (lt rfl)) rfl rfl ?_
  refine sq (f_bin rfl rfl (bT (decide_eq_false (by simp))) (lt rfl)) rfl rfl ?_
  refine hits_nil ?_
  refine to_next ?_
  refine hits_cond rfl (fun c0 => absurd c0 Bool.false_ne_true) (fun c0 => ?_)
  refine hits_exit ?_
  refine to_exit ?_
  refine to_exit ?_
  refine in_hit rfl ?_
  exact hits_done (.inr rfl) rfl rfl rfl

set_option maxRecDepth 100000 in
theorem growByte_no : CallsP Tryz.prog Lw 65 [.eptr [.any, .any, .list 3 []]] (.tup []) := by
  refine callsP_of gs_lw Tryz.func65 rfl Tryz.ntmps65 rfl fun w0 S0 stab => ?_
  refine hits_seq ?_
  refine hits_region ?_
  refine sq (f_assign rfl (lt rfl)) rfl rfl ?_
  refine hits_nil ?_
  refine to_next ?_
  refine hits_block ?_
  refine hits_once ?_
  refine hits_seq ?_
  refine hits_seq ?_
  refine hits_region ?_
  refine sq (f_move rfl (lt rfl)) rfl rfl ?_
  refine sq (f_move rfl (lt rfl)) rfl rfl ?_
  refine sq (f_nil rfl rfl (lt rfl)) rfl rfl ?_
  refine sq (f_fieldAddr rfl kf65_2 rfl (lt rfl)) rfl rfl ?_
  refine sq (f_load kd35 rfl rfl (lt rfl)) rfl rfl ?_
  refine sq (f_lenList rfl rfl un35 (lt rfl)) rfl rfl ?_
  refine sq (f_bin rfl rfl (bT (decide_eq_false (by simp))) (lt rfl)) rfl rfl ?_
  refine hits_nil ?_
  refine to_next ?_
  refine hits_cond rfl (fun c0 => absurd c0 Bool.false_ne_true) (fun c0 => ?_)
  refine hits_exit ?_
  refine to_exit ?_
  refine to_exit ?_
  refine in_hit rfl ?_
  exact hits_done (.inr rfl) rfl rfl rfl

set_option maxRecDepth 100000 in
theorem lookByte_no : CallsP Tryz.prog Lw 95 [.eptr [.any, .any, .list 3 []]] (.sc (.bool true)) := by
  refine callsP_of gs_lw Tryz.func95 rfl Tryz.ntmps95 rfl fun w0 S0 stab => ?_
  refine hits_seq ?_
  refine hits_region ?_
  refine sq (f_assign rfl (lt rfl)) rfl rfl ?_
  refine hits_nil ?_
  refine to_next ?_
  refine hits_seq ?_
  refine hits_seq ?_
  refine hits_region ?_
  refine sq (f_assign rfl (lt rfl)) rfl rfl ?_
  refine hits_nil ?_
  refine to_next ?_
  refine hits_block ?_
  refine hits_once ?_
  refine hits_seq ?_
  refine hits_seq ?_
  refine hits_region ?_
  refine sq (f_move rfl (lt rfl)) rfl rfl ?_
  refine sq (f_move rfl (lt rfl)) rfl rfl ?_
  refine sq (f_nil rfl rfl (lt rfl)) rfl rfl ?_
  refine sq (f_fieldAddr rfl kf65_2 rfl (lt rfl)) rfl rfl ?_
  refine sq (f_load kd35 rfl rfl (lt rfl)) rfl rfl ?_
  refine sq (f_lenList rfl rfl un35 (lt rfl)) rfl rfl ?_
  refine sq (f_bin rfl rfl (bT (decide_eq_false (by simp))) (lt rfl)) rfl rfl ?_
  refine hits_nil ?_
  refine to_next ?_
  refine hits_cond rfl (fun c0 => absurd c0 Bool.false_ne_true) (fun c0 => ?_)
  refine hits_exit ?_
  refine to_exit ?_
  refine to_exit ?_
  refine in_hit rfl ?_
  refine to_next ?_
  refine hits_seq ?_
  refine hits_region ?_
  refine sq (f_assign rfl (lt rfl)) rfl rfl ?_
  refine hits_nil ?_
  refine to_next ?_
  refine hits_ret ?_
  exact hits_done (.inl rfl) rfl rfl rfl

set_option maxRecDepth 100000 in
theorem fillKind_no : CallsP Tryz.prog Lw 36 [.eptr [.any, .any, .any, .list 3 []]] (.tup []) := by
  refine callsP_of gs_lw Tryz.func36 rfl Tryz.ntmps36 rfl fun w0 S0 stab => ?_
  refine hits_seq ?_
  refine hits_region ?_
  refine sq (f_assign rfl (lt rfl)) rfl rfl ?_
  refine hits_nil ?_
  refine to_next ?_
  refine hits_block ?_
  refine hits_once ?_
  refine hits_seq ?_
  refine hits_seq ?_
  refine hits_region ?_
  refine sq (f_move rfl (lt rfl)) rfl rfl ?_
  refine sq (f_move rfl (lt rfl)) rfl rfl ?_
  refine sq (f_nil rfl rfl (lt rfl)) rfl rfl ?_
  refine sq (f_fieldAddr rfl kf65_3 rfl (lt rfl)) rfl rfl ?_
  refine sq (f_load kd36 rfl rfl (lt rfl)) rfl rfl ?_
  refine sq (f_lenList rfl rfl un36 (lt rfl)) rfl rfl ?_
  refine sq (f_bin rfl rfl (bT (decide_eq_false (by simp))) (lt rfl)) rfl rfl ?_
  refine hits_nil ?_
  refine to_next ?_
  refine hits_cond rfl (fun c0 => absurd c0 Bool.false_ne_true) (fun c0 => ?_)
  refine hits_exit ?_
  refine to_exit ?_
  refine to_exit ?_
  refine in_hit rfl ?_
  exact hits_done (.inr rfl) rfl rfl rfl

set_option maxRecDepth 100000 in
theorem growKind_no : CallsP Tryz.prog Lw 66 [.eptr [.any, .any, .any, .list 3 []]] (.tup []) := by
  refine callsP_of gs_lw Tryz.func66 rfl Tryz.ntmps66 rfl fun w0 S0 stab => ?_
  refine hits_seq ?_
  refine hits_region ?_
  refine sq (f_assign rfl (lt rfl)) rfl rfl ?_
  refine hits_nil ?_
  refine to_next ?_
  refine hits_block ?_
  refine hits_once ?_
  refine hits_seq ?_
  refine hits_seq ?_
  refine hits_region ?_
  refine sq (f_move rfl (lt rfl)) rfl rfl ?_
  refine sq (f_move rfl (lt rfl)) rfl rfl ?_
  refine sq (f_nil rfl rfl (lt rfl)) rfl rfl ?_
  refine sq (f_fieldAddr rfl kf65_3 rfl (lt rfl)) rfl rfl ?_
  refine sq (f_load kd36 rfl rfl (lt rfl)) rfl rfl ?_
  refine sq (f_lenList rfl rfl un36 (lt rfl)) rfl rfl ?_
  refine sq (f_bin rfl rfl (bT (decide_eq_false (by simp))) (lt rfl)) rfl rfl ?_
  refine hits_nil ?_
  refine to_next ?_
  refine hits_cond rfl (fun c0 => absurd c0 Bool.false_ne_true) (fun c0 => ?_)
  refine hits_exit ?_
  refine to_exit ?_
  refine to_exit ?_
  refine in_hit rfl ?_
  exact hits_done (.inr rfl) rfl rfl rfl

set_option maxRecDepth 100000 in
theorem lookKind_no : CallsP Tryz.prog Lw 96 [.eptr [.any, .any, .any, .list 3 []]] (.sc (.bool true)) := by
  refine callsP_of gs_lw Tryz.func96 rfl Tryz.ntmps96 rfl fun w0 S0 stab => ?_
  refine hits_seq ?_
  refine hits_region ?_
  refine sq (f_assign rfl (lt rfl)) rfl rfl ?_
  refine hits_nil ?_
  refine to_next ?_
  refine hits_seq ?_
  refine hits_seq ?_
  refine hits_region ?_
  refine sq (f_assign rfl (lt rfl)) rfl rfl ?_
  refine hits_nil ?_
  refine to_next ?_
  refine hits_block ?_
  refine hits_once ?_
  refine hits_seq ?_
  refine hits_seq ?_
  refine hits_region ?_
  refine sq (f_move rfl (lt rfl)) rfl rfl ?_
  refine sq (f_move rfl (lt rfl)) rfl rfl ?_
  refine sq (f_nil rfl rfl (lt rfl)) rfl rfl ?_
  refine sq (f_fieldAddr rfl kf65_3 rfl (lt rfl)) rfl rfl ?_
  refine sq (f_load kd36 rfl rfl (lt rfl)) rfl rfl ?_
  refine sq (f_lenList rfl rfl un36 (lt rfl)) rfl rfl ?_
  refine sq (f_bin rfl rfl (bT (decide_eq_false (by simp))) (lt rfl)) rfl rfl ?_
  refine hits_nil ?_
  refine to_next ?_
  refine hits_cond rfl (fun c0 => absurd c0 Bool.false_ne_true) (fun c0 => ?_)
  refine hits_exit ?_
  refine to_exit ?_
  refine to_exit ?_
  refine in_hit rfl ?_
  refine to_next ?_
  refine hits_seq ?_
  refine hits_region ?_
  refine sq (f_assign rfl (lt rfl)) rfl rfl ?_
  refine hits_nil ?_
  refine to_next ?_
  refine hits_ret ?_
  exact hits_done (.inl rfl) rfl rfl rfl

set_option maxRecDepth 100000 in
theorem fillText_no : CallsP Tryz.prog Lw 37 [.eptr [.any, .any, .any, .any, .list 3 []]] (.tup []) := by
  refine callsP_of gs_lw Tryz.func37 rfl Tryz.ntmps37 rfl fun w0 S0 stab => ?_
  refine hits_seq ?_
  refine hits_region ?_
  refine sq (f_assign rfl (lt rfl)) rfl rfl ?_
  refine hits_nil ?_
  refine to_next ?_
  refine hits_block ?_
  refine hits_once ?_
  refine hits_seq ?_
  refine hits_seq ?_
  refine hits_region ?_
  refine sq (f_move rfl (lt rfl)) rfl rfl ?_
  refine sq (f_move rfl (lt rfl)) rfl rfl ?_
  refine sq (f_nil rfl rfl (lt rfl)) rfl rfl ?_
  refine sq (f_fieldAddr rfl kf65_4 rfl (lt rfl)) rfl rfl ?_
  refine sq (f_load kd37 rfl rfl (lt rfl)) rfl rfl ?_
  refine sq (f_lenList rfl rfl un37 (lt rfl)) rfl rfl ?_
  refine sq (f_bin rfl rfl (bT (decide_eq_false (by simp))) (lt rfl)) rfl rfl ?_
  refine hits_nil ?_
  refine to_next ?_
  refine hits_cond rfl (fun c0 => absurd c0 Bool.false_ne_true) (fun c0 => ?_)
  refine hits_exit ?_
  refine to_exit ?_
  refine to_exit ?_
  refine in_hit rfl ?_
  exact hits_done (.inr rfl) rfl rfl rfl

set_option maxRecDepth 100000 in
theorem growText_no : CallsP Tryz.prog Lw 67 [.eptr [.any, .any, .any, .any, .list 3 []]] (.tup []) := by
  refine callsP_of gs_lw Tryz.func67 rfl Tryz.ntmps67 rfl fun w0 S0 stab => ?_
  refine hits_seq ?_
  refine hits_region ?_
  refine sq (f_assign rfl (lt rfl)) rfl rfl ?_
  refine hits_nil ?_
  refine to_next ?_
  refine hits_block ?_
  refine hits_once ?_
  refine hits_seq ?_
  refine hits_seq ?_
  refine hits_region ?_
  refine sq (f_move rfl (lt rfl)) rfl rfl ?_
  refine sq (f_move rfl (lt rfl)) rfl rfl ?_
  refine sq (f_nil rfl rfl (lt rfl)) rfl rfl ?_
  refine sq (f_fieldAddr rfl kf65_4 rfl (lt rfl)) rfl rfl ?_
  refine sq (f_load kd37 rfl rfl (lt rfl)) rfl rfl ?_
  refine sq (f_lenList rfl rfl un37 (lt rfl)) rfl rfl ?_
  refine sq (f_bin rfl rfl (bT (decide_eq_false (by simp))) (lt rfl)) rfl rfl ?_
  refine hits_nil ?_
  refine to_next ?_
  refine hits_cond rfl (fun c0 => absurd c0 Bool.false_ne_true) (fun c0 => ?_)
  refine hits_exit ?_
  refine to_exit ?_
  refine to_exit ?_
  refine in_hit rfl ?_
  exact hits_done (.inr rfl) rfl rfl rfl

set_option maxRecDepth 100000 in
theorem lookText_no : CallsP Tryz.prog Lw 97 [.eptr [.any, .any, .any, .any, .list 3 []]] (.sc (.bool true)) := by
  refine callsP_of gs_lw Tryz.func97 rfl Tryz.ntmps97 rfl fun w0 S0 stab => ?_
  refine hits_seq ?_
  refine hits_region ?_
  refine sq (f_assign rfl (lt rfl)) rfl rfl ?_
  refine hits_nil ?_
  refine to_next ?_
  refine hits_seq ?_
  refine hits_seq ?_
  refine hits_region ?_
  refine sq (f_assign rfl (lt rfl)) rfl rfl ?_
  refine hits_nil ?_
  refine to_next ?_
  refine hits_block ?_
  refine hits_once ?_
  refine hits_seq ?_
  refine hits_seq ?_
  refine hits_region ?_
  refine sq (f_move rfl (lt rfl)) rfl rfl ?_
  refine sq (f_move rfl (lt rfl)) rfl rfl ?_
  refine sq (f_nil rfl rfl (lt rfl)) rfl rfl ?_
  refine sq (f_fieldAddr rfl kf65_4 rfl (lt rfl)) rfl rfl ?_
  refine sq (f_load kd37 rfl rfl (lt rfl)) rfl rfl ?_
  refine sq (f_lenList rfl rfl un37 (lt rfl)) rfl rfl ?_
  refine sq (f_bin rfl rfl (bT (decide_eq_false (by simp))) (lt rfl)) rfl rfl ?_
  refine hits_nil ?_
  refine to_next ?_
  refine hits_cond rfl (fun c0 => absurd c0 Bool.false_ne_true) (fun c0 => ?_)
  refine hits_exit ?_
  refine to_exit ?_
  refine to_exit ?_
  refine in_hit rfl ?_
  refine to_next ?_
  refine hits_seq ?_
  refine hits_region ?_
  refine sq (f_assign rfl (lt rfl)) rfl rfl ?_
  refine hits_nil ?_
  refine to_next ?_
  refine hits_ret ?_
  exact hits_done (.inl rfl) rfl rfl rfl

set_option maxRecDepth 100000 in
theorem fillBlob_no : CallsP Tryz.prog Lw 38 [.eptr [.any, .any, .any, .any, .any, .list 3 []]] (.tup []) := by
  refine callsP_of gs_lw Tryz.func38 rfl Tryz.ntmps38 rfl fun w0 S0 stab => ?_
  refine hits_seq ?_
  refine hits_region ?_
  refine sq (f_assign rfl (lt rfl)) rfl rfl ?_
  refine hits_nil ?_
  refine to_next ?_
  refine hits_block ?_
  refine hits_once ?_
  refine hits_seq ?_
  refine hits_seq ?_
  refine hits_region ?_
  refine sq (f_move rfl (lt rfl)) rfl rfl ?_
  refine sq (f_move rfl (lt rfl)) rfl rfl ?_
  refine sq (f_nil rfl rfl (lt rfl)) rfl rfl ?_
  refine sq (f_fieldAddr rfl kf65_5 rfl (lt rfl)) rfl rfl ?_
  refine sq (f_load kd38 rfl rfl (lt rfl)) rfl rfl ?_
  refine sq (f_lenList rfl rfl un38 (lt rfl)) rfl rfl ?_
  refine sq (f_bin rfl rfl (bT (decide_eq_false (by simp))) (lt rfl)) rfl rfl ?_
  refine hits_nil ?_
  refine to_next ?_
  refine hits_cond rfl (fun c0 => absurd c0 Bool.false_ne_true) (fun c0 => ?_)
  refine hits_exit ?_
  refine to_exit ?_
  refine to_exit ?_
  refine in_hit rfl ?_
  exact hits_done (.inr rfl) rfl rfl rfl

set_option maxRecDepth 100000 in
theorem growBlob_no : CallsP Tryz.prog Lw 68 [.eptr [.any, .any, .any, .any, .any, .list 3 []]] (.tup []) := by
  refine callsP_of gs_lw Tryz.func68 rfl Tryz.ntmps68 rfl fun w0 S0 stab => ?_
  refine hits_seq ?_
  refine hits_region ?_
  refine sq (f_assign rfl (lt rfl)) rfl rfl ?_
  refine hits_nil ?_
  refine to_next ?_
  refine hits_block ?_
  refine hits_once ?_
  refine hits_seq ?_
  refine hits_seq ?_
  refine hits_region ?_
  refine sq (f_move rfl (lt rfl)) rfl rfl ?_
  refine sq (f_move rfl (lt rfl)) rfl rfl ?_
  refine sq (f_nil rfl rfl (lt rfl)) rfl rfl ?_
  refine sq (f_fieldAddr rfl kf65_5 rfl (lt rfl)) rfl rfl ?_
  refine sq (f_load kd38 rfl rfl (lt rfl)) rfl rfl ?_
  refine sq (f_lenList rfl rfl un38 (lt rfl)) rfl rfl ?_
  refine sq (f_bin rfl rfl (bT (decide_eq_false (by simp))) (lt rfl)) rfl rfl ?_
  refine hits_nil ?_
  refine to_next ?_
  refine hits_cond rfl (fun c0 => absurd c0 Bool.false_ne_true) (fun c0 => ?_)
  refine hits_exit ?_
  refine to_exit ?_
  refine to_exit ?_
  refine in_hit rfl ?_
  exact hits_done (.inr rfl) rfl rfl rfl

set_option maxRecDepth 100000 in
theorem lookBlob_no : CallsP Tryz.prog Lw 98 [.eptr [.any, .any, .any, .any, .any, .list 3 []]] (.sc (.bool true)) := by
  refine callsP_of gs_lw Tryz.func98 rfl Tryz.ntmps98 rfl fun w0 S0 stab => ?_
  refine hits_seq ?_
  refine hits_region ?_
  refine sq (f_assign rfl (lt rfl)) rfl rfl ?_
  refine hits_nil ?_
  refine to_next ?_
  refine hits_seq ?_
  refine hits_seq ?_
  refine hits_region ?_
  refine sq (f_assign rfl (lt rfl)) rfl rfl ?_
  refine hits_nil ?_
  refine to_next ?_
  refine hits_block ?_
  refine hits_once ?_
  refine hits_seq ?_
  refine hits_seq ?_
  refine hits_region ?_
  refine sq (f_move rfl (lt rfl)) rfl rfl ?_
  refine sq (f_move rfl (lt rfl)) rfl rfl ?_
  refine sq (f_nil rfl rfl (lt rfl)) rfl rfl ?_
  refine sq (f_fieldAddr rfl kf65_5 rfl (lt rfl)) rfl rfl ?_
  refine sq (f_load kd38 rfl rfl (lt rfl)) rfl rfl ?_
  refine sq (f_lenList rfl rfl un38 (lt rfl)) rfl rfl ?_
  refine sq (f_bin rfl rfl (bT (decide_eq_false (by simp))) (lt rfl)) rfl rfl ?_
  refine hits_nil ?_
  refine to_next ?_
  refine hits_cond rfl (fun c0 => absurd c0 Bool.false_ne_true) (fun c0 => ?_)
  refine hits_exit ?_
  refine to_exit ?_
  refine to_exit ?_
  refine in_hit rfl ?_
  refine to_next ?_
  refine hits_seq ?_
  refine hits_region ?_
  refine sq (f_assign rfl (lt rfl)) rfl rfl ?_
  refine hits_nil ?_
  refine to_next ?_
  refine hits_ret ?_
  exact hits_done (.inl rfl) rfl rfl rfl

set_option maxRecDepth 100000 in
theorem fillNumber_no : CallsP Tryz.prog Lw 39 [.eptr [.any, .any, .any, .any, .any, .any, .list 3 []]] (.tup []) := by
  refine callsP_of gs_lw Tryz.func39 rfl Tryz.ntmps39 rfl fun w0 S0 stab => ?_
  refine hits_seq ?_
  refine hits_region ?_
  refine sq (f_assign rfl (lt rfl)) rfl rfl ?_
  refine hits_nil ?_
  refine to_next ?_
  refine hits_block ?_
  refine hits_once ?_
  refine hits_seq ?_
  refine hits_seq ?_
  refine hits_region ?_
  refine sq (f_move rfl (lt rfl)) rfl rfl ?_
  refine sq (f_move rfl (lt rfl)) rfl rfl ?_
  refine sq (f_nil rfl rfl (lt rfl)) rfl rfl ?_
  refine sq (f_fieldAddr rfl kf65_6 rfl (lt rfl)) rfl rfl ?_
  refine sq (f_load kd39 rfl rfl (lt rfl)) rfl rfl ?_
  refine sq (f_lenList rfl rfl un39 (lt rfl)) rfl rfl ?_
  refine sq (f_bin rfl rfl (bT (decide_eq_false (by simp))) (lt rfl)) rfl rfl ?_
  refine hits_nil ?_
  refine to_next ?_
  refine hits_cond rfl (fun c0 => absurd c0 Bool.false_ne_true) (fun c0 => ?_)
  refine hits_exit ?_
  refine to_exit ?_
  refine to_exit ?_
  refine in_hit rfl ?_
  exact hits_done (.inr rfl) rfl rfl rfl

set_option maxRecDepth 100000 in
theorem growNumber_no : CallsP Tryz.prog Lw 69 [.eptr [.any, .any, .any, .any, .any, .any, .list 3 []]] (.tup []) := by
  refine callsP_of gs_lw Tryz.func69 rfl Tryz.ntmps69 rfl fun w0 S0 stab => ?_
  refine hits_seq ?_
  refine hits_region ?_
  refine sq (f_assign rfl (lt rfl)) rfl rfl ?_
  refine hits_nil ?_
  refine to_next ?_
  refine hits_block ?_
  refine hits_once ?_
  refine hits_seq ?_
  refine hits_seq ?_
  refine hits_region ?_
  refine sq (f_move rfl (lt rfl)) rfl rfl ?_
  refine sq (f_move rfl (lt rfl)) rfl rfl ?_
  refine sq (f_nil rfl rfl (lt rfl)) rfl rfl ?_
  refine sq (f_fieldAddr rfl kf65_6 rfl (lt rfl)) rfl rfl ?_
  refine sq (f_load kd39 rfl rfl (lt rfl)) rfl rfl ?_
  refine sq (f_lenList rfl rfl un39 (lt rfl)) rfl rfl ?_
  refine sq (f_bin rfl rfl (bT (decide_eq_false (by simp))) (lt rfl)) rfl rfl ?_
  refine hits_nil ?_
  refine to_next ?_
  refine hits_cond rfl (fun c0 => absurd c0 Bool.false_ne_true) (fun c0 => ?_)
  refine hits_exit ?_
  refine to_exit ?_
  refine to_exit ?_
  refine in_hit rfl ?_
  exact hits_done (.inr rfl) rfl rfl rfl

set_option maxRecDepth 100000 in
theorem lookNumber_no : CallsP Tryz.prog Lw 99 [.eptr [.any, .any, .any, .any, .any, .any, .list 3 []]] (.sc (.bool true)) := by
  refine callsP_of gs_lw Tryz.func99 rfl Tryz.ntmps99 rfl fun w0 S0 stab => ?_
  refine hits_seq ?_
  refine hits_region ?_
  refine sq (f_assign rfl (lt rfl)) rfl rfl ?_
  refine hits_nil ?_
  refine to_next ?_
  refine hits_seq ?_
  refine hits_seq ?_
  refine hits_region ?_
  refine sq (f_assign rfl (lt rfl)) rfl rfl ?_
  refine hits_nil ?_
  refine to_next ?_
  refine hits_block ?_
  refine hits_once ?_
  refine hits_seq ?_
  refine hits_seq ?_
  refine hits_region ?_
  refine sq (f_move rfl (lt rfl)) rfl rfl ?_
  refine sq (f_move rfl (lt rfl)) rfl rfl ?_
  refine sq (f_nil rfl rfl (lt rfl)) rfl rfl ?_
  refine sq (f_fieldAddr rfl kf65_6 rfl (lt rfl)) rfl rfl ?_
  refine sq (f_load kd39 rfl rfl (lt rfl)) rfl rfl ?_
  refine sq (f_lenList rfl rfl un39 (lt rfl)) rfl rfl ?_
  refine sq (f_bin rfl rfl (bT (decide_eq_false (by simp))) (lt rfl)) rfl rfl ?_
  refine hits_nil ?_
  refine to_next ?_
  refine hits_cond rfl (fun c0 => absurd c0 Bool.false_ne_true) (fun c0 => ?_)
  refine hits_exit ?_
  refine to_exit ?_
  refine to_exit ?_
  refine in_hit rfl ?_
  refine to_next ?_
  refine hits_seq ?_
  refine hits_region ?_
  refine sq (f_assign rfl (lt rfl)) rfl rfl ?_
  refine hits_nil ?_
  refine to_next ?_
  refine hits_ret ?_
  exact hits_done (.inl rfl) rfl rfl rfl

set_option maxRecDepth 100000 in
theorem fillWord_no : CallsP Tryz.prog Lw 40 [.eptr [.any, .any, .any, .any, .any, .any, .any, .list 3 []]] (.tup []) := by
  refine callsP_of gs_lw Tryz.func40 rfl Tryz.ntmps40 rfl fun w0 S0 stab => ?_
  refine hits_seq ?_
  refine hits_region ?_
  refine sq (f_assign rfl (lt rfl)) rfl rfl ?_
  refine hits_nil ?_
  refine to_next ?_
  refine hits_block ?_
  refine hits_once ?_
  refine hits_seq ?_
  refine hits_seq ?_
  refine hits_region ?_
  refine sq (f_move rfl (lt rfl)) rfl rfl ?_
  refine sq (f_move rfl (lt rfl)) rfl rfl ?_
  refine sq (f_nil rfl rfl (lt rfl)) rfl rfl ?_
  refine sq (f_fieldAddr rfl kf65_7 rfl (lt rfl)) rfl rfl ?_
  refine sq (f_load kd40 rfl rfl (lt rfl)) rfl rfl ?_
  refine sq (f_lenList rfl rfl un40 (lt rfl)) rfl rfl ?_
  refine sq (f_bin rfl rfl (bT (decide_eq_false (by simp))) (lt rfl)) rfl rfl ?_
  refine hits_nil ?_
  refine to_next ?_
  refine hits_cond rfl (fun c0 => absurd c0 Bool.false_ne_true) (fun c0 => ?_)
  refine hits_exit ?_
  refine to_exit ?_
  refine to_exit ?_
  refine in_hit rfl ?_
  exact hits_done (.inr rfl) rfl rfl rfl

set_option maxRecDepth 100000 in
theorem growWord_no : CallsP Tryz.prog Lw 70 [.eptr [.any, .any, .any, .any, .any, .any, .any, .list 3 []]] (.tup []) := by
  refine callsP_of gs_lw Tryz.func70 rfl Tryz.ntmps70 rfl fun w0 S0 stab => ?_
  refine hits_seq ?_
  refine hits_region ?_
  refine sq (f_assign rfl (lt rfl)) rfl rfl ?_
  refine hits_nil ?_
  refine to_next ?_
  refine hits_block ?_
  refine hits_once ?_
  refine hits_seq ?_
  refine hits_seq ?_
  refine hits_region ?_
  refine sq (f_move rfl (lt rfl)) rfl rfl ?_
  refine sq (f_move rfl (lt rfl)) rfl rfl ?_
  refine sq (f_nil rfl rfl (lt rfl)) rfl rfl ?_
  refine sq (f_fieldAddr rfl kf65_7 rfl (lt rfl)) rfl rfl ?_
  refine sq (f_load kd40 rfl rfl (lt rfl)) rfl rfl ?_
  refine sq (f_lenList rfl rfl un40 (lt rfl)) rfl rfl ?_
  refine sq (f_bin rfl rfl (bT (decide_eq_false (by simp))) (lt rfl)) rfl rfl ?_
  refine hits_nil ?_
  refine to_next ?_
  refine hits_cond rfl (fun c0 => absurd c0 Bool.false_ne_true) (fun c0 => ?_)
  refine hits_exit ?_
  refine to_exit ?_
  refine to_exit ?_
  refine in_hit rfl ?_
  exact hits_done (.inr rfl) rfl rfl rfl

set_option maxRecDepth 100000 in
theorem lookWord_no : CallsP Tryz.prog Lw 100 [.eptr [.any, .any, .any, .any, .any, .any, .any, .list 3 []]] (.sc (.bool true)) := by
  refine callsP_of gs_lw Tryz.func100 rfl Tryz.ntmps100 rfl fun w0 S0 stab => ?_
  refine hits_seq ?_
  refine hits_region ?_
  refine sq (f_assign rfl (lt rfl)) rfl rfl ?_
  refine hits_nil ?_
  refine to_next ?_
  refine hits_seq ?_
  refine hits_seq ?_
  refine hits_region ?_
  refine sq (f_assign rfl (lt rfl)) rfl rfl ?_
  refine hits_nil ?_
  refine to_next ?_
  refine hits_block ?_
  refine hits_once ?_
  refine hits_seq ?_
  refine hits_seq ?_
  refine hits_region ?_
  refine sq (f_move rfl (lt rfl)) rfl rfl ?_
  refine sq (f_move rfl (lt rfl)) rfl rfl ?_
  refine sq (f_nil rfl rfl (lt rfl)) rfl rfl ?_
  refine sq (f_fieldAddr rfl kf65_7 rfl (lt rfl)) rfl rfl ?_
  refine sq (f_load kd40 rfl rfl (lt rfl)) rfl rfl ?_
  refine sq (f_lenList rfl rfl un40 (lt rfl)) rfl rfl ?_
  refine sq (f_bin rfl rfl (bT (decide_eq_false (by simp))) (lt rfl)) rfl rfl ?_
  refine hits_nil ?_
  refine to_next ?_
  refine hits_cond rfl (fun c0 => absurd c0 Bool.false_ne_true) (fun c0 => ?_)
  refine hits_exit ?_
  refine to_exit ?_
  refine to_exit ?_
  refine in_hit rfl ?_
  refine to_next ?_
  refine hits_seq ?_
  refine hits_region ?_
  refine sq (f_assign rfl (lt rfl)) rfl rfl ?_
  refine hits_nil ?_
  refine to_next ?_
  refine hits_ret ?_
  exact hits_done (.inl rfl) rfl rfl rfl

set_option maxRecDepth 100000 in
theorem fillField_no : CallsP Tryz.prog Lw 41 [.eptr [.any, .any, .any, .any, .any, .any, .any, .any, .list 3 []]] (.tup []) := by
  refine callsP_of gs_lw Tryz.func41 rfl Tryz.ntmps41 rfl fun w0 S0 stab => ?_
  refine hits_seq ?_
  refine hits_region ?_
  refine sq (f_assign rfl (lt rfl)) rfl rfl ?_
  refine hits_nil ?_
  refine to_next ?_
  refine hits_block ?_
  refine hits_once ?_
  refine hits_seq ?_
  refine hits_seq ?_
  refine hits_region ?_
  refine sq (f_move rfl (lt rfl)) rfl rfl ?_
  refine sq (f_move rfl (lt rfl)) rfl rfl ?_
  refine sq (f_nil rfl rfl (lt rfl)) rfl rfl ?_
  refine sq (f_fieldAddr rfl kf65_8 rfl (lt rfl)) rfl rfl ?_
  refine sq (f_load kd41 rfl rfl (lt rfl)) rfl rfl ?_
  refine sq (f_lenList rfl rfl un41 (lt rfl)) rfl rfl ?_
  refine sq (f_bin rfl rfl (bT (decide_eq_false (by simp))) (lt rfl)) rfl rfl ?_
  refine hits_nil ?_
  refine to_next ?_
  refine hits_cond rfl (fun c0 => absurd c0 Bool.false_ne_true) (fun c0 => ?_)
  refine hits_exit ?_
  refine to_exit ?_
  refine to_exit ?_
  refine in_hit rfl ?_
  exact hits_done (.inr rfl) rfl rfl rfl

set_option maxRecDepth 100000 in
theorem growField_no : CallsP Tryz.prog Lw 71 [.eptr [.any, .any, .any, .any, .any, .any, .any, .any, .list 3 []]] (.tup []) := by
  refine callsP_of gs_lw Tryz.func71 rfl Tryz.ntmps71 rfl fun w0 S0 stab => ?_
  refine hits_seq ?_
  refine hits_region ?_
  refine sq (f_assign rfl (lt rfl)) rfl rfl ?_
  refine hits_nil ?_
  refine to_next ?_
  refine hits_block ?_
  refine hits_once ?_
  refine hits_seq ?_
  refine hits_seq ?_
  refine hits_region ?_
  refine sq (f_move rfl (lt rfl)) rfl rfl ?_
  refine sq (f_move rfl (lt rfl)) rfl rfl ?_
  refine sq (f_nil rfl rfl (lt rfl)) rfl rfl ?_
  refine sq (f_fieldAddr rfl kf65_8 rfl (lt rfl)) rfl rfl ?_
  refine sq (f_load kd41 rfl rfl (lt rfl)) rfl rfl ?_
  refine sq (f_lenList rfl rfl un41 (lt rfl)) rfl rfl ?_
  refine sq (f_bin rfl rfl (bT (decide_eq_false (by simp))) (lt rfl)) rfl rfl ?_
  refine hits_nil ?_
  refine to_next ?_
  refine hits_cond rfl (fun c0 => absurd c0 Bool.false_ne_true) (fun c0 => ?_)
  refine hits_exit ?_
  refine to_exit ?_
  refine to_exit ?_
  refine in_hit rfl ?_
  exact hits_done (.inr rfl) rfl rfl rfl

set_option maxRecDepth 100000 in
theorem lookField_no : CallsP Tryz.prog Lw 101 [.eptr [.any, .any, .any, .any, .any, .any, .any, .any, .list 3 []]] (.sc (.bool true)) := by
  refine callsP_of gs_lw Tryz.func101 rfl Tryz.ntmps101 rfl fun w0 S0 stab => ?_
  refine hits_seq ?_
  refine hits_region ?_
  refine sq (f_assign rfl (lt rfl)) rfl rfl ?_
  refine hits_nil ?_
  refine to_next ?_
  refine hits_seq ?_
  refine hits_seq ?_
  refine hits_region ?_
  refine sq (f_assign rfl (lt rfl)) rfl rfl ?_
  refine hits_nil ?_
  refine to_next ?_
  refine hits_block ?_
  refine hits_once ?_
  refine hits_seq ?_
  refine hits_seq ?_
  refine hits_region ?_
  refine sq (f_move rfl (lt rfl)) rfl rfl ?_
  refine sq (f_move rfl (lt rfl)) rfl rfl ?_
  refine sq (f_nil rfl rfl (lt rfl)) rfl rfl ?_
  refine sq (f_fieldAddr rfl kf65_8 rfl (lt rfl)) rfl rfl ?_
  refine sq (f_load kd41 rfl rfl (lt rfl)) rfl rfl ?_
  refine sq (f_lenList rfl rfl un41 (lt rfl)) rfl rfl ?_
  refine sq (f_bin rfl rfl (bT (decide_eq_false (by simp))) (lt rfl)) rfl rfl ?_
  refine hits_nil ?_
  refine to_next ?_
  refine hits_cond rfl (fun c0 => absurd c0 Bool.false_ne_true) (fun c0 => ?_)
  refine hits_exit ?_
  refine to_exit ?_
  refine to_exit ?_
  refine in_hit rfl ?_
  refine to_next ?_
  refine hits_seq ?_
  refine hits_region ?_
  refine sq (f_assign rfl (lt rfl)) rfl rfl ?_
  refine hits_nil ?_
  refine to_next ?_
  refine hits_ret ?_
  exact hits_done (.inl rfl) rfl rfl rfl

set_option maxRecDepth 100000 in
theorem fillMatch_no : CallsP Tryz.prog Lw 42 [.eptr [.any, .any, .any, .any, .any, .any, .any, .any, .any, .list 3 []]] (.tup []) := by
  refine callsP_of gs_lw Tryz.func42 rfl Tryz.ntmps42 rfl fun w0 S0 stab => ?_
  refine hits_seq ?_
  refine hits_region ?_
  refine sq (f_assign rfl (lt rfl)) rfl rfl ?_
  refine hits_nil ?_
  refine to_next ?_
  refine hits_block ?_
  refine hits_once ?_
  refine hits_seq ?_
  refine hits_seq ?_
  refine hits_region ?_
  refine sq (f_move rfl (lt rfl)) rfl rfl ?_
  refine sq (f_move rfl (lt rfl)) rfl rfl ?_
  refine sq (f_nil rfl rfl (lt rfl)) rfl rfl ?_
  refine sq (f_fieldAddr rfl kf65_9 rfl (lt rfl)) rfl rfl ?_
  refine sq (f_load kd42 rfl rfl (lt rfl)) rfl rfl ?_
  refine sq (f_lenList rfl rfl un42 (lt rfl)) rfl rfl ?_
  refine sq (f_bin rfl rfl (bT (decide_eq_false (by simp))) (lt rfl)) rfl rfl ?_
  refine hits_nil ?_
  refine to_next ?_
  refine hits_cond rfl (fun c0 => absurd c0 Bool.false_ne_true) (fun c0 => ?_)
  refine hits_exit ?_
  refine to_exit ?_
  refine to_exit ?_
  refine in_hit rfl ?_
  exact hits_done (.inr rfl) rfl rfl rfl

set_option maxRecDepth 100000 in
theorem growMatch_no : CallsP Tryz.prog Lw 72 [.eptr [.any, .any, .any, .any, .any, .any, .any, .any, .any, .list 3 []]] (.tup []) := by
  refine callsP_of gs_lw Tryz.func72 rfl Tryz.ntmps72 rfl fun w0 S0 stab => ?_
  refine hits_seq ?_
  refine hits_region ?_
  refine sq (f_assign rfl (lt rfl)) rfl rfl ?_
  refine hits_nil ?_
  refine to_next ?_
  refine hits_block ?_
  refine hits_once ?_
  refine hits_seq ?_
  refine hits_seq ?_
  refine hits_region ?_
  refine sq (f_move rfl (lt rfl)) rfl rfl ?_
  refine sq (f_move rfl (lt rfl)) rfl rfl ?_
  refine sq (f_nil rfl rfl (lt rfl)) rfl rfl ?_
  refine sq (f_fieldAddr rfl kf65_9 rfl (lt rfl)) rfl rfl ?_
  refine sq (f_load kd42 rfl rfl (lt rfl)) rfl rfl ?_
  refine sq (f_lenList rfl rfl un42 (lt rfl)) rfl rfl ?_
  refine sq (f_bin rfl rfl (bT (decide_eq_false (by simp))) (lt rfl)) rfl rfl ?_
  refine hits_nil ?_
  refine to_next ?_
  refine hits_cond rfl (fun c0 => absurd c0 Bool.false_ne_true) (fun c0 => ?_)
  refine hits_exit ?_
  refine to_exit ?_
  refine to_exit ?_
  refine in_hit rfl ?_
  exact hits_done (.inr rfl) rfl rfl rfl

set_option maxRecDepth 100000 in
theorem lookMatch_no : CallsP Tryz.prog Lw 102 [.eptr [.any, .any, .any, .any, .any, .any, .any, .any, .any, .list 3 []]] (.sc (.bool true)) := by
  refine callsP_of gs_lw Tryz.func102 rfl Tryz.ntmps102 rfl fun w0 S0 stab => ?_
  refine hits_seq ?_
  refine hits_region ?_
  refine sq (f_assign rfl (lt rfl)) rfl rfl ?_
  refine hits_nil ?_
  refine to_next ?_
  refine hits_seq ?_
  refine hits_seq ?_
  refine hits_region ?_
  refine sq (f_assign rfl (lt rfl)) rfl rfl ?_
  refine hits_nil ?_
  refine to_next ?_
  refine hits_block ?_
  refine hits_once ?_
  refine hits_seq ?_
  refine hits_seq ?_
  refine hits_region ?_
  refine sq (f_move rfl (lt rfl)) rfl rfl ?_
  refine sq (f_move rfl (lt rfl)) rfl rfl ?_
  refine sq (f_nil rfl rfl (lt rfl)) rfl rfl ?_
  refine sq (f_fieldAddr rfl kf65_9 rfl (lt rfl)) rfl rfl ?_
  refine sq (f_load kd42 rfl rfl (lt rfl)) rfl rfl ?_
  refine sq (f_lenList rfl rfl un42 (lt rfl)) rfl rfl ?_
  refine sq (f_bin rfl rfl (bT (decide_eq_false (by simp))) (lt rfl)) rfl rfl ?_
  refine hits_nil ?_
  refine to_next ?_
  refine hits_cond rfl (fun c0 => absurd c0 Bool.false_ne_true) (fun c0 => ?_)
  refine hits_exit ?_
  refine to_exit ?_
  refine to_exit ?_
  refine in_hit rfl ?_
  refine to_next ?_
  refine hits_seq ?_
  refine hits_region ?_
  refine sq (f_assign rfl (lt rfl)) rfl rfl ?_
  refine hits_nil ?_
  refine to_next ?_
  refine hits_ret ?_
  exact hits_done (.inl rfl) rfl rfl rfl

set_option maxRecDepth 100000 in
theorem fillArr_no : CallsP Tryz.prog Lw 43 [.eptr [.any, .any, .any, .any, .any, .any, .any, .any, .any, .any, .list 3 []]] (.tup []) := by
  refine callsP_of gs_lw Tryz.func43 rfl Tryz.ntmps43 rfl fun w0 S0 stab => ?_
  refine hits_seq ?_
  refine hits_region ?_
  refine sq (f_assign rfl (lt rfl)) rfl rfl ?_
  refine hits_nil ?_
  refine to_next ?_
  refine hits_block ?_
  refine hits_once ?_
  refine hits_seq ?_
  refine hits_seq ?_
  refine hits_region ?_
  refine sq (f_move rfl (lt rfl)) rfl rfl ?_
  refine sq (f_move rfl (lt rfl)) rfl rfl ?_
  refine sq (f_nil rfl rfl (lt rfl)) rfl rfl ?_
  refine sq (f_fieldAddr rfl kf65_10 rfl (lt rfl)) rfl rfl ?_
  refine sq (f_load kd43 rfl rfl (lt rfl)) rfl rfl ?_
  refine sq (f_lenList rfl rfl un43 (lt rfl)) rfl rfl ?_
  refine sq (f_bin rfl rfl (bT (decide_eq_false (by simp))) (lt rfl)) rfl rfl ?_
  refine hits_nil ?_
  refine to_next ?_
  refine hits_cond rfl (fun c0 => absurd c0 Bool.false_ne_true) (fun c0 => ?_)
  refine hits_exit ?_
  refine to_exit ?_
  refine to_exit ?_
  refine in_hit rfl ?_
  exact hits_done (.inr rfl) rfl rfl rfl

set_option maxRecDepth 100000 in
theorem growArr_no : CallsP Tryz.prog Lw 73 [.eptr [.any, .any, .any, .any, .any, .any, .any, .any, .any, .any, .list 3 []]] (.tup []) := by
  refine callsP_of gs_lw Tryz.func73 rfl Tryz.ntmps73 rfl fun w0 S0 stab => ?_
  refine hits_seq ?_
  refine hits_region ?_
  refine sq (f_assign rfl (lt rfl)) rfl rfl ?_
  refine hits_nil ?_
  refine to_next ?_
  refine hits_block ?_
  refine hits_once ?_
  refine hits_seq ?_
  refine hits_seq ?_
  refine hits_region ?_
  refine sq (f_move rfl (lt rfl)) rfl rfl ?_
  refine sq (f_move rfl (lt rfl)) rfl rfl ?_
  refine sq (f_nil rfl rfl (lt rfl)) rfl rfl ?_
  refine sq (f_fieldAddr rfl kf65_10 rfl (lt rfl)) rfl rfl ?_
  refine sq (f_load kd43 rfl rfl (lt rfl)) rfl rfl ?_
  refine sq (f_lenList rfl rfl un43 (lt rfl)) rfl rfl ?_
  refine sq (f_bin rfl rfl (bT (decide_eq_false (by simp))) (lt rfl)) rfl rfl ?_
  refine hits_nil ?_
  refine to_next ?_
  refine hits_cond rfl (fun c0 => absurd c0 Bool.false_ne_true) (fun c0 => ?_)
  refine hits_exit ?_
  refine to_exit ?_
  refine to_exit ?_
  refine in_hit rfl ?_
  exact hits_done (.inr rfl) rfl rfl rfl

set_option maxRecDepth 100000 in
theorem lookArr_no : CallsP Tryz.prog Lw 103 [.eptr [.any, .any, .any, .any, .any, .any, .any, .any, .any, .any, .list 3 []]] (.sc (.bool true)) := by
  refine callsP_of gs_lw Tryz.func103 rfl Tryz.ntmps103 rfl fun w0 S0 stab => ?_
  refine hits_seq ?_
  refine hits_region ?_
  refine sq (f_assign rfl (lt rfl)) rfl rfl ?_
  refine hits_nil ?_
  refine to_next ?_
  refine hits_seq ?_
  refine hits_seq ?_
  refine hits_region ?_
  refine sq (f_assign rfl (lt rfl)) rfl rfl ?_
  refine hits_nil ?_
  refine to_next ?_
  refine hits_block ?_
  refine hits_once ?_
  refine hits_seq ?_
  refine hits_seq ?_
  refine hits_region ?_
  refine sq (f_move rfl (lt rfl)) rfl rfl ?_
  refine sq (f_move rfl (lt rfl)) rfl rfl ?_
  refine sq (f_nil rfl rfl (lt rfl)) rfl rfl ?_
  refine sq (f_fieldAddr rfl kf65_10 rfl (lt rfl)) rfl rfl ?_
  refine sq (f_load kd43 rfl rfl (lt rfl)) rfl rfl ?_
  refine sq (f_lenList rfl rfl un43 (lt rfl)) rfl rfl ?_
  refine sq (f_bin rfl rfl (bT (decide_eq_false (by simp))) (lt rfl)) rfl rfl ?_
  refine hits_nil ?_
  refine to_next ?_
  refine hits_cond rfl (fun c0 => absurd c0 Bool.false_ne_true) (fun c0 => ?_)
  refine hits_exit ?_
  refine to_exit ?_
  refine to_exit ?_
  refine in_hit rfl ?_
  refine to_next ?_
  refine hits_seq ?_
  refine hits_region ?_
  refine sq (f_assign rfl (lt rfl)) rfl rfl ?_
  refine hits_nil ?_
  refine to_next ?_
  refine hits_ret ?_
  exact hits_done (.inl rfl) rfl rfl rfl

set_option maxRecDepth 100000 in
theorem fillCase_no : CallsP Tryz.prog Lw 44 [.eptr [.any, .any, .any, .any, .any, .any, .any, .any, .any, .any, .any, .list 3 []]] (.tup []) := by
  refine callsP_of gs_lw Tryz.func44 rfl Tryz.ntmps44 rfl fun w0 S0 stab => ?_
  refine hits_seq ?_
  refine hits_region ?_
  refine sq (f_assign rfl (lt rfl)) rfl rfl ?_
  refine hits_nil ?_
  refine to_next ?_
  refine hits_block ?_
  refine hits_once ?_
  refine hits_seq ?_
  refine hits_seq ?_
  refine hits_region ?_
  refine sq (f_move rfl (lt rfl)) rfl rfl ?_
  refine sq (f_move rfl (lt rfl)) rfl rfl ?_
  refine sq (f_nil rfl rfl (lt rfl)) rfl rfl ?_
  refine sq (f_fieldAddr rfl kf65_11 rfl (lt rfl)) rfl rfl ?_
  refine sq (f_load kd44 rfl rfl (lt rfl)) rfl rfl ?_
  refine sq (f_lenList rfl rfl un44 (lt rfl)) rfl rfl ?_
  refine sq (f_bin rfl rfl (bT (decide_eq_false (by simp))) (lt rfl)) rfl rfl ?_
  refine hits_nil ?_
  refine to_next ?_
  refine hits_cond rfl (fun c0 => absurd c0 Bool.false_ne_true) (fun c0 => ?_)
  refine hits_exit ?_
  refine to_exit ?_
  refine to_exit ?_
  refine in_hit rfl ?_
  exact hits_done (.inr rfl) rfl rfl rfl

set_option maxRecDepth 100000 in
theorem growCase_no : CallsP Tryz.prog Lw 74 [.eptr [.any, .any, .any, .any, .any, .any, .any, .any, .any, .any, .any, .list 3 []]] (.tup []) := by
  refine callsP_of gs_lw Tryz.func74 rfl Tryz.ntmps74 rfl fun w0 S0 stab => ?_
  refine hits_seq ?_
  refine hits_region ?_
  refine sq (f_assign rfl (lt rfl)) rfl rfl ?_
  refine hits_nil ?_
  refine to_next ?_
  refine hits_block ?_
  refine hits_once ?_
  refine hits_seq ?_
  refine hits_seq ?_
  refine hits_region ?_
  refine sq (f_move rfl (lt rfl)) rfl rfl ?_
  refine sq (f_move rfl (lt rfl)) rfl rfl ?_
  refine sq (f_nil rfl rfl (lt rfl)) rfl rfl ?_
  refine sq (f_fieldAddr rfl kf65_11 rfl (lt rfl)) rfl rfl ?_
  refine sq (f_load kd44 rfl rfl (lt rfl)) rfl rfl ?_
  refine sq (f_lenList rfl rfl un44 (lt rfl)) rfl rfl ?_
  refine sq (f_bin rfl rfl (bT (decide_eq_false (by simp))) (lt rfl)) rfl rfl ?_
  refine hits_nil ?_
  refine to_next ?_
  refine hits_cond rfl (fun c0 => absurd c0 Bool.false_ne_true) (fun c0 => ?_)
  refine hits_exit ?_
  refine to_exit ?_
  refine to_exit ?_
  refine in_hit rfl ?_
  exact hits_done (.inr rfl) rfl rfl rfl

set_option maxRecDepth 100000 in
theorem lookCase_no : CallsP Tryz.prog Lw 104 [.eptr [.any, .any, .any, .any, .any, .any, .any, .any, .any, .any, .any, .list 3 []]] (.sc (.bool true)) := by
  refine callsP_of gs_lw Tryz.func104 rfl Tryz.ntmps104 rfl fun w0 S0 stab => ?_
  refine hits_seq ?_
  refine hits_region ?_
  refine sq (f_assign rfl (lt rfl)) rfl rfl ?_
  refine hits_nil ?_
  refine to_next ?_
  refine hits_seq ?_
  refine hits_seq ?_
  refine hits_region ?_
  refine sq (f_assign rfl (lt rfl)) rfl rfl ?_
  refine hits_nil ?_
  refine to_next ?_
  refine hits_block ?_
  refine hits_once ?_
  refine hits_seq ?_
  refine hits_seq ?_
  refine hits_region ?_
  refine sq (f_move rfl (lt rfl)) rfl rfl ?_
  refine sq (f_move rfl (lt rfl)) rfl rfl ?_
  refine sq (f_nil rfl rfl (lt rfl)) rfl rfl ?_
  refine sq (f_fieldAddr rfl kf65_11 rfl (lt rfl)) rfl rfl ?_
  refine sq (f_load kd44 rfl rfl (lt rfl)) rfl rfl ?_
  refine sq (f_lenList rfl rfl un44 (lt rfl)) rfl rfl ?_
  refine sq (f_bin rfl rfl (bT (decide_eq_false (by simp))) (lt rfl)) rfl rfl ?_
  refine hits_nil ?_
  refine to_next ?_
  refine hits_cond rfl (fun c0 => absurd c0 Bool.false_ne_true) (fun c0 => ?_)
  refine hits_exit ?_
  refine to_exit ?_
  refine to_exit ?_
  refine in_hit rfl ?_
  refine to_next ?_
  refine hits_seq ?_
  refine hits_region ?_
  refine sq (f_assign rfl (lt rfl)) rfl rfl ?_
  refine hits_nil ?_
  refine to_next ?_
  refine hits_ret ?_
  exact hits_done (.inl rfl) rfl rfl rfl

set_option maxRecDepth 100000 in
theorem fillJump_no : CallsP Tryz.prog Lw 45 [.eptr [.any, .any, .any, .any, .any, .any, .any, .any, .any, .any, .any, .any, .list 3 []]] (.tup []) := by
  refine callsP_of gs_lw Tryz.func45 rfl Tryz.ntmps45 rfl fun w0 S0 stab => ?_
  refine hits_seq ?_
  refine hits_region ?_
  refine sq (f_assign rfl (lt rfl)) rfl rfl ?_
  refine hits_nil ?_
  refine to_next ?_
  refine hits_block ?_
  refine hits_once ?_
  refine hits_seq ?_
  refine hits_seq ?_
  refine hits_region ?_
  refine sq (f_move rfl (lt rfl)) rfl rfl ?_
  refine sq (f_move rfl (lt rfl)) rfl rfl ?_
  refine sq (f_nil rfl rfl (lt rfl)) rfl rfl ?_
  refine sq (f_fieldAddr rfl kf65_12 rfl (lt rfl)) rfl rfl ?_
  refine sq (f_load kd45 rfl rfl (lt rfl)) rfl rfl ?_
  refine sq (f_lenList rfl rfl un45 (lt rfl)) rfl rfl ?_
  refine sq (f_bin rfl rfl (bT (decide_eq_false (by simp))) (lt rfl)) rfl rfl ?_
  refine hits_nil ?_
  refine to_next ?_
  refine hits_cond rfl (fun c0 => absurd c0 Bool.false_ne_true) (fun c0 => ?_)
  refine hits_exit ?_
  refine to_exit ?_
  refine to_exit ?_
  refine in_hit rfl ?_
  exact hits_done (.inr rfl) rfl rfl rfl

set_option maxRecDepth 100000 in
theorem growJump_no : CallsP Tryz.prog Lw 75 [.eptr [.any, .any, .any, .any, .any, .any, .any, .any, .any, .any, .any, .any, .list 3 []]] (.tup []) := by
  refine callsP_of gs_lw Tryz.func75 rfl Tryz.ntmps75 rfl fun w0 S0 stab => ?_
  refine hits_seq ?_
  refine hits_region ?_
  refine sq (f_assign rfl (lt rfl)) rfl rfl ?_
  refine hits_nil ?_
  refine to_next ?_
  refine hits_block ?_
  refine hits_once ?_
  refine hits_seq ?_
  refine hits_seq ?_
  refine hits_region ?_
  refine sq (f_move rfl (lt rfl)) rfl rfl ?_
  refine sq (f_move rfl (lt rfl)) rfl rfl ?_
  refine sq (f_nil rfl rfl (lt rfl)) rfl rfl ?_
  refine sq (f_fieldAddr rfl kf65_12 rfl (lt rfl)) rfl rfl ?_
  refine sq (f_load kd45 rfl rfl (lt rfl)) rfl rfl ?_
  refine sq (f_lenList rfl rfl un45 (lt rfl)) rfl rfl ?_
  refine sq (f_bin rfl rfl (bT (decide_eq_false (by simp))) (lt rfl)) rfl rfl ?_
  refine hits_nil ?_
  refine to_next ?_
  refine hits_cond rfl (fun c0 => absurd c0 Bool.false_ne_true) (fun c0 => ?_)
  refine hits_exit ?_
  refine to_exit ?_
  refine to_exit ?_
  refine in_hit rfl ?_
  exact hits_done (.inr rfl) rfl rfl rfl

set_option maxRecDepth 100000 in
theorem lookJump_no : CallsP Tryz.prog Lw 105 [.eptr [.any, .any, .any, .any, .any, .any, .any, .any, .any, .any, .any, .any, .list 3 []]] (.sc (.bool true)) := by
  refine callsP_of gs_lw Tryz.func105 rfl Tryz.ntmps105 rfl fun w0 S0 stab => ?_
  refine hits_seq ?_
  refine hits_region ?_
  refine sq (f_assign rfl (lt rfl)) rfl rfl ?_
  refine hits_nil ?_
  refine to_next ?_
  refine hits_seq ?_
  refine hits_seq ?_
  refine hits_region ?_
  refine sq (f_assign rfl (lt rfl)) rfl rfl ?_
  refine hits_nil ?_
  refine to_next ?_
  refine hits_block ?_
  refine hits_once ?_
  refine hits_seq ?_
  refine hits_seq ?_
  refine hits_region ?_
  refine sq (f_move rfl (lt rfl)) rfl rfl ?_
  refine sq (f_move rfl (lt rfl)) rfl rfl ?_
  refine sq (f_nil rfl rfl (lt rfl)) rfl rfl ?_
  refine sq (f_fieldAddr rfl kf65_12 rfl (lt rfl)) rfl rfl ?_
  refine sq (f_load kd45 rfl rfl (lt rfl)) rfl rfl ?_
  refine sq (f_lenList rfl rfl un45 (lt rfl)) rfl rfl ?_
  refine sq (f_bin rfl rfl (bT (decide_eq_false (by simp))) (lt rfl)) rfl rfl ?_
  refine hits_nil ?_
  refine to_next ?_
  refine hits_cond rfl (fun c0 => absurd c0 Bool.false_ne_true) (fun c0 => ?_)
  refine hits_exit ?_
  refine to_exit ?_
  refine to_exit ?_
  refine in_hit rfl ?_
  refine to_next ?_
  refine hits_seq ?_
  refine hits_region ?_
  refine sq (f_assign rfl (lt rfl)) rfl rfl ?_
  refine hits_nil ?_
  refine to_next ?_
  refine hits_ret ?_
  exact hits_done (.inl rfl) rfl rfl rfl

set_option maxRecDepth 100000 in
theorem fillExpr_no : CallsP Tryz.prog Lw 46 [.eptr [.any, .any, .any, .any, .any, .any, .any, .any, .any, .any, .any, .any, .any, .list 3 []]] (.tup []) := by
  refine callsP_of gs_lw Tryz.func46 rfl Tryz.ntmps46 rfl fun w0 S0 stab => ?_
  refine hits_seq ?_
  refine hits_region ?_
  refine sq (f_assign rfl (lt rfl)) rfl rfl ?_
  refine hits_nil ?_
  refine to_next ?_
  refine hits_block ?_
  refine hits_once ?_
  refine hits_seq ?_
  refine hits_seq ?_
  refine hits_region ?_
  refine sq (f_move rfl (lt rfl)) rfl rfl ?_
  refine sq (f_move rfl (lt rfl)) rfl rfl ?_
  refine sq (f_nil rfl rfl (lt rfl)) rfl rfl ?_
  refine sq (f_fieldAddr rfl kf65_13 rfl (lt rfl)) rfl rfl ?_
  refine sq (f_load kd46 rfl rfl (lt rfl)) rfl rfl ?_
  refine sq (f_lenList rfl rfl un46 (lt rfl)) rfl rfl ?_
  refine sq (f_bin rfl rfl (bT (decide_eq_false (by simp))) (lt rfl)) rfl rfl ?_
  refine hits_nil ?_
  refine to_next ?_
  refine hits_cond rfl (fun c0 => absurd c0 Bool.false_ne_true) (fun c0 => ?_)
  refine hits_exit ?_
  refine to_exit ?_
  refine to_exit ?_
  refine in_hit rfl ?_
  exact hits_done (.inr rfl) rfl rfl rfl

set_option maxRecDepth 100000 in
theorem growExpr_no : CallsP Tryz.prog Lw 76 [.eptr [.any, .any, .any, .any, .any, .any, .any, .any, .any, .any, .any, .any, .any, .list 3 []]] (.tup []) := by
  refine callsP_of gs_lw Tryz.func76 rfl Tryz.ntmps76 rfl fun w0 S0 stab => ?_
  refine hits_seq ?_
  refine hits_region ?_
  refine sq (f_assign rfl (lt rfl)) rfl rfl ?_
  refine hits_nil ?_
  refine to_next ?_
  refine hits_block ?_
  refine hits_once ?_
  refine hits_seq ?_
  refine hits_seq ?_
  refine hits_region ?_
  refine sq (f_move rfl (lt rfl)) rfl rfl ?_
  refine sq (f_move rfl (lt rfl)) rfl rfl ?_
  refine sq (f_nil rfl rfl (lt rfl)) rfl rfl ?_
  refine sq (f_fieldAddr rfl kf65_13 rfl (lt rfl)) rfl rfl ?_
  refine sq (f_load kd46 rfl rfl (lt rfl)) rfl rfl ?_
  refine sq (f_lenList rfl rfl un46 (lt rfl)) rfl rfl ?_
  refine sq (f_bin rfl rfl (bT (decide_eq_false (by simp))) (lt rfl)) rfl rfl ?_
  refine hits_nil ?_
  refine to_next ?_
  refine hits_cond rfl (fun c0 => absurd c0 Bool.false_ne_true) (fun c0 => ?_)
  refine hits_exit ?_
  refine to_exit ?_
  refine to_exit ?_
  refine in_hit rfl ?_
  exact hits_done (.inr rfl) rfl rfl rfl

set_option maxRecDepth 100000 in
theorem lookExpr_no : CallsP Tryz.prog Lw 106 [.eptr [.any, .any, .any, .any, .any, .any, .any, .any, .any, .any, .any, .any, .any, .list 3 []]] (.sc (.bool true)) := by
  refine callsP_of gs_lw Tryz.func106 rfl Tryz.ntmps106 rfl fun w0 S0 stab => ?_
  refine hits_seq ?_
  refine hits_region ?_
  refine sq (f_assign rfl (lt rfl)) rfl rfl ?_
  refine hits_nil ?_
  refine to_next ?_
  refine hits_seq ?_
  refine hits_seq ?_
  refine hits_region ?_
  refine sq (f_assign rfl (lt rfl)) rfl rfl ?_
  refine hits_nil ?_
  refine to_next ?_
  refine hits_block ?_
  refine hits_once ?_
  refine hits_seq ?_
  refine hits_seq ?_
  refine hits_region ?_
  refine sq (f_move rfl (lt rfl)) rfl rfl ?_
  refine sq (f_move rfl (lt rfl)) rfl rfl ?_
  refine sq (f_nil rfl rfl (lt rfl)) rfl rfl ?_
  refine sq (f_fieldAddr rfl kf65_13 rfl (lt rfl)) rfl rfl ?_
  refine sq (f_load kd46 rfl rfl (lt rfl)) rfl rfl ?_
  refine sq (f_lenList rfl rfl un46 (lt rfl)) rfl rfl ?_
  refine sq (f_bin rfl rfl (bT (decide_eq_false (by simp))) (lt rfl)) rfl rfl ?_
  refine hits_nil ?_
  refine to_next ?_
  refine hits_cond rfl (fun c0 => absurd c0 Bool.false_ne_true) (fun c0 => ?_)
  refine hits_exit ?_
  refine to_exit ?_
  refine to_exit ?_
  refine in_hit rfl ?_
  refine to_next ?_
  refine hits_seq ?_
  refine hits_region ?_
  refine sq (f_assign rfl (lt rfl)) rfl rfl ?_
  refine hits_nil ?_
  refine to_next ?_
  refine hits_ret ?_
  exact hits_done (.inl rfl) rfl rfl rfl

set_option maxRecDepth 100000 in
theorem fillStmt_no : CallsP Tryz.prog Lw 47 [.eptr [.any, .any, .any, .any, .any, .any, .any, .any, .any, .any, .any, .any, .any, .any, .list 3 []]] (.tup []) := by
  refine callsP_of gs_lw Tryz.func47 rfl Tryz.ntmps47 rfl fun w0 S0 stab => ?_
  refine hits_seq ?_
  refine hits_region ?_
  refine sq (f_assign rfl (lt rfl)) rfl rfl ?_
  refine hits_nil ?_
  refine to_next ?_
  refine hits_block ?_
  refine hits_once ?_
  refine hits_seq ?_
  refine hits_seq ?_
  refine hits_region ?_
  refine sq (f_move rfl (lt rfl)) rfl rfl ?_
  refine sq (f_move rfl (lt rfl)) rfl rfl ?_
  refine sq (f_nil rfl rfl (lt rfl)) rfl rfl ?_
  refine sq (f_fieldAddr rfl kf65_14 rfl (lt rfl)) rfl rfl ?_
  refine sq (f_load kd47 rfl rfl (lt rfl)) rfl rfl ?_
  refine sq (f_lenList rfl rfl un47 (lt rfl)) rfl rfl ?_
  refine sq (f_bin rfl rfl (bT (decide_eq_false (by simp))) (lt rfl)) rfl rfl ?_
  refine hits_nil ?_
  refine to_next ?_
  refine hits_cond rfl (fun c0 => absurd c0 Bool.false_ne_true) (fun c0 => ?_)
  refine hits_exit ?_
  refine to_exit ?_
  refine to_exit ?_
  refine in_hit rfl ?_
  exact hits_done (.inr rfl) rfl rfl rfl

set_option maxRecDepth 100000 in
theorem growStmt_no : CallsP Tryz.prog Lw 77 [.eptr [.any, .any, .any, .any, .any, .any, .any, .any, .any, .any, .any, .any, .any, .any, .list 3 []]] (.tup []) := by
  refine callsP_of gs_lw Tryz.func77 rfl Tryz.ntmps77 rfl fun w0 S0 stab => ?_
  refine hits_seq ?_
  refine hits_region ?_
  refine sq (f_assign rfl (lt rfl)) rfl rfl ?_
  refine hits_nil ?_
  refine to_next ?_
  refine hits_block ?_
  refine hits_once ?_
  refine hits_seq ?_
  refine hits_seq ?_
  refine hits_region ?_
  refine sq (f_move rfl (lt rfl)) rfl rfl ?_
  refine sq (f_move rfl (lt rfl)) rfl rfl ?_
  refine sq (f_nil rfl rfl (lt rfl)) rfl rfl ?_
  refine sq (f_fieldAddr rfl kf65_14 rfl (lt rfl)) rfl rfl ?_
  refine sq (f_load kd47 rfl rfl (lt rfl)) rfl rfl ?_
  refine sq (f_lenList rfl rfl un47 (lt rfl)) rfl rfl ?_
  refine sq (f_bin rfl rfl (bT (decide_eq_false (by simp))) (lt rfl)) rfl rfl ?_
  refine hits_nil ?_
  refine to_next ?_
  refine hits_cond rfl (fun c0 => absurd c0 Bool.false_ne_true) (fun c0 => ?_)
  refine hits_exit ?_
  refine to_exit ?_
  refine to_exit ?_
  refine in_hit rfl ?_
  exact hits_done (.inr rfl) rfl rfl rfl

set_option maxRecDepth 100000 in
theorem lookStmt_no : CallsP Tryz.prog Lw 107 [.eptr [.any, .any, .any, .any, .any, .any, .any, .any, .any, .any, .any, .any, .any, .any, .list 3 []]] (.sc (.bool true)) := by
  refine callsP_of gs_lw Tryz.func107 rfl Tryz.ntmps107 rfl fun w0 S0 stab => ?_
  refine hits_seq ?_
  refine hits_region ?_
  refine sq (f_assign rfl (lt rfl)) rfl rfl ?_
  refine hits_nil ?_
  refine to_next ?_
  refine hits_seq ?_
  refine hits_seq ?_
  refine hits_region ?_
  refine sq (f_assign rfl (lt rfl)) rfl rfl ?_
  refine hits_nil ?_
  refine to_next ?_
  refine hits_block ?_
  refine hits_once ?_
  refine hits_seq ?_
  refine hits_seq ?_
  refine hits_region ?_
  refine sq (f_move rfl (lt rfl)) rfl rfl ?_
  refine sq (f_move rfl (lt rfl)) rfl rfl ?_
  refine sq (f_nil rfl rfl (lt rfl)) rfl rfl ?_
  refine sq (f_fieldAddr rfl kf65_14 rfl (lt rfl)) rfl rfl ?_
  refine sq (f_load kd47 rfl rfl (lt rfl)) rfl rfl ?_
  refine sq (f_lenList rfl rfl un47 (lt rfl)) rfl rfl ?_
  refine sq (f_bin rfl rfl (bT (decide_eq_false (by simp))) (lt rfl)) rfl rfl ?_
  refine hits_nil ?_
  refine to_next ?_
  refine hits_cond rfl (fun c0 => absurd c0 Bool.false_ne_true) (fun c0 => ?_)
  refine hits_exit ?_
  refine to_exit ?_
  refine to_exit ?_
  refine in_hit rfl ?_
  refine to_next ?_
  refine hits_seq ?_
  refine hits_region ?_
  refine sq (f_assign rfl (lt rfl)) rfl rfl ?_
  refine hits_nil ?_
  refine to_next ?_
  refine hits_ret ?_
  exact hits_done (.inl rfl) rfl rfl rfl

set_option maxRecDepth 100000 in
theorem fillState_no : CallsP Tryz.prog Lw 48 [.eptr [.any, .any, .any, .any, .any, .any, .any, .any, .any, .any, .any, .any, .any, .any, .any, .list 3 []]] (.tup []) := by
  refine callsP_of gs_lw Tryz.func48 rfl Tryz.ntmps48 rfl fun w0 S0 stab => ?_
  refine hits_seq ?_
  refine hits_region ?_
  refine sq (f_assign rfl (lt rfl)) rfl rfl ?_
  refine hits_nil ?_
  refine to_next ?_
  refine hits_block ?_
  refine hits_once ?_
  refine hits_seq ?_
  refine hits_seq ?_
  refine hits_region ?_
  refine sq (f_move rfl (lt rfl)) rfl rfl ?_
  refine sq (f_move rfl (lt rfl)) rfl rfl ?_
  refine sq (f_nil rfl rfl (lt rfl)) rfl rfl ?_
  refine sq (f_fieldAddr rfl kf65_15 rfl (lt rfl)) rfl rfl ?_
  refine sq (f_load kd48 rfl rfl (lt rfl)) rfl rfl ?_
  refine sq (f_lenList rfl rfl un48 (lt rfl)) rfl rfl ?_
  refine sq (f_bin rfl rfl (bT (decide_eq_false (by simp))) (lt rfl)) rfl rfl ?_
  refine hits_nil ?_
  refine to_next ?_
  refine hits_cond rfl (fun c0 => absurd c0 Bool.false_ne_true) (fun c0 => ?_)
  refine hits_exit ?_
  refine to_exit ?_
  refine to_exit ?_
  refine in_hit rfl ?_
  exact hits_done (.inr rfl) rfl rfl rfl

set_option maxRecDepth 100000 in
theorem growState_no : CallsP Tryz.prog Lw 78 [.eptr [.any, .any, .any, .any, .any, .any, .any, .any, .any, .any, .any, .any, .any, .any, .any, .list 3 []]] (.tup []) := by
  refine callsP_of gs_lw Tryz.func78 rfl Tryz.ntmps78 rfl fun w0 S0 stab => ?_
  refine hits_seq ?_
  refine hits_region ?_
  refine sq (f_assign rfl (lt rfl)) rfl rfl ?_
  refine hits_nil ?_
  refine to_next ?_
  refine hits_block ?_
  refine hits_once ?_
  refine hits_seq ?_
  refine hits_seq ?_
  refine hits_region ?_
  refine sq (f_move rfl (lt rfl)) rfl rfl ?_
  refine sq (f_move rfl (lt rfl)) rfl rfl ?_
  refine sq (f_nil rfl rfl (lt rfl)) rfl rfl ?_
  refine sq (f_fieldAddr rfl kf65_15 rfl (lt rfl)) rfl rfl ?_
  refine sq (f_load kd48 rfl rfl (lt rfl)) rfl rfl ?_
  refine sq (f_lenList rfl rfl un48 (lt rfl)) rfl rfl ?_
  refine sq (f_bin rfl rfl (bT (decide_eq_false (by simp))) (lt rfl)) rfl rfl ?_
  refine hits_nil ?_
  refine to_next ?_
  refine hits_cond rfl (fun c0 => absurd c0 Bool.false_ne_true) (fun c0 => ?_)
  refine hits_exit ?_
  refine to_exit ?_
  refine to_exit ?_
  refine in_hit rfl ?_
  exact hits_done (.inr rfl) rfl rfl rfl

set_option maxRecDepth 100000 in
theorem lookState_no : CallsP Tryz.prog Lw 108 [.eptr [.any, .any, .any, .any, .any, .any, .any, .any, .any, .any, .any, .any, .any, .any, .any, .list 3 []]] (.sc (.bool true)) := by
  refine callsP_of gs_lw Tryz.func108 rfl Tryz.ntmps108 rfl fun w0 S0 stab => ?_
  refine hits_seq ?_
  refine hits_region ?_
  refine sq (f_assign rfl (lt rfl)) rfl rfl ?_
  refine hits_nil ?_
  refine to_next ?_
  refine hits_seq ?_
  refine hits_seq ?_
  refine hits_region ?_
  refine sq (f_assign rfl (lt rfl)) rfl rfl ?_
  refine hits_nil ?_
  refine to_next ?_
  refine hits_block ?_
  refine hits_once ?_
  refine hits_seq ?_
  refine hits_seq ?_
  refine hits_region ?_
  refine sq (f_move rfl (lt rfl)) rfl rfl ?_
  refine sq (f_move rfl (lt rfl)) rfl rfl ?_
  refine sq (f_nil rfl rfl (lt rfl)) rfl rfl ?_
  refine sq (f_fieldAddr rfl kf65_15 rfl (lt rfl)) rfl rfl ?_
  refine sq (f_load kd48 rfl rfl (lt rfl)) rfl rfl ?_
  refine sq (f_lenList rfl rfl un48 (lt rfl)) rfl rfl ?_
  refine sq (f_bin rfl rfl (bT (decide_eq_false (by simp))) (lt rfl)) rfl rfl ?_
  refine hits_nil ?_
  refine to_next ?_
  refine hits_cond rfl (fun c0 => absurd c0 Bool.false_ne_true) (fun c0 => ?_)
  refine hits_exit ?_
  refine to_exit ?_
  refine to_exit ?_
  refine in_hit rfl ?_
  refine to_next ?_
  refine hits_seq ?_
  refine hits_region ?_
  refine sq (f_assign rfl (lt rfl)) rfl rfl ?_
  refine hits_nil ?_
  refine to_next ?_
  refine hits_ret ?_
  exact hits_done (.inl rfl) rfl rfl rfl

set_option maxRecDepth 100000 in
theorem fillKey_no : CallsP Tryz.prog Lw 49 [.eptr [.any, .any, .any, .any, .any, .any, .any, .any, .any, .any, .any, .any, .any, .any, .any, .any, .list 3 []]] (.tup []) := by
  refine callsP_of gs_lw Tryz.func49 rfl Tryz.ntmps49 rfl fun w0 S0 stab => ?_
  refine hits_seq ?_
  refine hits_region ?_
  refine sq (f_assign rfl (lt rfl)) rfl rfl ?_
  refine hits_nil ?_
  refine to_next ?_
  refine hits_block ?_
  refine hits_once ?_
  refine hits_seq ?_
  refine hits_seq ?_
  refine hits_region ?_
  refine sq (f_move rfl (lt rfl)) rfl rfl ?_
  refine sq (f_move rfl (lt rfl)) rfl rfl ?_
  refine sq (f_nil rfl rfl (lt rfl)) rfl rfl ?_
  refine sq (f_fieldAddr rfl kf65_16 rfl (lt rfl)) rfl rfl ?_
  refine sq (f_load kd49 rfl rfl (lt rfl)) rfl rfl ?_
  refine sq (f_lenList rfl rfl un49 (lt rfl)) rfl rfl ?_
  refine sq (f_bin rfl rfl (bT (decide_eq_false (by simp))) (lt rfl)) rfl rfl ?_
  refine hits_nil ?_
  refine to_next ?_
  refine hits_cond rfl (fun c0 => absurd c0 Bool.false_ne_true) (fun c0 => ?_)
  refine hits_exit ?_
  refine to_exit ?_
  refine to_exit ?_
  refine in_hit rfl ?_
  exact hits_done (.inr rfl) rfl rfl rfl

set_option maxRecDepth 100000 in
theorem growKey_no : CallsP Tryz.prog Lw 79 [.eptr [.any, .any, .any, .any, .any, .any, .any, .any, .any, .any, .any, .any, .any, .any, .any, .any, .list 3 []]] (.tup []) := by
  refine callsP_of gs_lw Tryz.func79 rfl Tryz.ntmps79 rfl fun w0 S0 stab => ?_
  refine hits_seq ?_
  refine hits_region ?_
  refine sq (f_assign rfl (lt rfl)) rfl rfl ?_
  refine hits_nil ?_
  refine to_next ?_
  refine hits_block ?_
  refine hits_once ?_
  refine hits_seq ?_
  refine hits_seq ?_
  refine hits_region ?_
  refine sq (f_move rfl (lt rfl)) rfl rfl ?_
  refine sq (f_move rfl (lt rfl)) rfl rfl ?_
  refine sq (f_nil rfl rfl (lt rfl)) rfl rfl ?_
  refine sq (f_fieldAddr rfl kf65_16 rfl (lt rfl)) rfl rfl ?_
  refine sq (f_load kd49 rfl rfl (lt rfl)) rfl rfl ?_
  refine sq (f_lenList rfl rfl un49 (lt rfl)) rfl rfl ?_
  refine sq (f_bin rfl rfl (bT (decide_eq_false (by simp))) (lt rfl)) rfl rfl ?_
  refine hits_nil ?_
  refine to_next ?_
  refine hits_cond rfl (fun c0 => absurd c0 Bool.false_ne_true) (fun c0 => ?_)
  refine hits_exit ?_
  refine to_exit ?_
  refine to_exit ?_
  refine in_hit rfl ?_
  exact hits_done (.inr rfl) rfl rfl rfl

set_option maxRecDepth 100000 in
theorem lookKey_no : CallsP Tryz.prog Lw 109 [.eptr [.any, .any, .any, .any, .any, .any, .any, .any, .any, .any, .any, .any, .any, .any, .any, .any, .list 3 []]] (.sc (.bool true)) := by
  refine callsP_of gs_lw Tryz.func109 rfl Tryz.ntmps109 rfl fun w0 S0 stab => ?_
  refine hits_seq ?_
  refine hits_region ?_
  refine sq (f_assign rfl (lt rfl)) rfl rfl ?_
  refine hits_nil ?_
  refine to_next ?_
  refine hits_seq ?_
  refine hits_seq ?_
  refine hits_region ?_
  refine sq (f_assign rfl (lt rfl)) rfl rfl ?_
  refine hits_nil ?_
  refine to_next ?_
  refine hits_block ?_
  refine hits_once ?_
  refine hits_seq ?_
  refine hits_seq ?_
  refine hits_region ?_
  refine sq (f_move rfl (lt rfl)) rfl rfl ?_
  refine sq (f_move rfl (lt rfl)) rfl rfl ?_
  refine sq (f_nil rfl rfl (lt rfl)) rfl rfl ?_
  refine sq (f_fieldAddr rfl kf65_16 rfl (lt rfl)) rfl rfl ?_
  refine sq (f_load kd49 rfl rfl (lt rfl)) rfl rfl ?_
  refine sq (f_lenList rfl rfl un49 (lt rfl)) rfl rfl ?_
  refine sq (f_bin rfl rfl (bT (decide_eq_false (by simp))) (lt rfl)) rfl rfl ?_
  refine hits_nil ?_
  refine to_next ?_
  refine hits_cond rfl (fun c0 => absurd c0 Bool.false_ne_true) (fun c0 => ?_)
  refine hits_exit ?_
  refine to_exit ?_
  refine to_exit ?_
  refine in_hit rfl ?_
  refine to_next ?_
  refine hits_seq ?_
  refine hits_region ?_
  refine sq (f_assign rfl (lt rfl)) rfl rfl ?_
  refine hits_nil ?_
  refine to_next ?_
  refine hits_ret ?_
  exact hits_done (.inl rfl) rfl rfl rfl

set_option maxRecDepth 100000 in
theorem fillDecl_no : CallsP Tryz.prog Lw 50 [.eptr [.any, .any, .any, .any, .any, .any, .any, .any, .any, .any, .any, .any, .any, .any, .any, .any, .any, .list 3 []]] (.tup []) := by
  refine callsP_of gs_lw Tryz.func50 rfl Tryz.ntmps50 rfl fun w0 S0 stab => ?_
  refine hits_seq ?_
  refine hits_region ?_
  refine sq (f_assign rfl (lt rfl)) rfl rfl ?_
  refine hits_nil ?_
  refine to_next ?_
  refine hits_block ?_
  refine hits_once ?_
  refine hits_seq ?_
  refine hits_seq ?_
  refine hits_region ?_
  refine sq (f_move rfl (lt rfl)) rfl rfl ?_
  refine sq (f_move rfl (lt rfl)) rfl rfl ?_
  refine sq (f_nil rfl rfl (lt rfl)) rfl rfl ?_
  refine sq (f_fieldAddr rfl kf65_17 rfl (lt rfl)) rfl rfl ?_
  refine sq (f_load kd50 rfl rfl (lt rfl)) rfl rfl ?_
  refine sq (f_lenList rfl rfl un50 (lt rfl)) rfl rfl ?_
  refine sq (f_bin rfl rfl (bT (decide_eq_false (by simp))) (lt rfl)) rfl rfl ?_
  refine hits_nil ?_
  refine to_next ?_
  refine hits_cond rfl (fun c0 => absurd c0 Bool.false_ne_true) (fun c0 => ?_)
  refine hits_exit ?_
  refine to_exit ?_
  refine to_exit ?_
  refine in_hit rfl ?_
  exact hits_done (.inr rfl) rfl rfl rfl

set_option maxRecDepth 100000 in
theorem growDecl_no : CallsP Tryz.prog Lw 80 [.eptr [.any, .any, .any, .any, .any, .any, .any, .any, .any, .any, .any, .any, .any, .any, .any, .any, .any, .list 3 []]] (.tup []) := by
  refine callsP_of gs_lw Tryz.func80 rfl Tryz.ntmps80 rfl fun w0 S0 stab => ?_
  refine hits_seq ?_
  refine hits_region ?_
  refine sq (f_assign rfl (lt rfl)) rfl rfl ?_
  refine hits_nil ?_
  refine to_next ?_
  refine hits_block ?_
  refine hits_once ?_
  refine hits_seq ?_
  refine hits_seq ?_
  refine hits_region ?_
  refine sq (f_move rfl (lt rfl)) rfl rfl ?_
  refine sq (f_move rfl (lt rfl)) rfl rfl ?_
  refine sq (f_nil rfl rfl (lt rfl)) rfl rfl ?_
  refine sq (f_fieldAddr rfl kf65_17 rfl (lt rfl)) rfl rfl ?_
  refine sq (f_load kd50 rfl rfl (lt rfl)) rfl rfl ?_
  refine sq (f_lenList rfl rfl un50 (lt rfl)) rfl rfl ?_
  refine sq (f_bin rfl rfl (bT (decide_eq_false (by simp))) (lt rfl)) rfl rfl ?_
  refine hits_nil ?_
  refine to_next ?_
  refine hits_cond rfl (fun c0 => absurd c0 Bool.false_ne_true) (fun c0 => ?_)
  refine hits_exit ?_
  refine to_exit ?_
  refine to_exit ?_
  refine in_hit rfl ?_
  exact hits_done (.inr rfl) rfl rfl rfl

set_option maxRecDepth 100000 in
theorem lookDecl_no : CallsP Tryz.prog Lw 110 [.eptr [.any, .any, .any, .any, .any, .any, .any, .any, .any, .any, .any, .any, .any, .any, .any, .any, .any, .list 3 []]] (.sc (.bool true)) := by
  refine callsP_of gs_lw Tryz.func110 rfl Tryz.ntmps110 rfl fun w0 S0 stab => ?_
  refine hits_seq ?_
  refine hits_region ?_
  refine sq (f_assign rfl (lt rfl)) rfl rfl ?_
  refine hits_nil ?_
  refine to_next ?_
  refine hits_seq ?_
  refine hits_seq ?_
  refine hits_region ?_
  refine sq (f_assign rfl (lt rfl)) rfl rfl ?_
  refine hits_nil ?_
  refine to_next ?_
  refine hits_block ?_
  refine hits_once ?_
  refine hits_seq ?_
  refine hits_seq ?_
  refine hits_region ?_
  refine sq (f_move rfl (lt rfl)) rfl rfl ?_
  refine sq (f_move rfl (lt rfl)) rfl rfl ?_
  refine sq (f_nil rfl rfl (lt rfl)) rfl rfl ?_
  refine sq (f_fieldAddr rfl kf65_17 rfl (lt rfl)) rfl rfl ?_
  refine sq (f_load kd50 rfl rfl (lt rfl)) rfl rfl ?_
  refine sq (f_lenList rfl rfl un50 (lt rfl)) rfl rfl ?_
  refine sq (f_bin rfl rfl (bT (decide_eq_false (by simp))) (lt rfl)) rfl rfl ?_
  refine hits_nil ?_
  refine to_next ?_
  refine hits_cond rfl (fun c0 => absurd c0 Bool.false_ne_true) (fun c0 => ?_)
  refine hits_exit ?_
  refine to_exit ?_
  refine to_exit ?_
  refine in_hit rfl ?_
  refine to_next ?_
  refine hits_seq ?_
  refine hits_region ?_
  refine sq (f_assign rfl (lt rfl)) rfl rfl ?_
  refine hits_nil ?_
  refine to_next ?_
  refine hits_ret ?_
  exact hits_done (.inl rfl) rfl rfl rfl

set_option maxRecDepth 100000 in
theorem fillEntry_no : CallsP Tryz.prog Lw 51 [.eptr [.any, .any, .any, .any, .any, .any, .any, .any, .any, .any, .any, .any, .any, .any, .any, .any, .any, .any, .list 3 []]] (.tup []) := by
  refine callsP_of gs_lw Tryz.func51 rfl Tryz.ntmps51 rfl fun w0 S0 stab => ?_
  refine hits_seq ?_
  refine hits_region ?_
  refine sq (f_assign rfl (lt rfl)) rfl rfl ?_
  refine hits_nil ?_
  refine to_next ?_
  refine hits_block ?_
  refine hits_once ?_
  refine hits_seq ?_
  refine hits_seq ?_
  refine hits_region ?_
  refine sq (f_move rfl (lt rfl)) rfl rfl ?_
  refine sq (f_move rfl (lt rfl)) rfl rfl ?_
  refine sq (f_nil rfl rfl (lt rfl)) rfl rfl ?_
  refine sq (f_fieldAddr rfl kf65_18 rfl (lt rfl)) rfl rfl ?_
  refine sq (f_load kd51 rfl rfl (lt rfl)) rfl rfl ?_
  refine sq (f_lenList rfl rfl un51 (lt rfl)) rfl rfl ?_
  refine sq (f_bin rfl rfl (bT (decide_eq_false (by simp))) (lt rfl)) rfl rfl ?_
  refine hits_nil ?_
  refine to_next ?_
  refine hits_cond rfl (fun c0 => absurd c0 Bool.false_ne_true) (fun c0 => ?_)
  refine hits_exit ?_
  refine to_exit ?_
  refine to_exit ?_
  refine in_hit rfl ?_
  exact hits_done (.inr rfl) rfl rfl rfl

set_option maxRecDepth 100000 in
theorem growEntry_no : CallsP Tryz.prog Lw 81 [.eptr [.any, .any, .any, .any, .any, .any, .any, .any, .any, .any, .any, .any, .any, .any, .any, .any, .any, .any, .list 3 []]] (.tup []) := by
  refine callsP_of gs_lw Tryz.func81 rfl Tryz.ntmps81 rfl fun w0 S0 stab => ?_
  refine hits_seq ?_
  refine hits_region ?_
  refine sq (f_assign rfl (lt rfl)) rfl rfl ?_
  refine hits_nil ?_
  refine to_next ?_
  refine hits_block ?_
  refine hits_once ?_
  refine hits_seq ?_
  refine hits_seq ?_
  refine hits_region ?_
  refine sq (f_move rfl (lt rfl)) rfl rfl ?_
  refine sq (f_move rfl (lt rfl)) rfl rfl ?_
  refine sq (f_nil rfl rfl (lt rfl)) rfl rfl ?_
  refine sq (f_fieldAddr rfl kf65_18 rfl (lt rfl)) rfl rfl ?_
  refine sq (f_load kd51 rfl rfl (lt rfl)) rfl rfl ?_
  refine sq (f_lenList rfl rfl un51 (lt rfl)) rfl rfl ?_
  refine sq (f_bin rfl rfl (bT (decide_eq_false (by simp))) (lt rfl)) rfl rfl ?_
  refine hits_nil ?_
  refine to_next ?_
  refine hits_cond rfl (fun c0 => absurd c0 Bool.false_ne_true) (fun c0 => ?_)
  refine hits_exit ?_
  refine to_exit ?_
  refine to_exit ?_
  refine in_hit rfl ?_
  exact hits_done (.inr rfl) rfl rfl rfl

set_option maxRecDepth 100000 in
theorem lookEntry_no : CallsP Tryz.prog Lw 111 [.eptr [.any, .any, .any, .any, .any, .any, .any, .any, .any, .any, .any, .any, .any, .any, .any, .any, .any, .any, .list 3 []]] (.sc (.bool true)) := by
  refine callsP_of gs_lw Tryz.func111 rfl Tryz.ntmps111 rfl fun w0 S0 stab => ?_
  refine hits_seq ?_
  refine hits_region ?_
  refine sq (f_assign rfl (lt rfl)) rfl rfl ?_
  refine hits_nil ?_
  refine to_next ?_
  refine hits_seq ?_
  refine hits_seq ?_
  refine hits_region ?_
  refine sq (f_assign rfl (lt rfl)) rfl rfl ?_
  refine hits_nil ?_
  refine to_next ?_
  refine hits_block ?_
  refine hits_once ?_
  refine hits_seq ?_
  refine hits_seq ?_
  refine hits_region ?_
  refine sq (f_move rfl (lt rfl)) rfl rfl ?_
  refine sq (f_move rfl (lt rfl)) rfl rfl ?_
  refine sq (f_nil rfl rfl (lt rfl)) rfl rfl ?_
  refine sq (f_fieldAddr rfl kf65_18 rfl (lt rfl)) rfl rfl ?_
  refine sq (f_load kd51 rfl rfl (lt rfl)) rfl rfl ?_
  refine sq (f_lenList rfl rfl un51 (lt rfl)) rfl rfl ?_
  refine sq (f_bin rfl rfl (bT (decide_eq_false (by simp))) (lt rfl)) rfl rfl ?_
  refine hits_nil ?_
  refine to_next ?_
  refine hits_cond rfl (fun c0 => absurd c0 Bool.false_ne_true) (fun c0 => ?_)
  refine hits_exit ?_
  refine to_exit ?_
  refine to_exit ?_
  refine in_hit rfl ?_
  refine to_next ?_
  refine hits_seq ?_
  refine hits_region ?_
  refine sq (f_assign rfl (lt rfl)) rfl rfl ?_
  refine hits_nil ?_
  refine to_next ?_
  refine hits_ret ?_
  exact hits_done (.inl rfl) rfl rfl rfl

set_option maxRecDepth 100000 in
theorem fillGroup_no : CallsP Tryz.prog Lw 52 [.eptr [.any, .any, .any, .any, .any, .any, .any, .any, .any, .any, .any, .any, .any, .any, .any, .any, .any, .any, .any, .list 3 []]] (.tup []) := by
  refine callsP_of gs_lw Tryz.func52 rfl Tryz.ntmps52 rfl fun w0 S0 stab => ?_
  refine hits_seq ?_
  refine hits_region ?_
  refine sq (f_assign rfl (lt rfl)) rfl rfl ?_
  refine hits_nil ?_
  refine to_next ?_
  refine hits_block ?_
  refine hits_once ?_
  refine hits_seq ?_
  refine hits_seq ?_
  refine hits_region ?_
  refine sq (f_move rfl (lt rfl)) rfl rfl ?_
  refine sq (f_move rfl (lt rfl)) rfl rfl ?_
  refine sq (f_nil rfl rfl (lt rfl)) rfl rfl ?_
  refine sq (f_fieldAddr rfl kf65_19 rfl (lt rfl)) rfl rfl ?_
  refine sq (f_load kd52 rfl rfl (lt rfl)) rfl rfl ?_
  refine sq (f_lenList rfl rfl un52 (lt rfl)) rfl rfl ?_
  refine sq (f_bin rfl rfl (bT (decide_eq_false (by simp))) (lt rfl)) rfl rfl ?_
  refine hits_nil ?_
  refine to_next ?_
  refine hits_cond rfl (fun c0 => absurd c0 Bool.false_ne_true) (fun c0 => ?_)
  refine hits_exit ?_
  refine to_exit ?_
  refine to_exit ?_
  refine in_hit rfl ?_
  exact hits_done (.inr rfl) rfl rfl rfl

set_option maxRecDepth 100000 in
theorem growGroup_no : CallsP Tryz.prog Lw 82 [.eptr [.any, .any, .any, .any, .any, .any, .any, .any, .any, .any, .any, .any, .any, .any, .any, .any, .any, .any, .any, .list 3 []]] (.tup []) := by
  refine callsP_of gs_lw Tryz.func82 rfl Tryz.ntmps82 rfl fun w0 S0 stab => ?_
  refine hits_seq ?_
  refine hits_region ?_
  refine sq (f_assign rfl (lt rfl)) rfl rfl ?_
  refine hits_nil ?_
  refine to_next ?_
  refine hits_block ?_
  refine hits_once ?_
  refine hits_seq ?_
  refine hits_seq ?_
  refine hits_region ?_
  refine sq (f_move rfl (lt rfl)) rfl rfl ?_
  refine sq (f_move rfl (lt rfl)) rfl rfl ?_
  refine sq (f_nil rfl rfl (lt rfl)) rfl rfl ?_
  refine sq (f_fieldAddr rfl kf65_19 rfl (lt rfl)) rfl rfl ?_
  refine sq (f_load kd52 rfl rfl (lt rfl)) rfl rfl ?_
  refine sq (f_lenList rfl rfl un52 (lt rfl)) rfl rfl ?_
  refine sq (f_bin rfl rfl (bT (decide_eq_false (by simp))) (lt rfl)) rfl rfl ?_
  refine hits_nil ?_
  refine to_next ?_
  refine hits_cond rfl (fun c0 => absurd c0 Bool.false_ne_true) (fun c0 => ?_)
  refine hits_exit ?_
  refine to_exit ?_
  refine to_exit ?_
  refine in_hit rfl ?_
  exact hits_done (.inr rfl) rfl rfl rfl

set_option maxRecDepth 100000 in
theorem lookGroup_no : CallsP Tryz.prog Lw 112 [.eptr [.any, .any, .any, .any, .any, .any, .any, .any, .any, .any, .any, .any, .any, .any, .any, .any, .any, .any, .any, .list 3 []]] (.sc (.bool true)) := by
  refine callsP_of gs_lw Tryz.func112 rfl Tryz.ntmps112 rfl fun w0 S0 stab => ?_
  refine hits_seq ?_
  refine hits_region ?_
  refine sq (f_assign rfl (lt rfl)) rfl rfl ?_
  refine hits_nil ?_
  refine to_next ?_
  refine hits_seq ?_
  refine hits_seq ?_
  refine hits_region ?_
  refine sq (f_assign rfl (lt rfl)) rfl rfl ?_
  refine hits_nil ?_
  refine to_next ?_
  refine hits_block ?_
  refine hits_once ?_
  refine hits_seq ?_
  refine hits_seq ?_
  refine hits_region ?_
  refine sq (f_move rfl (lt rfl)) rfl rfl ?_
  refine sq (f_move rfl (lt rfl)) rfl rfl ?_
  refine sq (f_nil rfl rfl (lt rfl)) rfl rfl ?_
  refine sq (f_fieldAddr rfl kf65_19 rfl (lt rfl)) rfl rfl ?_
  refine sq (f_load kd52 rfl rfl (lt rfl)) rfl rfl ?_
  refine sq (f_lenList rfl rfl un52 (lt rfl)) rfl rfl ?_
  refine sq (f_bin rfl rfl (bT (decide_eq_false (by simp))) (lt rfl)) rfl rfl ?_
  refine hits_nil ?_
  refine to_next ?_
  refine hits_cond rfl (fun c0 => absurd c0 Bool.false_ne_true) (fun c0 => ?_)
  refine hits_exit ?_
  refine to_exit ?_
  refine to_exit ?_
  refine in_hit rfl ?_
  refine to_next ?_
  refine hits_seq ?_
  refine hits_region ?_
  refine sq (f_assign rfl (lt rfl)) rfl rfl ?_
  refine hits_nil ?_
  refine to_next ?_
  refine hits_ret ?_
  exact hits_done (.inl rfl) rfl rfl rfl

set_option maxRecDepth 100000 in
theorem fillHead_no : CallsP Tryz.prog Lw 53 [.eptr [.any, .any, .any, .any, .any, .any, .any, .any, .any, .any, .any, .any, .any, .any, .any, .any, .any, .any, .any, .any, .list 3 []]] (.tup []) := by
  refine callsP_of gs_lw Tryz.func53 rfl Tryz.ntmps53 rfl fun w0 S0 stab => ?_
  refine hits_seq ?_
  refine hits_region ?_
  refine sq (f_assign rfl (lt rfl)) rfl rfl ?_
  refine hits_nil ?_
  refine to_next ?_
  refine hits_block ?_
  refine hits_once ?_
  refine hits_seq ?_
  refine hits_seq ?_
  refine hits_region ?_
  refine sq (f_move rfl (lt rfl)) rfl rfl ?_
  refine sq (f_move rfl (lt rfl)) rfl rfl ?_
  refine sq (f_nil rfl rfl (lt rfl)) rfl rfl ?_
  refine sq (f_fieldAddr rfl kf65_20 rfl (lt rfl)) rfl rfl ?_
  refine sq (f_load kd53 rfl rfl (lt rfl)) rfl rfl ?_
  refine sq (f_lenList rfl rfl un53 (lt rfl)) rfl rfl ?_
  refine sq (f_bin rfl rfl (bT (decide_eq_false (by simp))) (lt rfl)) rfl rfl ?_
  refine hits_nil ?_
  refine to_next ?_
  refine hits_cond rfl (fun c0 => absurd c0 Bool.false_ne_true) (fun c0 => ?_)
  refine hits_exit ?_
  refine to_exit ?_
  refine to_exit ?_
  refine in_hit rfl ?_
  exact hits_done (.inr rfl) rfl rfl rfl

set_option maxRecDepth 100000 in
theorem growHead_no : CallsP Tryz.prog Lw 83 [.eptr [.any, .any, .any, .any, .any, .any, .any, .any, .any, .any, .any, .any, .any, .any, .any, .any, .any, .any, .any, .any, .list 3 []]] (.tup []) := by
  refine callsP_of gs_lw Tryz.func83 rfl Tryz.ntmps83 rfl fun w0 S0 stab => ?_
  refine hits_seq ?_
  refine hits_region ?_
  refine sq (f_assign rfl (lt rfl)) rfl rfl ?_
  refine hits_nil ?_
  refine to_next ?_
  refine hits_block ?_
  refine hits_once ?_
  refine hits_seq ?_
  refine hits_seq ?_
  refine hits_region ?_
  refine sq (f_move rfl (lt rfl)) rfl rfl ?_
  refine sq (f_move rfl (lt rfl)) rfl rfl ?_
  refine sq (f_nil rfl rfl (lt rfl)) rfl rfl ?_
  refine sq (f_fieldAddr rfl kf65_20 rfl (lt rfl)) rfl rfl ?_
  refine sq (f_load kd53 rfl rfl (lt rfl)) rfl rfl ?_
  refine sq (f_lenList rfl rfl un53 (lt rfl)) rfl rfl ?_
  refine sq (f_bin rfl rfl (bT (decide_eq_false (by simp))) (lt rfl)) rfl rfl ?_
  refine hits_nil ?_
  refine to_next ?_
  refine hits_cond rfl (fun c0 => absurd c0 Bool.false_ne_true) (fun c0 => ?_)
  refine hits_exit ?_
  refine to_exit ?_
  refine to_exit ?_
  refine in_hit rfl ?_
  exact hits_done (.inr rfl) rfl rfl rfl

set_option maxRecDepth 100000 in
theorem lookHead_no : CallsP Tryz.prog Lw 113 [.eptr [.any, .any, .any, .any, .any, .any, .any, .any, .any, .any, .any, .any, .any, .any, .any, .any, .any, .any, .any, .any, .list 3 []]] (.sc (.bool true)) := by
  refine callsP_of gs_lw Tryz.func113 rfl Tryz.ntmps113 rfl fun w0 S0 stab => ?_
  refine hits_seq ?_
  refine hits_region ?_
  refine sq (f_assign rfl (lt rfl)) rfl rfl ?_
  refine hits_nil ?_
  refine to_next ?_
  refine hits_seq ?_
  refine hits_seq ?_
  refine hits_region ?_
  refine sq (f_assign rfl (lt rfl)) rfl rfl ?_
  refine hits_nil ?_
  refine to_next ?_
  refine hits_block ?_
  refine hits_once ?_
  refine hits_seq ?_
  refine hits_seq ?_
  refine hits_region ?_
  refine sq (f_move rfl (lt rfl)) rfl rfl ?_
  refine sq (f_move rfl (lt rfl)) rfl rfl ?_
  refine sq (f_nil rfl rfl (lt rfl)) rfl rfl ?_
  refine sq (f_fieldAddr rfl kf65_20 rfl (lt rfl)) rfl rfl ?_
  refine sq (f_load kd53 rfl rfl (lt rfl)) rfl rfl ?_
  refine sq (f_lenList rfl rfl un53 (lt rfl)) rfl rfl ?_
  refine sq (f_bin rfl rfl (bT (decide_eq_false (by simp))) (lt rfl)) rfl rfl ?_
  refine hits_nil ?_
  refine to_next ?_
  refine hits_cond rfl (fun c0 => absurd c0 Bool.false_ne_true) (fun c0 => ?_)
  refine hits_exit ?_
  refine to_exit ?_
  refine to_exit ?_
  refine in_hit rfl ?_
  refine to_next ?_
  refine hits_seq ?_
  refine hits_region ?_
  refine sq (f_assign rfl (lt rfl)) rfl rfl ?_
  refine hits_nil ?_
  refine to_next ?_
  refine hits_ret ?_
  exact hits_done (.inl rfl) rfl rfl rfl

set_option maxRecDepth 100000 in
theorem fillNode_no : CallsP Tryz.prog Lw 54 [.eptr [.any, .any, .any, .any, .any, .any, .any, .any, .any, .any, .any, .any, .any, .any, .any, .any, .any, .any, .any, .any, .any, .list 3 []]] (.tup []) := by
  refine callsP_of gs_lw Tryz.func54 rfl Tryz.ntmps54 rfl fun w0 S0 stab => ?_
  refine hits_seq ?_
  refine hits_region ?_
  refine sq (f_assign rfl (lt rfl)) rfl rfl ?_
  refine hits_nil ?_
  refine to_next ?_
  refine hits_block ?_
  refine hits_once ?_
  refine hits_seq ?_
  refine hits_seq ?_
  refine hits_region ?_
  refine sq (f_move rfl (lt rfl)) rfl rfl ?_
  refine sq (f_move rfl (lt rfl)) rfl rfl ?_
  refine sq (f_nil rfl rfl (lt rfl)) rfl rfl ?_
  refine sq (f_fieldAddr rfl kf65_21 rfl (lt rfl)) rfl rfl ?_
  refine sq (f_load kd54 rfl rfl (lt rfl)) rfl rfl ?_
  refine sq (f_lenList rfl rfl un54 (lt rfl)) rfl rfl ?_
  refine sq (f_bin rfl rfl (bT (decide_eq_false (by simp))) (lt rfl)) rfl rfl ?_
  refine hits_nil ?_
  refine to_next ?_
  refine hits_cond rfl (fun c0 => absurd c0 Bool.false_ne_true) (fun c0 => ?_)
  refine hits_exit ?_
  refine to_exit ?_
  refine to_exit ?_
  refine in_hit rfl ?_
  exact hits_done (.inr rfl) rfl rfl rfl

set_option maxRecDepth 100000 in
theorem growNode_no : CallsP Tryz.prog Lw 84 [.eptr [.any, .any, .any, .any, .any, .any, .any, .any, .any, .any, .any, .any, .any, .any, .any, .any, .any, .any, .any, .any, .any, .list 3 []]] (.tup []) := by
  refine callsP_of gs_lw Tryz.func84 rfl Tryz.ntmps84 rfl fun w0 S0 stab => ?_
  refine hits_seq ?_
  refine hits_region ?_
  refine sq (f_assign rfl (lt rfl)) rfl rfl ?_
  refine hits_nil ?_
  refine to_next ?_
  refine hits_block ?_
  refine hits_once ?_
  refine hits_seq ?_
  refine hits_seq ?_
  refine hits_region ?_
  refine sq (f_move rfl (lt rfl)) rfl rfl ?_
  refine sq (f_move rfl (lt rfl)) rfl rfl ?_
  refine sq (f_nil rfl rfl (lt rfl)) rfl rfl ?_
  refine sq (f_fieldAddr rfl kf65_21 rfl (lt rfl)) rfl rfl ?_
  refine sq (f_load kd54 rfl rfl (lt rfl)) rfl rfl ?_
  refine sq (f_lenList rfl rfl un54 (lt rfl)) rfl rfl ?_
  refine sq (f_bin rfl rfl (bT (decide_eq_false (by simp))) (lt rfl)) rfl rfl ?_
  refine hits_nil ?_
  refine to_next ?_
  refine hits_cond rfl (fun c0 => absurd c0 Bool.false_ne_true) (fun c0 => ?_)
  refine hits_exit ?_
  refine to_exit ?_
  refine to_exit ?_
  refine in_hit rfl ?_
  exact hits_done (.inr rfl) rfl rfl rfl

set_option maxRecDepth 100000 in
theorem lookNode_no : CallsP Tryz.prog Lw 114 [.eptr [.any, .any, .any, .any, .any, .any, .any, .any, .any, .any, .any, .any, .any, .any, .any, .any, .any, .any, .any, .any, .any, .list 3 []]] (.sc (.bool true)) := by
  refine callsP_of gs_lw Tryz.func114 rfl Tryz.ntmps114 rfl fun w0 S0 stab => ?_
  refine hits_seq ?_
  refine hits_region ?_
  refine sq (f_assign rfl (lt rfl)) rfl rfl ?_
  refine hits_nil ?_
  refine to_next ?_
  refine hits_seq ?_
  refine hits_seq ?_
  refine hits_region ?_
  refine sq (f_assign rfl (lt rfl)) rfl rfl ?_
  refine hits_nil ?_
  refine to_next ?_
  refine hits_block ?_
  refine hits_once ?_
  refine hits_seq ?_
  refine hits_seq ?_
  refine hits_region ?_
  refine sq (f_move rfl (lt rfl)) rfl rfl ?_
  refine sq (f_move rfl (lt rfl)) rfl rfl ?_
  refine sq (f_nil rfl rfl (lt rfl)) rfl rfl ?_
  refine sq (f_fieldAddr rfl kf65_21 rfl (lt rfl)) rfl rfl ?_
  refine sq (f_load kd54 rfl rfl (lt rfl)) rfl rfl ?_
  refine sq (f_lenList rfl rfl un54 (lt rfl)) rfl rfl ?_
  refine sq (f_bin rfl rfl (bT (decide_eq_false (by simp))) (lt rfl)) rfl rfl ?_
  refine hits_nil ?_
  refine to_next ?_
  refine hits_cond rfl (fun c0 => absurd c0 Bool.false_ne_true) (fun c0 => ?_)
  refine hits_exit ?_
  refine to_exit ?_
  refine to_exit ?_
  refine in_hit rfl ?_
  refine to_next ?_
  refine hits_seq ?_
  refine hits_region ?_
  refine sq (f_assign rfl (lt rfl)) rfl rfl ?_
  refine hits_nil ?_
  refine to_next ?_
  refine hits_ret ?_
  exact hits_done (.inl rfl) rfl rfl rfl

set_option maxRecDepth 100000 in
theorem fillAct_no : CallsP Tryz.prog Lw 55 [.eptr [.any, .any, .any, .any, .any, .any, .any, .any, .any, .any, .any, .any, .any, .any, .any, .any, .any, .any, .any, .any, .any, .any, .list 3 []]] (.tup []) := by
  refine callsP_of gs_lw Tryz.func55 rfl Tryz.ntmps55 rfl fun w0 S0 stab => ?_
  refine hits_seq ?_
  refine hits_region ?_
  refine sq (f_assign rfl (lt rfl)) rfl rfl ?_
  refine hits_nil ?_
  refine to_next ?_
  refine hits_block ?_
  refine hits_once ?_
  refine hits_seq ?_
  refine hits_seq ?_
  refine hits_region ?_
  refine sq (f_move rfl (lt rfl)) rfl rfl ?_
  refine sq (f_move rfl (lt rfl)) rfl rfl ?_
  refine sq (f_nil rfl rfl (lt rfl)) rfl rfl ?_
  refine sq (f_fieldAddr rfl kf65_22 rfl (lt rfl)) rfl rfl ?_
  refine sq (f_load kd55 rfl rfl (lt rfl)) rfl rfl ?_
  refine sq (f_lenList rfl rfl un55 (lt rfl)) rfl rfl ?_
  refine sq (f_bin rfl rfl (bT (decide_eq_false (by simp))) (lt rfl)) rfl rfl ?_
  refine hits_nil ?_
  refine to_next ?_
  refine hits_cond rfl (fun c0 => absurd c0 Bool.false_ne_true) (fun c0 => ?_)
  refine hits_exit ?_
  refine to_exit ?_
  refine to_exit ?_
  refine in_hit rfl ?_
  exact hits_done (.inr rfl) rfl rfl rfl

set_option maxRecDepth 100000 in
theorem growAct_no : CallsP Tryz.prog Lw 85 [.eptr [.any, .any, .any, .any, .any, .any, .any, .any, .any, .any, .any, .any, .any, .any, .any, .any, .any, .any, .any, .any, .any, .any, .list 3 []]] (.tup []) := by
  refine callsP_of gs_lw Tryz.func85 rfl Tryz.ntmps85 rfl fun w0 S0 stab => ?_
  refine hits_seq ?_
  refine hits_region ?_
  refine sq (f_assign rfl (lt rfl)) rfl rfl ?_
  refine hits_nil ?_
  refine to_next ?_
  refine hits_block ?_
  refine hits_once ?_
  refine hits_seq ?_
  refine hits_seq ?_
  refine hits_region ?_
  refine sq (f_move rfl (lt rfl)) rfl rfl ?_
  refine sq (f_move rfl (lt rfl)) rfl rfl ?_
  refine sq (f_nil rfl rfl (lt rfl)) rfl rfl ?_
  refine sq (f_fieldAddr rfl kf65_22 rfl (lt rfl)) rfl rfl ?_
  refine sq (f_load kd55 rfl rfl (lt rfl)) rfl rfl ?_
  refine sq (f_lenList rfl rfl un55 (lt rfl)) rfl rfl ?_
  refine sq (f_bin rfl rfl (bT (decide_eq_false (by simp))) (lt rfl)) rfl rfl ?_
  refine hits_nil ?_
  refine to_next ?_
  refine hits_cond rfl (fun c0 => absurd c0 Bool.false_ne_true) (fun c0 => ?_)
  refine hits_exit ?_
  refine to_exit ?_
  refine to_exit ?_
  refine in_hit rfl ?_
  exact hits_done (.inr rfl) rfl rfl rfl

set_option maxRecDepth 100000 in
theorem lookAct_no : CallsP Tryz.prog Lw 115 [.eptr [.any, .any, .any, .any, .any, .any, .any, .any, .any, .any, .any, .any, .any, .any, .any, .any, .any, .any, .any, .any, .any, .any, .list 3 []]] (.sc (.bool true)) := by
  refine callsP_of gs_lw Tryz.func115 rfl Tryz.ntmps115 rfl fun w0 S0 stab => ?_
  refine hits_seq ?_
  refine hits_region ?_
  refine sq (f_assign rfl (lt rfl)) rfl rfl ?_
  refine hits_nil ?_
  refine to_next ?_
  refine hits_seq ?_
  refine hits_seq ?_
  refine hits_region ?_
  refine sq (f_assign rfl (lt rfl)) rfl rfl ?_
  refine hits_nil ?_
  refine to_next ?_
  refine hits_block ?_
  refine hits_once ?_
  refine hits_seq ?_
  refine hits_seq ?_
  refine hits_region ?_
  refine sq (f_move rfl (lt rfl)) rfl rfl ?_
  refine sq (f_move rfl (lt rfl)) rfl rfl ?_
  refine sq (f_nil rfl rfl (lt rfl)) rfl rfl ?_
  refine sq (f_fieldAddr rfl kf65_22 rfl (lt rfl)) rfl rfl ?_
  refine sq (f_load kd55 rfl rfl (lt rfl)) rfl rfl ?_
  refine sq (f_lenList rfl rfl un55 (lt rfl)) rfl rfl ?_
  refine sq (f_bin rfl rfl (bT (decide_eq_false (by simp))) (lt rfl)) rfl rfl ?_
  refine hits_nil ?_
  refine to_next ?_
  refine hits_cond rfl (fun c0 => absurd c0 Bool.false_ne_true) (fun c0 => ?_)
  refine hits_exit ?_
  refine to_exit ?_
  refine to_exit ?_
  refine in_hit rfl ?_
  refine to_next ?_
  refine hits_seq ?_
  refine hits_region ?_
  refine sq (f_assign rfl (lt rfl)) rfl rfl ?_
  refine hits_nil ?_
  refine to_next ?_
  refine hits_ret ?_
  exact hits_done (.inl rfl) rfl rfl rfl

set_option maxRecDepth 100000 in
theorem fillTable_no : CallsP Tryz.prog Lw 56 [.eptr [.any, .any, .any, .any, .any, .any, .any, .any, .any, .any, .any, .any, .any, .any, .any, .any, .any, .any, .any, .any, .any, .any, .any, .list 3 []]] (.tup []) := by
  refine callsP_of gs_lw Tryz.func56 rfl Tryz.ntmps56 rfl fun w0 S0 stab => ?_
  refine hits_seq ?_
  refine hits_region ?_
  refine sq (f_assign rfl (lt rfl)) rfl rfl ?_
  refine hits_nil ?_
  refine to_next ?_
  refine hits_block ?_
  refine hits_once ?_
  refine hits_seq ?_
  refine hits_seq ?_
  refine hits_region ?_
  refine sq (f_move rfl (lt rfl)) rfl rfl ?_
  refine sq (f_move rfl (lt rfl)) rfl rfl ?_
  refine sq (f_nil rfl rfl (lt rfl)) rfl rfl ?_
  refine sq (f_fieldAddr rfl kf65_23 rfl (lt rfl)) rfl rfl ?_
  refine sq (f_load kd56 rfl rfl (lt rfl)) rfl rfl ?_
  refine sq (f_lenList rfl rfl un56 (lt rfl)) rfl rfl ?_
  refine sq (f_bin rfl rfl (bT (decide_eq_false (by simp))) (lt rfl)) rfl rfl ?_
  refine hits_nil ?_
  refine to_next ?_
  refine hits_cond rfl (fun c0 => absurd c0 Bool.false_ne_true) (fun c0 => ?_)
  refine hits_exit ?_
  refine to_exit ?_
  refine to_exit ?_
  refine in_hit rfl ?_
  exact hits_done (.inr rfl) rfl rfl rfl

set_option maxRecDepth 100000 in
theorem growTable_no : CallsP Tryz.prog Lw 86 [.eptr [.any, .any, .any, .any, .any, .any, .any, .any, .any, .any, .any, .any, .any, .any, .any, .any, .any, .any, .any, .any, .any, .any, .any, .list 3 []]] (.tup []) := by
  refine callsP_of gs_lw Tryz.func86 rfl Tryz.ntmps86 rfl fun w0 S0 stab => ?_
  refine hits_seq ?_
  refine hits_region ?_
  refine sq (f_assign rfl (lt rfl)) rfl rfl ?_
  refine hits_nil ?_
  refine to_next ?_
  refine hits_block ?_
  refine hits_once ?_
  refine hits_seq ?_
  refine hits_seq ?_
  refine hits_region ?_
  refine sq (f_move rfl (lt rfl)) rfl rfl ?_
  refine sq (f_move rfl (lt rfl)) rfl rfl ?_
  refine sq (f_nil rfl rfl (lt rfl)) rfl rfl ?_
  refine sq (f_fieldAddr rfl kf65_23 rfl (lt rfl)) rfl rfl ?_
  refine sq (f_load kd56 rfl rfl (lt rfl)) rfl rfl ?_
  refine sq (f_lenList rfl rfl un56 (lt rfl)) rfl rfl ?_
  refine sq (f_bin rfl rfl (bT (decide_eq_false (by simp))) (lt rfl)) rfl rfl ?_
  refine hits_nil ?_
  refine to_next ?_
  refine hits_cond rfl (fun c0 => absurd c0 Bool.false_ne_true) (fun c0 => ?_)
  refine hits_exit ?_
  refine to_exit ?_
  refine to_exit ?_
  refine in_hit rfl ?_
  exact hits_done (.inr rfl) rfl rfl rfl

set_option maxRecDepth 100000 in
theorem lookTable_no : CallsP Tryz.prog Lw 116 [.eptr [.any, .any, .any, .any, .any, .any, .any, .any, .any, .any, .any, .any, .any, .any, .any, .any, .any, .any, .any, .any, .any, .any, .any, .list 3 []]] (.sc (.bool true)) := by
  refine callsP_of gs_lw Tryz.func116 rfl Tryz.ntmps116 rfl fun w0 S0 stab => ?_
  refine hits_seq ?_
  refine hits_region ?_
  refine sq (f_assign rfl (lt rfl)) rfl rfl ?_
  refine hits_nil ?_
  refine to_next ?_
  refine hits_seq ?_
  refine hits_seq ?_
  refine hits_region ?_
  refine sq (f_assign rfl (lt rfl)) rfl rfl ?_
  refine hits_nil ?_
  refine to_next ?_
  refine hits_block ?_
  refine hits_once ?_
  refine hits_seq ?_
  refine hits_seq ?_
  refine hits_region ?_
  refine sq (f_move rfl (lt rfl)) rfl rfl ?_
  refine sq (f_move rfl (lt rfl)) rfl rfl ?_
  refine sq (f_nil rfl rfl (lt rfl)) rfl rfl ?_
  refine sq (f_fieldAddr rfl kf65_23 rfl (lt rfl)) rfl rfl ?_
  refine sq (f_load kd56 rfl rfl (lt rfl)) rfl rfl ?_
  refine sq (f_lenList rfl rfl un56 (lt rfl)) rfl rfl ?_
  refine sq (f_bin rfl rfl (bT (decide_eq_false (by simp))) (lt rfl)) rfl rfl ?_
  refine hits_nil ?_
  refine to_next ?_
  refine hits_cond rfl (fun c0 => absurd c0 Bool.false_ne_true) (fun c0 => ?_)
  refine hits_exit ?_
  refine to_exit ?_
  refine to_exit ?_
  refine in_hit rfl ?_
  refine to_next ?_
  refine hits_seq ?_
  refine hits_region ?_
  refine sq (f_assign rfl (lt rfl)) rfl rfl ?_
  refine hits_nil ?_
  refine to_next ?_
  refine hits_ret ?_
  exact hits_done (.inl rfl) rfl rfl rfl

set_option maxRecDepth 100000 in
theorem fillIns_no : CallsP Tryz.prog Lw 57 [.eptr [.any, .any, .any, .any, .any, .any, .any, .any, .any, .any, .any, .any, .any, .any, .any, .any, .any, .any, .any, .any, .any, .any, .any, .any, .list 3 []]] (.tup []) := by
  refine callsP_of gs_lw Tryz.func57 rfl Tryz.ntmps57 rfl fun w0 S0 stab => ?_
  refine hits_seq ?_
  refine hits_region ?_
  refine sq (f_assign rfl (lt rfl)) rfl rfl ?_
  refine hits_nil ?_
  refine to_next ?_
  refine hits_block ?_
  refine hits_once ?_
  refine hits_seq ?_
  refine hits_seq ?_
  refine hits_region ?_
  refine sq (f_move rfl (lt rfl)) rfl rfl ?_
  refine sq (f_move rfl (lt rfl)) rfl rfl ?_
  refine sq (f_nil rfl rfl (lt rfl)) rfl rfl ?_
  refine sq (f_fieldAddr rfl kf65_24 rfl (lt rfl)) rfl rfl ?_
  refine sq (f_load kd57 rfl rfl (lt rfl)) rfl rfl ?_
  refine sq (f_lenList rfl rfl un57 (lt rfl)) rfl rfl ?_
  refine sq (f_bin rfl rfl (bT (decide_eq_false (by simp))) (lt rfl)) rfl rfl ?_
  refine hits_nil ?_
  refine to_next ?_
  refine hits_cond rfl (fun c0 => absurd c0 Bool.false_ne_true) (fun c0 => ?_)
  refine hits_exit ?_
  refine to_exit ?_
  refine to_exit ?_
  refine in_hit rfl ?_
  exact hits_done (.inr rfl) rfl rfl rfl

set_option maxRecDepth 100000 in
theorem growIns_no : CallsP Tryz.prog Lw 87 [.eptr [.any, .any, .any, .any, .any, .any, .any, .any, .any, .any, .any, .any, .any, .any, .any, .any, .any, .any, .any, .any, .any, .any, .any, .any, .list 3 []]] (.tup []) := by
  refine callsP_of gs_lw Tryz.func87 rfl Tryz.ntmps87 rfl fun w0 S0 stab => ?_
  refine hits_seq ?_
  refine hits_region ?_
  refine sq (f_assign rfl (lt rfl)) rfl rfl ?_
  refine hits_nil ?_
  refine to_next ?_
  refine hits_block ?_
  refine hits_once ?_
  refine hits_seq ?_
  refine hits_seq ?_
  refine hits_region ?_
  refine sq (f_move rfl (lt rfl)) rfl rfl ?_
  refine sq (f_move rfl (lt rfl)) rfl rfl ?_
  refine sq (f_nil rfl rfl (lt rfl)) rfl rfl ?_
  refine sq (f_fieldAddr rfl kf65_24 rfl (lt rfl)) rfl rfl ?_
  refine sq (f_load kd57 rfl rfl (lt rfl)) rfl rfl ?_
  refine sq (f_lenList rfl rfl un57 (lt rfl)) rfl rfl ?_
  refine sq (f_bin rfl rfl (bT (decide_eq_false (by simp))) (lt rfl)) rfl rfl ?_
  refine hits_nil ?_
  refine to_next ?_
  refine hits_cond rfl (fun c0 => absurd c0 Bool.false_ne_true) (fun c0 => ?_)
  refine hits_exit ?_
  refine to_exit ?_
  refine to_exit ?_
  refine in_hit rfl ?_
  exact hits_done (.inr rfl) rfl rfl rfl

set_option maxRecDepth 100000 in
theorem lookIns_no : CallsP Tryz.prog Lw 117 [.eptr [.any, .any, .any, .any, .any, .any, .any, .any, .any, .any, .any, .any, .any, .any, .any, .any, .any, .any, .any, .any, .any, .any, .any, .any, .list 3 []]] (.sc (.bool true)) := by
  refine callsP_of gs_lw Tryz.func117 rfl Tryz.ntmps117 rfl fun w0 S0 stab => ?_
  refine hits_seq ?_
  refine hits_region ?_
  refine sq (f_assign rfl (lt rfl)) rfl rfl ?_
  refine hits_nil ?_
  refine to_next ?_
  refine hits_seq ?_
  refine hits_seq ?_
  refine hits_region ?_
  refine sq (f_assign rfl (lt rfl)) rfl rfl ?_
  refine hits_nil ?_
  refine to_next ?_
  refine hits_block ?_
  refine hits_once ?_
  refine hits_seq ?_
  refine hits_seq ?_
  refine hits_region ?_
  refine sq (f_move rfl (lt rfl)) rfl rfl ?_
  refine sq (f_move rfl (lt rfl)) rfl rfl ?_
  refine sq (f_nil rfl rfl (lt rfl)) rfl rfl ?_
  refine sq (f_fieldAddr rfl kf65_24 rfl (lt rfl)) rfl rfl ?_
  refine sq (f_load kd57 rfl rfl (lt rfl)) rfl rfl ?_
  refine sq (f_lenList rfl rfl un57 (lt rfl)) rfl rfl ?_
  refine sq (f_bin rfl rfl (bT (decide_eq_false (by simp))) (lt rfl)) rfl rfl ?_
  refine hits_nil ?_
  refine to_next ?_
  refine hits_cond rfl (fun c0 => absurd c0 Bool.false_ne_true) (fun c0 => ?_)
  refine hits_exit ?_
  refine to_exit ?_
  refine to_exit ?_
  refine in_hit rfl ?_
  refine to_next ?_
  refine hits_seq ?_
  refine hits_region ?_
  refine sq (f_assign rfl (lt rfl)) rfl rfl ?_
  refine hits_nil ?_
  refine to_next ?_
  refine hits_ret ?_
  exact hits_done (.inl rfl) rfl rfl rfl

set_option maxRecDepth 100000 in
theorem fillEffect_no : CallsP Tryz.prog Lw 58 [.eptr [.any, .any, .any, .any, .any, .any, .any, .any, .any, .any, .any, .any, .any, .any, .any, .any, .any, .any, .any, .any, .any, .any, .any, .any, .any, .list 3 []]] (.tup []) := by
  refine callsP_of gs_lw Tryz.func58 rfl Tryz.ntmps58 rfl fun w0 S0 stab => ?_
  refine hits_seq ?_
  refine hits_region ?_
  refine sq (f_assign rfl (lt rfl)) rfl rfl ?_
  refine hits_nil ?_
  refine to_next ?_
  refine hits_block ?_
  refine hits_once ?_
  refine hits_seq ?_
  refine hits_seq ?_
  refine hits_region ?_
  refine sq (f_move rfl (lt rfl)) rfl rfl ?_
  refine sq (f_move rfl (lt rfl)) rfl rfl ?_
  refine sq (f_nil rfl rfl (lt rfl)) rfl rfl ?_
  refine sq (f_fieldAddr rfl kf65_25 rfl (lt rfl)) rfl rfl ?_
  refine sq (f_load kd58 rfl rfl (lt rfl)) rfl rfl ?_
  refine sq (f_lenList rfl rfl un58 (lt rfl)) rfl rfl ?_
  refine sq (f_bin rfl rfl (bT (decide_eq_false (by simp))) (lt rfl)) rfl rfl ?_
  refine hits_nil ?_
  refine to_next ?_
  refine hits_cond rfl (fun c0 => absurd c0 Bool.false_ne_true) (fun c0 => ?_)
  refine hits_exit ?_
  refine to_exit ?_
  refine to_exit ?_
  refine in_hit rfl ?_
  exact hits_done (.inr rfl) rfl rfl rfl

set_option maxRecDepth 100000 in
theorem growEffect_no : CallsP Tryz.prog Lw 88 [.eptr [.any, .any, .any, .any, .any, .any, .any, .any, .any, .any, .any, .any, .any, .any, .any, .any, .any, .any, .any, .any, .any, .any, .any, .any, .any, .list 3 []]] (.tup []) := by
  refine callsP_of gs_lw Tryz.func88 rfl Tryz.ntmps88 rfl fun w0 S0 stab => ?_
  refine hits_seq ?_
  refine hits_region ?_
  refine sq (f_assign rfl (lt rfl)) rfl rfl ?_
  refine hits_nil ?_
  refine to_next ?_
  refine hits_block ?_
  refine hits_once ?_
  refine hits_seq ?_
  refine hits_seq ?_
  refine hits_region ?_
  refine sq (f_move rfl (lt rfl)) rfl rfl ?_
  refine sq (f_move rfl (lt rfl)) rfl rfl ?_
  refine sq (f_nil rfl rfl (lt rfl)) rfl rfl ?_
  refine sq (f_fieldAddr rfl kf65_25 rfl (lt rfl)) rfl rfl ?_
  refine sq (f_load kd58 rfl rfl (lt rfl)) rfl rfl ?_
  refine sq (f_lenList rfl rfl un58 (lt rfl)) rfl rfl ?_
  refine sq (f_bin rfl rfl (bT (decide_eq_false (by simp))) (lt rfl)) rfl rfl ?_
  refine hits_nil ?_
  refine to_next ?_
  refine hits_cond rfl (fun c0 => absurd c0 Bool.false_ne_true) (fun c0 => ?_)
  refine hits_exit ?_
  refine to_exit ?_
  refine to_exit ?_
  refine in_hit rfl ?_
  exact hits_done (.inr rfl) rfl rfl rfl

set_option maxRecDepth 100000 in
theorem lookEffect_no : CallsP Tryz.prog Lw 118 [.eptr [.any, .any, .any, .any, .any, .any, .any, .any, .any, .any, .any, .any, .any, .any, .any, .any, .any, .any, .any, .any, .any, .any, .any, .any, .any, .list 3 []]] (.sc (.bool true)) := by
  refine callsP_of gs_lw Tryz.func118 rfl Tryz.ntmps118 rfl fun w0 S0 stab => ?_
  refine hits_seq ?_
  refine hits_region ?_
  refine sq (f_assign rfl (lt rfl)) rfl rfl ?_
  refine hits_nil ?_
  refine to_next ?_
  refine hits_seq ?_
  refine hits_seq ?_
  refine hits_region ?_
  refine sq (f_assign rfl (lt rfl)) rfl rfl ?_
  refine hits_nil ?_
  refine to_next ?_
  refine hits_block ?_
  refine hits_once ?_
  refine hits_seq ?_
  refine hits_seq ?_
  refine hits_region ?_
  refine sq (f_move rfl (lt rfl)) rfl rfl ?_
  refine sq (f_move rfl (lt rfl)) rfl rfl ?_
  refine sq (f_nil rfl rfl (lt rfl)) rfl rfl ?_
  refine sq (f_fieldAddr rfl kf65_25 rfl (lt rfl)) rfl rfl ?_
  refine sq (f_load kd58 rfl rfl (lt rfl)) rfl rfl ?_
  refine sq (f_lenList rfl rfl un58 (lt rfl)) rfl rfl ?_
  refine sq (f_bin rfl rfl (bT (decide_eq_false (by simp))) (lt rfl)) rfl rfl ?_
  refine hits_nil ?_
  refine to_next ?_
  refine hits_cond rfl (fun c0 => absurd c0 Bool.false_ne_true) (fun c0 => ?_)
  refine hits_exit ?_
  refine to_exit ?_
  refine to_exit ?_
  refine in_hit rfl ?_
  refine to_next ?_
  refine hits_seq ?_
  refine hits_region ?_
  refine sq (f_assign rfl (lt rfl)) rfl rfl ?_
  refine hits_nil ?_
  refine to_next ?_
  refine hits_ret ?_
  exact hits_done (.inl rfl) rfl rfl rfl

set_option maxRecDepth 100000 in
theorem fillUpdate_no : CallsP Tryz.prog Lw 59 [.eptr [.any, .any, .any, .any, .any, .any, .any, .any, .any, .any, .any, .any, .any, .any, .any, .any, .any, .any, .any, .any, .any, .any, .any, .any, .any, .any, .list 3 []]] (.tup []) := by
  refine callsP_of gs_lw Tryz.func59 rfl Tryz.ntmps59 rfl fun w0 S0 stab => ?_
  refine hits_seq ?_
  refine hits_region ?_
  refine sq (f_assign rfl (lt rfl)) rfl rfl ?_
  refine hits_nil ?_
  refine to_next ?_
  refine hits_block ?_
  refine hits_once ?_
  refine hits_seq ?_
  refine hits_seq ?_
  refine hits_region ?_
  refine sq (f_move rfl (lt rfl)) rfl rfl ?_
  refine sq (f_move rfl (lt rfl)) rfl rfl ?_
  refine sq (f_nil rfl rfl (lt rfl)) rfl rfl ?_
  refine sq (f_fieldAddr rfl kf65_26 rfl (lt rfl)) rfl rfl ?_
  refine sq (f_load kd59 rfl rfl (lt rfl)) rfl rfl ?_
  refine sq (f_lenList rfl rfl un59 (lt rfl)) rfl rfl ?_
  refine sq (f_bin rfl rfl (bT (decide_eq_false (by simp))) (lt rfl)) rfl rfl ?_
  refine hits_nil ?_
  refine to_next ?_
  refine hits_cond rfl (fun c0 => absurd c0 Bool.false_ne_true) (fun c0 => ?_)
  refine hits_exit ?_
  refine to_exit ?_
  refine to_exit ?_
  refine in_hit rfl ?_
  exact hits_done (.inr rfl) rfl rfl rfl

set_option maxRecDepth 100000 in
theorem growUpdate_no : CallsP Tryz.prog Lw 89 [.eptr [.any, .any, .any, .any, .any, .any, .any, .any, .any, .any, .any, .any, .any, .any, .any, .any, .any, .any, .any, .any, .any, .any, .any, .any, .any, .any, .list 3 []]] (.tup []) := by
  refine callsP_of gs_lw Tryz.func89 rfl Tryz.ntmps89 rfl fun w0 S0 stab => ?_
  refine hits_seq ?_
  refine hits_region ?_
  refine sq (f_assign rfl (lt rfl)) rfl rfl ?_
  refine hits_nil ?_
  refine to_next ?_
  refine hits_block ?_
  refine hits_once ?_
  refine hits_seq ?_
  refine hits_seq ?_
  refine hits_region ?_
  refine sq (f_move rfl (lt rfl)) rfl rfl ?_
  refine sq (f_move rfl (lt rfl)) rfl rfl ?_
  refine sq (f_nil rfl rfl (lt rfl)) rfl rfl ?_
  refine sq (f_fieldAddr rfl kf65_26 rfl (lt rfl)) rfl rfl ?_
  refine sq (f_load kd59 rfl rfl (lt rfl)) rfl rfl ?_
  refine sq (f_lenList rfl rfl un59 (lt rfl)) rfl rfl ?_
  refine sq (f_bin rfl rfl (bT (decide_eq_false (by simp))) (lt rfl)) rfl rfl ?_
  refine hits_nil ?_
  refine to_next ?_
  refine hits_cond rfl (fun c0 => absurd c0 Bool.false_ne_true) (fun c0 => ?_)
  refine hits_exit ?_
  refine to_exit ?_
  refine to_exit ?_
  refine in_hit rfl ?_
  exact hits_done (.inr rfl) rfl rfl rfl

set_option maxRecDepth 100000 in
theorem lookUpdate_no : CallsP Tryz.prog Lw 119 [.eptr [.any, .any, .any, .any, .any, .any, .any, .any, .any, .any, .any, .any, .any, .any, .any, .any, .any, .any, .any, .any, .any, .any, .any, .any, .any, .any, .list 3 []]] (.sc (.bool true)) := by
  refine callsP_of gs_lw Tryz.func119 rfl Tryz.ntmps119 rfl fun w0 S0 stab => ?_
  refine hits_seq ?_
  refine hits_region ?_
  refine sq (f_assign rfl (lt rfl)) rfl rfl ?_
  refine hits_nil ?_
  refine to_next ?_
  refine hits_seq ?_
  refine hits_seq ?_
  refine hits_region ?_
  refine sq (f_assign rfl (lt rfl)) rfl rfl ?_
  refine hits_nil ?_
  refine to_next ?_
  refine hits_block ?_
  refine hits_once ?_
  refine hits_seq ?_
  refine hits_seq ?_
  refine hits_region ?_
  refine sq (f_move rfl (lt rfl)) rfl rfl ?_
  refine sq (f_move rfl (lt rfl)) rfl rfl ?_
  refine sq (f_nil rfl rfl (lt rfl)) rfl rfl ?_
  refine sq (f_fieldAddr rfl kf65_26 rfl (lt rfl)) rfl rfl ?_
  refine sq (f_load kd59 rfl rfl (lt rfl)) rfl rfl ?_
  refine sq (f_lenList rfl rfl un59 (lt rfl)) rfl rfl ?_
  refine sq (f_bin rfl rfl (bT (decide_eq_false (by simp))) (lt rfl)) rfl rfl ?_
  refine hits_nil ?_
  refine to_next ?_
  refine hits_cond rfl (fun c0 => absurd c0 Bool.false_ne_true) (fun c0 => ?_)
  refine hits_exit ?_
  refine to_exit ?_
  refine to_exit ?_
  refine in_hit rfl ?_
  refine to_next ?_
  refine hits_seq ?_
  refine hits_region ?_
  refine sq (f_assign rfl (lt rfl)) rfl rfl ?_
  refine hits_nil ?_
  refine to_next ?_
  refine hits_ret ?_
  exact hits_done (.inl rfl) rfl rfl rfl

set_option maxRecDepth 100000 in
theorem fillEvent_no : CallsP Tryz.prog Lw 60 [.eptr [.any, .any, .any, .any, .any, .any, .any, .any, .any, .any, .any, .any, .any, .any, .any, .any, .any, .any, .any, .any, .any, .any, .any, .any, .any, .any, .any, .list 3 []]] (.tup []) := by
  refine callsP_of gs_lw Tryz.func60 rfl Tryz.ntmps60 rfl fun w0 S0 stab => ?_
  refine hits_seq ?_
  refine hits_region ?_
  refine sq (f_assign rfl (lt rfl)) rfl rfl ?_
  refine hits_nil ?_
  refine to_next ?_
  refine hits_block ?_
  refine hits_once ?_
  refine hits_seq ?_
  refine hits_seq ?_
  refine hits_region ?_
  refine sq (f_move rfl (lt rfl)) rfl rfl ?_
  refine sq (f_move rfl (lt rfl)) rfl rfl ?_
  refine sq (f_nil rfl rfl (lt rfl)) rfl rfl ?_
  refine sq (f_fieldAddr rfl kf65_27 rfl (lt rfl)) rfl rfl ?_
  refine sq (f_load kd60 rfl rfl (lt rfl)) rfl rfl ?_
  refine sq (f_lenList rfl rfl un60 (lt rfl)) rfl rfl ?_
  refine sq (f_bin rfl rfl (bT (decide_eq_false (by simp))) (lt rfl)) rfl rfl ?_
  refine hits_nil ?_
  refine to_next ?_
  refine hits_cond rfl (fun c0 => absurd c0 Bool.false_ne_true) (fun c0 => ?_)
  refine hits_exit ?_
  refine to_exit ?_
  refine to_exit ?_
  refine in_hit rfl ?_
  exact hits_done (.inr rfl) rfl rfl rfl

set_option maxRecDepth 100000 in
theorem growEvent_no : CallsP Tryz.prog Lw 90 [.eptr [.any, .any, .any, .any, .any, .any, .any, .any, .any, .any, .any, .any, .any, .any, .any, .any, .any, .any, .any, .any, .any, .any, .any, .any, .any, .any, .any, .list 3 []]] (.tup []) := by
  refine callsP_of gs_lw Tryz.func90 rfl Tryz.ntmps90 rfl fun w0 S0 stab => ?_
  refine hits_seq ?_
  refine hits_region ?_
  refine sq (f_assign rfl (lt rfl)) rfl rfl ?_
  refine hits_nil ?_
  refine to_next ?_
  refine hits_block ?_
  refine hits_once ?_
  refine hits_seq ?_
  refine hits_seq ?_
  refine hits_region ?_
  refine sq (f_move rfl (lt rfl)) rfl rfl ?_
  refine sq (f_move rfl (lt rfl)) rfl rfl ?_
  refine sq (f_nil rfl rfl (lt rfl)) rfl rfl ?_
  refine sq (f_fieldAddr rfl kf65_27 rfl (lt rfl)) rfl rfl ?_
  refine sq (f_load kd60 rfl rfl (lt rfl)) rfl rfl ?_
  refine sq (f_lenList rfl rfl un60 (lt rfl)) rfl rfl ?_
  refine sq (f_bin rfl rfl (bT (decide_eq_false (by simp))) (lt rfl)) rfl rfl ?_
  refine hits_nil ?_
  refine to_next ?_
  refine hits_cond rfl (fun c0 => absurd c0 Bool.false_ne_true) (fun c0 => ?_)
  refine hits_exit ?_
  refine to_exit ?_
  refine to_exit ?_
  refine in_hit rfl ?_
  exact hits_done (.inr rfl) rfl rfl rfl

set_option maxRecDepth 100000 in
theorem lookEvent_no : CallsP Tryz.prog Lw 120 [.eptr [.any, .any, .any, .any, .any, .any, .any, .any, .any, .any, .any, .any, .any, .any, .any, .any, .any, .any, .any, .any, .any, .any, .any, .any, .any, .any, .any, .list 3 []]] (.sc (.bool true)) := by
  refine callsP_of gs_lw Tryz.func120 rfl Tryz.ntmps120 rfl fun w0 S0 stab => ?_
  refine hits_seq ?_
  refine hits_region ?_
  refine sq (f_assign rfl (lt rfl)) rfl rfl ?_
  refine hits_nil ?_
  refine to_next ?_
  refine hits_seq ?_
  refine hits_seq ?_
  refine hits_region ?_
  refine sq (f_assign rfl (lt rfl)) rfl rfl ?_
  refine hits_nil ?_
  refine to_next ?_
  refine hits_block ?_
  refine hits_once ?_
  refine hits_seq ?_
  refine hits_seq ?_
  refine hits_region ?_
  refine sq (f_move rfl (lt rfl)) rfl rfl ?_
  refine sq (f_move rfl (lt rfl)) rfl rfl ?_
  refine sq (f_nil rfl rfl (lt rfl)) rfl rfl ?_
  refine sq (f_fieldAddr rfl kf65_27 rfl (lt rfl)) rfl rfl ?_
  refine sq (f_load kd60 rfl rfl (lt rfl)) rfl rfl ?_
  refine sq (f_lenList rfl rfl un60 (lt rfl)) rfl rfl ?_
  refine sq (f_bin rfl rfl (bT (decide_eq_false (by simp))) (lt rfl)) rfl rfl ?_
  refine hits_nil ?_
  refine to_next ?_
  refine hits_cond rfl (fun c0 => absurd c0 Bool.false_ne_true) (fun c0 => ?_)
  refine hits_exit ?_
  refine to_exit ?_
  refine to_exit ?_
  refine in_hit rfl ?_
  refine to_next ?_
  refine hits_seq ?_
  refine hits_region ?_
  refine sq (f_assign rfl (lt rfl)) rfl rfl ?_
  refine hits_nil ?_
  refine to_next ?_
  refine hits_ret ?_
  exact hits_done (.inl rfl) rfl rfl rfl

set_option maxRecDepth 100000 in
theorem fillOut_no : CallsP Tryz.prog Lw 61 [.eptr [.any, .any, .any, .any, .any, .any, .any, .any, .any, .any, .any, .any, .any, .any, .any, .any, .any, .any, .any, .any, .any, .any, .any, .any, .any, .any, .any, .any, .list 3 []]] (.tup []) := by
  refine callsP_of gs_lw Tryz.func61 rfl Tryz.ntmps61 rfl fun w0 S0 stab => ?_
  refine hits_seq ?_
  refine hits_region ?_
  refine sq (f_assign rfl (lt rfl)) rfl rfl ?_
  refine hits_nil ?_
  refine to_next ?_
  refine hits_block ?_
  refine hits_once ?_
  refine hits_seq ?_
  refine hits_seq ?_
  refine hits_region ?_
  refine sq (f_move rfl (lt rfl)) rfl rfl ?_
  refine sq (f_move rfl (lt rfl)) rfl rfl ?_
  refine sq (f_nil rfl rfl (lt rfl)) rfl rfl ?_
  refine sq (f_fieldAddr rfl kf65_28 rfl (lt rfl)) rfl rfl ?_
  refine sq (f_load kd61 rfl rfl (lt rfl)) rfl rfl ?_
  refine sq (f_lenList rfl rfl un61 (lt rfl)) rfl rfl ?_
  refine sq (f_bin rfl rfl (bT (decide_eq_false (by simp))) (lt rfl)) rfl rfl ?_
  refine hits_nil ?_
  refine to_next ?_
  refine hits_cond rfl (fun c0 => absurd c0 Bool.false_ne_true) (fun c0 => ?_)
  refine hits_exit ?_
  refine to_exit ?_
  refine to_exit ?_
  refine in_hit rfl ?_
  exact hits_done (.inr rfl) rfl rfl rfl

set_option maxRecDepth 100000 in
theorem growOut_no : CallsP Tryz.prog Lw 91 [.eptr [.any, .any, .any, .any, .any, .any, .any, .any, .any, .any, .any, .any, .any, .any, .any, .any, .any, .any, .any, .any, .any, .any, .any, .any, .any, .any, .any, .any, .list 3 []]] (.tup []) := by
  refine callsP_of gs_lw Tryz.func91 rfl Tryz.ntmps91 rfl fun w0 S0 stab => ?_
  refine hits_seq ?_
  refine hits_region ?_
  refine sq (f_assign rfl (lt rfl)) rfl rfl ?_
  refine hits_nil ?_
  refine to_next ?_
  refine hits_block ?_
  refine hits_once ?_
  refine hits_seq ?_
  refine hits_seq ?_
  refine hits_region ?_
  refine sq (f_move rfl (lt rfl)) rfl rfl ?_
  refine sq (f_move rfl (lt rfl)) rfl rfl ?_
  refine sq (f_nil rfl rfl (lt rfl)) rfl rfl ?_
  refine sq (f_fieldAddr rfl kf65_28 rfl (lt rfl)) rfl rfl ?_
  refine sq (f_load kd61 rfl rfl (lt rfl)) rfl rfl ?_
  refine sq (f_lenList rfl rfl un61 (lt rfl)) rfl rfl ?_
  refine sq (f_bin rfl rfl (bT (decide_eq_false (by simp))) (lt rfl)) rfl rfl ?_
  refine hits_nil ?_
  refine to_next ?_
  refine hits_cond rfl (fun c0 => absurd c0 Bool.false_ne_true) (fun c0 => ?_)
  refine hits_exit ?_
  refine to_exit ?_
  refine to_exit ?_
  refine in_hit rfl ?_
  exact hits_done (.inr rfl) rfl rfl rfl

set_option maxRecDepth 100000 in
theorem lookOut_no : CallsP Tryz.prog Lw 121 [.eptr [.any, .any, .any, .any, .any, .any, .any, .any, .any, .any, .any, .any, .any, .any, .any, .any, .any, .any, .any, .any, .any, .any, .any, .any, .any, .any, .any, .any, .list 3 []]] (.sc (.bool true)) := by
  refine callsP_of gs_lw Tryz.func121 rfl Tryz.ntmps121 rfl fun w0 S0 stab => ?_
  refine hits_seq ?_
  refine hits_region ?_
  refine sq (f_assign rfl (lt rfl)) rfl rfl ?_
  refine hits_nil ?_
  refine to_next ?_
  refine hits_seq ?_
  refine hits_seq ?_
  refine hits_region ?_
  refine sq (f_assign rfl (lt rfl)) rfl rfl ?_
  refine hits_nil ?_
  refine to_next ?_
  refine hits_block ?_
  refine hits_once ?_
  refine hits_seq ?_
  refine hits_seq ?_
  refine hits_region ?_
  refine sq (f_move rfl (lt rfl)) rfl rfl ?_
  refine sq (f_move rfl (lt rfl)) rfl rfl ?_
  refine sq (f_nil rfl rfl (lt rfl)) rfl rfl ?_
  refine sq (f_fieldAddr rfl kf65_28 rfl (lt rfl)) rfl rfl ?_
  refine sq (f_load kd61 rfl rfl (lt rfl)) rfl rfl ?_
  refine sq (f_lenList rfl rfl un61 (lt rfl)) rfl rfl ?_
  refine sq (f_bin rfl rfl (bT (decide_eq_false (by simp))) (lt rfl)) rfl rfl ?_
  refine hits_nil ?_
  refine to_next ?_
  refine hits_cond rfl (fun c0 => absurd c0 Bool.false_ne_true) (fun c0 => ?_)
  refine hits_exit ?_
  refine to_exit ?_
  refine to_exit ?_
  refine in_hit rfl ?_
  refine to_next ?_
  refine hits_seq ?_
  refine hits_region ?_
  refine sq (f_assign rfl (lt rfl)) rfl rfl ?_
  refine hits_nil ?_
  refine to_next ?_
  refine hits_ret ?_
  exact hits_done (.inl rfl) rfl rfl rfl

set_option maxRecDepth 100000 in
theorem fillRow_no : CallsP Tryz.prog Lw 62 [.eptr [.any, .any, .any, .any, .any, .any, .any, .any, .any, .any, .any, .any, .any, .any, .any, .any, .any, .any, .any, .any, .any, .any, .any, .any, .any, .any, .any, .any, .any, .list 3 []]] (.tup []) := by
  refine callsP_of gs_lw Tryz.func62 rfl Tryz.ntmps62 rfl fun w0 S0 stab => ?_
  refine hits_seq ?_
  refine hits_region ?_
  refine sq (f_assign rfl (lt rfl)) rfl rfl ?_
  refine hits_nil ?_
  refine to_next ?_
  refine hits_block ?_
  refine hits_once ?_
  refine hits_seq ?_
  refine hits_seq ?_
  refine hits_region ?_
  refine sq (f_move rfl (lt rfl)) rfl rfl ?_
  refine sq (f_move rfl (lt rfl)) rfl rfl ?_
  refine sq (f_nil rfl rfl (lt rfl)) rfl rfl ?_
  refine sq (f_fieldAddr rfl kf65_29 rfl (lt rfl)) rfl rfl ?_
  refine sq (f_load kd62 rfl rfl (lt rfl)) rfl rfl ?_
  refine sq (f_lenList rfl rfl un62 (lt rfl)) rfl rfl ?_
  refine sq (f_bin rfl rfl (bT (decide_eq_false (by simp))) (lt rfl)) rfl rfl ?_
  refine hits_nil ?_
  refine to_next ?_
  refine hits_cond rfl (fun c0 => absurd c0 Bool.false_ne_true) (fun c0 => ?_)
  refine hits_exit ?_
  refine to_exit ?_
  refine to_exit ?_
  refine in_hit rfl ?_
  exact hits_done (.inr rfl) rfl rfl rfl

set_option maxRecDepth 100000 in
theorem growRow_no : CallsP Tryz.prog Lw 92 [.eptr [.any, .any, .any, .any, .any, .any, .any, .any, .any, .any, .any, .any, .any, .any, .any, .any, .any, .any, .any, .any, .any, .any, .any, .any, .any, .any, .any, .any, .any, .list 3 []]] (.tup []) := by
  refine callsP_of gs_lw Tryz.func92 rfl Tryz.ntmps92 rfl fun w0 S0 stab => ?_
  refine hits_seq ?_
  refine hits_region ?_
  refine sq (f_assign rfl (lt rfl)) rfl rfl ?_
  refine hits_nil ?_
  refine to_next ?_
  refine hits_block ?_
  refine hits_once ?_
  refine hits_seq ?_
  refine hits_seq ?_
  refine hits_region ?_
  refine sq (f_move rfl (lt rfl)) rfl rfl ?_
  refine sq (f_move rfl (lt rfl)) rfl rfl ?_
  refine sq (f_nil rfl rfl (lt rfl)) rfl rfl ?_
  refine sq (f_fieldAddr rfl kf65_29 rfl (lt rfl)) rfl rfl ?_
  refine sq (f_load kd62 rfl rfl (lt rfl)) rfl rfl ?_
  refine sq (f_lenList rfl rfl un62 (lt rfl)) rfl rfl ?_
  refine sq (f_bin rfl rfl (bT (decide_eq_false (by simp))) (lt rfl)) rfl rfl ?_
  refine hits_nil ?_
  refine to_next ?_
  refine hits_cond rfl (fun c0 => absurd c0 Bool.false_ne_true) (fun c0 => ?_)
  refine hits_exit ?_
  refine to_exit ?_
  refine to_exit ?_
  refine in_hit rfl ?_
  exact hits_done (.inr rfl) rfl rfl rfl

set_option maxRecDepth 100000 in
theorem lookRow_no : CallsP Tryz.prog Lw 122 [.eptr [.any, .any, .any, .any, .any, .any, .any, .any, .any, .any, .any, .any, .any, .any, .any, .any, .any, .any, .any, .any, .any, .any, .any, .any, .any, .any, .any, .any, .any, .list 3 []]] (.sc (.bool true)) := by
  refine callsP_of gs_lw Tryz.func122 rfl Tryz.ntmps122 rfl fun w0 S0 stab => ?_
  refine hits_seq ?_
  refine hits_region ?_
  refine sq (f_assign rfl (lt rfl)) rfl rfl ?_
  refine hits_nil ?_
  refine to_next ?_
  refine hits_seq ?_
  refine hits_seq ?_
  refine hits_region ?_
  refine sq (f_assign rfl (lt rfl)) rfl rfl ?_
  refine hits_nil ?_
  refine to_next ?_
  refine hits_block ?_
  refine hits_once ?_
  refine hits_seq ?_
  refine hits_seq ?_
  refine hits_region ?_
  refine sq (f_move rfl (lt rfl)) rfl rfl ?_
  refine sq (f_move rfl (lt rfl)) rfl rfl ?_
  refine sq (f_nil rfl rfl (lt rfl)) rfl rfl ?_
  refine sq (f_fieldAddr rfl kf65_29 rfl (lt rfl)) rfl rfl ?_
  refine sq (f_load kd62 rfl rfl (lt rfl)) rfl rfl ?_
  refine sq (f_lenList rfl rfl un62 (lt rfl)) rfl rfl ?_
  refine sq (f_bin rfl rfl (bT (decide_eq_false (by simp))) (lt rfl)) rfl rfl ?_
  refine hits_nil ?_
  refine to_next ?_
  refine hits_cond rfl (fun c0 => absurd c0 Bool.false_ne_true) (fun c0 => ?_)
  refine hits_exit ?_
  refine to_exit ?_
  refine to_exit ?_
  refine in_hit rfl ?_
  refine to_next ?_
  refine hits_seq ?_
  refine hits_region ?_
  refine sq (f_assign rfl (lt rfl)) rfl rfl ?_
  refine hits_nil ?_
  refine to_next ?_
  refine hits_ret ?_
  exact hits_done (.inl rfl) rfl rfl rfl

set_option maxRecDepth 100000 in
theorem fillArray_no : CallsP Tryz.prog Lw 63 [.eptr [.any, .any, .any, .any, .any, .any, .any, .any, .any, .any, .any, .any, .any, .any, .any, .any, .any, .any, .any, .any, .any, .any, .any, .any, .any, .any, .any, .any, .any, .any, .list 3 []]] (.tup []) := by
  refine callsP_of gs_lw Tryz.func63 rfl Tryz.ntmps63 rfl fun w0 S0 stab => ?_
  refine hits_seq ?_
  refine hits_region ?_
  refine sq (f_assign rfl (lt rfl)) rfl rfl ?_
  refine hits_nil ?_
  refine to_next ?_
  refine hits_block ?_
  refine hits_once ?_
  refine hits_seq ?_
  refine hits_seq ?_
  refine hits_region ?_
  refine sq (f_move rfl (lt rfl)) rfl rfl ?_
  refine sq (f_move rfl (lt rfl)) rfl rfl ?_
  refine sq (f_nil rfl rfl (lt rfl)) rfl rfl ?_
  refine sq (f_fieldAddr rfl kf65_30 rfl (lt rfl)) rfl rfl ?_
  refine sq (f_load kd63 rfl rfl (lt rfl)) rfl rfl ?_
  refine sq (f_lenList rfl rfl un63 (lt rfl)) rfl rfl ?_
  refine sq (f_bin rfl rfl (bT (decide_eq_false (by simp))) (lt rfl)) rfl rfl ?_
  refine hits_nil ?_
  refine to_next ?_
  refine hits_cond rfl (fun c0 => absurd c0 Bool.false_ne_true) (fun c0 => ?_)
  refine hits_exit ?_
  refine to_exit ?_
  refine to_exit ?_
  refine in_hit rfl ?_
  exact hits_done (.inr rfl) rfl rfl rfl

set_option maxRecDepth 100000 in
theorem growArray_no : CallsP Tryz.prog Lw 93 [.eptr [.any, .any, .any, .any, .any, .any, .any, .any, .any, .any, .any, .any, .any, .any, .any, .any, .any, .any, .any, .any, .any, .any, .any, .any, .any, .any, .any, .any, .any, .any, .list 3 []]] (.tup []) := by
  refine callsP_of gs_lw Tryz.func93 rfl Tryz.ntmps93 rfl fun w0 S0 stab => ?_
  refine hits_seq ?_
  refine hits_region ?_
  refine sq (f_assign rfl (lt rfl)) rfl rfl ?_
  refine hits_nil ?_
  refine to_next ?_
  refine hits_block ?_
  refine hits_once ?_
  refine hits_seq ?_
  refine hits_seq ?_
  refine hits_region ?_
  refine sq (f_move rfl (lt rfl)) rfl rfl ?_
  refine sq (f_move rfl (lt rfl)) rfl rfl ?_
  refine sq (f_nil rfl rfl (lt rfl)) rfl rfl ?_
  refine sq (f_fieldAddr rfl kf65_30 rfl (lt rfl)) rfl rfl ?_
  refine sq (f_load kd63 rfl rfl (lt rfl)) rfl rfl ?_
  refine sq (f_lenList rfl rfl un63 (lt rfl)) rfl rfl ?_
  refine sq (f_bin rfl rfl (bT (decide_eq_false (by simp))) (lt rfl)) rfl rfl ?_
  refine hits_nil ?_
  refine to_next ?_
  refine hits_cond rfl (fun c0 => absurd c0 Bool.false_ne_true) (fun c0 => ?_)
  refine hits_exit ?_
  refine to_exit ?_
  refine to_exit ?_
  refine in_hit rfl ?_
  exact hits_done (.inr rfl) rfl rfl rfl

set_option maxRecDepth 100000 in
theorem lookArray_no : CallsP Tryz.prog Lw 123 [.eptr [.any, .any, .any, .any, .any, .any, .any, .any, .any, .any, .any, .any, .any, .any, .any, .any, .any, .any, .any, .any, .any, .any, .any, .any, .any, .any, .any, .any, .any, .any, .list 3 []]] (.sc (.bool true)) := by
  refine callsP_of gs_lw Tryz.func123 rfl Tryz.ntmps123 rfl fun w0 S0 stab => ?_
  refine hits_seq ?_
  refine hits_region ?_
  refine sq (f_assign rfl (lt rfl)) rfl rfl ?_
  refine hits_nil ?_
  refine to_next ?_
  refine hits_seq ?_
  refine hits_seq ?_
  refine hits_region ?_
  refine sq (f_assign rfl (lt rfl)) rfl rfl ?_
  refine hits_nil ?_
  refine to_next ?_
  refine hits_block ?_
  refine hits_once ?_
  refine hits_seq ?_
  refine hits_seq ?_
  refine hits_region ?_
  refine sq (f_move rfl (lt rfl)) rfl rfl ?_
  refine sq (f_move rfl (lt rfl)) rfl rfl ?_
  refine sq (f_nil rfl rfl (lt rfl)) rfl rfl ?_
  refine sq (f_fieldAddr rfl kf65_30 rfl (lt rfl)) rfl rfl ?_
  refine sq (f_load kd63 rfl rfl (lt rfl)) rfl rfl ?_
  refine sq (f_lenList rfl rfl un63 (lt rfl)) rfl rfl ?_
  refine sq (f_bin rfl rfl (bT (decide_eq_false (by simp))) (lt rfl)) rfl rfl ?_
  refine hits_nil ?_
  refine to_next ?_
  refine hits_cond rfl (fun c0 => absurd c0 Bool.false_ne_true) (fun c0 => ?_)
  refine hits_exit ?_
  refine to_exit ?_
  refine to_exit ?_
  refine in_hit rfl ?_
  refine to_next ?_
  refine hits_seq ?_
  refine hits_region ?_
  refine sq (f_assign rfl (lt rfl)) rfl rfl ?_
  refine hits_nil ?_
  refine to_next ?_
  refine hits_ret ?_
  exact hits_done (.inl rfl) rfl rfl rfl

set_option maxRecDepth 100000 in
theorem mark_c {n : Nat} (h : n < 8) : CallsP Tryz.prog Lw 216 [.sc (.int .i64 (n : Int))] (.sc (.string (markS n))) := by
  refine callsP_of gs_lw Tryz.func216 rfl Tryz.ntmps216 rfl fun w0 S0 stab => ?_
  refine hits_seq ?_
  refine hits_region ?_
  refine sq (f_assign rfl (lt rfl)) rfl rfl ?_
  refine hits_nil ?_
  refine to_next ?_
  refine hits_seq ?_
  refine hits_region ?_
  refine sq (f_move rfl (lt rfl)) rfl rfl ?_
  refine sq (f_call en130 rfl (itoa_c (by omega) (by omega)) (lt rfl)) rfl rfl ?_
  refine sq (f_cat rfl rfl (mark_size h) (lt rfl)) rfl rfl ?_
  refine sq (f_assign rfl (lt rfl)) rfl rfl ?_
  refine hits_nil ?_
  refine to_next ?_
  refine hits_ret ?_
  exact hits_done (.inl rfl) rfl rfl rfl

def markWord (n : Nat) : D := .agg [.sc (.int .u8 0), .sc (.string (markS n)), .sc (.int .i64 0), .sc (.int .u64 0), .sc (.int .u64 0), .sc (.int .i64 0)]
set_option maxRecDepth 100000 in
theorem markWord_c {n : Nat} (h : n < 8) : CallsP Tryz.prog Lw 139 [.sc (.int .i64 (n : Int))] (markWord n) := by
  refine callsP_of gs_lw Tryz.func139 rfl Tryz.ntmps139 rfl fun w0 S0 stab => ?_
  refine hits_seq ?_
  refine hits_region ?_
  refine sq (f_alloc zc77 (lt rfl)) rfl rfl ?_
  refine hits_nil ?_
  refine to_next ?_
  refine hits_seq ?_
  refine hits_region ?_
  refine sq (f_move rfl (lt rfl)) rfl rfl ?_
  refine sq (f_call en216 rfl (mark_c h) (lt rfl)) rfl rfl ?_
  refine sq (f_build bu77 rfl rfl (lt rfl)) rfl rfl ?_
  refine sq (f_store kd77 rfl rfl rfl rfl rfl) rfl rfl ?_
  refine hits_nil ?_
  refine to_next ?_
  refine hits_ret ?_
  exact hits_done (.inl rfl) rfl rfl rfl

set_option maxRecDepth 100000 in
theorem isWord_c {n : Nat} (h : n < 8) : CallsP Tryz.prog Lw 169 [markWord n, .sc (.int .i64 (n : Int))] (.sc (.bool true)) := by
  refine callsP_of gs_lw Tryz.func169 rfl Tryz.ntmps169 rfl fun w0 S0 stab => ?_
  refine hits_seq ?_
  refine hits_region ?_
  refine sq (f_box rfl rfl (lt rfl)) rfl rfl ?_
  refine sq (f_assign rfl (lt rfl)) rfl rfl ?_
  refine hits_nil ?_
  refine to_next ?_
  refine hits_seq ?_
  refine hits_drawn mixed ?_
  refine dq (f_fieldAddr rfl kf77_1 rfl (lt rfl)) rfl rfl ?_
  refine dq (f_load kd9 rfl rfl (lt rfl)) rfl rfl ?_
  refine dq (f_move rfl (lt rfl)) rfl rfl ?_
  refine dq (f_call en216 rfl (mark_c h) (lt rfl)) rfl rfl ?_
  refine dq (f_bin rfl rfl (bT ((beq_self_eq_true _))) (lt rfl)) rfl rfl ?_
  refine dq (f_assign rfl (lt rfl)) rfl rfl ?_
  refine dq_nil rfl ?_
  refine to_next ?_
  refine hits_ret ?_
  exact hits_done (.inl rfl) rfl rfl rfl

def heldWord (q : Nat × Nat) : D := .agg [.list 6 (List.replicate q.1 (markWord q.2)), .list 6 (List.replicate (q.1 + 40) (markWord q.2)), .sc (.int .i64 (q.2 : Int))]
theorem heldWord_at {a : List (Nat × Nat)} {i : Nat} {p : Nat × Nat} (h : a[i]? = some p) : (a.map heldWord)[((i : Int)).toNat]? = some (heldWord p) := by rw [Int.toNat_natCast, List.getElem?_map, h]; rfl
theorem repWord_at {m k n : Nat} (h : k < m) : (List.replicate m (markWord n))[((k : Int)).toNat]? = some (markWord n) := by rw [Int.toNat_natCast, List.getElem?_replicate, if_pos h]

set_option maxRecDepth 100000 in
theorem lookWord_c (hl : List (Nat × Nat)) (h8 : hl.length ≤ 8) (hq : ∀ q ∈ hl, q.1 ≤ 1000000 ∧ q.2 < 8) : CallsP Tryz.prog Lw 100 [.eptr [.any, .any, .any, .any, .any, .any, .any, .list 3 (hl.map heldWord)]] (.sc (.bool true)) := by
  have hll : (hl.map heldWord).length = hl.length := List.length_map _
  refine callsP_of gs_lw Tryz.func100 rfl Tryz.ntmps100 rfl fun w0 S0 stab => ?_
  refine hits_seq ?_
  refine hits_region ?_
  refine sq (f_assign rfl (lt rfl)) rfl rfl ?_
  refine hits_nil ?_
  refine to_next ?_
  refine hits_seq ?_
  refine hits_seq ?_
  refine hits_region ?_
  refine sq (f_assign rfl (lt rfl)) rfl rfl ?_
  refine hits_nil ?_
  refine to_next ?_
  refine hits_block ?_
  refine hits_loop (fun i : Nat => [(.slot 0, some (.d (.eptr [.any, .any, .any, .any, .any, .any, .any, .list 3 (hl.map heldWord)]))), (.slot 3, some (.d (.sc (.int .i64 (i : Int)))))]) (fun i : Nat => i ≤ hl.length) (fun i : Nat => hl.length - i) 0 (Nat.zero_le _) ⟨rfl, rfl, trivial⟩ rfl ?_
  intro i hi0
  refine hits_seq ?_
  refine hits_seq ?_
  by_cases hi : i < hl.length
  · obtain ⟨q, hx⟩ : ∃ q, hl[i]? = some q := ⟨_, List.getElem?_eq_getElem hi⟩
    obtain ⟨hm, hn⟩ := hq q (List.mem_of_getElem? hx)
    obtain ⟨m, n⟩ := q
    simp only at hm hn
    refine hits_region ?_
    refine sq (f_move rfl (lt rfl)) rfl rfl ?_
    refine sq (f_move rfl (lt rfl)) rfl rfl ?_
    refine sq (f_nil rfl rfl (lt rfl)) rfl rfl ?_
    refine sq (f_fieldAddr rfl kf65_7 rfl (lt rfl)) rfl rfl ?_
    refine sq (f_load kd40 rfl rfl (lt rfl)) rfl rfl ?_
    refine sq (f_lenList rfl rfl un40 (lt rfl)) rfl rfl ?_
    refine sq (f_bin rfl rfl (bT (decide_eq_true (by omega))) (lt rfl)) rfl rfl ?_
    refine hits_nil ?_
    refine to_next ?_
    refine hits_cond rfl (fun c0 => ?_) (fun c0 => absurd c0 Bool.false_ne_true.symm)
    refine hits_skip ?_
    refine to_next ?_
    refine hits_seq ?_
    refine hits_block ?_
    refine hits_seq ?_
    refine hits_region ?_
    refine sq (f_move rfl (lt rfl)) rfl rfl ?_
    refine sq (f_nil rfl rfl (lt rfl)) rfl rfl ?_
    refine sq (f_fieldAddr rfl kf65_7 rfl (lt rfl)) rfl rfl ?_
    refine sq (f_load kd40 rfl rfl (lt rfl)) rfl rfl ?_
    refine sq (f_move rfl (lt rfl)) rfl rfl ?_
    refine sq (f_idxList rfl rfl rfl un40 kd130 (Int.natCast_nonneg _) (heldWord_at hx) (lt rfl)) rfl rfl ?_
    refine sq (f_load kd130 rfl rfl (lt rfl)) rfl rfl ?_
    refine sq (f_alloc zc130 (lt rfl)) rfl rfl ?_
    refine sq (f_store kd130 rfl rfl rfl rfl rfl) rfl rfl ?_
    refine hits_nil ?_
    refine to_next ?_
    refine hits_seq ?_
    refine hits_seq ?_
    refine hits_region ?_
    refine sq (f_fieldAddr rfl kf130_1 rfl (lt rfl)) rfl rfl ?_
    refine sq (f_load kd69 rfl rfl (lt rfl)) rfl rfl ?_
    refine sq (f_lenList rfl rfl un69 (lt rfl)) rfl rfl ?_
    refine sq (f_fieldAddr rfl kf130_0 rfl (lt rfl)) rfl rfl ?_
    refine sq (f_load kd69 rfl rfl (lt rfl)) rfl rfl ?_
    refine sq (f_lenList rfl rfl un69 (lt rfl)) rfl rfl ?_
    refine sq (f_bin rfl rfl (iT ((by rw [List.length_replicate]; exact (IntWalk.i64_in _ (by omega)).trans (by omega) : _ = ((m + 40 : Nat) : Int)))) (lt rfl)) rfl rfl ?_
    refine sq (f_bin rfl rfl (bT ((by rw [List.length_replicate]; exact bne_self_eq_false _ : _ = false))) (lt rfl)) rfl rfl ?_
    refine hits_nil ?_
    refine to_next ?_
    refine hits_cond rfl (fun c1 => absurd c1 Bool.false_ne_true) (fun c1 => ?_)
    refine hits_skip ?_
    refine to_next ?_
    refine hits_seq ?_
    refine hits_region ?_
    refine sq (f_assign rfl (lt rfl)) rfl rfl ?_
    refine hits_nil ?_
    refine to_next ?_
    refine hits_block ?_
    refine hits_loop (fun k : Nat => [(.slot 0, some (.d (.eptr [.any, .any, .any, .any, .any, .any, .any, .list 3 (hl.map heldWord)]))), (.slot 3, some (.d (.sc (.int .i64 (i : Int))))), (.slot 4, some (.ptr 4 0)), (.box 4, some (.ptr 4 0)), (.cell 4 0, some (.d (.list 6 (List.replicate m (markWord n))))), (.cell 4 1, some (.d (.list 6 (List.replicate (m + 40) (markWord n))))), (.cell 4 2, some (.d (.sc (.int .i64 (n : Int))))), (.slot 5, some (.d (.sc (.int .i64 (k : Int)))))]) (fun k : Nat => k ≤ m + 40) (fun k : Nat => m + 40 - k) 0 (Nat.zero_le _) ⟨rfl, rfl, rfl, rfl, rfl, rfl, rfl, rfl, trivial⟩ rfl ?_
    intro k hk0
    refine hits_seq ?_
    refine hits_seq ?_
    by_cases hk : k < m + 40
    · by_cases hk2 : k < m
      · refine hits_region ?_
        refine sq (f_move rfl (lt rfl)) rfl rfl ?_
        refine sq (f_fieldAddr rfl kf130_1 rfl (lt rfl)) rfl rfl ?_
        refine sq (f_load kd69 rfl rfl (lt rfl)) rfl rfl ?_
        refine sq (f_lenList rfl rfl un69 (lt rfl)) rfl rfl ?_
        refine sq (f_bin rfl rfl (bT (decide_eq_true (by rw [List.length_replicate]; omega))) (lt rfl)) rfl rfl ?_
        refine hits_nil ?_
        refine to_next ?_
        refine hits_cond rfl (fun c2 => ?_) (fun c2 => absurd c2 Bool.false_ne_true.symm)
        refine hits_skip ?_
        refine to_next ?_
        refine hits_seq ?_
        refine hits_block ?_
        refine hits_seq ?_
        refine hits_drawn mixed ?_
        refine dq (f_fieldAddr rfl kf130_1 rfl (lt rfl)) rfl rfl ?_
        refine dq (f_load kd69 rfl rfl (lt rfl)) rfl rfl ?_
        refine dq (f_move rfl (lt rfl)) rfl rfl ?_
        refine dq (f_idxList rfl rfl rfl un69 kd77 (Int.natCast_nonneg _) (repWord_at hk) (lt rfl)) rfl rfl ?_
        refine dq (f_load kd77 rfl rfl (lt rfl)) rfl rfl ?_
        refine dq (f_fieldAddr rfl kf130_2 rfl (lt rfl)) rfl rfl ?_
        refine dq (f_load kd3 rfl rfl (lt rfl)) rfl rfl ?_
        refine dq (f_call en169 rfl (isWord_c hn) (lt rfl)) rfl rfl ?_
        refine dq (f_un rfl rfl (lt rfl)) rfl rfl ?_
        refine dq (f_move rfl (lt rfl)) rfl rfl ?_
        refine dq_yes (f_move rfl (lt rfl)) rfl rfl rfl rfl (lt rfl) ?_
        refine dq_yes (f_fieldAddr rfl kf130_0 rfl (lt rfl)) rfl rfl rfl rfl (lt rfl) ?_
        refine dq_yes (f_load kd69 rfl rfl (lt rfl)) rfl rfl rfl rfl (lt rfl) ?_
        refine dq_yes (f_lenList rfl rfl un69 (lt rfl)) rfl rfl rfl rfl (lt rfl) ?_
        refine dq_yes (f_bin rfl rfl (bT (decide_eq_true (by rw [List.length_replicate]; omega))) (lt rfl)) rfl rfl rfl rfl (lt rfl) ?_
        refine dq_yes (f_move rfl (lt rfl)) rfl rfl rfl rfl (lt rfl) ?_
        refine dq_yes (f_fieldAddr rfl kf130_0 rfl (lt rfl)) rfl rfl rfl rfl (lt rfl) ?_
        refine dq_yes (f_load kd69 rfl rfl (lt rfl)) rfl rfl rfl rfl (lt rfl) ?_
        refine dq_yes (f_move rfl (lt rfl)) rfl rfl rfl rfl (lt rfl) ?_
        refine dq_yes (f_idxList rfl rfl rfl un69 kd77 (Int.natCast_nonneg _) (repWord_at hk2) (lt rfl)) rfl rfl rfl rfl (lt rfl) ?_
        refine dq_yes (f_load kd77 rfl rfl (lt rfl)) rfl rfl rfl rfl (lt rfl) ?_
        refine dq_yes (f_fieldAddr rfl kf130_2 rfl (lt rfl)) rfl rfl rfl rfl (lt rfl) ?_
        refine dq_yes (f_load kd3 rfl rfl (lt rfl)) rfl rfl rfl rfl (lt rfl) ?_
        refine dq_yes (f_call en169 rfl (isWord_c hn) (lt rfl)) rfl rfl rfl rfl (lt rfl) ?_
        refine dq_yes (f_un rfl rfl (lt rfl)) rfl rfl rfl rfl (lt rfl) ?_
        refine dq_yes (f_pick rfl rfl (lt rfl)) rfl rfl rfl rfl (lt rfl) ?_
        refine dq (f_pick rfl rfl (lt rfl)) rfl rfl ?_
        refine dq_nil rfl ?_
        refine to_next ?_
        refine hits_cond rfl (fun c3 => absurd c3 Bool.false_ne_true) (fun c3 => ?_)
        refine hits_skip ?_
        refine in_next ?_
        refine to_next ?_
        refine hits_region ?_
        refine sq (f_move rfl (lt rfl)) rfl rfl ?_
        refine sq (f_bin rfl rfl (iT (((IntWalk.i64_in _ (by omega)).trans (by omega) : _ = ((k + 1 : Nat) : Int)))) (lt rfl)) rfl rfl ?_
        refine sq (f_assign rfl (lt rfl)) rfl rfl ?_
        refine hits_nil ?_
        refine to_next ?_
        refine round_end (k + 1) (by omega) (by omega) ⟨rfl, rfl, rfl, rfl, rfl, rfl, rfl, rfl, trivial⟩ rfl
      · refine hits_region ?_
        refine sq (f_move rfl (lt rfl)) rfl rfl ?_
        refine sq (f_fieldAddr rfl kf130_1 rfl (lt rfl)) rfl rfl ?_
        refine sq (f_load kd69 rfl rfl (lt rfl)) rfl rfl ?_
        refine sq (f_lenList rfl rfl un69 (lt rfl)) rfl rfl ?_
        refine sq (f_bin rfl rfl (bT (decide_eq_true (by rw [List.length_replicate]; omega))) (lt rfl)) rfl rfl ?_
        refine hits_nil ?_
        refine to_next ?_
        refine hits_cond rfl (fun c2 => ?_) (fun c2 => absurd c2 Bool.false_ne_true.symm)
        refine hits_skip ?_
        refine to_next ?_
        refine hits_seq ?_
        refine hits_block ?_
        refine hits_seq ?_
        refine hits_drawn mixed ?_
        refine dq (f_fieldAddr rfl kf130_1 rfl (lt rfl)) rfl rfl ?_
        refine dq (f_load kd69 rfl rfl (lt rfl)) rfl rfl ?_
        refine dq (f_move rfl (lt rfl)) rfl rfl ?_
        refine dq (f_idxList rfl rfl rfl un69 kd77 (Int.natCast_nonneg _) (repWord_at hk) (lt rfl)) rfl rfl ?_
        refine dq (f_load kd77 rfl rfl (lt rfl)) rfl rfl ?_
        refine dq (f_fieldAddr rfl kf130_2 rfl (lt rfl)) rfl rfl ?_
        refine dq (f_load kd3 rfl rfl (lt rfl)) rfl rfl ?_
        refine dq (f_call en169 rfl (isWord_c hn) (lt rfl)) rfl rfl ?_
        refine dq (f_un rfl rfl (lt rfl)) rfl rfl ?_
        refine dq (f_move rfl (lt rfl)) rfl rfl ?_
        refine dq_yes (f_move rfl (lt rfl)) rfl rfl rfl rfl (lt rfl) ?_
        refine dq_yes (f_fieldAddr rfl kf130_0 rfl (lt rfl)) rfl rfl rfl rfl (lt rfl) ?_
        refine dq_yes (f_load kd69 rfl rfl (lt rfl)) rfl rfl rfl rfl (lt rfl) ?_
        refine dq_yes (f_lenList rfl rfl un69 (lt rfl)) rfl rfl rfl rfl (lt rfl) ?_
        refine dq_yes (f_bin rfl rfl (bT (decide_eq_false (by rw [List.length_replicate]; omega))) (lt rfl)) rfl rfl rfl rfl (lt rfl) ?_
        refine dq_yes (f_move rfl (lt rfl)) rfl rfl rfl rfl (lt rfl) ?_
        refine dq_no rfl rfl rfl rfl rfl (lt rfl) (lt rfl) ?_
        refine dq_no rfl rfl rfl rfl rfl (lt rfl) (lt rfl) ?_
        refine dq_no rfl rfl rfl rfl rfl (lt rfl) (lt rfl) ?_
        refine dq_no rfl rfl rfl rfl rfl (lt rfl) (lt rfl) ?_
        refine dq_no rfl rfl rfl rfl rfl (lt rfl) (lt rfl) ?_
        refine dq_no rfl rfl rfl rfl rfl (lt rfl) (lt rfl) ?_
        refine dq_no rfl rfl rfl rfl rfl (lt rfl) (lt rfl) ?_
        refine dq_no rfl rfl rfl rfl rfl (lt rfl) (lt rfl) ?_
        refine dq_no rfl rfl rfl rfl rfl (lt rfl) (lt rfl) ?_
        refine dq_yes (f_pick rfl rfl (lt rfl)) rfl rfl rfl rfl (lt rfl) ?_
        refine dq (f_pick rfl rfl (lt rfl)) rfl rfl ?_
        refine dq_nil rfl ?_
        refine to_next ?_
        refine hits_cond rfl (fun c3 => absurd c3 Bool.false_ne_true) (fun c3 => ?_)
        refine hits_skip ?_
        refine in_next ?_
        refine to_next ?_
        refine hits_region ?_
        refine sq (f_move rfl (lt rfl)) rfl rfl ?_
        refine sq (f_bin rfl rfl (iT (((IntWalk.i64_in _ (by omega)).trans (by omega) : _ = ((k + 1 : Nat) : Int)))) (lt rfl)) rfl rfl ?_
        refine sq (f_assign rfl (lt rfl)) rfl rfl ?_
        refine hits_nil ?_
        refine to_next ?_
        refine round_end (k + 1) (by omega) (by omega) ⟨rfl, rfl, rfl, rfl, rfl, rfl, rfl, rfl, trivial⟩ rfl
    · refine hits_region ?_
      refine sq (f_move rfl (lt rfl)) rfl rfl ?_
      refine sq (f_fieldAddr rfl kf130_1 rfl (lt rfl)) rfl rfl ?_
      refine sq (f_load kd69 rfl rfl (lt rfl)) rfl rfl ?_
      refine sq (f_lenList rfl rfl un69 (lt rfl)) rfl rfl ?_
      refine sq (f_bin rfl rfl (bT (decide_eq_false (by rw [List.length_replicate]; omega))) (lt rfl)) rfl rfl ?_
      refine hits_nil ?_
      refine to_next ?_
      refine hits_cond rfl (fun c2 => absurd c2 Bool.false_ne_true) (fun c2 => ?_)
      refine hits_exit ?_
      refine to_exit ?_
      refine to_exit ?_
      refine in_hit rfl ?_
      refine in_next ?_
      refine to_next ?_
      refine hits_region ?_
      refine sq (f_move rfl (lt rfl)) rfl rfl ?_
      refine sq (f_bin rfl rfl (iT (((IntWalk.i64_in _ (by omega)).trans (by omega) : _ = ((i + 1 : Nat) : Int)))) (lt rfl)) rfl rfl ?_
      refine sq (f_assign rfl (lt rfl)) rfl rfl ?_
      refine hits_nil ?_
      refine to_next ?_
      refine round_end (i + 1) (by omega) (by omega) ⟨rfl, rfl, trivial⟩ rfl
  · refine hits_region ?_
    refine sq (f_move rfl (lt rfl)) rfl rfl ?_
    refine sq (f_move rfl (lt rfl)) rfl rfl ?_
    refine sq (f_nil rfl rfl (lt rfl)) rfl rfl ?_
    refine sq (f_fieldAddr rfl kf65_7 rfl (lt rfl)) rfl rfl ?_
    refine sq (f_load kd40 rfl rfl (lt rfl)) rfl rfl ?_
    refine sq (f_lenList rfl rfl un40 (lt rfl)) rfl rfl ?_
    refine sq (f_bin rfl rfl (bT (decide_eq_false (by omega))) (lt rfl)) rfl rfl ?_
    refine hits_nil ?_
    refine to_next ?_
    refine hits_cond rfl (fun c0 => absurd c0 Bool.false_ne_true) (fun c0 => ?_)
    refine hits_exit ?_
    refine to_exit ?_
    refine to_exit ?_
    refine in_hit rfl ?_
    refine to_next ?_
    refine hits_seq ?_
    refine hits_region ?_
    refine sq (f_assign rfl (lt rfl)) rfl rfl ?_
    refine hits_nil ?_
    refine to_next ?_
    refine hits_ret ?_
    exact hits_done (.inl rfl) rfl rfl rfl

end Go.Proofs.YtcaedggggkchiaaGreatDoor.Ln
