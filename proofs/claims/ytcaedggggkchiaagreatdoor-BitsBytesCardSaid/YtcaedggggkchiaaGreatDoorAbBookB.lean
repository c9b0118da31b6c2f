/- The Book of lists of bytes: methods that meet no list, the marks. -/
import Derived.Test.YtcaedggggkchiaaGreatDoorAbByteR
namespace Go.Proofs.YtcaedggggkchiaaGreatDoor.Ln
open Go Go.RowKit Go.Ab Go.Proofs 
set_option linter.unusedVariables false
set_option linter.unusedSimpArgs false
theorem kf65_1 : kf Tryz.prog 65 1 = some 1 := by kernel_rfl
theorem kd34 : kd Tryz.prog 34 = some (false, 1) := by kernel_rfl
theorem un34 : Tryz.prog.underlying 34 = some (.slice 110) := by kernel_rfl
theorem kf65_2 : kf Tryz.prog 65 2 = some 2 := by kernel_rfl
theorem kd35 : kd Tryz.prog 35 = some (false, 1) := by kernel_rfl
theorem un35 : Tryz.prog.underlying 35 = some (.slice 108) := by kernel_rfl
theorem kf65_3 : kf Tryz.prog 65 3 = some 3 := by kernel_rfl
theorem kd36 : kd Tryz.prog 36 = some (false, 1) := by kernel_rfl
theorem un36 : Tryz.prog.underlying 36 = some (.slice 115) := by kernel_rfl
theorem kf65_4 : kf Tryz.prog 65 4 = some 4 := by kernel_rfl
theorem kd37 : kd Tryz.prog 37 = some (false, 1) := by kernel_rfl
theorem un37 : Tryz.prog.underlying 37 = some (.slice 120) := by kernel_rfl
theorem kf65_5 : kf Tryz.prog 65 5 = some 5 := by kernel_rfl
theorem kd38 : kd Tryz.prog 38 = some (false, 1) := by kernel_rfl
theorem un38 : Tryz.prog.underlying 38 = some (.slice 123) := by kernel_rfl
theorem kf65_6 : kf Tryz.prog 65 6 = some 6 := by kernel_rfl
theorem kd39 : kd Tryz.prog 39 = some (false, 1) := by kernel_rfl
theorem un39 : Tryz.prog.underlying 39 = some (.slice 127) := by kernel_rfl
theorem kf65_7 : kf Tryz.prog 65 7 = some 7 := by kernel_rfl
theorem kd40 : kd Tryz.prog 40 = some (false, 1) := by kernel_rfl
theorem un40 : Tryz.prog.underlying 40 = some (.slice 130) := by kernel_rfl
theorem kf65_8 : kf Tryz.prog 65 8 = some 8 := by kernel_rfl
theorem kd41 : kd Tryz.prog 41 = some (false, 1) := by kernel_rfl
theorem un41 : Tryz.prog.underlying 41 = some (.slice 134) := by kernel_rfl
theorem kf65_9 : kf Tryz.prog 65 9 = some 9 := by kernel_rfl
theorem kd42 : kd Tryz.prog 42 = some (false, 1) := by kernel_rfl
theorem un42 : Tryz.prog.underlying 42 = some (.slice 140) := by kernel_rfl
theorem kf65_10 : kf Tryz.prog 65 10 = some 10 := by kernel_rfl
theorem kd43 : kd Tryz.prog 43 = some (false, 1) := by kernel_rfl
theorem un43 : Tryz.prog.underlying 43 = some (.slice 146) := by kernel_rfl
theorem kf65_11 : kf Tryz.prog 65 11 = some 11 := by kernel_rfl
theorem kd44 : kd Tryz.prog 44 = some (false, 1) := by kernel_rfl
theorem un44 : Tryz.prog.underlying 44 = some (.slice 153) := by kernel_rfl
theorem kf65_12 : kf Tryz.prog 65 12 = some 12 := by kernel_rfl
theorem kd45 : kd Tryz.prog 45 = some (false, 1) := by kernel_rfl
theorem un45 : Tryz.prog.underlying 45 = some (.slice 159) := by kernel_rfl
theorem kf65_13 : kf Tryz.prog 65 13 = some 13 := by kernel_rfl
theorem kd46 : kd Tryz.prog 46 = some (false, 1) := by kernel_rfl
theorem un46 : Tryz.prog.underlying 46 = some (.slice 165) := by kernel_rfl
theorem kf65_14 : kf Tryz.prog 65 14 = some 14 := by kernel_rfl
theorem kd47 : kd Tryz.prog 47 = some (false, 1) := by kernel_rfl
theorem un47 : Tryz.prog.underlying 47 = some (.slice 172) := by kernel_rfl
theorem kf65_15 : kf Tryz.prog 65 15 = some 15 := by kernel_rfl
theorem kd48 : kd Tryz.prog 48 = some (false, 1) := by kernel_rfl
theorem un48 : Tryz.prog.underlying 48 = some (.slice 179) := by kernel_rfl
theorem kf65_16 : kf Tryz.prog 65 16 = some 16 := by kernel_rfl
theorem kd49 : kd Tryz.prog 49 = some (false, 1) := by kernel_rfl
theorem un49 : Tryz.prog.underlying 49 = some (.slice 185) := by kernel_rfl
theorem kf65_17 : kf Tryz.prog 65 17 = some 17 := by kernel_rfl
theorem kd50 : kd Tryz.prog 50 = some (false, 1) := by kernel_rfl
theorem un50 : Tryz.prog.underlying 50 = some (.slice 191) := by kernel_rfl
theorem kf65_18 : kf Tryz.prog 65 18 = some 18 := by kernel_rfl
theorem kd51 : kd Tryz.prog 51 = some (false, 1) := by kernel_rfl
theorem un51 : Tryz.prog.underlying 51 = some (.slice 197) := by kernel_rfl
theorem kf65_19 : kf Tryz.prog 65 19 = some 19 := by kernel_rfl
theorem kd52 : kd Tryz.prog 52 = some (false, 1) := by kernel_rfl
theorem un52 : Tryz.prog.underlying 52 = some (.slice 203) := by kernel_rfl
theorem kf65_20 : kf Tryz.prog 65 20 = some 20 := by kernel_rfl
theorem kd53 : kd Tryz.prog 53 = some (false, 1) := by kernel_rfl
theorem un53 : Tryz.prog.underlying 53 = some (.slice 209) := by kernel_rfl
theorem kf65_21 : kf Tryz.prog 65 21 = some 21 := by kernel_rfl
theorem kd54 : kd Tryz.prog 54 = some (false, 1) := by kernel_rfl
theorem un54 : Tryz.prog.underlying 54 = some (.slice 215) := by kernel_rfl
theorem kf65_22 : kf Tryz.prog 65 22 = some 22 := by kernel_rfl
theorem kd55 : kd Tryz.prog 55 = some (false, 1) := by kernel_rfl
theorem un55 : Tryz.prog.underlying 55 = some (.slice 222) := by kernel_rfl
theorem kf65_23 : kf Tryz.prog 65 23 = some 23 := by kernel_rfl
theorem kd56 : kd Tryz.prog 56 = some (false, 1) := by kernel_rfl
theorem un56 : Tryz.prog.underlying 56 = some (.slice 228) := by kernel_rfl
theorem kf65_24 : kf Tryz.prog 65 24 = some 24 := by kernel_rfl
theorem kd57 : kd Tryz.prog 57 = some (false, 1) := by kernel_rfl
theorem un57 : Tryz.prog.underlying 57 = some (.slice 233) := by kernel_rfl
theorem kf65_25 : kf Tryz.prog 65 25 = some 25 := by kernel_rfl
theorem kd58 : kd Tryz.prog 58 = some (false, 1) := by kernel_rfl
theorem un58 : Tryz.prog.underlying 58 = some (.slice 240) := by kernel_rfl
theorem kf65_26 : kf Tryz.prog 65 26 = some 26 := by kernel_rfl
theorem kd59 : kd Tryz.prog 59 = some (false, 1) := by kernel_rfl
theorem un59 : Tryz.prog.underlying 59 = some (.slice 247) := by kernel_rfl
theorem kf65_27 : kf Tryz.prog 65 27 = some 27 := by kernel_rfl
theorem kd60 : kd Tryz.prog 60 = some (false, 1) := by kernel_rfl
theorem un60 : Tryz.prog.underlying 60 = some (.slice 254) := by kernel_rfl
theorem kf65_28 : kf Tryz.prog 65 28 = some 28 := by kernel_rfl
theorem kd61 : kd Tryz.prog 61 = some (false, 1) := by kernel_rfl
theorem un61 : Tryz.prog.underlying 61 = some (.slice 261) := by kernel_rfl
theorem kf65_29 : kf Tryz.prog 65 29 = some 29 := by kernel_rfl
theorem kd62 : kd Tryz.prog 62 = some (false, 1) := by kernel_rfl
theorem un62 : Tryz.prog.underlying 62 = some (.slice 269) := by kernel_rfl
theorem kf65_30 : kf Tryz.prog 65 30 = some 30 := by kernel_rfl
theorem kd63 : kd Tryz.prog 63 = some (false, 1) := by kernel_rfl
theorem un63 : Tryz.prog.underlying 63 = some (.slice 275) := by kernel_rfl
theorem kd108 : kd Tryz.prog 108 = some (true, 3) := by kernel_rfl
theorem en164 : enters Tryz.prog 164 = true := by kernel_rfl
theorem zc108 : zc Tryz.prog 108 = some [.slice none 0 0, .slice none 0 0, .int .i64 0] := by kernel_rfl
theorem kf108_1 : kf Tryz.prog 108 1 = some 1 := by kernel_rfl
theorem kd25 : kd Tryz.prog 25 = some (false, 1) := by kernel_rfl
theorem kf108_0 : kf Tryz.prog 108 0 = some 0 := by kernel_rfl
theorem kf108_2 : kf Tryz.prog 108 2 = some 2 := by kernel_rfl



set_option maxRecDepth 100000 in
theorem fillInt_no : CallsP Tryz.prog Tt 34 [.eptr [.any, .list 3 []]] (.tup []) := by
  refine callsP_of gs_tt Tryz.func34 rfl Tryz.ntmps34 rfl fun w0 S0 stab => ?_
  refine hits_seq ?_
  refine hits_region ?_
  refine sq (f_assign rfl (lt rfl)) rfl rfl ?_
  refine hits_nil ?_
  refine to_next ?_
  refine hits_block ?_
  refine hits_once ?_
  refine hits_seq ?_
  refine hits_seq ?_
  refine hits_region ?_
  refine sq (f_move rfl (lt rfl)) rfl rfl ?_
  refine sq (f_move rfl (lt rfl)) rfl rfl ?_
  refine sq (f_nil rfl rfl (lt rfl)) rfl rfl ?_
  refine sq (f_fieldAddr rfl kf65_1 rfl (lt rfl)) rfl rfl ?_
  refine sq (f_load kd34 rfl rfl (lt rfl)) rfl rfl ?_
  refine sq (f_lenList rfl rfl un34 (lt rfl)) rfl rfl ?_
  refine sq (f_bin rfl rfl (bT (decide_eq_false (by simp))) (lt rfl)) rfl rfl ?_
  refine hits_nil ?_
  refine to_next ?_
  refine hits_cond rfl (fun c0 => absurd c0 Bool.false_ne_true) (fun c0 => ?_)
  refine hits_exit ?_
  refine to_exit ?_
  refine to_exit ?_
  refine in_hit rfl ?_
  exact hits_done (.inr rfl) rfl rfl rfl

set_option maxRecDepth 100000 in
theorem growInt_no : CallsP Tryz.prog Tt 64 [.eptr [.any, .list 3 []]] (.tup []) := by
  refine callsP_of gs_tt Tryz.func64 rfl Tryz.ntmps64 rfl fun w0 S0 stab => ?_
  refine hits_seq ?_
  refine hits_region ?_
  refine sq (f_assign rfl (lt rfl)) rfl rfl ?_
  refine hits_nil ?_
  refine to_next ?_
  refine hits_block ?_
  refine hits_once ?_
  refine hits_seq ?_
  refine hits_seq ?_
  refine hits_region ?_
  refine sq (f_move rfl (lt rfl)) rfl rfl ?_
  refine sq (f_move rfl (lt rfl)) rfl rfl ?_
  refine sq (f_nil rfl rfl (lt rfl)) rfl rfl ?_
  refine sq (f_fieldAddr rfl kf65_1 rfl (lt rfl)) rfl rfl ?_
  refine sq (f_load kd34 rfl rfl (lt rfl)) rfl rfl ?_
  refine sq (f_lenList rfl rfl un34 (lt rfl)) rfl rfl ?_
  refine sq (f_bin rfl rfl (bT (decide_eq_false (by simp))) (lt rfl)) rfl rfl ?_
  refine hits_nil ?_
  refine to_next ?_
  refine hits_cond rfl (fun c0 => absurd c0 Bool.false_ne_true) (fun c0 => ?_)
  refine hits_exit ?_
  refine to_exit ?_
  refine to_exit ?_
  refine in_hit rfl ?_
  exact hits_done (.inr rfl) rfl rfl rfl

set_option maxRecDepth 100000 in
theorem lookInt_no : CallsP Tryz.prog Tt 94 [.eptr [.any, .list 3 []]] (.sc (.bool true)) := by
  refine callsP_of gs_tt Tryz.func94 rfl Tryz.ntmps94 rfl fun w0 S0 stab => ?_
  refine hits_seq ?_
  refine hits_region ?_
  refine sq (f_assign rfl (lt rfl)) rfl rfl ?_
  refine hits_nil ?_
  refine to_next ?_
  refine hits_seq ?_
  refine hits_seq ?_
  refine hits_region ?_
  refine sq (f_assign rfl (lt rfl)) rfl rfl ?_
  refine hits_nil ?_
  refine to_next ?_
  refine hits_block ?_
  refine hits_once ?_
  refine hits_seq ?_
  refine hits_seq ?_
  refine hits_region ?_
  refine sq (f_move rfl (lt rfl)) rfl rfl ?_
  refine sq (f_move rfl (lt rfl)) rfl rfl ?_
  refine sq (f_nil rfl rfl (lt rfl)) rfl rfl ?_
  refine sq (f_fieldAddr rfl kf65_1 rfl (lt rfl)) rfl rfl ?_
  refine sq (f_load kd34 rfl rfl (lt rfl)) rfl rfl ?_
  refine sq (f_lenList rfl rfl un34 (lt rfl)) rfl rfl ?_
  refine sq (f_bin rfl rfl (bT (decide_eq_false (by simp))) (lt rfl)) rfl rfl ?_
  refine hits_nil ?_
  refine to_next ?_
  refine hits_cond rfl (fun c0 => absurd c0 Bool.false_ne_true) (fun c0 => ?_)
  refine hits_exit ?_
  refine to_exit ?_
  refine to_exit ?_
  refine in_hit rfl ?_
  refine to_next ?_
  refine hits_seq ?_
  refine hits_region ?_
  refine sq (f_assign rfl (lt rfl)) rfl rfl ?_
  refine hits_nil ?_
  refine to_next ?_
  refine hits_ret ?_
  exact hits_done (.inl rfl) rfl rfl rfl

set_option maxRecDepth 100000 in
theorem fillByte_no : CallsP Tryz.prog Tt 35 [.eptr [.any, .any, .list 3 []]] (.tup []) := by
  refine callsP_of gs_tt Tryz.func35 rfl Tryz.ntmps35 rfl fun w0 S0 stab => ?_
  refine hits_seq ?_
  refine hits_region ?_
  refine sq (f_assign rfl (lt rfl)) rfl rfl ?_
  refine hits_nil ?_
  refine to_next ?_
  refine hits_block ?_
  refine hits_once ?_
  refine hits_seq ?_
  refine hits_seq ?_
  refine hits_region ?_
  refine sq (f_move rfl (lt rfl)) rfl rfl ?_
  refine sq (f_move rfl (lt rfl)) rfl rfl ?_
  refine sq (f_nil rfl rfl (lt rfl)) rfl rfl ?_
  refine sq (f_fieldAddr rfl kf65_2 rfl (lt rfl)) rfl rfl ?_
  refine sq (f_load kd35 rfl rfl (lt rfl)) rfl rfl ?_
  refine sq (f_lenList rfl rfl un35 (lt rfl)) rfl rfl ?_
  refine sq (f_bin rfl rfl (bT (decide_eq_false (by simp))) (lt rfl)) rfl rfl ?_
  refine hits_nil ?_
  refine to_next ?_
  refine hits_cond rfl (fun c0 => absurd c0 Bool.false_ne_true) (fun c0 => ?_)
  refine hits_exit ?_
  refine to_exit ?_
  refine to_exit ?_
  refine in_hit rfl ?_
  exact hits_done (.inr rfl) rfl rfl rfl

set_option maxRecDepth 100000 in
theorem growByte_no : CallsP Tryz.prog Tt 65 [.eptr [.any, .any, .list 3 []]] (.tup []) := by
  refine callsP_of gs_tt Tryz.func65 rfl Tryz.ntmps65 rfl fun w0 S0 stab => ?_
  refine hits_seq ?_
  refine hits_region ?_
  refine sq (f_assign rfl (lt rfl)) rfl rfl ?_
  refine hits_nil ?_
  refine to_next ?_
  refine hits_block ?_
  refine hits_once ?_
  refine hits_seq ?_
  refine hits_seq ?_
  refine hits_region ?_
  refine sq (f_move rfl (lt rfl)) rfl rfl ?_
  refine sq (f_move rfl (lt rfl)) rfl rfl ?_
  refine sq (f_nil rfl rfl (lt rfl)) rfl rfl ?_
  refine sq (f_fieldAddr rfl kf65_2 rfl (lt rfl)) rfl rfl ?_
  refine sq (f_load kd35 rfl rfl (lt rfl)) rfl rfl ?_
  refine sq (f_lenList rfl rfl un35 (lt rfl)) rfl rfl ?_
  refine sq (f_bin rfl rfl (bT (decide_eq_false (by simp))) (lt rfl)) rfl rfl ?_
  refine hits_nil ?_
  refine to_next ?_
  refine hits_cond rfl (fun c0 => absurd c0 Bool.false_ne_true) (fun c0 => ?_)
  refine hits_exit ?_
  refine to_exit ?_
  refine to_exit ?_
  refine in_hit rfl ?_
  exact hits_done (.inr rfl) rfl rfl rfl

set_option maxRecDepth 100000 in
theorem lookByte_no : CallsP Tryz.prog Tt 95 [.eptr [.any, .any, .list 3 []]] (.sc (.bool true)) := by
  refine callsP_of gs_tt Tryz.func95 rfl Tryz.ntmps95 rfl fun w0 S0 stab => ?_
  refine hits_seq ?_
  refine hits_region ?_
  refine sq (f_assign rfl (lt rfl)) rfl rfl ?_
  refine hits_nil ?_
  refine to_next ?_
  refine hits_seq ?_
  refine hits_seq ?_
  refine hits_region ?_
  refine sq (f_assign rfl (lt rfl)) rfl rfl ?_
  refine hits_nil ?_
  refine to_next ?_
  refine hits_block ?_
  refine hits_once ?_
  refine hits_seq ?_
  refine hits_seq ?_
  refine hits_region ?_
  refine sq (f_move rfl (lt rfl)) rfl rfl ?_
  refine sq (f_move rfl (lt rfl)) rfl rfl ?_
  refine sq (f_nil rfl rfl (lt rfl)) rfl rfl ?_
  refine sq (f_fieldAddr rfl kf65_2 rfl (lt rfl)) rfl rfl ?_
  refine sq (f_load kd35 rfl rfl (lt rfl)) rfl rfl ?_
  refine sq (f_lenList rfl rfl un35 (lt rfl)) rfl rfl ?_
  refine sq (f_bin rfl rfl (bT (decide_eq_false (by simp))) (lt rfl)) rfl rfl ?_
  refine hits_nil ?_
  refine to_next ?_
  refine hits_cond rfl (fun c0 => absurd c0 Bool.false_ne_true) (fun c0 => ?_)
  refine hits_exit ?_
  refine to_exit ?_
  refine to_exit ?_
  refine in_hit rfl ?_
  refine to_next ?_
  refine hits_seq ?_
  refine hits_region ?_
  refine sq (f_assign rfl (lt rfl)) rfl rfl ?_
  refine hits_nil ?_
  refine to_next ?_
  refine hits_ret ?_
  exact hits_done (.inl rfl) rfl rfl rfl

set_option maxRecDepth 100000 in
theorem fillKind_no : CallsP Tryz.prog Tt 36 [.eptr [.any, .any, .any, .list 3 []]] (.tup []) := by
  refine callsP_of gs_tt Tryz.func36 rfl Tryz.ntmps36 rfl fun w0 S0 stab => ?_
  refine hits_seq ?_
  refine hits_region ?_
  refine sq (f_assign rfl (lt rfl)) rfl rfl ?_
  refine hits_nil ?_
  refine to_next ?_
  refine hits_block ?_
  refine hits_once ?_
  refine hits_seq ?_
  refine hits_seq ?_
  refine hits_region ?_
  refine sq (f_move rfl (lt rfl)) rfl rfl ?_
  refine sq (f_move rfl (lt rfl)) rfl rfl ?_
  refine sq (f_nil rfl rfl (lt rfl)) rfl rfl ?_
  refine sq (f_fieldAddr rfl kf65_3 rfl (lt rfl)) rfl rfl ?_
  refine sq (f_load kd36 rfl rfl (lt rfl)) rfl rfl ?_
  refine sq (f_lenList rfl rfl un36 (lt rfl)) rfl rfl ?_
  refine sq (f_bin rfl rfl (bT (decide_eq_false (by simp))) (lt rfl)) rfl rfl ?_
  refine hits_nil ?_
  refine to_next ?_
  refine hits_cond rfl (fun c0 => absurd c0 Bool.false_ne_true) (fun c0 => ?_)
  refine hits_exit ?_
  refine to_exit ?_
  refine to_exit ?_
  refine in_hit rfl ?_
  exact hits_done (.inr rfl) rfl rfl rfl

set_option maxRecDepth 100000 in
theorem growKind_no : CallsP Tryz.prog Tt 66 [.eptr [.any, .any, .any, .list 3 []]] (.tup []) := by
  refine callsP_of gs_tt Tryz.func66 rfl Tryz.ntmps66 rfl fun w0 S0 stab => ?_
  refine hits_seq ?_
  refine hits_region ?_
  refine sq (f_assign rfl (lt rfl)) rfl rfl ?_
  refine hits_nil ?_
  refine to_next ?_
  refine hits_block ?_
  refine hits_once ?_
  refine hits_seq ?_
  refine hits_seq ?_
  refine hits_region ?_
  refine sq (f_move rfl (lt rfl)) rfl rfl ?_
  refine sq (f_move rfl (lt rfl)) rfl rfl ?_
  refine sq (f_nil rfl rfl (lt rfl)) rfl rfl ?_
  refine sq (f_fieldAddr rfl kf65_3 rfl (lt rfl)) rfl rfl ?_
  refine sq (f_load kd36 rfl rfl (lt rfl)) rfl rfl ?_
  refine sq (f_lenList rfl rfl un36 (lt rfl)) rfl rfl ?_
  refine sq (f_bin rfl rfl (bT (decide_eq_false (by simp))) (lt rfl)) rfl rfl ?_
  refine hits_nil ?_
  refine to_next ?_
  refine hits_cond rfl (fun c0 => absurd c0 Bool.false_ne_true) (fun c0 => ?_)
  refine hits_exit ?_
  refine to_exit ?_
  refine to_exit ?_
  refine in_hit rfl ?_
  exact hits_done (.inr rfl) rfl rfl rfl

set_option maxRecDepth 100000 in
theorem lookKind_no : CallsP Tryz.prog Tt 96 [.eptr [.any, .any, .any, .list 3 []]] (.sc (.bool true)) := by
  refine callsP_of gs_tt Tryz.func96 rfl Tryz.ntmps96 rfl fun w0 S0 stab => ?_
  refine hits_seq ?_
  refine hits_region ?_
  refine sq (f_assign rfl (lt rfl)) rfl rfl ?_
  refine hits_nil ?_
  refine to_next ?_
  refine hits_seq ?_
  refine hits_seq ?_
  refine hits_region ?_
  refine sq (f_assign rfl (lt rfl)) rfl rfl ?_
  refine hits_nil ?_
  refine to_next ?_
  refine hits_block ?_
  refine hits_once ?_
  refine hits_seq ?_
  refine hits_seq ?_
  refine hits_region ?_
  refine sq (f_move rfl (lt rfl)) rfl rfl ?_
  refine sq (f_move rfl (lt rfl)) rfl rfl ?_
  refine sq (f_nil rfl rfl (lt rfl)) rfl rfl ?_
  refine sq (f_fieldAddr rfl kf65_3 rfl (lt rfl)) rfl rfl ?_
  refine sq (f_load kd36 rfl rfl (lt rfl)) rfl rfl ?_
  refine sq (f_lenList rfl rfl un36 (lt rfl)) rfl rfl ?_
  refine sq (f_bin rfl rfl (bT (decide_eq_false (by simp))) (lt rfl)) rfl rfl ?_
  refine hits_nil ?_
  refine to_next ?_
  refine hits_cond rfl (fun c0 => absurd c0 Bool.false_ne_true) (fun c0 => ?_)
  refine hits_exit ?_
  refine to_exit ?_
  refine to_exit ?_
  refine in_hit rfl ?_
  refine to_next ?_
  refine hits_seq ?_
  refine hits_region ?_
  refine sq (f_assign rfl (lt rfl)) rfl rfl ?_
  refine hits_nil ?_
  refine to_next ?_
  refine hits_ret ?_
  exact hits_done (.inl rfl) rfl rfl rfl

set_option maxRecDepth 100000 in
theorem fillText_no : CallsP Tryz.prog Tt 37 [.eptr [.any, .any, .any, .any, .list 3 []]] (.tup []) := by
  refine callsP_of gs_tt Tryz.func37 rfl Tryz.ntmps37 rfl fun w0 S0 stab => ?_
  refine hits_seq ?_
  refine hits_region ?_
  refine sq (f_assign rfl (lt rfl)) rfl rfl ?_
  refine hits_nil ?_
  refine to_next ?_
  refine hits_block ?_
  refine hits_once ?_
  refine hits_seq ?_
  refine hits_seq ?_
  refine hits_region ?_
  refine sq (f_move rfl (lt rfl)) rfl rfl ?_
  refine sq (f_move rfl (lt rfl)) rfl rfl ?_
  refine sq (f_nil rfl rfl (lt rfl)) rfl rfl ?_
  refine sq (f_fieldAddr rfl kf65_4 rfl (lt rfl)) rfl rfl ?_
  refine sq (f_load kd37 rfl rfl (lt rfl)) rfl rfl ?_
  refine sq (f_lenList rfl rfl un37 (lt rfl)) rfl rfl ?_
  refine sq (f_bin rfl rfl (bT (decide_eq_false (by simp))) (lt rfl)) rfl rfl ?_
  refine hits_nil ?_
  refine to_next ?_
  refine hits_cond rfl (fun c0 => absurd c0 Bool.false_ne_true) (fun c0 => ?_)
  refine hits_exit ?_
  refine to_exit ?_
  refine to_exit ?_
  refine in_hit rfl ?_
  exact hits_done (.inr rfl) rfl rfl rfl

set_option maxRecDepth 100000 in
theorem growText_no : CallsP Tryz.prog Tt 67 [.eptr [.any, .any, .any, .any, .list 3 []]] (.tup []) := by
  refine callsP_of gs_tt Tryz.func67 rfl Tryz.ntmps67 rfl fun w0 S0 stab => ?_
  refine hits_seq ?_
  refine hits_region ?_
  refine sq (f_assign rfl (lt rfl)) rfl rfl ?_
  refine hits_nil ?_
  refine to_next ?_
  refine hits_block ?_
  refine hits_once ?_
  refine hits_seq ?_
  refine hits_seq ?_
  refine hits_region ?_
  refine sq (f_move rfl (lt rfl)) rfl rfl ?_
  refine sq (f_move rfl (lt rfl)) rfl rfl ?_
  refine sq (f_nil rfl rfl (lt rfl)) rfl rfl ?_
  refine sq (f_fieldAddr rfl kf65_4 rfl (lt rfl)) rfl rfl ?_
  refine sq (f_load kd37 rfl rfl (lt rfl)) rfl rfl ?_
  refine sq (f_lenList rfl rfl un37 (lt rfl)) rfl rfl ?_
  refine sq (f_bin rfl rfl (bT (decide_eq_false (by simp))) (lt rfl)) rfl rfl ?_
  refine hits_nil ?_
  refine to_next ?_
  refine hits_cond rfl (fun c0 => absurd c0 Bool.false_ne_true) (fun c0 => ?_)
  refine hits_exit ?_
  refine to_exit ?_
  refine to_exit ?_
  refine in_hit rfl ?_
  exact hits_done (.inr rfl) rfl rfl rfl

set_option maxRecDepth 100000 in
theorem lookText_no : CallsP Tryz.prog Tt 97 [.eptr [.any, .any, .any, .any, .list 3 []]] (.sc (.bool true)) := by
  refine callsP_of gs_tt Tryz.func97 rfl Tryz.ntmps97 rfl fun w0 S0 stab => ?_
  refine hits_seq ?_
  refine hits_region ?_
  refine sq (f_assign rfl (lt rfl)) rfl rfl ?_
  refine hits_nil ?_
  refine to_next ?_
  refine hits_seq ?_
  refine hits_seq ?_
  refine hits_region ?_
  refine sq (f_assign rfl (lt rfl)) rfl rfl ?_
  refine hits_nil ?_
  refine to_next ?_
  refine hits_block ?_
  refine hits_once ?_
  refine hits_seq ?_
  refine hits_seq ?_
  refine hits_region ?_
  refine sq (f_move rfl (lt rfl)) rfl rfl ?_
  refine sq (f_move rfl (lt rfl)) rfl rfl ?_
  refine sq (f_nil rfl rfl (lt rfl)) rfl rfl ?_
  refine sq (f_fieldAddr rfl kf65_4 rfl (lt rfl)) rfl rfl ?_
  refine sq (f_load kd37 rfl rfl (lt rfl)) rfl rfl ?_
  refine sq (f_lenList rfl rfl un37 (lt rfl)) rfl rfl ?_
  refine sq (f_bin rfl rfl (bT (decide_eq_false (by simp))) (lt rfl)) rfl rfl ?_
  refine hits_nil ?_
  refine to_next ?_
  refine hits_cond rfl (fun c0 => absurd c0 Bool.false_ne_true) (fun c0 => ?_)
  refine hits_exit ?_
  refine to_exit ?_
  refine to_exit ?_
  refine in_hit rfl ?_
  refine to_next ?_
  refine hits_seq ?_
  refine hits_region ?_
  refine sq (f_assign rfl (lt rfl)) rfl rfl ?_
  refine hits_nil ?_
  refine to_next ?_
  refine hits_ret ?_
  exact hits_done (.inl rfl) rfl rfl rfl

set_option maxRecDepth 100000 in
theorem fillBlob_no : CallsP Tryz.prog Tt 38 [.eptr [.any, .any, .any, .any, .any, .list 3 []]] (.tup []) := by
  refine callsP_of gs_tt Tryz.func38 rfl Tryz.ntmps38 rfl fun w0 S0 stab => ?_
  refine hits_seq ?_
  refine hits_region ?_
  refine sq (f_assign rfl (lt rfl)) rfl rfl ?_
  refine hits_nil ?_
  refine to_next ?_
  refine hits_block ?_
  refine hits_once ?_
  refine hits_seq ?_
  refine hits_seq ?_
  refine hits_region ?_
  refine sq (f_move rfl (lt rfl)) rfl rfl ?_
  refine sq (f_move rfl (lt rfl)) rfl rfl ?_
  refine sq (f_nil rfl rfl (lt rfl)) rfl rfl ?_
  refine sq (f_fieldAddr rfl kf65_5 rfl (lt rfl)) rfl rfl ?_
  refine sq (f_load kd38 rfl rfl (lt rfl)) rfl rfl ?_
  refine sq (f_lenList rfl rfl un38 (lt rfl)) rfl rfl ?_
  refine sq (f_bin rfl rfl (bT (decide_eq_false (by simp))) (lt rfl)) rfl rfl ?_
  refine hits_nil ?_
  refine to_next ?_
  refine hits_cond rfl (fun c0 => absurd c0 Bool.false_ne_true) (fun c0 => ?_)
  refine hits_exit ?_
  refine to_exit ?_
  refine to_exit ?_
  refine in_hit rfl ?_
  exact hits_done (.inr rfl) rfl rfl rfl

set_option maxRecDepth 100000 in
theorem growBlob_no : CallsP Tryz.prog Tt 68 [.eptr [.any, .any, .any, .any, .any, .list 3 []]] (.tup []) := by
  refine callsP_of gs_tt Tryz.func68 rfl Tryz.ntmps68 rfl fun w0 S0 stab => ?_
  refine hits_seq ?_
  refine hits_region ?_
  refine sq (f_assign rfl (lt rfl)) rfl rfl ?_
  refine hits_nil ?_
  refine to_next ?_
  refine hits_block ?_
  refine hits_once ?_
  refine hits_seq ?_
  refine hits_seq ?_
  refine hits_region ?_
  refine sq (f_move rfl (lt rfl)) rfl rfl ?_
  refine sq (f_move rfl (lt rfl)) rfl rfl ?_
  refine sq (f_nil rfl rfl (lt rfl)) rfl rfl ?_
  refine sq (f_fieldAddr rfl kf65_5 rfl (lt rfl)) rfl rfl ?_
  refine sq (f_load kd38 rfl rfl (lt rfl)) rfl rfl ?_
  refine sq (f_lenList rfl rfl un38 (lt rfl)) rfl rfl ?_
  refine sq (f_bin rfl rfl (bT (decide_eq_false (by simp))) (lt rfl)) rfl rfl ?_
  refine hits_nil ?_
  refine to_next ?_
  refine hits_cond rfl (fun c0 => absurd c0 Bool.false_ne_true) (fun c0 => ?_)
  refine hits_exit ?_
  refine to_exit ?_
  refine to_exit ?_
  refine in_hit rfl ?_
  exact hits_done (.inr rfl) rfl rfl rfl

set_option maxRecDepth 100000 in
theorem lookBlob_no : CallsP Tryz.prog Tt 98 [.eptr [.any, .any, .any, .any, .any, .list 3 []]] (.sc (.bool true)) := by
  refine callsP_of gs_tt Tryz.func98 rfl Tryz.ntmps98 rfl fun w0 S0 stab => ?_
  refine hits_seq ?_
  refine hits_region ?_
  refine sq (f_assign rfl (lt rfl)) rfl rfl ?_
  refine hits_nil ?_
  refine to_next ?_
  refine hits_seq ?_
  refine hits_seq ?_
  refine hits_region ?_
  refine sq (f_assign rfl (lt rfl)) rfl rfl ?_
  refine hits_nil ?_
  refine to_next ?_
  refine hits_block ?_
  refine hits_once ?_
  refine hits_seq ?_
  refine hits_seq ?_
  refine hits_region ?_
  refine sq (f_move rfl (lt rfl)) rfl rfl ?_
  refine sq (f_move rfl (lt rfl)) rfl rfl ?_
  refine sq (f_nil rfl rfl (lt rfl)) rfl rfl ?_
  refine sq (f_fieldAddr rfl kf65_5 rfl (lt rfl)) rfl rfl ?_
  refine sq (f_load kd38 rfl rfl (lt rfl)) rfl rfl ?_
  refine sq (f_lenList rfl rfl un38 (lt rfl)) rfl rfl ?_
  refine sq (f_bin rfl rfl (bT (decide_eq_false (by simp))) (lt rfl)) rfl rfl ?_
  refine hits_nil ?_
  refine to_next ?_
  refine hits_cond rfl (fun c0 => absurd c0 Bool.false_ne_true) (fun c0 => ?_)
  refine hits_exit ?_
  refine to_exit ?_
  refine to_exit ?_
  refine in_hit rfl ?_
  refine to_next ?_
  refine hits_seq ?_
  refine hits_region ?_
  refine sq (f_assign rfl (lt rfl)) rfl rfl ?_
  refine hits_nil ?_
  refine to_next ?_
  refine hits_ret ?_
  exact hits_done (.inl rfl) rfl rfl rfl

set_option maxRecDepth 100000 in
theorem fillNumber_no : CallsP Tryz.prog Tt 39 [.eptr [.any, .any, .any, .any, .any, .any, .list 3 []]] (.tup []) := by
  refine callsP_of gs_tt Tryz.func39 rfl Tryz.ntmps39 rfl fun w0 S0 stab => ?_
  refine hits_seq ?_
  refine hits_region ?_
  refine sq (f_assign rfl (lt rfl)) rfl rfl ?_
  refine hits_nil ?_
  refine to_next ?_
  refine hits_block ?_
  refine hits_once ?_
  refine hits_seq ?_
  refine hits_seq ?_
  refine hits_region ?_
  refine sq (f_move rfl (lt rfl)) rfl rfl ?_
  refine sq (f_move rfl (lt rfl)) rfl rfl ?_
  refine sq (f_nil rfl rfl (lt rfl)) rfl rfl ?_
  refine sq (f_fieldAddr rfl kf65_6 rfl (lt rfl)) rfl rfl ?_
  refine sq (f_load kd39 rfl rfl (lt rfl)) rfl rfl ?_
  refine sq (f_lenList rfl rfl un39 (lt rfl)) rfl rfl ?_
  refine sq (f_bin rfl rfl (bT (decide_eq_false (by simp))) (lt rfl)) rfl rfl ?_
  refine hits_nil ?_
  refine to_next ?_
  refine hits_cond rfl (fun c0 => absurd c0 Bool.false_ne_true) (fun c0 => ?_)
  refine hits_exit ?_
  refine to_exit ?_
  refine to_exit ?_
  refine in_hit rfl ?_
  exact hits_done (.inr rfl) rfl rfl rfl

set_option maxRecDepth 100000 in
theorem growNumber_no : CallsP Tryz.prog Tt 69 [.eptr [.any, .any, .any, .any, .any, .any, .list 3 []]] (.tup []) := by
  refine callsP_of gs_tt Tryz.func69 rfl Tryz.ntmps69 rfl fun w0 S0 stab => ?_
  refine hits_seq ?_
  refine hits_region ?_
  refine sq (f_assign rfl (lt rfl)) rfl rfl ?_
  refine hits_nil ?_
  refine to_next ?_
  refine hits_block ?_
  refine hits_once ?_
  refine hits_seq ?_
  refine hits_seq ?_
  refine hits_region ?_
  refine sq (f_move rfl (lt rfl)) rfl rfl ?_
  refine sq (f_move rfl (lt rfl)) rfl rfl ?_
  refine sq (f_nil rfl rfl (lt rfl)) rfl rfl ?_
  refine sq (f_fieldAddr rfl kf65_6 rfl (lt rfl)) rfl rfl ?_
  refine sq (f_load kd39 rfl rfl (lt rfl)) rfl rfl ?_
  refine sq (f_lenList rfl rfl un39 (lt rfl)) rfl rfl ?_
  refine sq (f_bin rfl rfl (bT (decide_eq_false (by simp))) (lt rfl)) rfl rfl ?_
  refine hits_nil ?_
  refine to_next ?_
  refine hits_cond rfl (fun c0 => absurd c0 Bool.false_ne_true) (fun c0 => ?_)
  refine hits_exit ?_
  refine to_exit ?_
  refine to_exit ?_
  refine in_hit rfl ?_
  exact hits_done (.inr rfl) rfl rfl rfl

set_option maxRecDepth 100000 in
theorem lookNumber_no : CallsP Tryz.prog Tt 99 [.eptr [.any, .any, .any, .any, .any, .any, .list 3 []]] (.sc (.bool true)) := by
  refine callsP_of gs_tt Tryz.func99 rfl Tryz.ntmps99 rfl fun w0 S0 stab => ?_
  refine hits_seq ?_
  refine hits_region ?_
  refine sq (f_assign rfl (lt rfl)) rfl rfl ?_
  refine hits_nil ?_
  refine to_next ?_
  refine hits_seq ?_
  refine hits_seq ?_
  refine hits_region ?_
  refine sq (f_assign rfl (lt rfl)) rfl rfl ?_
  refine hits_nil ?_
  refine to_next ?_
  refine hits_block ?_
  refine hits_once ?_
  refine hits_seq ?_
  refine hits_seq ?_
  refine hits_region ?_
  refine sq (f_move rfl (lt rfl)) rfl rfl ?_
  refine sq (f_move rfl (lt rfl)) rfl rfl ?_
  refine sq (f_nil rfl rfl (lt rfl)) rfl rfl ?_
  refine sq (f_fieldAddr rfl kf65_6 rfl (lt rfl)) rfl rfl ?_
  refine sq (f_load kd39 rfl rfl (lt rfl)) rfl rfl ?_
  refine sq (f_lenList rfl rfl un39 (lt rfl)) rfl rfl ?_
  refine sq (f_bin rfl rfl (bT (decide_eq_false (by simp))) (lt rfl)) rfl rfl ?_
  refine hits_nil ?_
  refine to_next ?_
  refine hits_cond rfl (fun c0 => absurd c0 Bool.false_ne_true) (fun c0 => ?_)
  refine hits_exit ?_
  refine to_exit ?_
  refine to_exit ?_
  refine in_hit rfl ?_
  refine to_next ?_
  refine hits_seq ?_
  refine hits_region ?_
  refine sq (f_assign rfl (lt rfl)) rfl rfl ?_
  refine hits_nil ?_
  refine to_next ?_
  refine hits_ret ?_
  exact hits_done (.inl rfl) rfl rfl rfl

set_option maxRecDepth 100000 in
theorem fillWord_no : CallsP Tryz.prog Tt 40 [.eptr [.any, .any, .any, .any, .any, .any, .any, .list 3 []]] (.tup []) := by
  refine callsP_of gs_tt Tryz.func40 rfl Tryz.ntmps40 rfl fun w0 S0 stab => ?_
  refine hits_seq ?_
  refine hits_region ?_
  refine sq (f_assign rfl (lt rfl)) rfl rfl ?_
  refine hits_nil ?_
  refine to_next ?_
  refine hits_block ?_
  refine hits_once ?_
  refine hits_seq ?_
  refine hits_seq ?_
  refine hits_region ?_
  refine sq (f_move rfl (lt rfl)) rfl rfl ?_
  refine sq (f_move rfl (lt rfl)) rfl rfl ?_
  refine sq (f_nil rfl rfl (lt rfl)) rfl rfl ?_
  refine sq (f_fieldAddr rfl kf65_7 rfl (lt rfl)) rfl rfl ?_
  refine sq (f_load kd40 rfl rfl (lt rfl)) rfl rfl ?_
  refine sq (f_lenList rfl rfl un40 (lt rfl)) rfl rfl ?_
  refine sq (f_bin rfl rfl (bT (decide_eq_false (by simp))) (lt rfl)) rfl rfl ?_
  refine hits_nil ?_
  refine to_next ?_
  refine hits_cond rfl (fun c0 => absurd c0 Bool.false_ne_true) (fun c0 => ?_)
  refine hits_exit ?_
  refine to_exit ?_
  refine to_exit ?_
  refine in_hit rfl ?_
  exact hits_done (.inr rfl) rfl rfl rfl

set_option maxRecDepth 100000 in
theorem growWord_no : CallsP Tryz.prog Tt 70 [.eptr [.any, .any, .any, .any, .any, .any, .any, .list 3 []]] (.tup []) := by
  refine callsP_of gs_tt Tryz.func70 rfl Tryz.ntmps70 rfl fun w0 S0 stab => ?_
  refine hits_seq ?_
  refine hits_region ?_
  refine sq (f_assign rfl (lt rfl)) rfl rfl ?_
  refine hits_nil ?_
  refine to_next ?_
  refine hits_block ?_
  refine hits_once ?_
  refine hits_seq ?_
  refine hits_seq ?_
  refine hits_region ?_
  refine sq (f_move rfl (lt rfl)) rfl rfl ?_
  refine sq (f_move rfl (lt rfl)) rfl rfl ?_
  refine sq (f_nil rfl rfl (lt rfl)) rfl rfl ?_
  refine sq (f_fieldAddr rfl kf65_7 rfl (lt rfl)) rfl rfl ?_
  refine sq (f_load kd40 rfl rfl (lt rfl)) rfl rfl ?_
  refine sq (f_lenList rfl rfl un40 (lt rfl)) rfl rfl ?_
  refine sq (f_bin rfl rfl (bT (decide_eq_false (by simp))) (lt rfl)) rfl rfl ?_
  refine hits_nil ?_
  refine to_next ?_
  refine hits_cond rfl (fun c0 => absurd c0 Bool.false_ne_true) (fun c0 => ?_)
  refine hits_exit ?_
  refine to_exit ?_
  refine to_exit ?_
  refine in_hit rfl ?_
  exact hits_done (.inr rfl) rfl rfl rfl

set_option maxRecDepth 100000 in
theorem lookWord_no : CallsP Tryz.prog Tt 100 [.eptr [.any, .any, .any, .any, .any, .any, .any, .list 3 []]] (.sc (.bool true)) := by
  refine callsP_of gs_tt Tryz.func100 rfl Tryz.ntmps100 rfl fun w0 S0 stab => ?_
  refine hits_seq ?_
  refine hits_region ?_
  refine sq (f_assign rfl (lt rfl)) rfl rfl ?_
  refine hits_nil ?_
  refine to_next ?_
  refine hits_seq ?_
  refine hits_seq ?_
  refine hits_region ?_
  refine sq (f_assign rfl (lt rfl)) rfl rfl ?_
  refine hits_nil ?_
  refine to_next ?_
  refine hits_block ?_
  refine hits_once ?_
  refine hits_seq ?_
  refine hits_seq ?_
  refine hits_region ?_
  refine sq (f_move rfl (lt rfl)) rfl rfl ?_
  refine sq (f_move rfl (lt rfl)) rfl rfl ?_
  refine sq (f_nil rfl rfl (lt rfl)) rfl rfl ?_
  refine sq (f_fieldAddr rfl kf65_7 rfl (lt rfl)) rfl rfl ?_
  refine sq (f_load kd40 rfl rfl (lt rfl)) rfl rfl ?_
  refine sq (f_lenList rfl rfl un40 (lt rfl)) rfl rfl ?_
  refine sq (f_bin rfl rfl (bT (decide_eq_false (by simp))) (lt rfl)) rfl rfl ?_
  refine hits_nil ?_
  refine to_next ?_
  refine hits_cond rfl (fun c0 => absurd c0 Bool.false_ne_true) (fun c0 => ?_)
  refine hits_exit ?_
  refine to_exit ?_
  refine to_exit ?_
  refine in_hit rfl ?_
  refine to_next ?_
  refine hits_seq ?_
  refine hits_region ?_
  refine sq (f_assign rfl (lt rfl)) rfl rfl ?_
  refine hits_nil ?_
  refine to_next ?_
  refine hits_ret ?_
  exact hits_done (.inl rfl) rfl rfl rfl

set_option maxRecDepth 100000 in
theorem fillField_no : CallsP Tryz.prog Tt 41 [.eptr [.any, .any, .any, .any, .any, .any, .any, .any, .list 3 []]] (.tup []) := by
  refine callsP_of gs_tt Tryz.func41 rfl Tryz.ntmps41 rfl fun w0 S0 stab => ?_
  refine hits_seq ?_
  refine hits_region ?_
  refine sq (f_assign rfl (lt rfl)) rfl rfl ?_
  refine hits_nil ?_
  refine to_next ?_
  refine hits_block ?_
  refine hits_once ?_
  refine hits_seq ?_
  refine hits_seq ?_
  refine hits_region ?_
  refine sq (f_move rfl (lt rfl)) rfl rfl ?_
  refine sq (f_move rfl (lt rfl)) rfl rfl ?_
  refine sq (f_nil rfl rfl (lt rfl)) rfl rfl ?_
  refine sq (f_fieldAddr rfl kf65_8 rfl (lt rfl)) rfl rfl ?_
  refine sq (f_load kd41 rfl rfl (lt rfl)) rfl rfl ?_
  refine sq (f_lenList rfl rfl un41 (lt rfl)) rfl rfl ?_
  refine sq (f_bin rfl rfl (bT (decide_eq_false (by simp))) (lt rfl)) rfl rfl ?_
  refine hits_nil ?_
  refine to_next ?_
  refine hits_cond rfl (fun c0 => absurd c0 Bool.false_ne_true) (fun c0 => ?_)
  refine hits_exit ?_
  refine to_exit ?_
  refine to_exit ?_
  refine in_hit rfl ?_
  exact hits_done (.inr rfl) rfl rfl rfl

set_option maxRecDepth 100000 in
theorem growField_no : CallsP Tryz.prog Tt 71 [.eptr [.any, .any, .any, .any, .any, .any, .any, .any, .list 3 []]] (.tup []) := by
  refine callsP_of gs_tt Tryz.func71 rfl Tryz.ntmps71 rfl fun w0 S0 stab => ?_
  refine hits_seq ?_
  refine hits_region ?_
  refine sq (f_assign rfl (lt rfl)) rfl rfl ?_
  refine hits_nil ?_
  refine to_next ?_
  refine hits_block ?_
  refine hits_once ?_
  refine hits_seq ?_
  refine hits_seq ?_
  refine hits_region ?_
  refine sq (f_move rfl (lt rfl)) rfl rfl ?_
  refine sq (f_move rfl (lt rfl)) rfl rfl ?_
  refine sq (f_nil rfl rfl (lt rfl)) rfl rfl ?_
  refine sq (f_fieldAddr rfl kf65_8 rfl (lt rfl)) rfl rfl ?_
  refine sq (f_load kd41 rfl rfl (lt rfl)) rfl rfl ?_
  refine sq (f_lenList rfl rfl un41 (lt rfl)) rfl rfl ?_
  refine sq (f_bin rfl rfl (bT (decide_eq_false (by simp))) (lt rfl)) rfl rfl ?_
  refine hits_nil ?_
  refine to_next ?_
  refine hits_cond rfl (fun c0 => absurd c0 Bool.false_ne_true) (fun c0 => ?_)
  refine hits_exit ?_
  refine to_exit ?_
  refine to_exit ?_
  refine in_hit rfl ?_
  exact hits_done (.inr rfl) rfl rfl rfl

set_option maxRecDepth 100000 in
theorem lookField_no : CallsP Tryz.prog Tt 101 [.eptr [.any, .any, .any, .any, .any, .any, .any, .any, .list 3 []]] (.sc (.bool true)) := by
  refine callsP_of gs_tt Tryz.func101 rfl Tryz.ntmps101 rfl fun w0 S0 stab => ?_
  refine hits_seq ?_
  refine hits_region ?_
  refine sq (f_assign rfl (lt rfl)) rfl rfl ?_
  refine hits_nil ?_
  refine to_next ?_
  refine hits_seq ?_
  refine hits_seq ?_
  refine hits_region ?_
  refine sq (f_assign rfl (lt rfl)) rfl rfl ?_
  refine hits_nil ?_
  refine to_next ?_
  refine hits_block ?_
  refine hits_once ?_
  refine hits_seq ?_
  refine hits_seq ?_
  refine hits_region ?_
  refine sq (f_move rfl (lt rfl)) rfl rfl ?_
  refine sq (f_move rfl (lt rfl)) rfl rfl ?_
  refine sq (f_nil rfl rfl (lt rfl)) rfl rfl ?_
  refine sq (f_fieldAddr rfl kf65_8 rfl (lt rfl)) rfl rfl ?_
  refine sq (f_load kd41 rfl rfl (lt rfl)) rfl rfl ?_
  refine sq (f_lenList rfl rfl un41 (lt rfl)) rfl rfl ?_
  refine sq (f_bin rfl rfl (bT (decide_eq_false (by simp))) (lt rfl)) rfl rfl ?_
  refine hits_nil ?_
  refine to_next ?_
  refine hits_cond rfl (fun c0 => absurd c0 Bool.false_ne_true) (fun c0 => ?_)
  refine hits_exit ?_
  refine to_exit ?_
  refine to_exit ?_
  refine in_hit rfl ?_
  refine to_next ?_
  refine hits_seq ?_
  refine hits_region ?_
  refine sq (f_assign rfl (lt rfl)) rfl rfl ?_
  refine hits_nil ?_
  refine to_next ?_
  refine hits_ret ?_
  exact hits_done (.inl rfl) rfl rfl rfl

set_option maxRecDepth 100000 in
theorem fillMatch_no : CallsP Tryz.prog Tt 42 [.eptr [.any, .any, .any, .any, .any, .any, .any, .any, .any, .list 3 []]] (.tup []) := by
  refine callsP_of gs_tt Tryz.func42 rfl Tryz.ntmps42 rfl fun w0 S0 stab => ?_
  refine hits_seq ?_
  refine hits_region ?_
  refine sq (f_assign rfl (lt rfl)) rfl rfl ?_
  refine hits_nil ?_
  refine to_next ?_
  refine hits_block ?_
  refine hits_once ?_
  refine hits_seq ?_
  refine hits_seq ?_
  refine hits_region ?_
  refine sq (f_move rfl (lt rfl)) rfl rfl ?_
  refine sq (f_move rfl (lt rfl)) rfl rfl ?_
  refine sq (f_nil rfl rfl (lt rfl)) rfl rfl ?_
  refine sq (f_fieldAddr rfl kf65_9 rfl (lt rfl)) rfl rfl ?_
  refine sq (f_load kd42 rfl rfl (lt rfl)) rfl rfl ?_
  refine sq (f_lenList rfl rfl un42 (lt rfl)) rfl rfl ?_
  refine sq (f_bin rfl rfl (bT (decide_eq_false (by simp))) (lt rfl)) rfl rfl ?_
  refine hits_nil ?_
  refine to_next ?_
  refine hits_cond rfl (fun c0 => absurd c0 Bool.false_ne_true) (fun c0 => ?_)
  refine hits_exit ?_
  refine to_exit ?_
  refine to_exit ?_
  refine in_hit rfl ?_
  exact hits_done (.inr rfl) rfl rfl rfl

set_option maxRecDepth 100000 in
theorem growMatch_no : CallsP Tryz.prog Tt 72 [.eptr [.any, .any, .any, .any, .any, .any, .any, .any, .any, .list 3 []]] (.tup []) := by
  refine callsP_of gs_tt Tryz.func72 rfl Tryz.ntmps72 rfl fun w0 S0 stab => ?_
  refine hits_seq ?_
  refine hits_region ?_
  refine sq (f_assign rfl (lt rfl)) rfl rfl ?_
  refine hits_nil ?_
  refine to_next ?_
  refine hits_block ?_
  refine hits_once ?_
  refine hits_seq ?_
  refine hits_seq ?_
  refine hits_region ?_
  refine sq (f_move rfl (lt rfl)) rfl rfl ?_
  refine sq (f_move rfl (lt rfl)) rfl rfl ?_
  refine sq (f_nil rfl rfl (lt rfl)) rfl rfl ?_
  refine sq (f_fieldAddr rfl kf65_9 rfl (lt rfl)) rfl rfl ?_
  refine sq (f_load kd42 rfl rfl (lt rfl)) rfl rfl ?_
  refine sq (f_lenList rfl rfl un42 (lt rfl)) rfl rfl ?_
  refine sq (f_bin rfl rfl (bT (decide_eq_false (by simp))) (lt rfl)) rfl rfl ?_
  refine hits_nil ?_
  refine to_next ?_
  refine hits_cond rfl (fun c0 => absurd c0 Bool.false_ne_true) (fun c0 => ?_)
  refine hits_exit ?_
  refine to_exit ?_
  refine to_exit ?_
  refine in_hit rfl ?_
  exact hits_done (.inr rfl) rfl rfl rfl

set_option maxRecDepth 100000 in
theorem lookMatch_no : CallsP Tryz.prog Tt 102 [.eptr [.any, .any, .any, .any, .any, .any, .any, .any, .any, .list 3 []]] (.sc (.bool true)) := by
  refine callsP_of gs_tt Tryz.func102 rfl Tryz.ntmps102 rfl fun w0 S0 stab => ?_
  refine hits_seq ?_
  refine hits_region ?_
  refine sq (f_assign rfl (lt rfl)) rfl rfl ?_
  refine hits_nil ?_
  refine to_next ?_
  refine hits_seq ?_
  refine hits_seq ?_
  refine hits_region ?_
  refine sq (f_assign rfl (lt rfl)) rfl rfl ?_
  refine hits_nil ?_
  refine to_next ?_
  refine hits_block ?_
  refine hits_once ?_
  refine hits_seq ?_
  refine hits_seq ?_
  refine hits_region ?_
  refine sq (f_move rfl (lt rfl)) rfl rfl ?_
  refine sq (f_move rfl (lt rfl)) rfl rfl ?_
  refine sq (f_nil rfl rfl (lt rfl)) rfl rfl ?_
  refine sq (f_fieldAddr rfl kf65_9 rfl (lt rfl)) rfl rfl ?_
  refine sq (f_load kd42 rfl rfl (lt rfl)) rfl rfl ?_
  refine sq (f_lenList rfl rfl un42 (lt rfl)) rfl rfl ?_
  refine sq (f_bin rfl rfl (bT (decide_eq_false (by simp))) (lt rfl)) rfl rfl ?_
  refine hits_nil ?_
  refine to_next ?_
  refine hits_cond rfl (fun c0 => absurd c0 Bool.false_ne_true) (fun c0 => ?_)
  refine hits_exit ?_
  refine to_exit ?_
  refine to_exit ?_
  refine in_hit rfl ?_
  refine to_next ?_
  refine hits_seq ?_
  refine hits_region ?_
  refine sq (f_assign rfl (lt rfl)) rfl rfl ?_
  refine hits_nil ?_
  refine to_next ?_
  refine hits_ret ?_
  exact hits_done (.inl rfl) rfl rfl rfl

set_option maxRecDepth 100000 in
theorem fillArr_no : CallsP Tryz.prog Tt 43 [.eptr [.any, .any, .any, .any, .any, .any, .any, .any, .any, .any, .list 3 []]] (.tup []) := by
  refine callsP_of gs_tt Tryz.func43 rfl Tryz.ntmps43 rfl fun w0 S0 stab => ?_
  refine hits_seq ?_
  refine hits_region ?_
  refine sq (f_assign rfl (lt rfl)) rfl rfl ?_
  refine hits_nil ?_
  refine to_next ?_
  refine hits_block ?_
  refine hits_once ?_
  refine hits_seq ?_
  refine hits_seq ?_
  refine hits_region ?_
  refine sq (f_move rfl (lt rfl)) rfl rfl ?_
  refine sq (f_move rfl (lt rfl)) rfl rfl ?_
  refine sq (f_nil rfl rfl (lt rfl)) rfl rfl ?_
  refine sq (f_fieldAddr rfl kf65_10 rfl (lt rfl)) rfl rfl ?_
  refine sq (f_load kd43 rfl rfl (lt rfl)) rfl rfl ?_
  refine sq (f_lenList rfl rfl un43 (lt rfl)) rfl rfl ?_
  refine sq (f_bin rfl rfl (bT (decide_eq_false (by simp))) (lt rfl)) rfl rfl ?_
  refine hits_nil ?_
  refine to_next ?_
  refine hits_cond rfl (fun c0 => absurd c0 Bool.false_ne_true) (fun c0 => ?_)
  refine hits_exit ?_
  refine to_exit ?_
  refine to_exit ?_
  refine in_hit rfl ?_
  exact hits_done (.inr rfl) rfl rfl rfl

set_option maxRecDepth 100000 in
theorem growArr_no : CallsP Tryz.prog Tt 73 [.eptr [.any, .any, .any, .any, .any, .any, .any, .any, .any, .any, .list 3 []]] (.tup []) := by
  refine callsP_of gs_tt Tryz.func73 rfl Tryz.ntmps73 rfl fun w0 S0 stab => ?_
  refine hits_seq ?_
  refine hits_region ?_
  refine sq (f_assign rfl (lt rfl)) rfl rfl ?_
  refine hits_nil ?_
  refine to_next ?_
  refine hits_block ?_
  refine hits_once ?_
  refine hits_seq ?_
  refine hits_seq ?_
  refine hits_region ?_
  refine sq (f_move rfl (lt rfl)) rfl rfl ?_
  refine sq (f_move rfl (lt rfl)) rfl rfl ?_
  refine sq (f_nil rfl rfl (lt rfl)) rfl rfl ?_
  refine sq (f_fieldAddr rfl kf65_10 rfl (lt rfl)) rfl rfl ?_
  refine sq (f_load kd43 rfl rfl (lt rfl)) rfl rfl ?_
  refine sq (f_lenList rfl rfl un43 (lt rfl)) rfl rfl ?_
  refine sq (f_bin rfl rfl (bT (decide_eq_false (by simp))) (lt rfl)) rfl rfl ?_
  refine hits_nil ?_
  refine to_next ?_
  refine hits_cond rfl (fun c0 => absurd c0 Bool.false_ne_true) (fun c0 => ?_)
  refine hits_exit ?_
  refine to_exit ?_
  refine to_exit ?_
  refine in_hit rfl ?_
  exact hits_done (.inr rfl) rfl rfl rfl

set_option maxRecDepth 100000 in
theorem lookArr_no : CallsP Tryz.prog Tt 103 [.eptr [.any, .any, .any, .any, .any, .any, .any, .any, .any, .any, .list 3 []]] (.sc (.bool true)) := by
  refine callsP_of gs_tt Tryz.func103 rfl Tryz.ntmps103 rfl fun w0 S0 stab => ?_
  refine hits_seq ?_
  refine hits_region ?_
  refine sq (f_assign rfl (lt rfl)) rfl rfl ?_
  refine hits_nil ?_
  refine to_next ?_
  refine hits_seq ?_
  refine hits_seq ?_
  refine hits_region ?_
  refine sq (f_assign rfl (lt rfl)) rfl rfl ?_
  refine hits_nil ?_
  refine to_next ?_
  refine hits_block ?_
  refine hits_once ?_
  refine hits_seq ?_
  refine hits_seq ?_
  refine hits_region ?_
  refine sq (f_move rfl (lt rfl)) rfl rfl ?_
  refine sq (f_move rfl (lt rfl)) rfl rfl ?_
  refine sq (f_nil rfl rfl (lt rfl)) rfl rfl ?_
  refine sq (f_fieldAddr rfl kf65_10 rfl (lt rfl)) rfl rfl ?_
  refine sq (f_load kd43 rfl rfl (lt rfl)) rfl rfl ?_
  refine sq (f_lenList rfl rfl un43 (lt rfl)) rfl rfl ?_
  refine sq (f_bin rfl rfl (bT (decide_eq_false (by simp))) (lt rfl)) rfl rfl ?_
  refine hits_nil ?_
  refine to_next ?_
  refine hits_cond rfl (fun c0 => absurd c0 Bool.false_ne_true) (fun c0 => ?_)
  refine hits_exit ?_
  refine to_exit ?_
  refine to_exit ?_
  refine in_hit rfl ?_
  refine to_next ?_
  refine hits_seq ?_
  refine hits_region ?_
  refine sq (f_assign rfl (lt rfl)) rfl rfl ?_
  refine hits_nil ?_
  refine to_next ?_
  refine hits_ret ?_
  exact hits_done (.inl rfl) rfl rfl rfl

set_option maxRecDepth 100000 in
theorem fillCase_no : CallsP Tryz.prog Tt 44 [.eptr [.any, .any, .any, .any, .any, .any, .any, .any, .any, .any, .any, .list 3 []]] (.tup []) := by
  refine callsP_of gs_tt Tryz.func44 rfl Tryz.ntmps44 rfl fun w0 S0 stab => ?_
  refine hits_seq ?_
  refine hits_region ?_
  refine sq (f_assign rfl (lt rfl)) rfl rfl ?_
  refine hits_nil ?_
  refine to_next ?_
  refine hits_block ?_
  refine hits_once ?_
  refine hits_seq ?_
  refine hits_seq ?_
  refine hits_region ?_
  refine sq (f_move rfl (lt rfl)) rfl rfl ?_
  refine sq (f_move rfl (lt rfl)) rfl rfl ?_
  refine sq (f_nil rfl rfl (lt rfl)) rfl rfl ?_
  refine sq (f_fieldAddr rfl kf65_11 rfl (lt rfl)) rfl rfl ?_
  refine sq (f_load kd44 rfl rfl (lt rfl)) rfl rfl ?_
  refine sq (f_lenList rfl rfl un44 (lt rfl)) rfl rfl ?_
  refine sq (f_bin rfl rfl (bT (decide_eq_false (by simp))) (lt rfl)) rfl rfl ?_
  refine hits_nil ?_
  refine to_next ?_
  refine hits_cond rfl (fun c0 => absurd c0 Bool.false_ne_true) (fun c0 => ?_)
  refine hits_exit ?_
  refine to_exit ?_
  refine to_exit ?_
  refine in_hit rfl ?_
  exact hits_done (.inr rfl) rfl rfl rfl

set_option maxRecDepth 100000 in
theorem growCase_no : CallsP Tryz.prog Tt 74 [.eptr [.any, .any, .any, .any, .any, .any, .any, .any, .any, .any, .any, .list 3 []]] (.tup []) := by
  refine callsP_of gs_tt Tryz.func74 rfl Tryz.ntmps74 rfl fun w0 S0 stab => ?_
  refine hits_seq ?_
  refine hits_region ?_
  refine sq (f_assign rfl (lt rfl)) rfl rfl ?_
  refine hits_nil ?_
  refine to_next ?_
  refine hits_block ?_
  refine hits_once ?_
  refine hits_seq ?_
  refine hits_seq ?_
  refine hits_region ?_
  refine sq (f_move rfl (lt rfl)) rfl rfl ?_
  refine sq (f_move rfl (lt rfl)) rfl rfl ?_
  refine sq (f_nil rfl rfl (lt rfl)) rfl rfl ?_
  refine sq (f_fieldAddr rfl kf65_11 rfl (lt rfl)) rfl rfl ?_
  refine sq (f_load kd44 rfl rfl (lt rfl)) rfl rfl ?_
  refine sq (f_lenList rfl rfl un44 (lt rfl)) rfl rfl ?_
  refine sq (f_bin rfl rfl (bT (decide_eq_false (by simp))) (lt rfl)) rfl rfl ?_
  refine hits_nil ?_
  refine to_next ?_
  refine hits_cond rfl (fun c0 => absurd c0 Bool.false_ne_true) (fun c0 => ?_)
  refine hits_exit ?_
  refine to_exit ?_
  refine to_exit ?_
  refine in_hit rfl ?_
  exact hits_done (.inr rfl) rfl rfl rfl

set_option maxRecDepth 100000 in
theorem lookCase_no : CallsP Tryz.prog Tt 104 [.eptr [.any, .any, .any, .any, .any, .any, .any, .any, .any, .any, .any, .list 3 []]] (.sc (.bool true)) := by
  refine callsP_of gs_tt Tryz.func104 rfl Tryz.ntmps104 rfl fun w0 S0 stab => ?_
  refine hits_seq ?_
  refine hits_region ?_
  refine sq (f_assign rfl (lt rfl)) rfl rfl ?_
  refine hits_nil ?_
  refine to_next ?_
  refine hits_seq ?_
  refine hits_seq ?_
  refine hits_region ?_
  refine sq (f_assign rfl (lt rfl)) rfl rfl ?_
  refine hits_nil ?_
  refine to_next ?_
  refine hits_block ?_
  refine hits_once ?_
  refine hits_seq ?_
  refine hits_seq ?_
  refine hits_region ?_
  refine sq (f_move rfl (lt rfl)) rfl rfl ?_
  refine sq (f_move rfl (lt rfl)) rfl rfl ?_
  refine sq (f_nil rfl rfl (lt rfl)) rfl rfl ?_
  refine sq (f_fieldAddr rfl kf65_11 rfl (lt rfl)) rfl rfl ?_
  refine sq (f_load kd44 rfl rfl (lt rfl)) rfl rfl ?_
  refine sq (f_lenList rfl rfl un44 (lt rfl)) rfl rfl ?_
  refine sq (f_bin rfl rfl (bT (decide_eq_false (by simp))) (lt rfl)) rfl rfl ?_
  refine hits_nil ?_
  refine to_next ?_
  refine hits_cond rfl (fun c0 => absurd c0 Bool.false_ne_true) (fun c0 => ?_)
  refine hits_exit ?_
  refine to_exit ?_
  refine to_exit ?_
  refine in_hit rfl ?_
  refine to_next ?_
  refine hits_seq ?_
  refine hits_region ?_
  refine sq (f_assign rfl (lt rfl)) rfl rfl ?_
  refine hits_nil ?_
  refine to_next ?_
  refine hits_ret ?_
  exact hits_done (.inl rfl) rfl rfl rfl

set_option maxRecDepth 100000 in
theorem fillJump_no : CallsP Tryz.prog Tt 45 [.eptr [.any, .any, .any, .any, .any, .any, .any, .any, .any, .any, .any, .any, .list 3 []]] (.tup []) := by
  refine callsP_of gs_tt Tryz.func45 rfl Tryz.ntmps45 rfl fun w0 S0 stab => ?_
  refine hits_seq ?_
  refine hits_region ?_
  refine sq (f_assign rfl (lt rfl)) rfl rfl ?_
  refine hits_nil ?_
  refine to_next ?_
  refine hits_block ?_
  refine hits_once ?_
  refine hits_seq ?_
  refine hits_seq ?_
  refine hits_region ?_
  refine sq (f_move rfl (lt rfl)) rfl rfl ?_
  refine sq (f_move rfl (lt rfl)) rfl rfl ?_
  refine sq (f_nil rfl rfl (lt rfl)) rfl rfl ?_
  refine sq (f_fieldAddr rfl kf65_12 rfl (lt rfl)) rfl rfl ?_
  refine sq (f_load kd45 rfl rfl (lt rfl)) rfl rfl ?_
  refine sq (f_lenList rfl rfl un45 (lt rfl)) rfl rfl ?_
  refine sq (f_bin rfl rfl (bT (decide_eq_false (by simp))) (lt rfl)) rfl rfl ?_
  refine hits_nil ?_
  refine to_next ?_
  refine hits_cond rfl (fun c0 => absurd c0 Bool.false_ne_true) (fun c0 => ?_)
  refine hits_exit ?_
  refine to_exit ?_
  refine to_exit ?_
  refine in_hit rfl ?_
  exact hits_done (.inr rfl) rfl rfl rfl

set_option maxRecDepth 100000 in
theorem growJump_no : CallsP Tryz.prog Tt 75 [.eptr [.any, .any, .any, .any, .any, .any, .any, .any, .any, .any, .any, .any, .list 3 []]] (.tup []) := by
  refine callsP_of gs_tt Tryz.func75 rfl Tryz.ntmps75 rfl fun w0 S0 stab => ?_
  refine hits_seq ?_
  refine hits_region ?_
  refine sq (f_assign rfl (lt rfl)) rfl rfl ?_
  refine hits_nil ?_
  refine to_next ?_
  refine hits_block ?_
  refine hits_once ?_
  refine hits_seq ?_
  refine hits_seq ?_
  refine hits_region ?_
  refine sq (f_move rfl (lt rfl)) rfl rfl ?_
  refine sq (f_move rfl (lt rfl)) rfl rfl ?_
  refine sq (f_nil rfl rfl (lt rfl)) rfl rfl ?_
  refine sq (f_fieldAddr rfl kf65_12 rfl (lt rfl)) rfl rfl ?_
  refine sq (f_load kd45 rfl rfl (lt rfl)) rfl rfl ?_
  refine sq (f_lenList rfl rfl un45 (lt rfl)) rfl rfl ?_
  refine sq (f_bin rfl rfl (bT (decide_eq_false (by simp))) (lt rfl)) rfl rfl ?_
  refine hits_nil ?_
  refine to_next ?_
  refine hits_cond rfl (fun c0 => absurd c0 Bool.false_ne_true) (fun c0 => ?_)
  refine hits_exit ?_
  refine to_exit ?_
  refine to_exit ?_
  refine in_hit rfl ?_
  exact hits_done (.inr rfl) rfl rfl rfl

set_option maxRecDepth 100000 in
theorem lookJump_no : CallsP Tryz.prog Tt 105 [.eptr [.any, .any, .any, .any, .any, .any, .any, .any, .any, .any, .any, .any, .list 3 []]] (.sc (.bool true)) := by
  refine callsP_of gs_tt Tryz.func105 rfl Tryz.ntmps105 rfl fun w0 S0 stab => ?_
  refine hits_seq ?_
  refine hits_region ?_
  refine sq (f_assign rfl (lt rfl)) rfl rfl ?_
  refine hits_nil ?_
  refine to_next ?_
  refine hits_seq ?_
  refine hits_seq ?_
  refine hits_region ?_
  refine sq (f_assign rfl (lt rfl)) rfl rfl ?_
  refine hits_nil ?_
  refine to_next ?_
  refine hits_block ?_
  refine hits_once ?_
  refine hits_seq ?_
  refine hits_seq ?_
  refine hits_region ?_
  refine sq (f_move rfl (lt rfl)) rfl rfl ?_
  refine sq (f_move rfl (lt rfl)) rfl rfl ?_
  refine sq (f_nil rfl rfl (lt rfl)) rfl rfl ?_
  refine sq (f_fieldAddr rfl kf65_12 rfl (lt rfl)) rfl rfl ?_
  refine sq (f_load kd45 rfl rfl (lt rfl)) rfl rfl ?_
  refine sq (f_lenList rfl rfl un45 (lt rfl)) rfl rfl ?_
  refine sq (f_bin rfl rfl (bT (decide_eq_false (by simp))) (lt rfl)) rfl rfl ?_
  refine hits_nil ?_
  refine to_next ?_
  refine hits_cond rfl (fun c0 => absurd c0 Bool.false_ne_true) (fun c0 => ?_)
  refine hits_exit ?_
  refine to_exit ?_
  refine to_exit ?_
  refine in_hit rfl ?_
  refine to_next ?_
  refine hits_seq ?_
  refine hits_region ?_
  refine sq (f_assign rfl (lt rfl)) rfl rfl ?_
  refine hits_nil ?_
  refine to_next ?_
  refine hits_ret ?_
  exact hits_done (.inl rfl) rfl rfl rfl

set_option maxRecDepth 100000 in
theorem fillExpr_no : CallsP Tryz.prog Tt 46 [.eptr [.any, .any, .any, .any, .any, .any, .any, .any, .any, .any, .any, .any, .any, .list 3 []]] (.tup []) := by
  refine callsP_of gs_tt Tryz.func46 rfl Tryz.ntmps46 rfl fun w0 S0 stab => ?_
  refine hits_seq ?_
  refine hits_region ?_
  refine sq (f_assign rfl (lt rfl)) rfl rfl ?_
  refine hits_nil ?_
  refine to_next ?_
  refine hits_block ?_
  refine hits_once ?_
  refine hits_seq ?_
  refine hits_seq ?_
  refine hits_region ?_
  refine sq (f_move rfl (lt rfl)) rfl rfl ?_
  refine sq (f_move rfl (lt rfl)) rfl rfl ?_
  refine sq (f_nil rfl rfl (lt rfl)) rfl rfl ?_
  refine sq (f_fieldAddr rfl kf65_13 rfl (lt rfl)) rfl rfl ?_
  refine sq (f_load kd46 rfl rfl (lt rfl)) rfl rfl ?_
  refine sq (f_lenList rfl rfl un46 (lt rfl)) rfl rfl ?_
  refine sq (f_bin rfl rfl (bT (decide_eq_false (by simp))) (lt rfl)) rfl rfl ?_
  refine hits_nil ?_
  refine to_next ?_
  refine hits_cond rfl (fun c0 => absurd c0 Bool.false_ne_true) (fun c0 => ?_)
  refine hits_exit ?_
  refine to_exit ?_
  refine to_exit ?_
  refine in_hit rfl ?_
  exact hits_done (.inr rfl) rfl rfl rfl

set_option maxRecDepth 100000 in
theorem growExpr_no : CallsP Tryz.prog Tt 76 [.eptr [.any, .any, .any, .any, .any, .any, .any, .any, .any, .any, .any, .any, .any, .list 3 []]] (.tup []) := by
  refine callsP_of gs_tt Tryz.func76 rfl Tryz.ntmps76 rfl fun w0 S0 stab => ?_
  refine hits_seq ?_
  refine hits_region ?_
  refine sq (f_assign rfl (lt rfl)) rfl rfl ?_
  refine hits_nil ?_
  refine to_next ?_
  refine hits_block ?_
  refine hits_once ?_
  refine hits_seq ?_
  refine hits_seq ?_
  refine hits_region ?_
  refine sq (f_move rfl (lt rfl)) rfl rfl ?_
  refine sq (f_move rfl (lt rfl)) rfl rfl ?_
  refine sq (f_nil rfl rfl (lt rfl)) rfl rfl ?_
  refine sq (f_fieldAddr rfl kf65_13 rfl (lt rfl)) rfl rfl ?_
  refine sq (f_load kd46 rfl rfl (lt rfl)) rfl rfl ?_
  refine sq (f_lenList rfl rfl un46 (lt rfl)) rfl rfl ?_
  refine sq (f_bin rfl rfl (bT (decide_eq_false (by simp))) (lt rfl)) rfl rfl ?_
  refine hits_nil ?_
  refine to_next ?_
  refine hits_cond rfl (fun c0 => absurd c0 Bool.false_ne_true) (fun c0 => ?_)
  refine hits_exit ?_
  refine to_exit ?_
  refine to_exit ?_
  refine in_hit rfl ?_
  exact hits_done (.inr rfl) rfl rfl rfl

set_option maxRecDepth 100000 in
theorem lookExpr_no : CallsP Tryz.prog Tt 106 [.eptr [.any, .any, .any, .any, .any, .any, .any, .any, .any, .any, .any, .any, .any, .list 3 []]] (.sc (.bool true)) := by
  refine callsP_of gs_tt Tryz.func106 rfl Tryz.ntmps106 rfl fun w0 S0 stab => ?_
  refine hits_seq ?_
  refine hits_region ?_
  refine sq (f_assign rfl (lt rfl)) rfl rfl ?_
  refine hits_nil ?_
  refine to_next ?_
  refine hits_seq ?_
  refine hits_seq ?_
  refine hits_region ?_
  refine sq (f_assign rfl (lt rfl)) rfl rfl ?_
  refine hits_nil ?_
  refine to_next ?_
  refine hits_block ?_
  refine hits_once ?_
  refine hits_seq ?_
  refine hits_seq ?_
  refine hits_region ?_
  refine sq (f_move rfl (lt rfl)) rfl rfl ?_
  refine sq (f_move rfl (lt rfl)) rfl rfl ?_
  refine sq (f_nil rfl rfl (lt rfl)) rfl rfl ?_
  refine sq (f_fieldAddr rfl kf65_13 rfl (lt rfl)) rfl rfl ?_
  refine sq (f_load kd46 rfl rfl (lt rfl)) rfl rfl ?_
  refine sq (f_lenList rfl rfl un46 (lt rfl)) rfl rfl ?_
  refine sq (f_bin rfl rfl (bT (decide_eq_false (by simp))) (lt rfl)) rfl rfl ?_
  refine hits_nil ?_
  refine to_next ?_
  refine hits_cond rfl (fun c0 => absurd c0 Bool.false_ne_true) (fun c0 => ?_)
  refine hits_exit ?_
  refine to_exit ?_
  refine to_exit ?_
  refine in_hit rfl ?_
  refine to_next ?_
  refine hits_seq ?_
  refine hits_region ?_
  refine sq (f_assign rfl (lt rfl)) rfl rfl ?_
  refine hits_nil ?_
  refine to_next ?_
  refine hits_ret ?_
  exact hits_done (.inl rfl) rfl rfl rfl

set_option maxRecDepth 100000 in
theorem fillStmt_no : CallsP Tryz.prog Tt 47 [.eptr [.any, .any, .any, .any, .any, .any, .any, .any, .any, .any, .any, .any, .any, .any, .list 3 []]] (.tup []) := by
  refine callsP_of gs_tt Tryz.func47 rfl Tryz.ntmps47 rfl fun w0 S0 stab => ?_
  refine hits_seq ?_
  refine hits_region ?_
  refine sq (f_assign rfl (lt rfl)) rfl rfl ?_
  refine hits_nil ?_
  refine to_next ?_
  refine hits_block ?_
  refine hits_once ?_
  refine hits_seq ?_
  refine hits_seq ?_
  refine hits_region ?_
  refine sq (f_move rfl (lt rfl)) rfl rfl ?_
  refine sq (f_move rfl (lt rfl)) rfl rfl ?_
  refine sq (f_nil rfl rfl (lt rfl)) rfl rfl ?_
  refine sq (f_fieldAddr rfl kf65_14 rfl (lt rfl)) rfl rfl ?_
  refine sq (f_load kd47 rfl rfl (lt rfl)) rfl rfl ?_
  refine sq (f_lenList rfl rfl un47 (lt rfl)) rfl rfl ?_
  refine sq (f_bin rfl rfl (bT (decide_eq_false (by simp))) (lt rfl)) rfl rfl ?_
  refine hits_nil ?_
  refine to_next ?_
  refine hits_cond rfl (fun c0 => absurd c0 Bool.false_ne_true) (fun c0 => ?_)
  refine hits_exit ?_
  refine to_exit ?_
  refine to_exit ?_
  refine in_hit rfl ?_
  exact hits_done (.inr rfl) rfl rfl rfl

set_option maxRecDepth 100000 in
theorem growStmt_no : CallsP Tryz.prog Tt 77 [.eptr [.any, .any, .any, .any, .any, .any, .any, .any, .any, .any, .any, .any, .any, .any, .list 3 []]] (.tup []) := by
  refine callsP_of gs_tt Tryz.func77 rfl Tryz.ntmps77 rfl fun w0 S0 stab => ?_
  refine hits_seq ?_
  refine hits_region ?_
  refine sq (f_assign rfl (lt rfl)) rfl rfl ?_
  refine hits_nil ?_
  refine to_next ?_
  refine hits_block ?_
  refine hits_once ?_
  refine hits_seq ?_
  refine hits_seq ?_
  refine hits_region ?_
  refine sq (f_move rfl (lt rfl)) rfl rfl ?_
  refine sq (f_move rfl (lt rfl)) rfl rfl ?_
  refine sq (f_nil rfl rfl (lt rfl)) rfl rfl ?_
  refine sq (f_fieldAddr rfl kf65_14 rfl (lt rfl)) rfl rfl ?_
  refine sq (f_load kd47 rfl rfl (lt rfl)) rfl rfl ?_
  refine sq (f_lenList rfl rfl un47 (lt rfl)) rfl rfl ?_
  refine sq (f_bin rfl rfl (bT (decide_eq_false (by simp))) (lt rfl)) rfl rfl ?_
  refine hits_nil ?_
  refine to_next ?_
  refine hits_cond rfl (fun c0 => absurd c0 Bool.false_ne_true) (fun c0 => ?_)
  refine hits_exit ?_
  refine to_exit ?_
  refine to_exit ?_
  refine in_hit rfl ?_
  exact hits_done (.inr rfl) rfl rfl rfl

set_option maxRecDepth 100000 in
theorem lookStmt_no : CallsP Tryz.prog Tt 107 [.eptr [.any, .any, .any, .any, .any, .any, .any, .any, .any, .any, .any, .any, .any, .any, .list 3 []]] (.sc (.bool true)) := by
  refine callsP_of gs_tt Tryz.func107 rfl Tryz.ntmps107 rfl fun w0 S0 stab => ?_
  refine hits_seq ?_
  refine hits_region ?_
  refine sq (f_assign rfl (lt rfl)) rfl rfl ?_
  refine hits_nil ?_
  refine to_next ?_
  refine hits_seq ?_
  refine hits_seq ?_
  refine hits_region ?_
  refine sq (f_assign rfl (lt rfl)) rfl rfl ?_
  refine hits_nil ?_
  refine to_next ?_
  refine hits_block ?_
  refine hits_once ?_
  refine hits_seq ?_
  refine hits_seq ?_
  refine hits_region ?_
  refine sq (f_move rfl (lt rfl)) rfl rfl ?_
  refine sq (f_move rfl (lt rfl)) rfl rfl ?_
  refine sq (f_nil rfl rfl (lt rfl)) rfl rfl ?_
  refine sq (f_fieldAddr rfl kf65_14 rfl (lt rfl)) rfl rfl ?_
  refine sq (f_load kd47 rfl rfl (lt rfl)) rfl rfl ?_
  refine sq (f_lenList rfl rfl un47 (lt rfl)) rfl rfl ?_
  refine sq (f_bin rfl rfl (bT (decide_eq_false (by simp))) (lt rfl)) rfl rfl ?_
  refine hits_nil ?_
  refine to_next ?_
  refine hits_cond rfl (fun c0 => absurd c0 Bool.false_ne_true) (fun c0 => ?_)
  refine hits_exit ?_
  refine to_exit ?_
  refine to_exit ?_
  refine in_hit rfl ?_
  refine to_next ?_
  refine hits_seq ?_
  refine hits_region ?_
  refine sq (f_assign rfl (lt rfl)) rfl rfl ?_
  refine hits_nil ?_
  refine to_next ?_
  refine hits_ret ?_
  exact hits_done (.inl rfl) rfl rfl rfl

set_option maxRecDepth 100000 in
theorem fillState_no : CallsP Tryz.prog Tt 48 [.eptr [.any, .any, .any, .any, .any, .any, .any, .any, .any, .any, .any, .any, .any, .any, .any, .list 3 []]] (.tup []) := by
  refine callsP_of gs_tt Tryz.func48 rfl Tryz.ntmps48 rfl fun w0 S0 stab => ?_
  refine hits_seq ?_
  refine hits_region ?_
  refine sq (f_assign rfl (lt rfl)) rfl rfl ?_
  refine hits_nil ?_
  refine to_next ?_
  refine hits_block ?_
  refine hits_once ?_
  refine hits_seq ?_
  refine hits_seq ?_
  refine hits_region ?_
  refine sq (f_move rfl (lt rfl)) rfl rfl ?_
  refine sq (f_move rfl (lt rfl)) rfl rfl ?_
  refine sq (f_nil rfl rfl (lt rfl)) rfl rfl ?_
  refine sq (f_fieldAddr rfl kf65_15 rfl (lt rfl)) rfl rfl ?_
  refine sq (f_load kd48 rfl rfl (lt rfl)) rfl rfl ?_
  refine sq (f_lenList rfl rfl un48 (lt rfl)) rfl rfl ?_
  refine sq (f_bin rfl rfl (bT (decide_eq_false (by simp))) (lt rfl)) rfl rfl ?_
  refine hits_nil ?_
  refine to_next ?_
  refine hits_cond rfl (fun c0 => absurd c0 Bool.false_ne_true) (fun c0 => ?_)
  refine hits_exit ?_
  refine to_exit ?_
  refine to_exit ?_
  refine in_hit rfl ?_
  exact hits_done (.inr rfl) rfl rfl rfl

set_option maxRecDepth 100000 in
theorem growState_no : CallsP Tryz.prog Tt 78 [.eptr [.any, .any, .any, .any, .any, .any, .any, .any, .any, .any, .any, .any, .any, .any, .any, .list 3 []]] (.tup []) := by
  refine callsP_of gs_tt Tryz.func78 rfl Tryz.ntmps78 rfl fun w0 S0 stab => ?_
  refine hits_seq ?_
  refine hits_region ?_
  refine sq (f_assign rfl (lt rfl)) rfl rfl ?_
  refine hits_nil ?_
  refine to_next ?_
  refine hits_block ?_
  refine hits_once ?_
  refine hits_seq ?_
  refine hits_seq ?_
  refine hits_region ?_
  refine sq (f_move rfl (lt rfl)) rfl rfl ?_
  refine sq (f_move rfl (lt rfl)) rfl rfl ?_
  refine sq (f_nil rfl rfl (lt rfl)) rfl rfl ?_
  refine sq (f_fieldAddr rfl kf65_15 rfl (lt rfl)) rfl rfl ?_
  refine sq (f_load kd48 rfl rfl (lt rfl)) rfl rfl ?_
  refine sq (f_lenList rfl rfl un48 (lt rfl)) rfl rfl ?_
  refine sq (f_bin rfl rfl (bT (decide_eq_false (by simp))) (lt rfl)) rfl rfl ?_
  refine hits_nil ?_
  refine to_next ?_
  refine hits_cond rfl (fun c0 => absurd c0 Bool.false_ne_true) (fun c0 => ?_)
  refine hits_exit ?_
  refine to_exit ?_
  refine to_exit ?_
  refine in_hit rfl ?_
  exact hits_done (.inr rfl) rfl rfl rfl

set_option maxRecDepth 100000 in
theorem lookState_no : CallsP Tryz.prog Tt 108 [.eptr [.any, .any, .any, .any, .any, .any, .any, .any, .any, .any, .any, .any, .any, .any, .any, .list 3 []]] (.sc (.bool true)) := by
  refine callsP_of gs_tt Tryz.func108 rfl Tryz.ntmps108 rfl fun w0 S0 stab => ?_
  refine hits_seq ?_
  refine hits_region ?_
  refine sq (f_assign rfl (lt rfl)) rfl rfl ?_
  refine hits_nil ?_
  refine to_next ?_
  refine hits_seq ?_
  refine hits_seq ?_
  refine hits_region ?_
  refine sq (f_assign rfl (lt rfl)) rfl rfl ?_
  refine hits_nil ?_
  refine to_next ?_
  refine hits_block ?_
  refine hits_once ?_
  refine hits_seq ?_
  refine hits_seq ?_
  refine hits_region ?_
  refine sq (f_move rfl (lt rfl)) rfl rfl ?_
  refine sq (f_move rfl (lt rfl)) rfl rfl ?_
  refine sq (f_nil rfl rfl (lt rfl)) rfl rfl ?_
  refine sq (f_fieldAddr rfl kf65_15 rfl (lt rfl)) rfl rfl ?_
  refine sq (f_load kd48 rfl rfl (lt rfl)) rfl rfl ?_
  refine sq (f_lenList rfl rfl un48 (lt rfl)) rfl rfl ?_
  refine sq (f_bin rfl rfl (bT (decide_eq_false (by simp))) (lt rfl)) rfl rfl ?_
  refine hits_nil ?_
  refine to_next ?_
  refine hits_cond rfl (fun c0 => absurd c0 Bool.false_ne_true) (fun c0 => ?_)
  refine hits_exit ?_
  refine to_exit ?_
  refine to_exit ?_
  refine in_hit rfl ?_
  refine to_next ?_
  refine hits_seq ?_
  refine hits_region ?_
  refine sq (f_assign rfl (lt rfl)) rfl rfl ?_
  refine hits_nil ?_
  refine to_next ?_
  refine hits_ret ?_
  exact hits_done (.inl rfl) rfl rfl rfl

set_option maxRecDepth 100000 in
theorem fillKey_no : CallsP Tryz.prog Tt 49 [.eptr [.any, .any, .any, .any, .any, .any, .any, .any, .any, .any, .any, .any, .any, .any, .any, .any, .list 3 []]] (.tup []) := by
  refine callsP_of gs_tt Tryz.func49 rfl Tryz.ntmps49 rfl fun w0 S0 stab => ?_
  refine hits_seq ?_
  refine hits_region ?_
  refine sq (f_assign rfl (lt rfl)) rfl rfl ?_
  refine hits_nil ?_
  refine to_next ?_
  refine hits_block ?_
  refine hits_once ?_
  refine hits_seq ?_
  refine hits_seq ?_
  refine hits_region ?_
  refine sq (f_move rfl (lt rfl)) rfl rfl ?_
  refine sq (f_move rfl (lt rfl)) rfl rfl ?_
  refine sq (f_nil rfl rfl (lt rfl)) rfl rfl ?_
  refine sq (f_fieldAddr rfl kf65_16 rfl (lt rfl)) rfl rfl ?_
  refine sq (f_load kd49 rfl rfl (lt rfl)) rfl rfl ?_
  refine sq (f_lenList rfl rfl un49 (lt rfl)) rfl rfl ?_
  refine sq (f_bin rfl rfl (bT (decide_eq_false (by simp))) (lt rfl)) rfl rfl ?_
  refine hits_nil ?_
  refine to_next ?_
  refine hits_cond rfl (fun c0 => absurd c0 Bool.false_ne_true) (fun c0 => ?_)
  refine hits_exit ?_
  refine to_exit ?_
  refine to_exit ?_
  refine in_hit rfl ?_
  exact hits_done (.inr rfl) rfl rfl rfl

set_option maxRecDepth 100000 in
theorem growKey_no : CallsP Tryz.prog Tt 79 [.eptr [.any, .any, .any, .any, .any, .any, .any, .any, .any, .any, .any, .any, .any, .any, .any, .any, .list 3 []]] (.tup []) := by
  refine callsP_of gs_tt Tryz.func79 rfl Tryz.ntmps79 rfl fun w0 S0 stab => ?_
  refine hits_seq ?_
  refine hits_region ?_
  refine sq (f_assign rfl (lt rfl)) rfl rfl ?_
  refine hits_nil ?_
  refine to_next ?_
  refine hits_block ?_
  refine hits_once ?_
  refine hits_seq ?_
  refine hits_seq ?_
  refine hits_region ?_
  refine sq (f_move rfl (lt rfl)) rfl rfl ?_
  refine sq (f_move rfl (lt rfl)) rfl rfl ?_
  refine sq (f_nil rfl rfl (lt rfl)) rfl rfl ?_
  refine sq (f_fieldAddr rfl kf65_16 rfl (lt rfl)) rfl rfl ?_
  refine sq (f_load kd49 rfl rfl (lt rfl)) rfl rfl ?_
  refine sq (f_lenList rfl rfl un49 (lt rfl)) rfl rfl ?_
  refine sq (f_bin rfl rfl (bT (decide_eq_false (by simp))) (lt rfl)) rfl rfl ?_
  refine hits_nil ?_
  refine to_next ?_
  refine hits_cond rfl (fun c0 => absurd c0 Bool.false_ne_true) (fun c0 => ?_)
  refine hits_exit ?_
  refine to_exit ?_
  refine to_exit ?_
  refine in_hit rfl ?_
  exact hits_done (.inr rfl) rfl rfl rfl

set_option maxRecDepth 100000 in
theorem lookKey_no : CallsP Tryz.prog Tt 109 [.eptr [.any, .any, .any, .any, .any, .any, .any, .any, .any, .any, .any, .any, .any, .any, .any, .any, .list 3 []]] (.sc (.bool true)) := by
  refine callsP_of gs_tt Tryz.func109 rfl Tryz.ntmps109 rfl fun w0 S0 stab => ?_
  refine hits_seq ?_
  refine hits_region ?_
  refine sq (f_assign rfl (lt rfl)) rfl rfl ?_
  refine hits_nil ?_
  refine to_next ?_
  refine hits_seq ?_
  refine hits_seq ?_
  refine hits_region ?_
  refine sq (f_assign rfl (lt rfl)) rfl rfl ?_
  refine hits_nil ?_
  refine to_next ?_
  refine hits_block ?_
  refine hits_once ?_
  refine hits_seq ?_
  refine hits_seq ?_
  refine hits_region ?_
  refine sq (f_move rfl (lt rfl)) rfl rfl ?_
  refine sq (f_move rfl (lt rfl)) rfl rfl ?_
  refine sq (f_nil rfl rfl (lt rfl)) rfl rfl ?_
  refine sq (f_fieldAddr rfl kf65_16 rfl (lt rfl)) rfl rfl ?_
  refine sq (f_load kd49 rfl rfl (lt rfl)) rfl rfl ?_
  refine sq (f_lenList rfl rfl un49 (lt rfl)) rfl rfl ?_
  refine sq (f_bin rfl rfl (bT (decide_eq_false (by simp))) (lt rfl)) rfl rfl ?_
  refine hits_nil ?_
  refine to_next ?_
  refine hits_cond rfl (fun c0 => absurd c0 Bool.false_ne_true) (fun c0 => ?_)
  refine hits_exit ?_
  refine to_exit ?_
  refine to_exit ?_
  refine in_hit rfl ?_
  refine to_next ?_
  refine hits_seq ?_
  refine hits_region ?_
  refine sq (f_assign rfl (lt rfl)) rfl rfl ?_
  refine hits_nil ?_
  refine to_next ?_
  refine hits_ret ?_
  exact hits_done (.inl rfl) rfl rfl rfl

set_option maxRecDepth 100000 in
theorem fillDecl_no : CallsP Tryz.prog Tt 50 [.eptr [.any, .any, .any, .any, .any, .any, .any, .any, .any, .any, .any, .any, .any, .any, .any, .any, .any, .list 3 []]] (.tup []) := by
  refine callsP_of gs_tt Tryz.func50 rfl Tryz.ntmps50 rfl fun w0 S0 stab => ?_
  refine hits_seq ?_
  refine hits_region ?_
  refine sq (f_assign rfl (lt rfl)) rfl rfl ?_
  refine hits_nil ?_
  refine to_next ?_
  refine hits_block ?_
  refine hits_once ?_
  refine hits_seq ?_
  refine hits_seq ?_
  refine hits_region ?_
  refine sq (f_move rfl (lt rfl)) rfl rfl ?_
  refine sq (f_move rfl (lt rfl)) rfl rfl ?_
  refine sq (f_nil rfl rfl (lt rfl)) rfl rfl ?_
  refine sq (f_fieldAddr rfl kf65_17 rfl (lt rfl)) rfl rfl ?_
  refine sq (f_load kd50 rfl rfl (lt rfl)) rfl rfl ?_
  refine sq (f_lenList rfl rfl un50 (lt rfl)) rfl rfl ?_
  refine sq (f_bin rfl rfl (bT (decide_eq_false (by simp))) (lt rfl)) rfl rfl ?_
  refine hits_nil ?_
  refine to_next ?_
  refine hits_cond rfl (fun c0 => absurd c0 Bool.false_ne_true) (fun c0 => ?_)
  refine hits_exit ?_
  refine to_exit ?_
  refine to_exit ?_
  refine in_hit rfl ?_
  exact hits_done (.inr rfl) rfl rfl rfl

set_option maxRecDepth 100000 in
theorem growDecl_no : CallsP Tryz.prog Tt 80 [.eptr [.any, .any, .any, .any, .any, .any, .any, .any, .any, .any, .any, .any, .any, .any, .any, .any, .any, .list 3 []]] (.tup []) := by
  refine callsP_of gs_tt Tryz.func80 rfl Tryz.ntmps80 rfl fun w0 S0 stab => ?_
  refine hits_seq ?_
  refine hits_region ?_
  refine sq (f_assign rfl (lt rfl)) rfl rfl ?_
  refine hits_nil ?_
  refine to_next ?_
  refine hits_block ?_
  refine hits_once ?_
  refine hits_seq ?_
  refine hits_seq ?_
  refine hits_region ?_
  refine sq (f_move rfl (lt rfl)) rfl rfl ?_
  refine sq (f_move rfl (lt rfl)) rfl rfl ?_
  refine sq (f_nil rfl rfl (lt rfl)) rfl rfl ?_
  refine sq (f_fieldAddr rfl kf65_17 rfl (lt rfl)) rfl rfl ?_
  refine sq (f_load kd50 rfl rfl (lt rfl)) rfl rfl ?_
  refine sq (f_lenList rfl rfl un50 (lt rfl)) rfl rfl ?_
  refine sq (f_bin rfl rfl (bT (decide_eq_false (by simp))) (lt rfl)) rfl rfl ?_
  refine hits_nil ?_
  refine to_next ?_
  refine hits_cond rfl (fun c0 => absurd c0 Bool.false_ne_true) (fun c0 => ?_)
  refine hits_exit ?_
  refine to_exit ?_
  refine to_exit ?_
  refine in_hit rfl ?_
  exact hits_done (.inr rfl) rfl rfl rfl

set_option maxRecDepth 100000 in
theorem lookDecl_no : CallsP Tryz.prog Tt 110 [.eptr [.any, .any, .any, .any, .any, .any, .any, .any, .any, .any, .any, .any, .any, .any, .any, .any, .any, .list 3 []]] (.sc (.bool true)) := by
  refine callsP_of gs_tt Tryz.func110 rfl Tryz.ntmps110 rfl fun w0 S0 stab => ?_
  refine hits_seq ?_
  refine hits_region ?_
  refine sq (f_assign rfl (lt rfl)) rfl rfl ?_
  refine hits_nil ?_
  refine to_next ?_
  refine hits_seq ?_
  refine hits_seq ?_
  refine hits_region ?_
  refine sq (f_assign rfl (lt rfl)) rfl rfl ?_
  refine hits_nil ?_
  refine to_next ?_
  refine hits_block ?_
  refine hits_once ?_
  refine hits_seq ?_
  refine hits_seq ?_
  refine hits_region ?_
  refine sq (f_move rfl (lt rfl)) rfl rfl ?_
  refine sq (f_move rfl (lt rfl)) rfl rfl ?_
  refine sq (f_nil rfl rfl (lt rfl)) rfl rfl ?_
  refine sq (f_fieldAddr rfl kf65_17 rfl (lt rfl)) rfl rfl ?_
  refine sq (f_load kd50 rfl rfl (lt rfl)) rfl rfl ?_
  refine sq (f_lenList rfl rfl un50 (lt rfl)) rfl rfl ?_
  refine sq (f_bin rfl rfl (bT (decide_eq_false (by simp))) (lt rfl)) rfl rfl ?_
  refine hits_nil ?_
  refine to_next ?_
  refine hits_cond rfl (fun c0 => absurd c0 Bool.false_ne_true) (fun c0 => ?_)
  refine hits_exit ?_
  refine to_exit ?_
  refine to_exit ?_
  refine in_hit rfl ?_
  refine to_next ?_
  refine hits_seq ?_
  refine hits_region ?_
  refine sq (f_assign rfl (lt rfl)) rfl rfl ?_
  refine hits_nil ?_
  refine to_next ?_
  refine hits_ret ?_
  exact hits_done (.inl rfl) rfl rfl rfl

set_option maxRecDepth 100000 in
theorem fillEntry_no : CallsP Tryz.prog Tt 51 [.eptr [.any, .any, .any, .any, .any, .any, .any, .any, .any, .any, .any, .any, .any, .any, .any, .any, .any, .any, .list 3 []]] (.tup []) := by
  refine callsP_of gs_tt Tryz.func51 rfl Tryz.ntmps51 rfl fun w0 S0 stab => ?_
  refine hits_seq ?_
  refine hits_region ?_
  refine sq (f_assign rfl (lt rfl)) rfl rfl ?_
  refine hits_nil ?_
  refine to_next ?_
  refine hits_block ?_
  refine hits_once ?_
  refine hits_seq ?_
  refine hits_seq ?_
  refine hits_region ?_
  refine sq (f_move rfl (lt rfl)) rfl rfl ?_
  refine sq (f_move rfl (lt rfl)) rfl rfl ?_
  refine sq (f_nil rfl rfl (lt rfl)) rfl rfl ?_
  refine sq (f_fieldAddr rfl kf65_18 rfl (lt rfl)) rfl rfl ?_
  refine sq (f_load kd51 rfl rfl (lt rfl)) rfl rfl ?_
  refine sq (f_lenList rfl rfl un51 (lt rfl)) rfl rfl ?_
  refine sq (f_bin rfl rfl (bT (decide_eq_false (by simp))) (lt rfl)) rfl rfl ?_
  refine hits_nil ?_
  refine to_next ?_
  refine hits_cond rfl (fun c0 => absurd c0 Bool.false_ne_true) (fun c0 => ?_)
  refine hits_exit ?_
  refine to_exit ?_
  refine to_exit ?_
  refine in_hit rfl ?_
  exact hits_done (.inr rfl) rfl rfl rfl

set_option maxRecDepth 100000 in
theorem growEntry_no : CallsP Tryz.prog Tt 81 [.eptr [.any, .any, .any, .any, .any, .any, .any, .any, .any, .any, .any, .any, .any, .any, .any, .any, .any, .any, .list 3 []]] (.tup []) := by
  refine callsP_of gs_tt Tryz.func81 rfl Tryz.ntmps81 rfl fun w0 S0 stab => ?_
  refine hits_seq ?_
  refine hits_region ?_
  refine sq (f_assign rfl (lt rfl)) rfl rfl ?_
  refine hits_nil ?_
  refine to_next ?_
  refine hits_block ?_
  refine hits_once ?_
  refine hits_seq ?_
  refine hits_seq ?_
  refine hits_region ?_
  refine sq (f_move rfl (lt rfl)) rfl rfl ?_
  refine sq (f_move rfl (lt rfl)) rfl rfl ?_
  refine sq (f_nil rfl rfl (lt rfl)) rfl rfl ?_
  refine sq (f_fieldAddr rfl kf65_18 rfl (lt rfl)) rfl rfl ?_
  refine sq (f_load kd51 rfl rfl (lt rfl)) rfl rfl ?_
  refine sq (f_lenList rfl rfl un51 (lt rfl)) rfl rfl ?_
  refine sq (f_bin rfl rfl (bT (decide_eq_false (by simp))) (lt rfl)) rfl rfl ?_
  refine hits_nil ?_
  refine to_next ?_
  refine hits_cond rfl (fun c0 => absurd c0 Bool.false_ne_true) (fun c0 => ?_)
  refine hits_exit ?_
  refine to_exit ?_
  refine to_exit ?_
  refine in_hit rfl ?_
  exact hits_done (.inr rfl) rfl rfl rfl

set_option maxRecDepth 100000 in
theorem lookEntry_no : CallsP Tryz.prog Tt 111 [.eptr [.any, .any, .any, .any, .any, .any, .any, .any, .any, .any, .any, .any, .any, .any, .any, .any, .any, .any, .list 3 []]] (.sc (.bool true)) := by
  refine callsP_of gs_tt Tryz.func111 rfl Tryz.ntmps111 rfl fun w0 S0 stab => ?_
  refine hits_seq ?_
  refine hits_region ?_
  refine sq (f_assign rfl (lt rfl)) rfl rfl ?_
  refine hits_nil ?_
  refine to_next ?_
  refine hits_seq ?_
  refine hits_seq ?_
  refine hits_region ?_
  refine sq (f_assign rfl (lt rfl)) rfl rfl ?_
  refine hits_nil ?_
  refine to_next ?_
  refine hits_block ?_
  refine hits_once ?_
  refine hits_seq ?_
  refine hits_seq ?_
  refine hits_region ?_
  refine sq (f_move rfl (lt rfl)) rfl rfl ?_
  refine sq (f_move rfl (lt rfl)) rfl rfl ?_
  refine sq (f_nil rfl rfl (lt rfl)) rfl rfl ?_
  refine sq (f_fieldAddr rfl kf65_18 rfl (lt rfl)) rfl rfl ?_
  refine sq (f_load kd51 rfl rfl (lt rfl)) rfl rfl ?_
  refine sq (f_lenList rfl rfl un51 (lt rfl)) rfl rfl ?_
  refine sq (f_bin rfl rfl (bT (decide_eq_false (by simp))) (lt rfl)) rfl rfl ?_
  refine hits_nil ?_
  refine to_next ?_
  refine hits_cond rfl (fun c0 => absurd c0 Bool.false_ne_true) (fun c0 => ?_)
  refine hits_exit ?_
  refine to_exit ?_
  refine to_exit ?_
  refine in_hit rfl ?_
  refine to_next ?_
  refine hits_seq ?_
  refine hits_region ?_
  refine sq (f_assign rfl (lt rfl)) rfl rfl ?_
  refine hits_nil ?_
  refine to_next ?_
  refine hits_ret ?_
  exact hits_done (.inl rfl) rfl rfl rfl

set_option maxRecDepth 100000 in
theorem fillGroup_no : CallsP Tryz.prog Tt 52 [.eptr [.any, .any, .any, .any, .any, .any, .any, .any, .any, .any, .any, .any, .any, .any, .any, .any, .any, .any, .any, .list 3 []]] (.tup []) := by
  refine callsP_of gs_tt Tryz.func52 rfl Tryz.ntmps52 rfl fun w0 S0 stab => ?_
  refine hits_seq ?_
  refine hits_region ?_
  refine sq (f_assign rfl (lt rfl)) rfl rfl ?_
  refine hits_nil ?_
  refine to_next ?_
  refine hits_block ?_
  refine hits_once ?_
  refine hits_seq ?_
  refine hits_seq ?_
  refine hits_region ?_
  refine sq (f_move rfl (lt rfl)) rfl rfl ?_
  refine sq (f_move rfl (lt rfl)) rfl rfl ?_
  refine sq (f_nil rfl rfl (lt rfl)) rfl rfl ?_
  refine sq (f_fieldAddr rfl kf65_19 rfl (lt rfl)) rfl rfl ?_
  refine sq (f_load kd52 rfl rfl (lt rfl)) rfl rfl ?_
  refine sq (f_lenList rfl rfl un52 (lt rfl)) rfl rfl ?_
  refine sq (f_bin rfl rfl (bT (decide_eq_false (by simp))) (lt rfl)) rfl rfl ?_
  refine hits_nil ?_
  refine to_next ?_
  refine hits_cond rfl (fun c0 => absurd c0 Bool.false_ne_true) (fun c0 => ?_)
  refine hits_exit ?_
  refine to_exit ?_
  refine to_exit ?_
  refine in_hit rfl ?_
  exact hits_done (.inr rfl) rfl rfl rfl

set_option maxRecDepth 100000 in
theorem growGroup_no : CallsP Tryz.prog Tt 82 [.eptr [.any, .any, .any, .any, .any, .any, .any, .any, .any, .any, .any, .any, .any, .any, .any, .any, .any, .any, .any, .list 3 []]] (.tup []) := by
  refine callsP_of gs_tt Tryz.func82 rfl Tryz.ntmps82 rfl fun w0 S0 stab => ?_
  refine hits_seq ?_
  refine hits_region ?_
  refine sq (f_assign rfl (lt rfl)) rfl rfl ?_
  refine hits_nil ?_
  refine to_next ?_
  refine hits_block ?_
  refine hits_once ?_
  refine hits_seq ?_
  refine hits_seq ?_
  refine hits_region ?_
  refine sq (f_move rfl (lt rfl)) rfl rfl ?_
  refine sq (f_move rfl (lt rfl)) rfl rfl ?_
  refine sq (f_nil rfl rfl (lt rfl)) rfl rfl ?_
  refine sq (f_fieldAddr rfl kf65_19 rfl (lt rfl)) rfl rfl ?_
  refine sq (f_load kd52 rfl rfl (lt rfl)) rfl rfl ?_
  refine sq (f_lenList rfl rfl un52 (lt rfl)) rfl rfl ?_
  refine sq (f_bin rfl rfl (bT (decide_eq_false (by simp))) (lt rfl)) rfl rfl ?_
  refine hits_nil ?_
  refine to_next ?_
  refine hits_cond rfl (fun c0 => absurd c0 Bool.false_ne_true) (fun c0 => ?_)
  refine hits_exit ?_
  refine to_exit ?_
  refine to_exit ?_
  refine in_hit rfl ?_
  exact hits_done (.inr rfl) rfl rfl rfl

set_option maxRecDepth 100000 in
theorem lookGroup_no : CallsP Tryz.prog Tt 112 [.eptr [.any, .any, .any, .any, .any, .any, .any, .any, .any, .any, .any, .any, .any, .any, .any, .any, .any, .any, .any, .list 3 []]] (.sc (.bool true)) := by
  refine callsP_of gs_tt Tryz.func112 rfl Tryz.ntmps112 rfl fun w0 S0 stab => ?_
  refine hits_seq ?_
  refine hits_region ?_
  refine sq (f_assign rfl (lt rfl)) rfl rfl ?_
  refine hits_nil ?_
  refine to_next ?_
  refine hits_seq ?_
  refine hits_seq ?_
  refine hits_region ?_
  refine sq (f_assign rfl (lt rfl)) rfl rfl ?_
  refine hits_nil ?_
  refine to_next ?_
  refine hits_block ?_
  refine hits_once ?_
  refine hits_seq ?_
  refine hits_seq ?_
  refine hits_region ?_
  refine sq (f_move rfl (lt rfl)) rfl rfl ?_
  refine sq (f_move rfl (lt rfl)) rfl rfl ?_
  refine sq (f_nil rfl rfl (lt rfl)) rfl rfl ?_
  refine sq (f_fieldAddr rfl kf65_19 rfl (lt rfl)) rfl rfl ?_
  refine sq (f_load kd52 rfl rfl (lt rfl)) rfl rfl ?_
  refine sq (f_lenList rfl rfl un52 (lt rfl)) rfl rfl ?_
  refine sq (f_bin rfl rfl (bT (decide_eq_false (by simp))) (lt rfl)) rfl rfl ?_
  refine hits_nil ?_
  refine to_next ?_
  refine hits_cond rfl (fun c0 => absurd c0 Bool.false_ne_true) (fun c0 => ?_)
  refine hits_exit ?_
  refine to_exit ?_
  refine to_exit ?_
  refine in_hit rfl ?_
  refine to_next ?_
  refine hits_seq ?_
  refine hits_region ?_
  refine sq (f_assign rfl (lt rfl)) rfl rfl ?_
  refine hits_nil ?_
  refine to_next ?_
  refine hits_ret ?_
  exact hits_done (.inl rfl) rfl rfl rfl

set_option maxRecDepth 100000 in
theorem fillHead_no : CallsP Tryz.prog Tt 53 [.eptr [.any, .any, .any, .any, .any, .any, .any, .any, .any, .any, .any, .any, .any, .any, .any, .any, .any, .any, .any, .any, .list 3 []]] (.tup []) := by
  refine callsP_of gs_tt Tryz.func53 rfl Tryz.ntmps53 rfl fun w0 S0 stab => ?_
  refine hits_seq ?_
  refine hits_region ?_
  refine sq (f_assign rfl (lt rfl)) rfl rfl ?_
  refine hits_nil ?_
  refine to_next ?_
  refine hits_block ?_
  refine hits_once ?_
  refine hits_seq ?_
  refine hits_seq ?_
  refine hits_region ?_
  refine sq (f_move rfl (lt rfl)) rfl rfl ?_
  refine sq (f_move rfl (lt rfl)) rfl rfl ?_
  refine sq (f_nil rfl rfl (lt rfl)) rfl rfl ?_
  refine sq (f_fieldAddr rfl kf65_20 rfl (lt rfl)) rfl rfl ?_
  refine sq (f_load kd53 rfl rfl (lt rfl)) rfl rfl ?_
  refine sq (f_lenList rfl rfl un53 (lt rfl)) rfl rfl ?_
  refine sq (f_bin rfl rfl (bT (decide_eq_false (by simp))) (lt rfl)) rfl rfl ?_
  refine hits_nil ?_
  refine to_next ?_
  refine hits_cond rfl (fun c0 => absurd c0 Bool.false_ne_true) (fun c0 => ?_)
  refine hits_exit ?_
  refine to_exit ?_
  refine to_exit ?_
  refine in_hit rfl ?_
  exact hits_done (.inr rfl) rfl rfl rfl

set_option maxRecDepth 100000 in
theorem growHead_no : CallsP Tryz.prog Tt 83 [.eptr [.any, .any, .any, .any, .any, .any, .any, .any, .any, .any, .any, .any, .any, .any, .any, .any, .any, .any, .any, .any, .list 3 []]] (.tup []) := by
  refine callsP_of gs_tt Tryz.func83 rfl Tryz.ntmps83 rfl fun w0 S0 stab => ?_
  refine hits_seq ?_
  refine hits_region ?_
  refine sq (f_assign rfl (lt rfl)) rfl rfl ?_
  refine hits_nil ?_
  refine to_next ?_
  refine hits_block ?_
  refine hits_once ?_
  refine hits_seq ?_
  refine hits_seq ?_
  refine hits_region ?_
  refine sq (f_move rfl (lt rfl)) rfl rfl ?_
  refine sq (f_move rfl (lt rfl)) rfl rfl ?_
  refine sq (f_nil rfl rfl (lt rfl)) rfl rfl ?_
  refine sq (f_fieldAddr rfl kf65_20 rfl (lt rfl)) rfl rfl ?_
  refine sq (f_load kd53 rfl rfl (lt rfl)) rfl rfl ?_
  refine sq (f_lenList rfl rfl un53 (lt rfl)) rfl rfl ?_
  refine sq (f_bin rfl rfl (bT (decide_eq_false (by simp))) (lt rfl)) rfl rfl ?_
  refine hits_nil ?_
  refine to_next ?_
  refine hits_cond rfl (fun c0 => absurd c0 Bool.false_ne_true) (fun c0 => ?_)
  refine hits_exit ?_
  refine to_exit ?_
  refine to_exit ?_
  refine in_hit rfl ?_
  exact hits_done (.inr rfl) rfl rfl rfl

set_option maxRecDepth 100000 in
theorem lookHead_no : CallsP Tryz.prog Tt 113 [.eptr [.any, .any, .any, .any, .any, .any, .any, .any, .any, .any, .any, .any, .any, .any, .any, .any, .any, .any, .any, .any, .list 3 []]] (.sc (.bool true)) := by
  refine callsP_of gs_tt Tryz.func113 rfl Tryz.ntmps113 rfl fun w0 S0 stab => ?_
  refine hits_seq ?_
  refine hits_region ?_
  refine sq (f_assign rfl (lt rfl)) rfl rfl ?_
  refine hits_nil ?_
  refine to_next ?_
  refine hits_seq ?_
  refine hits_seq ?_
  refine hits_region ?_
  refine sq (f_assign rfl (lt rfl)) rfl rfl ?_
  refine hits_nil ?_
  refine to_next ?_
  refine hits_block ?_
  refine hits_once ?_
  refine hits_seq ?_
  refine hits_seq ?_
  refine hits_region ?_
  refine sq (f_move rfl (lt rfl)) rfl rfl ?_
  refine sq (f_move rfl (lt rfl)) rfl rfl ?_
  refine sq (f_nil rfl rfl (lt rfl)) rfl rfl ?_
  refine sq (f_fieldAddr rfl kf65_20 rfl (lt rfl)) rfl rfl ?_
  refine sq (f_load kd53 rfl rfl (lt rfl)) rfl rfl ?_
  refine sq (f_lenList rfl rfl un53 (lt rfl)) rfl rfl ?_
  refine sq (f_bin rfl rfl (bT (decide_eq_false (by simp))) (lt rfl)) rfl rfl ?_
  refine hits_nil ?_
  refine to_next ?_
  refine hits_cond rfl (fun c0 => absurd c0 Bool.false_ne_true) (fun c0 => ?_)
  refine hits_exit ?_
  refine to_exit ?_
  refine to_exit ?_
  refine in_hit rfl ?_
  refine to_next ?_
  refine hits_seq ?_
  refine hits_region ?_
  refine sq (f_assign rfl (lt rfl)) rfl rfl ?_
  refine hits_nil ?_
  refine to_next ?_
  refine hits_ret ?_
  exact hits_done (.inl rfl) rfl rfl rfl

set_option maxRecDepth 100000 in
theorem fillNode_no : CallsP Tryz.prog Tt 54 [.eptr [.any, .any, .any, .any, .any, .any, .any, .any, .any, .any, .any, .any, .any, .any, .any, .any, .any, .any, .any, .any, .any, .list 3 []]] (.tup []) := by
  refine callsP_of gs_tt Tryz.func54 rfl Tryz.ntmps54 rfl fun w0 S0 stab => ?_
  refine hits_seq ?_
  refine hits_region ?_
  refine sq (f_assign rfl (lt rfl)) rfl rfl ?_
  refine hits_nil ?_
  refine to_next ?_
  refine hits_block ?_
  refine hits_once ?_
  refine hits_seq ?_
  refine hits_seq ?_
  refine hits_region ?_
  refine sq (f_move rfl (lt rfl)) rfl rfl ?_
  refine sq (f_move rfl (lt rfl)) rfl rfl ?_
  refine sq (f_nil rfl rfl (lt rfl)) rfl rfl ?_
  refine sq (f_fieldAddr rfl kf65_21 rfl (lt rfl)) rfl rfl ?_
  refine sq (f_load kd54 rfl rfl (lt rfl)) rfl rfl ?_
  refine sq (f_lenList rfl rfl un54 (lt rfl)) rfl rfl ?_
  refine sq (f_bin rfl rfl (bT (decide_eq_false (by simp))) (lt rfl)) rfl rfl ?_
  refine hits_nil ?_
  refine to_next ?_
  refine hits_cond rfl (fun c0 => absurd c0 Bool.false_ne_true) (fun c0 => ?_)
  refine hits_exit ?_
  refine to_exit ?_
  refine to_exit ?_
  refine in_hit rfl ?_
  exact hits_done (.inr rfl) rfl rfl rfl

set_option maxRecDepth 100000 in
theorem growNode_no : CallsP Tryz.prog Tt 84 [.eptr [.any, .any, .any, .any, .any, .any, .any, .any, .any, .any, .any, .any, .any, .any, .any, .any, .any, .any, .any, .any, .any, .list 3 []]] (.tup []) := by
  refine callsP_of gs_tt Tryz.func84 rfl Tryz.ntmps84 rfl fun w0 S0 stab => ?_
  refine hits_seq ?_
  refine hits_region ?_
  refine sq (f_assign rfl (lt rfl)) rfl rfl ?_
  refine hits_nil ?_
  refine to_next ?_
  refine hits_block ?_
  refine hits_once ?_
  refine hits_seq ?_
  refine hits_seq ?_
  refine hits_region ?_
  refine sq (f_move rfl (lt rfl)) rfl rfl ?_
  refine sq (f_move rfl (lt rfl)) rfl rfl ?_
  refine sq (f_nil rfl rfl (lt rfl)) rfl rfl ?_
  refine sq (f_fieldAddr rfl kf65_21 rfl (lt rfl)) rfl rfl ?_
  refine sq (f_load kd54 rfl rfl (lt rfl)) rfl rfl ?_
  refine sq (f_lenList rfl rfl un54 (lt rfl)) rfl rfl ?_
  refine sq (f_bin rfl rfl (bT (decide_eq_false (by simp))) (lt rfl)) rfl rfl ?_
  refine hits_nil ?_
  refine to_next ?_
  refine hits_cond rfl (fun c0 => absurd c0 Bool.false_ne_true) (fun c0 => ?_)
  refine hits_exit ?_
  refine to_exit ?_
  refine to_exit ?_
  refine in_hit rfl ?_
  exact hits_done (.inr rfl) rfl rfl rfl

set_option maxRecDepth 100000 in
theorem lookNode_no : CallsP Tryz.prog Tt 114 [.eptr [.any, .any, .any, .any, .any, .any, .any, .any, .any, .any, .any, .any, .any, .any, .any, .any, .any, .any, .any, .any, .any, .list 3 []]] (.sc (.bool true)) := by
  refine callsP_of gs_tt Tryz.func114 rfl Tryz.ntmps114 rfl fun w0 S0 stab => ?_
  refine hits_seq ?_
  refine hits_region ?_
  refine sq (f_assign rfl (lt rfl)) rfl rfl ?_
  refine hits_nil ?_
  refine to_next ?_
  refine hits_seq ?_
  refine hits_seq ?_
  refine hits_region ?_
  refine sq (f_assign rfl (lt rfl)) rfl rfl ?_
  refine hits_nil ?_
  refine to_next ?_
  refine hits_block ?_
  refine hits_once ?_
  refine hits_seq ?_
  refine hits_seq ?_
  refine hits_region ?_
  refine sq (f_move rfl (lt rfl)) rfl rfl ?_
  refine sq (f_move rfl (lt rfl)) rfl rfl ?_
  refine sq (f_nil rfl rfl (lt rfl)) rfl rfl ?_
  refine sq (f_fieldAddr rfl kf65_21 rfl (lt rfl)) rfl rfl ?_
  refine sq (f_load kd54 rfl rfl (lt rfl)) rfl rfl ?_
  refine sq (f_lenList rfl rfl un54 (lt rfl)) rfl rfl ?_
  refine sq (f_bin rfl rfl (bT (decide_eq_false (by simp))) (lt rfl)) rfl rfl ?_
  refine hits_nil ?_
  refine to_next ?_
  refine hits_cond rfl (fun c0 => absurd c0 Bool.false_ne_true) (fun c0 => ?_)
  refine hits_exit ?_
  refine to_exit ?_
  refine to_exit ?_
  refine in_hit rfl ?_
  refine to_next ?_
  refine hits_seq ?_
  refine hits_region ?_
  refine sq (f_assign rfl (lt rfl)) rfl rfl ?_
  refine hits_nil ?_
  refine to_next ?_
  refine hits_ret ?_
  exact hits_done (.inl rfl) rfl rfl rfl

set_option maxRecDepth 100000 in
theorem fillAct_no : CallsP Tryz.prog Tt 55 [.eptr [.any, .any, .any, .any, .any, .any, .any, .any, .any, .any, .any, .any, .any, .any, .any, .any, .any, .any, .any, .any, .any, .any, .list 3 []]] (.tup []) := by
  refine callsP_of gs_tt Tryz.func55 rfl Tryz.ntmps55 rfl fun w0 S0 stab => ?_
  refine hits_seq ?_
  refine hits_region ?_
  refine sq (f_assign rfl (lt rfl)) rfl rfl ?_
  refine hits_nil ?_
  refine to_next ?_
  refine hits_block ?_
  refine hits_once ?_
  refine hits_seq ?_
  refine hits_seq ?_
  refine hits_region ?_
  refine sq (f_move rfl (lt rfl)) rfl rfl ?_
  refine sq (f_move rfl (lt rfl)) rfl rfl ?_
  refine sq (f_nil rfl rfl (lt rfl)) rfl rfl ?_
  refine sq (f_fieldAddr rfl kf65_22 rfl (lt rfl)) rfl rfl ?_
  refine sq (f_load kd55 rfl rfl (lt rfl)) rfl rfl ?_
  refine sq (f_lenList rfl rfl un55 (lt rfl)) rfl rfl ?_
  refine sq (f_bin rfl rfl (bT (decide_eq_false (by simp))) (lt rfl)) rfl rfl ?_
  refine hits_nil ?_
  refine to_next ?_
  refine hits_cond rfl (fun c0 => absurd c0 Bool.false_ne_true) (fun c0 => ?_)
  refine hits_exit ?_
  refine to_exit ?_
  refine to_exit ?_
  refine in_hit rfl ?_
  exact hits_done (.inr rfl) rfl rfl rfl

set_option maxRecDepth 100000 in
theorem growAct_no : CallsP Tryz.prog Tt 85 [.eptr [.any, .any, .any, .any, .any, .any, .any, .any, .any, .any, .any, .any, .any, .any, .any, .any, .any, .any, .any, .any, .any, .any, .list 3 []]] (.tup []) := by
  refine callsP_of gs_tt Tryz.func85 rfl Tryz.ntmps85 rfl fun w0 S0 stab => ?_
  refine hits_seq ?_
  refine hits_region ?_
  refine sq (f_assign rfl (lt rfl)) rfl rfl ?_
  refine hits_nil ?_
  refine to_next ?_
  refine hits_block ?_
  refine hits_once ?_
  refine hits_seq ?_
  refine hits_seq ?_
  refine hits_region ?_
  refine sq (f_move rfl (lt rfl)) rfl rfl ?_
  refine sq (f_move rfl (lt rfl)) rfl rfl ?_
  refine sq (f_nil rfl rfl (lt rfl)) rfl rfl ?_
  refine sq (f_fieldAddr rfl kf65_22 rfl (lt rfl)) rfl rfl ?_
  refine sq (f_load kd55 rfl rfl (lt rfl)) rfl rfl ?_
  refine sq (f_lenList rfl rfl un55 (lt rfl)) rfl rfl ?_
  refine sq (f_bin rfl rfl (bT (decide_eq_false (by simp))) (lt rfl)) rfl rfl ?_
  refine hits_nil ?_
  refine to_next ?_
  refine hits_cond rfl (fun c0 => absurd c0 Bool.false_ne_true) (fun c0 => ?_)
  refine hits_exit ?_
  refine to_exit ?_
  refine to_exit ?_
  refine in_hit rfl ?_
  exact hits_done (.inr rfl) rfl rfl rfl

set_option maxRecDepth 100000 in
theorem lookAct_no : CallsP Tryz.prog Tt 115 [.eptr [.any, .any, .any, .any, .any, .any, .any, .any, .any, .any, .any, .any, .any, .any, .any, .any, .any, .any, .any, .any, .any, .any, .list 3 []]] (.sc (.bool true)) := by
  refine callsP_of gs_tt Tryz.func115 rfl Tryz.ntmps115 rfl fun w0 S0 stab => ?_
  refine hits_seq ?_
  refine hits_region ?_
  refine sq (f_assign rfl (lt rfl)) rfl rfl ?_
  refine hits_nil ?_
  refine to_next ?_
  refine hits_seq ?_
  refine hits_seq ?_
  refine hits_region ?_
  refine sq (f_assign rfl (lt rfl)) rfl rfl ?_
  refine hits_nil ?_
  refine to_next ?_
  refine hits_block ?_
  refine hits_once ?_
  refine hits_seq ?_
  refine hits_seq ?_
  refine hits_region ?_
  refine sq (f_move rfl (lt rfl)) rfl rfl ?_
  refine sq (f_move rfl (lt rfl)) rfl rfl ?_
  refine sq (f_nil rfl rfl (lt rfl)) rfl rfl ?_
  refine sq (f_fieldAddr rfl kf65_22 rfl (lt rfl)) rfl rfl ?_
  refine sq (f_load kd55 rfl rfl (lt rfl)) rfl rfl ?_
  refine sq (f_lenList rfl rfl un55 (lt rfl)) rfl rfl ?_
  refine sq (f_bin rfl rfl (bT (decide_eq_false (by simp))) (lt rfl)) rfl rfl ?_
  refine hits_nil ?_
  refine to_next ?_
  refine hits_cond rfl (fun c0 => absurd c0 Bool.false_ne_true) (fun c0 => ?_)
  refine hits_exit ?_
  refine to_exit ?_
  refine to_exit ?_
  refine in_hit rfl ?_
  refine to_next ?_
  refine hits_seq ?_
  refine hits_region ?_
  refine sq (f_assign rfl (lt rfl)) rfl rfl ?_
  refine hits_nil ?_
  refine to_next ?_
  refine hits_ret ?_
  exact hits_done (.inl rfl) rfl rfl rfl

set_option maxRecDepth 100000 in
theorem fillTable_no : CallsP Tryz.prog Tt 56 [.eptr [.any, .any, .any, .any, .any, .any, .any, .any, .any, .any, .any, .any, .any, .any, .any, .any, .any, .any, .any, .any, .any, .any, .any, .list 3 []]] (.tup []) := by
  refine callsP_of gs_tt Tryz.func56 rfl Tryz.ntmps56 rfl fun w0 S0 stab => ?_
  refine hits_seq ?_
  refine hits_region ?_
  refine sq (f_assign rfl (lt rfl)) rfl rfl ?_
  refine hits_nil ?_
  refine to_next ?_
  refine hits_block ?_
  refine hits_once ?_
  refine hits_seq ?_
  refine hits_seq ?_
  refine hits_region ?_
  refine sq (f_move rfl (lt rfl)) rfl rfl ?_
  refine sq (f_move rfl (lt rfl)) rfl rfl ?_
  refine sq (f_nil rfl rfl (lt rfl)) rfl rfl ?_
  refine sq (f_fieldAddr rfl kf65_23 rfl (lt rfl)) rfl rfl ?_
  refine sq (f_load kd56 rfl rfl (lt rfl)) rfl rfl ?_
  refine sq (f_lenList rfl rfl un56 (lt rfl)) rfl rfl ?_
  refine sq (f_bin rfl rfl (bT (decide_eq_false (by simp))) (lt rfl)) rfl rfl ?_
  refine hits_nil ?_
  refine to_next ?_
  refine hits_cond rfl (fun c0 => absurd c0 Bool.false_ne_true) (fun c0 => ?_)
  refine hits_exit ?_
  refine to_exit ?_
  refine to_exit ?_
  refine in_hit rfl ?_
  exact hits_done (.inr rfl) rfl rfl rfl

set_option maxRecDepth 100000 in
theorem growTable_no : CallsP Tryz.prog Tt 86 [.eptr [.any, .any, .any, .any, .any, .any, .any, .any, .any, .any, .any, .any, .any, .any, .any, .any, .any, .any, .any, .any, .any, .any, .any, .list 3 []]] (.tup []) := by
  refine callsP_of gs_tt Tryz.func86 rfl Tryz.ntmps86 rfl fun w0 S0 stab => ?_
  refine hits_seq ?_
  refine hits_region ?_
  refine sq (f_assign rfl (lt rfl)) rfl rfl ?_
  refine hits_nil ?_
  refine to_next ?_
  refine hits_block ?_
  refine hits_once ?_
  refine hits_seq ?_
  refine hits_seq ?_
  refine hits_region ?_
  refine sq (f_move rfl (lt rfl)) rfl rfl ?_
  refine sq (f_move rfl (lt rfl)) rfl rfl ?_
  refine sq (f_nil rfl rfl (lt rfl)) rfl rfl ?_
  refine sq (f_fieldAddr rfl kf65_23 rfl (lt rfl)) rfl rfl ?_
  refine sq (f_load kd56 rfl rfl (lt rfl)) rfl rfl ?_
  refine sq (f_lenList rfl rfl un56 (lt rfl)) rfl rfl ?_
  refine sq (f_bin rfl rfl (bT (decide_eq_false (by simp))) (lt rfl)) rfl rfl ?_
  refine hits_nil ?_
  refine to_next ?_
  refine hits_cond rfl (fun c0 => absurd c0 Bool.false_ne_true) (fun c0 => ?_)
  refine hits_exit ?_
  refine to_exit ?_
  refine to_exit ?_
  refine in_hit rfl ?_
  exact hits_done (.inr rfl) rfl rfl rfl

set_option maxRecDepth 100000 in
theorem lookTable_no : CallsP Tryz.prog Tt 116 [.eptr [.any, .any, .any, .any, .any, .any, .any, .any, .any, .any, .any, .any, .any, .any, .any, .any, .any, .any, .any, .any, .any, .any, .any, .list 3 []]] (.sc (.bool true)) := by
  refine callsP_of gs_tt Tryz.func116 rfl Tryz.ntmps116 rfl fun w0 S0 stab => ?_
  refine hits_seq ?_
  refine hits_region ?_
  refine sq (f_assign rfl (lt rfl)) rfl rfl ?_
  refine hits_nil ?_
  refine to_next ?_
  refine hits_seq ?_
  refine hits_seq ?_
  refine hits_region ?_
  refine sq (f_assign rfl (lt rfl)) rfl rfl ?_
  refine hits_nil ?_
  refine to_next ?_
  refine hits_block ?_
  refine hits_once ?_
  refine hits_seq ?_
  refine hits_seq ?_
  refine hits_region ?_
  refine sq (f_move rfl (lt rfl)) rfl rfl ?_
  refine sq (f_move rfl (lt rfl)) rfl rfl ?_
  refine sq (f_nil rfl rfl (lt rfl)) rfl rfl ?_
  refine sq (f_fieldAddr rfl kf65_23 rfl (lt rfl)) rfl rfl ?_
  refine sq (f_load kd56 rfl rfl (lt rfl)) rfl rfl ?_
  refine sq (f_lenList rfl rfl un56 (lt rfl)) rfl rfl ?_
  refine sq (f_bin rfl rfl (bT (decide_eq_false (by simp))) (lt rfl)) rfl rfl ?_
  refine hits_nil ?_
  refine to_next ?_
  refine hits_cond rfl (fun c0 => absurd c0 Bool.false_ne_true) (fun c0 => ?_)
  refine hits_exit ?_
  refine to_exit ?_
  refine to_exit ?_
  refine in_hit rfl ?_
  refine to_next ?_
  refine hits_seq ?_
  refine hits_region ?_
  refine sq (f_assign rfl (lt rfl)) rfl rfl ?_
  refine hits_nil ?_
  refine to_next ?_
  refine hits_ret ?_
  exact hits_done (.inl rfl) rfl rfl rfl

set_option maxRecDepth 100000 in
theorem fillIns_no : CallsP Tryz.prog Tt 57 [.eptr [.any, .any, .any, .any, .any, .any, .any, .any, .any, .any, .any, .any, .any, .any, .any, .any, .any, .any, .any, .any, .any, .any, .any, .any, .list 3 []]] (.tup []) := by
  refine callsP_of gs_tt Tryz.func57 rfl Tryz.ntmps57 rfl fun w0 S0 stab => ?_
  refine hits_seq ?_
  refine hits_region ?_
  refine sq (f_assign rfl (lt rfl)) rfl rfl ?_
  refine hits_nil ?_
  refine to_next ?_
  refine hits_block ?_
  refine hits_once ?_
  refine hits_seq ?_
  refine hits_seq ?_
  refine hits_region ?_
  refine sq (f_move rfl (lt rfl)) rfl rfl ?_
  refine sq (f_move rfl (lt rfl)) rfl rfl ?_
  refine sq (f_nil rfl rfl (lt rfl)) rfl rfl ?_
  refine sq (f_fieldAddr rfl kf65_24 rfl (lt rfl)) rfl rfl ?_
  refine sq (f_load kd57 rfl rfl (lt rfl)) rfl rfl ?_
  refine sq (f_lenList rfl rfl un57 (lt rfl)) rfl rfl ?_
  refine sq (f_bin rfl rfl (bT (decide_eq_false (by simp))) (lt rfl)) rfl rfl ?_
  refine hits_nil ?_
  refine to_next ?_
  refine hits_cond rfl (fun c0 => absurd c0 Bool.false_ne_true) (fun c0 => ?_)
  refine hits_exit ?_
  refine to_exit ?_
  refine to_exit ?_
  refine in_hit rfl ?_
  exact hits_done (.inr rfl) rfl rfl rfl

set_option maxRecDepth 100000 in
theorem growIns_no : CallsP Tryz.prog Tt 87 [.eptr [.any, .any, .any, .any, .any, .any, .any, .any, .any, .any, .any, .any, .any, .any, .any, .any, .any, .any, .any, .any, .any, .any, .any, .any, .list 3 []]] (.tup []) := by
  refine callsP_of gs_tt Tryz.func87 rfl Tryz.ntmps87 rfl fun w0 S0 stab => ?_
  refine hits_seq ?_
  refine hits_region ?_
  refine sq (f_assign rfl (lt rfl)) rfl rfl ?_
  refine hits_nil ?_
  refine to_next ?_
  refine hits_block ?_
  refine hits_once ?_
  refine hits_seq ?_
  refine hits_seq ?_
  refine hits_region ?_
  refine sq (f_move rfl (lt rfl)) rfl rfl ?_
  refine sq (f_move rfl (lt rfl)) rfl rfl ?_
  refine sq (f_nil rfl rfl (lt rfl)) rfl rfl ?_
  refine sq (f_fieldAddr rfl kf65_24 rfl (lt rfl)) rfl rfl ?_
  refine sq (f_load kd57 rfl rfl (lt rfl)) rfl rfl ?_
  refine sq (f_lenList rfl rfl un57 (lt rfl)) rfl rfl ?_
  refine sq (f_bin rfl rfl (bT (decide_eq_false (by simp))) (lt rfl)) rfl rfl ?_
  refine hits_nil ?_
  refine to_next ?_
  refine hits_cond rfl (fun c0 => absurd c0 Bool.false_ne_true) (fun c0 => ?_)
  refine hits_exit ?_
  refine to_exit ?_
  refine to_exit ?_
  refine in_hit rfl ?_
  exact hits_done (.inr rfl) rfl rfl rfl

set_option maxRecDepth 100000 in
theorem lookIns_no : CallsP Tryz.prog Tt 117 [.eptr [.any, .any, .any, .any, .any, .any, .any, .any, .any, .any, .any, .any, .any, .any, .any, .any, .any, .any, .any, .any, .any, .any, .any, .any, .list 3 []]] (.sc (.bool true)) := by
  refine callsP_of gs_tt Tryz.func117 rfl Tryz.ntmps117 rfl fun w0 S0 stab => ?_
  refine hits_seq ?_
  refine hits_region ?_
  refine sq (f_assign rfl (lt rfl)) rfl rfl ?_
  refine hits_nil ?_
  refine to_next ?_
  refine hits_seq ?_
  refine hits_seq ?_
  refine hits_region ?_
  refine sq (f_assign rfl (lt rfl)) rfl rfl ?_
  refine hits_nil ?_
  refine to_next ?_
  refine hits_block ?_
  refine hits_once ?_
  refine hits_seq ?_
  refine hits_seq ?_
  refine hits_region ?_
  refine sq (f_move rfl (lt rfl)) rfl rfl ?_
  refine sq (f_move rfl (lt rfl)) rfl rfl ?_
  refine sq (f_nil rfl rfl (lt rfl)) rfl rfl ?_
  refine sq (f_fieldAddr rfl kf65_24 rfl (lt rfl)) rfl rfl ?_
  refine sq (f_load kd57 rfl rfl (lt rfl)) rfl rfl ?_
  refine sq (f_lenList rfl rfl un57 (lt rfl)) rfl rfl ?_
  refine sq (f_bin rfl rfl (bT (decide_eq_false (by simp))) (lt rfl)) rfl rfl ?_
  refine hits_nil ?_
  refine to_next ?_
  refine hits_cond rfl (fun c0 => absurd c0 Bool.false_ne_true) (fun c0 => ?_)
  refine hits_exit ?_
  refine to_exit ?_
  refine to_exit ?_
  refine in_hit rfl ?_
  refine to_next ?_
  refine hits_seq ?_
  refine hits_region ?_
  refine sq (f_assign rfl (lt rfl)) rfl rfl ?_
  refine hits_nil ?_
  refine to_next ?_
  refine hits_ret ?_
  exact hits_done (.inl rfl) rfl rfl rfl

set_option maxRecDepth 100000 in
theorem fillEffect_no : CallsP Tryz.prog Tt 58 [.eptr [.any, .any, .any, .any, .any, .any, .any, .any, .any, .any, .any, .any, .any, .any, .any, .any, .any, .any, .any, .any, .any, .any, .any, .any, .any, .list 3 []]] (.tup []) := by
  refine callsP_of gs_tt Tryz.func58 rfl Tryz.ntmps58 rfl fun w0 S0 stab => ?_
  refine hits_seq ?_
  refine hits_region ?_
  refine sq (f_assign rfl (lt rfl)) rfl rfl ?_
  refine hits_nil ?_
  refine to_next ?_
  refine hits_block ?_
  refine hits_once ?_
  refine hits_seq ?_
  refine hits_seq ?_
  refine hits_region ?_
  refine sq (f_move rfl (lt rfl)) rfl rfl ?_
  refine sq (f_move rfl (lt rfl)) rfl rfl ?_
  refine sq (f_nil rfl rfl (lt rfl)) rfl rfl ?_
  refine sq (f_fieldAddr rfl kf65_25 rfl (lt rfl)) rfl rfl ?_
  refine sq (f_load kd58 rfl rfl (lt rfl)) rfl rfl ?_
  refine sq (f_lenList rfl rfl un58 (lt rfl)) rfl rfl ?_
  refine sq (f_bin rfl rfl (bT (decide_eq_false (by simp))) (lt rfl)) rfl rfl ?_
  refine hits_nil ?_
  refine to_next ?_
  refine hits_cond rfl (fun c0 => absurd c0 Bool.false_ne_true) (fun c0 => ?_)
  refine hits_exit ?_
  refine to_exit ?_
  refine to_exit ?_
  refine in_hit rfl ?_
  exact hits_done (.inr rfl) rfl rfl rfl

set_option maxRecDepth 100000 in
theorem growEffect_no : CallsP Tryz.prog Tt 88 [.eptr [.any, .any, .any, .any, .any, .any, .any, .any, .any, .any, .any, .any, .any, .any, .any, .any, .any, .any, .any, .any, .any, .any, .any, .any, .any, .list 3 []]] (.tup []) := by
  refine callsP_of gs_tt Tryz.func88 rfl Tryz.ntmps88 rfl fun w0 S0 stab => ?_
  refine hits_seq ?_
  refine hits_region ?_
  refine sq (f_assign rfl (lt rfl)) rfl rfl ?_
  refine hits_nil ?_
  refine to_next ?_
  refine hits_block ?_
  refine hits_once ?_
  refine hits_seq ?_
  refine hits_seq ?_
  refine hits_region ?_
  refine sq (f_move rfl (lt rfl)) rfl rfl ?_
  refine sq (f_move rfl (lt rfl)) rfl rfl ?_
  refine sq (f_nil rfl rfl (lt rfl)) rfl rfl ?_
  refine sq (f_fieldAddr rfl kf65_25 rfl (lt rfl)) rfl rfl ?_
  refine sq (f_load kd58 rfl rfl (lt rfl)) rfl rfl ?_
  refine sq (f_lenList rfl rfl un58 (lt rfl)) rfl rfl ?_
  refine sq (f_bin rfl rfl (bT (decide_eq_false (by simp))) (lt rfl)) rfl rfl ?_
  refine hits_nil ?_
  refine to_next ?_
  refine hits_cond rfl (fun c0 => absurd c0 Bool.false_ne_true) (fun c0 => ?_)
  refine hits_exit ?_
  refine to_exit ?_
  refine to_exit ?_
  refine in_hit rfl ?_
  exact hits_done (.inr rfl) rfl rfl rfl

set_option maxRecDepth 100000 in
theorem lookEffect_no : CallsP Tryz.prog Tt 118 [.eptr [.any, .any, .any, .any, .any, .any, .any, .any, .any, .any, .any, .any, .any, .any, .any, .any, .any, .any, .any, .any, .any, .any, .any, .any, .any, .list 3 []]] (.sc (.bool true)) := by
  refine callsP_of gs_tt Tryz.func118 rfl Tryz.ntmps118 rfl fun w0 S0 stab => ?_
  refine hits_seq ?_
  refine hits_region ?_
  refine sq (f_assign rfl (lt rfl)) rfl rfl ?_
  refine hits_nil ?_
  refine to_next ?_
  refine hits_seq ?_
  refine hits_seq ?_
  refine hits_region ?_
  refine sq (f_assign rfl (lt rfl)) rfl rfl ?_
  refine hits_nil ?_
  refine to_next ?_
  refine hits_block ?_
  refine hits_once ?_
  refine hits_seq ?_
  refine hits_seq ?_
  refine hits_region ?_
  refine sq (f_move rfl (lt rfl)) rfl rfl ?_
  refine sq (f_move rfl (lt rfl)) rfl rfl ?_
  refine sq (f_nil rfl rfl (lt rfl)) rfl rfl ?_
  refine sq (f_fieldAddr rfl kf65_25 rfl (lt rfl)) rfl rfl ?_
  refine sq (f_load kd58 rfl rfl (lt rfl)) rfl rfl ?_
  refine sq (f_lenList rfl rfl un58 (lt rfl)) rfl rfl ?_
  refine sq (f_bin rfl rfl (bT (decide_eq_false (by simp))) (lt rfl)) rfl rfl ?_
  refine hits_nil ?_
  refine to_next ?_
  refine hits_cond rfl (fun c0 => absurd c0 Bool.false_ne_true) (fun c0 => ?_)
  refine hits_exit ?_
  refine to_exit ?_
  refine to_exit ?_
  refine in_hit rfl ?_
  refine to_next ?_
  refine hits_seq ?_
  refine hits_region ?_
  refine sq (f_assign rfl (lt rfl)) rfl rfl ?_
  refine hits_nil ?_
  refine to_next ?_
  refine hits_ret ?_
  exact hits_done (.inl rfl) rfl rfl rfl

set_option maxRecDepth 100000 in
theorem fillUpdate_no : CallsP Tryz.prog Tt 59 [.eptr [.any, .any, .any, .any, .any, .any, .any, .any, .any, .any, .any, .any, .any, .any, .any, .any, .any, .any, .any, .any, .any, .any, .any, .any, .any, .any, .list 3 []]] (.tup []) := by
  refine callsP_of gs_tt Tryz.func59 rfl Tryz.ntmps59 rfl fun w0 S0 stab => ?_
  refine hits_seq ?_
  refine hits_region ?_
  refine sq (f_assign rfl (lt rfl)) rfl rfl ?_
  refine hits_nil ?_
  refine to_next ?_
  refine hits_block ?_
  refine hits_once ?_
  refine hits_seq ?_
  refine hits_seq ?_
  refine hits_region ?_
  refine sq (f_move rfl (lt rfl)) rfl rfl ?_
  refine sq (f_move rfl (lt rfl)) rfl rfl ?_
  refine sq (f_nil rfl rfl (lt rfl)) rfl rfl ?_
  refine sq (f_fieldAddr rfl kf65_26 rfl (lt rfl)) rfl rfl ?_
  refine sq (f_load kd59 rfl rfl (lt rfl)) rfl rfl ?_
  refine sq (f_lenList rfl rfl un59 (lt rfl)) rfl rfl ?_
  refine sq (f_bin rfl rfl (bT (decide_eq_false (by simp))) (lt rfl)) rfl rfl ?_
  refine hits_nil ?_
  refine to_next ?_
  refine hits_cond rfl (fun c0 => absurd c0 Bool.false_ne_true) (fun c0 => ?_)
  refine hits_exit ?_
  refine to_exit ?_
  refine to_exit ?_
  refine in_hit rfl ?_
  exact hits_done (.inr rfl) rfl rfl rfl

set_option maxRecDepth 100000 in
theorem growUpdate_no : CallsP Tryz.prog Tt 89 [.eptr [.any, .any, .any, .any, .any, .any, .any, .any, .any, .any, .any, .any, .any, .any, .any, .any, .any, .any, .any, .any, .any, .any, .any, .any, .any, .any, .list 3 []]] (.tup []) := by
  refine callsP_of gs_tt Tryz.func89 rfl Tryz.ntmps89 rfl fun w0 S0 stab => ?_
  refine hits_seq ?_
  refine hits_region ?_
  refine sq (f_assign rfl (lt rfl)) rfl rfl ?_
  refine hits_nil ?_
  refine to_next ?_
  refine hits_block ?_
  refine hits_once ?_
  refine hits_seq ?_
  refine hits_seq ?_
  refine hits_region ?_
  refine sq (f_move rfl (lt rfl)) rfl rfl ?_
  refine sq (f_move rfl (lt rfl)) rfl rfl ?_
  refine sq (f_nil rfl rfl (lt rfl)) rfl rfl ?_
  refine sq (f_fieldAddr rfl kf65_26 rfl (lt rfl)) rfl rfl ?_
  refine sq (f_load kd59 rfl rfl (lt rfl)) rfl rfl ?_
  refine sq (f_lenList rfl rfl un59 (lt rfl)) rfl rfl ?_
  refine sq (f_bin rfl rfl (bT (decide_eq_false (by simp))) (lt rfl)) rfl rfl ?_
  refine hits_nil ?_
  refine to_next ?_
  refine hits_cond rfl (fun c0 => absurd c0 Bool.false_ne_true) (fun c0 => ?_)
  refine hits_exit ?_
  refine to_exit ?_
  refine to_exit ?_
  refine in_hit rfl ?_
  exact hits_done (.inr rfl) rfl rfl rfl

set_option maxRecDepth 100000 in
theorem lookUpdate_no : CallsP Tryz.prog Tt 119 [.eptr [.any, .any, .any, .any, .any, .any, .any, .any, .any, .any, .any, .any, .any, .any, .any, .any, .any, .any, .any, .any, .any, .any, .any, .any, .any, .any, .list 3 []]] (.sc (.bool true)) := by
  refine callsP_of gs_tt Tryz.func119 rfl Tryz.ntmps119 rfl fun w0 S0 stab => ?_
  refine hits_seq ?_
  refine hits_region ?_
  refine sq (f_assign rfl (lt rfl)) rfl rfl ?_
  refine hits_nil ?_
  refine to_next ?_
  refine hits_seq ?_
  refine hits_seq ?_
  refine hits_region ?_
  refine sq (f_assign rfl (lt rfl)) rfl rfl ?_
  refine hits_nil ?_
  refine to_next ?_
  refine hits_block ?_
  refine hits_once ?_
  refine hits_seq ?_
  refine hits_seq ?_
  refine hits_region ?_
  refine sq (f_move rfl (lt rfl)) rfl rfl ?_
  refine sq (f_move rfl (lt rfl)) rfl rfl ?_
  refine sq (f_nil rfl rfl (lt rfl)) rfl rfl ?_
  refine sq (f_fieldAddr rfl kf65_26 rfl (lt rfl)) rfl rfl ?_
  refine sq (f_load kd59 rfl rfl (lt rfl)) rfl rfl ?_
  refine sq (f_lenList rfl rfl un59 (lt rfl)) rfl rfl ?_
  refine sq (f_bin rfl rfl (bT (decide_eq_false (by simp))) (lt rfl)) rfl rfl ?_
  refine hits_nil ?_
  refine to_next ?_
  refine hits_cond rfl (fun c0 => absurd c0 Bool.false_ne_true) (fun c0 => ?_)
  refine hits_exit ?_
  refine to_exit ?_
  refine to_exit ?_
  refine in_hit rfl ?_
  refine to_next ?_
  refine hits_seq ?_
  refine hits_region ?_
  refine sq (f_assign rfl (lt rfl)) rfl rfl ?_
  refine hits_nil ?_
  refine to_next ?_
  refine hits_ret ?_
  exact hits_done (.inl rfl) rfl rfl rfl

set_option maxRecDepth 100000 in
theorem fillEvent_no : CallsP Tryz.prog Tt 60 [.eptr [.any, .any, .any, .any, .any, .any, .any, .any, .any, .any, .any, .any, .any, .any, .any, .any, .any, .any, .any, .any, .any, .any, .any, .any, .any, .any, .any, .list 3 []]] (.tup []) := by
  refine callsP_of gs_tt Tryz.func60 rfl Tryz.ntmps60 rfl fun w0 S0 stab => ?_
  refine hits_seq ?_
  refine hits_region ?_
  refine sq (f_assign rfl (lt rfl)) rfl rfl ?_
  refine hits_nil ?_
  refine to_next ?_
  refine hits_block ?_
  refine hits_once ?_
  refine hits_seq ?_
  refine hits_seq ?_
  refine hits_region ?_
  refine sq (f_move rfl (lt rfl)) rfl rfl ?_
  refine sq (f_move rfl (lt rfl)) rfl rfl ?_
  refine sq (f_nil rfl rfl (lt rfl)) rfl rfl ?_
  refine sq (f_fieldAddr rfl kf65_27 rfl (lt rfl)) rfl rfl ?_
  refine sq (f_load kd60 rfl rfl (lt rfl)) rfl rfl ?_
  refine sq (f_lenList rfl rfl un60 (lt rfl)) rfl rfl ?_
  refine sq (f_bin rfl rfl (bT (decide_eq_false (by simp))) (lt rfl)) rfl rfl ?_
  refine hits_nil ?_
  refine to_next ?_
  refine hits_cond rfl (fun c0 => absurd c0 Bool.false_ne_true) (fun c0 => ?_)
  refine hits_exit ?_
  refine to_exit ?_
  refine to_exit ?_
  refine in_hit rfl ?_
  exact hits_done (.inr rfl) rfl rfl rfl

set_option maxRecDepth 100000 in
theorem growEvent_no : CallsP Tryz.prog Tt 90 [.eptr [.any, .any, .any, .any, .any, .any, .any, .any, .any, .any, .any, .any, .any, .any, .any, .any, .any, .any, .any, .any, .any, .any, .any, .any, .any, .any, .any, .list 3 []]] (.tup []) := by
  refine callsP_of gs_tt Tryz.func90 rfl Tryz.ntmps90 rfl fun w0 S0 stab => ?_
  refine hits_seq ?_
  refine hits_region ?_
  refine sq (f_assign rfl (lt rfl)) rfl rfl ?_
  refine hits_nil ?_
  refine to_next ?_
  refine hits_block ?_
  refine hits_once ?_
  refine hits_seq ?_
  refine hits_seq ?_
  refine hits_region ?_
  refine sq (f_move rfl (lt rfl)) rfl rfl ?_
  refine sq (f_move rfl (lt rfl)) rfl rfl ?_
  refine sq (f_nil rfl rfl (lt rfl)) rfl rfl ?_
  refine sq (f_fieldAddr rfl kf65_27 rfl (lt rfl)) rfl rfl ?_
  refine sq (f_load kd60 rfl rfl (lt rfl)) rfl rfl ?_
  refine sq (f_lenList rfl rfl un60 (lt rfl)) rfl rfl ?_
  refine sq (f_bin rfl rfl (bT (decide_eq_false (by simp))) (lt rfl)) rfl rfl ?_
  refine hits_nil ?_
  refine to_next ?_
  refine hits_cond rfl (fun c0 => absurd c0 Bool.false_ne_true) (fun c0 => ?_)
  refine hits_exit ?_
  refine to_exit ?_
  refine to_exit ?_
  refine in_hit rfl ?_
  exact hits_done (.inr rfl) rfl rfl rfl

set_option maxRecDepth 100000 in
theorem lookEvent_no : CallsP Tryz.prog Tt 120 [.eptr [.any, .any, .any, .any, .any, .any, .any, .any, .any, .any, .any, .any, .any, .any, .any, .any, .any, .any, .any, .any, .any, .any, .any, .any, .any, .any, .any, .list 3 []]] (.sc (.bool true)) := by
  refine callsP_of gs_tt Tryz.func120 rfl Tryz.ntmps120 rfl fun w0 S0 stab => ?_
  refine hits_seq ?_
  refine hits_region ?_
  refine sq (f_assign rfl (lt rfl)) rfl rfl ?_
  refine hits_nil ?_
  refine to_next ?_
  refine hits_seq ?_
  refine hits_seq ?_
  refine hits_region ?_
  refine sq (f_assign rfl (lt rfl)) rfl rfl ?_
  refine hits_nil ?_
  refine to_next ?_
  refine hits_block ?_
  refine hits_once ?_
  refine hits_seq ?_
  refine hits_seq ?_
  refine hits_region ?_
  refine sq (f_move rfl (lt rfl)) rfl rfl ?_
  refine sq (f_move rfl (lt rfl)) rfl rfl ?_
  refine sq (f_nil rfl rfl (lt rfl)) rfl rfl ?_
  refine sq (f_fieldAddr rfl kf65_27 rfl (lt rfl)) rfl rfl ?_
  refine sq (f_load kd60 rfl rfl (lt rfl)) rfl rfl ?_
  refine sq (f_lenList rfl rfl un60 (lt rfl)) rfl rfl ?_
  refine sq (f_bin rfl rfl (bT (decide_eq_false (by simp))) (lt rfl)) rfl rfl ?_
  refine hits_nil ?_
  refine to_next ?_
  refine hits_cond rfl (fun c0 => absurd c0 Bool.false_ne_true) (fun c0 => ?_)
  refine hits_exit ?_
  refine to_exit ?_
  refine to_exit ?_
  refine in_hit rfl ?_
  refine to_next ?_
  refine hits_seq ?_
  refine hits_region ?_
  refine sq (f_assign rfl (lt rfl)) rfl rfl ?_
  refine hits_nil ?_
  refine to_next ?_
  refine hits_ret ?_
  exact hits_done (.inl rfl) rfl rfl rfl

set_option maxRecDepth 100000 in
theorem fillOut_no : CallsP Tryz.prog Tt 61 [.eptr [.any, .any, .any, .any, .any, .any, .any, .any, .any, .any, .any, .any, .any, .any, .any, .any, .any, .any, .any, .any, .any, .any, .any, .any, .any, .any, .any, .any, .list 3 []]] (.tup []) := by
  refine callsP_of gs_tt Tryz.func61 rfl Tryz.ntmps61 rfl fun w0 S0 stab => ?_
  refine hits_seq ?_
  refine hits_region ?_
  refine sq (f_assign rfl (lt rfl)) rfl rfl ?_
  refine hits_nil ?_
  refine to_next ?_
  refine hits_block ?_
  refine hits_once ?_
  refine hits_seq ?_
  refine hits_seq ?_
  refine hits_region ?_
  refine sq (f_move rfl (lt rfl)) rfl rfl ?_
  refine sq (f_move rfl (lt rfl)) rfl rfl ?_
  refine sq (f_nil rfl rfl (lt rfl)) rfl rfl ?_
  refine sq (f_fieldAddr rfl kf65_28 rfl (lt rfl)) rfl rfl ?_
  refine sq (f_load kd61 rfl rfl (lt rfl)) rfl rfl ?_
  refine sq (f_lenList rfl rfl un61 (lt rfl)) rfl rfl ?_
  refine sq (f_bin rfl rfl (bT (decide_eq_false (by simp))) (lt rfl)) rfl rfl ?_
  refine hits_nil ?_
  refine to_next ?_
  refine hits_cond rfl (fun c0 => absurd c0 Bool.false_ne_true) (fun c0 => ?_)
  refine hits_exit ?_
  refine to_exit ?_
  refine to_exit ?_
  refine in_hit rfl ?_
  exact hits_done (.inr rfl) rfl rfl rfl

set_option maxRecDepth 100000 in
theorem growOut_no : CallsP Tryz.prog Tt 91 [.eptr [.any, .any, .any, .any, .any, .any, .any, .any, .any, .any, .any, .any, .any, .any, .any, .any, .any, .any, .any, .any, .any, .any, .any, .any, .any, .any, .any, .any, .list 3 []]] (.tup []) := by
  refine callsP_of gs_tt Tryz.func91 rfl Tryz.ntmps91 rfl fun w0 S0 stab => ?_
  refine hits_seq ?_
  refine hits_region ?_
  refine sq (f_assign rfl (lt rfl)) rfl rfl ?_
  refine hits_nil ?_
  refine to_next ?_
  refine hits_block ?_
  refine hits_once ?_
  refine hits_seq ?_
  refine hits_seq ?_
  refine hits_region ?_
  refine sq (f_move rfl (lt rfl)) rfl rfl ?_
  refine sq (f_move rfl (lt rfl)) rfl rfl ?_
  refine sq (f_nil rfl rfl (lt rfl)) rfl rfl ?_
  refine sq (f_fieldAddr rfl kf65_28 rfl (lt rfl)) rfl rfl ?_
  refine sq (f_load kd61 rfl rfl (lt rfl)) rfl rfl ?_
  refine sq (f_lenList rfl rfl un61 (lt rfl)) rfl rfl ?_
  refine sq (f_bin rfl rfl (bT (decide_eq_false (by simp))) (lt rfl)) rfl rfl ?_
  refine hits_nil ?_
  refine to_next ?_
  refine hits_cond rfl (fun c0 => absurd c0 Bool.false_ne_true) (fun c0 => ?_)
  refine hits_exit ?_
  refine to_exit ?_
  refine to_exit ?_
  refine in_hit rfl ?_
  exact hits_done (.inr rfl) rfl rfl rfl

set_option maxRecDepth 100000 in
theorem lookOut_no : CallsP Tryz.prog Tt 121 [.eptr [.any, .any, .any, .any, .any, .any, .any, .any, .any, .any, .any, .any, .any, .any, .any, .any, .any, .any, .any, .any, .any, .any, .any, .any, .any, .any, .any, .any, .list 3 []]] (.sc (.bool true)) := by
  refine callsP_of gs_tt Tryz.func121 rfl Tryz.ntmps121 rfl fun w0 S0 stab => ?_
  refine hits_seq ?_
  refine hits_region ?_
  refine sq (f_assign rfl (lt rfl)) rfl rfl ?_
  refine hits_nil ?_
  refine to_next ?_
  refine hits_seq ?_
  refine hits_seq ?_
  refine hits_region ?_
  refine sq (f_assign rfl (lt rfl)) rfl rfl ?_
  refine hits_nil ?_
  refine to_next ?_
  refine hits_block ?_
  refine hits_once ?_
  refine hits_seq ?_
  refine hits_seq ?_
  refine hits_region ?_
  refine sq (f_move rfl (lt rfl)) rfl rfl ?_
  refine sq (f_move rfl (lt rfl)) rfl rfl ?_
  refine sq (f_nil rfl rfl (lt rfl)) rfl rfl ?_
  refine sq (f_fieldAddr rfl kf65_28 rfl (lt rfl)) rfl rfl ?_
  refine sq (f_load kd61 rfl rfl (lt rfl)) rfl rfl ?_
  refine sq (f_lenList rfl rfl un61 (lt rfl)) rfl rfl ?_
  refine sq (f_bin rfl rfl (bT (decide_eq_false (by simp))) (lt rfl)) rfl rfl ?_
  refine hits_nil ?_
  refine to_next ?_
  refine hits_cond rfl (fun c0 => absurd c0 Bool.false_ne_true) (fun c0 => ?_)
  refine hits_exit ?_
  refine to_exit ?_
  refine to_exit ?_
  refine in_hit rfl ?_
  refine to_next ?_
  refine hits_seq ?_
  refine hits_region ?_
  refine sq (f_assign rfl (lt rfl)) rfl rfl ?_
  refine hits_nil ?_
  refine to_next ?_
  refine hits_ret ?_
  exact hits_done (.inl rfl) rfl rfl rfl

set_option maxRecDepth 100000 in
theorem fillRow_no : CallsP Tryz.prog Tt 62 [.eptr [.any, .any, .any, .any, .any, .any, .any, .any, .any, .any, .any, .any, .any, .any, .any, .any, .any, .any, .any, .any, .any, .any, .any, .any, .any, .any, .any, .any, .any, .list 3 []]] (.tup []) := by
  refine callsP_of gs_tt Tryz.func62 rfl Tryz.ntmps62 rfl fun w0 S0 stab => ?_
  refine hits_seq ?_
  refine hits_region ?_
  refine sq (f_assign rfl (lt rfl)) rfl rfl ?_
  refine hits_nil ?_
  refine to_next ?_
  refine hits_block ?_
  refine hits_once ?_
  refine hits_seq ?_
  refine hits_seq ?_
  refine hits_region ?_
  refine sq (f_move rfl (lt rfl)) rfl rfl ?_
  refine sq (f_move rfl (lt rfl)) rfl rfl ?_
  refine sq (f_nil rfl rfl (lt rfl)) rfl rfl ?_
  refine sq (f_fieldAddr rfl kf65_29 rfl (lt rfl)) rfl rfl ?_
  refine sq (f_load kd62 rfl rfl (lt rfl)) rfl rfl ?_
  refine sq (f_lenList rfl rfl un62 (lt rfl)) rfl rfl ?_
  refine sq (f_bin rfl rfl (bT (decide_eq_false (by simp))) (lt rfl)) rfl rfl ?_
  refine hits_nil ?_
  refine to_next ?_
  refine hits_cond rfl (fun c0 => absurd c0 Bool.false_ne_true) (fun c0 => ?_)
  refine hits_exit ?_
  refine to_exit ?_
  refine to_exit ?_
  refine in_hit rfl ?_
  exact hits_done (.inr rfl) rfl rfl rfl

set_option maxRecDepth 100000 in
theorem growRow_no : CallsP Tryz.prog Tt 92 [.eptr [.any, .any, .any, .any, .any, .any, .any, .any, .any, .any, .any, .any, .any, .any, .any, .any, .any, .any, .any, .any, .any, .any, .any, .any, .any, .any, .any, .any, .any, .list 3 []]] (.tup []) := by
  refine callsP_of gs_tt Tryz.func92 rfl Tryz.ntmps92 rfl fun w0 S0 stab => ?_
  refine hits_seq ?_
  refine hits_region ?_
  refine sq (f_assign rfl (lt rfl)) rfl rfl ?_
  refine hits_nil ?_
  refine to_next ?_
  refine hits_block ?_
  refine hits_once ?_
  refine hits_seq ?_
  refine hits_seq ?_
  refine hits_region ?_
  refine sq (f_move rfl (lt rfl)) rfl rfl ?_
  refine sq (f_move rfl (lt rfl)) rfl rfl ?_
  refine sq (f_nil rfl rfl (lt rfl)) rfl rfl ?_
  refine sq (f_fieldAddr rfl kf65_29 rfl (lt rfl)) rfl rfl ?_
  refine sq (f_load kd62 rfl rfl (lt rfl)) rfl rfl ?_
  refine sq (f_lenList rfl rfl un62 (lt rfl)) rfl rfl ?_
  refine sq (f_bin rfl rfl (bT (decide_eq_false (by simp))) (lt rfl)) rfl rfl ?_
  refine hits_nil ?_
  refine to_next ?_
  refine hits_cond rfl (fun c0 => absurd c0 Bool.false_ne_true) (fun c0 => ?_)
  refine hits_exit ?_
  refine to_exit ?_
  refine to_exit ?_
  refine in_hit rfl ?_
  exact hits_done (.inr rfl) rfl rfl rfl

set_option maxRecDepth 100000 in
theorem lookRow_no : CallsP Tryz.prog Tt 122 [.eptr [.any, .any, .any, .any, .any, .any, .any, .any, .any, .any, .any, .any, .any, .any, .any, .any, .any, .any, .any, .any, .any, .any, .any, .any, .any, .any, .any, .any, .any, .list 3 []]] (.sc (.bool true)) := by
  refine callsP_of gs_tt Tryz.func122 rfl Tryz.ntmps122 rfl fun w0 S0 stab => ?_
  refine hits_seq ?_
  refine hits_region ?_
  refine sq (f_assign rfl (lt rfl)) rfl rfl ?_
  refine hits_nil ?_
  refine to_next ?_
  refine hits_seq ?_
  refine hits_seq ?_
  refine hits_region ?_
  refine sq (f_assign rfl (lt rfl)) rfl rfl ?_
  refine hits_nil ?_
  refine to_next ?_
  refine hits_block ?_
  refine hits_once ?_
  refine hits_seq ?_
  refine hits_seq ?_
  refine hits_region ?_
  refine sq (f_move rfl (lt rfl)) rfl rfl ?_
  refine sq (f_move rfl (lt rfl)) rfl rfl ?_
  refine sq (f_nil rfl rfl (lt rfl)) rfl rfl ?_
  refine sq (f_fieldAddr rfl kf65_29 rfl (lt rfl)) rfl rfl ?_
  refine sq (f_load kd62 rfl rfl (lt rfl)) rfl rfl ?_
  refine sq (f_lenList rfl rfl un62 (lt rfl)) rfl rfl ?_
  refine sq (f_bin rfl rfl (bT (decide_eq_false (by simp))) (lt rfl)) rfl rfl ?_
  refine hits_nil ?_
  refine to_next ?_
  refine hits_cond rfl (fun c0 => absurd c0 Bool.false_ne_true) (fun c0 => ?_)
  refine hits_exit ?_
  refine to_exit ?_
  refine to_exit ?_
  refine in_hit rfl ?_
  refine to_next ?_
  refine hits_seq ?_
  refine hits_region ?_
  refine sq (f_assign rfl (lt rfl)) rfl rfl ?_
  refine hits_nil ?_
  refine to_next ?_
  refine hits_ret ?_
  exact hits_done (.inl rfl) rfl rfl rfl

set_option maxRecDepth 100000 in
theorem fillArray_no : CallsP Tryz.prog Tt 63 [.eptr [.any, .any, .any, .any, .any, .any, .any, .any, .any, .any, .any, .any, .any, .any, .any, .any, .any, .any, .any, .any, .any, .any, .any, .any, .any, .any, .any, .any, .any, .any, .list 3 []]] (.tup []) := by
  refine callsP_of gs_tt Tryz.func63 rfl Tryz.ntmps63 rfl fun w0 S0 stab => ?_
  refine hits_seq ?_
  refine hits_region ?_
  refine sq (f_assign rfl (lt rfl)) rfl rfl ?_
  refine hits_nil ?_
  refine to_next ?_
  refine hits_block ?_
  refine hits_once ?_
  refine hits_seq ?_
  refine hits_seq ?_
  refine hits_region ?_
  refine sq (f_move rfl (lt rfl)) rfl rfl ?_
  refine sq (f_move rfl (lt rfl)) rfl rfl ?_
  refine sq (f_nil rfl rfl (lt rfl)) rfl rfl ?_
  refine sq (f_fieldAddr rfl kf65_30 rfl (lt rfl)) rfl rfl ?_
  refine sq (f_load kd63 rfl rfl (lt rfl)) rfl rfl ?_
  refine sq (f_lenList rfl rfl un63 (lt rfl)) rfl rfl ?_
  refine sq (f_bin rfl rfl (bT (decide_eq_false (by simp))) (lt rfl)) rfl rfl ?_
  refine hits_nil ?_
  refine to_next ?_
  refine hits_cond rfl (fun c0 => absurd c0 Bool.false_ne_true) (fun c0 => ?_)
  refine hits_exit ?_
  refine to_exit ?_
  refine to_exit ?_
  refine in_hit rfl ?_
  exact hits_done (.inr rfl) rfl rfl rfl

set_option maxRecDepth 100000 in
theorem growArray_no : CallsP Tryz.prog Tt 93 [.eptr [.any, .any, .any, .any, .any, .any, .any, .any, .any, .any, .any, .any, .any, .any, .any, .any, .any, .any, .any, .any, .any, .any, .any, .any, .any, .any, .any, .any, .any, .any, .list 3 []]] (.tup []) := by
  refine callsP_of gs_tt Tryz.func93 rfl Tryz.ntmps93 rfl fun w0 S0 stab => ?_
  refine hits_seq ?_
  refine hits_region ?_
  refine sq (f_assign rfl (lt rfl)) rfl rfl ?_
  refine hits_nil ?_
  refine to_next ?_
  refine hits_block ?_
  refine hits_once ?_
  refine hits_seq ?_
  refine hits_seq ?_
  refine hits_region ?_
  refine sq (f_move rfl (lt rfl)) rfl rfl ?_
  refine sq (f_move rfl (lt rfl)) rfl rfl ?_
  refine sq (f_nil rfl rfl (lt rfl)) rfl rfl ?_
  refine sq (f_fieldAddr rfl kf65_30 rfl (lt rfl)) rfl rfl ?_
  refine sq (f_load kd63 rfl rfl (lt rfl)) rfl rfl ?_
  refine sq (f_lenList rfl rfl un63 (lt rfl)) rfl rfl ?_
  refine sq (f_bin rfl rfl (bT (decide_eq_false (by simp))) (lt rfl)) rfl rfl ?_
  refine hits_nil ?_
  refine to_next ?_
  refine hits_cond rfl (fun c0 => absurd c0 Bool.false_ne_true) (fun c0 => ?_)
  refine hits_exit ?_
  refine to_exit ?_
  refine to_exit ?_
  refine in_hit rfl ?_
  exact hits_done (.inr rfl) rfl rfl rfl

set_option maxRecDepth 100000 in
theorem lookArray_no : CallsP Tryz.prog Tt 123 [.eptr [.any, .any, .any, .any, .any, .any, .any, .any, .any, .any, .any, .any, .any, .any, .any, .any, .any, .any, .any, .any, .any, .any, .any, .any, .any, .any, .any, .any, .any, .any, .list 3 []]] (.sc (.bool true)) := by
  refine callsP_of gs_tt Tryz.func123 rfl Tryz.ntmps123 rfl fun w0 S0 stab => ?_
  refine hits_seq ?_
  refine hits_region ?_
  refine sq (f_assign rfl (lt rfl)) rfl rfl ?_
  refine hits_nil ?_
  refine to_next ?_
  refine hits_seq ?_
  refine hits_seq ?_
  refine hits_region ?_
  refine sq (f_assign rfl (lt rfl)) rfl rfl ?_
  refine hits_nil ?_
  refine to_next ?_
  refine hits_block ?_
  refine hits_once ?_
  refine hits_seq ?_
  refine hits_seq ?_
  refine hits_region ?_
  refine sq (f_move rfl (lt rfl)) rfl rfl ?_
  refine sq (f_move rfl (lt rfl)) rfl rfl ?_
  refine sq (f_nil rfl rfl (lt rfl)) rfl rfl ?_
  refine sq (f_fieldAddr rfl kf65_30 rfl (lt rfl)) rfl rfl ?_
  refine sq (f_load kd63 rfl rfl (lt rfl)) rfl rfl ?_
  refine sq (f_lenList rfl rfl un63 (lt rfl)) rfl rfl ?_
  refine sq (f_bin rfl rfl (bT (decide_eq_false (by simp))) (lt rfl)) rfl rfl ?_
  refine hits_nil ?_
  refine to_next ?_
  refine hits_cond rfl (fun c0 => absurd c0 Bool.false_ne_true) (fun c0 => ?_)
  refine hits_exit ?_
  refine to_exit ?_
  refine to_exit ?_
  refine in_hit rfl ?_
  refine to_next ?_
  refine hits_seq ?_
  refine hits_region ?_
  refine sq (f_assign rfl (lt rfl)) rfl rfl ?_
  refine hits_nil ?_
  refine to_next ?_
  refine hits_ret ?_
  exact hits_done (.inl rfl) rfl rfl rfl

def markByte (n : Nat) : D := .sc (.int .u8 (1 + (n : Int)))
set_option maxRecDepth 100000 in
theorem markByte_c {n : Nat} (h : n < 8) : CallsP Tryz.prog Tt 134 [.sc (.int .i64 (n : Int))] (markByte n) := by
  refine callsP_of gs_tt Tryz.func134 rfl Tryz.ntmps134 rfl fun w0 S0 stab => ?_
  refine hits_seq ?_
  refine hits_region ?_
  refine sq (f_assign rfl (lt rfl)) rfl rfl ?_
  refine hits_nil ?_
  refine to_next ?_
  refine hits_seq ?_
  refine hits_region ?_
  refine sq (f_move rfl (lt rfl)) rfl rfl ?_
  refine sq (f_remI rfl rfl (by decide) (by rw [Int.tmod_eq_emod_of_nonneg (by omega)]; omega : _ = (n : Int)) (lt rfl)) rfl rfl ?_
  refine sq (f_bin rfl rfl (iT ((IntWalk.i64_in _ (by omega) : _ = 1 + (n : Int)))) (lt rfl)) rfl rfl ?_
  refine sq (f_convI rfl us3 un5 (by rw [IntKind.wrap_u8]; omega : _ = 1 + (n : Int)) (lt rfl)) rfl rfl ?_
  refine sq (f_assign rfl (lt rfl)) rfl rfl ?_
  refine hits_nil ?_
  refine to_next ?_
  refine hits_ret ?_
  exact hits_done (.inl rfl) rfl rfl rfl

set_option maxRecDepth 100000 in
theorem isByte_c {n : Nat} (h : n < 8) : CallsP Tryz.prog Tt 164 [markByte n, .sc (.int .i64 (n : Int))] (.sc (.bool true)) := by
  refine callsP_of gs_tt Tryz.func164 rfl Tryz.ntmps164 rfl fun w0 S0 stab => ?_
  refine hits_seq ?_
  refine hits_region ?_
  refine sq (f_assign rfl (lt rfl)) rfl rfl ?_
  refine hits_nil ?_
  refine to_next ?_
  refine hits_seq ?_
  refine hits_region ?_
  refine sq (f_move rfl (lt rfl)) rfl rfl ?_
  refine sq (f_move rfl (lt rfl)) rfl rfl ?_
  refine sq (f_remI rfl rfl (by decide) (by rw [Int.tmod_eq_emod_of_nonneg (by omega)]; omega : _ = (n : Int)) (lt rfl)) rfl rfl ?_
  refine sq (f_bin rfl rfl (iT ((IntWalk.i64_in _ (by omega) : _ = 1 + (n : Int)))) (lt rfl)) rfl rfl ?_
  refine sq (f_convI rfl us3 un5 (by rw [IntKind.wrap_u8]; omega : _ = 1 + (n : Int)) (lt rfl)) rfl rfl ?_
  refine sq (f_bin rfl rfl (bT ((beq_self_eq_true _))) (lt rfl)) rfl rfl ?_
  refine sq (f_assign rfl (lt rfl)) rfl rfl ?_
  refine hits_nil ?_
  refine to_next ?_
  refine hits_ret ?_
  exact hits_done (.inl rfl) rfl rfl rfl

def heldByte (q : Nat × Nat) : D := .agg [.list 1 (List.replicate q.1 (markByte q.2)), .list 1 (List.replicate (q.1 + 40) (markByte q.2)), .sc (.int .i64 (q.2 : Int))]
theorem heldByte_at {a : List (Nat × Nat)} {i : Nat} {p : Nat × Nat} (h : a[i]? = some p) : (a.map heldByte)[((i : Int)).toNat]? = some (heldByte p) := by rw [Int.toNat_natCast, List.getElem?_map, h]; rfl
theorem repByte_at {m k n : Nat} (h : k < m) : (List.replicate m (markByte n))[((k : Int)).toNat]? = some (markByte n) := by rw [Int.toNat_natCast, List.getElem?_replicate, if_pos h]

set_option maxRecDepth 100000 in
theorem lookByte_c (hl : List (Nat × Nat)) (h8 : hl.length ≤ 8) (hq : ∀ q ∈ hl, q.1 ≤ 1000000 ∧ q.2 < 8) : CallsP Tryz.prog Tt 95 [.eptr [.any, .any, .list 3 (hl.map heldByte)]] (.sc (.bool true)) := by
  have hll : (hl.map heldByte).length = hl.length := List.length_map _
  refine callsP_of gs_tt Tryz.func95 rfl Tryz.ntmps95 rfl fun w0 S0 stab => ?_
  refine hits_seq ?_
  refine hits_region ?_
  refine sq (f_assign rfl (lt rfl)) rfl rfl ?_
  refine hits_nil ?_
  refine to_next ?_
  refine hits_seq ?_
  refine hits_seq ?_
  refine hits_region ?_
  refine sq (f_assign rfl (lt rfl)) rfl rfl ?_
  refine hits_nil ?_
  refine to_next ?_
  refine hits_block ?_
  refine hits_loop (fun i : Nat => [(.slot 0, some (.d (.eptr [.any, .any, .list 3 (hl.map heldByte)]))), (.slot 3, some (.d (.sc (.int .i64 (i : Int)))))]) (fun i : Nat => i ≤ hl.length) (fun i : Nat => hl.length - i) 0 (Nat.zero_le _) ⟨rfl, rfl, trivial⟩ rfl ?_
  intro i hi0
  refine hits_seq ?_
  refine hits_seq ?_
  by_cases hi : i < hl.length
  · obtain ⟨q, hx⟩ : ∃ q, hl[i]? = some q := ⟨_, List.getElem?_eq_getElem hi⟩
    obtain ⟨hm, hn⟩ := hq q (List.mem_of_getElem? hx)
    obtain ⟨m, n⟩ := q
    simp only at hm hn
    refine hits_region ?_
    refine sq (f_move rfl (lt rfl)) rfl rfl ?_
    refine sq (f_move rfl (lt rfl)) rfl rfl ?_
    refine sq (f_nil rfl rfl (lt rfl)) rfl rfl ?_
    refine sq (f_fieldAddr rfl kf65_2 rfl (lt rfl)) rfl rfl ?_
    refine sq (f_load kd35 rfl rfl (lt rfl)) rfl rfl ?_
    refine sq (f_lenList rfl rfl un35 (lt rfl)) rfl rfl ?_
    refine sq (f_bin rfl rfl (bT (decide_eq_true (by omega))) (lt rfl)) rfl rfl ?_
    refine hits_nil ?_
    refine to_next ?_
    refine hits_cond rfl (fun c0 => ?_) (fun c0 => absurd c0 Bool.false_ne_true.symm)
    refine hits_skip ?_
    refine to_next ?_
    refine hits_seq ?_
    refine hits_block ?_
    refine hits_seq ?_
    refine hits_region ?_
    refine sq (f_move rfl (lt rfl)) rfl rfl ?_
    refine sq (f_nil rfl rfl (lt rfl)) rfl rfl ?_
    refine sq (f_fieldAddr rfl kf65_2 rfl (lt rfl)) rfl rfl ?_
    refine sq (f_load kd35 rfl rfl (lt rfl)) rfl rfl ?_
    refine sq (f_move rfl (lt rfl)) rfl rfl ?_
    refine sq (f_idxList rfl rfl rfl un35 kd108 (Int.natCast_nonneg _) (heldByte_at hx) (lt rfl)) rfl rfl ?_
    refine sq (f_load kd108 rfl rfl (lt rfl)) rfl rfl ?_
    refine sq (f_alloc zc108 (lt rfl)) rfl rfl ?_
    refine sq (f_store kd108 rfl rfl rfl rfl rfl) rfl rfl ?_
    refine hits_nil ?_
    refine to_next ?_
    refine hits_seq ?_
    refine hits_seq ?_
    refine hits_region ?_
    refine sq (f_fieldAddr rfl kf108_1 rfl (lt rfl)) rfl rfl ?_
    refine sq (f_load kd25 rfl rfl (lt rfl)) rfl rfl ?_
    refine sq (f_lenList rfl rfl un25 (lt rfl)) rfl rfl ?_
    refine sq (f_fieldAddr rfl kf108_0 rfl (lt rfl)) rfl rfl ?_
    refine sq (f_load kd25 rfl rfl (lt rfl)) rfl rfl ?_
    refine sq (f_lenList rfl rfl un25 (lt rfl)) rfl rfl ?_
    refine sq (f_bin rfl rfl (iT ((by rw [List.length_replicate]; exact (IntWalk.i64_in _ (by omega)).trans (by omega) : _ = ((m + 40 : Nat) : Int)))) (lt rfl)) rfl rfl ?_
    refine sq (f_bin rfl rfl (bT ((by rw [List.length_replicate]; exact bne_self_eq_false _ : _ = false))) (lt rfl)) rfl rfl ?_
    refine hits_nil ?_
    refine to_next ?_
    refine hits_cond rfl (fun c1 => absurd c1 Bool.false_ne_true) (fun c1 => ?_)
    refine hits_skip ?_
    refine to_next ?_
    refine hits_seq ?_
    refine hits_region ?_
    refine sq (f_assign rfl (lt rfl)) rfl rfl ?_
    refine hits_nil ?_
    refine to_next ?_
    refine hits_block ?_
    refine hits_loop (fun k : Nat => [(.slot 0, some (.d (.eptr [.any, .any, .list 3 (hl.map heldByte)]))), (.slot 3, some (.d (.sc (.int .i64 (i : Int))))), (.slot 4, some (.ptr 4 0)), (.box 4, some (.ptr 4 0)), (.cell 4 0, some (.d (.list 1 (List.replicate m (markByte n))))), (.cell 4 1, some (.d (.list 1 (List.replicate (m + 40) (markByte n))))), (.cell 4 2, some (.d (.sc (.int .i64 (n : Int))))), (.slot 5, some (.d (.sc (.int .i64 (k : Int)))))]) (fun k : Nat => k ≤ m + 40) (fun k : Nat => m + 40 - k) 0 (Nat.zero_le _) ⟨rfl, rfl, rfl, rfl, rfl, rfl, rfl, rfl, trivial⟩ rfl ?_
    intro k hk0
    refine hits_seq ?_
    refine hits_seq ?_
    by_cases hk : k < m + 40
    · by_cases hk2 : k < m
      · refine hits_region ?_
        refine sq (f_move rfl (lt rfl)) rfl rfl ?_
        refine sq (f_fieldAddr rfl kf108_1 rfl (lt rfl)) rfl rfl ?_
        refine sq (f_load kd25 rfl rfl (lt rfl)) rfl rfl ?_
        refine sq (f_lenList rfl rfl un25 (lt rfl)) rfl rfl ?_
        refine sq (f_bin rfl rfl (bT (decide_eq_true (by rw [List.length_replicate]; omega))) (lt rfl)) rfl rfl ?_
        refine hits_nil ?_
        refine to_next ?_
        refine hits_cond rfl (fun c2 => ?_) (fun c2 => absurd c2 Bool.false_ne_true.symm)
        refine hits_skip ?_
        refine to_next ?_
        refine hits_seq ?_
        refine hits_block ?_
        refine hits_seq ?_
        refine hits_drawn mixed ?_
        refine dq (f_fieldAddr rfl kf108_1 rfl (lt rfl)) rfl rfl ?_
        refine dq (f_load kd25 rfl rfl (lt rfl)) rfl rfl ?_
        refine dq (f_move rfl (lt rfl)) rfl rfl ?_
        refine dq (f_idxList rfl rfl rfl un25 kd5 (Int.natCast_nonneg _) (repByte_at hk) (lt rfl)) rfl rfl ?_
        refine dq (f_load kd5 rfl rfl (lt rfl)) rfl rfl ?_
        refine dq (f_fieldAddr rfl kf108_2 rfl (lt rfl)) rfl rfl ?_
        refine dq (f_load kd3 rfl rfl (lt rfl)) rfl rfl ?_
        refine dq (f_call en164 rfl (isByte_c hn) (lt rfl)) rfl rfl ?_
        refine dq (f_un rfl rfl (lt rfl)) rfl rfl ?_
        refine dq (f_move rfl (lt rfl)) rfl rfl ?_
        refine dq_yes (f_move rfl (lt rfl)) rfl rfl rfl rfl (lt rfl) ?_
        refine dq_yes (f_fieldAddr rfl kf108_0 rfl (lt rfl)) rfl rfl rfl rfl (lt rfl) ?_
        refine dq_yes (f_load kd25 rfl rfl (lt rfl)) rfl rfl rfl rfl (lt rfl) ?_
        refine dq_yes (f_lenList rfl rfl un25 (lt rfl)) rfl rfl rfl rfl (lt rfl) ?_
        refine dq_yes (f_bin rfl rfl (bT (decide_eq_true (by rw [List.length_replicate]; omega))) (lt rfl)) rfl rfl rfl rfl (lt rfl) ?_
        refine dq_yes (f_move rfl (lt rfl)) rfl rfl rfl rfl (lt rfl) ?_
        refine dq_yes (f_fieldAddr rfl kf108_0 rfl (lt rfl)) rfl rfl rfl rfl (lt rfl) ?_
        refine dq_yes (f_load kd25 rfl rfl (lt rfl)) rfl rfl rfl rfl (lt rfl) ?_
        refine dq_yes (f_move rfl (lt rfl)) rfl rfl rfl rfl (lt rfl) ?_
        refine dq_yes (f_idxList rfl rfl rfl un25 kd5 (Int.natCast_nonneg _) (repByte_at hk2) (lt rfl)) rfl rfl rfl rfl (lt rfl) ?_
        refine dq_yes (f_load kd5 rfl rfl (lt rfl)) rfl rfl rfl rfl (lt rfl) ?_
        refine dq_yes (f_fieldAddr rfl kf108_2 rfl (lt rfl)) rfl rfl rfl rfl (lt rfl) ?_
        refine dq_yes (f_load kd3 rfl rfl (lt rfl)) rfl rfl rfl rfl (lt rfl) ?_
        refine dq_yes (f_call en164 rfl (isByte_c hn) (lt rfl)) rfl rfl rfl rfl (lt rfl) ?_
        refine dq_yes (f_un rfl rfl (lt rfl)) rfl rfl rfl rfl (lt rfl) ?_
        refine dq_yes (f_pick rfl rfl (lt rfl)) rfl rfl rfl rfl (lt rfl) ?_
        refine dq (f_pick rfl rfl (lt rfl)) rfl rfl ?_
        refine dq_nil rfl ?_
        refine to_next ?_
        refine hits_cond rfl (fun c3 => absurd c3 Bool.false_ne_true) (fun c3 => ?_)
        refine hits_skip ?_
        refine in_next ?_
        refine to_next ?_
        refine hits_region ?_
        refine sq (f_move rfl (lt rfl)) rfl rfl ?_
        refine sq (f_bin rfl rfl (iT (((IntWalk.i64_in _ (by omega)).trans (by omega) : _ = ((k + 1 : Nat) : Int)))) (lt rfl)) rfl rfl ?_
        refine sq (f_assign rfl (lt rfl)) rfl rfl ?_
        refine hits_nil ?_
        refine to_next ?_
        refine round_end (k + 1) (by omega) (by omega) ⟨rfl, rfl, rfl, rfl, rfl, rfl, rfl, rfl, trivial⟩ rfl
      · refine hits_region ?_
        refine sq (f_move rfl (lt rfl)) rfl rfl ?_
        refine sq (f_fieldAddr rfl kf108_1 rfl (lt rfl)) rfl rfl ?_
        refine sq (f_load kd25 rfl rfl (lt rfl)) rfl rfl ?_
        refine sq (f_lenList rfl rfl un25 (lt rfl)) rfl rfl ?_
        refine sq (f_bin rfl rfl (bT (decide_eq_true (by rw [List.length_replicate]; omega))) (lt rfl)) rfl rfl ?_
        refine hits_nil ?_
        refine to_next ?_
        refine hits_cond rfl (fun c2 => ?_) (fun c2 => absurd c2 Bool.false_ne_true.symm)
        refine hits_skip ?_
        refine to_next ?_
        refine hits_seq ?_
        refine hits_block ?_
        refine hits_seq ?_
        refine hits_drawn mixed ?_
        refine dq (f_fieldAddr rfl kf108_1 rfl (lt rfl)) rfl rfl ?_
        refine dq (f_load kd25 rfl rfl (lt rfl)) rfl rfl ?_
        refine dq (f_move rfl (lt rfl)) rfl rfl ?_
        refine dq (f_idxList rfl rfl rfl un25 kd5 (Int.natCast_nonneg _) (repByte_at hk) (lt rfl)) rfl rfl ?_
        refine dq (f_load kd5 rfl rfl (lt rfl)) rfl rfl ?_
        refine dq (f_fieldAddr rfl kf108_2 rfl (lt rfl)) rfl rfl ?_
        refine dq (f_load kd3 rfl rfl (lt rfl)) rfl rfl ?_
        refine dq (f_call en164 rfl (isByte_c hn) (lt rfl)) rfl rfl ?_
        refine dq (f_un rfl rfl (lt rfl)) rfl rfl ?_
        refine dq (f_move rfl (lt rfl)) rfl rfl ?_
        refine dq_yes (f_move rfl (lt rfl)) rfl rfl rfl rfl (lt rfl) ?_
        refine dq_yes (f_fieldAddr rfl kf108_0 rfl (lt rfl)) rfl rfl rfl rfl (lt rfl) ?_
        refine dq_yes (f_load kd25 rfl rfl (lt rfl)) rfl rfl rfl rfl (lt rfl) ?_
        refine dq_yes (f_lenList rfl rfl un25 (lt rfl)) rfl rfl rfl rfl (lt rfl) ?_
        refine dq_yes (f_bin rfl rfl (bT (decide_eq_false (by rw [List.length_replicate]; omega))) (lt rfl)) rfl rfl rfl rfl (lt rfl) ?_
        refine dq_yes (f_move rfl (lt rfl)) rfl rfl rfl rfl (lt rfl) ?_
        refine dq_no rfl rfl rfl rfl rfl (lt rfl) (lt rfl) ?_
        refine dq_no rfl rfl rfl rfl rfl (lt rfl) (lt rfl) ?_
        refine dq_no rfl rfl rfl rfl rfl (lt rfl) (lt rfl) ?_
        refine dq_no rfl rfl rfl rfl rfl (lt rfl) (lt rfl) ?_
        refine dq_no rfl rfl rfl rfl rfl (lt rfl) (lt rfl) ?_
        refine dq_no rfl rfl rfl rfl rfl (lt rfl) (lt rfl) ?_
        refine dq_no rfl rfl rfl rfl rfl (lt rfl) (lt rfl) ?_
        refine dq_no rfl rfl rfl rfl rfl (lt rfl) (lt rfl) ?_
        refine dq_no rfl rfl rfl rfl rfl (lt rfl) (lt rfl) ?_
        refine dq_yes (f_pick rfl rfl (lt rfl)) rfl rfl rfl rfl (lt rfl) ?_
        refine dq (f_pick rfl rfl (lt rfl)) rfl rfl ?_
        refine dq_nil rfl ?_
        refine to_next ?_
        refine hits_cond rfl (fun c3 => absurd c3 Bool.false_ne_true) (fun c3 => ?_)
        refine hits_skip ?_
        refine in_next ?_
        refine to_next ?_
        refine hits_region ?_
        refine sq (f_move rfl (lt rfl)) rfl rfl ?_
        refine sq (f_bin rfl rfl (iT (((IntWalk.i64_in _ (by omega)).trans (by omega) : _ = ((k + 1 : Nat) : Int)))) (lt rfl)) rfl rfl ?_
        refine sq (f_assign rfl (lt rfl)) rfl rfl ?_
        refine hits_nil ?_
        refine to_next ?_
        refine round_end (k + 1) (by omega) (by omega) ⟨rfl, rfl, rfl, rfl, rfl, rfl, rfl, rfl, trivial⟩ rfl
    · refine hits_region ?_
      refine sq (f_move rfl (lt rfl)) rfl rfl ?_
      refine sq (f_fieldAddr rfl kf108_1 rfl (lt rfl)) rfl rfl ?_
      refine sq (f_load kd25 rfl rfl (lt rfl)) rfl rfl ?_
      refine sq (f_lenList rfl rfl un25 (lt rfl)) rfl rfl ?_
      refine sq (f_bin rfl rfl (bT (decide_eq_false (by rw [List.length_replicate]; omega))) (lt rfl)) rfl rfl ?_
      refine hits_nil ?_
      refine to_next ?_
      refine hits_cond rfl (fun c2 => absurd c2 Bool.false_ne_true) (fun c2 => ?_)
      refine hits_exit ?_
      refine to_exit ?_
      refine to_exit ?_
      refine in_hit rfl ?_
      refine in_next ?_
      refine to_next ?_
      refine hits_region ?_
      refine sq (f_move rfl (lt rfl)) rfl rfl ?_
      refine sq (f_bin rfl rfl (iT (((IntWalk.i64_in _ (by omega)).trans (by omega) : _ = ((i + 1 : Nat) : Int)))) (lt rfl)) rfl rfl ?_
      refine sq (f_assign rfl (lt rfl)) rfl rfl ?_
      refine hits_nil ?_
      refine to_next ?_
      refine round_end (i + 1) (by omega) (by omega) ⟨rfl, rfl, trivial⟩ rfl
  · refine hits_region ?_
    refine sq (f_move rfl (lt rfl)) rfl rfl ?_
    refine sq (f_move rfl (lt rfl)) rfl rfl ?_
    refine sq (f_nil rfl rfl (lt rfl)) rfl rfl ?_
    refine sq (f_fieldAddr rfl kf65_2 rfl (lt rfl)) rfl rfl ?_
    refine sq (f_load kd35 rfl rfl (lt rfl)) rfl rfl ?_
    refine sq (f_lenList rfl rfl un35 (lt rfl)) rfl rfl ?_
    refine sq (f_bin rfl rfl (bT (decide_eq_false (by omega))) (lt rfl)) rfl rfl ?_
    refine hits_nil ?_
    refine to_next ?_
    refine hits_cond rfl (fun c0 => absurd c0 Bool.false_ne_true) (fun c0 => ?_)
    refine hits_exit ?_
    refine to_exit ?_
    refine to_exit ?_
    refine in_hit rfl ?_
    refine to_next ?_
    refine hits_seq ?_
    refine hits_region ?_
    refine sq (f_assign rfl (lt rfl)) rfl rfl ?_
    refine hits_nil ?_
    refine to_next ?_
    refine hits_ret ?_
    exact hits_done (.inl rfl) rfl rfl rfl

end Go.Proofs.YtcaedggggkchiaaGreatDoor.Ln
