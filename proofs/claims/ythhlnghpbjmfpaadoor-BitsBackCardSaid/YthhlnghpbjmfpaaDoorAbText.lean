/- Texts and bytes of numbers, over data. -/
import Derived.Test.YthhlnghpbjmfpaaDoorAbBits
import Derived.Test.YthhlnghpbjmfpaaDoorPTrydDoLaws
import Derived.IntWalk
namespace Go.Proofs.YthhlnghpbjmfpaaDoor.AbBits
open Go Go.RowKit Go.Ab Go.Proofs.YthhlnghpbjmfpaaDoor Go.Proofs.YthhlnghpbjmfpaaDoor.PTryd Go.Proofs.YthhlnghpbjmfpaaDoor.PTrydFns Go.Proofs.YthhlnghpbjmfpaaDoor.BitsMath Go.Proofs.YthhlnghpbjmfpaaDoor.Press
set_option linter.unusedVariables false
set_option linter.unusedSimpArgs false
theorem un49 : Tryd.prog.underlying 49 = some (.slice 5) := by kernel_rfl
theorem kd5 : kd Tryd.prog 5 = some (false, 1) := by kernel_rfl
theorem en15 : enters Tryd.prog 15 = true := by kernel_rfl
theorem en29 : enters Tryd.prog 29 = true := by kernel_rfl
theorem en30 : enters Tryd.prog 30 = true := by kernel_rfl
theorem en31 : enters Tryd.prog 31 = true := by kernel_rfl
theorem kd27 : kd Tryd.prog 27 = some (true, 3) := by kernel_rfl
theorem kf27_2 : kf Tryd.prog 27 2 = some 2 := by kernel_rfl
theorem kd22 : kd Tryd.prog 22 = some (false, 1) := by kernel_rfl
theorem kf27_1 : kf Tryd.prog 27 1 = some 1 := by kernel_rfl
theorem un9 : Tryd.prog.underlying 9 = some (.string) := by kernel_rfl
theorem kf27_0 : kf Tryd.prog 27 0 = some 0 := by kernel_rfl
theorem kd3 : kd Tryd.prog 3 = some (false, 1) := by kernel_rfl
theorem us3 : (Tryd.prog.underlying 3).isSome = true := by kernel_rfl
theorem un63 : Tryd.prog.underlying 63 = some (.int .u64) := by kernel_rfl
theorem en28 : enters Tryd.prog 28 = true := by kernel_rfl
theorem fp27_2 : fp Tryd.prog 27 2 = some (2, false, 1) := by kernel_rfl
theorem us22 : (Tryd.prog.underlying 22).isSome = true := by kernel_rfl
theorem un5 : Tryd.prog.underlying 5 = some (.int .u8) := by kernel_rfl
theorem sk49 : sk Tryd.prog 49 = some (5, 1, [.int .u8 0]) := by kernel_rfl
theorem apk49 : apk Tryd.prog 49 49 = some (5, 1, 1) := by kernel_rfl
theorem gs_tabs : GS Tabs := fun _ _ h hb => h.below hb
def bitD (w v : Nat) : D := .agg [.sc (.int .i64 (w : Int)), .sc (.int .u64 (hiOf v)), .sc (.int .u64 (loOf v))]
def bytesD (l : List Int) : D := .list 1 (l.map fun n => .sc (.int .u8 n))
theorem bytes_at {l : List Int} {i : Nat} {p : Int} (h : l[i]? = some p) : (l.map fun n => D.sc (.int .u8 n))[((i : Int)).toNat]? = some (.sc (.int .u8 p)) := by simp [h]
theorem take_snoc {l : List Int} {i : Nat} {p : Int} (h : l[i]? = some p) : l.take (i + 1) = l.take i ++ [p] := by
  rw [List.take_add_one, h]; rfl
theorem all_taken {a b : List Int} {i : Nat} (hl : a.length = b.length) (hi : i ≤ a.length) (hg : a.length ≤ i) (h : a.take i = b.take i) : a = b := by
  have : i = a.length := by omega
  subst this
  rw [List.take_length, hl, List.take_length] at h; exact h
theorem wrap_succ {i : Nat} (h : i < 9223372036854775807) : IntKind.i64.wrap ((i : Int) + 1) = ((i + 1 : Nat) : Int) := by
  exact IntWalk.i64_in _ (by omega)
-- texts
def hexB (u : Nat) : ByteArray := ⟨(Hex.hexL u).toArray⟩
def zerosB (c : Nat) : ByteArray := ⟨(Lib.repeatL (⟨#[48]⟩ : ByteArray).data.toList c).toArray⟩
def itoaB (w : Nat) : ByteArray := ⟨(Lib.itoa (w : Int)).toArray⟩
def digitsB (v : Nat) : ByteArray := if 0 < v / 2 ^ 64 then hexB (v / 2 ^ 64) ++ zerosB (16 - (hexB (v % 2 ^ 64)).size) ++ hexB (v % 2 ^ 64) else hexB (v % 2 ^ 64)
def textB (w v : Nat) : ByteArray := itoaB w ++ ⟨#[119]⟩ ++ digitsB v
theorem textB_hi (w v : Nat) (h : 0 < v / 2 ^ 64) : textB w v = itoaB w ++ ⟨#[119]⟩ ++ (hexB (v / 2 ^ 64) ++ zerosB (16 - (hexB (v % 2 ^ 64)).size) ++ hexB (v % 2 ^ 64)) := by unfold textB digitsB; rw [if_pos h]
theorem textB_lo (w v : Nat) (h : ¬ 0 < v / 2 ^ 64) : textB w v = itoaB w ++ ⟨#[119]⟩ ++ hexB (v % 2 ^ 64) := by unfold textB digitsB; rw [if_neg h]
theorem hexL_le : ∀ (k u : Nat), u < 16 ^ (k + 1) → (Hex.hexL u).length ≤ k + 1
  | 0, u, h => by rw [Hex.hexL, if_pos (by simpa using h)]; simp
  | k + 1, u, h => by
    rw [Hex.hexL]
    split
    · simp
    · have := hexL_le k (u / 16) (Nat.div_lt_of_lt_mul (by rw [Nat.pow_succ] at h; omega))
      simp; omega
theorem hexB_size {u : Nat} (h : u < 18446744073709551616) : (hexB u).size ≤ 16 := by
  have := hexL_le 15 u (by simpa using h)
  simpa [hexB, ByteArray.size] using this
theorem zerosB_size (c : Nat) : (zerosB c).size = c := by
  have : ∀ (l : List UInt8) (n : Nat), (Lib.repeatL l n).length = n * l.length := fun l n => by
    induction n with
    | zero => simp [Lib.repeatL]
    | succ n ih => simp [Lib.repeatL, ih, Nat.add_mul]; try omega
  simpa [zerosB, ByteArray.size] using this [48] c
theorem itoa_small : ∀ w : Nat, w < 129 → (Lib.itoa (w : Int)).length ≤ 3 := by decide +kernel
theorem itoaB_size {w : Nat} (h : w ≤ 128) : (itoaB w).size ≤ 3 := by
  have := itoa_small w (by omega)
  simpa [itoaB, ByteArray.size] using this
theorem size_app (a b : ByteArray) : (a ++ b).size = a.size + b.size := ByteArray.size_append
theorem wrap_16 {u : Nat} (h : u < 18446744073709551616) : IntKind.i64.wrap (16 - ((hexB u).size : Int)) = ((16 - (hexB u).size : Nat) : Int) := by
  have := hexB_size h
  rw [IntWalk.i64_in _ (by omega)]; omega
theorem cat1 (v : Nat) (hv : v < 2 ^ 128) : (hexB (v / 2 ^ 64)).size + (zerosB (16 - (hexB (v % 2 ^ 64)).size)).size ≤ 9223372036854775807 := by
  have h1 := hexB_size (u := v / 2 ^ 64) (by have := hi_lt hv; simpa using this)
  have h2 := zerosB_size (16 - (hexB (v % 2 ^ 64)).size)
  omega
theorem cat2 (v : Nat) (hv : v < 2 ^ 128) : (hexB (v / 2 ^ 64) ++ zerosB (16 - (hexB (v % 2 ^ 64)).size)).size + (hexB (v % 2 ^ 64)).size ≤ 9223372036854775807 := by
  have h1 := hexB_size (u := v / 2 ^ 64) (by have := hi_lt hv; simpa using this)
  have h2 := zerosB_size (16 - (hexB (v % 2 ^ 64)).size)
  have h3 := hexB_size (u := v % 2 ^ 64) (by have := lo_lt v; simpa using this)
  rw [size_app]
  omega
theorem cat3 (w : Nat) (h : w ≤ 128) : (itoaB w).size + (⟨#[119]⟩ : ByteArray).size ≤ 9223372036854775807 := by
  have := itoaB_size h
  have h1 : (⟨#[119]⟩ : ByteArray).size = 1 := rfl
  omega
theorem cat4 (w v : Nat) (h : w ≤ 128) (hv : v < 2 ^ 128) : (itoaB w ++ ⟨#[119]⟩).size + (hexB (v / 2 ^ 64) ++ zerosB (16 - (hexB (v % 2 ^ 64)).size) ++ hexB (v % 2 ^ 64)).size ≤ 9223372036854775807 := by
  have := itoaB_size h
  have h0 : (⟨#[119]⟩ : ByteArray).size = 1 := rfl
  have h1 := hexB_size (u := v / 2 ^ 64) (by have := hi_lt hv; simpa using this)
  have h2 := zerosB_size (16 - (hexB (v % 2 ^ 64)).size)
  have h3 := hexB_size (u := v % 2 ^ 64) (by have := lo_lt v; simpa using this)
  rw [size_app, size_app, size_app]
  omega
theorem cat5 (w v : Nat) (h : w ≤ 128) : (itoaB w ++ ⟨#[119]⟩).size + (hexB (v % 2 ^ 64)).size ≤ 9223372036854775807 := by
  have := itoaB_size h
  have h0 : (⟨#[119]⟩ : ByteArray).size = 1 := rfl
  have h3 := hexB_size (u := v % 2 ^ 64) (by have := lo_lt v; simpa using this)
  rw [size_app]
  omega
theorem hi_pos {v : Nat} (c : decide (hiOf v > 0) = true) : 0 < v / 2 ^ 64 := by have := of_decide_eq_true c; unfold hiOf at this; omega
theorem hi_zero {v : Nat} (c : decide (hiOf v > 0) = false) : ¬ 0 < v / 2 ^ 64 := by have := of_decide_eq_false c; unfold hiOf at this; omega
-- bytes
def bytesUpto (w v j : Nat) : List Int := (List.range j).map fun k => ((v / 2 ^ (8 * ((w + 7) / 8 - 1 - k)) % 256 : Nat) : Int)
def bytesOf (w v : Nat) : List Int := bytesUpto w v ((w + 7) / 8)
theorem start_j (w : Nat) (h : w ≤ 128) : IntKind.i64.wrap (IntKind.i64.wrap ((IntKind.i64.wrap ((w : Int) + 7)).tdiv 8) - 1) = (((w + 7) / 8 : Nat) : Int) - 1 - ((0 : Nat) : Int) := by
  rw [IntWalk.i64_in ((w : Int) + 7) (by omega), Int.tdiv_eq_ediv_of_nonneg (by omega), IntWalk.i64_in (((w : Int) + 7) / 8) (by omega), IntWalk.i64_in _ (by omega)]; omega
theorem step_j (w : Nat) (h : w ≤ 128) (j : Nat) (hj : j < (w + 7) / 8) : IntKind.i64.wrap ((((w + 7) / 8 : Nat) : Int) - 1 - (j : Int) - 1) = (((w + 7) / 8 : Nat) : Int) - 1 - ((j + 1 : Nat) : Int) := by
  rw [IntWalk.i64_in _ (by omega)]; omega
theorem round_in {w j : Nat} (c : decide ((((w + 7) / 8 : Nat) : Int) - 1 - (j : Int) ≥ 0) = true) : j < (w + 7) / 8 := by have := of_decide_eq_true c; omega
theorem round_out {w j : Nat} (c : decide ((((w + 7) / 8 : Nat) : Int) - 1 - (j : Int) ≥ 0) = false) : (w + 7) / 8 ≤ j := by have := of_decide_eq_false c; omega
theorem mul_j {w : Nat} (h : w ≤ 128) (j : Nat) (hj : j < (w + 7) / 8) : IntKind.i64.wrap (8 * ((((w + 7) / 8 : Nat) : Int) - 1 - (j : Int))) = ((8 * ((w + 7) / 8 - 1 - j) : Nat) : Int) := by
  rw [IntWalk.i64_in _ (by omega)]; omega
theorem conv_j {w : Nat} (h : w ≤ 128) (j : Nat) (hj : j < (w + 7) / 8) : IntKind.u64.wrap (((8 * ((w + 7) / 8 - 1 - j) : Nat) : Int)) = ((8 * ((w + 7) / 8 - 1 - j) : Nat) : Int) := wraps_u64 _ (by omega) (by omega)
theorem down_j {w v : Nat} (h : w ≤ 128) (hv : v < 2 ^ 128) (j : Nat) (hj : j < (w + 7) / 8) : bits_down.f w (hiOf v) (loOf v) ((8 * ((w + 7) / 8 - 1 - j) : Nat) : Int) = some ((w : Int), hiOf (v / 2 ^ (8 * ((w + 7) / 8 - 1 - j)) % 2 ^ w), loOf (v / 2 ^ (8 * ((w + 7) / 8 - 1 - j)) % 2 ^ w)) :=
  down_is w h hv _ (by omega)
theorem bytes_next {w v j : Nat} (hj : j < (w + 7) / 8) (hv : v < 2 ^ w) : ((bytesUpto w v j).map fun n => D.sc (.int .u8 n)) ++ [D.sc (.int .u8 (IntKind.u8.wrap (loOf (v / 2 ^ (8 * ((w + 7) / 8 - 1 - j)) % 2 ^ w))))] = (bytesUpto w v (j + 1)).map fun n => .sc (.int .u8 n) := by
  unfold bytesUpto
  rw [List.range_succ, List.map_append, List.map_append]
  congr 1
  simp only [List.map_cons, List.map_nil]
  congr 3
  have hlt : v / 2 ^ (8 * ((w + 7) / 8 - 1 - j)) < 2 ^ w := Nat.lt_of_le_of_lt (Nat.div_le_self _ _) hv
  rw [Nat.mod_eq_of_lt hlt, IntKind.wrap_u8]
  unfold loOf
  omega
theorem upto_len (w v j : Nat) : (bytesUpto w v j).length = j := by simp [bytesUpto]


theorem fmt_c {u : Nat} (hu : u < 18446744073709551616) : CallsP Tryd.prog Tabs 29 [.sc (.int .u64 (u : Int)), .sc (.int .i64 16)] (.sc (.string (hexB u))) :=
  lift rfl rfl fun w hg => Hex.FormatUint_16 u hu w hg.bruijn

theorem rep_c {c : Nat} (h : c ≤ 16) : CallsP Tryd.prog Tabs 30 [.sc (.string ⟨#[48]⟩), .sc (.int .i64 (c : Int))] (.sc (.string (zerosB c))) :=
  lift rfl rfl fun w hg => Tryd.strings_Repeat ⟨#[48]⟩ c w (by omega) (Nat.le_trans (Nat.mul_le_mul (Nat.le_refl 1) h) (by decide))

theorem rep_c' {u : Nat} (hu : u < 18446744073709551616) : CallsP Tryd.prog Tabs 30 [.sc (.string ⟨#[48]⟩), .sc (.int .i64 (IntKind.i64.wrap (16 - ((hexB u).size : Int))))] (.sc (.string (zerosB (16 - (hexB u).size)))) := by
  rw [wrap_16 hu]; exact rep_c (by omega)

theorem itoa_c {n : Int} (h1 : -9223372036854775808 ≤ n) (h2 : n ≤ 9223372036854775807) : CallsP Tryd.prog Tabs 31 [.sc (.int .i64 n)] (.sc (.string ⟨(Lib.itoa n).toArray⟩)) :=
  lift rfl rfl fun w hg => (Tryd.strconv_Itoa n h1 h2 w hg.pow).mono fun e w' ⟨q, k, os, r⟩ => ⟨q, by rw [r]; exact Hex.below_grow k os⟩

set_option maxRecDepth 100000 in
theorem same_c (a b : List Int) (ha : a.length ≤ 140737488355328) (hb : b.length ≤ 140737488355328) : CallsP Tryd.prog Tabs 23 [bytesD a, bytesD b] (.sc (.bool (decide (a = b)))) := by
  refine callsP_of gs_tabs Tryd.func23 rfl Tryd.ntmps23 rfl fun w0 S0 stab => ?_
  refine hits_seq ?_
  refine hits_region ?_
  refine sq (f_assign rfl (lt rfl)) rfl rfl ?_
  refine hits_nil ?_
  refine to_next ?_
  refine hits_seq ?_
  refine hits_seq ?_
  refine hits_region ?_
  refine sq (f_move rfl (lt rfl)) rfl rfl ?_
  refine sq (f_lenList rfl rfl un49 (lt rfl)) rfl rfl ?_
  refine sq (f_move rfl (lt rfl)) rfl rfl ?_
  refine sq (f_lenList rfl rfl un49 (lt rfl)) rfl rfl ?_
  refine sq (f_bin rfl rfl rfl (lt rfl)) rfl rfl ?_
  refine hits_nil ?_
  refine to_next ?_
  refine hits_cond rfl (fun c0 => ?_) (fun c0 => ?_)
  · refine hits_seq ?_
    refine hits_region ?_
    refine sq (f_assign rfl (lt rfl)) rfl rfl ?_
    refine hits_nil ?_
    refine to_next ?_
    refine hits_ret ?_
    refine to_ret ?_
    exact hits_done (.inl rfl) rfl rfl (by rw [show decide (a = b) = false from decide_eq_false (fun c => by subst c; simp at c0)]; rfl)
  · refine hits_skip ?_
    refine to_next ?_
    refine hits_seq ?_
    refine hits_seq ?_
    have hl : a.length = b.length := by (have := c0; simp at this; omega)
    clear c0
    refine hits_region ?_
    refine sq (f_assign rfl (lt rfl)) rfl rfl ?_
    refine hits_nil ?_
    refine to_next ?_
    refine hits_block ?_
    refine hits_loop (fun i : Nat => [(.slot 0, some (.d (bytesD a))), (.slot 1, some (.d (bytesD b))), (.slot 5, some (.d (.sc (.int .i64 (i : Int)))))]) (fun i => i ≤ a.length ∧ a.take i = b.take i) (fun i => a.length - i) 0 ⟨Nat.zero_le _, rfl⟩ ⟨rfl, rfl, rfl, trivial⟩ rfl ?_
    intro i hx
    refine hits_seq ?_
    refine hits_seq ?_
    obtain ⟨hi, hj⟩ := hx
    refine hits_region ?_
    refine sq (f_move rfl (lt rfl)) rfl rfl ?_
    refine sq (f_move rfl (lt rfl)) rfl rfl ?_
    refine sq (f_lenList rfl rfl un49 (lt rfl)) rfl rfl ?_
    refine sq (f_bin rfl rfl rfl (lt rfl)) rfl rfl ?_
    refine hits_nil ?_
    refine to_next ?_
    refine hits_cond rfl (fun c1 => ?_) (fun c1 => ?_)
    · refine hits_skip ?_
      refine to_next ?_
      refine hits_seq ?_
      refine hits_block ?_
      refine hits_seq ?_
      have hlt : i < a.length := by simpa using c1
      obtain ⟨p, hp⟩ : ∃ p, a[i]? = some p := ⟨_, List.getElem?_eq_getElem hlt⟩
      obtain ⟨q, hq⟩ : ∃ q, b[i]? = some q := ⟨_, List.getElem?_eq_getElem (by omega)⟩
      refine hits_drawn mixed ?_
      refine dq (f_move rfl (lt rfl)) rfl rfl ?_
      refine dq (f_move rfl (lt rfl)) rfl rfl ?_
      refine dq (f_idxList rfl rfl rfl un49 kd5 (Int.natCast_nonneg _) (bytes_at hp) (lt rfl)) rfl rfl ?_
      refine dq (f_load kd5 rfl rfl (lt rfl)) rfl rfl ?_
      refine dq (f_move rfl (lt rfl)) rfl rfl ?_
      refine dq (f_move rfl (lt rfl)) rfl rfl ?_
      refine dq (f_idxList rfl rfl rfl un49 kd5 (Int.natCast_nonneg _) (bytes_at hq) (lt rfl)) rfl rfl ?_
      refine dq (f_load kd5 rfl rfl (lt rfl)) rfl rfl ?_
      refine dq (f_bin rfl rfl rfl (lt rfl)) rfl rfl ?_
      refine dq_nil rfl ?_
      refine to_next ?_
      refine hits_cond rfl (fun c2 => ?_) (fun c2 => ?_)
      · refine hits_seq ?_
        refine hits_region ?_
        refine sq (f_assign rfl (lt rfl)) rfl rfl ?_
        refine hits_nil ?_
        refine to_next ?_
        refine hits_ret ?_
        refine in_ret ?_
        refine to_ret ?_
        refine to_ret ?_
        refine in_ret ?_
        refine to_ret ?_
        exact hits_done (.inl rfl) rfl rfl (by rw [show decide (a = b) = false from decide_eq_false (fun c => by subst c; rw [hp] at hq; simp at c2; exact c2 (Option.some.inj hq))]; rfl)
      · refine hits_skip ?_
        refine in_next ?_
        refine to_next ?_
        refine hits_region ?_
        refine sq (f_move rfl (lt rfl)) rfl rfl ?_
        refine sq (f_bin rfl rfl rfl (lt rfl)) rfl rfl ?_
        refine sq (f_assign rfl (lt rfl)) rfl rfl ?_
        refine hits_nil ?_
        refine to_next ?_
        have hpq : p = q := by simpa using c2
        refine round_end (i + 1) ⟨by omega, ?_⟩ (by omega) ⟨rfl, rfl, ?_, trivial⟩ rfl
        · rw [take_snoc hp, take_snoc hq, hj, hpq]
        · exact congrArg (fun z => some (V.d (.sc (.int .i64 z)))) (wrap_succ (by omega))
    · refine hits_exit ?_
      refine to_exit ?_
      refine to_exit ?_
      refine in_hit rfl ?_
      refine to_next ?_
      refine hits_seq ?_
      refine hits_region ?_
      refine sq (f_assign rfl (lt rfl)) rfl rfl ?_
      refine hits_nil ?_
      refine to_next ?_
      refine hits_ret ?_
      exact hits_done (.inl rfl) rfl rfl (by rw [show decide (a = b) = true from decide_eq_true (all_taken hl hi (by have := of_decide_eq_false c1; simp at this; omega) hj)]; rfl)

set_option maxRecDepth 100000 in
theorem text_c {w v : Nat} (h0 : 1 ≤ w) (h : w ≤ 128) (hv : v < 2 ^ w) : CallsP Tryd.prog Tabs 17 [bitD w v] (.tup [.sc (.string (textB w v)), .sc (.int .i64 0)]) := by
  have hv' := lt128 h hv
  refine callsP_of gs_tabs Tryd.func17 rfl Tryd.ntmps17 rfl fun w0 S0 stab => ?_
  refine hits_seq ?_
  refine hits_region ?_
  refine sq (f_box rfl rfl (lt rfl)) rfl rfl ?_
  refine sq (f_assign rfl (lt rfl)) rfl rfl ?_
  refine sq (f_assign rfl (lt rfl)) rfl rfl ?_
  refine hits_nil ?_
  refine to_next ?_
  refine hits_seq ?_
  refine hits_seq ?_
  refine hits_region ?_
  refine sq (f_load kd27 rfl rfl (lt rfl)) rfl rfl ?_
  refine sq (f_call en15 rfl (check_c (check_ok h0 h hv)) (lt rfl)) rfl rfl ?_
  refine sq (f_un rfl rfl (lt rfl)) rfl rfl ?_
  refine hits_nil ?_
  refine to_next ?_
  refine hits_cond rfl (fun c0 => ?_) (fun c0 => ?_)
  case refine_1 => exact absurd c0 Bool.false_ne_true
  case refine_2 =>
    refine hits_skip ?_
    refine to_next ?_
    refine hits_seq ?_
    refine hits_region ?_
    refine sq (f_fieldAddr rfl kf27_2 rfl (lt rfl)) rfl rfl ?_
    refine sq (f_load kd22 rfl rfl (lt rfl)) rfl rfl ?_
    refine sq (f_call en29 rfl (fmt_c (lo_lt v)) (lt rfl)) rfl rfl ?_
    refine sq (f_assign rfl (lt rfl)) rfl rfl ?_
    refine hits_nil ?_
    refine to_next ?_
    refine hits_seq ?_
    refine hits_seq ?_
    refine hits_region ?_
    refine sq (f_fieldAddr rfl kf27_1 rfl (lt rfl)) rfl rfl ?_
    refine sq (f_load kd22 rfl rfl (lt rfl)) rfl rfl ?_
    refine sq (f_bin rfl rfl rfl (lt rfl)) rfl rfl ?_
    refine hits_nil ?_
    refine to_next ?_
    refine hits_cond rfl (fun c1 => ?_) (fun c1 => ?_)
    · have hz : 0 < v / 2 ^ 64 := hi_pos c1
      refine hits_region ?_
      refine sq (f_fieldAddr rfl kf27_1 rfl (lt rfl)) rfl rfl ?_
      refine sq (f_load kd22 rfl rfl (lt rfl)) rfl rfl ?_
      refine sq (f_call en29 rfl (fmt_c (hi_lt hv')) (lt rfl)) rfl rfl ?_
      refine sq (f_move rfl (lt rfl)) rfl rfl ?_
      refine sq (f_lenStr rfl un9 (lt rfl)) rfl rfl ?_
      refine sq (f_bin rfl rfl rfl (lt rfl)) rfl rfl ?_
      refine sq (f_call en30 rfl (rep_c' (lo_lt v)) (lt rfl)) rfl rfl ?_
      refine sq (f_cat rfl rfl (cat1 v hv') (lt rfl)) rfl rfl ?_
      refine sq (f_move rfl (lt rfl)) rfl rfl ?_
      refine sq (f_cat rfl rfl (cat2 v hv') (lt rfl)) rfl rfl ?_
      refine sq (f_assign rfl (lt rfl)) rfl rfl ?_
      refine hits_nil ?_
      refine to_next ?_
      refine hits_seq ?_
      refine hits_region ?_
      refine sq (f_fieldAddr rfl kf27_0 rfl (lt rfl)) rfl rfl ?_
      refine sq (f_load kd3 rfl rfl (lt rfl)) rfl rfl ?_
      refine sq (f_call en31 rfl (itoa_c (by omega) (by omega)) (lt rfl)) rfl rfl ?_
      refine sq (f_cat rfl rfl (cat3 w h) (lt rfl)) rfl rfl ?_
      refine sq (f_move rfl (lt rfl)) rfl rfl ?_
      refine sq (f_cat rfl rfl (cat4 w v h hv') (lt rfl)) rfl rfl ?_
      refine sq (f_assign rfl (lt rfl)) rfl rfl ?_
      refine sq (f_assign rfl (lt rfl)) rfl rfl ?_
      refine hits_nil ?_
      refine to_next ?_
      refine hits_ret ?_
      exact hits_done (.inl rfl) rfl rfl (by rw [textB_hi w v hz]; rfl)
    · refine hits_skip ?_
      refine to_next ?_
      refine hits_seq ?_
      refine hits_region ?_
      refine sq (f_fieldAddr rfl kf27_0 rfl (lt rfl)) rfl rfl ?_
      refine sq (f_load kd3 rfl rfl (lt rfl)) rfl rfl ?_
      refine sq (f_call en31 rfl (itoa_c (by omega) (by omega)) (lt rfl)) rfl rfl ?_
      refine sq (f_cat rfl rfl (cat3 w h) (lt rfl)) rfl rfl ?_
      refine sq (f_move rfl (lt rfl)) rfl rfl ?_
      refine sq (f_cat rfl rfl (cat5 w v h) (lt rfl)) rfl rfl ?_
      refine sq (f_assign rfl (lt rfl)) rfl rfl ?_
      refine sq (f_assign rfl (lt rfl)) rfl rfl ?_
      refine hits_nil ?_
      refine to_next ?_
      refine hits_ret ?_
      exact hits_done (.inl rfl) rfl rfl (by rw [textB_lo w v (hi_zero c1)]; rfl)

set_option maxRecDepth 100000 in
theorem text_no {a0 a1 a2 : Int} (hc : Go.Proofs.YthhlnghpbjmfpaaDoor.PTryd.bits_Check.f a0 a1 a2 = some false) : CallsP Tryd.prog Tabs 17 [.agg [.sc (.int .i64 a0), .sc (.int .u64 a1), .sc (.int .u64 a2)]] (.tup [.sc (.string ⟨#[]⟩), .sc (.int .i64 1)]) := by
  refine callsP_of gs_tabs Tryd.func17 rfl Tryd.ntmps17 rfl fun w0 S0 stab => ?_
  refine hits_seq ?_
  refine hits_region ?_
  refine sq (f_box rfl rfl (lt rfl)) rfl rfl ?_
  refine sq (f_assign rfl (lt rfl)) rfl rfl ?_
  refine sq (f_assign rfl (lt rfl)) rfl rfl ?_
  refine hits_nil ?_
  refine to_next ?_
  refine hits_seq ?_
  refine hits_seq ?_
  refine hits_region ?_
  refine sq (f_load kd27 rfl rfl (lt rfl)) rfl rfl ?_
  refine sq (f_call en15 rfl (check_c hc) (lt rfl)) rfl rfl ?_
  refine sq (f_un rfl rfl (lt rfl)) rfl rfl ?_
  refine hits_nil ?_
  refine to_next ?_
  refine hits_cond rfl (fun c0 => ?_) (fun c0 => ?_)
  case refine_2 => exact absurd c0 Bool.false_ne_true.symm
  case refine_1 =>
    refine hits_seq ?_
    refine hits_region ?_
    refine sq (f_assign rfl (lt rfl)) rfl rfl ?_
    refine sq (f_assign rfl (lt rfl)) rfl rfl ?_
    refine hits_nil ?_
    refine to_next ?_
    refine hits_ret ?_
    refine to_ret ?_
    exact hits_done (.inl rfl) rfl rfl rfl

set_option maxRecDepth 100000 in
theorem bytes_c {w v : Nat} (h0 : 1 ≤ w) (h : w ≤ 128) (hv : v < 2 ^ w) : CallsP Tryd.prog Tabs 21 [bitD w v] (.tup [bytesD (bytesOf w v), .sc (.int .i64 0)]) := by
  have hv' := lt128 h hv
  refine callsP_of gs_tabs Tryd.func21 rfl Tryd.ntmps21 rfl fun w0 S0 stab => ?_
  refine hits_seq ?_
  refine hits_region ?_
  refine sq (f_box rfl rfl (lt rfl)) rfl rfl ?_
  refine sq (f_assign rfl (lt rfl)) rfl rfl ?_
  refine sq (f_assign rfl (lt rfl)) rfl rfl ?_
  refine hits_nil ?_
  refine to_next ?_
  refine hits_seq ?_
  refine hits_seq ?_
  refine hits_region ?_
  refine sq (f_load kd27 rfl rfl (lt rfl)) rfl rfl ?_
  refine sq (f_call en15 rfl (check_c (check_ok h0 h hv)) (lt rfl)) rfl rfl ?_
  refine sq (f_un rfl rfl (lt rfl)) rfl rfl ?_
  refine hits_nil ?_
  refine to_next ?_
  refine hits_cond rfl (fun c0 => ?_) (fun c0 => ?_)
  case refine_1 => exact absurd c0 Bool.false_ne_true
  case refine_2 =>
    refine hits_skip ?_
    refine to_next ?_
    refine hits_seq ?_
    refine hits_region ?_
    refine sq (f_assign rfl (lt rfl)) rfl rfl ?_
    refine hits_nil ?_
    refine to_next ?_
    refine hits_seq ?_
    refine hits_seq ?_
    refine hits_region ?_
    refine sq (f_fieldAddr rfl kf27_0 rfl (lt rfl)) rfl rfl ?_
    refine sq (f_load kd3 rfl rfl (lt rfl)) rfl rfl ?_
    refine sq (f_bin rfl rfl rfl (lt rfl)) rfl rfl ?_
    refine sq (f_div rfl rfl (by decide) (lt rfl)) rfl rfl ?_
    refine sq (f_bin rfl rfl rfl (lt rfl)) rfl rfl ?_
    refine sq (f_assign rfl (lt rfl)) rfl rfl ?_
    refine hits_nil ?_
    refine to_next ?_
    refine hits_block ?_
    refine hits_own 4 4 1 rfl ?_
    refine hits_loop (fun j : Nat => [(.slot 4, some (.own 4 1 ((bytesUpto w v j).map fun n => .sc (.int .u8 n)))), (.slot 5, some (.d (.sc (.int .i64 (((w + 7) / 8 : Nat) - 1 - (j : Int)))))), (.slot 1, some (.ptr 1 0)), (.cell 1 0, some (.d (.sc (.int .i64 (w : Int))))), (.cell 1 1, some (.d (.sc (.int .u64 (hiOf v))))), (.cell 1 2, some (.d (.sc (.int .u64 (loOf v))))), (.box 1, some (.ptr 1 0)), (.tip 4, some (.ptr 4 0))]) (fun j => j ≤ (w + 7) / 8) (fun j => (w + 7) / 8 - j) 0 (Nat.zero_le _) ⟨rfl, congrArg (fun z => some (V.d (.sc (.int .i64 z)))) (start_j w h), rfl, rfl, rfl, rfl, rfl, rfl, trivial⟩ rfl ?_
    intro j hx
    refine hits_seq ?_
    refine hits_seq ?_
    obtain hj := hx
    refine hits_region ?_
    refine sq (f_move rfl (lt rfl)) rfl rfl ?_
    refine sq (f_bin rfl rfl rfl (lt rfl)) rfl rfl ?_
    refine hits_nil ?_
    refine to_next ?_
    refine hits_cond rfl (fun c1 => ?_) (fun c1 => ?_)
    · refine hits_skip ?_
      refine to_next ?_
      refine hits_seq ?_
      refine hits_block ?_
      have hlt : j < (w + 7) / 8 := round_in c1
      refine hits_region ?_
      refine sq (f_move rfl (lt rfl)) rfl rfl ?_
      refine sq (f_load kd27 rfl rfl (lt rfl)) rfl rfl ?_
      refine sq (f_move rfl (lt rfl)) rfl rfl ?_
      refine sq (f_bin rfl rfl rfl (lt rfl)) rfl rfl ?_
      rw [mul_j h j hlt]
      refine sq (f_conv rfl us3 un63 (lt rfl)) rfl rfl ?_
      rw [conv_j h j hlt]
      refine sq (f_call en28 rfl (down_c (down_j h hv' j hlt)) (lt rfl)) rfl rfl ?_
      refine sq (f_field rfl fp27_2 rfl (lt rfl)) rfl rfl ?_
      refine sq (f_conv rfl us22 un5 (lt rfl)) rfl rfl ?_
      refine sq (f_buildSlice sk49 rfl rfl rfl rfl rfl rfl (by decide) (by decide) (lt rfl)) rfl rfl ?_
      refine sq_append rfl rfl rfl rfl apk49 (by have := upto_len w v j; simp [snds, this]; omega) (by have := upto_len w v j; simp [snds, this]; omega) rfl (lt rfl) ?_
      refine sq (f_assign rfl (lt rfl)) rfl rfl ?_
      refine hits_nil ?_
      refine in_next ?_
      refine to_next ?_
      refine hits_region ?_
      refine sq (f_move rfl (lt rfl)) rfl rfl ?_
      refine sq (f_bin rfl rfl rfl (lt rfl)) rfl rfl ?_
      refine sq (f_assign rfl (lt rfl)) rfl rfl ?_
      refine hits_nil ?_
      refine to_next ?_
      refine round_end (j + 1) (by omega) (by omega) ⟨?_, ?_, rfl, rfl, rfl, rfl, rfl, rfl, trivial⟩ rfl
      · exact congrArg (fun z => some (V.own 4 1 z)) (bytes_next hlt hv)
      · exact congrArg (fun z => some (V.d (.sc (.int .i64 z)))) (step_j w h j hlt)
    · refine hits_exit ?_
      refine to_exit ?_
      refine to_exit ?_
      refine in_hit rfl ?_
      refine to_next ?_
      refine hits_seq ?_
      have hge : (w + 7) / 8 ≤ j := round_out c1
      refine hits_region ?_
      refine sq (f_move rfl (lt rfl)) rfl rfl ?_
      refine sq (f_assign rfl (lt rfl)) rfl rfl ?_
      refine sq (f_assign rfl (lt rfl)) rfl rfl ?_
      refine hits_nil ?_
      refine to_next ?_
      refine hits_ret ?_
      obtain rfl : j = (w + 7) / 8 := by omega
      exact hits_done (.inl rfl) rfl rfl rfl

end Go.Proofs.YthhlnghpbjmfpaaDoor.AbBits
