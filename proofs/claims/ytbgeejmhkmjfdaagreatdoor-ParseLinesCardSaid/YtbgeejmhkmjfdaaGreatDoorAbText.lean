/- Texts of numbers, over data. -/
import Derived.Test.YtbgeejmhkmjfdaaGreatDoorAbNum
import Derived.Test.YtbgeejmhkmjfdaaGreatDoorDec
import Derived.Lib.LaidTab
import Derived.Laws.Strings
namespace Go.Proofs.YtbgeejmhkmjfdaaGreatDoor.Ln
open Go Go.RowKit Go.Ab Go.Proofs 
set_option linter.unusedVariables false
set_option linter.unusedSimpArgs false
theorem en37 : enters Tryz.prog 37 = true := by kernel_rfl
theorem en38 : enters Tryz.prog 38 = true := by kernel_rfl
theorem en39 : enters Tryz.prog 39 = true := by kernel_rfl
theorem en40 : enters Tryz.prog 40 = true := by kernel_rfl
theorem un9 : Tryz.prog.underlying 9 = some (.string) := by kernel_rfl
theorem nif178 : nif Tryz.prog 178 = true := by kernel_rfl
theorem en144 : enters Tryz.prog 144 = true := by kernel_rfl
theorem en113 : enters Tryz.prog 113 = true := by kernel_rfl
theorem en115 : enters Tryz.prog 115 = true := by kernel_rfl
theorem us3 : (Tryz.prog.underlying 3).isSome = true := by kernel_rfl
theorem un121 : Tryz.prog.underlying 121 = some (.int .u64) := by kernel_rfl
theorem us9 : (Tryz.prog.underlying 9).isSome = true := by kernel_rfl
theorem un125 : Tryz.prog.underlying 125 = some (.slice 5) := by kernel_rfl
theorem un5 : Tryz.prog.underlying 5 = some (.int .u8) := by kernel_rfl
theorem kd5 : kd Tryz.prog 5 = some (false, 1) := by kernel_rfl
theorem un33 : Tryz.prog.underlying 33 = some (.int .u64) := by kernel_rfl
theorem us5 : (Tryz.prog.underlying 5).isSome = true := by kernel_rfl
theorem isf114 : Tryz.prog.isIface 114 = true := by kernel_rfl
theorem en78 : enters Tryz.prog 78 = true := by kernel_rfl
theorem en79 : enters Tryz.prog 79 = true := by kernel_rfl
theorem en76 : enters Tryz.prog 76 = true := by kernel_rfl
theorem en77 : enters Tryz.prog 77 = true := by kernel_rfl
theorem en44 : enters Tryz.prog 44 = true := by kernel_rfl
theorem en18 : enters Tryz.prog 18 = true := by kernel_rfl
def ErrAt (w : World) (g : Nat) : Prop := ∃ ev, w.cell? ⟨g, 0, none⟩ = some ev ∧ (ev = .nilIface ∨ ∃ te pe, ev = .iface te pe)
structure Lw (w : World) : Prop where
  bruijn : w.cell? ⟨9, 15, none⟩ = some (.int .u8 4)
  pow : Lib.TabIs Tryz.prog w "internal/strconv.uint64pow10" .u64 Lib.pow10Tab
  space : Lib.TabIs Tryz.prog w "strings.asciiSpace" .u8 Lib.asciiSpaceTab
  syn : ErrAt w 3
  rng : ErrAt w 4
theorem tab_below {w w' : World} {n : String} {k : IntKind} {l : List Int} (h : Lib.TabIs Tryz.prog w n k l) (hb : Below w.heap.size w w') : Lib.TabIs Tryz.prog w' n k l := by
  unfold Lib.TabIs World.var? at *
  cases hg : Tryz.prog.globalNamed n with
  | none => simp [hg] at h
  | some g =>
    simp only [hg, Option.bind_some] at h ⊢
    have h3 : g < w.heap.size := by
      rcases Nat.lt_or_ge g w.heap.size with g' | g'
      · exact g'
      · simp [Array.getElem?_eq_none g'] at h
    rw [hb.block g h3]
    exact h
theorem errAt_below {w w' : World} {g : Nat} (h : ErrAt w g) (hb : Below w.heap.size w w') : ErrAt w' g := by
  obtain ⟨ev, h1, h2⟩ := h
  have hlt : g < w.heap.size := by
    rcases Nat.lt_or_ge g w.heap.size with q | q
    · exact q
    · simp [World.cell?, Array.getElem?_eq_none q] at h1
  exact ⟨ev, (hb.cell (p := ⟨g, 0, none⟩) hlt).trans h1, h2⟩
theorem gs_lw : GS Lw := fun w w' h hb => by
  have h1 : 9 < w.heap.size := by
    have := h.bruijn
    rcases Nat.lt_or_ge 9 w.heap.size with g | g
    · exact g
    · simp [World.cell?, Array.getElem?_eq_none g] at this
  exact ⟨(hb.cell (p := ⟨9, 15, none⟩) h1).trans h.bruijn, tab_below h.pow hb, tab_below h.space hb, errAt_below h.syn hb, errAt_below h.rng hb⟩
theorem wrap_succ {i : Nat} (h : i < 9223372036854775807) : IntKind.i64.wrap ((i : Int) + 1) = ((i + 1 : Nat) : Int) := by
  exact IntWalk.i64_in _ (by omega)
-- texts
def hexB (u : Nat) : ByteArray := ⟨(Hex.hexL u).toArray⟩
def zerosB (c : Nat) : ByteArray := ⟨(Lib.repeatL (⟨#[48]⟩ : ByteArray).data.toList c).toArray⟩
def itoaB (w : Nat) : ByteArray := ⟨(Lib.itoa (w : Int)).toArray⟩
def digitsB (v : Nat) : ByteArray := if 0 < v / 2 ^ 64 then hexB (v / 2 ^ 64) ++ zerosB (16 - (hexB (v % 2 ^ 64)).size) ++ hexB (v % 2 ^ 64) else hexB (v % 2 ^ 64)
def textB (w v : Nat) : ByteArray := itoaB w ++ ⟨#[119]⟩ ++ digitsB v
theorem textB_hi (w v : Nat) (h : 0 < v / 2 ^ 64) : textB w v = itoaB w ++ ⟨#[119]⟩ ++ (hexB (v / 2 ^ 64) ++ zerosB (16 - (hexB (v % 2 ^ 64)).size) ++ hexB (v % 2 ^ 64)) := by unfold textB digitsB; rw [if_pos h]
theorem textB_lo (w v : Nat) (h : ¬ 0 < v / 2 ^ 64) : textB w v = itoaB w ++ ⟨#[119]⟩ ++ hexB (v % 2 ^ 64) := by unfold textB digitsB; rw [if_neg h]
theorem hexL_le : ∀ (k u : Nat), u < 16 ^ (k + 1) → (Hex.hexL u).length ≤ k + 1
  | 0, u, h => by rw [Hex.hexL, if_pos (by simpa using h)]; simp
  | k + 1, u, h => by
    rw [Hex.hexL]
    split
    · simp
    · have := hexL_le k (u / 16) (Nat.div_lt_of_lt_mul (by rw [Nat.pow_succ] at h; omega))
      simp; omega
theorem hexB_size {u : Nat} (h : u < 18446744073709551616) : (hexB u).size ≤ 16 := by
  have := hexL_le 15 u (by simpa using h)
  simpa [hexB, ByteArray.size] using this
theorem zerosB_size (c : Nat) : (zerosB c).size = c := by
  have : ∀ (l : List UInt8) (n : Nat), (Lib.repeatL l n).length = n * l.length := fun l n => by
    induction n with
    | zero => simp [Lib.repeatL]
    | succ n ih => simp [Lib.repeatL, ih, Nat.add_mul]; try omega
  simpa [zerosB, ByteArray.size] using this [48] c
theorem itoa_small : ∀ w : Nat, w < 129 → (Lib.itoa (w : Int)).length ≤ 3 := by decide +kernel
theorem itoaB_size {w : Nat} (h : w ≤ 128) : (itoaB w).size ≤ 3 := by
  have := itoa_small w (by omega)
  simpa [itoaB, ByteArray.size] using this
theorem size_app (a b : ByteArray) : (a ++ b).size = a.size + b.size := ByteArray.size_append
theorem wrap_16 {u : Nat} (h : u < 18446744073709551616) : IntKind.i64.wrap (16 - ((hexB u).size : Int)) = ((16 - (hexB u).size : Nat) : Int) := by
  have := hexB_size h
  rw [IntWalk.i64_in _ (by omega)]; omega
theorem cat1 (v : Nat) (hv : v < 2 ^ 128) : (hexB (v / 2 ^ 64)).size + (zerosB (16 - (hexB (v % 2 ^ 64)).size)).size ≤ 9223372036854775807 := by
  have h1 := hexB_size (u := v / 2 ^ 64) (by have := hi_lt hv; simpa using this)
  have h2 := zerosB_size (16 - (hexB (v % 2 ^ 64)).size)
  omega
theorem cat2 (v : Nat) (hv : v < 2 ^ 128) : (hexB (v / 2 ^ 64) ++ zerosB (16 - (hexB (v % 2 ^ 64)).size)).size + (hexB (v % 2 ^ 64)).size ≤ 9223372036854775807 := by
  have h1 := hexB_size (u := v / 2 ^ 64) (by have := hi_lt hv; simpa using this)
  have h2 := zerosB_size (16 - (hexB (v % 2 ^ 64)).size)
  have h3 := hexB_size (u := v % 2 ^ 64) (by have := lo_lt v; simpa using this)
  rw [size_app]
  omega
theorem cat3 (w : Nat) (h : w ≤ 128) : (itoaB w).size + (⟨#[119]⟩ : ByteArray).size ≤ 9223372036854775807 := by
  have := itoaB_size h
  have h1 : (⟨#[119]⟩ : ByteArray).size = 1 := rfl
  omega
theorem cat4 (w v : Nat) (h : w ≤ 128) (hv : v < 2 ^ 128) : (itoaB w ++ ⟨#[119]⟩).size + (hexB (v / 2 ^ 64) ++ zerosB (16 - (hexB (v % 2 ^ 64)).size) ++ hexB (v % 2 ^ 64)).size ≤ 9223372036854775807 := by
  have := itoaB_size h
  have h0 : (⟨#[119]⟩ : ByteArray).size = 1 := rfl
  have h1 := hexB_size (u := v / 2 ^ 64) (by have := hi_lt hv; simpa using this)
  have h2 := zerosB_size (16 - (hexB (v % 2 ^ 64)).size)
  have h3 := hexB_size (u := v % 2 ^ 64) (by have := lo_lt v; simpa using this)
  rw [size_app, size_app, size_app]
  omega
theorem cat5 (w v : Nat) (h : w ≤ 128) : (itoaB w ++ ⟨#[119]⟩).size + (hexB (v % 2 ^ 64)).size ≤ 9223372036854775807 := by
  have := itoaB_size h
  have h0 : (⟨#[119]⟩ : ByteArray).size = 1 := rfl
  have h3 := hexB_size (u := v % 2 ^ 64) (by have := lo_lt v; simpa using this)
  rw [size_app]
  omega
theorem hi_pos {v : Nat} (c : decide (hiOf v > 0) = true) : 0 < v / 2 ^ 64 := by have := of_decide_eq_true c; unfold hiOf at this; omega
theorem hi_zero {v : Nat} (c : decide (hiOf v > 0) = false) : ¬ 0 < v / 2 ^ 64 := by have := of_decide_eq_false c; unfold hiOf at this; omega
theorem fmt_c {u : Nat} (hu : u < 18446744073709551616) : CallsP Tryz.prog Lw 38 [.sc (.int .u64 (u : Int)), .sc (.int .i64 16)] (.sc (.string (hexB u))) :=
  lift rfl rfl fun w hg => Hex.FormatUint_16 u hu w hg.bruijn
theorem fmt10_c {u : Nat} (hu : u < 18446744073709551616) : CallsP Tryz.prog Lw 38 [.sc (.int .u64 (u : Int)), .sc (.int .i64 10)] (.sc (.string (B (Lib.decDigits u)))) :=
  lift rfl rfl fun w hg => Dec.FormatUint_10 u hu w hg.pow
theorem rep_c {c : Nat} (h : c ≤ 16) : CallsP Tryz.prog Lw 39 [.sc (.string ⟨#[48]⟩), .sc (.int .i64 (c : Int))] (.sc (.string (zerosB c))) :=
  lift rfl rfl fun w hg => Tryz.strings_Repeat ⟨#[48]⟩ c w (by omega) (Nat.le_trans (Nat.mul_le_mul (Nat.le_refl 1) h) (by decide))
theorem rep_c' {u : Nat} (hu : u < 18446744073709551616) : CallsP Tryz.prog Lw 39 [.sc (.string ⟨#[48]⟩), .sc (.int .i64 (IntKind.i64.wrap (16 - ((hexB u).size : Int))))] (.sc (.string (zerosB (16 - (hexB u).size)))) := by
  rw [wrap_16 hu]; exact rep_c (by omega)
theorem itoa_c {n : Int} (h1 : -9223372036854775808 ≤ n) (h2 : n ≤ 9223372036854775807) : CallsP Tryz.prog Lw 40 [.sc (.int .i64 n)] (.sc (.string ⟨(Lib.itoa n).toArray⟩)) :=
  lift rfl rfl fun w hg => (Tryz.strconv_Itoa n h1 h2 w hg.pow).mono fun e w' ⟨q, k, os, r⟩ => ⟨q, by rw [r]; exact Hex.below_grow k os⟩
set_option maxRecDepth 100000 in
theorem text_c {w v : Nat} (h0 : 1 ≤ w) (h : w ≤ 128) (hv : v < 2 ^ w) : CallsP Tryz.prog Lw 18 [bitD w v] (.tup [.sc (.string (textB w v)), .sc (.int .i64 0)]) := by
  have hv' := lt128 h hv
  have hck := check_c gs_lw (w : Int) hv'
  rw [chk_ok h0 h hv] at hck
  refine callsP_of gs_lw Tryz.func18 rfl Tryz.ntmps18 rfl fun w0 S0 stab => ?_
  refine hits_seq ?_
  refine hits_region ?_
  refine sq (f_box rfl rfl (lt rfl)) rfl rfl ?_
  refine sq (f_assign rfl (lt rfl)) rfl rfl ?_
  refine sq (f_assign rfl (lt rfl)) rfl rfl ?_
  refine hits_nil ?_
  refine to_next ?_
  refine hits_seq ?_
  refine hits_seq ?_
  refine hits_region ?_
  refine sq (f_load kd35 rfl rfl (lt rfl)) rfl rfl ?_
  refine sq (f_call en37 rfl hck (lt rfl)) rfl rfl ?_
  refine sq (f_un rfl rfl (lt rfl)) rfl rfl ?_
  refine hits_nil ?_
  refine to_next ?_
  refine hits_cond rfl (fun c0 => absurd c0 Bool.false_ne_true) (fun c0 => ?_)
  refine hits_skip ?_
  refine to_next ?_
  refine hits_seq ?_
  refine hits_region ?_
  refine sq (f_fieldAddr rfl kf35_2 rfl (lt rfl)) rfl rfl ?_
  refine sq (f_load kd33 rfl rfl (lt rfl)) rfl rfl ?_
  refine sq (f_call en38 rfl (fmt_c (lo_lt v)) (lt rfl)) rfl rfl ?_
  refine sq (f_assign rfl (lt rfl)) rfl rfl ?_
  refine hits_nil ?_
  refine to_next ?_
  refine hits_seq ?_
  refine hits_seq ?_
  refine hits_region ?_
  refine sq (f_fieldAddr rfl kf35_1 rfl (lt rfl)) rfl rfl ?_
  refine sq (f_load kd33 rfl rfl (lt rfl)) rfl rfl ?_
  refine sq (f_bin rfl rfl rfl (lt rfl)) rfl rfl ?_
  refine hits_nil ?_
  refine to_next ?_
  refine hits_cond rfl (fun c1 => ?_) (fun c1 => ?_)
  · have hz : 0 < v / 2 ^ 64 := hi_pos c1
    refine hits_region ?_
    refine sq (f_fieldAddr rfl kf35_1 rfl (lt rfl)) rfl rfl ?_
    refine sq (f_load kd33 rfl rfl (lt rfl)) rfl rfl ?_
    refine sq (f_call en38 rfl (fmt_c (hi_lt hv')) (lt rfl)) rfl rfl ?_
    refine sq (f_move rfl (lt rfl)) rfl rfl ?_
    refine sq (f_lenStr rfl un9 (lt rfl)) rfl rfl ?_
    refine sq (f_bin rfl rfl rfl (lt rfl)) rfl rfl ?_
    refine sq (f_call en39 rfl (rep_c' (lo_lt v)) (lt rfl)) rfl rfl ?_
    refine sq (f_cat rfl rfl (cat1 v hv') (lt rfl)) rfl rfl ?_
    refine sq (f_move rfl (lt rfl)) rfl rfl ?_
    refine sq (f_cat rfl rfl (cat2 v hv') (lt rfl)) rfl rfl ?_
    refine sq (f_assign rfl (lt rfl)) rfl rfl ?_
    refine hits_nil ?_
    refine to_next ?_
    refine hits_seq ?_
    refine hits_region ?_
    refine sq (f_fieldAddr rfl kf35_0 rfl (lt rfl)) rfl rfl ?_
    refine sq (f_load kd3 rfl rfl (lt rfl)) rfl rfl ?_
    refine sq (f_call en40 rfl (itoa_c (by omega) (by omega)) (lt rfl)) rfl rfl ?_
    refine sq (f_cat rfl rfl (cat3 w h) (lt rfl)) rfl rfl ?_
    refine sq (f_move rfl (lt rfl)) rfl rfl ?_
    refine sq (f_cat rfl rfl (cat4 w v h hv') (lt rfl)) rfl rfl ?_
    refine sq (f_assign rfl (lt rfl)) rfl rfl ?_
    refine sq (f_assign rfl (lt rfl)) rfl rfl ?_
    refine hits_nil ?_
    refine to_next ?_
    refine hits_ret ?_
    exact hits_done (.inl rfl) rfl rfl (by rw [textB_hi w v hz]; rfl)
  · refine hits_skip ?_
    refine to_next ?_
    refine hits_seq ?_
    refine hits_region ?_
    refine sq (f_fieldAddr rfl kf35_0 rfl (lt rfl)) rfl rfl ?_
    refine sq (f_load kd3 rfl rfl (lt rfl)) rfl rfl ?_
    refine sq (f_call en40 rfl (itoa_c (by omega) (by omega)) (lt rfl)) rfl rfl ?_
    refine sq (f_cat rfl rfl (cat3 w h) (lt rfl)) rfl rfl ?_
    refine sq (f_move rfl (lt rfl)) rfl rfl ?_
    refine sq (f_cat rfl rfl (cat5 w v h) (lt rfl)) rfl rfl ?_
    refine sq (f_assign rfl (lt rfl)) rfl rfl ?_
    refine sq (f_assign rfl (lt rfl)) rfl rfl ?_
    refine hits_nil ?_
    refine to_next ?_
    refine hits_ret ?_
    exact hits_done (.inl rfl) rfl rfl (by rw [textB_lo w v (hi_zero c1)]; rfl)
set_option maxRecDepth 100000 in
theorem text_no {a : Int} {v : Nat} (hv : v < 2 ^ 128) (hc : chk a v = false) : CallsP Tryz.prog Lw 18 [(.agg [.sc (.int .i64 a), .sc (.int .u64 (hiOf v)), .sc (.int .u64 (loOf v))])] (.tup [.sc (.string ⟨#[]⟩), .sc (.int .i64 1)]) := by
  have hck := check_c gs_lw a hv
  rw [hc] at hck
  refine callsP_of gs_lw Tryz.func18 rfl Tryz.ntmps18 rfl fun w0 S0 stab => ?_
  refine hits_seq ?_
  refine hits_region ?_
  refine sq (f_box rfl rfl (lt rfl)) rfl rfl ?_
  refine sq (f_assign rfl (lt rfl)) rfl rfl ?_
  refine sq (f_assign rfl (lt rfl)) rfl rfl ?_
  refine hits_nil ?_
  refine to_next ?_
  refine hits_seq ?_
  refine hits_seq ?_
  refine hits_region ?_
  refine sq (f_load kd35 rfl rfl (lt rfl)) rfl rfl ?_
  refine sq (f_call en37 rfl hck (lt rfl)) rfl rfl ?_
  refine sq (f_un rfl rfl (lt rfl)) rfl rfl ?_
  refine hits_nil ?_
  refine to_next ?_
  refine hits_cond rfl (fun c0 => ?_) (fun c0 => absurd c0 Bool.false_ne_true.symm)
  refine hits_seq ?_
  refine hits_region ?_
  refine sq (f_assign rfl (lt rfl)) rfl rfl ?_
  refine sq (f_assign rfl (lt rfl)) rfl rfl ?_
  refine hits_nil ?_
  refine to_next ?_
  refine hits_ret ?_
  refine to_ret ?_
  exact hits_done (.inl rfl) rfl rfl rfl
end Go.Proofs.YtbgeejmhkmjfdaaGreatDoor.Ln
