/- The law LexOne over data. -/
import Derived.Test.YtcaedggggkchiaaGreatDoorAbLaw7
import Derived.Test.YtcaedggggkchiaaGreatDoorAbInvL
import Derived.OpenShut
namespace Go.Proofs.YtcaedggggkchiaaGreatDoor.Ln
open Go Go.RowKit Go.Ab Go.Proofs 
set_option linter.unusedVariables false
set_option linter.unusedSimpArgs false
theorem en22 : enters Tryz.prog 22 = true := by kernel_rfl
theorem un3 : Tryz.prog.underlying 3 = some (.int .i64) := by kernel_rfl
theorem us79 : (Tryz.prog.underlying 79).isSome = true := by kernel_rfl

theorem dg_ok : ∀ d : Nat, d < 10 → dgt (UInt8.ofNat (48 + d)) = true ∧ (UInt8.ofNat (48 + d)).toNat - 48 = d := by decide +kernel
theorem val_snoc (l : List UInt8) (c : UInt8) : valL (l ++ [c]) = 10 * valL l + (c.toNat - 48) := by simp [valL]
theorem dec_all (u : Nat) : (Lib.decDigits u).all dgt = true ∧ valL (Lib.decDigits u) = u ∧ Lib.decDigits u ≠ [] := by
  induction u using Nat.strongRecOn with
  | _ u ih =>
    by_cases h : u < 10
    · obtain ⟨h1, h2⟩ := dg_ok (u % 10) (Nat.mod_lt _ (by decide))
      rw [dec_last h]
      refine ⟨by rw [List.all_cons, h1]; rfl, ?_, by simp⟩
      show 10 * 0 + ((UInt8.ofNat (48 + u % 10)).toNat - 48) = u
      rw [h2]; omega
    · obtain ⟨h1, h2⟩ := dg_ok (u % 10) (Nat.mod_lt _ (by decide))
      obtain ⟨i1, i2, i3⟩ := ih (u / 10) (by omega)
      rw [dec_more h]
      refine ⟨by simp only [List.all_append, i1, List.all_cons, h1, List.all_nil, Bool.and_self], ?_, by simp⟩
      rw [val_snoc, i2, h2]; omega
theorem dgt_aln {c : UInt8} (h : dgt c = true) : aln c = true := by unfold aln; rw [h]; rfl
theorem all_dgt_aln {l : List UInt8} (h : l.all dgt = true) : l.all aln = true := List.all_eq_true.mpr fun c hc => dgt_aln (List.all_eq_true.mp h c hc)
theorem hx_aln : ∀ d : Nat, d < 16 → aln (Hex.hx d) = true := by decide +kernel
theorem hex_aln (u : Nat) : (Hex.hexL u).all aln = true := by
  rw [List.all_eq_true]
  intro c hc
  obtain ⟨d, hd, rfl⟩ := hexL_is u c hc
  exact hx_aln d hd
/-- A number's text, as bytes. -/
def SL (w v : Nat) : List UInt8 := Lib.decDigits w ++ 119 :: Hex.hexL v
theorem sl_is {w v : Nat} (hv : v < 2 ^ 128) : textB w v = B (SL w v) := by
  rw [rtext_eq hv, ← B_of (rtextB w v), rtext_list]; rfl
theorem sl_aln (w v : Nat) : (SL w v).all aln = true := by
  unfold SL
  rw [List.all_append, List.all_cons, all_dgt_aln (dec_all w).1, hex_aln]; decide
theorem sl_no (w v : Nat) : ¬ (SL w v).all dgt = true := by
  unfold SL
  rw [List.all_append, List.all_cons]
  intro h
  simp only [Bool.and_eq_true] at h
  exact absurd h.2.1 (by decide)
theorem sl_head (w v : Nat) : ∃ c r, SL w v = c :: r ∧ dgt c = true := by
  obtain ⟨h1, _, h3⟩ := dec_all w
  cases hd : Lib.decDigits w with
  | nil => exact absurd hd h3
  | cons c r =>
    rw [hd] at h1
    simp only [List.all_cons, Bool.and_eq_true] at h1
    exact ⟨c, r ++ 119 :: Hex.hexL v, by unfold SL; rw [hd]; rfl, h1.1⟩
theorem sl_lit {w v : Nat} (h0 : 1 ≤ w) (h : w ≤ 128) (hv : v < 2 ^ w) : litOf (B (SL w v)) = some (w, v) := by
  have hv' := lt128 h hv
  have e := sl_is (w := w) hv'
  rw [← e]
  unfold litOf
  rw [rtext_eq hv', pW_is h, pV_is h hv']
  simp only [Int.toNat_natCast]
  rw [if_pos ⟨by omega, by omega, hv, rtext_eq hv'⟩]
theorem num_sl {w v : Nat} (h0 : 1 ≤ w) (h : w ≤ 128) (hv : v < 2 ^ w) : number (SL w v) = some ⟨3, [], w, v / 18446744073709551616, v % 18446744073709551616, 0⟩ := by
  unfold number
  rw [if_neg (sl_no w v), sl_lit h0 h hv]
theorem num_dec {n : Nat} (h : n ≤ 2147483647) : number (Lib.decDigits n) = some ⟨2, [], 64, 0, n, 0⟩ := by
  obtain ⟨h1, h2, _⟩ := dec_all n
  unfold number
  rw [if_pos h1, h2, if_pos ⟨h, rfl⟩]
theorem word_run {a rest : List UInt8} {x : Wd} (ha : a.all aln = true) (hc : ∃ c r, a = c :: r ∧ dgt c = true) (hn : number a = some x) (hr : Ends rest) : word (a ++ rest) = some (x, rest) ∧ ∃ c r, a = c :: r ∧ blank c = false ∧ c ≠ 47 := by
  obtain ⟨c, r, rfl, hd⟩ := hc
  obtain ⟨h1, h2⟩ := takeWhile_app ha hr
  rw [List.cons_append] at h1 h2 ⊢
  rw [word_cons, if_pos (dgt_aln hd), if_pos hd, h1, h2, hn]
  exact ⟨rfl, c, r, rfl, aln_blank (dgt_aln hd)⟩
theorem word_lt1 {d : UInt8} {r : List UInt8} (h1 : d ≠ 61) (h2 : d ≠ 60) : word (60 :: d :: r) = some (⟨4, [60], 0, 0, 0, 0⟩, d :: r) := by
  have e1 : (61 == d) = false := by simpa using fun c => h1 c.symm
  have e2 : (60 == d) = false := by simpa using fun c => h2 c.symm
  rw [word_cons, if_neg (by decide)]
  have hf : sgns.find? (fun t => t.isPrefixOf (60 :: d :: r)) = some [60] := by
    simp [sgns, List.find?, List.isPrefixOf, e1, e2]
  rw [hf]; rfl
theorem word_lt2 (r : List UInt8) : word (60 :: 60 :: r) = some (⟨4, [60, 60], 0, 0, 0, 0⟩, r) := by
  rw [word_cons, if_neg (by decide)]
  have hf : sgns.find? (fun t => t.isPrefixOf (60 :: 60 :: r)) = some [60, 60] := by
    simp [sgns, List.find?, List.isPrefixOf]
  rw [hf]; rfl
/-- What is idle ahead. -/
def ahead : Nat → List UInt8
  | 0 => [47, 47, 32, 115, 111, 32, 40, 105, 116, 41, 32, 105, 115, 10]
  | k + 1 => ahead k ++ [9, 32, 10]
theorem ahead_len : ∀ k, (ahead k).length = 14 + 3 * k
  | 0 => rfl
  | k + 1 => by rw [ahead, List.length_append, ahead_len k]; simp; omega
theorem skip_hdr (r : List UInt8) (n : Nat) : skip false (47 :: 47 :: 32 :: 115 :: 111 :: 32 :: 40 :: 105 :: 116 :: 41 :: 32 :: 105 :: 115 :: 10 :: r) n = skip false r (n + 1) := by
  rw [skip_com]
  have : (47 :: 47 :: 32 :: 115 :: 111 :: 32 :: 40 :: 105 :: 116 :: 41 :: 32 :: 105 :: 115 :: 10 :: r).dropWhile noline = 10 :: r := by
    simp [List.dropWhile, noline]
  rw [this, skip_f, if_pos rfl]
theorem skip_bl (r : List UInt8) (n : Nat) : skip false (9 :: 32 :: 10 :: r) n = skip false r (n + 1) := by
  rw [skip_f, if_neg (by decide), if_pos (by decide), skip_f, if_neg (by decide), if_pos (by decide), skip_f, if_pos rfl]
theorem skip_ahead : ∀ (k : Nat) (r : List UInt8), skip false (ahead k ++ r) 0 = skip false r (k + 1)
  | 0, r => skip_hdr r 0
  | k + 1, r => by rw [ahead, List.append_assoc, skip_ahead k]; exact skip_bl r (k + 1)
theorem ends_of {c : UInt8} {r : List UInt8} (h : aln c = false) : Ends (c :: r) := by rintro d q e; cases e; exact h
def oneL (n w v k : Nat) : List Wd := [⟨2, [], 64, 0, n, k⟩, ⟨4, [60], 0, 0, 0, k⟩, ⟨3, [], w, v / 18446744073709551616, v % 18446744073709551616, k⟩, ⟨4, [60, 60], 0, 0, 0, k⟩, ⟨3, [], w, v / 18446744073709551616, v % 18446744073709551616, k⟩]
def oneT (n w v k : Nat) : List UInt8 := ((((((ahead k ++ Lib.decDigits n) ++ [60]) ++ SL w v) ++ [60, 60]) ++ SL w v) ++ [47, 47])
theorem oneD {n w v k : Nat} (hn : n < 18446744073709551616) : (oneL n w v k).map wordD = [.agg [.sc (.int .u8 2), .sc (.string ByteArray.empty), .sc (.int .i64 64), .sc (.int .u64 0), .sc (.int .u64 (n : Int)), .sc (.int .i64 (k : Int))], .agg [.sc (.int .u8 4), .sc (.string ⟨#[60]⟩), .sc (.int .i64 0), .sc (.int .u64 0), .sc (.int .u64 0), .sc (.int .i64 (k : Int))],
    .agg [.sc (.int .u8 3), .sc (.string ByteArray.empty), .sc (.int .i64 (w : Int)), .sc (.int .u64 (hiOf v)), .sc (.int .u64 (loOf v)), .sc (.int .i64 (k : Int))], .agg [.sc (.int .u8 4), .sc (.string ⟨#[60, 60]⟩), .sc (.int .i64 0), .sc (.int .u64 0), .sc (.int .u64 0), .sc (.int .i64 (k : Int))],
    .agg [.sc (.int .u8 3), .sc (.string ByteArray.empty), .sc (.int .i64 (w : Int)), .sc (.int .u64 (hiOf v)), .sc (.int .u64 (loOf v)), .sc (.int .i64 (k : Int))]] := by
  have e1 : hiOf v = ((v / 18446744073709551616 : Nat) : Int) := rfl
  have e2 : loOf v = ((v % 18446744073709551616 : Nat) : Int) := rfl
  rw [e1, e2]; rfl
theorem W_one {n w v : Nat} (k : Nat) (hn : n ≤ 2147483647) (h0 : 1 ≤ w) (h : w ≤ 128) (hv : v < 2 ^ w) : W (oneT n w v k) 0 = .inr (oneL n w v (k + 1)) := by
  obtain ⟨d1, d2, d3⟩ := dec_all n
  have hdh : ∃ c r, Lib.decDigits n = c :: r ∧ dgt c = true := by
    cases hd : Lib.decDigits n with
    | nil => exact absurd hd d3
    | cons c r => rw [hd] at d1; simp only [List.all_cons, Bool.and_eq_true] at d1; exact ⟨c, r, rfl, d1.1⟩
  obtain ⟨c, r, hs, hc⟩ := sl_head w v
  have hc61 : c ≠ 61 := fun e => by subst e; exact absurd hc (by decide)
  have hc60 : c ≠ 60 := fun e => by subst e; exact absurd hc (by decide)
  have e : oneT n w v k = ahead k ++ (Lib.decDigits n ++ ([60] ++ (SL w v ++ ([60, 60] ++ (SL w v ++ [47, 47]))))) := by unfold oneT; simp only [List.append_assoc]
  rw [e, W_skip (skip_ahead k _)]
  obtain ⟨w1, s1⟩ := word_run (all_dgt_aln d1) hdh (num_dec hn) (rest := [60] ++ (SL w v ++ ([60, 60] ++ (SL w v ++ [47, 47])))) (ends_of (by decide))
  obtain ⟨w3, s3⟩ := word_run (sl_aln w v) ⟨c, r, hs, hc⟩ (num_sl h0 h hv) (rest := [60, 60] ++ (SL w v ++ [47, 47])) (ends_of (by decide))
  obtain ⟨w5, s5⟩ := word_run (sl_aln w v) ⟨c, r, hs, hc⟩ (num_sl h0 h hv) (rest := [47, 47]) (ends_of (by decide))
  have w2 : word ([60] ++ (SL w v ++ ([60, 60] ++ (SL w v ++ [47, 47])))) = some (⟨4, [60], 0, 0, 0, 0⟩, SL w v ++ ([60, 60] ++ (SL w v ++ [47, 47]))) := by
    rw [hs]; exact word_lt1 hc61 hc60
  have w4 : word ([60, 60] ++ (SL w v ++ [47, 47])) = some (⟨4, [60, 60], 0, 0, 0, 0⟩, SL w v ++ [47, 47]) := word_lt2 _
  rw [W_word _ s1 w1, W_word _ ⟨60, [], rfl, by decide, by decide⟩ w2, W_word _ s3 w3, W_word _ ⟨60, [60], rfl, by decide, by decide⟩ w4, W_word _ s5 w5]
  have : W [47, 47] (k + 1) = .inr [] := W_nil (by rw [skip_com]; rfl)
  rw [this]
  rfl
theorem sl_len {w v : Nat} (h : w ≤ 128) (hv : v < 2 ^ 128) : (SL w v).length ≤ 36 := by
  have h1 := (yes_of h).2.1
  have h2 := hexL_le 31 v (by simpa using hv)
  unfold SL
  rw [List.length_append, List.length_cons]
  omega
theorem oneT_len {n w v k : Nat} (hn : n ≤ 2147483647) (hw : w ≤ 128) (hv : v < 2 ^ 128) (hk : k ≤ 255) : (oneT n w v k).length ≤ 65536 := by
  have h1 := ahead_len k
  have h2 := dec_le 9 n (Nat.lt_of_le_of_lt hn (by decide))
  have h3 := sl_len hw hv
  unfold oneT
  simp only [List.length_append, List.length_cons, List.length_nil]
  omega

theorem cat_ok (a b : List UInt8) (h : a.length + b.length ≤ 9223372036854775807) : (B a).size + (B b).size ≤ 9223372036854775807 := by rw [B_size, B_size]; exact h
theorem u64_nat {a : Int} (h : (Lit.int .u64 a).wf = true) : ∃ n : Nat, a = n ∧ n < 18446744073709551616 := by
  have h0 := bounds_u64 h
  exact ⟨a.toNat, by omega, by omega⟩
theorem u32_nat {a : Int} (h : (Lit.int .u32 a).wf = true) : ∃ n : Nat, a = n ∧ n < 4294967296 := by
  have h0 := bounds_u32 h
  exact ⟨a.toNat, by omega, by omega⟩
theorem u8_nat {a : Int} (h : (Lit.int .u8 a).wf = true) : ∃ n : Nat, a = n ∧ n < 256 := by
  have h0 := bounds_u8 h
  exact ⟨a.toNat, by omega, by omega⟩
theorem two_words {hi lo : Int} (h1 : (Lit.int .u64 hi).wf = true) (h2 : (Lit.int .u64 lo).wf = true) : ∃ v : Nat, v < 2 ^ 128 ∧ hi = hiOf v ∧ lo = loOf v := by
  obtain ⟨x, rfl, hx⟩ := u64_nat h1
  obtain ⟨y, rfl, hy⟩ := u64_nat h2
  refine ⟨x * 18446744073709551616 + y, by omega, ?_, ?_⟩
  · unfold hiOf; omega
  · unfold loOf; omega

set_option maxRecDepth 100000 in
theorem one_bad {n k : Nat} {a : Int} {v : Nat} (hv : v < 2 ^ 128) (hc : chk a v = false) : CallsP Tryz.prog Lw 6 [.sc (.int .u32 (n : Int)), .agg [.sc (.int .i64 a), .sc (.int .u64 (hiOf v)), .sc (.int .u64 (loOf v))], .sc (.int .u8 (k : Int))] (.sc (.bool true)) := by
  have ht := text_no hv hc
  refine callsP_of gs_lw Tryz.func6 rfl Tryz.ntmps6 rfl fun w0 S0 stab => ?_
  refine hits_seq ?_
  refine hits_region ?_
  refine sq (f_box rfl rfl (lt rfl)) rfl rfl ?_
  refine sq (f_assign rfl (lt rfl)) rfl rfl ?_
  refine hits_nil ?_
  refine to_next ?_
  refine hits_seq ?_
  refine hits_region ?_
  refine sq (f_load kd24 rfl rfl (lt rfl)) rfl rfl ?_
  refine sq (f_call en24 rfl ht (lt rfl)) rfl rfl ?_
  refine sq (f_move rfl (lt rfl)) rfl rfl ?_
  refine sq (f_extract rfl rfl (lt rfl)) rfl rfl ?_
  refine sq (f_extract rfl rfl (lt rfl)) rfl rfl ?_
  refine sq (f_assign rfl (lt rfl)) rfl rfl ?_
  refine sq (f_assign rfl (lt rfl)) rfl rfl ?_
  refine hits_nil ?_
  refine to_next ?_
  refine hits_seq ?_
  refine hits_seq ?_
  refine hits_region ?_
  refine sq (f_call en22 rfl alive_c (lt rfl)) rfl rfl ?_
  refine sq (f_un rfl rfl (lt rfl)) rfl rfl ?_
  refine sq (f_move rfl (lt rfl)) rfl rfl ?_
  refine sq_yes (f_move rfl (lt rfl)) rfl rfl rfl rfl (lt rfl) ?_
  refine sq_yes (f_bin rfl rfl (bT (b' := true) rfl) (lt rfl)) rfl rfl rfl rfl (lt rfl) ?_
  refine sq (f_pick rfl rfl (lt rfl)) rfl rfl ?_
  refine sq (f_move rfl (lt rfl)) rfl rfl ?_
  refine sq_no rfl rfl rfl rfl rfl (lt rfl) (lt rfl) ?_
  refine sq_no rfl rfl rfl rfl rfl (lt rfl) (lt rfl) ?_
  refine sq (f_pick rfl rfl (lt rfl)) rfl rfl ?_
  refine hits_nil ?_
  refine to_next ?_
  refine hits_cond rfl (fun c0 => ?_) (fun c0 => ?_)
  case refine_2 => exact absurd c0 Bool.false_ne_true.symm
  case refine_1 =>
    refine hits_seq ?_
    refine hits_region ?_
    refine sq (f_call en22 rfl alive_c (lt rfl)) rfl rfl ?_
    refine sq (f_assign rfl (lt rfl)) rfl rfl ?_
    refine hits_nil ?_
    refine to_next ?_
    refine hits_ret ?_
    refine to_ret ?_
    exact hits_done (.inl rfl) rfl rfl rfl

set_option maxRecDepth 100000 in
theorem one_big {n k w v : Nat} (h0 : 1 ≤ w) (h : w ≤ 128) (hv : v < 2 ^ w) (hn : 2147483647 < n) : CallsP Tryz.prog Lw 6 [.sc (.int .u32 (n : Int)), bitD w v, .sc (.int .u8 (k : Int))] (.sc (.bool true)) := by
  have ht := text_c h0 h hv
  refine callsP_of gs_lw Tryz.func6 rfl Tryz.ntmps6 rfl fun w0 S0 stab => ?_
  refine hits_seq ?_
  refine hits_region ?_
  refine sq (f_box rfl rfl (lt rfl)) rfl rfl ?_
  refine sq (f_assign rfl (lt rfl)) rfl rfl ?_
  refine hits_nil ?_
  refine to_next ?_
  refine hits_seq ?_
  refine hits_region ?_
  refine sq (f_load kd24 rfl rfl (lt rfl)) rfl rfl ?_
  refine sq (f_call en24 rfl ht (lt rfl)) rfl rfl ?_
  refine sq (f_move rfl (lt rfl)) rfl rfl ?_
  refine sq (f_extract rfl rfl (lt rfl)) rfl rfl ?_
  refine sq (f_extract rfl rfl (lt rfl)) rfl rfl ?_
  refine sq (f_assign rfl (lt rfl)) rfl rfl ?_
  refine sq (f_assign rfl (lt rfl)) rfl rfl ?_
  refine hits_nil ?_
  refine to_next ?_
  refine hits_seq ?_
  refine hits_seq ?_
  refine hits_region ?_
  refine sq (f_call en22 rfl alive_c (lt rfl)) rfl rfl ?_
  refine sq (f_un rfl rfl (lt rfl)) rfl rfl ?_
  refine sq (f_move rfl (lt rfl)) rfl rfl ?_
  refine sq_yes (f_move rfl (lt rfl)) rfl rfl rfl rfl (lt rfl) ?_
  refine sq_yes (f_bin rfl rfl (bT (b' := false) rfl) (lt rfl)) rfl rfl rfl rfl (lt rfl) ?_
  refine sq (f_pick rfl rfl (lt rfl)) rfl rfl ?_
  refine sq (f_move rfl (lt rfl)) rfl rfl ?_
  refine sq_yes (f_move rfl (lt rfl)) rfl rfl rfl rfl (lt rfl) ?_
  refine sq_yes (f_bin rfl rfl (bT (decide_eq_true (by omega))) (lt rfl)) rfl rfl rfl rfl (lt rfl) ?_
  refine sq (f_pick rfl rfl (lt rfl)) rfl rfl ?_
  refine hits_nil ?_
  refine to_next ?_
  refine hits_cond rfl (fun c0 => ?_) (fun c0 => ?_)
  case refine_2 => exact absurd c0 Bool.false_ne_true.symm
  case refine_1 =>
    refine hits_seq ?_
    refine hits_region ?_
    refine sq (f_call en22 rfl alive_c (lt rfl)) rfl rfl ?_
    refine sq (f_assign rfl (lt rfl)) rfl rfl ?_
    refine hits_nil ?_
    refine to_next ?_
    refine hits_ret ?_
    refine to_ret ?_
    exact hits_done (.inl rfl) rfl rfl rfl

set_option maxRecDepth 100000 in
theorem one_ok {n k w v : Nat} (h0 : 1 ≤ w) (h : w ≤ 128) (hv : v < 2 ^ w) (hn : n ≤ 2147483647) (hk : k ≤ 255) : CallsP Tryz.prog Lw 6 [.sc (.int .u32 (n : Int)), bitD w v, .sc (.int .u8 (k : Int))] (.sc (.bool true)) := by
  have hv' := lt128 h hv
  have ht := text_c h0 h hv
  rw [sl_is hv'] at ht
  have hd := digits_c (u := n) (by omega)
  have hw := words_c (oneT n w v k) (oneT_len hn h hv' hk)
  rw [W_one k hn h0 h hv] at hw
  have hsm := samew_c (oneL n w v (k + 1)) (oneL n w v (k + 1)) (by simp [oneL])
  rw [decide_eq_true rfl, oneD (by omega)] at hsm
  have la := ahead_len k
  have ld := dec_le 9 n (Nat.lt_of_le_of_lt hn (by decide))
  have ls := sl_len (w := w) (v := v) h hv'
  refine callsP_of gs_lw Tryz.func6 rfl Tryz.ntmps6 rfl fun w0 S0 stab => ?_
  refine hits_seq ?_
  refine hits_region ?_
  refine sq (f_box rfl rfl (lt rfl)) rfl rfl ?_
  refine sq (f_assign rfl (lt rfl)) rfl rfl ?_
  refine hits_nil ?_
  refine to_next ?_
  refine hits_seq ?_
  refine hits_region ?_
  refine sq (f_load kd24 rfl rfl (lt rfl)) rfl rfl ?_
  refine sq (f_call en24 rfl ht (lt rfl)) rfl rfl ?_
  refine sq (f_move rfl (lt rfl)) rfl rfl ?_
  refine sq (f_extract rfl rfl (lt rfl)) rfl rfl ?_
  refine sq (f_extract rfl rfl (lt rfl)) rfl rfl ?_
  refine sq (f_assign rfl (lt rfl)) rfl rfl ?_
  refine sq (f_assign rfl (lt rfl)) rfl rfl ?_
  refine hits_nil ?_
  refine to_next ?_
  refine hits_seq ?_
  refine hits_seq ?_
  refine hits_region ?_
  refine sq (f_call en22 rfl alive_c (lt rfl)) rfl rfl ?_
  refine sq (f_un rfl rfl (lt rfl)) rfl rfl ?_
  refine sq (f_move rfl (lt rfl)) rfl rfl ?_
  refine sq_yes (f_move rfl (lt rfl)) rfl rfl rfl rfl (lt rfl) ?_
  refine sq_yes (f_bin rfl rfl (bT (b' := false) rfl) (lt rfl)) rfl rfl rfl rfl (lt rfl) ?_
  refine sq (f_pick rfl rfl (lt rfl)) rfl rfl ?_
  refine sq (f_move rfl (lt rfl)) rfl rfl ?_
  refine sq_yes (f_move rfl (lt rfl)) rfl rfl rfl rfl (lt rfl) ?_
  refine sq_yes (f_bin rfl rfl (bT (decide_eq_false (by omega))) (lt rfl)) rfl rfl rfl rfl (lt rfl) ?_
  refine sq (f_pick rfl rfl (lt rfl)) rfl rfl ?_
  refine hits_nil ?_
  refine to_next ?_
  refine hits_cond rfl (fun c0 => ?_) (fun c0 => ?_)
  case refine_1 => exact absurd c0 Bool.false_ne_true
  case refine_2 =>
    refine hits_skip ?_
    refine to_next ?_
    refine hits_seq ?_
    refine hits_region ?_
    refine sq (f_assign rfl (lt rfl)) rfl rfl ?_
    refine hits_nil ?_
    refine to_next ?_
    refine hits_seq ?_
    refine hits_seq ?_
    refine hits_region ?_
    refine sq (f_assign rfl (lt rfl)) rfl rfl ?_
    refine hits_nil ?_
    refine to_next ?_
    refine hits_block ?_
    refine hits_loop (fun i : Nat => [(.slot 0, some (.d (.sc (.int .u32 (n : Int))))), (.slot 2, some (.d (.sc (.int .u8 (k : Int))))), (.slot 4, some (.ptr 4 0)), (.box 4, some (.ptr 4 0)), (.cell 4 0, some (.d (.sc (.int .i64 (w : Int))))), (.cell 4 1, some (.d (.sc (.int .u64 (hiOf v))))), (.cell 4 2, some (.d (.sc (.int .u64 (loOf v))))), (.slot 7, some (.d (.sc (.string (B (SL w v)))))), (.slot 9, some (.d (.sc (.string (B (ahead i)))))), (.slot 10, some (.d (.sc (.int .i64 (i : Int)))))]) (fun i : Nat => i ≤ k) (fun i : Nat => k - i) 0 (Nat.zero_le _) ⟨rfl, rfl, rfl, rfl, rfl, rfl, rfl, rfl, rfl, rfl, trivial⟩ rfl ?_
    intro i hik0
    refine hits_seq ?_
    refine hits_seq ?_
    by_cases hik : i < k
    · have lai := ahead_len i
      refine hits_region ?_
      refine sq (f_move rfl (lt rfl)) rfl rfl ?_
      refine sq (f_move rfl (lt rfl)) rfl rfl ?_
      refine sq (f_convI rfl us5 un3 (IntWalk.i64_in _ (by omega)) (lt rfl)) rfl rfl ?_
      refine sq (f_bin rfl rfl (bT (decide_eq_true (by omega))) (lt rfl)) rfl rfl ?_
      refine hits_nil ?_
      refine to_next ?_
      refine hits_cond rfl (fun c1 => ?_) (fun c1 => ?_)
      case refine_2 => exact absurd c1 Bool.false_ne_true.symm
      case refine_1 =>
        refine hits_skip ?_
        refine to_next ?_
        refine hits_seq ?_
        refine hits_block ?_
        refine hits_region ?_
        refine sq (f_move rfl (lt rfl)) rfl rfl ?_
        refine sq (f_catI rfl rfl (cat_ok (ahead i) ([9, 32, 10]) (by (try simp only [List.length_append, List.length_cons, List.length_nil]); omega)) (B_app (ahead i) ([9, 32, 10])) (lt rfl)) rfl rfl ?_
        refine sq (f_assign rfl (lt rfl)) rfl rfl ?_
        refine hits_nil ?_
        refine in_next ?_
        refine to_next ?_
        refine hits_region ?_
        refine sq (f_move rfl (lt rfl)) rfl rfl ?_
        refine sq (f_bin rfl rfl (iT (((IntWalk.i64_in _ (by omega)).trans (by omega) : _ = ((i + 1 : Nat) : Int)))) (lt rfl)) rfl rfl ?_
        refine sq (f_assign rfl (lt rfl)) rfl rfl ?_
        refine hits_nil ?_
        refine to_next ?_
        refine round_end (i + 1) (by omega) (by omega) ⟨rfl, rfl, rfl, rfl, rfl, rfl, rfl, rfl, rfl, rfl, trivial⟩ rfl
    · obtain rfl : i = k := by omega
      refine hits_region ?_
      refine sq (f_move rfl (lt rfl)) rfl rfl ?_
      refine sq (f_move rfl (lt rfl)) rfl rfl ?_
      refine sq (f_convI rfl us5 un3 (IntWalk.i64_in _ (by omega)) (lt rfl)) rfl rfl ?_
      refine sq (f_bin rfl rfl (bT (decide_eq_false (by omega))) (lt rfl)) rfl rfl ?_
      refine hits_nil ?_
      refine to_next ?_
      refine hits_cond rfl (fun c1 => ?_) (fun c1 => ?_)
      case refine_1 => exact absurd c1 Bool.false_ne_true
      case refine_2 =>
        refine hits_exit ?_
        refine to_exit ?_
        refine to_exit ?_
        refine in_hit rfl ?_
        refine to_next ?_
        refine hits_seq ?_
        refine hits_region ?_
        refine sq (f_move rfl (lt rfl)) rfl rfl ?_
        refine sq (f_move rfl (lt rfl)) rfl rfl ?_
        refine sq (f_convI rfl us79 un22 (wraps_u64 _ (by omega) (by omega)) (lt rfl)) rfl rfl ?_
        refine sq (f_call en25 rfl hd (lt rfl)) rfl rfl ?_
        refine sq (f_catI rfl rfl (cat_ok (ahead i) (Lib.decDigits n) (by (try simp only [List.length_append, List.length_cons, List.length_nil]); omega)) (B_app (ahead i) (Lib.decDigits n)) (lt rfl)) rfl rfl ?_
        refine sq (f_catI rfl rfl (cat_ok ((ahead i ++ Lib.decDigits n)) ([60]) (by (try simp only [List.length_append, List.length_cons, List.length_nil]); omega)) (B_app ((ahead i ++ Lib.decDigits n)) ([60])) (lt rfl)) rfl rfl ?_
        refine sq (f_move rfl (lt rfl)) rfl rfl ?_
        refine sq (f_catI rfl rfl (cat_ok (((ahead i ++ Lib.decDigits n) ++ [60])) (SL w v) (by (try simp only [List.length_append, List.length_cons, List.length_nil]); omega)) (B_app (((ahead i ++ Lib.decDigits n) ++ [60])) (SL w v)) (lt rfl)) rfl rfl ?_
        refine sq (f_catI rfl rfl (cat_ok ((((ahead i ++ Lib.decDigits n) ++ [60]) ++ SL w v)) ([60, 60]) (by (try simp only [List.length_append, List.length_cons, List.length_nil]); omega)) (B_app ((((ahead i ++ Lib.decDigits n) ++ [60]) ++ SL w v)) ([60, 60])) (lt rfl)) rfl rfl ?_
        refine sq (f_move rfl (lt rfl)) rfl rfl ?_
        refine sq (f_catI rfl rfl (cat_ok (((((ahead i ++ Lib.decDigits n) ++ [60]) ++ SL w v) ++ [60, 60])) (SL w v) (by (try simp only [List.length_append, List.length_cons, List.length_nil]); omega)) (B_app (((((ahead i ++ Lib.decDigits n) ++ [60]) ++ SL w v) ++ [60, 60])) (SL w v)) (lt rfl)) rfl rfl ?_
        refine sq (f_catI rfl rfl (cat_ok ((((((ahead i ++ Lib.decDigits n) ++ [60]) ++ SL w v) ++ [60, 60]) ++ SL w v)) ([47, 47]) (by (try simp only [List.length_append, List.length_cons, List.length_nil]); omega)) (B_app ((((((ahead i ++ Lib.decDigits n) ++ [60]) ++ SL w v) ++ [60, 60]) ++ SL w v)) ([47, 47])) (lt rfl)) rfl rfl ?_
        refine sq (f_call en18 rfl hw (lt rfl)) rfl rfl ?_
        refine sq (f_move rfl (lt rfl)) rfl rfl ?_
        refine sq (f_extract rfl rfl (lt rfl)) rfl rfl ?_
        refine sq (f_extract rfl rfl (lt rfl)) rfl rfl ?_
        refine sq (f_extract rfl rfl (lt rfl)) rfl rfl ?_
        refine sq (f_assign rfl (lt rfl)) rfl rfl ?_
        refine sq (f_assign rfl (lt rfl)) rfl rfl ?_
        refine sq (f_assign rfl (lt rfl)) rfl rfl ?_
        refine hits_nil ?_
        refine to_next ?_
        refine hits_seq ?_
        refine hits_region ?_
        refine sq (f_move rfl (lt rfl)) rfl rfl ?_
        refine sq (f_convI rfl us5 un3 (IntWalk.i64_in _ (by omega)) (lt rfl)) rfl rfl ?_
        refine sq (f_bin rfl rfl (iT (((IntWalk.i64_in _ (by omega)).trans (by omega) : _ = ((i + 1 : Nat) : Int)))) (lt rfl)) rfl rfl ?_
        refine sq (f_assign rfl (lt rfl)) rfl rfl ?_
        refine hits_nil ?_
        refine to_next ?_
        refine hits_seq ?_
        refine hits_region ?_
        refine sq (f_load kd24 rfl rfl (lt rfl)) rfl rfl ?_
        refine sq (f_move rfl (lt rfl)) rfl rfl ?_
        refine sq (f_build bu77 rfl (l := [.sc (.int .u8 3), .sc (.string ByteArray.empty), .sc (.int .i64 (w : Int)), .sc (.int .u64 (hiOf v)), .sc (.int .u64 (loOf v)), .sc (.int .i64 ((i + 1 : Nat) : Int))]) rfl (lt rfl)) rfl rfl ?_
        refine sq (f_alloc zc77 (lt rfl)) rfl rfl ?_
        refine sq (f_store kd77 rfl rfl rfl rfl rfl) rfl rfl ?_
        refine hits_nil ?_
        refine to_next ?_
        refine hits_seq ?_
        refine hits_region ?_
        refine sq (f_move rfl (lt rfl)) rfl rfl ?_
        refine sq (f_convI rfl us79 un22 (wraps_u64 _ (by omega) (by omega)) (lt rfl)) rfl rfl ?_
        refine sq (f_build bu24 rfl (l := [.sc (.int .i64 64), .sc (.int .u64 0), .sc (.int .u64 (n : Int))]) rfl (lt rfl)) rfl rfl ?_
        refine sq (f_move rfl (lt rfl)) rfl rfl ?_
        refine sq (f_build bu77 rfl (l := [.sc (.int .u8 2), .sc (.string ByteArray.empty), .sc (.int .i64 64), .sc (.int .u64 0), .sc (.int .u64 (n : Int)), .sc (.int .i64 ((i + 1 : Nat) : Int))]) rfl (lt rfl)) rfl rfl ?_
        refine sq (f_move rfl (lt rfl)) rfl rfl ?_
        refine sq (f_build bu77 rfl (l := [.sc (.int .u8 4), .sc (.string ⟨#[60]⟩), .sc (.int .i64 0), .sc (.int .u64 0), .sc (.int .u64 0), .sc (.int .i64 ((i + 1 : Nat) : Int))]) rfl (lt rfl)) rfl rfl ?_
        refine sq (f_load kd77 rfl rfl (lt rfl)) rfl rfl ?_
        refine sq (f_move rfl (lt rfl)) rfl rfl ?_
        refine sq (f_build bu77 rfl (l := [.sc (.int .u8 4), .sc (.string ⟨#[60, 60]⟩), .sc (.int .i64 0), .sc (.int .u64 0), .sc (.int .u64 0), .sc (.int .i64 ((i + 1 : Nat) : Int))]) rfl (lt rfl)) rfl rfl ?_
        refine sq (f_load kd77 rfl rfl (lt rfl)) rfl rfl ?_
        refine sq (f_buildSlice sk69 rfl rfl rfl rfl rfl rfl (by decide) (by decide) (lt rfl)) rfl rfl ?_
        refine sq (f_assign rfl (lt rfl)) rfl rfl ?_
        refine hits_nil ?_
        refine to_next ?_
        refine hits_seq ?_
        refine hits_region ?_
        refine sq (f_move rfl (lt rfl)) rfl rfl ?_
        refine sq (f_bin rfl rfl (bT (b' := true) rfl) (lt rfl)) rfl rfl ?_
        refine sq (f_move rfl (lt rfl)) rfl rfl ?_
        refine sq_yes (f_move rfl (lt rfl)) rfl rfl rfl rfl (lt rfl) ?_
        refine sq_yes (f_move rfl (lt rfl)) rfl rfl rfl rfl (lt rfl) ?_
        refine sq_yes (f_call en20 rfl hsm (lt rfl)) rfl rfl rfl rfl (lt rfl) ?_
        refine sq (f_pick rfl rfl (lt rfl)) rfl rfl ?_
        refine sq (f_assign rfl (lt rfl)) rfl rfl ?_
        refine hits_nil ?_
        refine to_next ?_
        refine hits_ret ?_
        exact hits_done (.inl rfl) rfl rfl rfl

theorem pointsmanlaw07_LexOne.calls (a0 a1_0 a1_1 a1_2 a2 : Int) (r : Bool) (w : World) (hg : Lw w) (hk : r = true) (w0 : (Lit.int .u32 a0).wf = true) (_wf : (Lit.int .i64 a1_0).wf = true) (w11 : (Lit.int .u64 a1_1).wf = true) (w12 : (Lit.int .u64 a1_2).wf = true) (w2 : (Lit.int .u8 a2).wf = true) :
    Calls Tryz.prog 6 #[.int .u32 a0, .agg #[.int .i64 a1_0, .int .u64 a1_1, .int .u64 a1_2], .int .u8 a2] w fun e w' => e = .returned (.bool r) ∧ Below w.heap.size w w' := by
  subst hk
  obtain ⟨n, rfl, hn⟩ := u32_nat w0
  obtain ⟨v, hv, rfl, rfl⟩ := two_words w11 w12
  obtain ⟨k, rfl, hk⟩ := u8_nat w2
  cases hc : chk a1_0 v with
  | false => exact (one_bad hv hc).calls rfl rfl w hg
  | true =>
    obtain ⟨h1, h2, h3⟩ := of_decide_eq_true hc
    obtain ⟨w', rfl⟩ : ∃ w' : Nat, a1_0 = (w' : Int) := ⟨a1_0.toNat, by omega⟩
    simp only [Int.toNat_natCast] at h3
    by_cases hb : n ≤ 2147483647
    · exact (one_ok (k := k) (w := w') (v := v) (by omega) (by omega) h3 hb (by omega)).calls rfl rfl w hg
    · exact (one_big (k := k) (w := w') (v := v) (by omega) (by omega) h3 (by omega)).calls rfl rfl w hg

end Go.Proofs.YtcaedggggkchiaaGreatDoor.Ln
