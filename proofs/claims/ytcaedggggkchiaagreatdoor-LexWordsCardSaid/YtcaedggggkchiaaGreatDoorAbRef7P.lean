/- The reference's Parse over data. -/
import Derived.Test.YtcaedggggkchiaaGreatDoorAbRef7
namespace Go.Proofs.YtcaedggggkchiaaGreatDoor.Ln
open Go Go.RowKit Go.Ab Go.Proofs 
set_option linter.unusedVariables false
set_option linter.unusedSimpArgs false
theorem en251 : enters Tryz.prog 251 = true := by kernel_rfl
theorem en252 : enters Tryz.prog 252 = true := by kernel_rfl

theorem or_add {x y : Nat} (hy : y < 16) : (16 * x ||| y) = 16 * x + y := (Nat.two_pow_add_eq_or_of_lt (i := 4) hy x).symm
/-- One digit more, of 128 bits. -/
def nextV (v d : Nat) : Nat := (v * 16 + d) % 2 ^ 128
theorem nextV_lt (v d : Nat) : nextV v d < 2 ^ 128 := Nat.mod_lt _ (by decide)
theorem sh4 {x : Nat} (hx : x < 2 ^ 64) : IntKind.u64.wrap ((x : Int) * 2 ^ (min ((4 : Int)).toNat IntKind.u64.bits)) = ((16 * (x % 2 ^ 60) : Nat) : Int) := by
  rw [wrap_u64]; show (x : Int) * 16 % _ = _; omega
theorem sh60 {x : Nat} (hx : x < 2 ^ 64) : ((x : Int)).fdiv (2 ^ (min ((60 : Int)).toNat IntKind.u64.bits)) = ((x / 2 ^ 60 : Nat) : Int) := by
  rw [Int.fdiv_eq_ediv_of_nonneg _ (by decide)]; show (x : Int) / 1152921504606846976 = _; omega
theorem next_hi {v d : Nat} (hv : v < 2 ^ 128) (hd : d < 16) : Go.bits .or .u64 ((16 * (v / 2 ^ 64 % 2 ^ 60) : Nat) : Int) ((v % 2 ^ 64 / 2 ^ 60 : Nat) : Int) = hiOf (nextV v d) := by
  rw [or_nat (by omega) (by omega), or_add (by omega)]; unfold hiOf nextV; omega
theorem next_lo {v d : Nat} (hv : v < 2 ^ 128) (hd : d < 16) : Go.bits .or .u64 ((16 * (v % 2 ^ 64 % 2 ^ 60) : Nat) : Int) (d : Int) = loOf (nextV v d) := by
  rw [or_nat (by omega) (by omega), or_add hd]; unfold loOf nextV; omega
theorem dgI_nat {c : Nat} (h : ¬ dgI c < 0) : ∃ d : Nat, dgI c = (d : Int) ∧ d < 16 := by
  unfold dgI at *
  split at h
  · rename_i q; rw [if_pos q]; exact ⟨_, rfl, by omega⟩
  · rename_i q
    split at h
    · rename_i q2; rw [if_neg q, if_pos q2]; exact ⟨_, rfl, by omega⟩
    · exact absurd h (by decide)
theorem rtext_any (w v : Nat) (hv : v < 2 ^ 128) : ∃ (t : ByteArray) (e : Int), CallsP Tryz.prog Lw 252 [bitD w v] (.tup [.sc (.string t), .sc (.int .i64 e)]) ∧ (e = 1 ∨ (e = 0 ∧ 1 ≤ w ∧ w ≤ 128 ∧ v < 2 ^ w ∧ t = rtextB w v)) := by
  by_cases h : 1 ≤ w ∧ w ≤ 128
  · by_cases hb : v < 2 ^ w
    · exact ⟨_, _, rtext_c h.1 h.2 hb, .inr ⟨rfl, h.1, h.2, hb, rfl⟩⟩
    · exact ⟨_, _, rtext_bad (rchk_big h.1 h.2 hv hb) ⟨_, _, _, rfl⟩, .inl rfl⟩
  · exact ⟨_, _, rtext_bad (rchk_no (by omega)) ⟨_, _, _, rfl⟩, .inl rfl⟩
theorem wv_snoc (l : List UInt8) (c : UInt8) : wv (l ++ [c]) = 10 * wv l + (c.toNat - 48) := by simp [wv]
theorem fold_ge (l : List UInt8) : ∀ a, a ≤ l.foldl (fun a c => a * 16 + (dgI c.toNat).toNat) a := by
  induction l with
  | nil => intro a; exact Nat.le_refl _
  | cons c l ih => intro a; exact Nat.le_trans (show a ≤ a * 16 + (dgI c.toNat).toNat by omega) (ih _)
theorem hv_take (l : List UInt8) (j : Nat) : hv16 (l.take j) ≤ hv16 l := by
  have e : hv16 l = (l.drop j).foldl (fun a c => a * 16 + (dgI c.toNat).toNat) (hv16 (l.take j)) := by
    conv => lhs; rw [← List.take_append_drop j l]
    unfold hv16; rw [List.foldl_append]
  rw [e]; exact fold_ge _ _
theorem wfold_ge (l : List UInt8) : ∀ a, a ≤ l.foldl (fun a c => 10 * a + (c.toNat - 48)) a := by
  induction l with
  | nil => intro a; exact Nat.le_refl _
  | cons c l ih => intro a; exact Nat.le_trans (show a ≤ 10 * a + (c.toNat - 48) by omega) (ih _)
theorem wv_take (l : List UInt8) (j : Nat) : wv (l.take j) ≤ wv l := by
  have e : wv l = (l.drop j).foldl (fun a c => 10 * a + (c.toNat - 48)) (wv (l.take j)) := by
    conv => lhs; rw [← List.take_append_drop j l]
    unfold wv; rw [List.foldl_append]
  rw [e]; exact wfold_ge _ _
theorem take_snoc' {l : List UInt8} {i : Nat} {c : UInt8} (h : l[i]? = some c) : l.take (i + 1) = l.take i ++ [c] := by
  rw [List.take_add_one, h]; rfl

theorem at_D {D H : List UInt8} {L : List UInt8} (hL : L = D ++ 119 :: H) {k : Nat} {c : UInt8} (h : D[k]? = some c) : L[k]? = some c := by
  rw [hL, List.getElem?_append_left (List.getElem?_eq_some_iff.mp h).1, h]
theorem at_w {D H : List UInt8} {L : List UInt8} (hL : L = D ++ 119 :: H) : L[D.length]? = some 119 := by
  rw [hL, List.getElem?_append_right (Nat.le_refl _)]; simp
theorem at_H {D H : List UInt8} {L : List UInt8} (hL : L = D ++ 119 :: H) {j : Nat} {c : UInt8} (h : H[j]? = some c) : L[D.length + 1 + j]? = some c := by
  rw [hL, List.getElem?_append_right (by omega), show D.length + 1 + j - D.length = j + 1 from by omega, List.getElem?_cons_succ, h]

set_option maxHeartbeats 4000000 in
set_option maxRecDepth 100000 in
theorem rparse_no (s : ByteArray) (hs : s.size ≤ 281474976710656) (h : ∀ w v, 1 ≤ w → w ≤ 128 → v < 2 ^ w → rtextB w v ≠ s) : CallsP Tryz.prog Lw 227 [.sc (.string s)] (.tup [.agg [.sc (.int .i64 0), .sc (.int .u64 0), .sc (.int .u64 0)], .sc (.int .i64 8)]) := by
  refine callsP_of gs_lw Tryz.func227 rfl Tryz.ntmps227 rfl fun w0 S0 stab => ?_
  refine hits_seq ?_
  refine hits_region ?_
  refine sq (f_alloc zc24 (lt rfl)) rfl rfl ?_
  refine sq (f_assign rfl (lt rfl)) rfl rfl ?_
  refine hits_nil ?_
  refine to_next ?_
  refine hits_seq ?_
  refine hits_region ?_
  refine sq (f_assign rfl (lt rfl)) rfl rfl ?_
  refine hits_nil ?_
  refine to_next ?_
  refine hits_seq ?_
  refine hits_region ?_
  refine sq (f_assign rfl (lt rfl)) rfl rfl ?_
  refine hits_nil ?_
  refine to_next ?_
  refine hits_seq ?_
  refine hits_block ?_
  refine hits_via (fun x : Nat × Nat => [(.slot 0, some (.d (.sc (.string s)))), (.slot 4, some (.d (.sc (.int .i64 (x.2 : Int))))), (.slot 5, some (.d (.sc (.int .i64 (x.1 : Int))))), (.slot 2, some (.ptr 2 0)), (.cell 2 0, some (.d (.sc (.int .i64 0)))), (.cell 2 1, some (.d (.sc (.int .u64 0)))), (.cell 2 2, some (.d (.sc (.int .u64 0)))), (.box 2, some (.ptr 2 0))]) (fun x : Nat × Nat => x.1 ≤ 3 ∧ x.2 < 1000) 0 (fun rest => ?_) ?_
  · refine hits_loop (fun x : Nat × Nat => [(.slot 0, some (.d (.sc (.string s)))), (.slot 4, some (.d (.sc (.int .i64 (x.2 : Int))))), (.slot 5, some (.d (.sc (.int .i64 (x.1 : Int))))), (.slot 2, some (.ptr 2 0)), (.cell 2 0, some (.d (.sc (.int .i64 0)))), (.cell 2 1, some (.d (.sc (.int .u64 0)))), (.cell 2 2, some (.d (.sc (.int .u64 0)))), (.box 2, some (.ptr 2 0))]) (fun x : Nat × Nat => x.1 ≤ 3 ∧ x.2 < 10 ^ x.1) (fun x : Nat × Nat => 3 - x.1) (0, 0) ⟨by decide, by decide⟩ ⟨rfl, rfl, rfl, rfl, rfl, rfl, rfl, rfl, trivial⟩ rfl ?_
    intro x hx
    obtain ⟨k, w⟩ := x
    obtain ⟨hk3, hw⟩ := hx
    simp only at hk3 hw
    have hp3 : 10 ^ k ≤ 1000 := Nat.pow_le_pow_right (by decide) hk3
    change Hits _ [(.slot 0, some (.d (.sc (.string s)))), (.slot 4, some (.d (.sc (.int .i64 (w : Int))))), (.slot 5, some (.d (.sc (.int .i64 (k : Int))))), (.slot 2, some (.ptr 2 0)), (.cell 2 0, some (.d (.sc (.int .i64 0)))), (.cell 2 1, some (.d (.sc (.int .u64 0)))), (.cell 2 2, some (.d (.sc (.int .u64 0)))), (.box 2, some (.ptr 2 0))] _
    refine hits_seq ?_
    refine hits_seq ?_
    by_cases a1 : k < s.size
    · by_cases a2 : k < 3
      · obtain ⟨c, hat⟩ : ∃ c, s.data.toList[k]? = some c := ⟨_, List.getElem?_eq_getElem (by simpa using a1)⟩
        have hc : c.toNat < 256 := c.toNat_lt
        by_cases a3 : 48 ≤ c.toNat
        · by_cases a4 : c.toNat ≤ 57
          · have hp : 10 ^ k ≤ 100 := Nat.pow_le_pow_right (by decide) (show k ≤ 2 by omega)
            have hp2 : 10 ^ (k + 1) = 10 ^ k * 10 := Nat.pow_succ _ _
            refine hits_region ?_
            refine sq (f_move rfl (lt rfl)) rfl rfl ?_
            refine sq (f_move rfl (lt rfl)) rfl rfl ?_
            refine sq (f_lenStr rfl un9 (lt rfl)) rfl rfl ?_
            refine sq (f_bin rfl rfl (bT (decide_eq_true (by omega))) (lt rfl)) rfl rfl ?_
            refine sq (f_move rfl (lt rfl)) rfl rfl ?_
            refine sq_yes (f_move rfl (lt rfl)) rfl rfl rfl rfl (lt rfl) ?_
            refine sq_yes (f_bin rfl rfl (bT (decide_eq_true (by omega))) (lt rfl)) rfl rfl rfl rfl (lt rfl) ?_
            refine sq (f_pick rfl rfl (lt rfl)) rfl rfl ?_
            refine sq (f_move rfl (lt rfl)) rfl rfl ?_
            refine sq_yes (f_move rfl (lt rfl)) rfl rfl rfl rfl (lt rfl) ?_
            refine sq_yes (f_move rfl (lt rfl)) rfl rfl rfl rfl (lt rfl) ?_
            refine sq_yes (f_idxS rfl rfl un9 hat (lt rfl)) rfl rfl rfl rfl (lt rfl) ?_
            refine sq_yes (f_bin rfl rfl (bT (decide_eq_true (by omega))) (lt rfl)) rfl rfl rfl rfl (lt rfl) ?_
            refine sq (f_pick rfl rfl (lt rfl)) rfl rfl ?_
            refine sq (f_move rfl (lt rfl)) rfl rfl ?_
            refine sq_yes (f_move rfl (lt rfl)) rfl rfl rfl rfl (lt rfl) ?_
            refine sq_yes (f_move rfl (lt rfl)) rfl rfl rfl rfl (lt rfl) ?_
            refine sq_yes (f_idxS rfl rfl un9 hat (lt rfl)) rfl rfl rfl rfl (lt rfl) ?_
            refine sq_yes (f_bin rfl rfl (bT (decide_eq_true (by omega))) (lt rfl)) rfl rfl rfl rfl (lt rfl) ?_
            refine sq (f_pick rfl rfl (lt rfl)) rfl rfl ?_
            refine hits_nil ?_
            refine to_next ?_
            refine hits_cond rfl (fun c0 => ?_) (fun c0 => absurd c0 Bool.false_ne_true.symm)
            refine hits_skip ?_
            refine to_next ?_
            refine hits_block ?_
            refine hits_seq ?_
            refine hits_region ?_
            refine sq (f_move rfl (lt rfl)) rfl rfl ?_
            refine sq (f_bin rfl rfl (iT (((IntWalk.i64_in _ (by omega)).trans (by omega) : _ = ((10 * w : Nat) : Int)))) (lt rfl)) rfl rfl ?_
            refine sq (f_move rfl (lt rfl)) rfl rfl ?_
            refine sq (f_move rfl (lt rfl)) rfl rfl ?_
            refine sq (f_idxS rfl rfl un9 hat (lt rfl)) rfl rfl ?_
            refine sq (f_bin rfl rfl (iT ((u8_sub hc a3 : _ = ((c.toNat - 48 : Nat) : Int)))) (lt rfl)) rfl rfl ?_
            refine sq (f_convI rfl us5 un3 (IntWalk.i64_in _ (by omega)) (lt rfl)) rfl rfl ?_
            refine sq (f_bin rfl rfl (iT (((IntWalk.i64_in _ (by omega)).trans (by omega) : _ = ((10 * w + (c.toNat - 48) : Nat) : Int)))) (lt rfl)) rfl rfl ?_
            refine sq (f_assign rfl (lt rfl)) rfl rfl ?_
            refine hits_nil ?_
            refine to_next ?_
            refine hits_region ?_
            refine sq (f_move rfl (lt rfl)) rfl rfl ?_
            refine sq (f_bin rfl rfl (iT (((IntWalk.i64_in _ (by omega)).trans (by omega) : _ = ((k + 1 : Nat) : Int)))) (lt rfl)) rfl rfl ?_
            refine sq (f_assign rfl (lt rfl)) rfl rfl ?_
            refine hits_nil ?_
            refine in_next ?_
            refine to_next ?_
            exact round_end (k + 1, 10 * w + (c.toNat - 48)) ⟨by show k + 1 ≤ 3; omega, by show _ < 10 ^ (k + 1); omega⟩ (by show 3 - (k + 1) < 3 - k; omega) ⟨rfl, rfl, rfl, rfl, rfl, rfl, rfl, rfl, trivial⟩ rfl
          · refine hits_region ?_
            refine sq (f_move rfl (lt rfl)) rfl rfl ?_
            refine sq (f_move rfl (lt rfl)) rfl rfl ?_
            refine sq (f_lenStr rfl un9 (lt rfl)) rfl rfl ?_
            refine sq (f_bin rfl rfl (bT (decide_eq_true (by omega))) (lt rfl)) rfl rfl ?_
            refine sq (f_move rfl (lt rfl)) rfl rfl ?_
            refine sq_yes (f_move rfl (lt rfl)) rfl rfl rfl rfl (lt rfl) ?_
            refine sq_yes (f_bin rfl rfl (bT (decide_eq_true (by omega))) (lt rfl)) rfl rfl rfl rfl (lt rfl) ?_
            refine sq (f_pick rfl rfl (lt rfl)) rfl rfl ?_
            refine sq (f_move rfl (lt rfl)) rfl rfl ?_
            refine sq_yes (f_move rfl (lt rfl)) rfl rfl rfl rfl (lt rfl) ?_
            refine sq_yes (f_move rfl (lt rfl)) rfl rfl rfl rfl (lt rfl) ?_
            refine sq_yes (f_idxS rfl rfl un9 hat (lt rfl)) rfl rfl rfl rfl (lt rfl) ?_
            refine sq_yes (f_bin rfl rfl (bT (decide_eq_true (by omega))) (lt rfl)) rfl rfl rfl rfl (lt rfl) ?_
            refine sq (f_pick rfl rfl (lt rfl)) rfl rfl ?_
            refine sq (f_move rfl (lt rfl)) rfl rfl ?_
            refine sq_yes (f_move rfl (lt rfl)) rfl rfl rfl rfl (lt rfl) ?_
            refine sq_yes (f_move rfl (lt rfl)) rfl rfl rfl rfl (lt rfl) ?_
            refine sq_yes (f_idxS rfl rfl un9 hat (lt rfl)) rfl rfl rfl rfl (lt rfl) ?_
            refine sq_yes (f_bin rfl rfl (bT (decide_eq_false (by omega))) (lt rfl)) rfl rfl rfl rfl (lt rfl) ?_
            refine sq (f_pick rfl rfl (lt rfl)) rfl rfl ?_
            refine hits_nil ?_
            refine to_next ?_
            refine hits_cond rfl (fun c0 => absurd c0 Bool.false_ne_true) (fun c0 => ?_)
            refine hits_exit ?_
            refine to_exit ?_
            refine to_exit ?_
            exact hits_out rest (k, w) ⟨hk3, by show w < 1000; omega⟩ ⟨rfl, rfl, rfl, rfl, rfl, rfl, rfl, rfl, trivial⟩ rfl
        · refine hits_region ?_
          refine sq (f_move rfl (lt rfl)) rfl rfl ?_
          refine sq (f_move rfl (lt rfl)) rfl rfl ?_
          refine sq (f_lenStr rfl un9 (lt rfl)) rfl rfl ?_
          refine sq (f_bin rfl rfl (bT (decide_eq_true (by omega))) (lt rfl)) rfl rfl ?_
          refine sq (f_move rfl (lt rfl)) rfl rfl ?_
          refine sq_yes (f_move rfl (lt rfl)) rfl rfl rfl rfl (lt rfl) ?_
          refine sq_yes (f_bin rfl rfl (bT (decide_eq_true (by omega))) (lt rfl)) rfl rfl rfl rfl (lt rfl) ?_
          refine sq (f_pick rfl rfl (lt rfl)) rfl rfl ?_
          refine sq (f_move rfl (lt rfl)) rfl rfl ?_
          refine sq_yes (f_move rfl (lt rfl)) rfl rfl rfl rfl (lt rfl) ?_
          refine sq_yes (f_move rfl (lt rfl)) rfl rfl rfl rfl (lt rfl) ?_
          refine sq_yes (f_idxS rfl rfl un9 hat (lt rfl)) rfl rfl rfl rfl (lt rfl) ?_
          refine sq_yes (f_bin rfl rfl (bT (decide_eq_false (by omega))) (lt rfl)) rfl rfl rfl rfl (lt rfl) ?_
          refine sq (f_pick rfl rfl (lt rfl)) rfl rfl ?_
          refine sq (f_move rfl (lt rfl)) rfl rfl ?_
          refine sq_no rfl rfl rfl rfl rfl (lt rfl) (lt rfl) ?_
          refine sq_no rfl rfl rfl rfl rfl (lt rfl) (lt rfl) ?_
          refine sq_no rfl rfl rfl rfl rfl (lt rfl) (lt rfl) ?_
          refine sq_no rfl rfl rfl rfl rfl (lt rfl) (lt rfl) ?_
          refine sq (f_pick rfl rfl (lt rfl)) rfl rfl ?_
          refine hits_nil ?_
          refine to_next ?_
          refine hits_cond rfl (fun c0 => absurd c0 Bool.false_ne_true) (fun c0 => ?_)
          refine hits_exit ?_
          refine to_exit ?_
          refine to_exit ?_
          exact hits_out rest (k, w) ⟨hk3, by show w < 1000; omega⟩ ⟨rfl, rfl, rfl, rfl, rfl, rfl, rfl, rfl, trivial⟩ rfl
      · refine hits_region ?_
        refine sq (f_move rfl (lt rfl)) rfl rfl ?_
        refine sq (f_move rfl (lt rfl)) rfl rfl ?_
        refine sq (f_lenStr rfl un9 (lt rfl)) rfl rfl ?_
        refine sq (f_bin rfl rfl (bT (decide_eq_true (by omega))) (lt rfl)) rfl rfl ?_
        refine sq (f_move rfl (lt rfl)) rfl rfl ?_
        refine sq_yes (f_move rfl (lt rfl)) rfl rfl rfl rfl (lt rfl) ?_
        refine sq_yes (f_bin rfl rfl (bT (decide_eq_false (by omega))) (lt rfl)) rfl rfl rfl rfl (lt rfl) ?_
        refine sq (f_pick rfl rfl (lt rfl)) rfl rfl ?_
        refine sq (f_move rfl (lt rfl)) rfl rfl ?_
        refine sq_no rfl rfl rfl rfl rfl (lt rfl) (lt rfl) ?_
        refine sq_no rfl rfl rfl rfl rfl (lt rfl) (lt rfl) ?_
        refine sq_no rfl rfl rfl rfl rfl (lt rfl) (lt rfl) ?_
        refine sq_no rfl rfl rfl rfl rfl (lt rfl) (lt rfl) ?_
        refine sq (f_pick rfl rfl (lt rfl)) rfl rfl ?_
        refine sq (f_move rfl (lt rfl)) rfl rfl ?_
        refine sq_no rfl rfl rfl rfl rfl (lt rfl) (lt rfl) ?_
        refine sq_no rfl rfl rfl rfl rfl (lt rfl) (lt rfl) ?_
        refine sq_no rfl rfl rfl rfl rfl (lt rfl) (lt rfl) ?_
        refine sq_no rfl rfl rfl rfl rfl (lt rfl) (lt rfl) ?_
        refine sq (f_pick rfl rfl (lt rfl)) rfl rfl ?_
        refine hits_nil ?_
        refine to_next ?_
        refine hits_cond rfl (fun c0 => absurd c0 Bool.false_ne_true) (fun c0 => ?_)
        refine hits_exit ?_
        refine to_exit ?_
        refine to_exit ?_
        exact hits_out rest (k, w) ⟨hk3, by show w < 1000; omega⟩ ⟨rfl, rfl, rfl, rfl, rfl, rfl, rfl, rfl, trivial⟩ rfl
    · refine hits_region ?_
      refine sq (f_move rfl (lt rfl)) rfl rfl ?_
      refine sq (f_move rfl (lt rfl)) rfl rfl ?_
      refine sq (f_lenStr rfl un9 (lt rfl)) rfl rfl ?_
      refine sq (f_bin rfl rfl (bT (decide_eq_false (by omega))) (lt rfl)) rfl rfl ?_
      refine sq (f_move rfl (lt rfl)) rfl rfl ?_
      refine sq_no rfl rfl rfl rfl rfl (lt rfl) (lt rfl) ?_
      refine sq_no rfl rfl rfl rfl rfl (lt rfl) (lt rfl) ?_
      refine sq (f_pick rfl rfl (lt rfl)) rfl rfl ?_
      refine sq (f_move rfl (lt rfl)) rfl rfl ?_
      refine sq_no rfl rfl rfl rfl rfl (lt rfl) (lt rfl) ?_
      refine sq_no rfl rfl rfl rfl rfl (lt rfl) (lt rfl) ?_
      refine sq_no rfl rfl rfl rfl rfl (lt rfl) (lt rfl) ?_
      refine sq_no rfl rfl rfl rfl rfl (lt rfl) (lt rfl) ?_
      refine sq (f_pick rfl rfl (lt rfl)) rfl rfl ?_
      refine sq (f_move rfl (lt rfl)) rfl rfl ?_
      refine sq_no rfl rfl rfl rfl rfl (lt rfl) (lt rfl) ?_
      refine sq_no rfl rfl rfl rfl rfl (lt rfl) (lt rfl) ?_
      refine sq_no rfl rfl rfl rfl rfl (lt rfl) (lt rfl) ?_
      refine sq_no rfl rfl rfl rfl rfl (lt rfl) (lt rfl) ?_
      refine sq (f_pick rfl rfl (lt rfl)) rfl rfl ?_
      refine hits_nil ?_
      refine to_next ?_
      refine hits_cond rfl (fun c0 => absurd c0 Bool.false_ne_true) (fun c0 => ?_)
      refine hits_exit ?_
      refine to_exit ?_
      refine to_exit ?_
      exact hits_out rest (k, w) ⟨hk3, by show w < 1000; omega⟩ ⟨rfl, rfl, rfl, rfl, rfl, rfl, rfl, rfl, trivial⟩ rfl
  · intro x hx
    obtain ⟨k, w⟩ := x
    obtain ⟨hk3, hw3⟩ := hx
    simp only at hk3 hw3
    change Hits _ [(.slot 0, some (.d (.sc (.string s)))), (.slot 4, some (.d (.sc (.int .i64 (w : Int))))), (.slot 5, some (.d (.sc (.int .i64 (k : Int))))), (.slot 2, some (.ptr 2 0)), (.cell 2 0, some (.d (.sc (.int .i64 0)))), (.cell 2 1, some (.d (.sc (.int .u64 0)))), (.cell 2 2, some (.d (.sc (.int .u64 0)))), (.box 2, some (.ptr 2 0))] _
    refine in_hit rfl ?_
    refine to_next ?_
    refine hits_seq ?_
    refine hits_region ?_
    refine sq (f_move rfl (lt rfl)) rfl rfl ?_
    refine sq (f_build bu24 rfl rfl (lt rfl)) rfl rfl ?_
    refine sq (f_alloc zc24 (lt rfl)) rfl rfl ?_
    refine sq (f_store kd24 rfl rfl rfl rfl rfl) rfl rfl ?_
    refine hits_nil ?_
    refine to_next ?_
    refine hits_seq ?_
    refine hits_seq ?_
    refine hits_region ?_
    refine sq (f_move rfl (lt rfl)) rfl rfl ?_
    refine sq (f_bin rfl rfl (iT (((IntWalk.i64_in _ (by omega)).trans (by omega) : _ = ((k + 1 : Nat) : Int)))) (lt rfl)) rfl rfl ?_
    refine sq (f_assign rfl (lt rfl)) rfl rfl ?_
    refine hits_nil ?_
    refine to_next ?_
    refine hits_block ?_
    refine hits_via (fun v : Nat => [(.slot 0, some (.d (.sc (.string s)))), (.slot 6, some (.ptr 6 0)), (.cell 6 0, some (.d (.sc (.int .i64 (w : Int))))), (.cell 6 1, some (.d (.sc (.int .u64 (hiOf (v)))))), (.cell 6 2, some (.d (.sc (.int .u64 (loOf (v)))))), (.box 6, some (.ptr 6 0)), (.slot 2, some (.ptr 2 0)), (.cell 2 0, some (.d (.sc (.int .i64 0)))), (.cell 2 1, some (.d (.sc (.int .u64 0)))), (.cell 2 2, some (.d (.sc (.int .u64 0)))), (.box 2, some (.ptr 2 0))]) (fun v : Nat => v < 2 ^ 128) 2 (fun rest => ?_) ?_
    · refine hits_loop (fun x : Nat × Nat => [(.slot 0, some (.d (.sc (.string s)))), (.slot 5, some (.d (.sc (.int .i64 (k : Int))))), (.slot 7, some (.d (.sc (.int .i64 (x.1 : Int))))), (.slot 6, some (.ptr 6 0)), (.cell 6 0, some (.d (.sc (.int .i64 (w : Int))))), (.cell 6 1, some (.d (.sc (.int .u64 (hiOf (x.2)))))), (.cell 6 2, some (.d (.sc (.int .u64 (loOf (x.2)))))), (.box 6, some (.ptr 6 0)), (.slot 2, some (.ptr 2 0)), (.cell 2 0, some (.d (.sc (.int .i64 0)))), (.cell 2 1, some (.d (.sc (.int .u64 0)))), (.cell 2 2, some (.d (.sc (.int .u64 0)))), (.box 2, some (.ptr 2 0))]) (fun x : Nat × Nat => x.1 ≤ k + 34 ∧ x.2 < 2 ^ 128) (fun x : Nat × Nat => k + 34 - x.1) (k + 1, 0) ⟨by show k + 1 ≤ k + 34; omega, by show 0 < 2 ^ 128; decide⟩ ⟨rfl, rfl, rfl, rfl, rfl, congrArg (fun z : Int => some (V.d (.sc (.int .u64 z)))) (by simp [hiOf] : (0 : Int) = hiOf 0), congrArg (fun z : Int => some (V.d (.sc (.int .u64 z)))) (by simp [loOf] : (0 : Int) = loOf 0), rfl, rfl, rfl, rfl, rfl, rfl, trivial⟩ rfl ?_
      intro x hx
      obtain ⟨i, v⟩ := x
      obtain ⟨hi, hv⟩ := hx
      simp only at hi hv
      change Hits _ [(.slot 0, some (.d (.sc (.string s)))), (.slot 5, some (.d (.sc (.int .i64 (k : Int))))), (.slot 7, some (.d (.sc (.int .i64 (i : Int))))), (.slot 6, some (.ptr 6 0)), (.cell 6 0, some (.d (.sc (.int .i64 (w : Int))))), (.cell 6 1, some (.d (.sc (.int .u64 (hiOf (v)))))), (.cell 6 2, some (.d (.sc (.int .u64 (loOf (v)))))), (.box 6, some (.ptr 6 0)), (.slot 2, some (.ptr 2 0)), (.cell 2 0, some (.d (.sc (.int .i64 0)))), (.cell 2 1, some (.d (.sc (.int .u64 0)))), (.cell 2 2, some (.d (.sc (.int .u64 0)))), (.box 2, some (.ptr 2 0))] _
      refine hits_seq ?_
      refine hits_seq ?_
      by_cases b1 : i < s.size
      · by_cases b2 : i < k + 34
        · obtain ⟨c, hat⟩ : ∃ c, s.data.toList[i]? = some c := ⟨_, List.getElem?_eq_getElem (by simpa using b1)⟩
          have hc : c.toNat < 256 := c.toNat_lt
          refine hits_region ?_
          refine sq (f_move rfl (lt rfl)) rfl rfl ?_
          refine sq (f_move rfl (lt rfl)) rfl rfl ?_
          refine sq (f_lenStr rfl un9 (lt rfl)) rfl rfl ?_
          refine sq (f_bin rfl rfl (bT (decide_eq_true (by omega))) (lt rfl)) rfl rfl ?_
          refine sq (f_move rfl (lt rfl)) rfl rfl ?_
          refine sq_yes (f_move rfl (lt rfl)) rfl rfl rfl rfl (lt rfl) ?_
          refine sq_yes (f_move rfl (lt rfl)) rfl rfl rfl rfl (lt rfl) ?_
          refine sq_yes (f_bin rfl rfl (iT (((IntWalk.i64_in _ (by omega)).trans (by omega) : _ = ((k + 34 : Nat) : Int)))) (lt rfl)) rfl rfl rfl rfl (lt rfl) ?_
          refine sq_yes (f_bin rfl rfl (bT (decide_eq_true (by omega))) (lt rfl)) rfl rfl rfl rfl (lt rfl) ?_
          refine sq (f_pick rfl rfl (lt rfl)) rfl rfl ?_
          refine hits_nil ?_
          refine to_next ?_
          refine hits_cond rfl (fun c1 => ?_) (fun c1 => absurd c1 Bool.false_ne_true.symm)
          refine hits_skip ?_
          refine to_next ?_
          refine hits_seq ?_
          refine hits_block ?_
          refine hits_seq ?_
          refine hits_region ?_
          refine sq (f_move rfl (lt rfl)) rfl rfl ?_
          refine sq (f_move rfl (lt rfl)) rfl rfl ?_
          refine sq (f_idxS rfl rfl un9 hat (lt rfl)) rfl rfl ?_
          refine sq (f_call en251 rfl (rdigit_c hc) (lt rfl)) rfl rfl ?_
          refine sq (f_assign rfl (lt rfl)) rfl rfl ?_
          refine hits_nil ?_
          refine to_next ?_
          refine hits_seq ?_
          refine hits_seq ?_
          by_cases hd : dgI c.toNat < 0
          · refine hits_region ?_
            refine sq (f_move rfl (lt rfl)) rfl rfl ?_
            refine sq (f_bin rfl rfl (bT (decide_eq_true hd)) (lt rfl)) rfl rfl ?_
            refine hits_nil ?_
            refine to_next ?_
            refine hits_cond rfl (fun c2 => ?_) (fun c2 => absurd c2 Bool.false_ne_true.symm)
            refine hits_seq ?_
            refine hits_region ?_
            refine sq (f_build bu24 rfl rfl (lt rfl)) rfl rfl ?_
            refine sq (f_store kd24 rfl rfl rfl rfl rfl) rfl rfl ?_
            refine sq (f_assign rfl (lt rfl)) rfl rfl ?_
            refine hits_nil ?_
            refine to_next ?_
            refine hits_ret ?_
            refine to_ret ?_
            refine in_ret ?_
            refine to_ret ?_
            refine to_ret ?_
            refine in_ret ?_
            refine to_ret ?_
            exact hits_done (.inl rfl) rfl rfl rfl
          · obtain ⟨d, hde, hd16⟩ := dgI_nat hd
            rw [hde]
            refine hits_region ?_
            refine sq (f_move rfl (lt rfl)) rfl rfl ?_
            refine sq (f_bin rfl rfl (bT (decide_eq_false (by omega))) (lt rfl)) rfl rfl ?_
            refine hits_nil ?_
            refine to_next ?_
            refine hits_cond rfl (fun c2 => absurd c2 Bool.false_ne_true) (fun c2 => ?_)
            refine hits_skip ?_
            refine to_next ?_
            refine hits_seq ?_
            refine hits_region ?_
            refine sq (f_fieldAddr rfl kf24_1 rfl (lt rfl)) rfl rfl ?_
            refine sq (f_load kd22 rfl rfl (lt rfl)) rfl rfl ?_
            refine sq (f_shlI rfl rfl (by decide) (sh4 (hi_lt hv)) (lt rfl)) rfl rfl ?_
            refine sq (f_fieldAddr rfl kf24_2 rfl (lt rfl)) rfl rfl ?_
            refine sq (f_load kd22 rfl rfl (lt rfl)) rfl rfl ?_
            refine sq (f_shrI rfl rfl (by decide) (sh60 (lo_lt v)) (lt rfl)) rfl rfl ?_
            refine sq (f_bin rfl rfl (iT (next_hi (d := d) hv hd16)) (lt rfl)) rfl rfl ?_
            refine sq (f_fieldAddr rfl kf24_1 rfl (lt rfl)) rfl rfl ?_
            refine sq (f_store kd22 rfl rfl rfl rfl rfl) rfl rfl ?_
            refine hits_nil ?_
            refine to_next ?_
            refine hits_region ?_
            refine sq (f_fieldAddr rfl kf24_2 rfl (lt rfl)) rfl rfl ?_
            refine sq (f_load kd22 rfl rfl (lt rfl)) rfl rfl ?_
            refine sq (f_shlI rfl rfl (by decide) (sh4 (lo_lt v)) (lt rfl)) rfl rfl ?_
            refine sq (f_move rfl (lt rfl)) rfl rfl ?_
            refine sq (f_convI rfl us3 un22 (u64_in (by omega)) (lt rfl)) rfl rfl ?_
            refine sq (f_bin rfl rfl (iT (next_lo hv hd16)) (lt rfl)) rfl rfl ?_
            refine sq (f_fieldAddr rfl kf24_2 rfl (lt rfl)) rfl rfl ?_
            refine sq (f_store kd22 rfl rfl rfl rfl rfl) rfl rfl ?_
            refine hits_nil ?_
            refine in_next ?_
            refine to_next ?_
            refine hits_region ?_
            refine sq (f_move rfl (lt rfl)) rfl rfl ?_
            refine sq (f_bin rfl rfl (iT (((IntWalk.i64_in _ (by omega)).trans (by omega) : _ = ((i + 1 : Nat) : Int)))) (lt rfl)) rfl rfl ?_
            refine sq (f_assign rfl (lt rfl)) rfl rfl ?_
            refine hits_nil ?_
            refine to_next ?_
            exact round_end (i + 1, nextV v d) ⟨by show i + 1 ≤ k + 34; omega, nextV_lt v d⟩ (by show k + 34 - (i + 1) < k + 34 - i; omega) ⟨rfl, rfl, rfl, rfl, rfl, rfl, rfl, rfl, rfl, rfl, rfl, rfl, rfl, trivial⟩ rfl
        · refine hits_region ?_
          refine sq (f_move rfl (lt rfl)) rfl rfl ?_
          refine sq (f_move rfl (lt rfl)) rfl rfl ?_
          refine sq (f_lenStr rfl un9 (lt rfl)) rfl rfl ?_
          refine sq (f_bin rfl rfl (bT (decide_eq_true (by omega))) (lt rfl)) rfl rfl ?_
          refine sq (f_move rfl (lt rfl)) rfl rfl ?_
          refine sq_yes (f_move rfl (lt rfl)) rfl rfl rfl rfl (lt rfl) ?_
          refine sq_yes (f_move rfl (lt rfl)) rfl rfl rfl rfl (lt rfl) ?_
          refine sq_yes (f_bin rfl rfl (iT (((IntWalk.i64_in _ (by omega)).trans (by omega) : _ = ((k + 34 : Nat) : Int)))) (lt rfl)) rfl rfl rfl rfl (lt rfl) ?_
          refine sq_yes (f_bin rfl rfl (bT (decide_eq_false (by omega))) (lt rfl)) rfl rfl rfl rfl (lt rfl) ?_
          refine sq (f_pick rfl rfl (lt rfl)) rfl rfl ?_
          refine hits_nil ?_
          refine to_next ?_
          refine hits_cond rfl (fun c1 => absurd c1 Bool.false_ne_true) (fun c1 => ?_)
          refine hits_exit ?_
          refine to_exit ?_
          refine to_exit ?_
          exact hits_out rest v hv ⟨rfl, rfl, rfl, rfl, rfl, rfl, rfl, rfl, rfl, rfl, rfl, trivial⟩ rfl
      · refine hits_region ?_
        refine sq (f_move rfl (lt rfl)) rfl rfl ?_
        refine sq (f_move rfl (lt rfl)) rfl rfl ?_
        refine sq (f_lenStr rfl un9 (lt rfl)) rfl rfl ?_
        refine sq (f_bin rfl rfl (bT (decide_eq_false (by omega))) (lt rfl)) rfl rfl ?_
        refine sq (f_move rfl (lt rfl)) rfl rfl ?_
        refine sq_no rfl rfl rfl rfl rfl (lt rfl) (lt rfl) ?_
        refine sq_no rfl rfl rfl rfl rfl (lt rfl) (lt rfl) ?_
        refine sq_no rfl rfl rfl rfl rfl (lt rfl) (lt rfl) ?_
        refine sq_no rfl rfl rfl rfl rfl (lt rfl) (lt rfl) ?_
        refine sq (f_pick rfl rfl (lt rfl)) rfl rfl ?_
        refine hits_nil ?_
        refine to_next ?_
        refine hits_cond rfl (fun c1 => absurd c1 Bool.false_ne_true) (fun c1 => ?_)
        refine hits_exit ?_
        refine to_exit ?_
        refine to_exit ?_
        exact hits_out rest v hv ⟨rfl, rfl, rfl, rfl, rfl, rfl, rfl, rfl, rfl, rfl, rfl, trivial⟩ rfl
    · intro v hv
      refine in_hit rfl ?_
      refine to_next ?_
      refine hits_seq ?_
      obtain ⟨t, e, hT, hE⟩ := rtext_any w v hv
      · rcases hE with rfl | ⟨rfl, e1, e2, e3, rfl⟩
        · refine hits_region ?_
          refine sq (f_load kd24 rfl rfl (lt rfl)) rfl rfl ?_
          refine sq (f_call en252 rfl hT (lt rfl)) rfl rfl ?_
          refine sq (f_move rfl (lt rfl)) rfl rfl ?_
          refine sq (f_extract rfl rfl (lt rfl)) rfl rfl ?_
          refine sq (f_extract rfl rfl (lt rfl)) rfl rfl ?_
          refine sq (f_assign rfl (lt rfl)) rfl rfl ?_
          refine sq (f_assign rfl (lt rfl)) rfl rfl ?_
          refine hits_nil ?_
          refine to_next ?_
          refine hits_seq ?_
          refine hits_seq ?_
          refine hits_region ?_
          refine sq (f_move rfl (lt rfl)) rfl rfl ?_
          refine sq (f_bin rfl rfl (bT (b' := true) rfl) (lt rfl)) rfl rfl ?_
          refine sq (f_move rfl (lt rfl)) rfl rfl ?_
          refine sq_no rfl rfl rfl rfl rfl (lt rfl) (lt rfl) ?_
          refine sq_no rfl rfl rfl rfl rfl (lt rfl) (lt rfl) ?_
          refine sq_no rfl rfl rfl rfl rfl (lt rfl) (lt rfl) ?_
          refine sq (f_pick rfl rfl (lt rfl)) rfl rfl ?_
          refine hits_nil ?_
          refine to_next ?_
          refine hits_cond rfl (fun c3 => ?_) (fun c3 => absurd c3 Bool.false_ne_true.symm)
          refine hits_seq ?_
          refine hits_region ?_
          refine sq (f_build bu24 rfl rfl (lt rfl)) rfl rfl ?_
          refine sq (f_store kd24 rfl rfl rfl rfl rfl) rfl rfl ?_
          refine sq (f_assign rfl (lt rfl)) rfl rfl ?_
          refine hits_nil ?_
          refine to_next ?_
          refine hits_ret ?_
          refine to_ret ?_
          exact hits_done (.inl rfl) rfl rfl rfl
        · refine hits_region ?_
          refine sq (f_load kd24 rfl rfl (lt rfl)) rfl rfl ?_
          refine sq (f_call en252 rfl hT (lt rfl)) rfl rfl ?_
          refine sq (f_move rfl (lt rfl)) rfl rfl ?_
          refine sq (f_extract rfl rfl (lt rfl)) rfl rfl ?_
          refine sq (f_extract rfl rfl (lt rfl)) rfl rfl ?_
          refine sq (f_assign rfl (lt rfl)) rfl rfl ?_
          refine sq (f_assign rfl (lt rfl)) rfl rfl ?_
          refine hits_nil ?_
          refine to_next ?_
          refine hits_seq ?_
          refine hits_seq ?_
          refine hits_region ?_
          refine sq (f_move rfl (lt rfl)) rfl rfl ?_
          refine sq (f_bin rfl rfl (bT (b' := false) rfl) (lt rfl)) rfl rfl ?_
          refine sq (f_move rfl (lt rfl)) rfl rfl ?_
          refine sq_yes (f_move rfl (lt rfl)) rfl rfl rfl rfl (lt rfl) ?_
          refine sq_yes (f_move rfl (lt rfl)) rfl rfl rfl rfl (lt rfl) ?_
          refine sq_yes (f_bin rfl rfl (bT (str_ne (h w v e1 e2 e3))) (lt rfl)) rfl rfl rfl rfl (lt rfl) ?_
          refine sq (f_pick rfl rfl (lt rfl)) rfl rfl ?_
          refine hits_nil ?_
          refine to_next ?_
          refine hits_cond rfl (fun c3 => ?_) (fun c3 => absurd c3 Bool.false_ne_true.symm)
          refine hits_seq ?_
          refine hits_region ?_
          refine sq (f_build bu24 rfl rfl (lt rfl)) rfl rfl ?_
          refine sq (f_store kd24 rfl rfl rfl rfl rfl) rfl rfl ?_
          refine sq (f_assign rfl (lt rfl)) rfl rfl ?_
          refine hits_nil ?_
          refine to_next ?_
          refine hits_ret ?_
          refine to_ret ?_
          exact hits_done (.inl rfl) rfl rfl rfl

set_option maxRecDepth 100000 in
theorem rparse_yes (s : ByteArray) {D H : List UInt8} {w v : Nat} (hL : s.data.toList = D ++ 119 :: H) (hD : ∀ c ∈ D, 48 ≤ c.toNat ∧ c.toNat ≤ 57) (hD3 : D.length ≤ 3) (hw : wv D = w) (hH : ∀ c ∈ H, ¬ dgI c.toNat < 0) (hH33 : H.length ≤ 33) (hv : hv16 H = v) (h0 : 1 ≤ w) (h1 : w ≤ 128) (h2 : v < 2 ^ w) (ht : rtextB w v = s) : CallsP Tryz.prog Lw 227 [.sc (.string s)] (.tup [bitD w v, .sc (.int .i64 0)]) := by
  have hsz : s.size = D.length + 1 + H.length := by have := congrArg List.length hL; simp at this; omega
  have hv' := lt128 h1 h2
  refine callsP_of gs_lw Tryz.func227 rfl Tryz.ntmps227 rfl fun w0 S0 stab => ?_
  refine hits_seq ?_
  refine hits_region ?_
  refine sq (f_alloc zc24 (lt rfl)) rfl rfl ?_
  refine sq (f_assign rfl (lt rfl)) rfl rfl ?_
  refine hits_nil ?_
  refine to_next ?_
  refine hits_seq ?_
  refine hits_region ?_
  refine sq (f_assign rfl (lt rfl)) rfl rfl ?_
  refine hits_nil ?_
  refine to_next ?_
  refine hits_seq ?_
  refine hits_region ?_
  refine sq (f_assign rfl (lt rfl)) rfl rfl ?_
  refine hits_nil ?_
  refine to_next ?_
  refine hits_seq ?_
  refine hits_block ?_
  refine hits_via (fun _ : Unit => [(.slot 0, some (.d (.sc (.string s)))), (.slot 4, some (.d (.sc (.int .i64 (w : Int))))), (.slot 5, some (.d (.sc (.int .i64 (D.length : Int))))), (.slot 2, some (.ptr 2 0)), (.cell 2 0, some (.d (.sc (.int .i64 0)))), (.cell 2 1, some (.d (.sc (.int .u64 0)))), (.cell 2 2, some (.d (.sc (.int .u64 0)))), (.box 2, some (.ptr 2 0))]) (fun _ : Unit => True) 0 (fun rest => ?_) ?_
  · refine hits_loop (fun k : Nat => [(.slot 0, some (.d (.sc (.string s)))), (.slot 4, some (.d (.sc (.int .i64 (wv (D.take k) : Int))))), (.slot 5, some (.d (.sc (.int .i64 (k : Int))))), (.slot 2, some (.ptr 2 0)), (.cell 2 0, some (.d (.sc (.int .i64 0)))), (.cell 2 1, some (.d (.sc (.int .u64 0)))), (.cell 2 2, some (.d (.sc (.int .u64 0)))), (.box 2, some (.ptr 2 0))]) (fun k : Nat => k ≤ D.length) (fun k : Nat => D.length - k) 0 (Nat.zero_le _) ⟨rfl, congrArg (fun z : Nat => some (V.d (.sc (.int .i64 (z : Int))))) (by simp [wv] : 0 = wv (D.take 0)), rfl, rfl, rfl, rfl, rfl, rfl, trivial⟩ rfl ?_
    intro k hk
    refine hits_seq ?_
    refine hits_seq ?_
    by_cases a1 : k < D.length
    · obtain ⟨c, hc0⟩ : ∃ c, D[k]? = some c := ⟨_, List.getElem?_eq_getElem a1⟩
      have hat := at_D hL hc0
      obtain ⟨c1, c2⟩ := hD c (List.mem_of_getElem? hc0)
      have hc : c.toNat < 256 := c.toNat_lt
      have hle := wv_take D (k + 1)
      have hle0 := wv_take D k
      have hsn : wv (D.take (k + 1)) = 10 * wv (D.take k) + (c.toNat - 48) := by rw [take_snoc' hc0, wv_snoc]
      refine hits_region ?_
      refine sq (f_move rfl (lt rfl)) rfl rfl ?_
      refine sq (f_move rfl (lt rfl)) rfl rfl ?_
      refine sq (f_lenStr rfl un9 (lt rfl)) rfl rfl ?_
      refine sq (f_bin rfl rfl (bT (decide_eq_true (by omega))) (lt rfl)) rfl rfl ?_
      refine sq (f_move rfl (lt rfl)) rfl rfl ?_
      refine sq_yes (f_move rfl (lt rfl)) rfl rfl rfl rfl (lt rfl) ?_
      refine sq_yes (f_bin rfl rfl (bT (decide_eq_true (by omega))) (lt rfl)) rfl rfl rfl rfl (lt rfl) ?_
      refine sq (f_pick rfl rfl (lt rfl)) rfl rfl ?_
      refine sq (f_move rfl (lt rfl)) rfl rfl ?_
      refine sq_yes (f_move rfl (lt rfl)) rfl rfl rfl rfl (lt rfl) ?_
      refine sq_yes (f_move rfl (lt rfl)) rfl rfl rfl rfl (lt rfl) ?_
      refine sq_yes (f_idxS rfl rfl un9 hat (lt rfl)) rfl rfl rfl rfl (lt rfl) ?_
      refine sq_yes (f_bin rfl rfl (bT (decide_eq_true (by omega))) (lt rfl)) rfl rfl rfl rfl (lt rfl) ?_
      refine sq (f_pick rfl rfl (lt rfl)) rfl rfl ?_
      refine sq (f_move rfl (lt rfl)) rfl rfl ?_
      refine sq_yes (f_move rfl (lt rfl)) rfl rfl rfl rfl (lt rfl) ?_
      refine sq_yes (f_move rfl (lt rfl)) rfl rfl rfl rfl (lt rfl) ?_
      refine sq_yes (f_idxS rfl rfl un9 hat (lt rfl)) rfl rfl rfl rfl (lt rfl) ?_
      refine sq_yes (f_bin rfl rfl (bT (decide_eq_true (by omega))) (lt rfl)) rfl rfl rfl rfl (lt rfl) ?_
      refine sq (f_pick rfl rfl (lt rfl)) rfl rfl ?_
      refine hits_nil ?_
      refine to_next ?_
      refine hits_cond rfl (fun c0 => ?_) (fun c0 => absurd c0 Bool.false_ne_true.symm)
      refine hits_skip ?_
      refine to_next ?_
      refine hits_block ?_
      refine hits_seq ?_
      refine hits_region ?_
      refine sq (f_move rfl (lt rfl)) rfl rfl ?_
      refine sq (f_bin rfl rfl (iT (((IntWalk.i64_in _ (by omega)).trans (by omega) : _ = ((10 * wv (D.take k) : Nat) : Int)))) (lt rfl)) rfl rfl ?_
      refine sq (f_move rfl (lt rfl)) rfl rfl ?_
      refine sq (f_move rfl (lt rfl)) rfl rfl ?_
      refine sq (f_idxS rfl rfl un9 hat (lt rfl)) rfl rfl ?_
      refine sq (f_bin rfl rfl (iT ((u8_sub hc c1 : _ = ((c.toNat - 48 : Nat) : Int)))) (lt rfl)) rfl rfl ?_
      refine sq (f_convI rfl us5 un3 (IntWalk.i64_in _ (by omega)) (lt rfl)) rfl rfl ?_
      refine sq (f_bin rfl rfl (iT (((IntWalk.i64_in _ (by omega)).trans (by rw [hsn]; omega) : _ = (wv (D.take (k + 1)) : Int)))) (lt rfl)) rfl rfl ?_
      refine sq (f_assign rfl (lt rfl)) rfl rfl ?_
      refine hits_nil ?_
      refine to_next ?_
      refine hits_region ?_
      refine sq (f_move rfl (lt rfl)) rfl rfl ?_
      refine sq (f_bin rfl rfl (iT (((IntWalk.i64_in _ (by omega)).trans (by omega) : _ = ((k + 1 : Nat) : Int)))) (lt rfl)) rfl rfl ?_
      refine sq (f_assign rfl (lt rfl)) rfl rfl ?_
      refine hits_nil ?_
      refine in_next ?_
      refine to_next ?_
      exact round_end (k + 1) (by omega) (by omega) ⟨rfl, rfl, rfl, rfl, rfl, rfl, rfl, rfl, trivial⟩ rfl
    · obtain rfl : k = D.length := by omega
      have hwk : wv (D.take D.length) = w := by rw [List.take_length, hw]
      have hat := at_w hL
      by_cases a2 : D.length < 3
      · refine hits_region ?_
        refine sq (f_move rfl (lt rfl)) rfl rfl ?_
        refine sq (f_move rfl (lt rfl)) rfl rfl ?_
        refine sq (f_lenStr rfl un9 (lt rfl)) rfl rfl ?_
        refine sq (f_bin rfl rfl (bT (decide_eq_true (by omega))) (lt rfl)) rfl rfl ?_
        refine sq (f_move rfl (lt rfl)) rfl rfl ?_
        refine sq_yes (f_move rfl (lt rfl)) rfl rfl rfl rfl (lt rfl) ?_
        refine sq_yes (f_bin rfl rfl (bT (decide_eq_true (by omega))) (lt rfl)) rfl rfl rfl rfl (lt rfl) ?_
        refine sq (f_pick rfl rfl (lt rfl)) rfl rfl ?_
        refine sq (f_move rfl (lt rfl)) rfl rfl ?_
        refine sq_yes (f_move rfl (lt rfl)) rfl rfl rfl rfl (lt rfl) ?_
        refine sq_yes (f_move rfl (lt rfl)) rfl rfl rfl rfl (lt rfl) ?_
        refine sq_yes (f_idxS rfl rfl un9 hat (lt rfl)) rfl rfl rfl rfl (lt rfl) ?_
        refine sq_yes (f_bin rfl rfl (bT (decide_eq_true (by decide))) (lt rfl)) rfl rfl rfl rfl (lt rfl) ?_
        refine sq (f_pick rfl rfl (lt rfl)) rfl rfl ?_
        refine sq (f_move rfl (lt rfl)) rfl rfl ?_
        refine sq_yes (f_move rfl (lt rfl)) rfl rfl rfl rfl (lt rfl) ?_
        refine sq_yes (f_move rfl (lt rfl)) rfl rfl rfl rfl (lt rfl) ?_
        refine sq_yes (f_idxS rfl rfl un9 hat (lt rfl)) rfl rfl rfl rfl (lt rfl) ?_
        refine sq_yes (f_bin rfl rfl (bT (decide_eq_false (by decide))) (lt rfl)) rfl rfl rfl rfl (lt rfl) ?_
        refine sq (f_pick rfl rfl (lt rfl)) rfl rfl ?_
        refine hits_nil ?_
        refine to_next ?_
        refine hits_cond rfl (fun c0 => absurd c0 Bool.false_ne_true) (fun c0 => ?_)
        refine hits_exit ?_
        refine to_exit ?_
        refine to_exit ?_
        exact hits_out rest () trivial ⟨rfl, congrArg (fun z : Nat => some (V.d (.sc (.int .i64 (z : Int))))) hwk, rfl, rfl, rfl, rfl, rfl, rfl, trivial⟩ rfl
      · refine hits_region ?_
        refine sq (f_move rfl (lt rfl)) rfl rfl ?_
        refine sq (f_move rfl (lt rfl)) rfl rfl ?_
        refine sq (f_lenStr rfl un9 (lt rfl)) rfl rfl ?_
        refine sq (f_bin rfl rfl (bT (decide_eq_true (by omega))) (lt rfl)) rfl rfl ?_
        refine sq (f_move rfl (lt rfl)) rfl rfl ?_
        refine sq_yes (f_move rfl (lt rfl)) rfl rfl rfl rfl (lt rfl) ?_
        refine sq_yes (f_bin rfl rfl (bT (decide_eq_false (by omega))) (lt rfl)) rfl rfl rfl rfl (lt rfl) ?_
        refine sq (f_pick rfl rfl (lt rfl)) rfl rfl ?_
        refine sq (f_move rfl (lt rfl)) rfl rfl ?_
        refine sq_no rfl rfl rfl rfl rfl (lt rfl) (lt rfl) ?_
        refine sq_no rfl rfl rfl rfl rfl (lt rfl) (lt rfl) ?_
        refine sq_no rfl rfl rfl rfl rfl (lt rfl) (lt rfl) ?_
        refine sq_no rfl rfl rfl rfl rfl (lt rfl) (lt rfl) ?_
        refine sq (f_pick rfl rfl (lt rfl)) rfl rfl ?_
        refine sq (f_move rfl (lt rfl)) rfl rfl ?_
        refine sq_no rfl rfl rfl rfl rfl (lt rfl) (lt rfl) ?_
        refine sq_no rfl rfl rfl rfl rfl (lt rfl) (lt rfl) ?_
        refine sq_no rfl rfl rfl rfl rfl (lt rfl) (lt rfl) ?_
        refine sq_no rfl rfl rfl rfl rfl (lt rfl) (lt rfl) ?_
        refine sq (f_pick rfl rfl (lt rfl)) rfl rfl ?_
        refine hits_nil ?_
        refine to_next ?_
        refine hits_cond rfl (fun c0 => absurd c0 Bool.false_ne_true) (fun c0 => ?_)
        refine hits_exit ?_
        refine to_exit ?_
        refine to_exit ?_
        exact hits_out rest () trivial ⟨rfl, congrArg (fun z : Nat => some (V.d (.sc (.int .i64 (z : Int))))) hwk, rfl, rfl, rfl, rfl, rfl, rfl, trivial⟩ rfl
  · intro x hx
    refine in_hit rfl ?_
    refine to_next ?_
    refine hits_seq ?_
    refine hits_region ?_
    refine sq (f_move rfl (lt rfl)) rfl rfl ?_
    refine sq (f_build bu24 rfl rfl (lt rfl)) rfl rfl ?_
    refine sq (f_alloc zc24 (lt rfl)) rfl rfl ?_
    refine sq (f_store kd24 rfl rfl rfl rfl rfl) rfl rfl ?_
    refine hits_nil ?_
    refine to_next ?_
    refine hits_seq ?_
    refine hits_seq ?_
    refine hits_region ?_
    refine sq (f_move rfl (lt rfl)) rfl rfl ?_
    refine sq (f_bin rfl rfl (iT (((IntWalk.i64_in _ (by omega)).trans (by omega) : _ = ((D.length + 1 : Nat) : Int)))) (lt rfl)) rfl rfl ?_
    refine sq (f_assign rfl (lt rfl)) rfl rfl ?_
    refine hits_nil ?_
    refine to_next ?_
    refine hits_block ?_
    refine hits_via (fun _ : Unit => [(.slot 0, some (.d (.sc (.string s)))), (.slot 6, some (.ptr 6 0)), (.cell 6 0, some (.d (.sc (.int .i64 (w : Int))))), (.cell 6 1, some (.d (.sc (.int .u64 (hiOf (v)))))), (.cell 6 2, some (.d (.sc (.int .u64 (loOf (v)))))), (.box 6, some (.ptr 6 0)), (.slot 2, some (.ptr 2 0)), (.cell 2 0, some (.d (.sc (.int .i64 0)))), (.cell 2 1, some (.d (.sc (.int .u64 0)))), (.cell 2 2, some (.d (.sc (.int .u64 0)))), (.box 2, some (.ptr 2 0))]) (fun _ : Unit => True) 2 (fun rest => ?_) ?_
    · refine hits_loop (fun j : Nat => [(.slot 0, some (.d (.sc (.string s)))), (.slot 5, some (.d (.sc (.int .i64 (D.length : Int))))), (.slot 7, some (.d (.sc (.int .i64 (D.length + 1 + j : Int))))), (.slot 6, some (.ptr 6 0)), (.cell 6 0, some (.d (.sc (.int .i64 (w : Int))))), (.cell 6 1, some (.d (.sc (.int .u64 (hiOf ((hv16 (H.take j)))))))), (.cell 6 2, some (.d (.sc (.int .u64 (loOf ((hv16 (H.take j)))))))), (.box 6, some (.ptr 6 0)), (.slot 2, some (.ptr 2 0)), (.cell 2 0, some (.d (.sc (.int .i64 0)))), (.cell 2 1, some (.d (.sc (.int .u64 0)))), (.cell 2 2, some (.d (.sc (.int .u64 0)))), (.box 2, some (.ptr 2 0))]) (fun j : Nat => j ≤ H.length) (fun j : Nat => H.length - j) 0 (Nat.zero_le _) ⟨rfl, rfl, rfl, rfl, rfl, congrArg (fun z : Int => some (V.d (.sc (.int .u64 z)))) (by simp [hv16, hiOf]), congrArg (fun z : Int => some (V.d (.sc (.int .u64 z)))) (by simp [hv16, loOf]), rfl, rfl, rfl, rfl, rfl, rfl, trivial⟩ rfl ?_
      intro j hj
      have hvj : (hv16 (H.take j)) < 2 ^ 128 := Nat.lt_of_le_of_lt (hv_take H j) (by omega)
      refine hits_seq ?_
      refine hits_seq ?_
      by_cases b1 : j < H.length
      · obtain ⟨c, hc0⟩ : ∃ c, H[j]? = some c := ⟨_, List.getElem?_eq_getElem b1⟩
        have hat := at_H hL hc0
        have hc : c.toNat < 256 := c.toNat_lt
        obtain ⟨d, hde, hd16⟩ := dgI_nat (hH c (List.mem_of_getElem? hc0))
        have hdn := hH c (List.mem_of_getElem? hc0)
        have hnx : nextV (hv16 (H.take j)) d = hv16 (H.take (j + 1)) := by rw [take_snoc' hc0, hv_snoc, hde]; have := hv_take H (j + 1); rw [take_snoc' hc0, hv_snoc, hde] at this; simp only [Int.toNat_natCast] at this ⊢; exact Nat.mod_eq_of_lt (by omega)
        refine hits_region ?_
        refine sq (f_move rfl (lt rfl)) rfl rfl ?_
        refine sq (f_move rfl (lt rfl)) rfl rfl ?_
        refine sq (f_lenStr rfl un9 (lt rfl)) rfl rfl ?_
        refine sq (f_bin rfl rfl (bT (decide_eq_true (by omega))) (lt rfl)) rfl rfl ?_
        refine sq (f_move rfl (lt rfl)) rfl rfl ?_
        refine sq_yes (f_move rfl (lt rfl)) rfl rfl rfl rfl (lt rfl) ?_
        refine sq_yes (f_move rfl (lt rfl)) rfl rfl rfl rfl (lt rfl) ?_
        refine sq_yes (f_bin rfl rfl (iT (((IntWalk.i64_in _ (by omega)).trans (by omega) : _ = ((D.length + 34 : Nat) : Int)))) (lt rfl)) rfl rfl rfl rfl (lt rfl) ?_
        refine sq_yes (f_bin rfl rfl (bT (decide_eq_true (by omega))) (lt rfl)) rfl rfl rfl rfl (lt rfl) ?_
        refine sq (f_pick rfl rfl (lt rfl)) rfl rfl ?_
        refine hits_nil ?_
        refine to_next ?_
        refine hits_cond rfl (fun c1 => ?_) (fun c1 => absurd c1 Bool.false_ne_true.symm)
        refine hits_skip ?_
        refine to_next ?_
        refine hits_seq ?_
        refine hits_block ?_
        refine hits_seq ?_
        refine hits_region ?_
        refine sq (f_move rfl (lt rfl)) rfl rfl ?_
        refine sq (f_move rfl (lt rfl)) rfl rfl ?_
        refine sq (f_idxS rfl rfl un9 hat (lt rfl)) rfl rfl ?_
        refine sq (f_call en251 rfl (rdigit_c hc) (lt rfl)) rfl rfl ?_
        refine sq (f_assign rfl (lt rfl)) rfl rfl ?_
        refine hits_nil ?_
        refine to_next ?_
        refine hits_seq ?_
        refine hits_seq ?_
        refine hits_region ?_
        refine sq (f_move rfl (lt rfl)) rfl rfl ?_
        refine sq (f_bin rfl rfl (bT (decide_eq_false hdn)) (lt rfl)) rfl rfl ?_
        refine hits_nil ?_
        refine to_next ?_
        refine hits_cond rfl (fun c2 => absurd c2 Bool.false_ne_true) (fun c2 => ?_)
        refine hits_skip ?_
        refine to_next ?_
        refine hits_seq ?_
        rw [hde]
        refine hits_region ?_
        refine sq (f_fieldAddr rfl kf24_1 rfl (lt rfl)) rfl rfl ?_
        refine sq (f_load kd22 rfl rfl (lt rfl)) rfl rfl ?_
        refine sq (f_shlI rfl rfl (by decide) (sh4 (hi_lt hvj)) (lt rfl)) rfl rfl ?_
        refine sq (f_fieldAddr rfl kf24_2 rfl (lt rfl)) rfl rfl ?_
        refine sq (f_load kd22 rfl rfl (lt rfl)) rfl rfl ?_
        refine sq (f_shrI rfl rfl (by decide) (sh60 (lo_lt _)) (lt rfl)) rfl rfl ?_
        refine sq (f_bin rfl rfl (iT ((next_hi hvj hd16).trans (congrArg hiOf hnx))) (lt rfl)) rfl rfl ?_
        refine sq (f_fieldAddr rfl kf24_1 rfl (lt rfl)) rfl rfl ?_
        refine sq (f_store kd22 rfl rfl rfl rfl rfl) rfl rfl ?_
        refine hits_nil ?_
        refine to_next ?_
        refine hits_region ?_
        refine sq (f_fieldAddr rfl kf24_2 rfl (lt rfl)) rfl rfl ?_
        refine sq (f_load kd22 rfl rfl (lt rfl)) rfl rfl ?_
        refine sq (f_shlI rfl rfl (by decide) (sh4 (lo_lt _)) (lt rfl)) rfl rfl ?_
        refine sq (f_move rfl (lt rfl)) rfl rfl ?_
        refine sq (f_convI rfl us3 un22 (u64_in (by omega)) (lt rfl)) rfl rfl ?_
        refine sq (f_bin rfl rfl (iT ((next_lo hvj hd16).trans (congrArg loOf hnx))) (lt rfl)) rfl rfl ?_
        refine sq (f_fieldAddr rfl kf24_2 rfl (lt rfl)) rfl rfl ?_
        refine sq (f_store kd22 rfl rfl rfl rfl rfl) rfl rfl ?_
        refine hits_nil ?_
        refine in_next ?_
        refine to_next ?_
        refine hits_region ?_
        refine sq (f_move rfl (lt rfl)) rfl rfl ?_
        refine sq (f_bin rfl rfl (iT (((IntWalk.i64_in _ (by omega)).trans (by omega) : _ = ((D.length + 1 + (j + 1) : Nat) : Int)))) (lt rfl)) rfl rfl ?_
        refine sq (f_assign rfl (lt rfl)) rfl rfl ?_
        refine hits_nil ?_
        refine to_next ?_
        exact round_end (j + 1) (by omega) (by omega) ⟨rfl, rfl, rfl, rfl, rfl, rfl, rfl, rfl, rfl, rfl, rfl, rfl, rfl, trivial⟩ rfl
      · obtain rfl : j = H.length := by omega
        have hvk : hv16 (H.take H.length) = v := by rw [List.take_length, hv]
        refine hits_region ?_
        refine sq (f_move rfl (lt rfl)) rfl rfl ?_
        refine sq (f_move rfl (lt rfl)) rfl rfl ?_
        refine sq (f_lenStr rfl un9 (lt rfl)) rfl rfl ?_
        refine sq (f_bin rfl rfl (bT (decide_eq_false (by omega))) (lt rfl)) rfl rfl ?_
        refine sq (f_move rfl (lt rfl)) rfl rfl ?_
        refine sq_no rfl rfl rfl rfl rfl (lt rfl) (lt rfl) ?_
        refine sq_no rfl rfl rfl rfl rfl (lt rfl) (lt rfl) ?_
        refine sq_no rfl rfl rfl rfl rfl (lt rfl) (lt rfl) ?_
        refine sq_no rfl rfl rfl rfl rfl (lt rfl) (lt rfl) ?_
        refine sq (f_pick rfl rfl (lt rfl)) rfl rfl ?_
        refine hits_nil ?_
        refine to_next ?_
        refine hits_cond rfl (fun c1 => absurd c1 Bool.false_ne_true) (fun c1 => ?_)
        refine hits_exit ?_
        refine to_exit ?_
        refine to_exit ?_
        exact hits_out rest () trivial ⟨rfl, rfl, rfl, congrArg (fun z : Int => some (V.d (.sc (.int .u64 z)))) (congrArg hiOf hvk), congrArg (fun z : Int => some (V.d (.sc (.int .u64 z)))) (congrArg loOf hvk), rfl, rfl, rfl, rfl, rfl, rfl, trivial⟩ rfl
    · intro x hx
      refine in_hit rfl ?_
      refine to_next ?_
      refine hits_seq ?_
      refine hits_region ?_
      refine sq (f_load kd24 rfl rfl (lt rfl)) rfl rfl ?_
      refine sq (f_call en252 rfl (rtext_c h0 h1 h2) (lt rfl)) rfl rfl ?_
      refine sq (f_move rfl (lt rfl)) rfl rfl ?_
      refine sq (f_extract rfl rfl (lt rfl)) rfl rfl ?_
      refine sq (f_extract rfl rfl (lt rfl)) rfl rfl ?_
      refine sq (f_assign rfl (lt rfl)) rfl rfl ?_
      refine sq (f_assign rfl (lt rfl)) rfl rfl ?_
      refine hits_nil ?_
      refine to_next ?_
      refine hits_seq ?_
      refine hits_seq ?_
      refine hits_region ?_
      refine sq (f_move rfl (lt rfl)) rfl rfl ?_
      refine sq (f_bin rfl rfl (bT (b' := false) rfl) (lt rfl)) rfl rfl ?_
      refine sq (f_move rfl (lt rfl)) rfl rfl ?_
      refine sq_yes (f_move rfl (lt rfl)) rfl rfl rfl rfl (lt rfl) ?_
      refine sq_yes (f_move rfl (lt rfl)) rfl rfl rfl rfl (lt rfl) ?_
      refine sq_yes (f_bin rfl rfl (bT (str_ne0 ht)) (lt rfl)) rfl rfl rfl rfl (lt rfl) ?_
      refine sq (f_pick rfl rfl (lt rfl)) rfl rfl ?_
      refine hits_nil ?_
      refine to_next ?_
      refine hits_cond rfl (fun c3 => absurd c3 Bool.false_ne_true) (fun c3 => ?_)
      refine hits_skip ?_
      refine to_next ?_
      refine hits_seq ?_
      refine hits_region ?_
      refine sq (f_load kd24 rfl rfl (lt rfl)) rfl rfl ?_
      refine sq (f_store kd24 rfl rfl rfl rfl rfl) rfl rfl ?_
      refine sq (f_assign rfl (lt rfl)) rfl rfl ?_
      refine hits_nil ?_
      refine to_next ?_
      refine hits_ret ?_
      exact hits_done (.inl rfl) rfl rfl rfl

end Go.Proofs.YtcaedggggkchiaaGreatDoor.Ln
