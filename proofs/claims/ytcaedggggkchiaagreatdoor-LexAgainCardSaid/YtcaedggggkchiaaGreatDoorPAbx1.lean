/- The law LexAgain over data. -/
import Derived.Test.YtcaedggggkchiaaGreatDoorAbLaw7
namespace Go.Proofs.YtcaedggggkchiaaGreatDoor.Ln
open Go Go.RowKit Go.Ab Go.Proofs 
set_option linter.unusedVariables false
set_option linter.unusedSimpArgs false
theorem en22 : enters Tryz.prog 22 = true := by kernel_rfl
theorem sk25 : sk Tryz.prog 25 = some (5, 1, [.int .u8 0]) := by kernel_rfl
theorem apk25 : apk Tryz.prog 25 25 = some (5, 1, 1) := by kernel_rfl
theorem en23 : enters Tryz.prog 23 = true := by kernel_rfl

def setLn (k : Nat) (x : Wd) : Wd := { x with ln := k }
def restL (l : List Wd) (i : Nat) : List UInt8 := if i = 0 then glue (l.map told) else tailL ((l.drop i).map told)
theorem rest_first {l : List Wd} {x : Wd} (h : l[0]? = some x) : restL l 0 = told x ++ restL l 1 := by
  cases l with
  | nil => simp at h
  | cons y l =>
    simp at h; subst h
    rfl
theorem rest_more {l : List Wd} {i : Nat} {x : Wd} (h0 : 0 < i) (h : l[i]? = some x) : restL l i = 32 :: told x ++ restL l (i + 1) := by
  obtain ⟨h1, h2⟩ := List.getElem?_eq_some_iff.mp h
  unfold restL
  rw [if_neg (by omega), if_neg (by omega), List.drop_eq_getElem_cons h1, h2]
  rfl
theorem rest_end {l : List Wd} {i : Nat} (h : i = l.length) : restL l i = [] := by
  subst h
  unfold restL
  split
  · rename_i h0
    obtain rfl := List.length_eq_zero_iff.mp h0
    rfl
  · rw [List.drop_length]; rfl
theorem told_good {x : Wd} (hg : Good { x with ln := 0 }) : CallsP Tryz.prog Lw 23 [wordD x] (.sc (.string (B (told x)))) := by
  refine told_c x (fun h => ?_) (fun h => ?_)
  · rcases hg.2 with q | q | q | q
    · have := q.1; simp only at this; omega
    · have := q.2.2.2.2; simp only at this; omega
    · have := q.1; simp only at this; omega
    · have := q.1; simp only at this; omega
  · rcases hg.2 with q | q | q | q
    · have := q.1; simp only at this; omega
    · have := q.1; simp only at this; omega
    · exact ⟨q.2.2.1, q.2.2.2.1, q.2.2.2.2.1, q.2.2.2.2.2⟩
    · have := q.1; simp only at this; omega
theorem W_told : ∀ (f : Nat) (s : List UInt8) (n : Nat) (l : List Wd), s.length < f → W s n = .inr l → ∀ x ∈ l, (told x).length ≤ s.length
  | f + 1, s, n, l, hf, h => by
    have hl := skip_le false s n
    rw [W_eq] at h
    split at h
    · cases h; simp
    · rename_i c r hs
      rw [hs] at hl
      split at h
      · cases h
      · rename_i x t hw
        have hlt := word_lt hw
        obtain ⟨ht, _, _⟩ := word_told hw
        have hln := congrArg List.length ht
        rw [List.length_append] at hln
        split at h
        · cases h
        · rename_i l' hl'
          cases h
          intro y hy
          rcases List.mem_cons.mp hy with rfl | hy
          · rw [told_ln]; omega
          · have := W_told f t _ l' (by omega) hl' y hy; omega
theorem bytes_one (l : List UInt8) : ((flat (bytesL (B l))).all fun q => (V.d q).one) = true := by
  rw [bytesL_B]
  rw [List.all_eq_true]
  intro q hq
  unfold flat bD at hq
  rw [List.mem_flatMap] at hq
  obtain ⟨d, hd, hq⟩ := hq
  obtain ⟨c, _, rfl⟩ := List.mem_map.mp hd
  simp [D.cells] at hq
  subst hq; rfl

set_option maxRecDepth 100000 in
theorem again_no (s : ByteArray) {n e : Int} (he : (e != 0) = true) (hw : CallsP Tryz.prog Lw 18 [.sc (.string s)] (.tup [.list 6 [], .sc (.int .i64 n), .sc (.int .i64 e)])) : CallsP Tryz.prog Lw 5 [.sc (.string s)] (.sc (.bool true)) := by
  refine callsP_of gs_lw Tryz.func5 rfl Tryz.ntmps5 rfl fun w0 S0 stab => ?_
  refine hits_seq ?_
  refine hits_region ?_
  refine sq (f_assign rfl (lt rfl)) rfl rfl ?_
  refine hits_nil ?_
  refine to_next ?_
  refine hits_seq ?_
  refine hits_region ?_
  refine sq (f_move rfl (lt rfl)) rfl rfl ?_
  refine sq (f_call en18 rfl hw (lt rfl)) rfl rfl ?_
  refine sq (f_move rfl (lt rfl)) rfl rfl ?_
  refine sq (f_extract rfl rfl (lt rfl)) rfl rfl ?_
  refine sq (f_extract rfl rfl (lt rfl)) rfl rfl ?_
  refine sq (f_extract rfl rfl (lt rfl)) rfl rfl ?_
  refine sq (f_assign rfl (lt rfl)) rfl rfl ?_
  refine sq (f_assign rfl (lt rfl)) rfl rfl ?_
  refine sq (f_assign rfl (lt rfl)) rfl rfl ?_
  refine hits_nil ?_
  refine to_next ?_
  refine hits_seq ?_
  refine hits_seq ?_
  refine hits_region ?_
  refine sq (f_call en22 rfl alive_c (lt rfl)) rfl rfl ?_
  refine sq (f_un rfl rfl (lt rfl)) rfl rfl ?_
  refine sq (f_move rfl (lt rfl)) rfl rfl ?_
  refine sq_yes (f_move rfl (lt rfl)) rfl rfl rfl rfl (lt rfl) ?_
  refine sq_yes (f_bin rfl rfl (bT ((he : _ = true))) (lt rfl)) rfl rfl rfl rfl (lt rfl) ?_
  refine sq (f_pick rfl rfl (lt rfl)) rfl rfl ?_
  refine hits_nil ?_
  refine to_next ?_
  refine hits_cond rfl (fun c0 => ?_) (fun c0 => ?_)
  case refine_2 => exact absurd c0 Bool.false_ne_true.symm
  case refine_1 =>
    refine hits_seq ?_
    refine hits_region ?_
    refine sq (f_call en22 rfl alive_c (lt rfl)) rfl rfl ?_
    refine sq (f_move rfl (lt rfl)) rfl rfl ?_
    refine sq_yes (f_move rfl (lt rfl)) rfl rfl rfl rfl (lt rfl) ?_
    refine sq_yes (f_lenList rfl rfl un69 (lt rfl)) rfl rfl rfl rfl (lt rfl) ?_
    refine sq_yes (f_bin rfl rfl (bT (b' := true) rfl) (lt rfl)) rfl rfl rfl rfl (lt rfl) ?_
    refine sq (f_pick rfl rfl (lt rfl)) rfl rfl ?_
    refine sq (f_assign rfl (lt rfl)) rfl rfl ?_
    refine hits_nil ?_
    refine to_next ?_
    refine hits_ret ?_
    refine to_ret ?_
    exact hits_done (.inl rfl) rfl rfl rfl

set_option maxHeartbeats 4000000 in
set_option maxRecDepth 100000 in
theorem again_ok (s : List UInt8) (hs : s.length ≤ 65536) {l : List Wd} (hW : W s 0 = .inr l) : CallsP Tryz.prog Lw 5 [.sc (.string (B s))] (.sc (.bool true)) := by
  have hw := words_c s hs
  rw [hW] at hw
  have hrow := W_row (s.length + 1) s 0 l (Nat.lt_succ_self _) hW
  have hgood := row_good hrow
  obtain ⟨hlen, hlin, hmon⟩ := W_lines (s.length + 1) s 0 l (Nat.lt_succ_self _) hW
  have htl := W_told (s.length + 1) s 0 l (Nat.lt_succ_self _) hW
  have hll : (l.map wordD).length = l.length := List.length_map _
  have hl2 : ((l.map (setLn 0)).map wordD).length = l.length := by rw [List.length_map, List.length_map]
  refine callsP_of gs_lw Tryz.func5 rfl Tryz.ntmps5 rfl fun w0 S0 stab => ?_
  refine hits_seq ?_
  refine hits_region ?_
  refine sq (f_assign rfl (lt rfl)) rfl rfl ?_
  refine hits_nil ?_
  refine to_next ?_
  refine hits_seq ?_
  refine hits_region ?_
  refine sq (f_move rfl (lt rfl)) rfl rfl ?_
  refine sq (f_call en18 rfl hw (lt rfl)) rfl rfl ?_
  refine sq (f_move rfl (lt rfl)) rfl rfl ?_
  refine sq (f_extract rfl rfl (lt rfl)) rfl rfl ?_
  refine sq (f_extract rfl rfl (lt rfl)) rfl rfl ?_
  refine sq (f_extract rfl rfl (lt rfl)) rfl rfl ?_
  refine sq (f_assign rfl (lt rfl)) rfl rfl ?_
  refine sq (f_assign rfl (lt rfl)) rfl rfl ?_
  refine sq (f_assign rfl (lt rfl)) rfl rfl ?_
  refine hits_nil ?_
  refine to_next ?_
  refine hits_seq ?_
  refine hits_seq ?_
  refine hits_region ?_
  refine sq (f_call en22 rfl alive_c (lt rfl)) rfl rfl ?_
  refine sq (f_un rfl rfl (lt rfl)) rfl rfl ?_
  refine sq (f_move rfl (lt rfl)) rfl rfl ?_
  refine sq_yes (f_move rfl (lt rfl)) rfl rfl rfl rfl (lt rfl) ?_
  refine sq_yes (f_bin rfl rfl (bT (b' := false) rfl) (lt rfl)) rfl rfl rfl rfl (lt rfl) ?_
  refine sq (f_pick rfl rfl (lt rfl)) rfl rfl ?_
  refine hits_nil ?_
  refine to_next ?_
  refine hits_cond rfl (fun c0 => ?_) (fun c0 => ?_)
  case refine_1 => exact absurd c0 Bool.false_ne_true
  case refine_2 =>
    refine hits_skip ?_
    refine to_next ?_
    refine hits_seq ?_
    refine hits_region ?_
    refine sq (f_assign rfl (lt rfl)) rfl rfl ?_
    refine hits_nil ?_
    refine to_next ?_
    refine hits_seq ?_
    refine hits_seq ?_
    refine hits_region ?_
    refine sq (f_assign rfl (lt rfl)) rfl rfl ?_
    refine hits_nil ?_
    refine to_next ?_
    refine hits_block ?_
    refine hits_own 6 6 1 rfl ?_
    refine hits_loop (fun x : Nat × List UInt8 => [(.slot 3, some (.d (.list 6 (l.map wordD)))), (.slot 6, some (.own 6 1 (bD x.2))), (.tip 6, some (.ptr 6 0)), (.slot 7, some (.d (.sc (.int .i64 (x.1 : Int)))))]) (fun x : Nat × List UInt8 => x.1 ≤ l.length ∧ x.2.length ≤ 65536 ∧ x.2 ++ restL l x.1 = glue (l.map told)) (fun x : Nat × List UInt8 => l.length - x.1) (0, []) ⟨Nat.zero_le _, by simp, by simp [restL]⟩ ⟨rfl, rfl, rfl, rfl, trivial⟩ rfl ?_
    intro x hx
    obtain ⟨i, bs⟩ := x
    obtain ⟨hi1, hbs, hJ⟩ := hx
    change i ≤ l.length at hi1
    change bs.length ≤ 65536 at hbs
    change bs ++ restL l i = glue (l.map told) at hJ
    change Hits _ [(.slot 3, some (.d (.list 6 (l.map wordD)))), (.slot 6, some (.own 6 1 (bD bs))), (.tip 6, some (.ptr 6 0)), (.slot 7, some (.d (.sc (.int .i64 (i : Int)))))] _
    refine hits_seq ?_
    refine hits_seq ?_
    by_cases hi : i < l.length
    · obtain ⟨x, hx⟩ : ∃ x, l[i]? = some x := ⟨_, List.getElem?_eq_getElem hi⟩
      have hmem := List.mem_of_getElem? hx
      obtain ⟨hg, hne⟩ := hgood x hmem
      have hto := told_good hg
      have htx := htl x hmem
      by_cases hi0 : 0 < i
      · obtain ⟨y, hy⟩ : ∃ y, l[i - 1]? = some y := ⟨_, List.getElem?_eq_getElem (by omega)⟩
        have hyx := hmon (i - 1) y x hy (by rw [Nat.sub_add_cancel hi0]; exact hx)
        refine hits_region ?_
        refine sq (f_move rfl (lt rfl)) rfl rfl ?_
        refine sq (f_move rfl (lt rfl)) rfl rfl ?_
        refine sq (f_lenList rfl rfl un69 (lt rfl)) rfl rfl ?_
        refine sq (f_bin rfl rfl (bT (decide_eq_true (by omega))) (lt rfl)) rfl rfl ?_
        refine hits_nil ?_
        refine to_next ?_
        refine hits_cond rfl (fun c1 => ?_) (fun c1 => ?_)
        case refine_2 => exact absurd c1 Bool.false_ne_true.symm
        case refine_1 =>
          refine hits_skip ?_
          refine to_next ?_
          refine hits_seq ?_
          refine hits_block ?_
          refine hits_seq ?_
          refine hits_seq ?_
          refine hits_region ?_
          refine sq (f_move rfl (lt rfl)) rfl rfl ?_
          refine sq (f_bin rfl rfl (bT (decide_eq_true (by omega))) (lt rfl)) rfl rfl ?_
          refine hits_nil ?_
          refine to_next ?_
          refine hits_cond rfl (fun c2 => ?_) (fun c2 => ?_)
          case refine_2 => exact absurd c2 Bool.false_ne_true.symm
          case refine_1 =>
            refine hits_seq ?_
            refine hits_region ?_
            refine sq (f_move rfl (lt rfl)) rfl rfl ?_
            refine sq (f_buildSlice sk25 rfl rfl rfl rfl rfl rfl (by decide) (by decide) (lt rfl)) rfl rfl ?_
            refine sq_append rfl rfl rfl rfl apk25 (by simp only [bD_length, bytesL_B, List.length_append, snds, List.length_cons, List.length_nil]; omega) (by simp only [bD_length, bytesL_B, List.length_append, snds, List.length_cons, List.length_nil]; omega) rfl (lt rfl) ?_
            refine sq (f_assign rfl (lt rfl)) rfl rfl ?_
            refine hits_nil ?_
            refine to_next ?_
            refine hits_seq ?_
            refine hits_drawn mixed ?_
            refine dq (f_move rfl (lt rfl)) rfl rfl ?_
            refine dq (f_move rfl (lt rfl)) rfl rfl ?_
            refine dq (f_idxList rfl rfl rfl un69 kd77 (Int.natCast_nonneg _) (wordD_at hx) (lt rfl)) rfl rfl ?_
            refine dq (f_fieldAddr rfl kf77_3 rfl (lt rfl)) rfl rfl ?_
            refine dq (f_load kd3 rfl rfl (lt rfl)) rfl rfl ?_
            refine dq (f_move rfl (lt rfl)) rfl rfl ?_
            refine dq (f_move rfl (lt rfl)) rfl rfl ?_
            refine dq (f_bin rfl rfl (iT (((IntWalk.i64_in _ (by omega)).trans (by omega) : _ = ((i - 1 : Nat) : Int)))) (lt rfl)) rfl rfl ?_
            refine dq (f_idxList rfl rfl rfl un69 kd77 (Int.natCast_nonneg _) (wordD_at hy) (lt rfl)) rfl rfl ?_
            refine dq (f_fieldAddr rfl kf77_3 rfl (lt rfl)) rfl rfl ?_
            refine dq (f_load kd3 rfl rfl (lt rfl)) rfl rfl ?_
            refine dq (f_bin rfl rfl (bT (decide_eq_false (by omega))) (lt rfl)) rfl rfl ?_
            refine dq_nil rfl ?_
            refine to_next ?_
            refine hits_cond rfl (fun c3 => ?_) (fun c3 => ?_)
            case refine_1 => exact absurd c3 Bool.false_ne_true
            case refine_2 =>
              refine hits_skip ?_
              refine to_next ?_
              refine hits_seq ?_
              refine hits_region ?_
              refine sq (f_move rfl (lt rfl)) rfl rfl ?_
              refine sq (f_move rfl (lt rfl)) rfl rfl ?_
              refine sq (f_move rfl (lt rfl)) rfl rfl ?_
              refine sq (f_idxList rfl rfl rfl un69 kd77 (Int.natCast_nonneg _) (wordD_at hx) (lt rfl)) rfl rfl ?_
              refine sq (f_load kd77 rfl rfl (lt rfl)) rfl rfl ?_
              refine sq (f_call en23 rfl hto (lt rfl)) rfl rfl ?_
              refine sq (f_bytes rfl us9 un25 un5 (lt rfl)) rfl rfl ?_
              refine sq_append rfl rfl rfl rfl apk25 (by simp only [bD_length, bytesL_B, List.length_append, snds, List.length_cons, List.length_nil]; omega) (by simp only [bD_length, bytesL_B, List.length_append, snds, List.length_cons, List.length_nil]; omega) (bytes_one _) (lt rfl) ?_
              refine sq (f_assign rfl (lt rfl)) rfl rfl ?_
              refine hits_nil ?_
              refine to_next ?_
              refine hits_seq ?_
              by_cases hbig : 65536 < (bs ++ (32 :: told x)).length
              · refine hits_region ?_
                refine sq (f_move rfl (lt rfl)) rfl rfl ?_
                refine sq (f_lenList rfl rfl un25 (lt rfl)) rfl rfl ?_
                refine sq (f_bin rfl rfl (bT (decide_eq_true (by simp only [bD_length, bytesL_B, List.length_append, snds, List.length_cons, List.length_nil] at hbig ⊢; omega))) (lt rfl)) rfl rfl ?_
                refine hits_nil ?_
                refine to_next ?_
                refine hits_cond rfl (fun c4 => ?_) (fun c4 => ?_)
                case refine_2 => exact absurd c4 Bool.false_ne_true.symm
                case refine_1 =>
                  refine hits_seq ?_
                  refine hits_region ?_
                  refine sq (f_assign rfl (lt rfl)) rfl rfl ?_
                  refine hits_nil ?_
                  refine to_next ?_
                  refine hits_ret ?_
                  refine in_ret ?_
                  refine to_ret ?_
                  refine to_ret ?_
                  refine in_ret ?_
                  refine to_ret ?_
                  exact hits_done (.inl rfl) rfl rfl rfl
              · have hJ2 : (bs ++ (32 :: told x)) ++ restL l (i + 1) = glue (l.map told) := by rw [← hJ, rest_more hi0 hx]; simp
                refine hits_region ?_
                refine sq (f_move rfl (lt rfl)) rfl rfl ?_
                refine sq (f_lenList rfl rfl un25 (lt rfl)) rfl rfl ?_
                refine sq (f_bin rfl rfl (bT (decide_eq_false (by simp only [bD_length, bytesL_B, List.length_append, snds, List.length_cons, List.length_nil] at hbig ⊢; omega))) (lt rfl)) rfl rfl ?_
                refine hits_nil ?_
                refine to_next ?_
                refine hits_cond rfl (fun c4 => ?_) (fun c4 => ?_)
                case refine_1 => exact absurd c4 Bool.false_ne_true
                case refine_2 =>
                  refine hits_skip ?_
                  refine in_next ?_
                  refine to_next ?_
                  refine hits_region ?_
                  refine sq (f_move rfl (lt rfl)) rfl rfl ?_
                  refine sq (f_bin rfl rfl (iT (((IntWalk.i64_in _ (by omega)).trans (by omega) : _ = ((i + 1 : Nat) : Int)))) (lt rfl)) rfl rfl ?_
                  refine sq (f_assign rfl (lt rfl)) rfl rfl ?_
                  refine hits_nil ?_
                  refine to_next ?_
                  refine round_end (i + 1, bs ++ (32 :: told x)) ⟨by simp only; omega, by simp only; omega, hJ2⟩ (by simp only; omega) ⟨rfl, (by show _ = some (V.own 6 1 (bD (bs ++ (32 :: told x)))); simp only [bD, List.map_append, bytesL_B, List.map_cons, List.cons_append, List.nil_append, List.append_assoc]; rfl), rfl, rfl, trivial⟩ rfl
      · obtain rfl : i = 0 := by omega
        refine hits_region ?_
        refine sq (f_move rfl (lt rfl)) rfl rfl ?_
        refine sq (f_move rfl (lt rfl)) rfl rfl ?_
        refine sq (f_lenList rfl rfl un69 (lt rfl)) rfl rfl ?_
        refine sq (f_bin rfl rfl (bT (decide_eq_true (by omega))) (lt rfl)) rfl rfl ?_
        refine hits_nil ?_
        refine to_next ?_
        refine hits_cond rfl (fun c1 => ?_) (fun c1 => ?_)
        case refine_2 => exact absurd c1 Bool.false_ne_true.symm
        case refine_1 =>
          refine hits_skip ?_
          refine to_next ?_
          refine hits_seq ?_
          refine hits_block ?_
          refine hits_seq ?_
          refine hits_seq ?_
          refine hits_region ?_
          refine sq (f_move rfl (lt rfl)) rfl rfl ?_
          refine sq (f_bin rfl rfl (bT (decide_eq_false (by omega))) (lt rfl)) rfl rfl ?_
          refine hits_nil ?_
          refine to_next ?_
          refine hits_cond rfl (fun c2 => ?_) (fun c2 => ?_)
          case refine_1 => exact absurd c2 Bool.false_ne_true
          case refine_2 =>
            refine hits_skip ?_
            refine to_next ?_
            refine hits_seq ?_
            refine hits_region ?_
            refine sq (f_move rfl (lt rfl)) rfl rfl ?_
            refine sq (f_move rfl (lt rfl)) rfl rfl ?_
            refine sq (f_move rfl (lt rfl)) rfl rfl ?_
            refine sq (f_idxList rfl rfl rfl un69 kd77 (Int.natCast_nonneg _) (wordD_at hx) (lt rfl)) rfl rfl ?_
            refine sq (f_load kd77 rfl rfl (lt rfl)) rfl rfl ?_
            refine sq (f_call en23 rfl hto (lt rfl)) rfl rfl ?_
            refine sq (f_bytes rfl us9 un25 un5 (lt rfl)) rfl rfl ?_
            refine sq_append rfl rfl rfl rfl apk25 (by simp only [bD_length, bytesL_B, List.length_append, snds, List.length_cons, List.length_nil]; omega) (by simp only [bD_length, bytesL_B, List.length_append, snds, List.length_cons, List.length_nil]; omega) (bytes_one _) (lt rfl) ?_
            refine sq (f_assign rfl (lt rfl)) rfl rfl ?_
            refine hits_nil ?_
            refine to_next ?_
            refine hits_seq ?_
            by_cases hbig : 65536 < (bs ++ (told x)).length
            · refine hits_region ?_
              refine sq (f_move rfl (lt rfl)) rfl rfl ?_
              refine sq (f_lenList rfl rfl un25 (lt rfl)) rfl rfl ?_
              refine sq (f_bin rfl rfl (bT (decide_eq_true (by simp only [bD_length, bytesL_B, List.length_append, snds, List.length_cons, List.length_nil] at hbig ⊢; omega))) (lt rfl)) rfl rfl ?_
              refine hits_nil ?_
              refine to_next ?_
              refine hits_cond rfl (fun c4 => ?_) (fun c4 => ?_)
              case refine_2 => exact absurd c4 Bool.false_ne_true.symm
              case refine_1 =>
                refine hits_seq ?_
                refine hits_region ?_
                refine sq (f_assign rfl (lt rfl)) rfl rfl ?_
                refine hits_nil ?_
                refine to_next ?_
                refine hits_ret ?_
                refine in_ret ?_
                refine to_ret ?_
                refine to_ret ?_
                refine in_ret ?_
                refine to_ret ?_
                exact hits_done (.inl rfl) rfl rfl rfl
            · have hJ2 : (bs ++ (told x)) ++ restL l (0 + 1) = glue (l.map told) := by rw [← hJ, rest_first hx]; simp
              refine hits_region ?_
              refine sq (f_move rfl (lt rfl)) rfl rfl ?_
              refine sq (f_lenList rfl rfl un25 (lt rfl)) rfl rfl ?_
              refine sq (f_bin rfl rfl (bT (decide_eq_false (by simp only [bD_length, bytesL_B, List.length_append, snds, List.length_cons, List.length_nil] at hbig ⊢; omega))) (lt rfl)) rfl rfl ?_
              refine hits_nil ?_
              refine to_next ?_
              refine hits_cond rfl (fun c4 => ?_) (fun c4 => ?_)
              case refine_1 => exact absurd c4 Bool.false_ne_true
              case refine_2 =>
                refine hits_skip ?_
                refine in_next ?_
                refine to_next ?_
                refine hits_region ?_
                refine sq (f_move rfl (lt rfl)) rfl rfl ?_
                refine sq (f_bin rfl rfl (iT (((IntWalk.i64_in _ (by omega)).trans (by omega) : _ = ((0 + 1 : Nat) : Int)))) (lt rfl)) rfl rfl ?_
                refine sq (f_assign rfl (lt rfl)) rfl rfl ?_
                refine hits_nil ?_
                refine to_next ?_
                refine round_end (0 + 1, bs ++ (told x)) ⟨by simp only; omega, by simp only; omega, hJ2⟩ (by simp only; omega) ⟨rfl, (by show _ = some (V.own 6 1 (bD (bs ++ (told x)))); simp only [bD, List.map_append, bytesL_B, List.map_cons, List.cons_append, List.nil_append, List.append_assoc]; rfl), rfl, rfl, trivial⟩ rfl
    · have hfin : bs = glue (l.map told) := by rw [← hJ, rest_end (by omega)]; simp
      have hw2 := words_c bs hbs
      rw [show W bs 0 = .inr (l.map (setLn 0)) from by rw [hfin]; exact row_glue hrow 0] at hw2
      refine hits_region ?_
      refine sq (f_move rfl (lt rfl)) rfl rfl ?_
      refine sq (f_move rfl (lt rfl)) rfl rfl ?_
      refine sq (f_lenList rfl rfl un69 (lt rfl)) rfl rfl ?_
      refine sq (f_bin rfl rfl (bT (decide_eq_false (by omega))) (lt rfl)) rfl rfl ?_
      refine hits_nil ?_
      refine to_next ?_
      refine hits_cond rfl (fun c1 => ?_) (fun c1 => ?_)
      case refine_1 => exact absurd c1 Bool.false_ne_true
      case refine_2 =>
        refine hits_exit ?_
        refine to_exit ?_
        refine to_exit ?_
        refine in_hit rfl ?_
        refine to_next ?_
        refine hits_seq ?_
        refine hits_region ?_
        refine sq (f_move rfl (lt rfl)) rfl rfl ?_
        refine sq (f_str rfl rfl un25 un5 un9 (lt rfl)) rfl rfl ?_
        refine sq (f_call en18 rfl hw2 (lt rfl)) rfl rfl ?_
        refine sq (f_move rfl (lt rfl)) rfl rfl ?_
        refine sq (f_extract rfl rfl (lt rfl)) rfl rfl ?_
        refine sq (f_extract rfl rfl (lt rfl)) rfl rfl ?_
        refine sq (f_extract rfl rfl (lt rfl)) rfl rfl ?_
        refine sq (f_assign rfl (lt rfl)) rfl rfl ?_
        refine sq (f_assign rfl (lt rfl)) rfl rfl ?_
        refine sq (f_assign rfl (lt rfl)) rfl rfl ?_
        refine hits_nil ?_
        refine to_next ?_
        refine hits_seq ?_
        refine hits_seq ?_
        refine hits_region ?_
        refine sq (f_move rfl (lt rfl)) rfl rfl ?_
        refine sq (f_bin rfl rfl (bT (b' := false) rfl) (lt rfl)) rfl rfl ?_
        refine sq (f_move rfl (lt rfl)) rfl rfl ?_
        refine sq_yes (f_move rfl (lt rfl)) rfl rfl rfl rfl (lt rfl) ?_
        refine sq_yes (f_lenList rfl rfl un69 (lt rfl)) rfl rfl rfl rfl (lt rfl) ?_
        refine sq_yes (f_move rfl (lt rfl)) rfl rfl rfl rfl (lt rfl) ?_
        refine sq_yes (f_lenList rfl rfl un69 (lt rfl)) rfl rfl rfl rfl (lt rfl) ?_
        refine sq_yes (f_bin rfl rfl (bT ((by rw [hll, hl2]; exact bne_self_eq_false _ : _ = false))) (lt rfl)) rfl rfl rfl rfl (lt rfl) ?_
        refine sq (f_pick rfl rfl (lt rfl)) rfl rfl ?_
        refine hits_nil ?_
        refine to_next ?_
        refine hits_cond rfl (fun c5 => ?_) (fun c5 => ?_)
        case refine_1 => exact absurd c5 Bool.false_ne_true
        case refine_2 =>
          refine hits_skip ?_
          refine to_next ?_
          refine hits_seq ?_
          refine hits_seq ?_
          refine hits_region ?_
          refine sq (f_assign rfl (lt rfl)) rfl rfl ?_
          refine hits_nil ?_
          refine to_next ?_
          refine hits_block ?_
          refine hits_loop (fun i : Nat => [(.slot 3, some (.d (.list 6 (l.map wordD)))), (.slot 8, some (.d (.list 6 ((l.map (setLn 0)).map wordD)))), (.slot 11, some (.d (.sc (.int .i64 (i : Int)))))]) (fun i : Nat => i ≤ l.length) (fun i : Nat => l.length - i) 0 (Nat.zero_le _) ⟨rfl, rfl, rfl, trivial⟩ rfl ?_
          intro i hi1
          refine hits_seq ?_
          refine hits_seq ?_
          by_cases hi2 : i < l.length
          · obtain ⟨x, hx⟩ : ∃ x, l[i]? = some x := ⟨_, List.getElem?_eq_getElem hi2⟩
            have hx2 : (l.map (setLn 0))[i]? = some (setLn 0 x) := by rw [List.getElem?_map, hx]; rfl
            have hbq := word_beq (setLn 0 x) (setLn 0 x)
            rw [decide_eq_true rfl] at hbq
            refine hits_region ?_
            refine sq (f_move rfl (lt rfl)) rfl rfl ?_
            refine sq (f_move rfl (lt rfl)) rfl rfl ?_
            refine sq (f_lenList rfl rfl un69 (lt rfl)) rfl rfl ?_
            refine sq (f_bin rfl rfl (bT (decide_eq_true (by omega))) (lt rfl)) rfl rfl ?_
            refine hits_nil ?_
            refine to_next ?_
            refine hits_cond rfl (fun c6 => ?_) (fun c6 => ?_)
            case refine_2 => exact absurd c6 Bool.false_ne_true.symm
            case refine_1 =>
              refine hits_skip ?_
              refine to_next ?_
              refine hits_seq ?_
              refine hits_block ?_
              refine hits_seq ?_
              refine hits_region ?_
              refine sq (f_move rfl (lt rfl)) rfl rfl ?_
              refine sq (f_move rfl (lt rfl)) rfl rfl ?_
              refine sq (f_idxList rfl rfl rfl un69 kd77 (Int.natCast_nonneg _) (wordD_at hx) (lt rfl)) rfl rfl ?_
              refine sq (f_load kd77 rfl rfl (lt rfl)) rfl rfl ?_
              refine sq (f_alloc zc77 (lt rfl)) rfl rfl ?_
              refine sq (f_store kd77 rfl rfl rfl rfl rfl) rfl rfl ?_
              refine hits_nil ?_
              refine to_next ?_
              refine hits_seq ?_
              refine hits_region ?_
              refine sq (f_fieldAddr rfl kf77_3 rfl (lt rfl)) rfl rfl ?_
              refine sq (f_store kd3 rfl rfl rfl rfl rfl) rfl rfl ?_
              refine hits_nil ?_
              refine to_next ?_
              refine hits_seq ?_
              refine hits_drawn mixed ?_
              refine dq (f_move rfl (lt rfl)) rfl rfl ?_
              refine dq (f_move rfl (lt rfl)) rfl rfl ?_
              refine dq (f_idxList rfl rfl rfl un69 kd77 (Int.natCast_nonneg _) (wordD_at hx2) (lt rfl)) rfl rfl ?_
              refine dq (f_load kd77 rfl rfl (lt rfl)) rfl rfl ?_
              refine dq (f_load kd77 rfl rfl (lt rfl)) rfl rfl ?_
              refine dq (f_neS rfl rfl rfl rfl eqg77 (ev77 ..) (by decide) (congrArg Bool.not hbq : _ = false) (lt rfl)) rfl rfl ?_
              refine dq_nil rfl ?_
              refine to_next ?_
              refine hits_cond rfl (fun c7 => ?_) (fun c7 => ?_)
              case refine_1 => exact absurd c7 Bool.false_ne_true
              case refine_2 =>
                refine hits_skip ?_
                refine in_next ?_
                refine to_next ?_
                refine hits_region ?_
                refine sq (f_move rfl (lt rfl)) rfl rfl ?_
                refine sq (f_bin rfl rfl (iT (((IntWalk.i64_in _ (by omega)).trans (by omega) : _ = ((i + 1 : Nat) : Int)))) (lt rfl)) rfl rfl ?_
                refine sq (f_assign rfl (lt rfl)) rfl rfl ?_
                refine hits_nil ?_
                refine to_next ?_
                refine round_end (i + 1) (by omega) (by omega) ⟨rfl, rfl, rfl, trivial⟩ rfl
          · refine hits_region ?_
            refine sq (f_move rfl (lt rfl)) rfl rfl ?_
            refine sq (f_move rfl (lt rfl)) rfl rfl ?_
            refine sq (f_lenList rfl rfl un69 (lt rfl)) rfl rfl ?_
            refine sq (f_bin rfl rfl (bT (decide_eq_false (by omega))) (lt rfl)) rfl rfl ?_
            refine hits_nil ?_
            refine to_next ?_
            refine hits_cond rfl (fun c6 => ?_) (fun c6 => ?_)
            case refine_1 => exact absurd c6 Bool.false_ne_true
            case refine_2 =>
              refine hits_exit ?_
              refine to_exit ?_
              refine to_exit ?_
              refine in_hit rfl ?_
              refine to_next ?_
              refine hits_seq ?_
              refine hits_region ?_
              refine sq (f_assign rfl (lt rfl)) rfl rfl ?_
              refine hits_nil ?_
              refine to_next ?_
              refine hits_ret ?_
              exact hits_done (.inl rfl) rfl rfl rfl

theorem again_c (s : ByteArray) : CallsP Tryz.prog Lw 5 [.sc (.string s)] (.sc (.bool true)) := by
  by_cases h : 65536 < s.size
  · exact again_no s rfl (words_big s h)
  · have hs : s.data.toList.length ≤ 65536 := by simpa using h
    cases hW : W s.data.toList 0 with
    | inl k =>
      have hw := words_c s.data.toList hs
      rw [hW, B_of] at hw
      exact again_no s rfl hw
    | inr l =>
      have := again_ok s.data.toList hs hW
      rwa [B_of] at this

theorem pointsmanlaw07_LexAgain.calls (a0 : ByteArray) (r : Bool) (w : World) (hg : Lw w) (hk : r = true) : Calls Tryz.prog 5 #[.string a0] w fun e w' => e = .returned (.bool r) ∧ Below w.heap.size w w' := by
  subst hk; exact (again_c a0).calls rfl rfl w hg

end Go.Proofs.YtcaedggggkchiaaGreatDoor.Ln
