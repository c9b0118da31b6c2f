/- The law ParseLines over data. -/
import Derived.Test.YtbgeejmhkmjfdaaGreatDoorAbLi
import Derived.Test.YtbgeejmhkmjfdaaGreatDoorAbBi
import Derived.Test.YtbgeejmhkmjfdaaGreatDoorAbTo
import Derived.OpenShut
namespace Go.Proofs.YtbgeejmhkmjfdaaGreatDoor.Ln
open Go Go.RowKit Go.Ab Go.Proofs 
set_option linter.unusedVariables false
set_option linter.unusedSimpArgs false
theorem en7 : enters Tryz.prog 7 = true := by kernel_rfl
theorem en9 : enters Tryz.prog 9 = true := by kernel_rfl


set_option maxRecDepth 100000 in
theorem lines_no {s : Tx} {n e : Nat} (he : e ≠ 0) (hlex : CallsP Tryz.prog Lw 6 [txD s] (.tup [.list 6 [], nD n, nD e])) : CallsP Tryz.prog Lw 3 [txD s] (.sc (.bool true)) := by
  refine callsP_of gs_lw Tryz.func3 rfl Tryz.ntmps3 rfl fun w0 S0 stab => ?_
  refine hits_seq ?_
  refine hits_region ?_
  refine sq (f_assign rfl (lt rfl)) rfl rfl ?_
  refine hits_nil ?_
  refine to_next ?_
  refine hits_seq ?_
  refine hits_region ?_
  refine sq (f_move rfl (lt rfl)) rfl rfl ?_
  refine sq (f_call en6 rfl hlex (lt rfl)) rfl rfl ?_
  refine sq (f_move rfl (lt rfl)) rfl rfl ?_
  refine sq (f_extract rfl rfl (lt rfl)) rfl rfl ?_
  refine sq (f_extract rfl rfl (lt rfl)) rfl rfl ?_
  refine sq (f_extract rfl rfl (lt rfl)) rfl rfl ?_
  refine sq (f_assign rfl (lt rfl)) rfl rfl ?_
  refine sq (f_assign rfl (lt rfl)) rfl rfl ?_
  refine sq (f_assign rfl (lt rfl)) rfl rfl ?_
  refine hits_nil ?_
  refine to_next ?_
  refine hits_seq ?_
  refine hits_seq ?_
  refine hits_region ?_
  refine sq (f_call en7 rfl alive_c (lt rfl)) rfl rfl ?_
  refine sq (f_un rfl rfl (lt rfl)) rfl rfl ?_
  refine sq (f_move rfl (lt rfl)) rfl rfl ?_
  refine sq_yes (f_move rfl (lt rfl)) rfl rfl rfl rfl (lt rfl) ?_
  refine sq_yes (f_bin rfl rfl (bT (bne_iff_ne.mpr (by omega))) (lt rfl)) rfl rfl rfl rfl (lt rfl) ?_
  refine sq (f_pick rfl rfl (lt rfl)) rfl rfl ?_
  refine sq (f_move rfl (lt rfl)) rfl rfl ?_
  refine sq_no rfl rfl rfl rfl rfl (lt rfl) (lt rfl) ?_
  refine sq_no rfl rfl rfl rfl rfl (lt rfl) (lt rfl) ?_
  refine sq_no rfl rfl rfl rfl rfl (lt rfl) (lt rfl) ?_
  refine sq (f_pick rfl rfl (lt rfl)) rfl rfl ?_
  refine sq (f_move rfl (lt rfl)) rfl rfl ?_
  refine sq_no rfl rfl rfl rfl rfl (lt rfl) (lt rfl) ?_
  refine sq_no rfl rfl rfl rfl rfl (lt rfl) (lt rfl) ?_
  refine sq_no rfl rfl rfl rfl rfl (lt rfl) (lt rfl) ?_
  refine sq (f_pick rfl rfl (lt rfl)) rfl rfl ?_
  refine sq (f_move rfl (lt rfl)) rfl rfl ?_
  refine sq_no rfl rfl rfl rfl rfl (lt rfl) (lt rfl) ?_
  refine sq_no rfl rfl rfl rfl rfl (lt rfl) (lt rfl) ?_
  refine sq_no rfl rfl rfl rfl rfl (lt rfl) (lt rfl) ?_
  refine sq (f_pick rfl rfl (lt rfl)) rfl rfl ?_
  refine hits_nil ?_
  refine to_next ?_
  refine hits_cond rfl (fun c0 => ?_) (fun c0 => absurd c0 Bool.false_ne_true.symm)
  refine hits_seq ?_
  refine hits_region ?_
  refine sq (f_call en7 rfl alive_c (lt rfl)) rfl rfl ?_
  refine sq (f_assign rfl (lt rfl)) rfl rfl ?_
  refine hits_nil ?_
  refine to_next ?_
  refine hits_ret ?_
  refine to_ret ?_
  exact hits_done (.inl rfl) rfl rfl rfl

set_option maxHeartbeats 4000000 in
set_option maxHeartbeats 4000000 in
set_option maxRecDepth 100000 in
theorem lines_in {s : Tx} {L : List Wd} (hs : s.length ≤ 65536) (hW : W s 0 = .inr L) : CallsP Tryz.prog Lw 3 [txD s] (.sc (.bool true)) := by
  have hlex := words_c s (by omega)
  rw [hW] at hlex
  have hrow := W_row (s.length + 1) s 0 L (by omega) hW
  have hgood := row_good hrow
  have htold := W_told (s.length + 1) s 0 L (by omega) hW
  have hlen := (W_facts hW).1
  have hall := lines_len htold
  have hmul : L.length * (s.length + 1) ≤ 65536 * 65537 := Nat.mul_le_mul (by omega) (by omega)
  refine callsP_of gs_lw Tryz.func3 rfl Tryz.ntmps3 rfl fun w0 S0 stab => ?_
  refine hits_seq ?_
  refine hits_region ?_
  refine sq (f_assign rfl (lt rfl)) rfl rfl ?_
  refine hits_nil ?_
  refine to_next ?_
  refine hits_seq ?_
  refine hits_region ?_
  refine sq (f_move rfl (lt rfl)) rfl rfl ?_
  refine sq (f_call en6 rfl hlex (lt rfl)) rfl rfl ?_
  refine sq (f_move rfl (lt rfl)) rfl rfl ?_
  refine sq (f_extract rfl rfl (lt rfl)) rfl rfl ?_
  refine sq (f_extract rfl rfl (lt rfl)) rfl rfl ?_
  refine sq (f_extract rfl rfl (lt rfl)) rfl rfl ?_
  refine sq (f_assign rfl (lt rfl)) rfl rfl ?_
  refine sq (f_assign rfl (lt rfl)) rfl rfl ?_
  refine sq (f_assign rfl (lt rfl)) rfl rfl ?_
  refine hits_nil ?_
  refine to_next ?_
  refine hits_seq ?_
  refine hits_seq ?_
  by_cases h0 : L.length = 0
  · refine hits_region ?_
    refine sq (f_call en7 rfl alive_c (lt rfl)) rfl rfl ?_
    refine sq (f_un rfl rfl (lt rfl)) rfl rfl ?_
    refine sq (f_move rfl (lt rfl)) rfl rfl ?_
    refine sq_yes (f_move rfl (lt rfl)) rfl rfl rfl rfl (lt rfl) ?_
    refine sq_yes (f_bin rfl rfl (bT (b' := false) rfl) (lt rfl)) rfl rfl rfl rfl (lt rfl) ?_
    refine sq (f_pick rfl rfl (lt rfl)) rfl rfl ?_
    refine sq (f_move rfl (lt rfl)) rfl rfl ?_
    refine sq_yes (f_move rfl (lt rfl)) rfl rfl rfl rfl (lt rfl) ?_
    refine sq_yes (f_lenListN rfl rfl un22 (List.length_map _) (lt rfl)) rfl rfl rfl rfl (lt rfl) ?_
    refine sq_yes (f_bin rfl rfl (bT (beq_iff_eq.mpr (by omega))) (lt rfl)) rfl rfl rfl rfl (lt rfl) ?_
    refine sq (f_pick rfl rfl (lt rfl)) rfl rfl ?_
    refine sq (f_move rfl (lt rfl)) rfl rfl ?_
    refine sq_no rfl rfl rfl rfl rfl (lt rfl) (lt rfl) ?_
    refine sq_no rfl rfl rfl rfl rfl (lt rfl) (lt rfl) ?_
    refine sq_no rfl rfl rfl rfl rfl (lt rfl) (lt rfl) ?_
    refine sq (f_pick rfl rfl (lt rfl)) rfl rfl ?_
    refine sq (f_move rfl (lt rfl)) rfl rfl ?_
    refine sq_no rfl rfl rfl rfl rfl (lt rfl) (lt rfl) ?_
    refine sq_no rfl rfl rfl rfl rfl (lt rfl) (lt rfl) ?_
    refine sq_no rfl rfl rfl rfl rfl (lt rfl) (lt rfl) ?_
    refine sq (f_pick rfl rfl (lt rfl)) rfl rfl ?_
    refine hits_nil ?_
    refine to_next ?_
    refine hits_cond rfl (fun c0 => ?_) (fun c0 => absurd c0 Bool.false_ne_true.symm)
    refine hits_seq ?_
    refine hits_region ?_
    refine sq (f_call en7 rfl alive_c (lt rfl)) rfl rfl ?_
    refine sq (f_assign rfl (lt rfl)) rfl rfl ?_
    refine hits_nil ?_
    refine to_next ?_
    refine hits_ret ?_
    refine to_ret ?_
    exact hits_done (.inl rfl) rfl rfl rfl
  · have hne : L ≠ [] := fun c => h0 (by rw [c]; rfl)
    by_cases h1 : 1500 < L.length
    · refine hits_region ?_
      refine sq (f_call en7 rfl alive_c (lt rfl)) rfl rfl ?_
      refine sq (f_un rfl rfl (lt rfl)) rfl rfl ?_
      refine sq (f_move rfl (lt rfl)) rfl rfl ?_
      refine sq_yes (f_move rfl (lt rfl)) rfl rfl rfl rfl (lt rfl) ?_
      refine sq_yes (f_bin rfl rfl (bT (b' := false) rfl) (lt rfl)) rfl rfl rfl rfl (lt rfl) ?_
      refine sq (f_pick rfl rfl (lt rfl)) rfl rfl ?_
      refine sq (f_move rfl (lt rfl)) rfl rfl ?_
      refine sq_yes (f_move rfl (lt rfl)) rfl rfl rfl rfl (lt rfl) ?_
      refine sq_yes (f_lenListN rfl rfl un22 (List.length_map _) (lt rfl)) rfl rfl rfl rfl (lt rfl) ?_
      refine sq_yes (f_bin rfl rfl (bT (beq_eq_false_iff_ne.mpr (by omega))) (lt rfl)) rfl rfl rfl rfl (lt rfl) ?_
      refine sq (f_pick rfl rfl (lt rfl)) rfl rfl ?_
      refine sq (f_move rfl (lt rfl)) rfl rfl ?_
      refine sq_yes (f_move rfl (lt rfl)) rfl rfl rfl rfl (lt rfl) ?_
      refine sq_yes (f_lenListN rfl rfl un22 (List.length_map _) (lt rfl)) rfl rfl rfl rfl (lt rfl) ?_
      refine sq_yes (f_bin rfl rfl (bT (decide_eq_true (by omega))) (lt rfl)) rfl rfl rfl rfl (lt rfl) ?_
      refine sq (f_pick rfl rfl (lt rfl)) rfl rfl ?_
      refine sq (f_move rfl (lt rfl)) rfl rfl ?_
      refine sq_no rfl rfl rfl rfl rfl (lt rfl) (lt rfl) ?_
      refine sq_no rfl rfl rfl rfl rfl (lt rfl) (lt rfl) ?_
      refine sq_no rfl rfl rfl rfl rfl (lt rfl) (lt rfl) ?_
      refine sq (f_pick rfl rfl (lt rfl)) rfl rfl ?_
      refine hits_nil ?_
      refine to_next ?_
      refine hits_cond rfl (fun c0 => ?_) (fun c0 => absurd c0 Bool.false_ne_true.symm)
      refine hits_seq ?_
      refine hits_region ?_
      refine sq (f_call en7 rfl alive_c (lt rfl)) rfl rfl ?_
      refine sq (f_assign rfl (lt rfl)) rfl rfl ?_
      refine hits_nil ?_
      refine to_next ?_
      refine hits_ret ?_
      refine to_ret ?_
      exact hits_done (.inl rfl) rfl rfl rfl
    · by_cases h2 : 20000 < s.length
      · refine hits_region ?_
        refine sq (f_call en7 rfl alive_c (lt rfl)) rfl rfl ?_
        refine sq (f_un rfl rfl (lt rfl)) rfl rfl ?_
        refine sq (f_move rfl (lt rfl)) rfl rfl ?_
        refine sq_yes (f_move rfl (lt rfl)) rfl rfl rfl rfl (lt rfl) ?_
        refine sq_yes (f_bin rfl rfl (bT (b' := false) rfl) (lt rfl)) rfl rfl rfl rfl (lt rfl) ?_
        refine sq (f_pick rfl rfl (lt rfl)) rfl rfl ?_
        refine sq (f_move rfl (lt rfl)) rfl rfl ?_
        refine sq_yes (f_move rfl (lt rfl)) rfl rfl rfl rfl (lt rfl) ?_
        refine sq_yes (f_lenListN rfl rfl un22 (List.length_map _) (lt rfl)) rfl rfl rfl rfl (lt rfl) ?_
        refine sq_yes (f_bin rfl rfl (bT (beq_eq_false_iff_ne.mpr (by omega))) (lt rfl)) rfl rfl rfl rfl (lt rfl) ?_
        refine sq (f_pick rfl rfl (lt rfl)) rfl rfl ?_
        refine sq (f_move rfl (lt rfl)) rfl rfl ?_
        refine sq_yes (f_move rfl (lt rfl)) rfl rfl rfl rfl (lt rfl) ?_
        refine sq_yes (f_lenListN rfl rfl un22 (List.length_map _) (lt rfl)) rfl rfl rfl rfl (lt rfl) ?_
        refine sq_yes (f_bin rfl rfl (bT (decide_eq_false (by omega))) (lt rfl)) rfl rfl rfl rfl (lt rfl) ?_
        refine sq (f_pick rfl rfl (lt rfl)) rfl rfl ?_
        refine sq (f_move rfl (lt rfl)) rfl rfl ?_
        refine sq_yes (f_move rfl (lt rfl)) rfl rfl rfl rfl (lt rfl) ?_
        refine sq_yes (f_lenStr rfl un9 (lt rfl)) rfl rfl rfl rfl (lt rfl) ?_
        refine sq_yes (f_bin rfl rfl (bT (decide_eq_true (by rw [B_size]; omega))) (lt rfl)) rfl rfl rfl rfl (lt rfl) ?_
        refine sq (f_pick rfl rfl (lt rfl)) rfl rfl ?_
        refine hits_nil ?_
        refine to_next ?_
        refine hits_cond rfl (fun c0 => ?_) (fun c0 => absurd c0 Bool.false_ne_true.symm)
        refine hits_seq ?_
        refine hits_region ?_
        refine sq (f_call en7 rfl alive_c (lt rfl)) rfl rfl ?_
        refine sq (f_assign rfl (lt rfl)) rfl rfl ?_
        refine hits_nil ?_
        refine to_next ?_
        refine hits_ret ?_
        refine to_ret ?_
        exact hits_done (.inl rfl) rfl rfl rfl
      · refine hits_region ?_
        refine sq (f_call en7 rfl alive_c (lt rfl)) rfl rfl ?_
        refine sq (f_un rfl rfl (lt rfl)) rfl rfl ?_
        refine sq (f_move rfl (lt rfl)) rfl rfl ?_
        refine sq_yes (f_move rfl (lt rfl)) rfl rfl rfl rfl (lt rfl) ?_
        refine sq_yes (f_bin rfl rfl (bT (b' := false) rfl) (lt rfl)) rfl rfl rfl rfl (lt rfl) ?_
        refine sq (f_pick rfl rfl (lt rfl)) rfl rfl ?_
        refine sq (f_move rfl (lt rfl)) rfl rfl ?_
        refine sq_yes (f_move rfl (lt rfl)) rfl rfl rfl rfl (lt rfl) ?_
        refine sq_yes (f_lenListN rfl rfl un22 (List.length_map _) (lt rfl)) rfl rfl rfl rfl (lt rfl) ?_
        refine sq_yes (f_bin rfl rfl (bT (beq_eq_false_iff_ne.mpr (by omega))) (lt rfl)) rfl rfl rfl rfl (lt rfl) ?_
        refine sq (f_pick rfl rfl (lt rfl)) rfl rfl ?_
        refine sq (f_move rfl (lt rfl)) rfl rfl ?_
        refine sq_yes (f_move rfl (lt rfl)) rfl rfl rfl rfl (lt rfl) ?_
        refine sq_yes (f_lenListN rfl rfl un22 (List.length_map _) (lt rfl)) rfl rfl rfl rfl (lt rfl) ?_
        refine sq_yes (f_bin rfl rfl (bT (decide_eq_false (by omega))) (lt rfl)) rfl rfl rfl rfl (lt rfl) ?_
        refine sq (f_pick rfl rfl (lt rfl)) rfl rfl ?_
        refine sq (f_move rfl (lt rfl)) rfl rfl ?_
        refine sq_yes (f_move rfl (lt rfl)) rfl rfl rfl rfl (lt rfl) ?_
        refine sq_yes (f_lenStr rfl un9 (lt rfl)) rfl rfl rfl rfl (lt rfl) ?_
        refine sq_yes (f_bin rfl rfl (bT (decide_eq_false (by rw [B_size]; omega))) (lt rfl)) rfl rfl rfl rfl (lt rfl) ?_
        refine sq (f_pick rfl rfl (lt rfl)) rfl rfl ?_
        refine hits_nil ?_
        refine to_next ?_
        refine hits_cond rfl (fun c0 => absurd c0 Bool.false_ne_true) (fun c0 => ?_)
        refine hits_skip ?_
        refine to_next ?_
        refine hits_seq ?_
        refine hits_region ?_
        refine sq (f_move rfl (lt rfl)) rfl rfl ?_
        refine sq (f_call en8 rfl (parse_c (s)) (lt rfl)) rfl rfl ?_
        refine sq (f_move rfl (lt rfl)) rfl rfl ?_
        refine sq (f_extract rfl rfl (lt rfl)) rfl rfl ?_
        refine sq (f_extract rfl rfl (lt rfl)) rfl rfl ?_
        refine sq (f_extract rfl rfl (lt rfl)) rfl rfl ?_
        refine sq (f_assign rfl (lt rfl)) rfl rfl ?_
        refine sq (f_assign rfl (lt rfl)) rfl rfl ?_
        refine sq (f_assign rfl (lt rfl)) rfl rfl ?_
        refine hits_nil ?_
        refine to_next ?_
        refine hits_seq ?_
        refine hits_region ?_
        refine sq (f_assign rfl (lt rfl)) rfl rfl ?_
        refine hits_nil ?_
        refine to_next ?_
        refine hits_seq ?_
        refine hits_seq ?_
        refine hits_region ?_
        refine sq (f_assign rfl (lt rfl)) rfl rfl ?_
        refine hits_nil ?_
        refine to_next ?_
        refine hits_block ?_
        refine hits_loop (fun x : Nat => [(.slot 3, some (.d (.list 6 (L.map wordD)))), (.slot 8, some (.d (nD (parseS s).2.2))), (.slot 9, some (.d (.sc (.string (B (linesT (L.take (x)))))))), (.slot 10, some (.d (nD (x))))]) (fun x : Nat => x ≤ L.length) (fun x : Nat => L.length - x) 0 (Nat.zero_le _) ⟨rfl, rfl, rfl, rfl, trivial⟩ rfl ?_
        intro i hi0
        change i ≤ L.length at hi0
        change Hits _ [(.slot 3, some (.d (.list 6 (L.map wordD)))), (.slot 8, some (.d (nD (parseS s).2.2))), (.slot 9, some (.d (.sc (.string (B (linesT (L.take (i)))))))), (.slot 10, some (.d (nD (i))))] _
        refine hits_seq ?_
        refine hits_seq ?_
        by_cases hi : i < L.length
        · obtain ⟨x, hx⟩ : ∃ x, L[i]? = some x := ⟨_, List.getElem?_eq_getElem (by omega)⟩
          have hgx := (hgood x (List.mem_of_getElem? hx)).1
          have hto := told_c x (fun e => by rcases hgx.2 with h | h | h | h <;> (have := h.1; simp only at this h; omega)) (fun e => by rcases hgx.2 with h | h | h | h <;> (have := h.1; simp only at this h; first | omega | exact ⟨h.2.2.1, h.2.2.2.1, h.2.2.2.2.1, h.2.2.2.2.2⟩))
          have hli := (lines_more L i).1
          have htx := htold x (List.mem_of_getElem? hx)
          refine hits_region ?_
          refine sq (f_move rfl (lt rfl)) rfl rfl ?_
          refine sq (f_move rfl (lt rfl)) rfl rfl ?_
          refine sq (f_lenListN rfl rfl un22 (List.length_map _) (lt rfl)) rfl rfl ?_
          refine sq (f_bin rfl rfl (bT (decide_eq_true (by omega))) (lt rfl)) rfl rfl ?_
          refine hits_nil ?_
          refine to_next ?_
          refine hits_cond rfl (fun c1 => ?_) (fun c1 => absurd c1 Bool.false_ne_true.symm)
          refine hits_skip ?_
          refine to_next ?_
          refine hits_seq ?_
          refine hits_block ?_
          refine hits_region ?_
          refine sq (f_move rfl (lt rfl)) rfl rfl ?_
          refine sq (f_move rfl (lt rfl)) rfl rfl ?_
          refine sq (f_move rfl (lt rfl)) rfl rfl ?_
          refine sq (f_idxList rfl rfl rfl un22 kd37 (Int.natCast_nonneg _) (wordD_at hx) (lt rfl)) rfl rfl ?_
          refine sq (f_load kd37 rfl rfl (lt rfl)) rfl rfl ?_
          refine sq (f_call en9 rfl hto (lt rfl)) rfl rfl ?_
          refine sq (f_catI rfl rfl (cat_ok (linesT (L.take i)) (told x) (by first | omega | (simp only [List.length_append, List.length_cons, List.length_nil]; omega))) (B_app (linesT (L.take i)) (told x)) (lt rfl)) rfl rfl ?_
          refine sq (f_catI rfl rfl (cat_ok (linesT (L.take i) ++ told x) ([10]) (by first | omega | (simp only [List.length_append, List.length_cons, List.length_nil]; omega))) (B_app (linesT (L.take i) ++ told x) ([10])) (lt rfl)) rfl rfl ?_
          refine sq (f_assign rfl (lt rfl)) rfl rfl ?_
          refine hits_nil ?_
          refine in_next ?_
          refine to_next ?_
          refine hits_region ?_
          refine sq (f_move rfl (lt rfl)) rfl rfl ?_
          refine sq (f_bin rfl rfl (iT (((IntWalk.i64_in _ (by omega)).trans (by omega) : _ = ((i + 1 : Nat) : Int)))) (lt rfl)) rfl rfl ?_
          refine sq (f_assign rfl (lt rfl)) rfl rfl ?_
          refine hits_nil ?_
          refine to_next ?_
          refine round_end (i + 1) (by omega : i + 1 ≤ L.length) (by omega) ⟨rfl, rfl, (congrArg (fun z => some (V.d (.sc (.string (B z))))) (lines_take hx).symm), rfl, trivial⟩ rfl
        · obtain rfl : i = L.length := by omega
          refine hits_region ?_
          refine sq (f_move rfl (lt rfl)) rfl rfl ?_
          refine sq (f_move rfl (lt rfl)) rfl rfl ?_
          refine sq (f_lenListN rfl rfl un22 (List.length_map _) (lt rfl)) rfl rfl ?_
          refine sq (f_bin rfl rfl (bT (decide_eq_false (by omega))) (lt rfl)) rfl rfl ?_
          refine hits_nil ?_
          refine to_next ?_
          refine hits_cond rfl (fun c1 => absurd c1 Bool.false_ne_true) (fun c1 => ?_)
          refine hits_exit ?_
          refine to_exit ?_
          refine to_exit ?_
          refine in_hit rfl ?_
          refine to_next ?_
          refine hits_seq ?_
          refine hits_seq ?_
          by_cases hT : 65536 < (linesT L).length
          · rw [List.take_length]
            refine hits_region ?_
            refine sq (f_move rfl (lt rfl)) rfl rfl ?_
            refine sq (f_lenStr rfl un9 (lt rfl)) rfl rfl ?_
            refine sq (f_bin rfl rfl (bT (decide_eq_true (by rw [B_size]; omega))) (lt rfl)) rfl rfl ?_
            refine sq (f_move rfl (lt rfl)) rfl rfl ?_
            refine sq_no rfl rfl rfl rfl rfl (lt rfl) (lt rfl) ?_
            refine sq_no rfl rfl rfl rfl rfl (lt rfl) (lt rfl) ?_
            refine sq (f_pick rfl rfl (lt rfl)) rfl rfl ?_
            refine hits_nil ?_
            refine to_next ?_
            refine hits_cond rfl (fun c2 => ?_) (fun c2 => absurd c2 Bool.false_ne_true.symm)
            refine hits_seq ?_
            refine hits_region ?_
            refine sq (f_assign rfl (lt rfl)) rfl rfl ?_
            refine hits_nil ?_
            refine to_next ?_
            refine hits_ret ?_
            refine to_ret ?_
            exact hits_done (.inl rfl) rfl rfl rfl
          · rw [List.take_length]
            by_cases h3 : (parseS s).2.2 = 3
            · refine hits_region ?_
              refine sq (f_move rfl (lt rfl)) rfl rfl ?_
              refine sq (f_lenStr rfl un9 (lt rfl)) rfl rfl ?_
              refine sq (f_bin rfl rfl (bT (decide_eq_false (by rw [B_size]; omega))) (lt rfl)) rfl rfl ?_
              refine sq (f_move rfl (lt rfl)) rfl rfl ?_
              refine sq_yes (f_move rfl (lt rfl)) rfl rfl rfl rfl (lt rfl) ?_
              refine sq_yes (f_bin rfl rfl (bT (beq_iff_eq.mpr (by omega))) (lt rfl)) rfl rfl rfl rfl (lt rfl) ?_
              refine sq (f_pick rfl rfl (lt rfl)) rfl rfl ?_
              refine hits_nil ?_
              refine to_next ?_
              refine hits_cond rfl (fun c2 => ?_) (fun c2 => absurd c2 Bool.false_ne_true.symm)
              refine hits_seq ?_
              refine hits_region ?_
              refine sq (f_assign rfl (lt rfl)) rfl rfl ?_
              refine hits_nil ?_
              refine to_next ?_
              refine hits_ret ?_
              refine to_ret ?_
              exact hits_done (.inl rfl) rfl rfl rfl
            · refine hits_region ?_
              refine sq (f_move rfl (lt rfl)) rfl rfl ?_
              refine sq (f_lenStr rfl un9 (lt rfl)) rfl rfl ?_
              refine sq (f_bin rfl rfl (bT (decide_eq_false (by rw [B_size]; omega))) (lt rfl)) rfl rfl ?_
              refine sq (f_move rfl (lt rfl)) rfl rfl ?_
              refine sq_yes (f_move rfl (lt rfl)) rfl rfl rfl rfl (lt rfl) ?_
              refine sq_yes (f_bin rfl rfl (bT (beq_eq_false_iff_ne.mpr (by omega))) (lt rfl)) rfl rfl rfl rfl (lt rfl) ?_
              refine sq (f_pick rfl rfl (lt rfl)) rfl rfl ?_
              refine hits_nil ?_
              refine to_next ?_
              refine hits_cond rfl (fun c2 => absurd c2 Bool.false_ne_true) (fun c2 => ?_)
              refine hits_skip ?_
              refine to_next ?_
              refine hits_seq ?_
              refine hits_region ?_
              refine sq (f_move rfl (lt rfl)) rfl rfl ?_
              refine sq (f_call en8 rfl (parse_c (linesT L)) (lt rfl)) rfl rfl ?_
              refine sq (f_move rfl (lt rfl)) rfl rfl ?_
              refine sq (f_extract rfl rfl (lt rfl)) rfl rfl ?_
              refine sq (f_extract rfl rfl (lt rfl)) rfl rfl ?_
              refine sq (f_extract rfl rfl (lt rfl)) rfl rfl ?_
              refine sq (f_assign rfl (lt rfl)) rfl rfl ?_
              refine sq (f_assign rfl (lt rfl)) rfl rfl ?_
              refine sq (f_assign rfl (lt rfl)) rfl rfl ?_
              refine hits_nil ?_
              refine to_next ?_
              refine hits_seq ?_
              refine hits_seq ?_
              rcases lines_facts hW (by omega) hne (by omega) h3 with ⟨f0, g0, l0⟩ | ⟨n, hn, f5, g5, ln, hpre, hlast⟩
              · refine hits_region ?_
                refine sq (f_move rfl (lt rfl)) rfl rfl ?_
                refine sq (f_move rfl (lt rfl)) rfl rfl ?_
                refine sq (f_bin rfl rfl (bT (bne_eq_false_iff_eq.mpr (by omega))) (lt rfl)) rfl rfl ?_
                refine sq (f_move rfl (lt rfl)) rfl rfl ?_
                refine sq_yes (f_move rfl (lt rfl)) rfl rfl rfl rfl (lt rfl) ?_
                refine sq_yes (f_move rfl (lt rfl)) rfl rfl rfl rfl (lt rfl) ?_
                refine sq_yes (f_lenListN rfl rfl un22 (List.length_map _) (lt rfl)) rfl rfl rfl rfl (lt rfl) ?_
                refine sq_yes (f_bin rfl rfl (bT (decide_eq_false (by omega))) (lt rfl)) rfl rfl rfl rfl (lt rfl) ?_
                refine sq (f_pick rfl rfl (lt rfl)) rfl rfl ?_
                refine sq (f_move rfl (lt rfl)) rfl rfl ?_
                refine sq_yes (f_move rfl (lt rfl)) rfl rfl rfl rfl (lt rfl) ?_
                refine sq_yes (f_bin rfl rfl (bT (bne_eq_false_iff_eq.mpr (by omega))) (lt rfl)) rfl rfl rfl rfl (lt rfl) ?_
                refine sq_yes (f_move rfl (lt rfl)) rfl rfl rfl rfl (lt rfl) ?_
                refine sq_no rfl rfl rfl rfl rfl (lt rfl) (lt rfl) ?_
                refine sq_no rfl rfl rfl rfl rfl (lt rfl) (lt rfl) ?_
                refine sq_yes (f_pick rfl rfl (lt rfl)) rfl rfl rfl rfl (lt rfl) ?_
                refine sq (f_pick rfl rfl (lt rfl)) rfl rfl ?_
                refine hits_nil ?_
                refine to_next ?_
                refine hits_cond rfl (fun c3 => absurd c3 Bool.false_ne_true) (fun c3 => ?_)
                refine hits_skip ?_
                refine to_next ?_
                refine hits_seq ?_
                refine hits_seq ?_
                refine hits_region ?_
                refine sq (f_move rfl (lt rfl)) rfl rfl ?_
                refine sq (f_bin rfl rfl (bT (beq_iff_eq.mpr (by omega))) (lt rfl)) rfl rfl ?_
                refine hits_nil ?_
                refine to_next ?_
                refine hits_cond rfl (fun c4 => ?_) (fun c4 => absurd c4 Bool.false_ne_true.symm)
                refine hits_seq ?_
                refine hits_region ?_
                refine sq (f_move rfl (lt rfl)) rfl rfl ?_
                refine sq (f_bin rfl rfl (bT (beq_iff_eq.mpr (by omega))) (lt rfl)) rfl rfl ?_
                refine sq (f_assign rfl (lt rfl)) rfl rfl ?_
                refine hits_nil ?_
                refine to_next ?_
                refine hits_ret ?_
                refine to_ret ?_
                exact hits_done (.inl rfl) rfl rfl rfl
              · refine hits_region ?_
                refine sq (f_move rfl (lt rfl)) rfl rfl ?_
                refine sq (f_move rfl (lt rfl)) rfl rfl ?_
                refine sq (f_bin rfl rfl (bT (bne_eq_false_iff_eq.mpr (by omega))) (lt rfl)) rfl rfl ?_
                refine sq (f_move rfl (lt rfl)) rfl rfl ?_
                refine sq_yes (f_move rfl (lt rfl)) rfl rfl rfl rfl (lt rfl) ?_
                refine sq_yes (f_move rfl (lt rfl)) rfl rfl rfl rfl (lt rfl) ?_
                refine sq_yes (f_lenListN rfl rfl un22 (List.length_map _) (lt rfl)) rfl rfl rfl rfl (lt rfl) ?_
                refine sq_yes (f_bin rfl rfl (bT (decide_eq_false (by omega))) (lt rfl)) rfl rfl rfl rfl (lt rfl) ?_
                refine sq (f_pick rfl rfl (lt rfl)) rfl rfl ?_
                refine sq (f_move rfl (lt rfl)) rfl rfl ?_
                refine sq_yes (f_move rfl (lt rfl)) rfl rfl rfl rfl (lt rfl) ?_
                refine sq_yes (f_bin rfl rfl (bT (bne_iff_ne.mpr (by omega))) (lt rfl)) rfl rfl rfl rfl (lt rfl) ?_
                refine sq_yes (f_move rfl (lt rfl)) rfl rfl rfl rfl (lt rfl) ?_
                refine sq_yes (f_move rfl (lt rfl)) rfl rfl rfl rfl (lt rfl) ?_
                refine sq_yes (f_bin rfl rfl (bT (bne_eq_false_iff_eq.mpr (by omega))) (lt rfl)) rfl rfl rfl rfl (lt rfl) ?_
                refine sq_yes (f_pick rfl rfl (lt rfl)) rfl rfl rfl rfl (lt rfl) ?_
                refine sq (f_pick rfl rfl (lt rfl)) rfl rfl ?_
                refine hits_nil ?_
                refine to_next ?_
                refine hits_cond rfl (fun c3 => absurd c3 Bool.false_ne_true) (fun c3 => ?_)
                refine hits_skip ?_
                refine to_next ?_
                refine hits_seq ?_
                refine hits_seq ?_
                refine hits_region ?_
                refine sq (f_move rfl (lt rfl)) rfl rfl ?_
                refine sq (f_bin rfl rfl (bT (beq_eq_false_iff_ne.mpr (by omega))) (lt rfl)) rfl rfl ?_
                refine hits_nil ?_
                refine to_next ?_
                refine hits_cond rfl (fun c4 => absurd c4 Bool.false_ne_true) (fun c4 => ?_)
                refine hits_skip ?_
                refine to_next ?_
                refine hits_seq ?_
                refine hits_region ?_
                refine sq (f_assign rfl (lt rfl)) rfl rfl ?_
                refine hits_nil ?_
                refine to_next ?_
                refine hits_seq ?_
                refine hits_seq ?_
                refine hits_region ?_
                refine sq (f_assign rfl (lt rfl)) rfl rfl ?_
                refine hits_nil ?_
                refine to_next ?_
                refine hits_block ?_
                refine hits_loop (fun x : Nat => [(.slot 3, some (.d (.list 6 (L.map wordD)))), (.slot 12, some (.d (nD (parseS (linesT L)).2.1))), (.slot 14, some (.d (.sc (.string (B (linesT (L.take (x)))))))), (.slot 15, some (.d (nD (x))))]) (fun x : Nat => x ≤ n + 1) (fun x : Nat => n + 1 - x) 0 (Nat.zero_le _) ⟨rfl, rfl, rfl, rfl, trivial⟩ rfl ?_
                intro i hi0
                change i ≤ n + 1 at hi0
                change Hits _ [(.slot 3, some (.d (.list 6 (L.map wordD)))), (.slot 12, some (.d (nD (parseS (linesT L)).2.1))), (.slot 14, some (.d (.sc (.string (B (linesT (L.take (i)))))))), (.slot 15, some (.d (nD (i))))] _
                refine hits_seq ?_
                refine hits_seq ?_
                by_cases hi : i ≤ n
                · obtain ⟨x, hx⟩ : ∃ x, L[i]? = some x := ⟨_, List.getElem?_eq_getElem (by omega)⟩
                  have hgx := (hgood x (List.mem_of_getElem? hx)).1
                  have hto := told_c x (fun e => by rcases hgx.2 with h | h | h | h <;> (have := h.1; simp only at this h; omega)) (fun e => by rcases hgx.2 with h | h | h | h <;> (have := h.1; simp only at this h; first | omega | exact ⟨h.2.2.1, h.2.2.2.1, h.2.2.2.2.1, h.2.2.2.2.2⟩))
                  have hli := (lines_more L i).1
                  have htx := htold x (List.mem_of_getElem? hx)
                  refine hits_region ?_
                  refine sq (f_move rfl (lt rfl)) rfl rfl ?_
                  refine sq (f_move rfl (lt rfl)) rfl rfl ?_
                  refine sq (f_bin rfl rfl (bT (decide_eq_true (by omega))) (lt rfl)) rfl rfl ?_
                  refine hits_nil ?_
                  refine to_next ?_
                  refine hits_cond rfl (fun c5 => ?_) (fun c5 => absurd c5 Bool.false_ne_true.symm)
                  refine hits_skip ?_
                  refine to_next ?_
                  refine hits_seq ?_
                  refine hits_block ?_
                  refine hits_seq ?_
                  refine hits_region ?_
                  refine sq (f_move rfl (lt rfl)) rfl rfl ?_
                  refine sq (f_call en8 rfl (parse_c (linesT (L.take i))) (lt rfl)) rfl rfl ?_
                  refine sq (f_move rfl (lt rfl)) rfl rfl ?_
                  refine sq (f_extract rfl rfl (lt rfl)) rfl rfl ?_
                  refine sq (f_extract rfl rfl (lt rfl)) rfl rfl ?_
                  refine sq (f_extract rfl rfl (lt rfl)) rfl rfl ?_
                  refine sq (f_assign rfl (lt rfl)) rfl rfl ?_
                  refine sq (f_assign rfl (lt rfl)) rfl rfl ?_
                  refine sq (f_assign rfl (lt rfl)) rfl rfl ?_
                  refine hits_nil ?_
                  refine to_next ?_
                  refine hits_seq ?_
                  refine hits_seq ?_
                  by_cases h5 : (parseS (linesT (L.take i))).2.2 = 5
                  · have hp5 := hpre i hi h5
                    refine hits_region ?_
                    refine sq (f_move rfl (lt rfl)) rfl rfl ?_
                    refine sq (f_bin rfl rfl (bT (beq_iff_eq.mpr (by omega))) (lt rfl)) rfl rfl ?_
                    refine sq (f_move rfl (lt rfl)) rfl rfl ?_
                    refine sq_yes (f_move rfl (lt rfl)) rfl rfl rfl rfl (lt rfl) ?_
                    refine sq_yes (f_move rfl (lt rfl)) rfl rfl rfl rfl (lt rfl) ?_
                    refine sq_yes (f_bin rfl rfl (iT (((IntWalk.i64_in _ (by omega)).trans (by omega) : _ = ((i : Int) - 1)))) (lt rfl)) rfl rfl rfl rfl (lt rfl) ?_
                    refine sq_yes (f_maxI rfl rfl (by split <;> omega : _ = ((i - 1 : Nat) : Int)) (lt rfl)) rfl rfl rfl rfl (lt rfl) ?_
                    refine sq_yes (f_bin rfl rfl (bT (bne_eq_false_iff_eq.mpr (by omega))) (lt rfl)) rfl rfl rfl rfl (lt rfl) ?_
                    refine sq (f_pick rfl rfl (lt rfl)) rfl rfl ?_
                    refine hits_nil ?_
                    refine to_next ?_
                    refine hits_cond rfl (fun c6 => absurd c6 Bool.false_ne_true) (fun c6 => ?_)
                    refine hits_skip ?_
                    refine to_next ?_
                    refine hits_region ?_
                    refine sq (f_move rfl (lt rfl)) rfl rfl ?_
                    refine sq (f_move rfl (lt rfl)) rfl rfl ?_
                    refine sq (f_move rfl (lt rfl)) rfl rfl ?_
                    refine sq (f_idxList rfl rfl rfl un22 kd37 (Int.natCast_nonneg _) (wordD_at hx) (lt rfl)) rfl rfl ?_
                    refine sq (f_load kd37 rfl rfl (lt rfl)) rfl rfl ?_
                    refine sq (f_call en9 rfl hto (lt rfl)) rfl rfl ?_
                    refine sq (f_catI rfl rfl (cat_ok (linesT (L.take i)) (told x) (by first | omega | (simp only [List.length_append, List.length_cons, List.length_nil]; omega))) (B_app (linesT (L.take i)) (told x)) (lt rfl)) rfl rfl ?_
                    refine sq (f_catI rfl rfl (cat_ok (linesT (L.take i) ++ told x) ([10]) (by first | omega | (simp only [List.length_append, List.length_cons, List.length_nil]; omega))) (B_app (linesT (L.take i) ++ told x) ([10])) (lt rfl)) rfl rfl ?_
                    refine sq (f_assign rfl (lt rfl)) rfl rfl ?_
                    refine hits_nil ?_
                    refine in_next ?_
                    refine to_next ?_
                    refine hits_region ?_
                    refine sq (f_move rfl (lt rfl)) rfl rfl ?_
                    refine sq (f_bin rfl rfl (iT (((IntWalk.i64_in _ (by omega)).trans (by omega) : _ = ((i + 1 : Nat) : Int)))) (lt rfl)) rfl rfl ?_
                    refine sq (f_assign rfl (lt rfl)) rfl rfl ?_
                    refine hits_nil ?_
                    refine to_next ?_
                    refine round_end (i + 1) (by omega : i + 1 ≤ n + 1) (by omega) ⟨rfl, rfl, (congrArg (fun z => some (V.d (.sc (.string (B z))))) (lines_take hx).symm), rfl, trivial⟩ rfl
                  · refine hits_region ?_
                    refine sq (f_move rfl (lt rfl)) rfl rfl ?_
                    refine sq (f_bin rfl rfl (bT (beq_eq_false_iff_ne.mpr (by omega))) (lt rfl)) rfl rfl ?_
                    refine sq (f_move rfl (lt rfl)) rfl rfl ?_
                    refine sq_no rfl rfl rfl rfl rfl (lt rfl) (lt rfl) ?_
                    refine sq_no rfl rfl rfl rfl rfl (lt rfl) (lt rfl) ?_
                    refine sq_no rfl rfl rfl rfl rfl (lt rfl) (lt rfl) ?_
                    refine sq_no rfl rfl rfl rfl rfl (lt rfl) (lt rfl) ?_
                    refine sq_no rfl rfl rfl rfl rfl (lt rfl) (lt rfl) ?_
                    refine sq (f_pick rfl rfl (lt rfl)) rfl rfl ?_
                    refine hits_nil ?_
                    refine to_next ?_
                    refine hits_cond rfl (fun c6 => absurd c6 Bool.false_ne_true) (fun c6 => ?_)
                    refine hits_skip ?_
                    refine to_next ?_
                    refine hits_region ?_
                    refine sq (f_move rfl (lt rfl)) rfl rfl ?_
                    refine sq (f_move rfl (lt rfl)) rfl rfl ?_
                    refine sq (f_move rfl (lt rfl)) rfl rfl ?_
                    refine sq (f_idxList rfl rfl rfl un22 kd37 (Int.natCast_nonneg _) (wordD_at hx) (lt rfl)) rfl rfl ?_
                    refine sq (f_load kd37 rfl rfl (lt rfl)) rfl rfl ?_
                    refine sq (f_call en9 rfl hto (lt rfl)) rfl rfl ?_
                    refine sq (f_catI rfl rfl (cat_ok (linesT (L.take i)) (told x) (by first | omega | (simp only [List.length_append, List.length_cons, List.length_nil]; omega))) (B_app (linesT (L.take i)) (told x)) (lt rfl)) rfl rfl ?_
                    refine sq (f_catI rfl rfl (cat_ok (linesT (L.take i) ++ told x) ([10]) (by first | omega | (simp only [List.length_append, List.length_cons, List.length_nil]; omega))) (B_app (linesT (L.take i) ++ told x) ([10])) (lt rfl)) rfl rfl ?_
                    refine sq (f_assign rfl (lt rfl)) rfl rfl ?_
                    refine hits_nil ?_
                    refine in_next ?_
                    refine to_next ?_
                    refine hits_region ?_
                    refine sq (f_move rfl (lt rfl)) rfl rfl ?_
                    refine sq (f_bin rfl rfl (iT (((IntWalk.i64_in _ (by omega)).trans (by omega) : _ = ((i + 1 : Nat) : Int)))) (lt rfl)) rfl rfl ?_
                    refine sq (f_assign rfl (lt rfl)) rfl rfl ?_
                    refine hits_nil ?_
                    refine to_next ?_
                    refine round_end (i + 1) (by omega : i + 1 ≤ n + 1) (by omega) ⟨rfl, rfl, (congrArg (fun z => some (V.d (.sc (.string (B z))))) (lines_take hx).symm), rfl, trivial⟩ rfl
                · obtain rfl : i = n + 1 := by omega
                  have hli := (lines_more L (n + 1)).1
                  refine hits_region ?_
                  refine sq (f_move rfl (lt rfl)) rfl rfl ?_
                  refine sq (f_move rfl (lt rfl)) rfl rfl ?_
                  refine sq (f_bin rfl rfl (bT (decide_eq_false (by omega))) (lt rfl)) rfl rfl ?_
                  refine hits_nil ?_
                  refine to_next ?_
                  refine hits_cond rfl (fun c5 => absurd c5 Bool.false_ne_true) (fun c5 => ?_)
                  refine hits_exit ?_
                  refine to_exit ?_
                  refine to_exit ?_
                  refine in_hit rfl ?_
                  refine to_next ?_
                  refine hits_seq ?_
                  refine hits_region ?_
                  refine sq (f_move rfl (lt rfl)) rfl rfl ?_
                  refine sq (f_catI rfl rfl (cat_ok (linesT (L.take (n + 1))) ([93, 10]) (by first | omega | (simp only [List.length_append, List.length_cons, List.length_nil]; omega))) (B_app (linesT (L.take (n + 1))) ([93, 10])) (lt rfl)) rfl rfl ?_
                  refine sq (f_call en8 rfl (parse_c (linesT (L.take (n + 1)) ++ [93, 10])) (lt rfl)) rfl rfl ?_
                  refine sq (f_move rfl (lt rfl)) rfl rfl ?_
                  refine sq (f_extract rfl rfl (lt rfl)) rfl rfl ?_
                  refine sq (f_extract rfl rfl (lt rfl)) rfl rfl ?_
                  refine sq (f_extract rfl rfl (lt rfl)) rfl rfl ?_
                  refine sq (f_assign rfl (lt rfl)) rfl rfl ?_
                  refine sq (f_assign rfl (lt rfl)) rfl rfl ?_
                  refine sq (f_assign rfl (lt rfl)) rfl rfl ?_
                  refine hits_nil ?_
                  refine to_next ?_
                  refine hits_seq ?_
                  by_cases hl : n = L.length - 1
                  · refine hits_region ?_
                    refine sq (f_move rfl (lt rfl)) rfl rfl ?_
                    refine sq (f_move rfl (lt rfl)) rfl rfl ?_
                    refine sq (f_lenListN rfl rfl un22 (List.length_map _) (lt rfl)) rfl rfl ?_
                    refine sq (f_bin rfl rfl (iT (((IntWalk.i64_in _ (by omega)).trans (by omega) : _ = ((L.length - 1 : Nat) : Int)))) (lt rfl)) rfl rfl ?_
                    refine sq (f_bin rfl rfl (bT (beq_iff_eq.mpr (by omega))) (lt rfl)) rfl rfl ?_
                    refine sq (f_move rfl (lt rfl)) rfl rfl ?_
                    refine sq_no rfl rfl rfl rfl rfl (lt rfl) (lt rfl) ?_
                    refine sq_no rfl rfl rfl rfl rfl (lt rfl) (lt rfl) ?_
                    refine sq_no rfl rfl rfl rfl rfl (lt rfl) (lt rfl) ?_
                    refine sq_no rfl rfl rfl rfl rfl (lt rfl) (lt rfl) ?_
                    refine sq_no rfl rfl rfl rfl rfl (lt rfl) (lt rfl) ?_
                    refine sq_no rfl rfl rfl rfl rfl (lt rfl) (lt rfl) ?_
                    refine sq_no rfl rfl rfl rfl rfl (lt rfl) (lt rfl) ?_
                    refine sq (f_pick rfl rfl (lt rfl)) rfl rfl ?_
                    refine sq (f_assign rfl (lt rfl)) rfl rfl ?_
                    refine hits_nil ?_
                    refine to_next ?_
                    refine hits_ret ?_
                    exact hits_done (.inl rfl) rfl rfl rfl
                  · obtain ⟨z1, z2⟩ := hlast hl
                    refine hits_region ?_
                    refine sq (f_move rfl (lt rfl)) rfl rfl ?_
                    refine sq (f_move rfl (lt rfl)) rfl rfl ?_
                    refine sq (f_lenListN rfl rfl un22 (List.length_map _) (lt rfl)) rfl rfl ?_
                    refine sq (f_bin rfl rfl (iT (((IntWalk.i64_in _ (by omega)).trans (by omega) : _ = ((L.length - 1 : Nat) : Int)))) (lt rfl)) rfl rfl ?_
                    refine sq (f_bin rfl rfl (bT (beq_eq_false_iff_ne.mpr (by omega))) (lt rfl)) rfl rfl ?_
                    refine sq (f_move rfl (lt rfl)) rfl rfl ?_
                    refine sq_yes (f_move rfl (lt rfl)) rfl rfl rfl rfl (lt rfl) ?_
                    refine sq_yes (f_bin rfl rfl (bT (beq_iff_eq.mpr (by omega))) (lt rfl)) rfl rfl rfl rfl (lt rfl) ?_
                    refine sq_yes (f_move rfl (lt rfl)) rfl rfl rfl rfl (lt rfl) ?_
                    refine sq_yes (f_move rfl (lt rfl)) rfl rfl rfl rfl (lt rfl) ?_
                    refine sq_yes (f_move rfl (lt rfl)) rfl rfl rfl rfl (lt rfl) ?_
                    refine sq_yes (f_bin rfl rfl (bT (beq_iff_eq.mpr (by omega))) (lt rfl)) rfl rfl rfl rfl (lt rfl) ?_
                    refine sq_yes (f_pick rfl rfl (lt rfl)) rfl rfl rfl rfl (lt rfl) ?_
                    refine sq (f_pick rfl rfl (lt rfl)) rfl rfl ?_
                    refine sq (f_assign rfl (lt rfl)) rfl rfl ?_
                    refine hits_nil ?_
                    refine to_next ?_
                    refine hits_ret ?_
                    exact hits_done (.inl rfl) rfl rfl rfl

theorem lines_c (s : Tx) : CallsP Tryz.prog Lw 3 [txD s] (.sc (.bool true)) := by
  by_cases h : 65536 < s.length
  · exact lines_no (n := 0) (e := 3) (by decide) (words_big (B s) (by rw [B_size]; exact h))
  · have hw := words_c s (by omega)
    cases hW : W s 0 with
    | inl n => rw [hW] at hw; exact lines_no (n := n) (e := 4) (by decide) hw
    | inr L => exact lines_in (by omega) hW
theorem pointsmanlaw08_ParseLines.calls (a0 : ByteArray) (r : Bool) (w : World) (hg : Lw w) (hk : r = true) : Calls Tryz.prog 3 #[.string a0] w fun e w' => e = .returned (.bool r) ∧ Below w.heap.size w w' := by
  subst hk
  have := lines_c a0.data.toList
  rw [txD, B_of] at this
  exact this.calls rfl rfl w hg

end Go.Proofs.YtbgeejmhkmjfdaaGreatDoor.Ln
