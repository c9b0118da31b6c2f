/- The law ParseBlanks over data. -/
import Derived.Test.YtogodijfdkffaaaGreatDoorJ13
import Derived.Test.YtogodijfdkffaaaGreatDoorAbTo
import Derived.OpenShut
set_option linter.unusedVariables false
set_option linter.unusedSimpArgs false
set_option maxRecDepth 100000
namespace Go.Proofs.YtogodijfdkffaaaGreatDoor.Ln
open Go Go.RowKit Go.Ab Go.Proofs 
theorem en10 : enters Tryz.prog 10 = true := by kernel_rfl
theorem en12 : enters Tryz.prog 12 = true := by kernel_rfl
theorem en11 : enters Tryz.prog 11 = true := by kernel_rfl
theorem blanks_no {s : Tx} {l : List D} {n e : Nat} {r : List Dc × Nat × Nat} (hr : r.2.2 ≠ 0) (hpar : CallsP Tryz.prog Lw 7 [txD s] (parsedD r)) (hlex : CallsP Tryz.prog Lw 8 [txD s] (.tup [.list 6 l, nD n, nD e])) : CallsP Tryz.prog Lw 3 [txD s] (.sc (.bool true)) := by
  refine callsP_of gs_lw Tryz.func3 rfl Tryz.ntmps3 rfl fun w0 S0 stab => ?_
  refine sqq <| rgq <| asq rfl rfl <| nxq <| sqq <| rgq <| mvq rfl rfl <| sq (f_call en7 rfl hpar (lt rfl)) rfl rfl ?_
  refine mvq rfl rfl <| exq rfl rfl rfl <| exq rfl rfl rfl <| exq rfl rfl rfl <| asq rfl rfl <| asq rfl rfl <| asq rfl rfl <| nxq ?_
  refine sqq <| rgq <| mvq rfl rfl <| sq (f_call en8 rfl hlex (lt rfl)) rfl rfl <| mvq rfl rfl <| exq rfl rfl rfl <| exq rfl rfl rfl <| exq rfl rfl rfl ?_
  refine asq rfl rfl <| asq rfl rfl <| asq rfl rfl <| nxq <| sqq <| sqq <| rgq <| sq (f_call en9 rfl alive_c (lt rfl)) rfl rfl ?_
  refine sq (f_un rfl rfl (lt rfl)) rfl rfl <| mvq rfl rfl <| sq_yes (f_move rfl (lt rfl)) rfl rfl rfl rfl (lt rfl) <| sq_yes (f_bin rfl rfl (bT (bne_iff_ne.mpr (by omega))) (lt rfl)) rfl rfl rfl rfl (lt rfl) <| pkq rfl rfl rfl <| mvq rfl rfl <| noq rfl rfl rfl rfl rfl rfl rfl <| noq rfl rfl rfl rfl rfl rfl rfl ?_
  refine noq rfl rfl rfl rfl rfl rfl rfl <| pkq rfl rfl rfl <| nxq <| cnT rfl <| sqq <| rgq <| sq (f_call en9 rfl alive_c (lt rfl)) rfl rfl <| asq rfl rfl ?_
  refine nxq <| rtq <| to_ret ?_
  exact hits_done (.inl rfl) rfl rfl rfl
set_option maxHeartbeats 4000000 in
theorem blanks_in {s : Tx} {L : List Wd} {ds : List Dc} {n : Nat} (hW : W s 0 = .inr L) (hp : parseS s = (ds, n, 0)) : CallsP Tryz.prog Lw 3 [txD s] (.sc (.bool true)) := by
  have hs := (parse_ok hp).1
  have hlex := words_c s hs
  rw [hW] at hlex
  have hrow := W_row (s.length + 1) s 0 L (by omega) hW
  have hgood := row_good hrow
  have htold := W_told (s.length + 1) s 0 L (by omega) hW
  have hpar := parse_as hp
  refine callsP_of gs_lw Tryz.func3 rfl Tryz.ntmps3 rfl fun w0 S0 stab => ?_
  refine sqq <| rgq <| asq rfl rfl <| nxq <| sqq <| rgq <| mvq rfl rfl <| sq (f_call en7 rfl hpar (lt rfl)) rfl rfl ?_
  refine mvq rfl rfl <| exq rfl rfl rfl <| exq rfl rfl rfl <| exq rfl rfl rfl <| asq rfl rfl <| asq rfl rfl <| asq rfl rfl <| nxq ?_
  refine sqq <| rgq <| mvq rfl rfl <| sq (f_call en8 rfl hlex (lt rfl)) rfl rfl <| mvq rfl rfl <| exq rfl rfl rfl <| exq rfl rfl rfl <| exq rfl rfl rfl ?_
  refine asq rfl rfl <| asq rfl rfl <| asq rfl rfl <| nxq <| sqq <| sqq ?_
  by_cases h8 : 8000 < L.length
  · refine rgq <| sq (f_call en9 rfl alive_c (lt rfl)) rfl rfl <| sq (f_un rfl rfl (lt rfl)) rfl rfl <| mvq rfl rfl <| sq_yes (f_move rfl (lt rfl)) rfl rfl rfl rfl (lt rfl) <| sq_yes (f_bin rfl rfl (bT (b' := false) rfl) (lt rfl)) rfl rfl rfl rfl (lt rfl) <| pkq rfl rfl rfl <| mvq rfl rfl ?_
    refine sq_yes (f_move rfl (lt rfl)) rfl rfl rfl rfl (lt rfl) <| sq_yes (f_lenListN rfl rfl un27 (List.length_map _) (lt rfl)) rfl rfl rfl rfl (lt rfl) <| sq_yes (f_bin rfl rfl (bT (decide_eq_true (by omega))) (lt rfl)) rfl rfl rfl rfl (lt rfl) <| pkq rfl rfl rfl <| nxq <| cnT rfl <| sqq <| rgq ?_
    refine sq (f_call en9 rfl alive_c (lt rfl)) rfl rfl <| asq rfl rfl <| nxq <| rtq <| to_ret ?_
    exact hits_done (.inl rfl) rfl rfl rfl
  · refine rgq <| sq (f_call en9 rfl alive_c (lt rfl)) rfl rfl <| sq (f_un rfl rfl (lt rfl)) rfl rfl <| mvq rfl rfl <| sq_yes (f_move rfl (lt rfl)) rfl rfl rfl rfl (lt rfl) <| sq_yes (f_bin rfl rfl (bT (b' := false) rfl) (lt rfl)) rfl rfl rfl rfl (lt rfl) <| pkq rfl rfl rfl <| mvq rfl rfl ?_
    refine sq_yes (f_move rfl (lt rfl)) rfl rfl rfl rfl (lt rfl) <| sq_yes (f_lenListN rfl rfl un27 (List.length_map _) (lt rfl)) rfl rfl rfl rfl (lt rfl) <| sq_yes (f_bin rfl rfl (bT (decide_eq_false (by omega))) (lt rfl)) rfl rfl rfl rfl (lt rfl) <| pkq rfl rfl rfl <| nxq <| cnF rfl <| skq <| toq ?_
    refine sqq <| rgq <| asq rfl rfl <| asq rfl rfl <| nxq <| sqq <| sqq <| rgq ?_
    refine asq rfl rfl <| nxq <| hits_block <| hits_loop (fun x : Nat => [(.slot 3, some (.d (.list 15 (ds.map dcD)))), (.slot 6, some (.d (.list 6 (L.map wordD)))), (.slot 9, some (.d (.sc (.string (B (blanksT (L.take (x)))))))), (.slot 10, some (.d (.sc (.string (B (linesT (L.take (x)))))))), (.slot 11, some (.d (nD (x))))]) (fun x : Nat => x ≤ L.length) (fun x : Nat => L.length - x) 0 (Nat.zero_le _) ⟨rfl, rfl, rfl, rfl, rfl, trivial⟩ rfl ?_
    intro i hi0
    change i ≤ L.length at hi0
    change Hits _ [(.slot 3, some (.d (.list 15 (ds.map dcD)))), (.slot 6, some (.d (.list 6 (L.map wordD)))), (.slot 9, some (.d (.sc (.string (B (blanksT (L.take (i)))))))), (.slot 10, some (.d (.sc (.string (B (linesT (L.take (i)))))))), (.slot 11, some (.d (nD (i))))] _
    refine sqq <| sqq ?_
    by_cases hi : i < L.length
    · obtain ⟨x, hx⟩ : ∃ x, L[i]? = some x := ⟨_, List.getElem?_eq_getElem (by omega)⟩
      have hgx := (hgood x (List.mem_of_getElem? hx)).1
      have hto := told_c x (fun e => by rcases hgx.2 with h | h | h | h <;> (have := h.1; simp only at this h; omega)) (fun e => by rcases hgx.2 with h | h | h | h <;> (have := h.1; simp only at this h; first | omega | exact ⟨h.2.2.1, h.2.2.2.1, h.2.2.2.2.1, h.2.2.2.2.2⟩))
      have htx := htold x (List.mem_of_getElem? hx)
      have hbl := blanks_len (L.take i)
      by_cases hb : (blanksT (L.take i)).length ≤ 65536
      · refine rgq <| mvq rfl rfl <| mvq rfl rfl <| sq (f_lenListN rfl rfl un27 (List.length_map _) (lt rfl)) rfl rfl <| sq (f_bin rfl rfl (bT (decide_eq_true (by omega))) (lt rfl)) rfl rfl <| mvq rfl rfl <| sq_yes (f_move rfl (lt rfl)) rfl rfl rfl rfl (lt rfl) <| sq_yes (f_lenStr rfl un9 (lt rfl)) rfl rfl rfl rfl (lt rfl) ?_
        refine sq_yes (f_bin rfl rfl (bT (decide_eq_true (by rw [B_size]; omega))) (lt rfl)) rfl rfl rfl rfl (lt rfl) ?_
        refine pkq rfl rfl rfl <| nxq <| cnT rfl <| skq <| toq <| sqq <| hits_block <| sqq ?_
        refine rgq <| mvq rfl rfl <| mvq rfl rfl <| mvq rfl rfl <| sq (f_idxList rfl rfl rfl un27 kd37 (Int.natCast_nonneg _) (wordD_at hx) (lt rfl)) rfl rfl <| ldq kd37 rfl rfl rfl <| sq (f_call en10 rfl hto (lt rfl)) rfl rfl <| sq (f_catI rfl rfl (cat_ok (blanksT (L.take i)) (told x) (by first | omega | (simp only [List.length_append, List.length_cons, List.length_nil]; omega))) (B_app (blanksT (L.take i)) (told x)) (lt rfl)) rfl rfl ?_
        refine sq (f_catI rfl rfl (cat_ok (blanksT (L.take i) ++ told x) ([32]) (by first | omega | (simp only [List.length_append, List.length_cons, List.length_nil]; omega))) (B_app (blanksT (L.take i) ++ told x) ([32])) (lt rfl)) rfl rfl ?_
        refine asq rfl rfl <| nxq <| rgq <| mvq rfl rfl <| mvq rfl rfl <| mvq rfl rfl <| sq (f_idxList rfl rfl rfl un27 kd37 (Int.natCast_nonneg _) (wordD_at hx) (lt rfl)) rfl rfl <| ldq kd37 rfl rfl rfl ?_
        refine sq (f_call en10 rfl hto (lt rfl)) rfl rfl <| sq (f_catI rfl rfl (cat_ok (linesT (L.take i)) (told x) (by first | omega | (simp only [List.length_append, List.length_cons, List.length_nil]; omega))) (B_app (linesT (L.take i)) (told x)) (lt rfl)) rfl rfl ?_
        refine sq (f_catI rfl rfl (cat_ok (linesT (L.take i) ++ told x) ([10]) (by first | omega | (simp only [List.length_append, List.length_cons, List.length_nil]; omega))) (B_app (linesT (L.take i) ++ told x) ([10])) (lt rfl)) rfl rfl ?_
        refine asq rfl rfl <| nlq <| inq <| toq <| rgq <| mvq rfl rfl <| sq (f_bin rfl rfl (iT (((IntWalk.i64_in _ (by omega)).trans (by omega) : _ = ((i + 1 : Nat) : Int)))) (lt rfl)) rfl rfl <| asq rfl rfl ?_
        refine nxq ?_
        refine round_end (i + 1) (by omega : i + 1 ≤ L.length) (by omega) ⟨rfl, rfl, (congrArg (fun z => some (V.d (.sc (.string (B z))))) (blanks_take hx).symm), (congrArg (fun z => some (V.d (.sc (.string (B z))))) (lines_take hx).symm), rfl, trivial⟩ rfl
      · refine rgq <| mvq rfl rfl <| mvq rfl rfl <| sq (f_lenListN rfl rfl un27 (List.length_map _) (lt rfl)) rfl rfl <| sq (f_bin rfl rfl (bT (decide_eq_true (by omega))) (lt rfl)) rfl rfl <| mvq rfl rfl <| sq_yes (f_move rfl (lt rfl)) rfl rfl rfl rfl (lt rfl) <| sq_yes (f_lenStr rfl un9 (lt rfl)) rfl rfl rfl rfl (lt rfl) ?_
        refine sq_yes (f_bin rfl rfl (bT (decide_eq_false (by rw [B_size]; omega))) (lt rfl)) rfl rfl rfl rfl (lt rfl) ?_
        refine pkq rfl rfl rfl <| nxq <| cnF rfl <| hits_exit <| to_exit <| to_exit <| in_hit rfl <| toq ?_
        refine sqq <| sqq <| rgq <| mvq rfl rfl <| sq (f_lenStr rfl un9 (lt rfl)) rfl rfl <| sq (f_bin rfl rfl (bT (decide_eq_true (by rw [B_size]; omega))) (lt rfl)) rfl rfl ?_
        refine nxq <| cnT rfl <| sqq <| rgq <| asq rfl rfl <| nxq <| rtq <| to_ret ?_
        exact hits_done (.inl rfl) rfl rfl rfl
    · obtain rfl : i = L.length := by omega
      refine rgq <| mvq rfl rfl <| mvq rfl rfl <| sq (f_lenListN rfl rfl un27 (List.length_map _) (lt rfl)) rfl rfl <| sq (f_bin rfl rfl (bT (decide_eq_false (by omega))) (lt rfl)) rfl rfl <| mvq rfl rfl <| noq rfl rfl rfl rfl rfl rfl rfl <| noq rfl rfl rfl rfl rfl rfl rfl ?_
      refine noq rfl rfl rfl rfl rfl rfl rfl <| pkq rfl rfl rfl <| nxq <| cnF rfl <| hits_exit <| to_exit <| to_exit <| in_hit rfl ?_
      refine toq <| sqq <| sqq ?_
      by_cases hT : 65536 < (blanksT L).length
      · rw [List.take_length]
        refine rgq <| mvq rfl rfl <| sq (f_lenStr rfl un9 (lt rfl)) rfl rfl <| sq (f_bin rfl rfl (bT (decide_eq_true (by rw [B_size]; omega))) (lt rfl)) rfl rfl ?_
        refine nxq <| cnT rfl <| sqq <| rgq <| asq rfl rfl <| nxq <| rtq <| to_ret ?_
        exact hits_done (.inl rfl) rfl rfl rfl
      · rw [List.take_length]
        have hbl := blanks_len L
        obtain ⟨es, q1, q2⟩ := parse_like hp hW (W_blanks hrow 0) (by omega) (like_map L 0)
        obtain ⟨fs, q3, q4⟩ := parse_like hp hW (W_linesL hrow) (by omega) (like_numb L)
        have hw1 := parse_fit hp
        have hw2 := parse_fit q1
        have hw3 := parse_fit q3
        refine rgq <| mvq rfl rfl <| sq (f_lenStr rfl un9 (lt rfl)) rfl rfl <| sq (f_bin rfl rfl (bT (decide_eq_false (by rw [B_size]; omega))) (lt rfl)) rfl rfl ?_
        refine nxq <| cnF rfl <| skq <| toq <| sqq <| rgq <| mvq rfl rfl <| sq (f_call en7 rfl (parse_as q1) (lt rfl)) rfl rfl ?_
        refine mvq rfl rfl <| exq rfl rfl rfl <| exq rfl rfl rfl <| exq rfl rfl rfl <| asq rfl rfl <| asq rfl rfl <| asq rfl rfl <| nxq ?_
        refine sqq <| rgq <| mvq rfl rfl <| sq (f_call en7 rfl (parse_as q3) (lt rfl)) rfl rfl <| mvq rfl rfl <| exq rfl rfl rfl <| exq rfl rfl rfl <| exq rfl rfl rfl ?_
        refine asq rfl rfl <| asq rfl rfl <| asq rfl rfl <| nxq <| sqq <| rgq <| mvq rfl rfl <| sq (f_bin rfl rfl (bT (b' := true) rfl) (lt rfl)) rfl rfl ?_
        refine mvq rfl rfl <| sq_yes (f_move rfl (lt rfl)) rfl rfl rfl rfl (lt rfl) <| sq_yes (f_bin rfl rfl (bT (b' := true) rfl) (lt rfl)) rfl rfl rfl rfl (lt rfl) <| pkq rfl rfl rfl <| mvq rfl rfl <| sq_yes (f_move rfl (lt rfl)) rfl rfl rfl rfl (lt rfl) <| sq_yes (f_call en12 rfl (bare_c hw1) (lt rfl)) rfl rfl rfl rfl (lt rfl) <| sq_yes (f_move rfl (lt rfl)) rfl rfl rfl rfl (lt rfl) ?_
        refine sq_yes (f_call en12 rfl (bare_c hw2) (lt rfl)) rfl rfl rfl rfl (lt rfl) <| sq_yes (f_call en11 rfl (same_c hw1 q2) (lt rfl)) rfl rfl rfl rfl (lt rfl) <| pkq rfl rfl rfl <| mvq rfl rfl <| sq_yes (f_move rfl (lt rfl)) rfl rfl rfl rfl (lt rfl) <| sq_yes (f_call en12 rfl (bare_c hw1) (lt rfl)) rfl rfl rfl rfl (lt rfl) <| sq_yes (f_move rfl (lt rfl)) rfl rfl rfl rfl (lt rfl) <| sq_yes (f_call en12 rfl (bare_c hw3) (lt rfl)) rfl rfl rfl rfl (lt rfl) ?_
        refine sq_yes (f_call en11 rfl (same_c hw1 q4) (lt rfl)) rfl rfl rfl rfl (lt rfl) <| pkq rfl rfl rfl <| asq rfl rfl <| nxq <| rtq ?_
        exact hits_done (.inl rfl) rfl rfl rfl
theorem blanks_c (s : Tx) : CallsP Tryz.prog Lw 3 [txD s] (.sc (.bool true)) := by
  obtain ⟨l, n, e, hlex⟩ := words_any s
  by_cases h : (parseS s).2.2 = 0
  · have hp : parseS s = ((parseS s).1, (parseS s).2.1, 0) := by rw [← h]
    obtain ⟨_, _, L, _, hW, _⟩ := parse_ok hp
    exact blanks_in hW hp
  · exact blanks_no h (parse_c s) hlex
theorem pointsmanlaw08_ParseBlanks.calls (a0 : ByteArray) (r : Bool) (w : World) (hg : Lw w) (hk : r = true) : Calls Tryz.prog 3 #[.string a0] w fun e w' => e = .returned (.bool r) ∧ Below w.heap.size w w' := by
  subst hk
  have := blanks_c a0.data.toList
  rw [txD, B_of] at this
  exact this.calls rfl rfl w hg
end Go.Proofs.YtogodijfdkffaaaGreatDoor.Ln
