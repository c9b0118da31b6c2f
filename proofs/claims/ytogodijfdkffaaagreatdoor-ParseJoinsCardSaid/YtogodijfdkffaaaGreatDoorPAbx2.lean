/- The law ParseJoins over data. -/
import Derived.Test.YtogodijfdkffaaaGreatDoorJ13
import Derived.Test.YtogodijfdkffaaaGreatDoorAbEj
import Derived.Test.YtogodijfdkffaaaGreatDoorAbGive
import Derived.OpenShut
set_option linter.unusedVariables false
set_option linter.unusedSimpArgs false
set_option maxRecDepth 100000
namespace Go.Proofs.YtogodijfdkffaaaGreatDoor.Ln
open Go Go.RowKit Go.Ab Go.Proofs 
theorem apkP : apk Tryz.prog 23 23 = some (56, 15, 248) := by kernel_rfl
theorem en12 : enters Tryz.prog 12 = true := by kernel_rfl
theorem en11 : enters Tryz.prog 11 = true := by kernel_rfl
theorem dcs_one (l : List Dc) : ((flat (l.map dcD)).all fun q => (V.d q).one) = true := by
  induction l with
  | nil => rfl
  | cons x l ih => rw [List.map_cons, show flat (dcD x :: l.map dcD) = (dcD x).cells ++ flat (l.map dcD) from by simp [flat], List.all_append, ih]; rfl
theorem join_c {ds d1 d2 : List Dc} (h : Wide1 ds) (e : ds.map eDc = d1.map eDc ++ d2.map eDc) : CallsP Tryz.prog Lw 11 [.list 15 ((ds.map eDc).map dcD), .list 15 ((d1.map eDc).map dcD ++ (d2.map eDc).map dcD)] (.sc (.bool true)) := by
  have := same_program (ds.map eDc) (ds.map eDc) h.e.fit h.e.2
  rw [same_self] at this
  rw [← List.map_append, ← e]; exact this
set_option maxHeartbeats 4000000 in
theorem joins_g {a b : Tx} {d1 d2 : List Dc} {n1 e1 n2 e2 : Nat} (h1 : parseS a = (d1, n1, e1)) (h2 : parseS b = (d2, n2, e2)) : CallsP Tryz.prog Lw 4 [txD a, txD b] (.sc (.bool true)) := by
  have p1 := parse_as h1
  have p2 := parse_as h2
  have sa := B_size a
  have sb := B_size b
  refine callsP_of gs_lw Tryz.func4 rfl Tryz.ntmps4 rfl fun w0 S0 stab => ?_
  refine sqq <| rgq <| asq rfl rfl <| nxq <| sqq <| rgq <| mvq rfl rfl <| sq (f_call en7 rfl p1 (lt rfl)) rfl rfl ?_
  refine mvq rfl rfl <| exq rfl rfl rfl <| exq rfl rfl rfl <| exq rfl rfl rfl <| asq rfl rfl <| asq rfl rfl <| asq rfl rfl <| nxq ?_
  refine sqq <| rgq <| mvq rfl rfl <| sq (f_call en7 rfl p2 (lt rfl)) rfl rfl <| mvq rfl rfl <| exq rfl rfl rfl <| exq rfl rfl rfl <| exq rfl rfl rfl ?_
  refine asq rfl rfl <| asq rfl rfl <| asq rfl rfl <| nxq <| sqq <| sqq ?_
  by_cases q1 : e1 = 0
  · subst q1
    have m1 := (parse_ok h1).1
    by_cases q2 : e2 = 0
    · subst q2
      have m2 := (parse_ok h2).1
      by_cases q3 : 65535 < a.length + b.length
      · refine rgq <| sq (f_call en9 rfl alive_c (lt rfl)) rfl rfl <| sq (f_un rfl rfl (lt rfl)) rfl rfl <| mvq rfl rfl <| sq_yes (f_move rfl (lt rfl)) rfl rfl rfl rfl (lt rfl) <| sq_yes (f_bin rfl rfl (bT (b' := false) rfl) (lt rfl)) rfl rfl rfl rfl (lt rfl) <| pkq rfl rfl rfl <| mvq rfl rfl ?_
        refine sq_yes (f_move rfl (lt rfl)) rfl rfl rfl rfl (lt rfl) <| sq_yes (f_bin rfl rfl (bT (b' := false) rfl) (lt rfl)) rfl rfl rfl rfl (lt rfl) <| pkq rfl rfl rfl <| mvq rfl rfl <| sq_yes (f_move rfl (lt rfl)) rfl rfl rfl rfl (lt rfl) <| sq_yes (f_lenStr rfl un9 (lt rfl)) rfl rfl rfl rfl (lt rfl) <| sq_yes (f_move rfl (lt rfl)) rfl rfl rfl rfl (lt rfl) <| sq_yes (f_lenStr rfl un9 (lt rfl)) rfl rfl rfl rfl (lt rfl) ?_
        refine sq_yes (f_bin rfl rfl (iT (((IntWalk.i64_in _ (by omega)).trans (by omega) : _ = ((a.length + b.length : Nat) : Int)))) (lt rfl)) rfl rfl rfl rfl (lt rfl) <| sq_yes (f_bin rfl rfl (bT (decide_eq_true (by omega))) (lt rfl)) rfl rfl rfl rfl (lt rfl) <| pkq rfl rfl rfl <| nxq <| cnT rfl <| sqq <| rgq <| sq (f_call en9 rfl alive_c (lt rfl)) rfl rfl ?_
        refine asq rfl rfl <| nxq <| rtq <| to_ret ?_
        exact hits_done (.inl rfl) rfl rfl rfl
      · refine rgq <| sq (f_call en9 rfl alive_c (lt rfl)) rfl rfl <| sq (f_un rfl rfl (lt rfl)) rfl rfl <| mvq rfl rfl <| sq_yes (f_move rfl (lt rfl)) rfl rfl rfl rfl (lt rfl) <| sq_yes (f_bin rfl rfl (bT (b' := false) rfl) (lt rfl)) rfl rfl rfl rfl (lt rfl) <| pkq rfl rfl rfl <| mvq rfl rfl ?_
        refine sq_yes (f_move rfl (lt rfl)) rfl rfl rfl rfl (lt rfl) <| sq_yes (f_bin rfl rfl (bT (b' := false) rfl) (lt rfl)) rfl rfl rfl rfl (lt rfl) <| pkq rfl rfl rfl <| mvq rfl rfl <| sq_yes (f_move rfl (lt rfl)) rfl rfl rfl rfl (lt rfl) <| sq_yes (f_lenStr rfl un9 (lt rfl)) rfl rfl rfl rfl (lt rfl) <| sq_yes (f_move rfl (lt rfl)) rfl rfl rfl rfl (lt rfl) <| sq_yes (f_lenStr rfl un9 (lt rfl)) rfl rfl rfl rfl (lt rfl) ?_
        refine sq_yes (f_bin rfl rfl (iT (((IntWalk.i64_in _ (by omega)).trans (by omega) : _ = ((a.length + b.length : Nat) : Int)))) (lt rfl)) rfl rfl rfl rfl (lt rfl) <| sq_yes (f_bin rfl rfl (bT (decide_eq_false (by omega))) (lt rfl)) rfl rfl rfl rfl (lt rfl) <| pkq rfl rfl rfl <| nxq <| cnF rfl <| skq <| toq <| sqq ?_
        rcases parse_join h1 h2 (by omega) with h3 | ⟨ds, h3, h4⟩
        · refine rgq <| mvq rfl rfl <| sq (f_catI rfl rfl (cat_ok (a) ([10]) (by first | omega | (simp only [List.length_append, List.length_cons, List.length_nil]; omega))) (B_app (a) ([10])) (lt rfl)) rfl rfl ?_
          refine mvq rfl rfl <| sq (f_catI rfl rfl (cat_ok (a ++ [10]) (b) (by first | omega | (simp only [List.length_append, List.length_cons, List.length_nil]; omega))) (B_app (a ++ [10]) (b)) (lt rfl)) rfl rfl ?_
          refine sq (f_call en7 rfl (parse_as h3) (lt rfl)) rfl rfl <| mvq rfl rfl <| exq rfl rfl rfl <| exq rfl rfl rfl <| exq rfl rfl rfl <| asq rfl rfl <| asq rfl rfl <| asq rfl rfl ?_
          refine nxq <| sqq <| sqq <| rgq <| mvq rfl rfl <| sq (f_bin rfl rfl (bT (b' := true) rfl) (lt rfl)) rfl rfl <| nxq <| cnT rfl ?_
          refine sqq <| rgq <| mvq rfl rfl <| sq (f_bin rfl rfl (bT (b' := true) rfl) (lt rfl)) rfl rfl <| mvq rfl rfl <| sq_yes (f_move rfl (lt rfl)) rfl rfl rfl rfl (lt rfl) <| sq_yes (f_lenList rfl rfl un23 (lt rfl)) rfl rfl rfl rfl (lt rfl) <| sq_yes (f_bin rfl rfl (bT (b' := true) rfl) (lt rfl)) rfl rfl rfl rfl (lt rfl) ?_
          refine pkq rfl rfl rfl <| asq rfl rfl <| nxq <| rtq <| to_ret ?_
          exact hits_done (.inl rfl) rfl rfl rfl
        · have w1 := parse_fit h1
          have w2 := parse_fit h2
          have w3 := parse_fit h3
          have l1 : ((d1.map eDc).map dcD).length = d1.length := by rw [List.length_map, List.length_map]
          have l2 : ((d2.map eDc).map dcD).length = d2.length := by rw [List.length_map, List.length_map]
          have b1 := w1.2
          have b2 := w2.2
          refine rgq <| mvq rfl rfl <| sq (f_catI rfl rfl (cat_ok (a) ([10]) (by first | omega | (simp only [List.length_append, List.length_cons, List.length_nil]; omega))) (B_app (a) ([10])) (lt rfl)) rfl rfl ?_
          refine mvq rfl rfl <| sq (f_catI rfl rfl (cat_ok (a ++ [10]) (b) (by first | omega | (simp only [List.length_append, List.length_cons, List.length_nil]; omega))) (B_app (a ++ [10]) (b)) (lt rfl)) rfl rfl ?_
          refine sq (f_call en7 rfl (parse_as h3) (lt rfl)) rfl rfl <| mvq rfl rfl <| exq rfl rfl rfl <| exq rfl rfl rfl <| exq rfl rfl rfl <| asq rfl rfl <| asq rfl rfl <| asq rfl rfl ?_
          refine nxq <| sqq <| sqq <| rgq <| mvq rfl rfl <| sq (f_bin rfl rfl (bT (b' := false) rfl) (lt rfl)) rfl rfl <| nxq <| cnF rfl ?_
          refine skq <| toq <| sqq <| rgq <| mvq rfl rfl <| sq (f_bin rfl rfl (bT (b' := true) rfl) (lt rfl)) rfl rfl <| mvq rfl rfl <| sq_yes (f_move rfl (lt rfl)) rfl rfl rfl rfl (lt rfl) ?_
          refine sq_yes (f_call en12 rfl (bare_c w3) (lt rfl)) rfl rfl rfl rfl (lt rfl) <| sq_yes (f_move rfl (lt rfl)) rfl rfl rfl rfl (lt rfl) <| sq_yes (f_giveO 69 en12 rfl (bare_g d1 w1.fit w1.2) (lt rfl)) rfl rfl rfl rfl (lt rfl) <| sq_yes (f_move rfl (lt rfl)) rfl rfl rfl rfl (lt rfl) <| sq_yes (f_call en12 rfl (bare_c w2) (lt rfl)) rfl rfl rfl rfl (lt rfl) <| sq_yes (f_appendO 72 rfl rfl rfl rfl apkP (by show (((d1.map eDc).map dcD).length + ((d2.map eDc).map dcD).length) * _ ≤ _; omega) (by show ((d1.map eDc).map dcD).length + ((d2.map eDc).map dcD).length ≤ _; omega) (dcs_one _) (by decide) (lt rfl)) rfl rfl rfl rfl (lt rfl) ?_
          refine sq_yes (f_call en11 rfl (join_c w3 h4) (lt rfl)) rfl rfl rfl rfl (lt rfl) <| pkq rfl rfl rfl <| asq rfl rfl <| nxq <| rtq ?_
          exact hits_done (.inl rfl) rfl rfl rfl
    · refine rgq <| sq (f_call en9 rfl alive_c (lt rfl)) rfl rfl <| sq (f_un rfl rfl (lt rfl)) rfl rfl <| mvq rfl rfl <| sq_yes (f_move rfl (lt rfl)) rfl rfl rfl rfl (lt rfl) <| sq_yes (f_bin rfl rfl (bT (b' := false) rfl) (lt rfl)) rfl rfl rfl rfl (lt rfl) <| pkq rfl rfl rfl <| mvq rfl rfl ?_
      refine sq_yes (f_move rfl (lt rfl)) rfl rfl rfl rfl (lt rfl) <| sq_yes (f_bin rfl rfl (bT (bne_iff_ne.mpr (by show ((e2 : Nat) : Int) ≠ 0; omega))) (lt rfl)) rfl rfl rfl rfl (lt rfl) ?_
      refine pkq rfl rfl rfl <| mvq rfl rfl <| noq rfl rfl rfl rfl rfl rfl rfl <| noq rfl rfl rfl rfl rfl rfl rfl <| noq rfl rfl rfl rfl rfl rfl rfl <| noq rfl rfl rfl rfl rfl rfl rfl <| noq rfl rfl rfl rfl rfl rfl rfl <| noq rfl rfl rfl rfl rfl rfl rfl ?_
      refine pkq rfl rfl rfl <| nxq <| cnT rfl <| sqq <| rgq <| sq (f_call en9 rfl alive_c (lt rfl)) rfl rfl <| asq rfl rfl <| nxq ?_
      refine rtq <| to_ret ?_
      exact hits_done (.inl rfl) rfl rfl rfl
  · refine rgq <| sq (f_call en9 rfl alive_c (lt rfl)) rfl rfl <| sq (f_un rfl rfl (lt rfl)) rfl rfl <| mvq rfl rfl <| sq_yes (f_move rfl (lt rfl)) rfl rfl rfl rfl (lt rfl) <| sq_yes (f_bin rfl rfl (bT (bne_iff_ne.mpr (by show ((e1 : Nat) : Int) ≠ 0; omega))) (lt rfl)) rfl rfl rfl rfl (lt rfl) ?_
    refine pkq rfl rfl rfl <| mvq rfl rfl <| noq rfl rfl rfl rfl rfl rfl rfl <| noq rfl rfl rfl rfl rfl rfl rfl <| pkq rfl rfl rfl <| mvq rfl rfl <| noq rfl rfl rfl rfl rfl rfl rfl <| noq rfl rfl rfl rfl rfl rfl rfl ?_
    refine noq rfl rfl rfl rfl rfl rfl rfl <| noq rfl rfl rfl rfl rfl rfl rfl <| noq rfl rfl rfl rfl rfl rfl rfl <| noq rfl rfl rfl rfl rfl rfl rfl <| pkq rfl rfl rfl <| nxq <| cnT rfl <| sqq ?_
    refine rgq <| sq (f_call en9 rfl alive_c (lt rfl)) rfl rfl <| asq rfl rfl <| nxq <| rtq <| to_ret ?_
    exact hits_done (.inl rfl) rfl rfl rfl
theorem pointsmanlaw08_ParseJoins.calls (a0 a1 : ByteArray) (r : Bool) (w : World) (hg : Lw w) (hk : r = true) : Calls Tryz.prog 4 #[.string a0, .string a1] w fun e w' => e = .returned (.bool r) ∧ Below w.heap.size w w' := by
  subst hk
  have := joins_g (a := a0.data.toList) (b := a1.data.toList) rfl rfl
  rw [txD, txD, B_of, B_of] at this
  exact this.calls rfl rfl w hg
end Go.Proofs.YtogodijfdkffaaaGreatDoor.Ln
