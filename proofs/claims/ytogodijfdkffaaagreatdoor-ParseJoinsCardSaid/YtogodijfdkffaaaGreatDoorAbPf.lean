/- The parser's expressions over data: expr, index, row, un, prim, level. -/
import Derived.Test.YtogodijfdkffaaaGreatDoorJ5
set_option linter.unusedVariables false
set_option linter.unusedSimpArgs false
set_option maxRecDepth 100000
namespace Go.Proofs.YtogodijfdkffaaaGreatDoor.Ln
open Go Go.RowKit Go.Ab Go.Proofs 
theorem zc67 : zc Tryz.prog 67 = some [.int .u8 0, .int .i64 0, .int .u64 0, .int .u64 0, .string ByteArray.empty, .string ByteArray.empty, .int .i64 0, .int .i64 0, .slice none 0 0, .int .i64 0] := by kernel_rfl
theorem en216 : enters Tryz.prog 216 = true := by kernel_rfl
theorem kd67 : kd Tryz.prog 67 = some (true, 10) := by kernel_rfl
theorem en179 : enters Tryz.prog 179 = true := by kernel_rfl
theorem en218 : enters Tryz.prog 218 = true := by kernel_rfl
theorem fp37_3 : fp Tryz.prog 37 3 = some (5, false, 1) := by kernel_rfl
theorem en249 : enters Tryz.prog 249 = true := by kernel_rfl
theorem bu67 : bk Tryz.prog 67 = some ([(0, 1), (1, 3), (4, 1), (5, 1), (6, 1), (7, 1), (8, 1), (9, 1)], [.int .u8 0, .int .i64 0, .int .u64 0, .int .u64 0, .string ByteArray.empty, .string ByteArray.empty, .int .i64 0, .int .i64 0, .slice none 0 0, .int .i64 0]) := by kernel_rfl
theorem kf67_5 : kf Tryz.prog 67 5 = some 7 := by kernel_rfl
theorem kf67_6 : kf Tryz.prog 67 6 = some 8 := by kernel_rfl
theorem kd65 : kd Tryz.prog 65 = some (false, 1) := by kernel_rfl
theorem en234 : enters Tryz.prog 234 = true := by kernel_rfl
theorem kf67_7 : kf Tryz.prog 67 7 = some 9 := by kernel_rfl
theorem en136 : enters Tryz.prog 136 = true := by kernel_rfl
theorem kf67_0 : kf Tryz.prog 67 0 = some 0 := by kernel_rfl
theorem kd64 : kd Tryz.prog 64 = some (false, 1) := by kernel_rfl
theorem kf67_1 : kf Tryz.prog 67 1 = some 1 := by kernel_rfl
theorem kf67_2 : kf Tryz.prog 67 2 = some 4 := by kernel_rfl
theorem kf67_3 : kf Tryz.prog 67 3 = some 5 := by kernel_rfl
theorem kf67_4 : kf Tryz.prog 67 4 = some 6 := by kernel_rfl
theorem en235 : enters Tryz.prog 235 = true := by kernel_rfl
theorem kf268_1 : kf Tryz.prog 268 1 = some 1 := by kernel_rfl
theorem kf268_0 : kf Tryz.prog 268 0 = some 0 := by kernel_rfl
def primK (f : Nat) (w : Wd) : PW Ex := if w.k = 3 then litP.bind fun l => .ret (.mk 1 l.1 l.2.1 l.2.2 [] [] 0 0 [] w.ln)
  else (mayP [118, 97, 108, 105, 100]).bind fun b => if b = true then nameP.bind fun s => .ret (.mk 4 0 0 0 s [] 0 0 [] w.ln)
  else (mayP [99, 97, 115, 116]).bind fun b => if b = true then wholeP.bind fun n => (needP [[40]]).bind fun _ => (exP f 0).bind fun x => (needP [[41]]).bind fun _ => .ret (.mk 16 0 0 0 [] [] n 0 [x] w.ln)
  else (mayP [104, 97, 115, 104]).bind fun b => if b = true then nameP.bind fun s => (needP [[40]]).bind fun _ => (exR f [41] []).bind fun l => .ret (.mk 23 0 0 0 s [] 0 0 l w.ln)
  else (mayP [40]).bind fun b => if b = true then (exP f 0).bind fun x => (needP [[41]]).bind fun _ => .ret x
  else ownerP.bind fun s => if s = txMeta then (needP [[46]]).bind fun _ => nameP.bind fun t => .ret (.mk 2 0 0 0 s t 0 0 [] w.ln)
    else (mayP [46]).bind fun b => if b = true then nameP.bind fun t => .ret (.mk 2 0 0 0 s t 0 0 [] w.ln) else .ret (.mk 3 0 0 0 s [] 0 0 [] w.ln)
theorem exP_prim (f : Nat) : exP (f + 1) 9 = .look fun w => primK f w := by rw [exP, if_neg (by decide), if_neg (by decide)]; rfl
theorem expr_c {L : List Wd} {i : Nat} (hL : L.length ≤ 65536) (hi : i ≤ L.length) {f : Nat} (h0 : ∀ {i : Nat}, i ≤ L.length → CallsX Tryz.prog Lw pvN 216 [LDw L, .sc (.int .i64 (i : Int))] (fun _ => [.sc (.int .i64 (0 : Int))]) (oX L f 0 i)) : CallsX Tryz.prog Lw pvN 179 [LDw L, .sc (.int .i64 (i : Int))] (fun b => []) (ocOf (LDw L) (exD) ((exP f 0).run wEnd L i)) := by
  refine callsX_of (m := 0) Tryz.func179 rfl Tryz.ntmps179 (fun _ => rfl) rfl rfl fun hne w0 S0 b stab => ?_
  obtain ⟨o, hO⟩ : ∃ o, o = ocOf (LDw L) (exD) ((exP f 0).run wEnd L i) := ⟨_, rfl⟩
  rw [← hO] at hne ⊢
  have hO : o = ocOf (LDw L) exD (((exP f 0).bind .ret).run wEnd L i) := by rw [bind_ret]; exact hO
  refine sqq <| rgq <| sq (f_alloc zc67 (lt rfl)) rfl rfl <| nxq <| sqq <| rgq <| mvq rfl rfl ?_
  refine sq_pr hO hne (h0 hi) rfl en216 rfl rfl rfl rfl ⟨rfl, rfl, trivial⟩ rfl rfl (lt rfl) (fun _ _ hd h => And.intro hd (h)) (fun q j hq hO2 => ?_)
  replace hO := hO2
  clear hO2
  obtain ⟨qop, qlw, qlh, qll, qnm, qfl, qn, qm, qar, qln⟩ := q
  rw [exD_cs]
  refine soq kd67 rfl rfl rfl rfl rfl <| nxq <| rtq ?_
  have hO' : o = .ret [LDw L, .sc (.int .i64 (j : Int))] (.agg (exCs (Ex.mk qop qlw qlh qll qnm qfl qn qm qar qln))) := by rw [hO]; show Oc.ret _ (exD _) = _; rw [exD_cs]
  exact hits_doneX hO' (.inl rfl) rfl rfl rfl rfl rfl ⟨rfl, rfl, trivial⟩ rfl
theorem index_c {L : List Wd} {i : Nat} (hL : L.length ≤ 65536) (hi : i ≤ L.length) {f : Nat} (hE : ∀ {i : Nat}, i ≤ L.length → CallsX Tryz.prog Lw pvN 179 [LDw L, .sc (.int .i64 (i : Int))] (fun _ => []) (oX L f 0 i)) : CallsX Tryz.prog Lw pvN 250 [LDw L, .sc (.int .i64 (i : Int))] (fun b => []) (ocOf (LDw L) (exD) ((indexP f).run wEnd L i)) := by
  refine callsX_of (m := 0) Tryz.func250 rfl Tryz.ntmps250 (fun _ => rfl) rfl rfl fun hne w0 S0 b stab => ?_
  obtain ⟨o, hO⟩ : ∃ o, o = ocOf (LDw L) (exD) ((indexP f).run wEnd L i) := ⟨_, rfl⟩
  rw [← hO] at hne ⊢
  refine sqq <| rgq <| sq (f_alloc zc67 (lt rfl)) rfl rfl <| nxq <| sqq <| rgq <| mvq rfl rfl ?_
  refine sq_pr hO hne (need_c (l := [91]) (ts := [[91]]) hL hi (by decide) (fields_g (l := [91]) (ts := [[91]]) (by decide +kernel) (by decide +kernel) (by decide +kernel))) rfl en122 rfl rfl rfl rfl ⟨rfl, rfl, trivial⟩ rfl rfl (lt rfl) (fun _ _ hd h => And.intro hd (h)) (fun u j hq hO2 => ?_)
  replace hO := hO2
  clear hO2
  refine nxq <| sqq <| rgq ?_
  have hj := (tame_need _ hq hi).2
  refine mvq rfl rfl ?_
  refine sq_pr hO hne (hE hj) rfl en179 rfl rfl rfl rfl ⟨rfl, rfl, trivial⟩ rfl rfl (lt rfl) (fun _ _ hd h => And.intro hd (h)) (fun q j2 hq2 hO2 => ?_)
  replace hO := hO2
  clear hO2
  have hj2 := (tame_ex _ _ hq2 hj).2
  obtain ⟨qop, qlw, qlh, qll, qnm, qfl, qn, qm, qar, qln⟩ := q
  rw [exD_cs]
  refine sq (f_alloc zc67 (lt rfl)) rfl rfl <| soq kd67 rfl rfl rfl rfl rfl <| nxq <| sqq <| rgq <| mvq rfl rfl ?_
  refine sq_pr hO hne (need_c (l := [93]) (ts := [[93]]) hL hj2 (by decide) (fields_g (l := [93]) (ts := [[93]]) (by decide +kernel) (by decide +kernel) (by decide +kernel))) rfl en122 rfl rfl rfl rfl ⟨rfl, rfl, trivial⟩ rfl rfl (lt rfl) (fun _ _ hd h => And.intro hd (h)) (fun u2 j3 hq3 hO2 => ?_)
  replace hO := hO2
  clear hO2
  refine nxq <| sqq <| rgq <| ldq kd67 rfl rfl rfl <| soq kd67 rfl rfl rfl rfl rfl <| nxq <| rtq ?_
  have hO' : o = .ret [LDw L, .sc (.int .i64 (j3 : Int))] (.agg (exCs (Ex.mk qop qlw qlh qll qnm qfl qn qm qar qln))) := by rw [hO]; show Oc.ret _ (exD _) = _; rw [exD_cs]
  exact hits_doneX hO' (.inl rfl) rfl rfl rfl rfl rfl ⟨rfl, rfl, trivial⟩ rfl
theorem rowx_c {L : List Wd} {i : Nat} (hL : L.length ≤ 65536) (hi : i ≤ L.length) (e : Tx) (he : CallsP Tryz.prog Lw 93 [txD e] (.list 1 ([e].map txD))) (f : Nat) (IH : ∀ g, g ≤ f → ∀ {i : Nat}, i ≤ L.length → CallsX Tryz.prog Lw pvN 179 [LDw L, .sc (.int .i64 (i : Int))] (fun _ => []) (oX L g 0 i)) : CallsX Tryz.prog Lw pvN 220 [LDw L, .sc (.int .i64 (i : Int))] (fun b => [txD e, .sc (.func (.func 179) #[.pointer (some ⟨b, 0, none⟩)] #[])]) (ocOf (LDw L) (exLD) (((mayP e).bind fun b => if b = true then .ret [] else exR f e []).run wEnd L i)) := by
  refine callsX_of (m := 2) Tryz.func220 rfl Tryz.ntmps220 (fun _ => rfl) rfl rfl fun hne w0 S0 b stab => ?_
  obtain ⟨o, hO⟩ : ∃ o, o = ocOf (LDw L) (exLD) (((mayP e).bind fun b => if b = true then .ret [] else exR f e []).run wEnd L i) := ⟨_, rfl⟩
  rw [← hO] at hne ⊢
  refine sqq <| rgq <| asq rfl rfl <| nxq <| sqq <| sqq <| rgq <| mvq rfl rfl ?_
  refine mvq rfl rfl ?_
  refine sq_pr hO hne (may_c hL hi e) rfl en134 rfl rfl rfl rfl ⟨rfl, rfl, trivial⟩ rfl rfl (lt rfl) (fun _ _ hd h => And.intro hd (h)) (fun b1 j hq hO2 => ?_)
  replace hO := hO2
  clear hO2
  cases b1
  · rw [if_neg Bool.false_ne_true] at hO
    have hj := may_le hq hi
    have hO : o = ocOf (LDw L) exLD (((exR f e []).bind .ret).run wEnd L j) := by rw [bind_ret]; exact hO
    refine nxq <| cnF rfl <| skq <| toq <| sqq <| rgq <| mvq rfl rfl <| mvq rfl rfl ?_
    refine mvq rfl rfl ?_
    refine sq_pr hO hne (somex_c hL hj e he f IH) rfl en218 rfl rfl rfl rfl ⟨rfl, rfl, trivial⟩ rfl rfl (lt rfl) (fun _ _ hd h => And.intro hd (h)) (fun l j2 hq2 hO2 => ?_)
    replace hO := hO2
    clear hO2
    refine asq rfl rfl <| nxq <| rtq ?_
    exact hits_doneX hO (.inl rfl) rfl rfl rfl rfl rfl ⟨rfl, rfl, trivial⟩ rfl
  · rw [if_pos rfl] at hO
    refine nxq <| cnT rfl <| sqq <| rgq <| asq rfl rfl <| nxq <| rtq <| to_ret ?_
    refine hits_slotD 6 (q' := .list 10 []) rfl nil_list ?_
    exact hits_doneX hO (.inl rfl) rfl rfl rfl rfl rfl ⟨rfl, rfl, trivial⟩ rfl
set_option maxHeartbeats 1000000 in
theorem un_c {L : List Wd} {i : Nat} (hL : L.length ≤ 65536) (hi : i ≤ L.length) (hS : Small L) {f : Nat} (IHu : ∀ {i : Nat}, i ≤ L.length → CallsX Tryz.prog Lw pvN 234 [LDw L, .sc (.int .i64 (i : Int))] (fun _ => []) (oX L f 8 i)) (IHp : ∀ {i : Nat}, i ≤ L.length → CallsX Tryz.prog Lw pvN 249 [LDw L, .sc (.int .i64 (i : Int))] (fun _ => []) (oX L f 9 i)) : CallsX Tryz.prog Lw pvN 234 [LDw L, .sc (.int .i64 (i : Int))] (fun b => []) (ocOf (LDw L) (exD) ((exP (f + 1) 8).run wEnd L i)) := by
  refine callsX_of (m := 0) Tryz.func234 rfl Tryz.ntmps234 (fun _ => rfl) rfl rfl fun hne w0 S0 b stab => ?_
  obtain ⟨o, hO⟩ : ∃ o, o = ocOf (LDw L) (exD) ((exP (f + 1) 8).run wEnd L i) := ⟨_, rfl⟩
  rw [← hO] at hne ⊢
  rw [exP, if_neg (by decide), if_pos rfl] at hO
  change o = ocOf (LDw L) exD (((mayP [126]).bind fun b => if b = true then (exP f 8).bind fun x => .ret (exUn 11 [x] (wordAt wEnd L i).ln) else (exP f 9).bind fun x => exS f (wordAt wEnd L i).ln x).run wEnd L i) at hO
  refine sqq <| rgq <| sq (f_alloc zc67 (lt rfl)) rfl rfl <| nxq <| sqq <| rgq <| mvq rfl rfl <| sq_callB en33 rfl rfl (next_c hL hi) ⟨rfl, rfl, trivial⟩ rfl rfl rfl rfl (lt rfl) ?_
  refine sq (f_field rfl fp37_3 rfl (lt rfl)) rfl rfl <| asq rfl rfl <| nxq <| sqq <| sqq <| rgq <| mvq rfl rfl ?_
  refine sq_pr hO hne (may_c hL hi [126]) rfl en134 rfl rfl rfl rfl ⟨rfl, rfl, trivial⟩ rfl rfl (lt rfl) (fun _ _ hd h => And.intro hd (h)) (fun b1 j hq hO2 => ?_)
  replace hO := hO2
  clear hO2
  cases b1
  · rw [if_neg Bool.false_ne_true] at hO
    have hj := may_le hq hi
    refine nxq <| cnF rfl <| skq <| toq <| sqq <| rgq <| mvq rfl rfl ?_
    refine sq_pr hO hne (IHp hj) rfl en249 rfl rfl rfl rfl ⟨rfl, rfl, trivial⟩ rfl rfl (lt rfl) (fun _ _ hd h => And.intro hd (h)) (fun q j2 hq2 hO2 => ?_)
    replace hO := hO2
    clear hO2
    have hj2 := (tame_ex _ _ hq2 hj).2
    obtain ⟨qop, qlw, qlh, qll, qnm, qfl, qn, qm, qar, qln⟩ := q
    rw [exD_cs]
    refine soq kd67 rfl rfl rfl rfl rfl <| nxq <| sqq <| hits_block <| hits_loop (fun x : Nat × Ex × Nat => [(.slot 0, some (.ptr 1000000 0)), (.box 1000000, some (.ptr 1000000 0)), (.cell 1000000 0, some (.d (LDw L))), (.cell 1000000 1, some (.d (.sc (.int .i64 (x.2.2 : Int))))), (.slot 3, some (.d (.sc (.int .i64 ((wordAt wEnd L i).ln : Int))))), (.slot 2, some (.ptr 2 0)), (.box 2, some (.ptr 2 0)), (.cell 2 0, some (.d ((exCs x.2.1).getD 0 .any))), (.cell 2 1, some (.d ((exCs x.2.1).getD 1 .any))), (.cell 2 2, some (.d ((exCs x.2.1).getD 2 .any))), (.cell 2 3, some (.d ((exCs x.2.1).getD 3 .any))), (.cell 2 4, some (.d ((exCs x.2.1).getD 4 .any))), (.cell 2 5, some (.d ((exCs x.2.1).getD 5 .any))), (.cell 2 6, some (.d ((exCs x.2.1).getD 6 .any))), (.cell 2 7, some (.d ((exCs x.2.1).getD 7 .any))), (.cell 2 8, some (.d ((exCs x.2.1).getD 8 .any))), (.cell 2 9, some (.d ((exCs x.2.1).getD 9 .any)))]) (fun x : Nat × Ex × Nat => x.1 ≤ f ∧ x.2.2 ≤ L.length ∧ o = ocOf (LDw L) exD ((exS x.1 (wordAt wEnd L i).ln x.2.1).run wEnd L x.2.2)) (fun x : Nat × Ex × Nat => x.1) (f, Ex.mk qop qlw qlh qll qnm qfl qn qm qar qln, j2) ⟨Nat.le_refl _, hj2, hO⟩ ⟨rfl, rfl, rfl, rfl, rfl, rfl, rfl, rfl, rfl, rfl, rfl, rfl, rfl, rfl, rfl, rfl, rfl, trivial⟩ rfl ?_
    intro x hx0
    obtain ⟨g, y, i'⟩ := x
    obtain ⟨yop, ylw, ylh, yll, ynm, yfl, yn, ym, yar, yln⟩ := y
    obtain ⟨hg, hi', hO⟩ := hx0
    change g ≤ f at hg
    change i' ≤ L.length at hi'
    change o = ocOf (LDw L) exD ((exS g (wordAt wEnd L i).ln (Ex.mk yop ylw ylh yll ynm yfl yn ym yar yln)).run wEnd L i') at hO
    change Hits _ [(.slot 0, some (.ptr 1000000 0)), (.box 1000000, some (.ptr 1000000 0)), (.cell 1000000 0, some (.d (LDw L))), (.cell 1000000 1, some (.d (.sc (.int .i64 (i' : Int))))), (.slot 3, some (.d (.sc (.int .i64 ((wordAt wEnd L i).ln : Int))))), (.slot 2, some (.ptr 2 0)), (.box 2, some (.ptr 2 0)), (.cell 2 0, some (.d ((exCs (Ex.mk yop ylw ylh yll ynm yfl yn ym yar yln)).getD 0 .any))), (.cell 2 1, some (.d ((exCs (Ex.mk yop ylw ylh yll ynm yfl yn ym yar yln)).getD 1 .any))), (.cell 2 2, some (.d ((exCs (Ex.mk yop ylw ylh yll ynm yfl yn ym yar yln)).getD 2 .any))), (.cell 2 3, some (.d ((exCs (Ex.mk yop ylw ylh yll ynm yfl yn ym yar yln)).getD 3 .any))), (.cell 2 4, some (.d ((exCs (Ex.mk yop ylw ylh yll ynm yfl yn ym yar yln)).getD 4 .any))), (.cell 2 5, some (.d ((exCs (Ex.mk yop ylw ylh yll ynm yfl yn ym yar yln)).getD 5 .any))), (.cell 2 6, some (.d ((exCs (Ex.mk yop ylw ylh yll ynm yfl yn ym yar yln)).getD 6 .any))), (.cell 2 7, some (.d ((exCs (Ex.mk yop ylw ylh yll ynm yfl yn ym yar yln)).getD 7 .any))), (.cell 2 8, some (.d ((exCs (Ex.mk yop ylw ylh yll ynm yfl yn ym yar yln)).getD 8 .any))), (.cell 2 9, some (.d ((exCs (Ex.mk yop ylw ylh yll ynm yfl yn ym yar yln)).getD 9 .any)))] _
    cases g with
    | zero => rw [exS] at hO; exact absurd hO hne
    | succ g =>
    rw [exS] at hO
    refine sqq <| sqq <| rgq <| mvq rfl rfl ?_
    refine sq_pr hO hne (may_c hL hi' [91]) rfl en134 rfl rfl rfl rfl ⟨rfl, rfl, trivial⟩ rfl rfl (lt rfl) (fun _ _ hd h => And.intro hd (h)) (fun b2 j3 hq3 hO2 => ?_)
    replace hO := hO2
    clear hO2
    have hj3 := may_le hq3 hi'
    cases b2
    · rw [if_neg Bool.false_ne_true] at hO
      refine nxq <| cnF rfl <| hits_exit <| to_exit <| to_exit <| in_hit rfl <| toq <| sqq ?_
      refine rgq <| ldq kd67 rfl rfl rfl <| soq kd67 rfl rfl rfl rfl rfl <| nxq <| rtq ?_
      have hO' : o = .ret [LDw L, .sc (.int .i64 (j3 : Int))] (.agg (exCs (Ex.mk yop ylw ylh yll ynm yfl yn ym yar yln))) := by rw [hO]; show Oc.ret _ (exD _) = _; rw [exD_cs]
      exact hits_doneX hO' (.inl rfl) rfl rfl rfl rfl rfl ⟨rfl, rfl, trivial⟩ rfl
    · rw [if_pos rfl] at hO
      refine nxq <| cnT rfl <| skq <| toq <| hits_block <| sqq <| rgq <| mvq rfl rfl ?_
      refine mvq rfl rfl ?_
      refine sq_pr hO hne (whole_c hL hj3 hS) rfl en126 rfl rfl rfl rfl ⟨rfl, rfl, trivial⟩ rfl rfl (lt rfl) (fun _ _ hd h => And.intro hd (h)) (fun n j4 hq4 hO2 => ?_)
      replace hO := hO2
      clear hO2
      have hj4 := (eager_whole hq4 hj3).2
      refine sq (f_build bu67 rfl rfl (lt rfl)) rfl rfl <| sq (f_alloc zc67 (lt rfl)) rfl rfl <| soq kd67 rfl rfl rfl rfl rfl <| nxq <| sqq <| rgq <| mvq rfl rfl ?_
      refine sq_pr hO hne (need_c (l := [58]) (ts := [[58]]) hL hj4 (by decide) (fields_g (l := [58]) (ts := [[58]]) (by decide +kernel) (by decide +kernel) (by decide +kernel))) rfl en122 rfl rfl rfl rfl ⟨rfl, rfl, trivial⟩ rfl rfl (lt rfl) (fun _ _ hd h => And.intro hd (h)) (fun u j5 hq5 hO2 => ?_)
      replace hO := hO2
      clear hO2
      refine nxq <| sqq <| rgq ?_
      have hj5 := (tame_need _ hq5 hj4).2
      refine mvq rfl rfl ?_
      refine sq_pr hO hne (whole_c hL hj5 hS) rfl en126 rfl rfl rfl rfl ⟨rfl, rfl, trivial⟩ rfl rfl (lt rfl) (fun _ _ hd h => And.intro hd (h)) (fun m j6 hq6 hO2 => ?_)
      replace hO := hO2
      clear hO2
      have hj6 := (eager_whole hq6 hj5).2
      refine faq rfl kf67_5 rfl rfl <| soq kd3 rfl rfl rfl rfl rfl <| nxq <| sqq <| rgq <| mvq rfl rfl ?_
      refine sq_pr hO hne (need_c (l := [93]) (ts := [[93]]) hL hj6 (by decide) (fields_g (l := [93]) (ts := [[93]]) (by decide +kernel) (by decide +kernel) (by decide +kernel))) rfl en122 rfl rfl rfl rfl ⟨rfl, rfl, trivial⟩ rfl rfl (lt rfl) (fun _ _ hd h => And.intro hd (h)) (fun u2 j7 hq7 hO2 => ?_)
      replace hO := hO2
      clear hO2
      refine nxq <| sqq <| rgq ?_
      have hj7 := (tame_need _ hq7 hj6).2
      refine ldq kd67 rfl rfl rfl <| sq (f_buildSlice sk65 rfl rfl rfl rfl rfl rfl (by decide) (by decide) (lt rfl)) rfl rfl <| faq rfl kf67_6 rfl rfl <| soq kd65 rfl rfl rfl rfl rfl <| nxq <| rgq <| ldq kd67 rfl rfl rfl <| soq kd67 rfl rfl rfl rfl rfl ?_
      refine nlq <| inq <| toq ?_
      refine round_end (g, Ex.mk 15 0 0 0 [] [] n m [Ex.mk yop ylw ylh yll ynm yfl yn ym yar yln] (wordAt wEnd L i).ln, j7) ⟨by simp only; omega, hj7, hO⟩ (by simp only; omega) ⟨rfl, rfl, rfl, rfl, rfl, rfl, rfl, rfl, rfl, rfl, rfl, rfl, rfl, rfl, rfl, (by show some (V.d (D.list 10 [.agg (exCs (Ex.mk yop ylw ylh yll ynm yfl yn ym yar yln))])) = some (V.d (.list 10 (exDs [Ex.mk yop ylw ylh yll ynm yfl yn ym yar yln]))); rw [exDs, exDs, exD_cs]), rfl, trivial⟩ rfl
  · rw [if_pos rfl] at hO
    have hj := may_le hq hi
    refine nxq <| cnT rfl <| sqq <| rgq <| mvq rfl rfl <| mvq rfl rfl ?_
    refine sq_pr hO hne (IHu hj) rfl en234 rfl rfl rfl rfl ⟨rfl, rfl, trivial⟩ rfl rfl (lt rfl) (fun _ _ hd h => And.intro hd (h)) (fun q j2 hq2 hO2 => ?_)
    replace hO := hO2
    clear hO2
    obtain ⟨qop, qlw, qlh, qll, qnm, qfl, qn, qm, qar, qln⟩ := q
    rw [exD_cs]
    refine sq (f_buildSlice sk65 rfl rfl rfl rfl rfl rfl (by decide) (by decide) (lt rfl)) rfl rfl <| sq (f_build bu67 rfl rfl (lt rfl)) rfl rfl <| soq kd67 rfl rfl rfl rfl rfl <| nxq <| rtq <| to_ret ?_
    have hO' : o = .ret [LDw L, .sc (.int .i64 (j2 : Int))] (.agg [.sc (.int .u8 11), nD 0, .sc (.int .u64 0), .sc (.int .u64 0), txD [], txD [], nD 0, nD 0, .list 10 [.agg (exCs (Ex.mk qop qlw qlh qll qnm qfl qn qm qar qln))], nD (wordAt wEnd L i).ln]) := by rw [hO]; show Oc.ret _ (exD (exUn 11 [Ex.mk qop qlw qlh qll qnm qfl qn qm qar qln] (wordAt wEnd L i).ln)) = _; rw [exD_cs]; first | rfl | (simp only [exCs, exDs, exD_cs]; done) | (simp only [exCs, exDs, exD_cs]; rfl)
    exact hits_doneX hO' (.inl rfl) rfl rfl rfl rfl rfl ⟨rfl, rfl, trivial⟩ rfl
set_option maxHeartbeats 4000000 in
set_option maxHeartbeats 4000000 in
theorem prim_c {L : List Wd} {i : Nat} (hL : L.length ≤ 65536) (hi : i ≤ L.length) (hS : Small L) {f : Nat} (IH : ∀ g, g ≤ f → ∀ {i : Nat}, i ≤ L.length → CallsX Tryz.prog Lw pvN 179 [LDw L, .sc (.int .i64 (i : Int))] (fun _ => []) (oX L g 0 i)) : CallsX Tryz.prog Lw pvN 249 [LDw L, .sc (.int .i64 (i : Int))] (fun b => []) (ocOf (LDw L) (exD) ((exP (f + 1) 9).run wEnd L i)) := by
  refine callsX_of (m := 0) Tryz.func249 rfl Tryz.ntmps249 (fun _ => rfl) rfl rfl fun hne w0 S0 b stab => ?_
  obtain ⟨o, hO⟩ : ∃ o, o = ocOf (LDw L) (exD) ((exP (f + 1) 9).run wEnd L i) := ⟨_, rfl⟩
  rw [← hO] at hne ⊢
  rw [exP_prim] at hO
  change o = ocOf (LDw L) exD ((primK f (wordAt wEnd L i)).run wEnd L i) at hO
  refine sqq <| rgq <| sq (f_alloc zc67 (lt rfl)) rfl rfl <| nxq <| sqq <| rgq <| mvq rfl rfl <| sq_callB en33 rfl rfl (next_c hL hi) ⟨rfl, rfl, trivial⟩ rfl rfl rfl rfl (lt rfl) ?_
  refine sq (f_alloc zc37 (lt rfl)) rfl rfl <| soq kd37 rfl rfl rfl rfl rfl <| nxq <| sqq <| rgq <| faq rfl kf37_3 rfl rfl <| ldq kd3 rfl rfl rfl <| faq rfl kf67_7 rfl rfl ?_
  refine soq kd3 rfl rfl rfl rfl rfl <| nxq <| sqq <| hits_block <| sqq ?_
  by_cases hk : (wordAt wEnd L i).k = 3
  · rw [primK, if_pos hk] at hO
    refine hits_cellD 2 8 (q' := .list 10 []) rfl nil_list <| rgq <| faq rfl kf37_0 rfl rfl <| ldq kd32 rfl rfl rfl <| sq (f_bin rfl rfl (bT (beq_iff_eq.mpr (by rw [hk]; rfl))) (lt rfl)) rfl rfl ?_
    refine asq rfl rfl <| nxq <| cnT rfl <| rgq <| mvq rfl rfl ?_
    refine sq_pr hO hne (lit_c hL hi) rfl en136 rfl rfl rfl rfl ⟨rfl, rfl, trivial⟩ rfl rfl (lt rfl) (fun _ _ hd h => And.intro hd (h)) (fun q j hq hO2 => ?_)
    replace hO := hO2
    clear hO2
    obtain ⟨lw, lh, ll⟩ := q
    refine faq rfl kf67_0 rfl rfl <| soq kd64 rfl rfl rfl rfl rfl <| faq rfl kf67_1 rfl rfl <| soq kd35 rfl rfl rfl rfl rfl <| nlq <| inq <| toq <| sqq ?_
    refine rgq <| ldq kd67 rfl rfl rfl <| soq kd67 rfl rfl rfl rfl rfl <| nxq <| rtq ?_
    have hO' : o = .ret [LDw L, .sc (.int .i64 (j : Int))] (.agg [.sc (.int .u8 1), nD lw, .sc (.int .u64 (lh : Int)), .sc (.int .u64 (ll : Int)), txD [], txD [], nD 0, nD 0, .list 10 [], nD (wordAt wEnd L i).ln]) := by rw [hO]; show Oc.ret _ (exD (.mk 1 lw lh ll [] [] 0 0 [] (wordAt wEnd L i).ln)) = _; rw [exD_cs]; first | rfl | (simp only [exCs, exDs, exD_cs]; done) | (simp only [exCs, exDs, exD_cs]; rfl)
    exact hits_doneX hO' (.inl rfl) rfl rfl rfl rfl rfl ⟨rfl, rfl, trivial⟩ rfl
  · rw [primK, if_neg hk] at hO
    refine hits_cellD 2 8 (q' := .list 10 []) rfl nil_list <| rgq <| faq rfl kf37_0 rfl rfl <| ldq kd32 rfl rfl rfl <| sq (f_bin rfl rfl (bT (beq_eq_false_iff_ne.mpr (by omega))) (lt rfl)) rfl rfl <| asq rfl rfl <| nxq <| cnF rfl ?_
    refine sqq <| rgq <| mvq rfl rfl ?_
    refine sq_pr hO hne (may_c hL hi [118, 97, 108, 105, 100]) rfl en134 rfl rfl rfl rfl ⟨rfl, rfl, trivial⟩ rfl rfl (lt rfl) (fun _ _ hd h => And.intro hd (h)) (fun b2 j2 hq2 hO2 => ?_)
    replace hO := hO2
    clear hO2
    have hj2 := may_le hq2 hi
    cases b2
    · rw [if_neg Bool.false_ne_true] at hO
      refine asq rfl rfl <| nxq <| cnF rfl <| sqq <| rgq <| mvq rfl rfl ?_
      refine sq_pr hO hne (may_c hL hj2 [99, 97, 115, 116]) rfl en134 rfl rfl rfl rfl ⟨rfl, rfl, trivial⟩ rfl rfl (lt rfl) (fun _ _ hd h => And.intro hd (h)) (fun b3 j3 hq3 hO2 => ?_)
      replace hO := hO2
      clear hO2
      have hj3 := may_le hq3 hj2
      cases b3
      · rw [if_neg Bool.false_ne_true] at hO
        refine asq rfl rfl <| nxq <| cnF rfl <| sqq <| rgq <| mvq rfl rfl ?_
        refine sq_pr hO hne (may_c hL hj3 [104, 97, 115, 104]) rfl en134 rfl rfl rfl rfl ⟨rfl, rfl, trivial⟩ rfl rfl (lt rfl) (fun _ _ hd h => And.intro hd (h)) (fun b4 j4 hq4 hO2 => ?_)
        replace hO := hO2
        clear hO2
        have hj4 := may_le hq4 hj3
        cases b4
        · rw [if_neg Bool.false_ne_true] at hO
          refine asq rfl rfl <| nxq <| cnF rfl <| sqq <| rgq <| mvq rfl rfl ?_
          refine sq_pr hO hne (may_c hL hj4 [40]) rfl en134 rfl rfl rfl rfl ⟨rfl, rfl, trivial⟩ rfl rfl (lt rfl) (fun _ _ hd h => And.intro hd (h)) (fun b5 j5 hq5 hO2 => ?_)
          replace hO := hO2
          clear hO2
          have hj5 := may_le hq5 hj4
          cases b5
          · rw [if_neg Bool.false_ne_true] at hO
            refine asq rfl rfl <| nxq <| cnF rfl <| sqq <| rgq <| mvq rfl rfl ?_
            refine sq_pr hO hne (owner_c hL hj5) rfl en219 rfl rfl rfl rfl ⟨rfl, rfl, trivial⟩ rfl rfl (lt rfl) (fun _ _ hd h => And.intro hd (h)) (fun s j6 hq6 hO2 => ?_)
            replace hO := hO2
            clear hO2
            have hj6 := (tame_owner hq6 hj5).2
            refine faq rfl kf67_0 rfl rfl <| soq kd64 rfl rfl rfl rfl rfl <| faq rfl kf67_2 rfl rfl <| soq kd9 rfl rfl rfl rfl rfl <| nxq <| sqq <| sqq ?_
            by_cases hs : s = txMeta
            · rw [if_pos hs] at hO
              refine rgq <| faq rfl kf67_2 rfl rfl <| ldq kd9 rfl rfl rfl <| sq (f_bin rfl rfl (bT (((B_beq _ _).trans (decide_eq_true hs)))) (lt rfl)) rfl rfl <| nxq <| cnT rfl <| rgq <| mvq rfl rfl ?_
              refine sq_pr hO hne (need_c (l := [46]) (ts := [[46]]) hL hj6 (by decide) (fields_g (l := [46]) (ts := [[46]]) (by decide +kernel) (by decide +kernel) (by decide +kernel))) rfl en122 rfl rfl rfl rfl ⟨rfl, rfl, trivial⟩ rfl rfl (lt rfl) (fun _ _ hd h => And.intro hd (h)) (fun u j7 hq7 hO2 => ?_)
              replace hO := hO2
              clear hO2
              refine nxq <| rgq ?_
              have hj7 := (tame_need _ hq7 hj6).2
              refine mvq rfl rfl ?_
              refine sq_pr hO hne (name_c hL hj7) rfl en121 rfl rfl rfl rfl ⟨rfl, rfl, trivial⟩ rfl rfl (lt rfl) (fun _ _ hd h => And.intro hd (h)) (fun t j8 hq8 hO2 => ?_)
              replace hO := hO2
              clear hO2
              refine faq rfl kf67_0 rfl rfl <| soq kd64 rfl rfl rfl rfl rfl <| faq rfl kf67_3 rfl rfl <| soq kd9 rfl rfl rfl rfl rfl <| nlq <| inq <| toq <| sqq ?_
              refine rgq <| ldq kd67 rfl rfl rfl <| soq kd67 rfl rfl rfl rfl rfl <| nxq <| rtq ?_
              have hO' : o = .ret [LDw L, .sc (.int .i64 (j8 : Int))] (.agg [.sc (.int .u8 2), nD 0, .sc (.int .u64 0), .sc (.int .u64 0), txD s, txD t, nD 0, nD 0, .list 10 [], nD (wordAt wEnd L i).ln]) := by rw [hO]; show Oc.ret _ (exD (.mk 2 0 0 0 s t 0 0 [] (wordAt wEnd L i).ln)) = _; rw [exD_cs]; first | rfl | (simp only [exCs, exDs, exD_cs]; done) | (simp only [exCs, exDs, exD_cs]; rfl)
              exact hits_doneX hO' (.inl rfl) rfl rfl rfl rfl rfl ⟨rfl, rfl, trivial⟩ rfl
            · rw [if_neg hs] at hO
              refine rgq <| faq rfl kf67_2 rfl rfl <| ldq kd9 rfl rfl rfl <| sq (f_bin rfl rfl (bT (((B_beq _ _).trans (decide_eq_false hs)))) (lt rfl)) rfl rfl <| nxq <| cnF rfl <| sqq <| rgq ?_
              refine mvq rfl rfl ?_
              refine sq_pr hO hne (may_c hL hj6 [46]) rfl en134 rfl rfl rfl rfl ⟨rfl, rfl, trivial⟩ rfl rfl (lt rfl) (fun _ _ hd h => And.intro hd (h)) (fun b7 j7 hq7 hO2 => ?_)
              replace hO := hO2
              clear hO2
              have hj7 := may_le hq7 hj6
              cases b7
              · rw [if_neg Bool.false_ne_true] at hO
                refine sq (f_un rfl rfl (lt rfl)) rfl rfl <| nxq <| cnT rfl <| sqq <| rgq <| ldq kd67 rfl rfl rfl <| soq kd67 rfl rfl rfl rfl rfl <| nxq ?_
                refine rtq <| to_ret <| in_ret <| to_ret ?_
                have hO' : o = .ret [LDw L, .sc (.int .i64 (j7 : Int))] (.agg [.sc (.int .u8 3), nD 0, .sc (.int .u64 0), .sc (.int .u64 0), txD s, txD [], nD 0, nD 0, .list 10 [], nD (wordAt wEnd L i).ln]) := by rw [hO]; show Oc.ret _ (exD (.mk 3 0 0 0 s [] 0 0 [] (wordAt wEnd L i).ln)) = _; rw [exD_cs]; first | rfl | (simp only [exCs, exDs, exD_cs]; done) | (simp only [exCs, exDs, exD_cs]; rfl)
                exact hits_doneX hO' (.inl rfl) rfl rfl rfl rfl rfl ⟨rfl, rfl, trivial⟩ rfl
              · rw [if_pos rfl] at hO
                refine sq (f_un rfl rfl (lt rfl)) rfl rfl <| nxq <| cnF rfl <| skq <| toq <| rgq <| mvq rfl rfl ?_
                refine sq_pr hO hne (name_c hL hj7) rfl en121 rfl rfl rfl rfl ⟨rfl, rfl, trivial⟩ rfl rfl (lt rfl) (fun _ _ hd h => And.intro hd (h)) (fun t j8 hq8 hO2 => ?_)
                replace hO := hO2
                clear hO2
                refine faq rfl kf67_0 rfl rfl <| soq kd64 rfl rfl rfl rfl rfl <| faq rfl kf67_3 rfl rfl <| soq kd9 rfl rfl rfl rfl rfl <| nlq <| inq <| toq <| sqq ?_
                refine rgq <| ldq kd67 rfl rfl rfl <| soq kd67 rfl rfl rfl rfl rfl <| nxq <| rtq ?_
                have hO' : o = .ret [LDw L, .sc (.int .i64 (j8 : Int))] (.agg [.sc (.int .u8 2), nD 0, .sc (.int .u64 0), .sc (.int .u64 0), txD s, txD t, nD 0, nD 0, .list 10 [], nD (wordAt wEnd L i).ln]) := by rw [hO]; show Oc.ret _ (exD (.mk 2 0 0 0 s t 0 0 [] (wordAt wEnd L i).ln)) = _; rw [exD_cs]; first | rfl | (simp only [exCs, exDs, exD_cs]; done) | (simp only [exCs, exDs, exD_cs]; rfl)
                exact hits_doneX hO' (.inl rfl) rfl rfl rfl rfl rfl ⟨rfl, rfl, trivial⟩ rfl
          · rw [if_pos rfl] at hO
            refine asq rfl rfl <| nxq <| cnT rfl <| sqq <| rgq <| mvq rfl rfl ?_
            refine sq_pr hO hne (IH f (Nat.le_refl _) hj5) rfl en179 rfl rfl rfl rfl ⟨rfl, rfl, trivial⟩ rfl rfl (lt rfl) (fun _ _ hd h => And.intro hd (h)) (fun q j6 hq6 hO2 => ?_)
            replace hO := hO2
            clear hO2
            have hj6 := (tame_ex _ _ hq6 hj5).2
            obtain ⟨qop, qlw, qlh, qll, qnm, qfl, qn, qm, qar, qln⟩ := q
            rw [exD_cs]
            refine soq kd67 rfl rfl rfl rfl rfl <| nxq <| rgq <| mvq rfl rfl ?_
            refine sq_pr hO hne (need_c (l := [41]) (ts := [[41]]) hL hj6 (by decide) (fields_g (l := [41]) (ts := [[41]]) (by decide +kernel) (by decide +kernel) (by decide +kernel))) rfl en122 rfl rfl rfl rfl ⟨rfl, rfl, trivial⟩ rfl rfl (lt rfl) (fun _ _ hd h => And.intro hd (h)) (fun u j7 hq7 hO2 => ?_)
            replace hO := hO2
            clear hO2
            refine nlq <| inq <| toq <| sqq <| rgq <| ldq kd67 rfl rfl rfl <| soq kd67 rfl rfl rfl rfl rfl <| nxq ?_
            refine rtq ?_
            have hO' : o = .ret [LDw L, .sc (.int .i64 (j7 : Int))] (.agg (exCs (Ex.mk qop qlw qlh qll qnm qfl qn qm qar qln))) := by rw [hO]; show Oc.ret _ (exD _) = _; rw [exD_cs]
            exact hits_doneX hO' (.inl rfl) rfl rfl rfl rfl rfl ⟨rfl, rfl, trivial⟩ rfl
        · rw [if_pos rfl] at hO
          refine asq rfl rfl <| nxq <| cnT rfl <| sqq <| rgq <| mvq rfl rfl ?_
          refine sq_pr hO hne (name_c hL hj4) rfl en121 rfl rfl rfl rfl ⟨rfl, rfl, trivial⟩ rfl rfl (lt rfl) (fun _ _ hd h => And.intro hd (h)) (fun s j6 hq6 hO2 => ?_)
          replace hO := hO2
          clear hO2
          have hj6 := (eager_name hq6 hj4).2
          refine faq rfl kf67_0 rfl rfl <| soq kd64 rfl rfl rfl rfl rfl <| faq rfl kf67_2 rfl rfl <| soq kd9 rfl rfl rfl rfl rfl <| nxq <| sqq <| rgq <| mvq rfl rfl ?_
          refine sq_pr hO hne (need_c (l := [40]) (ts := [[40]]) hL hj6 (by decide) (fields_g (l := [40]) (ts := [[40]]) (by decide +kernel) (by decide +kernel) (by decide +kernel))) rfl en122 rfl rfl rfl rfl ⟨rfl, rfl, trivial⟩ rfl rfl (lt rfl) (fun _ _ hd h => And.intro hd (h)) (fun u j7 hq7 hO2 => ?_)
          replace hO := hO2
          clear hO2
          refine nxq <| rgq ?_
          have hj7 := (tame_need _ hq7 hj6).2
          refine mvq rfl rfl <| mvq rfl rfl <| sq (f_methodVal rfl rfl rfl (lt rfl)) rfl rfl ?_
          refine sq_pr hO hne (somex_c hL hj7 [41] (fields_g (l := [41]) (ts := [[41]]) (by decide +kernel) (by decide +kernel) (by decide +kernel)) f IH) rfl en218 rfl rfl rfl rfl ⟨rfl, rfl, trivial⟩ rfl rfl (lt rfl) (fun _ _ hd h => And.intro hd (h)) (fun l j8 hq8 hO2 => ?_)
          replace hO := hO2
          clear hO2
          refine faq rfl kf67_6 rfl rfl <| soq kd65 rfl rfl rfl rfl rfl <| nlq <| inq <| toq <| sqq <| rgq <| ldq kd67 rfl rfl rfl ?_
          refine soq kd67 rfl rfl rfl rfl rfl <| nxq <| rtq ?_
          have hl := exDs_map l
          have hO' : o = .ret [LDw L, .sc (.int .i64 (j8 : Int))] (.agg [.sc (.int .u8 23), nD 0, .sc (.int .u64 0), .sc (.int .u64 0), txD s, txD [], nD 0, nD 0, exLD l, nD (wordAt wEnd L i).ln]) := by rw [hO]; show Oc.ret _ (exD (.mk 23 0 0 0 s [] 0 0 l (wordAt wEnd L i).ln)) = _; rw [exD_cs]; rw [exCs, hl]; rfl
          exact hits_doneX hO' (.inl rfl) rfl rfl rfl rfl rfl ⟨rfl, rfl, trivial⟩ rfl
      · rw [if_pos rfl] at hO
        refine asq rfl rfl <| nxq <| cnT rfl <| sqq <| rgq <| mvq rfl rfl ?_
        refine sq_pr hO hne (whole_c hL hj3 hS) rfl en126 rfl rfl rfl rfl ⟨rfl, rfl, trivial⟩ rfl rfl (lt rfl) (fun _ _ hd h => And.intro hd (h)) (fun n j6 hq6 hO2 => ?_)
        replace hO := hO2
        clear hO2
        have hj6 := (eager_whole hq6 hj3).2
        refine faq rfl kf67_0 rfl rfl <| soq kd64 rfl rfl rfl rfl rfl <| faq rfl kf67_4 rfl rfl <| soq kd3 rfl rfl rfl rfl rfl <| nxq <| sqq <| rgq <| mvq rfl rfl ?_
        refine sq_pr hO hne (need_c (l := [40]) (ts := [[40]]) hL hj6 (by decide) (fields_g (l := [40]) (ts := [[40]]) (by decide +kernel) (by decide +kernel) (by decide +kernel))) rfl en122 rfl rfl rfl rfl ⟨rfl, rfl, trivial⟩ rfl rfl (lt rfl) (fun _ _ hd h => And.intro hd (h)) (fun u j7 hq7 hO2 => ?_)
        replace hO := hO2
        clear hO2
        refine nxq <| sqq <| rgq ?_
        have hj7 := (tame_need _ hq7 hj6).2
        refine mvq rfl rfl ?_
        refine sq_pr hO hne (IH f (Nat.le_refl _) hj7) rfl en179 rfl rfl rfl rfl ⟨rfl, rfl, trivial⟩ rfl rfl (lt rfl) (fun _ _ hd h => And.intro hd (h)) (fun q j8 hq8 hO2 => ?_)
        replace hO := hO2
        clear hO2
        have hj8 := (tame_ex _ _ hq8 hj7).2
        obtain ⟨qop, qlw, qlh, qll, qnm, qfl, qn, qm, qar, qln⟩ := q
        rw [exD_cs]
        refine sq (f_buildSlice sk65 rfl rfl rfl rfl rfl rfl (by decide) (by decide) (lt rfl)) rfl rfl <| faq rfl kf67_6 rfl rfl <| soq kd65 rfl rfl rfl rfl rfl <| nxq <| rgq <| mvq rfl rfl ?_
        refine sq_pr hO hne (need_c (l := [41]) (ts := [[41]]) hL hj8 (by decide) (fields_g (l := [41]) (ts := [[41]]) (by decide +kernel) (by decide +kernel) (by decide +kernel))) rfl en122 rfl rfl rfl rfl ⟨rfl, rfl, trivial⟩ rfl rfl (lt rfl) (fun _ _ hd h => And.intro hd (h)) (fun u2 j9 hq9 hO2 => ?_)
        replace hO := hO2
        clear hO2
        refine nlq <| inq <| toq <| sqq <| rgq <| ldq kd67 rfl rfl rfl <| soq kd67 rfl rfl rfl rfl rfl <| nxq ?_
        refine rtq ?_
        have hO' : o = .ret [LDw L, .sc (.int .i64 (j9 : Int))] (.agg [.sc (.int .u8 16), nD 0, .sc (.int .u64 0), .sc (.int .u64 0), txD [], txD [], nD n, nD 0, .list 10 [.agg (exCs (Ex.mk qop qlw qlh qll qnm qfl qn qm qar qln))], nD (wordAt wEnd L i).ln]) := by rw [hO]; show Oc.ret _ (exD (.mk 16 0 0 0 [] [] n 0 [Ex.mk qop qlw qlh qll qnm qfl qn qm qar qln] (wordAt wEnd L i).ln)) = _; rw [exD_cs]; first | rfl | (simp only [exCs, exDs, exD_cs]; done) | (simp only [exCs, exDs, exD_cs]; rfl)
        exact hits_doneX hO' (.inl rfl) rfl rfl rfl rfl rfl ⟨rfl, rfl, trivial⟩ rfl
    · rw [if_pos rfl] at hO
      refine asq rfl rfl <| nxq <| cnT rfl <| rgq <| mvq rfl rfl ?_
      refine sq_pr hO hne (name_c hL hj2) rfl en121 rfl rfl rfl rfl ⟨rfl, rfl, trivial⟩ rfl rfl (lt rfl) (fun _ _ hd h => And.intro hd (h)) (fun s j6 hq6 hO2 => ?_)
      replace hO := hO2
      clear hO2
      refine faq rfl kf67_0 rfl rfl <| soq kd64 rfl rfl rfl rfl rfl <| faq rfl kf67_2 rfl rfl <| soq kd9 rfl rfl rfl rfl rfl <| nlq <| inq <| toq <| sqq ?_
      refine rgq <| ldq kd67 rfl rfl rfl <| soq kd67 rfl rfl rfl rfl rfl <| nxq <| rtq ?_
      have hO' : o = .ret [LDw L, .sc (.int .i64 (j6 : Int))] (.agg [.sc (.int .u8 4), nD 0, .sc (.int .u64 0), .sc (.int .u64 0), txD s, txD [], nD 0, nD 0, .list 10 [], nD (wordAt wEnd L i).ln]) := by rw [hO]; show Oc.ret _ (exD (.mk 4 0 0 0 s [] 0 0 [] (wordAt wEnd L i).ln)) = _; rw [exD_cs]; first | rfl | (simp only [exCs, exDs, exD_cs]; done) | (simp only [exCs, exDs, exD_cs]; rfl)
      exact hits_doneX hO' (.inl rfl) rfl rfl rfl rfl rfl ⟨rfl, rfl, trivial⟩ rfl
theorem level8_c {L : List Wd} {i : Nat} (hL : L.length ≤ 65536) (hi : i ≤ L.length) {f : Nat} (h8 : ∀ {i : Nat}, i ≤ L.length → CallsX Tryz.prog Lw pvN 234 [LDw L, .sc (.int .i64 (i : Int))] (fun _ => []) (oX L f 8 i)) : CallsX Tryz.prog Lw pvN 216 [LDw L, .sc (.int .i64 (i : Int))] (fun b => [.sc (.int .i64 (8 : Int))]) (ocOf (LDw L) (exD) ((exP f 8).run wEnd L i)) := by
  refine callsX_of (m := 1) Tryz.func216 rfl Tryz.ntmps216 (fun _ => rfl) rfl rfl fun hne w0 S0 b stab => ?_
  obtain ⟨o, hO⟩ : ∃ o, o = ocOf (LDw L) (exD) ((exP f 8).run wEnd L i) := ⟨_, rfl⟩
  rw [← hO] at hne ⊢
  have hO : o = ocOf (LDw L) exD (((exP f 8).bind .ret).run wEnd L i) := by rw [bind_ret]; exact hO
  refine sqq <| rgq <| sq (f_alloc zc67 (lt rfl)) rfl rfl <| nxq <| sqq <| sqq <| rgq <| mvq rfl rfl ?_
  refine sq (f_bin rfl rfl (bT (b' := true) rfl) (lt rfl)) rfl rfl <| nxq <| cnT rfl <| sqq <| rgq <| mvq rfl rfl ?_
  refine sq_pr hO hne (h8 hi) rfl en234 rfl rfl rfl rfl ⟨rfl, rfl, trivial⟩ rfl rfl (lt rfl) (fun _ _ hd h => And.intro hd (h)) (fun q j hq hO2 => ?_)
  replace hO := hO2
  clear hO2
  obtain ⟨qop, qlw, qlh, qll, qnm, qfl, qn, qm, qar, qln⟩ := q
  rw [exD_cs]
  refine soq kd67 rfl rfl rfl rfl rfl <| nxq <| rtq <| to_ret ?_
  have hO' : o = .ret [LDw L, .sc (.int .i64 (j : Int))] (.agg (exCs (Ex.mk qop qlw qlh qll qnm qfl qn qm qar qln))) := by rw [hO]; show Oc.ret _ (exD _) = _; rw [exD_cs]
  exact hits_doneX hO' (.inl rfl) rfl rfl rfl rfl rfl ⟨rfl, rfl, trivial⟩ rfl
set_option maxHeartbeats 4000000 in
theorem level_c {L : List Wd} {i : Nat} (hL : L.length ≤ 65536) (hi : i ≤ L.length) {f lv : Nat} (hlv : lv ≤ 7) (IH : ∀ g, g ≤ f → ∀ {i : Nat}, i ≤ L.length → CallsX Tryz.prog Lw pvN 216 [LDw L, .sc (.int .i64 (i : Int))] (fun _ => [.sc (.int .i64 ((lv + 1 : Nat) : Int))]) (oX L g (lv + 1) i)) : CallsX Tryz.prog Lw pvN 216 [LDw L, .sc (.int .i64 (i : Int))] (fun b => [.sc (.int .i64 (lv : Int))]) (ocOf (LDw L) (exD) ((exP (f + 1) lv).run wEnd L i)) := by
  refine callsX_of (m := 1) Tryz.func216 rfl Tryz.ntmps216 (fun _ => rfl) rfl rfl fun hne w0 S0 b stab => ?_
  obtain ⟨o, hO⟩ : ∃ o, o = ocOf (LDw L) (exD) ((exP (f + 1) lv).run wEnd L i) := ⟨_, rfl⟩
  rw [← hO] at hne ⊢
  rw [exP, if_pos hlv] at hO
  change o = ocOf (LDw L) exD (((exP f (lv + 1)).bind fun x => exL f lv (wordAt wEnd L i).ln x).run wEnd L i) at hO
  refine sqq <| rgq <| sq (f_alloc zc67 (lt rfl)) rfl rfl <| nxq <| sqq <| sqq <| rgq <| mvq rfl rfl ?_
  refine sq (f_bin rfl rfl (bT (decide_eq_false (by omega))) (lt rfl)) rfl rfl <| nxq <| cnF rfl <| skq <| toq <| sqq <| rgq <| mvq rfl rfl ?_
  refine sq_callB en33 rfl rfl (next_c hL hi) ⟨rfl, rfl, trivial⟩ rfl rfl rfl rfl (lt rfl) <| sq (f_field rfl fp37_3 rfl (lt rfl)) rfl rfl <| asq rfl rfl <| nxq <| sqq <| rgq <| mvq rfl rfl <| mvq rfl rfl ?_
  refine sq (f_bin rfl rfl (iT (((IntWalk.i64_in _ (by omega)).trans (by omega) : _ = ((lv + 1 : Nat) : Int)))) (lt rfl)) rfl rfl ?_
  refine sq_pr hO hne (IH f (Nat.le_refl _) hi) rfl en216 rfl rfl rfl rfl ⟨rfl, rfl, trivial⟩ rfl rfl (lt rfl) (fun _ _ hd h => And.intro hd (h)) (fun q j2 hq2 hO2 => ?_)
  replace hO := hO2
  clear hO2
  have hj2 := (tame_ex _ _ hq2 hi).2
  obtain ⟨qop, qlw, qlh, qll, qnm, qfl, qn, qm, qar, qln⟩ := q
  rw [exD_cs]
  refine sq (f_alloc zc67 (lt rfl)) rfl rfl <| soq kd67 rfl rfl rfl rfl rfl <| nxq <| hits_block <| hits_loop (fun x : Nat × Ex × Nat => [(.slot 0, some (.ptr 1000000 0)), (.box 1000000, some (.ptr 1000000 0)), (.cell 1000000 0, some (.d (LDw L))), (.cell 1000000 1, some (.d (.sc (.int .i64 (x.2.2 : Int))))), (.slot 1, some (.d (.sc (.int .i64 (lv : Int))))), (.slot 5, some (.d (.sc (.int .i64 ((wordAt wEnd L i).ln : Int))))), (.slot 4, some (.ptr 4 0)), (.box 4, some (.ptr 4 0)), (.cell 4 0, some (.d (.sc (.int .u8 0)))), (.cell 4 1, some (.d (.sc (.int .i64 0)))), (.cell 4 2, some (.d (.sc (.int .u64 0)))), (.cell 4 3, some (.d (.sc (.int .u64 0)))), (.cell 4 4, some (.d (.sc (.string ByteArray.empty)))), (.cell 4 5, some (.d (.sc (.string ByteArray.empty)))), (.cell 4 6, some (.d (.sc (.int .i64 0)))), (.cell 4 7, some (.d (.sc (.int .i64 0)))), (.cell 4 8, some (.d (.sc (.slice none 0 0)))), (.cell 4 9, some (.d (.sc (.int .i64 0)))), (.slot 6, some (.ptr 6 0)), (.box 6, some (.ptr 6 0)), (.cell 6 0, some (.d ((exCs x.2.1).getD 0 .any))), (.cell 6 1, some (.d ((exCs x.2.1).getD 1 .any))), (.cell 6 2, some (.d ((exCs x.2.1).getD 2 .any))), (.cell 6 3, some (.d ((exCs x.2.1).getD 3 .any))), (.cell 6 4, some (.d ((exCs x.2.1).getD 4 .any))), (.cell 6 5, some (.d ((exCs x.2.1).getD 5 .any))), (.cell 6 6, some (.d ((exCs x.2.1).getD 6 .any))), (.cell 6 7, some (.d ((exCs x.2.1).getD 7 .any))), (.cell 6 8, some (.d ((exCs x.2.1).getD 8 .any))), (.cell 6 9, some (.d ((exCs x.2.1).getD 9 .any)))]) (fun x : Nat × Ex × Nat => x.1 ≤ f ∧ x.2.2 ≤ L.length ∧ o = ocOf (LDw L) exD ((exL x.1 lv (wordAt wEnd L i).ln x.2.1).run wEnd L x.2.2)) (fun x : Nat × Ex × Nat => x.1) (f, Ex.mk qop qlw qlh qll qnm qfl qn qm qar qln, j2) ⟨Nat.le_refl _, hj2, hO⟩ ⟨rfl, rfl, rfl, rfl, rfl, rfl, rfl, rfl, rfl, rfl, rfl, rfl, rfl, rfl, rfl, rfl, rfl, rfl, rfl, rfl, rfl, rfl, rfl, rfl, rfl, rfl, rfl, rfl, rfl, rfl, trivial⟩ rfl ?_
  intro x hx0
  obtain ⟨g, y, i'⟩ := x
  obtain ⟨yop, ylw, ylh, yll, ynm, yfl, yn, ym, yar, yln⟩ := y
  obtain ⟨hg, hi', hO⟩ := hx0
  change g ≤ f at hg
  change i' ≤ L.length at hi'
  change o = ocOf (LDw L) exD ((exL g lv (wordAt wEnd L i).ln (Ex.mk yop ylw ylh yll ynm yfl yn ym yar yln)).run wEnd L i') at hO
  change Hits _ [(.slot 0, some (.ptr 1000000 0)), (.box 1000000, some (.ptr 1000000 0)), (.cell 1000000 0, some (.d (LDw L))), (.cell 1000000 1, some (.d (.sc (.int .i64 (i' : Int))))), (.slot 1, some (.d (.sc (.int .i64 (lv : Int))))), (.slot 5, some (.d (.sc (.int .i64 ((wordAt wEnd L i).ln : Int))))), (.slot 4, some (.ptr 4 0)), (.box 4, some (.ptr 4 0)), (.cell 4 0, some (.d (.sc (.int .u8 0)))), (.cell 4 1, some (.d (.sc (.int .i64 0)))), (.cell 4 2, some (.d (.sc (.int .u64 0)))), (.cell 4 3, some (.d (.sc (.int .u64 0)))), (.cell 4 4, some (.d (.sc (.string ByteArray.empty)))), (.cell 4 5, some (.d (.sc (.string ByteArray.empty)))), (.cell 4 6, some (.d (.sc (.int .i64 0)))), (.cell 4 7, some (.d (.sc (.int .i64 0)))), (.cell 4 8, some (.d (.sc (.slice none 0 0)))), (.cell 4 9, some (.d (.sc (.int .i64 0)))), (.slot 6, some (.ptr 6 0)), (.box 6, some (.ptr 6 0)), (.cell 6 0, some (.d ((exCs (Ex.mk yop ylw ylh yll ynm yfl yn ym yar yln)).getD 0 .any))), (.cell 6 1, some (.d ((exCs (Ex.mk yop ylw ylh yll ynm yfl yn ym yar yln)).getD 1 .any))), (.cell 6 2, some (.d ((exCs (Ex.mk yop ylw ylh yll ynm yfl yn ym yar yln)).getD 2 .any))), (.cell 6 3, some (.d ((exCs (Ex.mk yop ylw ylh yll ynm yfl yn ym yar yln)).getD 3 .any))), (.cell 6 4, some (.d ((exCs (Ex.mk yop ylw ylh yll ynm yfl yn ym yar yln)).getD 4 .any))), (.cell 6 5, some (.d ((exCs (Ex.mk yop ylw ylh yll ynm yfl yn ym yar yln)).getD 5 .any))), (.cell 6 6, some (.d ((exCs (Ex.mk yop ylw ylh yll ynm yfl yn ym yar yln)).getD 6 .any))), (.cell 6 7, some (.d ((exCs (Ex.mk yop ylw ylh yll ynm yfl yn ym yar yln)).getD 7 .any))), (.cell 6 8, some (.d ((exCs (Ex.mk yop ylw ylh yll ynm yfl yn ym yar yln)).getD 8 .any))), (.cell 6 9, some (.d ((exCs (Ex.mk yop ylw ylh yll ynm yfl yn ym yar yln)).getD 9 .any)))] _
  cases g with
  | zero => rw [exL] at hO; exact absurd hO hne
  | succ g =>
  rw [exL] at hO
  change o = ocOf (LDw L) exD ((match twoOf (wordAt wEnd L i').s with | none => Pr.ret (Ex.mk yop ylw ylh yll ynm yfl yn ym yar yln) | some (op, b) => if (wordAt wEnd L i').k = 4 ∧ b = lv then .take ((exP g (lv + 1)).bind fun y => if lv = 2 then .ret (exUn op [Ex.mk yop ylw ylh yll ynm yfl yn ym yar yln, y] (wordAt wEnd L i).ln) else exL g lv (wordAt wEnd L i).ln (exUn op [Ex.mk yop ylw ylh yll ynm yfl yn ym yar yln, y] (wordAt wEnd L i).ln)) else .ret (Ex.mk yop ylw ylh yll ynm yfl yn ym yar yln)).run wEnd L i') at hO
  refine hits_block <| sqq <| rgq <| mvq rfl rfl <| sq_callB en33 rfl rfl (next_c (i := i') hL hi') ⟨rfl, rfl, trivial⟩ rfl rfl rfl rfl (lt rfl) <| sq (f_alloc zc37 (lt rfl)) rfl rfl <| soq kd37 rfl rfl rfl rfl rfl <| nxq ?_
  refine sqq ?_
  rcases h2 : twoOf (wordAt wEnd L i').s with _ | ⟨op, bb⟩
  · have h3 := two_c (wordAt wEnd L i').s
    rw [signD, h2] at h3
    rw [h2] at hO
    refine rgq <| faq rfl kf37_1 rfl rfl <| ldq kd9 rfl rfl rfl <| sq (f_call en235 rfl h3 (lt rfl)) rfl rfl <| mvq rfl rfl <| exq rfl rfl rfl <| exq rfl rfl rfl <| sq (f_alloc zc268 (lt rfl)) rfl rfl ?_
    refine soq kd268 rfl rfl rfl rfl rfl <| asq rfl rfl <| nxq <| sqq <| sqq ?_
    by_cases hk : (wordAt wEnd L i').k = 4
    · refine rgq <| faq rfl kf37_0 rfl rfl <| ldq kd32 rfl rfl rfl <| sq (f_bin rfl rfl (bT (bne_eq_false_iff_eq.mpr (by rw [hk]; rfl))) (lt rfl)) rfl rfl ?_
      refine mvq rfl rfl <| sq_yes (f_move rfl (lt rfl)) rfl rfl rfl rfl (lt rfl) <| sq_yes (f_un rfl rfl (lt rfl)) rfl rfl rfl rfl (lt rfl) <| pkq rfl rfl rfl <| mvq rfl rfl <| noq rfl rfl rfl rfl rfl rfl rfl <| noq rfl rfl rfl rfl rfl rfl rfl <| noq rfl rfl rfl rfl rfl rfl rfl ?_
      refine noq rfl rfl rfl rfl rfl rfl rfl <| pkq rfl rfl rfl <| nxq <| cnT rfl <| sqq <| rgq <| ldq kd67 rfl rfl rfl <| soq kd67 rfl rfl rfl rfl rfl ?_
      refine nxq <| rtq <| to_ret <| in_ret <| to_ret <| in_ret ?_
      have hO' : o = .ret [LDw L, .sc (.int .i64 (i' : Int))] (.agg (exCs (Ex.mk yop ylw ylh yll ynm yfl yn ym yar yln))) := by rw [hO]; show Oc.ret _ (exD _) = _; rw [exD_cs]
      exact hits_doneX hO' (.inl rfl) rfl rfl rfl rfl rfl ⟨rfl, rfl, trivial⟩ rfl
    · refine rgq <| faq rfl kf37_0 rfl rfl <| ldq kd32 rfl rfl rfl <| sq (f_bin rfl rfl (bT (bne_iff_ne.mpr (by omega))) (lt rfl)) rfl rfl <| mvq rfl rfl <| noq rfl rfl rfl rfl rfl rfl rfl <| noq rfl rfl rfl rfl rfl rfl rfl <| pkq rfl rfl rfl ?_
      refine mvq rfl rfl <| noq rfl rfl rfl rfl rfl rfl rfl <| noq rfl rfl rfl rfl rfl rfl rfl <| noq rfl rfl rfl rfl rfl rfl rfl <| noq rfl rfl rfl rfl rfl rfl rfl <| pkq rfl rfl rfl <| nxq <| cnT rfl ?_
      refine sqq <| rgq <| ldq kd67 rfl rfl rfl <| soq kd67 rfl rfl rfl rfl rfl <| nxq <| rtq <| to_ret <| in_ret ?_
      refine to_ret <| in_ret ?_
      have hO' : o = .ret [LDw L, .sc (.int .i64 (i' : Int))] (.agg (exCs (Ex.mk yop ylw ylh yll ynm yfl yn ym yar yln))) := by rw [hO]; show Oc.ret _ (exD _) = _; rw [exD_cs]
      exact hits_doneX hO' (.inl rfl) rfl rfl rfl rfl rfl ⟨rfl, rfl, trivial⟩ rfl
  · have h3 := two_c (wordAt wEnd L i').s
    rw [signD, h2] at h3
    change CallsP _ _ _ _ (.tup [.agg [.sc (.int .u8 (op : Int)), .sc (.int .i64 (bb : Int))], .sc (.bool true)]) at h3
    rw [h2] at hO
    change o = ocOf (LDw L) exD ((if (wordAt wEnd L i').k = 4 ∧ bb = lv then Pr.take ((exP g (lv + 1)).bind fun y => if lv = 2 then .ret (exUn op [Ex.mk yop ylw ylh yll ynm yfl yn ym yar yln, y] (wordAt wEnd L i).ln) else exL g lv (wordAt wEnd L i).ln (exUn op [Ex.mk yop ylw ylh yll ynm yfl yn ym yar yln, y] (wordAt wEnd L i).ln)) else .ret (Ex.mk yop ylw ylh yll ynm yfl yn ym yar yln)).run wEnd L i') at hO
    refine rgq <| faq rfl kf37_1 rfl rfl <| ldq kd9 rfl rfl rfl <| sq (f_call en235 rfl h3 (lt rfl)) rfl rfl <| mvq rfl rfl <| exq rfl rfl rfl <| exq rfl rfl rfl <| sq (f_alloc zc268 (lt rfl)) rfl rfl ?_
    refine soq kd268 rfl rfl rfl rfl rfl <| asq rfl rfl <| nxq <| sqq <| sqq ?_
    by_cases hk : (wordAt wEnd L i').k = 4
    · have hin := word_in (L := L) (i := i') (by rw [hk]; decide)
      have hi1 : i' + 1 ≤ L.length := hin
      refine rgq <| faq rfl kf37_0 rfl rfl <| ldq kd32 rfl rfl rfl <| sq (f_bin rfl rfl (bT (bne_eq_false_iff_eq.mpr (by rw [hk]; rfl))) (lt rfl)) rfl rfl ?_
      refine mvq rfl rfl <| sq_yes (f_move rfl (lt rfl)) rfl rfl rfl rfl (lt rfl) <| sq_yes (f_un rfl rfl (lt rfl)) rfl rfl rfl rfl (lt rfl) <| pkq rfl rfl rfl <| mvq rfl rfl <| sq_yes (f_fieldAddr rfl kf268_1 rfl (lt rfl)) rfl rfl rfl rfl (lt rfl) ?_
      by_cases hb : bb = lv
      · rw [if_pos ⟨hk, hb⟩] at hO
        change o = ocOf (LDw L) exD (((exP g (lv + 1)).bind fun y => if lv = 2 then .ret (exUn op [Ex.mk yop ylw ylh yll ynm yfl yn ym yar yln, y] (wordAt wEnd L i).ln) else exL g lv (wordAt wEnd L i).ln (exUn op [Ex.mk yop ylw ylh yll ynm yfl yn ym yar yln, y] (wordAt wEnd L i).ln)).run wEnd L (i' + 1)) at hO
        refine sq_yes (f_load kd3 rfl rfl (lt rfl)) rfl rfl rfl rfl (lt rfl) <| sq_yes (f_move rfl (lt rfl)) rfl rfl rfl rfl (lt rfl) <| sq_yes (f_bin rfl rfl (bT (bne_eq_false_iff_eq.mpr (by rw [hb]))) (lt rfl)) rfl rfl rfl rfl (lt rfl) ?_
        refine pkq rfl rfl rfl <| nxq <| cnF rfl <| skq <| toq <| sqq <| rgq <| mvq rfl rfl ?_
        refine sq_callB en86 rfl rfl (take_c hL hi') ⟨rfl, rfl, trivial⟩ rfl rfl rfl rfl (lt rfl) <| nxq <| sqq <| hits_drawnT (some (1000000, 2)) rfl mixed <| dq (f_fieldAddr rfl kf268_0 rfl (lt rfl)) rfl rfl <| dq (f_load kd64 rfl rfl (lt rfl)) rfl rfl <| dq (f_move rfl (lt rfl)) rfl rfl <| dq (f_load kd67 rfl rfl (lt rfl)) rfl rfl ?_
        refine dq (f_move rfl (lt rfl)) rfl rfl <| dq (f_move rfl (lt rfl)) rfl rfl <| dq (f_bin rfl rfl (iT (((IntWalk.i64_in _ (by omega)).trans (by omega) : _ = ((lv + 1 : Nat) : Int)))) (lt rfl)) rfl rfl ?_
        refine dq_pr (Ex.mk 0 0 0 0 [] [] 0 0 [] 0) hO hne (IH g (by omega) hi1) rfl en216 rfl rfl rfl rfl ⟨rfl, rfl, trivial⟩ rfl (lt rfl) (fun _ _ hd h => And.intro hd (h)) (fun q j3 X hX => ?_)
        obtain ⟨qop, qlw, qlh, qll, qnm, qfl, qn, qm, qar, qln⟩ := q
        rw [exD_cs]
        refine dq (f_buildSlice sk65 rfl rfl rfl rfl rfl rfl (by decide) (by decide) (lt rfl)) rfl rfl <| dq (f_build bu67 rfl rfl (lt rfl)) rfl rfl <| dq (f_store kd67 rfl rfl rfl rfl rfl) rfl rfl <| dq_nilT (by kernel_rfl) rfl ?_
        refine drawn_end (id := 1000000) hX rfl (fun hXq hXe => ?_)
        obtain ⟨hq3, hO2⟩ := hXq
        subst hXe
        replace hO := hO2
        clear hO2 hX
        have hj3 := (tame_ex _ _ hq3 hi1).2
        refine toq <| sqq ?_
        by_cases h2 : lv = 2
        · rw [if_pos h2] at hO
          refine rgq <| mvq rfl rfl <| sq (f_bin rfl rfl (bT (beq_iff_eq.mpr (by omega))) (lt rfl)) rfl rfl <| nxq <| cnT rfl <| sqq <| rgq <| ldq kd67 rfl rfl rfl ?_
          refine soq kd67 rfl rfl rfl rfl rfl <| nxq <| rtq <| in_ret <| to_ret <| in_ret ?_
          have hO' : o = .ret [LDw L, .sc (.int .i64 (j3 : Int))] (.agg [.sc (.int .u8 (op : Int)), nD 0, .sc (.int .u64 0), .sc (.int .u64 0), txD [], txD [], nD 0, nD 0, .list 10 [.agg (exCs (Ex.mk yop ylw ylh yll ynm yfl yn ym yar yln)), .agg (exCs (Ex.mk qop qlw qlh qll qnm qfl qn qm qar qln))], nD (wordAt wEnd L i).ln]) := by rw [hO]; show Oc.ret _ (exD (exUn op [Ex.mk yop ylw ylh yll ynm yfl yn ym yar yln, Ex.mk qop qlw qlh qll qnm qfl qn qm qar qln] (wordAt wEnd L i).ln)) = _; rw [exD_cs]; first | rfl | (simp only [exCs, exDs, exD_cs]; done) | (simp only [exCs, exDs, exD_cs]; rfl)
          exact hits_doneX hO' (.inl rfl) rfl rfl rfl rfl rfl ⟨rfl, rfl, trivial⟩ rfl
        · rw [if_neg h2] at hO
          refine rgq <| mvq rfl rfl <| sq (f_bin rfl rfl (bT (beq_eq_false_iff_ne.mpr (by omega))) (lt rfl)) rfl rfl <| nxq <| cnF rfl <| skq <| inq <| toq ?_
          refine round_end (g, exUn op [Ex.mk yop ylw ylh yll ynm yfl yn ym yar yln, Ex.mk qop qlw qlh qll qnm qfl qn qm qar qln] (wordAt wEnd L i).ln, j3) ⟨by simp only; omega, hj3, hO⟩ (by simp only; omega) ⟨rfl, rfl, rfl, rfl, rfl, rfl, rfl, rfl, rfl, rfl, rfl, rfl, rfl, rfl, rfl, rfl, rfl, rfl, rfl, rfl, rfl, rfl, rfl, rfl, rfl, rfl, rfl, rfl, (by show some (V.d (D.list 10 [.agg (exCs (Ex.mk yop ylw ylh yll ynm yfl yn ym yar yln)), .agg (exCs (Ex.mk qop qlw qlh qll qnm qfl qn qm qar qln))])) = some (V.d (.list 10 (exDs [Ex.mk yop ylw ylh yll ynm yfl yn ym yar yln, Ex.mk qop qlw qlh qll qnm qfl qn qm qar qln]))); rw [exDs, exDs, exDs, exD_cs, exD_cs]), rfl, trivial⟩ rfl
      · rw [if_neg (fun c => hb c.2)] at hO
        refine sq_yes (f_load kd3 rfl rfl (lt rfl)) rfl rfl rfl rfl (lt rfl) <| sq_yes (f_move rfl (lt rfl)) rfl rfl rfl rfl (lt rfl) <| sq_yes (f_bin rfl rfl (bT (bne_iff_ne.mpr (by omega))) (lt rfl)) rfl rfl rfl rfl (lt rfl) <| pkq rfl rfl rfl <| nxq <| cnT rfl <| sqq <| rgq ?_
        refine ldq kd67 rfl rfl rfl <| soq kd67 rfl rfl rfl rfl rfl <| nxq <| rtq <| to_ret <| in_ret <| to_ret <| in_ret ?_
        have hO' : o = .ret [LDw L, .sc (.int .i64 (i' : Int))] (.agg (exCs (Ex.mk yop ylw ylh yll ynm yfl yn ym yar yln))) := by rw [hO]; show Oc.ret _ (exD _) = _; rw [exD_cs]
        exact hits_doneX hO' (.inl rfl) rfl rfl rfl rfl rfl ⟨rfl, rfl, trivial⟩ rfl
    · rw [if_neg (fun c => hk c.1)] at hO
      refine rgq <| faq rfl kf37_0 rfl rfl <| ldq kd32 rfl rfl rfl <| sq (f_bin rfl rfl (bT (bne_iff_ne.mpr (by omega))) (lt rfl)) rfl rfl <| mvq rfl rfl <| noq rfl rfl rfl rfl rfl rfl rfl <| noq rfl rfl rfl rfl rfl rfl rfl <| pkq rfl rfl rfl ?_
      refine mvq rfl rfl <| noq rfl rfl rfl rfl rfl rfl rfl <| noq rfl rfl rfl rfl rfl rfl rfl <| noq rfl rfl rfl rfl rfl rfl rfl <| noq rfl rfl rfl rfl rfl rfl rfl <| pkq rfl rfl rfl <| nxq <| cnT rfl ?_
      refine sqq <| rgq <| ldq kd67 rfl rfl rfl <| soq kd67 rfl rfl rfl rfl rfl <| nxq <| rtq <| to_ret <| in_ret ?_
      refine to_ret <| in_ret ?_
      have hO' : o = .ret [LDw L, .sc (.int .i64 (i' : Int))] (.agg (exCs (Ex.mk yop ylw ylh yll ynm yfl yn ym yar yln))) := by rw [hO]; show Oc.ret _ (exD _) = _; rw [exD_cs]
      exact hits_doneX hO' (.inl rfl) rfl rfl rfl rfl rfl ⟨rfl, rfl, trivial⟩ rfl
end Go.Proofs.YtogodijfdkffaaaGreatDoor.Ln
