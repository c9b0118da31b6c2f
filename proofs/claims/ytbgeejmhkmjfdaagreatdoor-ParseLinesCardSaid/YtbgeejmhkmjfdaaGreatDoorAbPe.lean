/- The parser's expressions over data. -/
import Derived.Test.YtbgeejmhkmjfdaaGreatDoorAbPs
namespace Go.Proofs.YtbgeejmhkmjfdaaGreatDoor.Ln
open Go Go.RowKit Go.Ab Go.Proofs 
set_option linter.unusedVariables false
set_option linter.unusedSimpArgs false
theorem bu243 : bk Tryz.prog 243 = some ([(0, 1), (1, 1)], [.int .u8 0, .int .i64 0]) := by kernel_rfl
theorem mpk249 : mpk Tryz.prog 249 = some (9, 243, .agg ⟨[.int .u8 0, .int .i64 0]⟩) := by kernel_rfl
theorem zc243 : zc Tryz.prog 243 = some [.int .u8 0, .int .i64 0] := by kernel_rfl
theorem en177 : enters Tryz.prog 177 = true := by kernel_rfl
theorem kd243 : kd Tryz.prog 243 = some (true, 2) := by kernel_rfl
theorem sk44 : sk Tryz.prog 44 = some (46, 10, [.int .u8 0, .int .i64 0, .int .u64 0, .int .u64 0, .string ByteArray.empty, .string ByteArray.empty, .int .i64 0, .int .i64 0, .slice none 0 0, .int .i64 0]) := by kernel_rfl
theorem apk44 : apk Tryz.prog 44 44 = some (46, 10, 112) := by kernel_rfl
theorem B_eqb (s t : Tx) : (B s == B t) = decide (s = t) := by
  show (s.toArray == t.toArray) = decide (s = t)
  by_cases h : s = t
  · subst h; simp
  · rw [decide_eq_false h]; simp [h]
theorem find_map {α : Type} (s : Tx) (g : α → Value) : ∀ l : List (Tx × α), findE (B s) (l.map fun p => (B p.1, g p.2)) = (l.findSome? fun p => if p.1 = s then some p.2 else none).map g
  | [] => rfl
  | p :: l => by
    rw [List.map_cons, findE, B_eqb, List.findSome?_cons]
    by_cases h : p.1 = s
    · rw [if_pos h, decide_eq_true h.symm, if_pos rfl]; rfl
    · rw [if_neg h, decide_eq_false fun c => h c.symm, if_neg Bool.false_ne_true, find_map s g l]
def twosL : List (Tx × Nat × Nat) := [([124, 124], 22, 0), ([38, 38], 21, 1), ([61, 61], 17, 2), ([33, 61], 18, 2), ([60], 19, 2), ([60, 61], 20, 2), ([38], 8, 3), ([124], 9, 3), ([94], 10, 3), ([43], 5, 4), ([45], 6, 4), ([43, 43], 14, 5), ([42], 7, 6), ([60, 60], 12, 7), ([62, 62], 13, 7)]
theorem twoOf_is (s : Tx) : twoOf s = twosL.findSome? fun p => if p.1 = s then some p.2 else none := rfl
def signV (p : Nat × Nat) : Value := .agg ⟨[.int .u8 (p.1 : Int), .int .i64 (p.2 : Int)]⟩
def twosE : List (ByteArray × Value) := twosL.map fun p => (B p.1, signV p.2)
def signD (s : Tx) : D := .agg [.sc (.int .u8 (((twoOf s).getD (0, 0)).1 : Int)), .sc (.int .i64 (((twoOf s).getD (0, 0)).2 : Int))]
theorem find_two (s : Tx) : findE (B s) twosE = (twoOf s).map signV := by rw [twoOf_is]; exact find_map s signV twosL
theorem look_two (s : Tx) : aggD ((findE (B s) twosE).getD (.agg ⟨[.int .u8 0, .int .i64 0]⟩)) = signD s ∧ (findE (B s) twosE).isSome = (twoOf s).isSome := by
  rw [find_two]; unfold signD; cases twoOf s <;> exact ⟨rfl, rfl⟩
theorem exDs_map : ∀ l : List Ex, exDs l = l.map exD
  | [] => rfl
  | x :: l => by rw [exDs, List.map_cons, exDs_map l]
abbrev oX (L : List Wd) (f lv i : Nat) : Oc := ocOf (LDw L) exD ((exP f lv).run wEnd L i)
def exLD (l : List Ex) : D := .list 10 (l.map exD)
def exCs : Ex → List D
  | .mk op lw lh ll name field n m args line => [.sc (.int .u8 (op : Int)), nD lw, .sc (.int .u64 (lh : Int)), .sc (.int .u64 (ll : Int)), txD name, txD field, nD n, nD m, .list 10 (exDs args), nD line]
theorem exD_cs (x : Ex) : exD x = .agg (exCs x) := by cases x; rw [exD]; rfl
theorem call_any {P : Program} {Γ : World → Prop} {pv : Value} {f : FuncId} {ins : List D} {args : Nat → List D} : CallsX P Γ pv f ins args .any := fun h => absurd rfl h
theorem tame_oof {α : Type} : Tame (.oof : PW α) := fun h hi => by cases h
mutual
theorem tame_ex : ∀ (f lv : Nat), Tame (exP f lv)
  | 0, lv => by rw [exP]; exact tame_oof
  | f + 1, lv => by
    rw [exP]
    refine tame_ite (tame_look fun w => tame_bind (tame_ex f _) fun x => tame_exL f _ _ _) (tame_ite (tame_look fun w => tame_bind (tame_may _) fun b => tame_ite (tame_bind (tame_ex f _) fun x => tame_ret _) (tame_bind (tame_ex f _) fun x => tame_exS f _ _)) (tame_look fun w => tame_ite (tame_bind eager_lit.tame fun l => tame_ret _) ?_))
    refine tame_bind (tame_may _) fun b => tame_ite (tame_bind eager_name.tame fun s => tame_ret _) ?_
    refine tame_bind (tame_may _) fun b => tame_ite (tame_bind eager_whole.tame fun n => tame_bind (tame_need _) fun _ => tame_bind (tame_ex f _) fun x => tame_bind (tame_need _) fun _ => tame_ret _) ?_
    refine tame_bind (tame_may _) fun b => tame_ite (tame_bind eager_name.tame fun s => tame_bind (tame_need _) fun _ => tame_bind (tame_exR f _ _) fun l => tame_ret _) ?_
    refine tame_bind (tame_may _) fun b => tame_ite (tame_bind (tame_ex f _) fun x => tame_bind (tame_need _) fun _ => tame_ret _) ?_
    refine tame_bind tame_owner fun s => tame_ite (tame_bind (tame_need _) fun _ => tame_bind eager_name.tame fun t => tame_ret _) ?_
    exact tame_bind (tame_may _) fun b => tame_ite (tame_bind eager_name.tame fun t => tame_ret _) (tame_ret _)
theorem tame_exL : ∀ (f lv line : Nat) (x : Ex), Tame (exL f lv line x)
  | 0, _, _, _ => by rw [exL]; exact tame_oof
  | f + 1, lv, line, x => by
    rw [exL]
    rename_i L i j a
    intro hr hi
    change (match twoOf (wordAt wEnd L i).s with | none => Pr.ret x | some (op, b) => if (wordAt wEnd L i).k = 4 ∧ b = lv then .take ((exP f (lv + 1)).bind fun y => if lv = 2 then .ret (exUn op [x, y] line) else exL f lv line (exUn op [x, y] line)) else .ret x).run wEnd L i = _ at hr
    split at hr
    · cases hr; exact ⟨Nat.le_refl _, hi⟩
    · rename_i op b _
      split at hr
      · rename_i h
        have h1 := word_in (L := L) (i := i) (by rw [h.1]; decide)
        have := tame_bind (tame_ex f (lv + 1)) (k := fun y => if lv = 2 then .ret (exUn op [x, y] line) else exL f lv line (exUn op [x, y] line)) (fun y => tame_ite (tame_ret _) (tame_exL f _ _ _)) hr h1
        exact ⟨by omega, this.2⟩
      · cases hr; exact ⟨Nat.le_refl _, hi⟩
theorem tame_exS : ∀ (f line : Nat) (x : Ex), Tame (exS f line x)
  | 0, _, _ => by rw [exS]; exact tame_oof
  | f + 1, line, x => by
    rw [exS]
    exact tame_bind (tame_may _) fun b => tame_ite (tame_bind eager_whole.tame fun n => tame_bind (tame_need _) fun _ => tame_bind eager_whole.tame fun m => tame_bind (tame_need _) fun _ => tame_exS f _ _) (tame_ret _)
theorem tame_exR : ∀ (f : Nat) (e : Tx) (acc : List Ex), Tame (exR f e acc)
  | 0, _, _ => by rw [exR]; exact tame_oof
  | f + 1, e, acc => by
    rw [exR]
    exact tame_bind (tame_ex f _) fun x => tame_bind (tame_may _) fun b => tame_ite (tame_exR f _ _) (tame_bind (tame_need _) fun _ => tame_ret _)
end
set_option maxHeartbeats 4000000 in
set_option maxRecDepth 100000 in
theorem twos_c : CallsM Tryz.prog Lw 177 [] twosE := by
  refine callsG_of (R := fun w0 S0 => PostM w0 twosE) gs_lw Tryz.func177 rfl Tryz.ntmps177 rfl fun w0 S0 stab => ?_
  refine hits_seq ?_
  refine hits_region ?_
  refine sq (f_assign rfl (lt rfl)) rfl rfl ?_
  refine hits_nil ?_
  refine to_next ?_
  refine hits_seq ?_
  refine hits_region ?_
  refine sq (f_makeMap (lt rfl)) rfl rfl ?_
  refine sq (f_build bu243 rfl rfl (lt rfl)) rfl rfl ?_
  refine sq (f_mapIns mpk249 rfl rfl rfl rfl rfl rfl (by kernel_rfl)) rfl rfl ?_
  refine sq (f_build bu243 rfl rfl (lt rfl)) rfl rfl ?_
  refine sq (f_mapIns mpk249 rfl rfl rfl rfl rfl rfl (by kernel_rfl)) rfl rfl ?_
  refine sq (f_build bu243 rfl rfl (lt rfl)) rfl rfl ?_
  refine sq (f_mapIns mpk249 rfl rfl rfl rfl rfl rfl (by kernel_rfl)) rfl rfl ?_
  refine sq (f_build bu243 rfl rfl (lt rfl)) rfl rfl ?_
  refine sq (f_mapIns mpk249 rfl rfl rfl rfl rfl rfl (by kernel_rfl)) rfl rfl ?_
  refine sq (f_build bu243 rfl rfl (lt rfl)) rfl rfl ?_
  refine sq (f_mapIns mpk249 rfl rfl rfl rfl rfl rfl (by kernel_rfl)) rfl rfl ?_
  refine sq (f_build bu243 rfl rfl (lt rfl)) rfl rfl ?_
  refine sq (f_mapIns mpk249 rfl rfl rfl rfl rfl rfl (by kernel_rfl)) rfl rfl ?_
  refine sq (f_build bu243 rfl rfl (lt rfl)) rfl rfl ?_
  refine sq (f_mapIns mpk249 rfl rfl rfl rfl rfl rfl (by kernel_rfl)) rfl rfl ?_
  refine sq (f_build bu243 rfl rfl (lt rfl)) rfl rfl ?_
  refine sq (f_mapIns mpk249 rfl rfl rfl rfl rfl rfl (by kernel_rfl)) rfl rfl ?_
  refine sq (f_build bu243 rfl rfl (lt rfl)) rfl rfl ?_
  refine sq (f_mapIns mpk249 rfl rfl rfl rfl rfl rfl (by kernel_rfl)) rfl rfl ?_
  refine sq (f_build bu243 rfl rfl (lt rfl)) rfl rfl ?_
  refine sq (f_mapIns mpk249 rfl rfl rfl rfl rfl rfl (by kernel_rfl)) rfl rfl ?_
  refine sq (f_build bu243 rfl rfl (lt rfl)) rfl rfl ?_
  refine sq (f_mapIns mpk249 rfl rfl rfl rfl rfl rfl (by kernel_rfl)) rfl rfl ?_
  refine sq (f_build bu243 rfl rfl (lt rfl)) rfl rfl ?_
  refine sq (f_mapIns mpk249 rfl rfl rfl rfl rfl rfl (by kernel_rfl)) rfl rfl ?_
  refine sq (f_build bu243 rfl rfl (lt rfl)) rfl rfl ?_
  refine sq (f_mapIns mpk249 rfl rfl rfl rfl rfl rfl (by kernel_rfl)) rfl rfl ?_
  refine sq (f_build bu243 rfl rfl (lt rfl)) rfl rfl ?_
  refine sq (f_mapIns mpk249 rfl rfl rfl rfl rfl rfl (by kernel_rfl)) rfl rfl ?_
  refine sq (f_build bu243 rfl rfl (lt rfl)) rfl rfl ?_
  refine sq (f_mapIns mpk249 rfl rfl rfl rfl rfl rfl (by kernel_rfl)) rfl rfl ?_
  refine sq (f_move rfl (lt rfl)) rfl rfl ?_
  refine sq (f_assign rfl (lt rfl)) rfl rfl ?_
  refine hits_nil ?_
  refine to_next ?_
  refine hits_ret ?_
  exact hits_doneM (.inl rfl) rfl rfl rfl rfl rfl
set_option maxRecDepth 100000 in
theorem two_c (s : Tx) : CallsP Tryz.prog Lw 166 [txD s] (.tup [signD s, .sc (.bool (twoOf s).isSome)]) := by
  refine callsP_of gs_lw Tryz.func166 rfl Tryz.ntmps166 rfl fun w0 S0 stab => ?_
  refine hits_seq ?_
  refine hits_region ?_
  refine sq (f_alloc zc243 (lt rfl)) rfl rfl ?_
  refine sq (f_assign rfl (lt rfl)) rfl rfl ?_
  refine hits_nil ?_
  refine to_next ?_
  refine hits_seq ?_
  refine hits_region ?_
  refine sq_callM en177 rfl (twos_c) rfl (lt rfl) ?_
  refine sq (f_move rfl (lt rfl)) rfl rfl ?_
  refine sq (f_lookup mpk249 rfl rfl rfl (look_two s).1 (look_two s).2 (lt rfl)) rfl rfl ?_
  refine sq (f_move rfl (lt rfl)) rfl rfl ?_
  refine sq (f_extract rfl rfl (lt rfl)) rfl rfl ?_
  refine sq (f_extract rfl rfl (lt rfl)) rfl rfl ?_
  refine sq (f_alloc zc243 (lt rfl)) rfl rfl ?_
  refine sq (f_store kd243 rfl rfl rfl rfl rfl) rfl rfl ?_
  refine sq (f_assign rfl (lt rfl)) rfl rfl ?_
  refine hits_nil ?_
  refine to_next ?_
  refine hits_seq ?_
  refine hits_region ?_
  refine sq (f_load kd243 rfl rfl (lt rfl)) rfl rfl ?_
  refine sq (f_move rfl (lt rfl)) rfl rfl ?_
  refine sq (f_store kd243 rfl rfl rfl rfl rfl) rfl rfl ?_
  refine sq (f_assign rfl (lt rfl)) rfl rfl ?_
  refine hits_nil ?_
  refine to_next ?_
  refine hits_ret ?_
  exact hits_done (.inl rfl) rfl rfl rfl
set_option maxHeartbeats 1000000 in
set_option maxRecDepth 100000 in
theorem somex_c {L : List Wd} {i : Nat} (hL : L.length ≤ 65536) (hi : i ≤ L.length) (e : Tx) (he : CallsP Tryz.prog Lw 47 [txD e] (.list 1 ([e].map txD))) (f : Nat) (IH : ∀ g, g ≤ f → ∀ {i : Nat}, i ≤ L.length → CallsX Tryz.prog Lw pvN 124 [LDw L, .sc (.int .i64 (i : Int))] (fun _ => []) (oX L g 0 i)) : CallsX Tryz.prog Lw pvN 153 [LDw L, .sc (.int .i64 (i : Int))] (fun b => [txD e, .sc (.func (.func 124) #[.pointer (some ⟨b, 0, none⟩)] #[])]) (ocOf (LDw L) (exLD) ((exR f e []).run wEnd L i)) := by
  refine callsX_of (m := 2) Tryz.func153 rfl Tryz.ntmps153 (fun _ => rfl) rfl rfl fun hne w0 S0 b stab => ?_
  obtain ⟨o, hO⟩ : ∃ o, o = ocOf (LDw L) (exLD) ((exR f e []).run wEnd L i) := ⟨_, rfl⟩
  rw [← hO] at hne ⊢
  refine hits_seq ?_
  refine hits_region ?_
  refine sq (f_assign rfl (lt rfl)) rfl rfl ?_
  refine hits_nil ?_
  refine to_next ?_
  refine hits_block ?_
  refine hits_own 6 6 10 rfl ?_
  refine hits_loop (fun x : Nat × List Ex × Nat => [(.slot 0, some (.ptr 1000000 0)), (.box 1000000, some (.ptr 1000000 0)), (.cell 1000000 0, some (.d (LDw L))), (.cell 1000000 1, some (.d (.sc (.int .i64 (x.2.2 : Int))))), (.slot 1, some (.d (txD e))), (.slot 2, some (.d (.sc (.func (.func 124) #[.pointer (some ⟨b, 0, none⟩)] #[])))), (.slot 6, some (.own 6 10 (x.2.1.map exD))), (.tip 6, some (.ptr 6 0))]) (fun x : Nat × List Ex × Nat => x.1 ≤ f ∧ x.2.1.length ≤ x.2.2 ∧ x.2.2 ≤ L.length ∧ o = ocOf (LDw L) exLD ((exR x.1 e x.2.1).run wEnd L x.2.2)) (fun x : Nat × List Ex × Nat => x.1) (f, [], i) ⟨Nat.le_refl _, Nat.zero_le _, hi, hO⟩ ⟨rfl, rfl, rfl, rfl, rfl, rfl, rfl, rfl, trivial⟩ rfl ?_
  intro x hx0
  obtain ⟨g, acc, i'⟩ := x
  obtain ⟨hg, ha, hi', hO⟩ := hx0
  change g ≤ f at hg
  change acc.length ≤ i' at ha
  change i' ≤ L.length at hi'
  change o = ocOf (LDw L) exLD ((exR g e acc).run wEnd L i') at hO
  change Hits _ [(.slot 0, some (.ptr 1000000 0)), (.box 1000000, some (.ptr 1000000 0)), (.cell 1000000 0, some (.d (LDw L))), (.cell 1000000 1, some (.d (.sc (.int .i64 (i' : Int))))), (.slot 1, some (.d (txD e))), (.slot 2, some (.d (.sc (.func (.func 124) #[.pointer (some ⟨b, 0, none⟩)] #[])))), (.slot 6, some (.own 6 10 (acc.map exD))), (.tip 6, some (.ptr 6 0))] _
  cases g with
  | zero => rw [exR] at hO; exact absurd hO hne
  | succ g =>
  rw [exR] at hO
  change o = ocOf (LDw L) exLD (((exP g 0).bind fun x : Ex => (mayP [44]).bind fun b => if b = true then exR g e (acc ++ [x]) else (needP [e]).bind fun _ => .ret (acc ++ [x])).run wEnd L i') at hO
  refine hits_block ?_
  refine hits_seq ?_
  refine hits_region ?_
  refine sq (f_move rfl (lt rfl)) rfl rfl ?_
  refine sq (f_move rfl (lt rfl)) rfl rfl ?_
  refine sq_prV hO hne (IH g (by omega) hi') rfl rfl rfl rfl ⟨rfl, rfl, trivial⟩ rfl rfl (lt rfl) (fun _ _ hd h => And.intro hd (h)) (fun q j hq hO2 => ?_)
  replace hO := hO2
  clear hO2
  have hj := tame_ex _ _ hq hi'
  obtain ⟨op, lw, lh, ll, nm, fl, n, m, ar, ln⟩ := q
  rw [exD_cs]
  refine sq (f_buildSlice sk44 rfl rfl rfl rfl rfl rfl (by decide) (by decide) (lt rfl)) rfl rfl ?_
  refine sq_append rfl rfl rfl rfl apk44 (by simp only [snds, List.length_map, List.length_cons, List.length_nil]; omega) (by simp only [snds, List.length_map, List.length_cons, List.length_nil]; omega) rfl (lt rfl) ?_
  refine sq (f_assign rfl (lt rfl)) rfl rfl ?_
  refine hits_nil ?_
  refine to_next ?_
  refine hits_seq ?_
  refine hits_region ?_
  refine sq (f_move rfl (lt rfl)) rfl rfl ?_
  refine sq_pr hO hne (may_c hL hj.2 [44]) rfl en95 rfl rfl rfl rfl ⟨rfl, rfl, trivial⟩ rfl rfl (lt rfl) (fun _ _ hd h => And.intro hd (h)) (fun b2 j2 hq2 hO2 => ?_)
  replace hO := hO2
  clear hO2
  have hj2 := may_at hq2
  cases b2
  · rw [if_neg Bool.false_ne_true] at hO
    have hj3 : j2 = j := by rcases hj2 with ⟨h, _⟩ | ⟨_, h⟩; cases h; exact h
    subst hj3
    have hnd := need_c (l := e) (ts := [e]) hL hj.2 (by simp) he
    refine sq (f_un rfl rfl (lt rfl)) rfl rfl ?_
    refine hits_nil ?_
    refine to_next ?_
    refine hits_cond rfl (fun c0 => ?_) (fun c0 => absurd c0 Bool.false_ne_true.symm)
    refine hits_seq ?_
    refine hits_region ?_
    refine sq (f_move rfl (lt rfl)) rfl rfl ?_
    refine sq (f_move rfl (lt rfl)) rfl rfl ?_
    refine sq_pr hO hne (hnd) rfl en83 rfl rfl rfl rfl ⟨rfl, rfl, trivial⟩ rfl rfl (lt rfl) (fun _ _ hd h => And.intro hd (h)) (fun u j3 hq3 hO2 => ?_)
    replace hO := hO2
    clear hO2
    refine hits_nil ?_
    refine to_next ?_
    refine hits_seq ?_
    refine hits_region ?_
    refine sq (f_move rfl (lt rfl)) rfl rfl ?_
    refine sq (f_assign rfl (lt rfl)) rfl rfl ?_
    refine hits_nil ?_
    refine to_next ?_
    refine hits_ret ?_
    refine in_ret ?_
    refine to_ret ?_
    refine in_ret ?_
    have hO' : o = .ret [LDw L, .sc (.int .i64 (j3 : Int))] (.list 10 (acc.map exD ++ [.agg (exCs (Ex.mk op lw lh ll nm fl n m ar ln))])) := by rw [hO]; show Oc.ret _ (exLD _) = _; rw [exLD, List.map_append, List.map_cons, List.map_nil, exD_cs]
    exact hits_doneX hO' (.inl rfl) rfl rfl rfl rfl rfl ⟨rfl, rfl, trivial⟩ rfl
  · rw [if_pos rfl] at hO
    have hj3 : j2 = j + 1 ∧ j < L.length := by rcases hj2 with ⟨_, h⟩ | ⟨h, _⟩; exact h; cases h
    refine sq (f_un rfl rfl (lt rfl)) rfl rfl ?_
    refine hits_nil ?_
    refine to_next ?_
    refine hits_cond rfl (fun c0 => absurd c0 Bool.false_ne_true) (fun c0 => ?_)
    refine hits_skip ?_
    refine in_next ?_
    refine to_next ?_
    refine round_end (g, acc ++ [Ex.mk op lw lh ll nm fl n m ar ln], j2) ⟨by simp only; omega, by simp only [List.length_append, List.length_cons, List.length_nil]; omega, by simp only; omega, hO⟩ (by simp only; omega) ⟨rfl, rfl, rfl, rfl, rfl, rfl, (by show _ = some (V.own 6 10 ((acc ++ [Ex.mk op lw lh ll nm fl n m ar ln]).map exD)); rw [List.map_append, List.map_cons, List.map_nil, exD_cs]; rfl), rfl, trivial⟩ rfl
end Go.Proofs.YtbgeejmhkmjfdaaGreatDoor.Ln
