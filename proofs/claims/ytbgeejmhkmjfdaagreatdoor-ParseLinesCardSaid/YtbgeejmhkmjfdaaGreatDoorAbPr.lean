/- Parse over data. -/
import Derived.Test.YtbgeejmhkmjfdaaGreatDoorAbSm
import Derived.Test.YtbgeejmhkmjfdaaGreatDoorAbCat
import Derived.Tactics
import Derived.Tactics2
import Derived.Defers
import Derived.Recover
import Derived.Laws.Pointers
import Derived.Laws.NewBlocks
import Derived.RowKit3
namespace Go.Proofs.YtbgeejmhkmjfdaaGreatDoor.Ln
open Go Go.RowKit Go.Ab Go.Proofs 
set_option linter.unusedVariables false
set_option linter.unusedSimpArgs false
theorem sk28 : sk Tryz.prog 28 = some (62, 15, [.int .u8 0, .string ByteArray.empty, .slice none 0 0, .int .i64 0, .int .i64 0, .int .i64 0, .int .i64 0, .slice none 0 0, .slice none 0 0, .slice none 0 0, .string ByteArray.empty, .slice none 0 0, .slice none 0 0, .slice none 0 0, .int .i64 0]) := by kernel_rfl
theorem apk28 : apk Tryz.prog 28 28 = some (62, 15, 248) := by kernel_rfl
theorem en15 : enters Tryz.prog 15 = true := by kernel_rfl
theorem en16 : enters Tryz.prog 16 = true := by kernel_rfl
theorem en14 : enters Tryz.prog 14 = true := by kernel_rfl
theorem en6 : enters Tryz.prog 6 = true := by kernel_rfl
theorem zc22 : zc Tryz.prog 22 = some [.slice none 0 0] := by kernel_rfl
theorem bu68 : bk Tryz.prog 68 = some ([(0, 1), (1, 1)], [.slice none 0 0, .int .i64 0]) := by kernel_rfl
theorem zc66 : zc Tryz.prog 66 = some [.pointer none] := by kernel_rfl
theorem zc28 : zc Tryz.prog 28 = some [.slice none 0 0] := by kernel_rfl
theorem en13 : enters Tryz.prog 13 = true := by kernel_rfl
theorem kd28 : kd Tryz.prog 28 = some (false, 1) := by kernel_rfl
def fuel (_ : List Wd) : Nat := 786433
def lineAt (L : List Wd) (j : Nat) : Nat := (wordAt wEnd L (min j (L.length - 1))).ln
def parseR (L : List Wd) : Rs (List Dc) → List Dc × Nat × Nat
  | .ok ds _ => if smallB ds = true then (ds, 0, 0) else ([], 0, 3)
  | .bad j => ([], lineAt L j, 5)
  | .oof => ([], 0, 0)
def parseL (L : List Wd) : List Dc × Nat × Nat := parseR L ((progP (fuel L) []).run wEnd L 0)
def parseS (s : Tx) : List Dc × Nat × Nat := if 65536 < s.length then ([], 0, 3) else match W s 0 with
  | .inl n => ([], n, 4)
  | .inr L => parseL L
def parsedD (r : List Dc × Nat × Nat) : D := .tup [.list 15 (r.1.map dcD), nD r.2.1, nD r.2.2]
theorem word_at {L : List Wd} {i : Nat} (hi : i < L.length) : ∃ x, L[i]? = some x ∧ wordAt wEnd L i = x := by
  obtain ⟨x, hx⟩ : ∃ x, L[i]? = some x := ⟨_, List.getElem?_eq_getElem hi⟩
  exact ⟨x, hx, by unfold wordAt; rw [hx]; rfl⟩
theorem prog_end {L : List Wd} {i : Nat} (hi : ¬ i < L.length) (f : Nat) (acc : List Dc) : (progP (f + 1) acc).run wEnd L i = .ok acc i := by
  have : wordAt wEnd L i = wEnd := by unfold wordAt; rw [List.getElem?_eq_none (by omega)]; rfl
  rw [progP]
  show ((if (wordAt wEnd L i).k = 0 then Pr.ret acc else (declP f).bind fun d => progP f (acc ++ [d])) : PW _).run wEnd L i = _
  rw [this]; rfl
theorem prog_more {L : List Wd} {i : Nat} (hk : (wordAt wEnd L i).k ≠ 0) (f : Nat) (acc : List Dc) : (progP (f + 1) acc).run wEnd L i = ((declP f).bind fun d => progP f (acc ++ [d])).run wEnd L i := by
  rw [progP]
  show ((if (wordAt wEnd L i).k = 0 then Pr.ret acc else (declP f).bind fun d => progP f (acc ++ [d])) : PW _).run wEnd L i = _
  rw [if_neg hk]
theorem line_at {L : List Wd} {j : Nat} (hL : L ≠ []) : ∃ x, (L.map wordD)[((if ((L.length : Int) - 1) < (j : Int) then ((L.length : Int) - 1) else (j : Int))).toNat]? = some (wordD x) ∧ lineAt L j = x.ln ∧ 0 ≤ (if ((L.length : Int) - 1) < (j : Int) then ((L.length : Int) - 1) else (j : Int)) := by
  have hpos : 0 < L.length := List.length_pos_iff.mpr hL
  have e : (if ((L.length : Int) - 1) < (j : Int) then ((L.length : Int) - 1) else (j : Int)) = ((min j (L.length - 1) : Nat) : Int) := by
    split <;> omega
  rw [e, Int.toNat_natCast]
  obtain ⟨x, hx, hw⟩ := word_at (L := L) (i := min j (L.length - 1)) (by omega)
  exact ⟨x, by rw [List.getElem?_map, hx]; rfl, by unfold lineAt; rw [hw], by omega⟩
theorem assert_none (w : World) : (Instr.typeAssert (.iface 84 (.agg ⟨[]⟩)) 20 84 true).run Tryz.prog w = .ok (.tuple #[.agg ⟨[]⟩, .bool true]) w := by
  simp [Instr.typeAssert, go_sem]
theorem catch_none (pb : Nat) (b : Bool) (w : World) (hc : w.cell? ⟨pb, 0, none⟩ = some (.bool b)) (hz : w.frozen? ⟨pb, 0, none⟩ = false) :
    CallsD Tryz.prog 30 #[.pointer (some ⟨pb, 0, none⟩)] (.panicking (ch0 (.iface 84 (.agg ⟨[]⟩)))) w fun e u' w' =>
      e = .returned (.tuple #[]) ∧ u' = .panicking [{ v := .iface 84 (.agg ⟨[]⟩), recovered := true }] ∧ w' = (w.alloc (.cells #[] 84)).setCell ⟨pb, 0, none⟩ (.bool true) := by
  refine callsD_of_wpS Tryz.func30 rfl fun c₀ cs hu => ?_
  apply wpS_seq
  apply wpS_region
  simp [wpOpsS, go_sem, recoverD, hu, ch0, Tryz.ntmps30, Exit.thenS]
  refine wpS_of_wp ?_
  apply wp_block
  apply wp_seq
  apply wp_region
  simp [wpOps, go_sem, Exit.then]
  refine .inl ?_
  refine wp_cond (t := false) (by simp [Act.eval]) ?_
  simp only [Bool.false_eq_true, if_false]
  apply wp_seq
  apply wp_region
  simp [wpOps, go_sem, Exit.then, assert_none]
  refine .inl (.inl (.inl ?_))
  refine wp_cond (t := true) (by simp [Act.eval]) ?_
  simp only [if_true]
  apply wp_seq
  apply wp_region
  simp [wpOps, go_sem, Exit.then]
  refine .inl (.inl ?_)
  apply wp_region
  have hc' : (w.alloc (.cells #[] 84)).cell? ⟨pb, 0, none⟩ = some (.bool b) := by
    rw [World.cell?_alloc_past _ _ _ (lt_of_cell hc)]; exact hc
  have hz' : (w.alloc (.cells #[] 84)).frozen? ⟨pb, 0, none⟩ = false := by rw [frozen?_alloc_cells]; exact hz
  simp [wpOps, go_sem, Exit.inBlock, hc', hz', bodyPostS, results, Tryz.results30]
theorem catch_idle (p : Addr) (w : World) :
    CallsD Tryz.prog 30 #[.pointer (some p)] .returning w fun e u' w' => e = .returned (.tuple #[]) ∧ u' = .returning ∧ w' = w := by
  refine callsD_of_wpS Tryz.func30 rfl fun c₀ cs hu => ?_
  apply wpS_seq
  apply wpS_region
  simp [wpOpsS, go_sem, recoverD, hu, Tryz.ntmps30, Exit.thenS]
  refine wpS_of_wp ?_
  apply wp_block
  apply wp_seq
  apply wp_region
  simp [wpOps, go_sem, Exit.then]
  refine .inl ?_
  refine wp_cond (t := true) (by simp [Act.eval]) ?_
  simp only [if_true]
  apply wp_region
  simp [wpOps, go_sem, Exit.inBlock, bodyPostS, results, Tryz.results30]
  cases c₀
  simp_all
theorem caught_calls {f : FuncId} {cap : List Value} {w : World} {R : Ending → World → Prop} (hen : enters Tryz.prog f = true)
    (h : Calls Tryz.prog f ⟨cap⟩ (w.alloc (.cells #[.bool false] 4)) (Caught 84 w.heap.size pvN R)) : Calls Tryz.prog 13 #[.func (.func f) #[] ⟨cap⟩] w R := by
  have hmf : ∀ (fn : Fn) (first cap : Array Value) (w : World), (Instr.makeFunc fn first cap).run Tryz.prog w = .ok (.func fn first cap) w := fun _ _ _ _ => rfl
  refine calls_of_wp_defers Tryz.func13 rfl ?_
  simp only [Tryz.ntmps13]
  apply wp_seq
  apply wp_region
  simp [wpOps, go_sem, Exit.then]
  refine .inl ?_
  apply wp_seq
  apply wp_region
  simp [wpOps, go_sem, Exit.then, hmf]
  refine .inl (.inl ?_)
  apply wp_seq
  apply wp_region
  simp [wpOps, go_sem, Exit.then, resolve, Deferred.ofValue, invoke, run_callFunc hen]
  refine .inl (.inl ?_)
  refine h.mono ?_
  rintro e w' ⟨⟨b, hc⟩, hz, ⟨u, rfl, hR⟩ | ⟨rfl, hR⟩⟩
  · show Code.wp _ _ _ _ _
    apply wp_seq
    apply wp_region
    simp [wpOps, go_sem, Exit.then, hc, hz]
    refine .inl ?_
    apply wp_ret
    simp only [bodyPostD]
    refine leaves_cons (f := 30) (args := #[.pointer (some ⟨w.heap.size, 0, none⟩)]) (by simp) (by simp [go_sem]) ?_
    refine (catch_idle _ _).mono ?_
    rintro e u' w'' ⟨rfl, rfl, rfl⟩
    have hc2 : (w'.setCell ⟨w.heap.size, 0, none⟩ (.bool false)).cell? ⟨w.heap.size, 0, none⟩ = some (.bool false) := World.cell?_setCell_same _ _ _ hc
    simp [Leaves, settle, results, Tryz.results13, go_sem, hc2]
    exact hR
  · simp only [bodyPostD]
    refine leaves_cons (f := 30) (args := #[.pointer (some ⟨w.heap.size, 0, none⟩)]) (by simp) (by simp [go_sem]) ?_
    refine (catch_none _ b _ hc hz).mono ?_
    rintro e u' w'' ⟨rfl, rfl, rfl⟩
    have hc2 : ((w'.alloc (.cells #[] 84)).setCell ⟨w.heap.size, 0, none⟩ (.bool true)).cell? ⟨w.heap.size, 0, none⟩ = some (.bool true) := World.cell?_setCell_same (u := .bool b) _ _ _ (by rw [World.cell?_alloc_past _ _ _ (lt_of_cell hc)]; exact hc)
    simp [Leaves, settle, results, Tryz.results13, go_sem, hc2]
    exact hR
set_option maxHeartbeats 8000000 in
set_option maxRecDepth 100000 in
theorem parse_words {s : Tx} {L : List Wd} (hlex : CallsP Tryz.prog Lw 6 [txD s] (wordsD (.inr L))) (hL : L.length ≤ 65536) (hS : Small L) (hW : Wide L) (hK : ∀ x ∈ L, x.k ≠ 0) {R : Rs (List Dc)} (hJ : R = (progP (fuel L) []).run wEnd L 0) (hR : R ≠ .oof) (hcnt : ∀ ds j, R = .ok ds j → (progC ds).1 ≤ big) : CallsP Tryz.prog Lw 8 [txD s] (parsedD (parseR L R)) := by
  refine callsP_of gs_lw Tryz.func8 rfl Tryz.ntmps8 rfl fun w0 S0 stab => ?_
  refine hits_seq ?_
  refine hits_region ?_
  refine sq (f_assign rfl (lt rfl)) rfl rfl ?_
  refine sq (f_assign rfl (lt rfl)) rfl rfl ?_
  refine sq (f_assign rfl (lt rfl)) rfl rfl ?_
  refine hits_nil ?_
  refine to_next ?_
  refine hits_seq ?_
  refine hits_region ?_
  refine sq (f_move rfl (lt rfl)) rfl rfl ?_
  refine sq (f_call en6 rfl hlex (lt rfl)) rfl rfl ?_
  refine sq (f_move rfl (lt rfl)) rfl rfl ?_
  refine sq (f_extract rfl rfl (lt rfl)) rfl rfl ?_
  refine sq (f_extract rfl rfl (lt rfl)) rfl rfl ?_
  refine sq (f_extract rfl rfl (lt rfl)) rfl rfl ?_
  refine sq (f_alloc zc22 (lt rfl)) rfl rfl ?_
  refine sq (f_store kd22 rfl rfl rfl rfl rfl) rfl rfl ?_
  refine sq (f_assign rfl (lt rfl)) rfl rfl ?_
  refine sq (f_assign rfl (lt rfl)) rfl rfl ?_
  refine hits_nil ?_
  refine to_next ?_
  refine hits_seq ?_
  refine hits_seq ?_
  refine hits_region ?_
  refine sq (f_move rfl (lt rfl)) rfl rfl ?_
  refine sq (f_bin rfl rfl (bT (b' := false) rfl) (lt rfl)) rfl rfl ?_
  refine hits_nil ?_
  refine to_next ?_
  refine hits_cond rfl (fun c0 => absurd c0 Bool.false_ne_true) (fun c0 => ?_)
  refine hits_skip ?_
  refine to_next ?_
  refine hits_seq ?_
  refine hits_region ?_
  refine sq (f_load kd22 rfl rfl (lt rfl)) rfl rfl ?_
  refine sq (f_build bu68 rfl rfl (lt rfl)) rfl rfl ?_
  refine sq (f_box rfl rfl (lt rfl)) rfl rfl ?_
  refine sq (f_alloc zc66 (lt rfl)) rfl rfl ?_
  refine sq (f_store kd66 rfl rfl rfl rfl rfl) rfl rfl ?_
  refine hits_nil ?_
  refine to_next ?_
  refine hits_seq ?_
  refine hits_region ?_
  refine sq (f_alloc zc28 (lt rfl)) rfl rfl ?_
  refine hits_nil ?_
  refine to_next ?_
  refine hits_seq ?_
  refine hits_seq ?_
  refine hits_region ?_
  refine sq (f_makeClo rfl (lt rfl)) rfl rfl ?_
  refine with_rest (fun j : Nat => [(.slot 24, some (.d (.sc (.bool true)))), (.slot 5, some (.ptr 5 0)), (.slot 8, some (.ptr 8 0)), (.box 8, some (.ptr 8 0)), (.cell 8 0, some (.ptr 22 0)), (.box 5, some (.ptr 5 0)), (.cell 5 0, some (.d (LDw L))), (.box 22, some (.ptr 22 0)), (.cell 22 0, some (.d (LDw L))), (.cell 22 1, some (.d (.sc (.int .i64 (j : Int)))))]) (fun j => R = .bad j) ?_ (fun hpT => ?_)
  · intro j hRj
    have hLne : L ≠ [] := fun c => by subst c; rw [hJ] at hRj; cases hRj
    obtain ⟨xw, hat, hln, hpos⟩ := line_at (L := L) (j := j) hLne
    have hpl := List.length_pos_iff.mpr hLne
    refine hits_nil ?_
    refine to_next ?_
    refine hits_cond rfl (fun c1 => ?_) (fun c1 => absurd c1 Bool.false_ne_true.symm)
    refine hits_seq ?_
    refine hits_drawn mixed ?_
    refine dq (f_load kd22 rfl rfl (lt rfl)) rfl rfl ?_
    refine dq (f_load kd66 rfl rfl (lt rfl)) rfl rfl ?_
    refine dq (f_nil rfl rfl (lt rfl)) rfl rfl ?_
    refine dq (f_fieldAddr rfl kf68_1 rfl (lt rfl)) rfl rfl ?_
    refine dq (f_load kd3 rfl rfl (lt rfl)) rfl rfl ?_
    refine dq (f_load kd22 rfl rfl (lt rfl)) rfl rfl ?_
    refine dq (f_lenListN rfl rfl un22 (List.length_map _) (lt rfl)) rfl rfl ?_
    refine dq (f_bin rfl rfl (iT (((IntWalk.i64_in _ (by omega)).trans (by omega) : _ = ((L.length : Int) - 1)))) (lt rfl)) rfl rfl ?_
    refine dq (f_min rfl rfl (lt rfl)) rfl rfl ?_
    refine dq (f_idxList rfl rfl rfl un22 kd37 hpos hat (lt rfl)) rfl rfl ?_
    refine dq (f_fieldAddr rfl kf37_3 rfl (lt rfl)) rfl rfl ?_
    refine dq (f_load kd3 rfl rfl (lt rfl)) rfl rfl ?_
    refine dq (f_assign rfl (lt rfl)) rfl rfl ?_
    refine dq (f_assign rfl (lt rfl)) rfl rfl ?_
    refine dq (f_assign rfl (lt rfl)) rfl rfl ?_
    refine dq_nil rfl ?_
    refine to_next ?_
    refine hits_ret ?_
    refine to_ret ?_
    refine hits_slotD 2 (q' := .list 15 []) rfl nil_list ?_
    exact hits_done (.inl rfl) rfl rfl (by rw [hRj, parseR, hln]; rfl)
  refine sq_caught 40 (fun cap w R h => caught_calls en14 h) en13 rfl Tryz.func14 rfl Tryz.ntmps14 rfl rfl rfl (lt rfl) rfl rfl fun a19 p19 ha19 hd19 => ?_
  refine hits_block ?_
  refine hits_ownC 9 0 201 15 rfl ?_
  refine hits_loop (fun x : Nat × List Dc × Nat => [(.slot 0, some (.ptr 8 0)), (.slot 1, some (.ptr 5 0)), (.slot 2, some (.ptr 9 0)), (.box 8, some (.ptr 8 0)), (.cell 8 0, some (.ptr 22 0)), (.box 5, some (.ptr 5 0)), (.cell 5 0, some (.d (LDw L))), (.box 9, some (.ptr 9 0)), (.cell 9 0, some (.own 201 15 (x.2.1.map dcD))), (.box 22, some (.ptr 22 0)), (.cell 22 0, some (.d (LDw L))), (.cell 22 1, some (.d (.sc (.int .i64 (x.2.2 : Int))))), (.box 40, some (.ptr 40 0)), (.cell 40 0, some (.d (.sc (.bool false)))), (.old 5, some (.ptr 5 0)), (.old 8, some (.ptr 8 0)), (.old 9, some (.ptr 9 0)), (.tip 201, some (.ptr 201 0))]) (fun x : Nat × List Dc × Nat => x.1 ≤ fuel L ∧ x.2.1.length ≤ x.2.2 ∧ x.2.2 ≤ L.length ∧ R = (progP x.1 x.2.1).run wEnd L x.2.2) (fun x : Nat × List Dc × Nat => x.1) (fuel L, [], 0) ⟨Nat.le_refl _, Nat.le_refl _, Nat.zero_le _, hJ⟩ ⟨rfl, rfl, rfl, rfl, rfl, rfl, rfl, rfl, rfl, rfl, rfl, rfl, rfl, rfl, rfl, rfl, rfl, rfl, trivial⟩ rfl ?_
  intro x hx0
  obtain ⟨g, acc, i'⟩ := x
  obtain ⟨hg, ha, hi', hJ⟩ := hx0
  change g ≤ fuel L at hg
  change acc.length ≤ i' at ha
  change i' ≤ L.length at hi'
  change R = (progP g acc).run wEnd L i' at hJ
  change Hits _ [(.slot 0, some (.ptr 8 0)), (.slot 1, some (.ptr 5 0)), (.slot 2, some (.ptr 9 0)), (.box 8, some (.ptr 8 0)), (.cell 8 0, some (.ptr 22 0)), (.box 5, some (.ptr 5 0)), (.cell 5 0, some (.d (LDw L))), (.box 9, some (.ptr 9 0)), (.cell 9 0, some (.own 201 15 (acc.map dcD))), (.box 22, some (.ptr 22 0)), (.cell 22 0, some (.d (LDw L))), (.cell 22 1, some (.d (.sc (.int .i64 (i' : Int))))), (.box 40, some (.ptr 40 0)), (.cell 40 0, some (.d (.sc (.bool false)))), (.old 5, some (.ptr 5 0)), (.old 8, some (.ptr 8 0)), (.old 9, some (.ptr 9 0)), (.tip 201, some (.ptr 201 0))] _
  cases g with
  | zero => exact absurd hJ hR
  | succ g =>
  refine hits_seq ?_
  refine hits_seq ?_
  by_cases hlt : i' < L.length
  · have hk : (wordAt wEnd L i').k ≠ 0 := by obtain ⟨x, hx, hw⟩ := word_at hlt; rw [hw]; exact hK x (List.mem_of_getElem? hx)
    rw [prog_more hk, run_bind] at hJ
    have hnd : (declP g).run wEnd L i' ≠ .oof := fun c => by rw [c] at hJ; exact hR hJ
    have hJb : ∀ j, (declP g).run wEnd L i' = .bad j → R = .bad j := fun j h => by rw [h] at hJ; exact hJ
    refine hits_drawn mixed ?_
    refine dq (f_load kd66 rfl rfl (lt rfl)) rfl rfl ?_
    refine dq (f_nil rfl rfl (lt rfl)) rfl rfl ?_
    refine dq (f_fieldAddr rfl kf68_1 rfl (lt rfl)) rfl rfl ?_
    refine dq (f_load kd3 rfl rfl (lt rfl)) rfl rfl ?_
    refine dq (f_load kd22 rfl rfl (lt rfl)) rfl rfl ?_
    refine dq (f_lenListN rfl rfl un22 (List.length_map _) (lt rfl)) rfl rfl ?_
    refine dq (f_bin rfl rfl (bT (decide_eq_true (by omega))) (lt rfl)) rfl rfl ?_
    refine dq_nil rfl ?_
    refine to_next ?_
    refine hits_cond rfl (fun c0 => ?_) (fun c0 => absurd c0 Bool.false_ne_true.symm)
    refine hits_skip ?_
    refine to_next ?_
    refine hits_block ?_
    refine hits_drawnT (some (22, 2)) rfl mixed ?_
    refine dq (f_load kd28 rfl rfl (lt rfl)) rfl rfl ?_
    refine dq (f_load kd66 rfl rfl (lt rfl)) rfl rfl ?_
    refine dq_pr0 (Lx := [.slot 11, .old 5, .old 8, .box 8, .cell 8 0, .box 5, .cell 5 0, .box 40, .cell 40 0]) (dc0 0 0) hnd (decl_c hL hi' hS hW g) rfl rfl (fun st' hLx G a w s => ⟨[], by have e1 : a.eval (.tmp 11) = .pointer (some ⟨G.μ 22, 0, none⟩) := s.ev (x := .tmp 11) (v := .ptr 22 0) ((hLx (.slot 11) (by decide)).trans rfl); have ef : a.eval (.func 15) = .func (.func 15) #[] #[] := rfl; simp [execOp, resolve, ef, Deferred.ofValue, invoke, run_callFunc en15, e1], .nil⟩) ⟨rfl, rfl, trivial⟩ rfl (lt rfl) (fun j hbad st' hLx => hits_to [(.old 5, some (.ptr 5 0)), (.old 8, some (.ptr 8 0)), (.box 8, some (.ptr 8 0)), (.cell 8 0, some (.ptr 22 0)), (.box 5, some (.ptr 5 0)), (.cell 5 0, some (.d (LDw L))), (.box 40, some (.ptr 40 0)), (.cell 40 0, some (.d (.sc (.bool false)))), (.box 22, some (.ptr 22 0)), (.cell 22 0, some (.d (LDw L))), (.cell 22 1, some (.d (.sc (.int .i64 (j : Int)))))] ⟨(hLx (.old 5) (by decide)).trans rfl, (hLx (.old 8) (by decide)).trans rfl, (hLx (.box 8) (by decide)).trans rfl, (hLx (.cell 8 0) (by decide)).trans rfl, (hLx (.box 5) (by decide)).trans rfl, (hLx (.cell 5 0) (by decide)).trans rfl, (hLx (.box 40) (by decide)).trans rfl, (hLx (.cell 40 0) (by decide)).trans rfl, (hLx (.box 22) (by decide)).trans rfl, rfl, rfl, trivial⟩ rfl (panC_of (fn := Tryz.f14) ha19 hd19 (lt rfl) rfl rfl rfl (hits_to ((fun j : Nat => [(.slot 24, some (.d (.sc (.bool true)))), (.slot 5, some (.ptr 5 0)), (.slot 8, some (.ptr 8 0)), (.box 8, some (.ptr 8 0)), (.cell 8 0, some (.ptr 22 0)), (.box 5, some (.ptr 5 0)), (.cell 5 0, some (.d (LDw L))), (.box 22, some (.ptr 22 0)), (.cell 22 0, some (.d (LDw L))), (.cell 22 1, some (.d (.sc (.int .i64 (j : Int)))))]) j) ⟨rfl, rfl, rfl, rfl, rfl, rfl, rfl, rfl, rfl, rfl, trivial⟩ rfl (hpT j (hJb j hbad))))) (fun q j X hX => ?_)
    refine dq (f_buildSlice sk28 rfl rfl rfl rfl rfl rfl (by decide) (by decide) (lt rfl)) rfl rfl ?_
    refine dq (f_appendO 200 rfl rfl rfl rfl apk28 (by simp only [snds, List.length_map, List.length_cons, List.length_nil]; omega) (by simp only [snds, List.length_map, List.length_cons, List.length_nil]; omega) rfl (by decide) (lt rfl)) rfl rfl ?_
    refine dq (f_store kd28 rfl rfl rfl rfl rfl) rfl rfl ?_
    refine dq_nilT (by kernel_rfl) rfl ?_
    refine drawn_end (id := 22) hX rfl (fun hq hXe => ?_)
    subst hXe
    have hj := eager_decl _ hq hi'
    rw [hq] at hJ
    refine hits_renumC 9 0 200 201 15 rfl rfl (by decide) ?_
    refine in_next ?_
    refine to_next ?_
    refine round_end (g, acc ++ [q], j) ⟨by simp only; omega, by simp only [List.length_append, List.length_cons, List.length_nil]; omega, hj.2, hJ⟩ (by simp only; omega) ⟨rfl, rfl, rfl, rfl, rfl, rfl, rfl, rfl, (congrArg (fun z => some (V.own 201 15 z)) (map_snoc dcD acc q)), rfl, rfl, rfl, rfl, rfl, rfl, rfl, rfl, rfl, trivial⟩ rfl
  · rw [prog_end hlt] at hJ
    refine hits_drawn mixed ?_
    refine dq (f_load kd66 rfl rfl (lt rfl)) rfl rfl ?_
    refine dq (f_nil rfl rfl (lt rfl)) rfl rfl ?_
    refine dq (f_fieldAddr rfl kf68_1 rfl (lt rfl)) rfl rfl ?_
    refine dq (f_load kd3 rfl rfl (lt rfl)) rfl rfl ?_
    refine dq (f_load kd22 rfl rfl (lt rfl)) rfl rfl ?_
    refine dq (f_lenListN rfl rfl un22 (List.length_map _) (lt rfl)) rfl rfl ?_
    refine dq (f_bin rfl rfl (bT (decide_eq_false (by omega))) (lt rfl)) rfl rfl ?_
    refine dq_nil rfl ?_
    refine to_next ?_
    refine hits_cond rfl (fun c0 => absurd c0 Bool.false_ne_true) (fun c0 => ?_)
    refine hits_exit ?_
    refine to_exit ?_
    refine to_exit ?_
    refine in_hit rfl ?_
    refine hits_backC (.inr rfl) ha19 hd19 (lt rfl) rfl rfl rfl rfl ?_
    refine hits_nil ?_
    refine to_next ?_
    refine hits_cond rfl (fun c1 => absurd c1 Bool.false_ne_true) (fun c1 => ?_)
    refine hits_skip ?_
    refine to_next ?_
    refine hits_seq ?_
    refine hits_seq ?_
    by_cases hsm : smallB acc = true
    · refine hits_region ?_
      refine sq (f_load kd28 rfl rfl (lt rfl)) rfl rfl ?_
      refine hits_slotL 37 rfl rfl ?_
      refine sq (f_call en16 rfl (small_c acc (hcnt acc i' hJ)) (lt rfl)) rfl rfl ?_
      rw [hsm]
      refine sq (f_un rfl rfl (lt rfl)) rfl rfl ?_
      refine hits_nil ?_
      refine to_next ?_
      refine hits_cond rfl (fun c2 => absurd c2 Bool.false_ne_true) (fun c2 => ?_)
      refine hits_skip ?_
      refine to_next ?_
      refine hits_seq ?_
      refine hits_region ?_
      refine sq (f_load kd28 rfl rfl (lt rfl)) rfl rfl ?_
      refine sq (f_assign rfl (lt rfl)) rfl rfl ?_
      refine sq (f_assign rfl (lt rfl)) rfl rfl ?_
      refine sq (f_assign rfl (lt rfl)) rfl rfl ?_
      refine hits_nil ?_
      refine to_next ?_
      refine hits_ret ?_
      exact hits_done (.inl rfl) rfl rfl (by rw [hJ, parseR, if_pos hsm]; rfl)
    · have hsf : smallB acc = false := by simpa using hsm
      refine hits_region ?_
      refine sq (f_load kd28 rfl rfl (lt rfl)) rfl rfl ?_
      refine hits_slotL 37 rfl rfl ?_
      refine sq (f_call en16 rfl (small_c acc (hcnt acc i' hJ)) (lt rfl)) rfl rfl ?_
      rw [hsf]
      refine sq (f_un rfl rfl (lt rfl)) rfl rfl ?_
      refine hits_nil ?_
      refine to_next ?_
      refine hits_cond rfl (fun c2 => ?_) (fun c2 => absurd c2 Bool.false_ne_true.symm)
      refine hits_seq ?_
      refine hits_region ?_
      refine sq (f_assign rfl (lt rfl)) rfl rfl ?_
      refine sq (f_assign rfl (lt rfl)) rfl rfl ?_
      refine sq (f_assign rfl (lt rfl)) rfl rfl ?_
      refine hits_nil ?_
      refine to_next ?_
      refine hits_ret ?_
      refine to_ret ?_
      refine hits_slotD 2 (q' := .list 15 []) rfl nil_list ?_
      exact hits_done (.inl rfl) rfl rfl (by rw [hJ, parseR, if_neg hsm]; rfl)
end Go.Proofs.YtbgeejmhkmjfdaaGreatDoor.Ln
