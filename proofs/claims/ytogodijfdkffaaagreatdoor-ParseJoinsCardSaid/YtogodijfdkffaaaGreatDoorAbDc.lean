/- The parser's declarations over data. -/
import Derived.Test.YtogodijfdkffaaaGreatDoorJ8
set_option linter.unusedVariables false
set_option linter.unusedSimpArgs false
set_option maxRecDepth 100000
namespace Go.Proofs.YtogodijfdkffaaaGreatDoor.Ln
open Go Go.RowKit Go.Ab Go.Proofs 
theorem sk74 : sk Tryz.prog 74 = some (172, 7, [.int .i64 0, .int .u64 0, .int .u64 0, .int .i64 0, .int .u64 0, .int .u64 0, .string ByteArray.empty]) := by kernel_rfl
theorem apk74 : apk Tryz.prog 74 74 = some (172, 7, 64) := by kernel_rfl
theorem en172 : enters Tryz.prog 172 = true := by kernel_rfl
theorem zc172 : zc Tryz.prog 172 = some [.int .i64 0, .int .u64 0, .int .u64 0, .int .i64 0, .int .u64 0, .int .u64 0, .string ByteArray.empty] := by kernel_rfl
theorem kf172_0 : kf Tryz.prog 172 0 = some 0 := by kernel_rfl
theorem kf172_1 : kf Tryz.prog 172 1 = some 3 := by kernel_rfl
theorem kf172_2 : kf Tryz.prog 172 2 = some 6 := by kernel_rfl
theorem kd172 : kd Tryz.prog 172 = some (true, 7) := by kernel_rfl
theorem en118 : enters Tryz.prog 118 = true := by kernel_rfl
theorem un80 : Tryz.prog.underlying 80 = some (.int .u8) := by kernel_rfl
theorem kf82_0 : kf Tryz.prog 82 0 = some 0 := by kernel_rfl
theorem kf82_1 : kf Tryz.prog 82 1 = some 10 := by kernel_rfl
theorem kd80 : kd Tryz.prog 80 = some (false, 1) := by kernel_rfl
theorem zc76 : zc Tryz.prog 76 = some [.string ByteArray.empty, .slice none 0 0, .slice none 0 0, .slice none 0 0, .string ByteArray.empty, .int .i64 0] := by kernel_rfl
theorem kf76_5 : kf Tryz.prog 76 5 = some 5 := by kernel_rfl
theorem kf76_0 : kf Tryz.prog 76 0 = some 0 := by kernel_rfl
theorem kf76_4 : kf Tryz.prog 76 4 = some 4 := by kernel_rfl
theorem kd76 : kd Tryz.prog 76 = some (true, 6) := by kernel_rfl
theorem kf76_2 : kf Tryz.prog 76 2 = some 2 := by kernel_rfl
theorem kf76_3 : kf Tryz.prog 76 3 = some 3 := by kernel_rfl
theorem kd74 : kd Tryz.prog 74 = some (false, 1) := by kernel_rfl
theorem en180 : enters Tryz.prog 180 = true := by kernel_rfl
theorem kf76_1 : kf Tryz.prog 76 1 = some 1 := by kernel_rfl
theorem kd52 : kd Tryz.prog 52 = some (false, 1) := by kernel_rfl
theorem bu100 : bk Tryz.prog 100 = some ([(0, 1), (1, 1)], [.int .u8 0, .nilFunc]) := by kernel_rfl
theorem mpk102 : mpk Tryz.prog 102 = some (9, 100, .agg ⟨[.int .u8 0, .nilFunc]⟩) := by kernel_rfl
theorem en132 : enters Tryz.prog 132 = true := by kernel_rfl
theorem en124 : enters Tryz.prog 124 = true := by kernel_rfl
theorem en138 : enters Tryz.prog 138 = true := by kernel_rfl
theorem en34 : enters Tryz.prog 34 = true := by kernel_rfl
theorem zc56 : zc Tryz.prog 56 = some [.int .u8 0, .string ByteArray.empty, .slice none 0 0, .int .i64 0, .int .i64 0, .int .i64 0, .int .i64 0, .slice none 0 0, .slice none 0 0, .slice none 0 0, .string ByteArray.empty, .slice none 0 0, .slice none 0 0, .slice none 0 0, .int .i64 0] := by kernel_rfl
theorem zc100 : zc Tryz.prog 100 = some [.int .u8 0, .nilFunc] := by kernel_rfl
theorem kd100 : kd Tryz.prog 100 = some (true, 2) := by kernel_rfl
theorem kf100_0 : kf Tryz.prog 100 0 = some 0 := by kernel_rfl
theorem kd48 : kd Tryz.prog 48 = some (false, 1) := by kernel_rfl
theorem kf56_0 : kf Tryz.prog 56 0 = some 0 := by kernel_rfl
theorem kf56_14 : kf Tryz.prog 56 14 = some 14 := by kernel_rfl
theorem kf100_1 : kf Tryz.prog 100 1 = some 1 := by kernel_rfl
theorem kd98 : kd Tryz.prog 98 = some (false, 1) := by kernel_rfl
theorem en76 : enters Tryz.prog 76 = true := by kernel_rfl
theorem kf56_1 : kf Tryz.prog 56 1 = some 1 := by kernel_rfl
theorem en77 : enters Tryz.prog 77 = true := by kernel_rfl
theorem en123 : enters Tryz.prog 123 = true := by kernel_rfl
theorem kf56_2 : kf Tryz.prog 56 2 = some 2 := by kernel_rfl
theorem kd49 : kd Tryz.prog 49 = some (false, 1) := by kernel_rfl
theorem kd56 : kd Tryz.prog 56 = some (true, 15) := by kernel_rfl
theorem en78 : enters Tryz.prog 78 = true := by kernel_rfl
theorem kf56_3 : kf Tryz.prog 56 3 = some 3 := by kernel_rfl
theorem kf56_4 : kf Tryz.prog 56 4 = some 4 := by kernel_rfl
theorem en79 : enters Tryz.prog 79 = true := by kernel_rfl
theorem en80 : enters Tryz.prog 80 = true := by kernel_rfl
theorem kf56_5 : kf Tryz.prog 56 5 = some 5 := by kernel_rfl
theorem kf56_6 : kf Tryz.prog 56 6 = some 6 := by kernel_rfl
theorem en81 : enters Tryz.prog 81 = true := by kernel_rfl
theorem en127 : enters Tryz.prog 127 = true := by kernel_rfl
theorem kf56_7 : kf Tryz.prog 56 7 = some 7 := by kernel_rfl
theorem kd50 : kd Tryz.prog 50 = some (false, 1) := by kernel_rfl
theorem en82 : enters Tryz.prog 82 = true := by kernel_rfl
theorem en129 : enters Tryz.prog 129 = true := by kernel_rfl
theorem kf56_12 : kf Tryz.prog 56 12 = some 12 := by kernel_rfl
theorem en83 : enters Tryz.prog 83 = true := by kernel_rfl
theorem en131 : enters Tryz.prog 131 = true := by kernel_rfl
theorem kf56_8 : kf Tryz.prog 56 8 = some 8 := by kernel_rfl
theorem kd51 : kd Tryz.prog 51 = some (false, 1) := by kernel_rfl
theorem kf56_9 : kf Tryz.prog 56 9 = some 9 := by kernel_rfl
theorem kf56_10 : kf Tryz.prog 56 10 = some 10 := by kernel_rfl
theorem en135 : enters Tryz.prog 135 = true := by kernel_rfl
theorem kf56_11 : kf Tryz.prog 56 11 = some 11 := by kernel_rfl
theorem kd53 : kd Tryz.prog 53 = some (false, 1) := by kernel_rfl
theorem en84 : enters Tryz.prog 84 = true := by kernel_rfl
theorem en85 : enters Tryz.prog 85 = true := by kernel_rfl
theorem en137 : enters Tryz.prog 137 = true := by kernel_rfl
theorem kf56_13 : kf Tryz.prog 56 13 = some 13 := by kernel_rfl
def Wide (L : List Wd) : Prop := ∀ x ∈ L, x.k = 3 → x.w ≤ 128
theorem wide_lit {L : List Wd} (h : Wide L) {i j : Nat} {q : N3} (hq : litP.run wEnd L i = .ok q j) : q.1 ≤ 128 := by
  obtain ⟨a, m, h1, h2⟩ := run_ok (p := mustP (decide ((wordAt wEnd L i).k = 3))) hq
  obtain ⟨q1, rfl, _⟩ := must_ok h1
  cases h2
  have hk : (wordAt wEnd L i).k = 3 := of_decide_eq_true q1
  have hi := word_in (L := L) (i := i) (by rw [hk]; decide)
  obtain ⟨x, hx⟩ : ∃ x, L[i]? = some x := ⟨_, List.getElem?_eq_getElem hi⟩
  have e : wordAt wEnd L i = x := by unfold wordAt; rw [hx]; rfl
  rw [e] at hk ⊢
  exact h x (List.mem_of_getElem? hx) hk
theorem shr_ones {w : Nat} (h : w ≤ 64) : (18446744073709551615 : Int).fdiv (2 ^ (min ((64 - (w : Int)).toNat) 64)) = ((2 ^ w - 1 : Nat) : Int) := by
  have e : (64 - (w : Int)).toNat = 64 - w := by omega
  rw [e, Nat.min_eq_left (by omega)]
  have h1 : ∀ w : Nat, w ≤ 64 → (18446744073709551615 : Int).fdiv (2 ^ (64 - w)) = ((2 ^ w - 1 : Nat) : Int) := by decide +kernel
  exact h1 w h
def kaseE (v m : N3) : PW Cs := (needP [[58]]).bind fun _ => nameP.bind fun t => (needP [[59]]).bind fun _ => .ret ⟨v, m, t⟩
theorem kaseP_eq : kaseP = litP.bind fun v => (mayP [38]).bind fun b => if b = true then litP.bind fun m => kaseE v m else kaseE v (onesV v.1) := by
  unfold kaseP
  congr 1; funext v; congr 1; funext b
  cases b <;> rfl
theorem eager_kase : Eager kaseP := eager_bind eager_lit fun v => tame_bind (tame_may _) fun b => tame_bind (tame_ite eager_lit.tame (tame_ret _)) fun m => tame_bind (tame_need _) fun _ => tame_bind eager_name.tame fun t => tame_bind (tame_need _) fun _ => tame_ret _
theorem tame_takes : ∀ (f : Nat) (acc : List Tx), Tame (takesP f acc)
  | 0, acc => tame_oof
  | f + 1, acc => tame_bind (tame_may _) fun b => tame_ite (tame_bind eager_name.tame fun s => tame_bind (tame_need _) fun _ => tame_takes f _) (tame_ret _)
theorem tame_cases : ∀ (f : Nat) (acc : List Cs), Tame (casesP f acc)
  | 0, acc => tame_oof
  | f + 1, acc => tame_look fun w => tame_ite (tame_bind eager_kase.tame fun c => tame_cases f _) (tame_ret _)
theorem tame_names : ∀ (f : Nat) (acc : List Tx), Tame (namesP f acc)
  | 0, acc => tame_oof
  | f + 1, acc => tame_bind (tame_may _) fun b => tame_ite (tame_ret _) (tame_bind eager_name.tame fun s => tame_names f _)
theorem takes_succ {α : Type} (f : Nat) (acc : List Tx) (K : List Tx → PW α) : (takesP (f + 1) acc).bind K = (mayP [116, 97, 107, 101]).bind fun b => if b = true then nameP.bind fun s => (needP [[59]]).bind fun _ => (takesP f (acc ++ [s])).bind K else K acc := by
  rw [takesP, bind_bind]
  congr 1; funext b
  cases b
  · rfl
  · simp only [if_true, bind_bind]
theorem names_succ {α : Type} (f : Nat) (acc : List Tx) (K : List Tx → PW α) : (namesP (f + 1) acc).bind K = (mayP [59]).bind fun b => if b = true then K acc else nameP.bind fun s => (namesP f (acc ++ [s])).bind K := by
  rw [namesP, bind_bind]
  congr 1; funext b
  cases b
  · simp only [Bool.false_eq_true, if_false, bind_bind]
  · rfl
theorem cases_succ {α : Type} (f : Nat) (acc : List Cs) (K : List Cs → PW α) : (casesP (f + 1) acc).bind K = .look fun w => if w.k = 3 then kaseP.bind fun c => (casesP f (acc ++ [c])).bind K else K acc := by
  rw [casesP]
  show Pr.look _ = Pr.look _
  congr 1; funext w
  show (if w.k = 3 then kaseP.bind fun c => casesP f (acc ++ [c]) else .ret acc).bind K = _
  by_cases h : w.k = 3
  · rw [if_pos h, if_pos h, bind_bind]
  · rw [if_neg h, if_neg h]; rfl
theorem kind_cons {α : Type} (p : Tx × Nat) (r : List (Tx × Nat)) (K : Nat → PW α) : (kindP (p :: r)).bind K = (mayP p.1).bind fun b => if b = true then K p.2 else (kindP r).bind K := by
  rw [kindP, bind_bind]
  congr 1; funext b
  cases b <;> rfl
def stateE (s : Tx) (hs : List Tx) (x : Ex) (cs : List Cs) (line : Nat) : PW Stt := (needP [[101, 108, 115, 101]]).bind fun _ => nameP.bind fun t => (needP [[59], [125], [125]]).bind fun _ => .ret ⟨s, hs, [x], cs, t, line⟩
def stateT (f line : Nat) (s : Tx) (hs : List Tx) : PW Stt := (mayP [115, 101, 108, 101, 99, 116]).bind fun b =>
  if b = true then (exP f 0).bind fun x => (needP [[123]]).bind fun _ => (casesP f []).bind fun cs => stateE s hs x cs line
  else (needP [[103, 111]]).bind fun _ => nameP.bind fun t => (needP [[59], [125]]).bind fun _ => .ret ⟨s, hs, [], [], t, line⟩
def stateK (f line : Nat) : PW Stt := nameP.bind fun s => (needP [[123]]).bind fun _ => (takesP f []).bind fun hs => stateT f line s hs
theorem stateP_eq (f : Nat) : stateP f = .look fun w => stateK f w.ln := rfl
theorem eager_state (f : Nat) : Eager (stateP f) := by
  rw [stateP_eq]
  intro L i j a hr hi
  exact (show Eager (stateK f (wordAt wEnd L i).ln) from eager_bind eager_name fun s => tame_bind (tame_need _) fun _ => tame_bind (tame_takes f []) fun hs => tame_bind (tame_may _) fun b => tame_ite (tame_bind (tame_ex f 0) fun x => tame_bind (tame_need _) fun _ => tame_bind (tame_cases f []) fun cs => tame_bind (tame_need _) fun _ => tame_bind eager_name.tame fun t => tame_bind (tame_need _) fun _ => tame_ret _) (tame_bind (tame_need _) fun _ => tame_bind eager_name.tame fun t => tame_bind (tame_need _) fun _ => tame_ret _)) hr hi
def kindsL : List (Tx × Nat) := [([101, 120, 97, 99, 116], 1), ([112, 114, 101, 102, 105, 120], 2), ([109, 97, 115, 107], 3), ([114, 97, 110, 103, 101], 4)]
def kindTs : List Tx := kindsL.map (·.1)
theorem eager_kind : ∀ l : List (Tx × Nat), Eager (kindP l)
  | [] => fun h _ => by cases h
  | p :: r => eager_may (tame_ret _) (eager_kind r)
theorem eager_key (f : Nat) : Eager (keyP f) := fun h hi => by
  obtain ⟨x, m, h1, h2⟩ := run_ok h
  obtain ⟨q1, q2⟩ := tame_ex f 0 h1 hi
  obtain ⟨k, m2, h3, h4⟩ := run_ok h2
  obtain ⟨q3, q4⟩ := eager_kind _ h3 q2
  cases h4
  exact ⟨by omega, q4⟩
def declF : Nat → Nat
  | 1 => 76
  | 2 => 77
  | 3 => 78
  | 4 => 79
  | 5 => 80
  | 6 => 81
  | 7 => 82
  | 8 => 83
  | 9 => 84
  | _ => 85
def declV (b : Nat) (k : Nat) : Value := .agg ⟨[.int .u8 (k : Int), mvV b (declF k)]⟩
def declE (b : Nat) : List (ByteArray × Value) := declsT.map fun p => (B p.1, declV b p.2)
def declD (b : Nat) : Option Nat → D
  | none => .agg [.sc (.int .u8 0), .sc .nilFunc]
  | some k => .agg [.sc (.int .u8 (k : Int)), .sc (mvV b (declF k))]
theorem look_decl (b : Nat) (s : Tx) : aggD ((findE (B s) (declE b)).getD (.agg ⟨[.int .u8 0, .nilFunc]⟩)) = declD b (declOf s) ∧ (findE (B s) (declE b)).isSome = (declOf s).isSome := by
  have : findE (B s) (declE b) = (declOf s).map (declV b) := find_map s (declV b) declsT
  rw [this]
  cases declOf s <;> exact ⟨rfl, rfl⟩
theorem decl_kind {s : Tx} {k : Nat} (h : declOf s = some k) : 1 ≤ k ∧ k ≤ 10 := by
  have key : ∀ l : List (Tx × Nat), (∀ p ∈ l, 1 ≤ p.2 ∧ p.2 ≤ 10) → (l.findSome? fun p => if p.1 = s then some p.2 else none) = some k → 1 ≤ k ∧ k ≤ 10 := by
    intro l
    induction l with
    | nil => intro _ h; cases h
    | cons p l ih =>
      intro hp h
      rw [List.findSome?_cons] at h
      by_cases hs : p.1 = s
      · rw [if_pos hs] at h
        have e := Option.some.inj h
        have := hp p (by simp)
        rw [e] at this; exact this
      · rw [if_neg hs] at h
        exact ih (fun q hq => hp q (by simp [hq])) h
  exact key declsT (by decide) h
theorem tame_state (f : Nat) : Tame (stateP f) := Eager.tame (p := stateP f) (eager_state f)
theorem tame_ended {α : Type} {p : PW α} (hp : Eager p) : Tame (endedP p) := Eager.tame (p := endedP p) (eager_ended hp)
theorem map_snoc {α β : Type} (g : α → β) (l : List α) (x : α) : l.map g ++ [g x] = (l ++ [x]).map g := by rw [List.map_append, List.map_cons, List.map_nil]
theorem tame_fields (f : Nat) : Tame (fieldsP f) := tame_bind (tame_need _) fun _ => tame_each (tame_ended eager_typed) f []
theorem tame_on (f line : Nat) : ∀ k : Nat, Tame (onP f line k)
  | 0 => tame_bad
  | 1 => tame_bind eager_name.tame fun s => tame_bind (tame_fields f) fun l => tame_ret _
  | 2 => tame_bind (tame_fields f) fun l => tame_ret _
  | 3 => tame_bind eager_name.tame fun s => tame_bind eager_whole.tame fun w => tame_bind eager_whole.tame fun n => tame_bind (tame_need _) fun _ => tame_ret _
  | 4 => tame_bind eager_name.tame fun s => tame_bind eager_whole.tame fun n => tame_bind (tame_need _) fun _ => tame_ret _
  | 5 => tame_bind eager_name.tame fun s => tame_bind eager_whole.tame fun n => tame_bind eager_whole.tame fun r => tame_bind eager_whole.tame fun u => tame_bind (tame_need _) fun _ => tame_ret _
  | 6 => tame_bind (tame_need _) fun _ => tame_bind (tame_each (tame_state f) f []) fun l => tame_ret _
  | 7 => tame_bind eager_name.tame fun s => tame_bind (tame_need _) fun _ => tame_bind (tame_row eager_typed.tame _ f) fun l => tame_bind (tame_bl f) fun m => tame_ret _
  | 8 => tame_bind eager_name.tame fun s => tame_bind (tame_need _) fun _ => tame_bind (tame_each (tame_ended (eager_key f)) f []) fun ks => tame_bind (tame_need _) fun _ => tame_bind eager_name.tame fun a => tame_bind (tame_names f [a]) fun al => tame_bind (tame_need _) fun _ => tame_bind eager_name.tame fun d => tame_bind (tame_need _) fun _ => tame_bind (tame_row eager_lit.tame _ f) fun l => tame_bind (tame_need _) fun _ => tame_bind eager_whole.tame fun n => tame_bind (tame_need _) fun _ => tame_ret _
  | 9 => tame_bind (tame_bl f) fun m => tame_ret _
  | 10 => tame_bind (tame_need _) fun _ => tame_bind (tame_each (tame_ended eager_name) f []) fun l => tame_ret _
  | _ + 11 => tame_bad
theorem eager_decl (f : Nat) : Eager (declP f) := fun h hi => by
  obtain ⟨q, m, h1, h2⟩ := run_ok (p := mustP (decide ((wordAt wEnd _ _).k = 1) && (declOf (wordAt wEnd _ _).s).isSome)) h
  obtain ⟨q1, q2, q3⟩ := must_ok h1
  subst q3
  have hk : (wordAt wEnd _ _).k = 1 := of_decide_eq_true (Bool.and_eq_true _ _ ▸ q1 : decide ((wordAt wEnd _ _).k = 1) = true ∧ _).1
  have h3 := word_in (by rw [hk]; decide)
  have := tame_on f _ _ h2 h3
  exact ⟨by omega, this.2⟩
theorem fields_bind {α : Type} (f : Nat) (K : List (Tx × Nat) → PW α) : (fieldsP f).bind K = (needP [[123]]).bind fun _ => (eachP (endedP typedP) f []).bind K := by unfold fieldsP; rw [bind_bind]
def onTabT (f line : Nat) (s : Tx) (ks : List (Ex × Nat)) (al : List Tx) : PW Dc := (needP [[100, 101, 102, 97, 117, 108, 116]]).bind fun _ => nameP.bind fun d => (needP [[40]]).bind fun _ => (rowP litP [41] f).bind fun l => (needP [[59], [115, 105, 122, 101]]).bind fun _ => wholeP.bind fun n => (needP [[59], [125]]).bind fun _ => .ret { dc0 8 line with name := s, keys := ks, actions := al, default := d, args := l, n := n }
theorem onTab_eq (f line : Nat) : onP f line 8 = nameP.bind fun s => (needP [[123], [107, 101, 121], [123]]).bind fun _ => (eachP (endedP (keyP f)) f []).bind fun ks => (needP [[97, 99, 116, 105, 111, 110, 115]]).bind fun _ => nameP.bind fun a => (namesP f [a]).bind fun al => onTabT f line s ks al := rfl
theorem kinds_at {r : Nat} (h : r < 4) : ∃ t, kindsL.drop r = (t, r + 1) :: kindsL.drop (r + 1) ∧ (kindTs.map txD)[((r : Int)).toNat]? = some (txD t) := by
  obtain rfl | rfl | rfl | rfl : r = 0 ∨ r = 1 ∨ r = 2 ∨ r = 3 := by omega
  all_goals exact ⟨_, rfl, rfl⟩
theorem ones_c {w : Nat} (hw : w ≤ 128) : CallsP Tryz.prog Lw 172 [.sc (.int .i64 (w : Int))] (n3D (onesV w)) := by
  refine callsP_of gs_lw Tryz.func172 rfl Tryz.ntmps172 rfl fun w0 S0 stab => ?_
  refine sqq <| rgq <| sq (f_alloc zc35 (lt rfl)) rfl rfl <| nxq <| sqq <| sqq ?_
  by_cases h : w ≤ 64
  · refine rgq <| mvq rfl rfl <| sq (f_bin rfl rfl (bT (decide_eq_true (by omega))) (lt rfl)) rfl rfl <| nxq <| cnT rfl <| sqq <| rgq <| mvq rfl rfl ?_
    refine mvq rfl rfl <| sq (f_bin rfl rfl (iT (((IntWalk.i64_in _ (by omega)).trans (by omega) : _ = (64 - (w : Int))))) (lt rfl)) rfl rfl <| sq (f_shrI rfl rfl (by omega) (shr_ones h) (lt rfl)) rfl rfl <| sq (f_build bu35 rfl rfl (lt rfl)) rfl rfl <| soq kd35 rfl rfl rfl rfl rfl <| nxq <| rtq <| to_ret ?_
    exact hits_done (.inl rfl) rfl rfl (by rw [onesV, if_pos h]; rfl)
  · refine rgq <| mvq rfl rfl <| sq (f_bin rfl rfl (bT (decide_eq_false (by omega))) (lt rfl)) rfl rfl <| nxq <| cnF rfl <| skq <| toq <| sqq ?_
    refine rgq <| mvq rfl rfl <| mvq rfl rfl <| sq (f_bin rfl rfl (iT (((IntWalk.i64_in _ (by omega)).trans (by omega) : _ = (64 - ((w - 64 : Nat) : Int))))) (lt rfl)) rfl rfl <| sq (f_shrI rfl rfl (by omega) (shr_ones (w := w - 64) (by omega)) (lt rfl)) rfl rfl <| sq (f_build bu35 rfl rfl (lt rfl)) rfl rfl <| soq kd35 rfl rfl rfl rfl rfl <| nxq ?_
    refine rtq ?_
    exact hits_done (.inl rfl) rfl rfl (by rw [onesV, if_neg h]; rfl)
theorem kinds_c : CallsP Tryz.prog Lw 118 [] (.list 1 (kindTs.map txD)) := by
  refine callsP_of gs_lw Tryz.func118 rfl Tryz.ntmps118 rfl fun w0 S0 stab => ?_
  refine sqq <| rgq <| asq rfl rfl <| nxq <| sqq <| rgq <| sq (f_buildSlice sk52 rfl rfl rfl rfl rfl rfl (by decide) (by decide) (lt rfl)) rfl rfl <| asq rfl rfl ?_
  refine nxq <| rtq ?_
  exact hits_done (.inl rfl) rfl rfl rfl
theorem kase_c {L : List Wd} {i : Nat} (hL : L.length ≤ 65536) (hi : i ≤ L.length) (hS : Small L) (hW : Wide L)  : CallsX Tryz.prog Lw pvN 180 [LDw L, .sc (.int .i64 (i : Int))] (fun b => []) (ocOf (LDw L) (csD) ((kaseP).run wEnd L i)) := by
  refine callsX_of (m := 0) Tryz.func180 rfl Tryz.ntmps180 (fun _ => rfl) rfl rfl fun hne w0 S0 b stab => ?_
  obtain ⟨o, hO⟩ : ∃ o, o = ocOf (LDw L) (csD) ((kaseP).run wEnd L i) := ⟨_, rfl⟩
  rw [← hO] at hne ⊢
  rw [kaseP_eq] at hO
  refine sqq <| rgq <| sq (f_alloc zc172 (lt rfl)) rfl rfl <| nxq <| sqq <| rgq <| mvq rfl rfl ?_
  refine sq_pr hO hne (lit_c hL hi) rfl en136 rfl rfl rfl rfl ⟨rfl, rfl, trivial⟩ rfl rfl (lt rfl) (fun _ _ hd h => And.intro hd (h)) (fun q j hq hO2 => ?_)
  replace hO := hO2
  clear hO2
  have hj := (eager_lit hq hi).2
  have hv := wide_lit hW hq
  obtain ⟨vw, vh, vl⟩ := q
  refine faq rfl kf172_0 rfl rfl <| soq kd35 rfl rfl rfl rfl rfl <| nxq <| sqq <| rgq <| faq rfl kf172_0 rfl rfl <| faq rfl kf35_0 rfl rfl <| ldq kd3 rfl rfl rfl ?_
  refine sq (f_call en172 rfl (ones_c hv) (lt rfl)) rfl rfl <| faq rfl kf172_1 rfl rfl <| soq kd35 rfl rfl rfl rfl rfl <| nxq <| sqq <| sqq <| rgq <| mvq rfl rfl ?_
  refine sq_pr hO hne (may_c hL hj [38]) rfl en134 rfl rfl rfl rfl ⟨rfl, rfl, trivial⟩ rfl rfl (lt rfl) (fun _ _ hd h => And.intro hd (h)) (fun b2 j2 hq2 hO2 => ?_)
  replace hO := hO2
  clear hO2
  have hj2 := may_le hq2 hj
  cases b2
  · rw [if_neg Bool.false_ne_true] at hO
    refine nxq <| cnF rfl <| skq <| toq <| sqq ?_
    rw [kaseE] at hO
    refine rgq <| mvq rfl rfl ?_
    refine sq_pr hO hne (need_c (l := [58]) (ts := [[58]]) hL hj2 (by decide) (fields_g (l := [58]) (ts := [[58]]) (by decide +kernel) (by decide +kernel) (by decide +kernel))) rfl en122 rfl rfl rfl rfl ⟨rfl, rfl, trivial⟩ rfl rfl (lt rfl) (fun _ _ hd h => And.intro hd (h)) (fun u m1 g1 hO2 => ?_)
    replace hO := hO2
    clear hO2
    have hm1 := (tame_need _ g1 hj2).2
    refine nxq <| sqq <| rgq <| mvq rfl rfl ?_
    refine sq_pr hO hne (name_c hL hm1) rfl en121 rfl rfl rfl rfl ⟨rfl, rfl, trivial⟩ rfl rfl (lt rfl) (fun _ _ hd h => And.intro hd (h)) (fun t m2 g2 hO2 => ?_)
    replace hO := hO2
    clear hO2
    have hm2 := (eager_name g2 hm1).2
    refine faq rfl kf172_2 rfl rfl <| soq kd9 rfl rfl rfl rfl rfl <| nxq <| sqq <| rgq <| mvq rfl rfl ?_
    refine sq_pr hO hne (need_c (l := [59]) (ts := [[59]]) hL hm2 (by decide) (fields_g (l := [59]) (ts := [[59]]) (by decide +kernel) (by decide +kernel) (by decide +kernel))) rfl en122 rfl rfl rfl rfl ⟨rfl, rfl, trivial⟩ rfl rfl (lt rfl) (fun _ _ hd h => And.intro hd (h)) (fun u2 m3 g3 hO2 => ?_)
    replace hO := hO2
    clear hO2
    refine nxq <| sqq <| rgq <| ldq kd172 rfl rfl rfl <| soq kd172 rfl rfl rfl rfl rfl <| nxq <| rtq ?_
    have hO' : o = .ret [LDw L, .sc (.int .i64 (m3 : Int))] (.agg [nD vw, .sc (.int .u64 (vh : Int)), .sc (.int .u64 (vl : Int)), nD (onesV vw).1, .sc (.int .u64 ((onesV vw).2.1 : Int)), .sc (.int .u64 ((onesV vw).2.2 : Int)), txD t]) := by rw [hO]; rfl
    exact hits_doneX hO' (.inl rfl) rfl rfl rfl rfl rfl ⟨rfl, rfl, trivial⟩ rfl
  · rw [if_pos rfl] at hO
    refine nxq <| cnT rfl <| rgq <| mvq rfl rfl ?_
    refine sq_pr hO hne (lit_c hL hj2) rfl en136 rfl rfl rfl rfl ⟨rfl, rfl, trivial⟩ rfl rfl (lt rfl) (fun _ _ hd h => And.intro hd (h)) (fun q2 m0 g0 hO2 => ?_)
    replace hO := hO2
    clear hO2
    have hm0 := (eager_lit g0 hj2).2
    obtain ⟨mw, mh, ml⟩ := q2
    rw [kaseE] at hO
    refine faq rfl kf172_1 rfl rfl <| soq kd35 rfl rfl rfl rfl rfl <| nxq <| sqq <| rgq <| mvq rfl rfl ?_
    refine sq_pr hO hne (need_c (l := [58]) (ts := [[58]]) hL hm0 (by decide) (fields_g (l := [58]) (ts := [[58]]) (by decide +kernel) (by decide +kernel) (by decide +kernel))) rfl en122 rfl rfl rfl rfl ⟨rfl, rfl, trivial⟩ rfl rfl (lt rfl) (fun _ _ hd h => And.intro hd (h)) (fun u m1 g1 hO2 => ?_)
    replace hO := hO2
    clear hO2
    have hm1 := (tame_need _ g1 hm0).2
    refine nxq <| sqq <| rgq <| mvq rfl rfl ?_
    refine sq_pr hO hne (name_c hL hm1) rfl en121 rfl rfl rfl rfl ⟨rfl, rfl, trivial⟩ rfl rfl (lt rfl) (fun _ _ hd h => And.intro hd (h)) (fun t m2 g2 hO2 => ?_)
    replace hO := hO2
    clear hO2
    have hm2 := (eager_name g2 hm1).2
    refine faq rfl kf172_2 rfl rfl <| soq kd9 rfl rfl rfl rfl rfl <| nxq <| sqq <| rgq <| mvq rfl rfl ?_
    refine sq_pr hO hne (need_c (l := [59]) (ts := [[59]]) hL hm2 (by decide) (fields_g (l := [59]) (ts := [[59]]) (by decide +kernel) (by decide +kernel) (by decide +kernel))) rfl en122 rfl rfl rfl rfl ⟨rfl, rfl, trivial⟩ rfl rfl (lt rfl) (fun _ _ hd h => And.intro hd (h)) (fun u2 m3 g3 hO2 => ?_)
    replace hO := hO2
    clear hO2
    refine nxq <| sqq <| rgq <| ldq kd172 rfl rfl rfl <| soq kd172 rfl rfl rfl rfl rfl <| nxq <| rtq ?_
    have hO' : o = .ret [LDw L, .sc (.int .i64 (m3 : Int))] (.agg [nD vw, .sc (.int .u64 (vh : Int)), .sc (.int .u64 (vl : Int)), nD mw, .sc (.int .u64 (mh : Int)), .sc (.int .u64 (ml : Int)), txD t]) := by rw [hO]; rfl
    exact hits_doneX hO' (.inl rfl) rfl rfl rfl rfl rfl ⟨rfl, rfl, trivial⟩ rfl
set_option maxHeartbeats 4000000 in
theorem pkey_c {L : List Wd} {i : Nat} (hL : L.length ≤ 65536) (hi : i ≤ L.length) (hS : Small L) (f : Nat) : CallsX Tryz.prog Lw pvN 133 [LDw L, .sc (.int .i64 (i : Int))] (fun b => []) (ocOf (LDw L) (kdD) ((keyP f).run wEnd L i)) := by
  refine callsX_of (m := 0) Tryz.func133 rfl Tryz.ntmps133 (fun _ => rfl) rfl rfl fun hne w0 S0 b stab => ?_
  obtain ⟨o, hO⟩ : ∃ o, o = ocOf (LDw L) (kdD) ((keyP f).run wEnd L i) := ⟨_, rfl⟩
  rw [← hO] at hne ⊢
  rw [keyP] at hO
  refine sqq <| rgq <| sq (f_alloc zc82 (lt rfl)) rfl rfl <| nxq <| sqq <| rgq <| mvq rfl rfl ?_
  refine sq_pr hO hne ((ex_all hL hS f f (Nat.le_refl _)).2.2.2 hi) rfl en179 rfl rfl rfl rfl ⟨rfl, rfl, trivial⟩ rfl rfl (lt rfl) (fun _ _ hd h => And.intro hd (h)) (fun q j hq hO2 => ?_)
  replace hO := hO2
  clear hO2
  have hj := (tame_ex _ _ hq hi).2
  obtain ⟨qop, qlw, qlh, qll, qnm, qfl, qn, qm, qar, qln⟩ := q
  rw [exD_cs]
  change o = ocOf (LDw L) kdD (((kindP (kindsL.drop 0)).bind fun k => .ret ((Ex.mk qop qlw qlh qll qnm qfl qn qm qar qln), k)).run wEnd L j) at hO
  refine faq rfl kf82_0 rfl rfl <| soq kd67 rfl rfl rfl rfl rfl <| nxq <| sqq <| sqq <| rgq <| sq (f_call en118 rfl kinds_c (lt rfl)) rfl rfl <| sq (f_lenList rfl rfl un52 (lt rfl)) rfl rfl ?_
  refine mvq rfl rfl <| nxq <| hits_block <| hits_loop (fun x : Nat × Nat × Nat => [(.slot 0, some (.ptr 1000000 0)), (.box 1000000, some (.ptr 1000000 0)), (.cell 1000000 0, some (.d (LDw L))), (.cell 1000000 1, some (.d (.sc (.int .i64 (x.2.2 : Int))))), (.slot 8, some (.d (.list 1 (kindTs.map txD)))), (.slot 9, some (.d (.sc (.int .i64 (4 : Int))))), (.slot 10, some (.d (.sc (.int .i64 (x.1 : Int))))), (.slot 2, some (.ptr 2 0)), (.box 2, some (.ptr 2 0)), (.cell 2 0, some (.d (.sc (.int .u8 (qop : Int))))), (.cell 2 1, some (.d (nD qlw))), (.cell 2 2, some (.d (.sc (.int .u64 (qlh : Int))))), (.cell 2 3, some (.d (.sc (.int .u64 (qll : Int))))), (.cell 2 4, some (.d (txD qnm))), (.cell 2 5, some (.d (txD qfl))), (.cell 2 6, some (.d (nD qn))), (.cell 2 7, some (.d (nD qm))), (.cell 2 8, some (.d (.list 10 (exDs qar)))), (.cell 2 9, some (.d (nD qln))), (.cell 2 10, some (.d (.sc (.int .u8 (x.2.1 : Int)))))]) (fun x : Nat × Nat × Nat => x.1 ≤ 4 ∧ x.2.2 ≤ L.length ∧ ((x.2.1 = 0 ∧ o = ocOf (LDw L) kdD (((kindP (kindsL.drop x.1)).bind fun k => .ret ((Ex.mk qop qlw qlh qll qnm qfl qn qm qar qln), k)).run wEnd L x.2.2)) ∨ (x.2.1 ≠ 0 ∧ o = .ret [LDw L, .sc (.int .i64 (x.2.2 : Int))] (kdD ((Ex.mk qop qlw qlh qll qnm qfl qn qm qar qln), x.2.1))))) (fun x : Nat × Nat × Nat => 4 - x.1) (0, 0, j) ⟨Nat.zero_le _, hj, .inl ⟨rfl, hO⟩⟩ ⟨rfl, rfl, rfl, rfl, rfl, rfl, rfl, rfl, rfl, rfl, rfl, rfl, rfl, rfl, rfl, rfl, rfl, rfl, rfl, rfl, trivial⟩ rfl ?_
  intro x hx0
  obtain ⟨r, kk, i'⟩ := x
  obtain ⟨hr, hi', hJ⟩ := hx0
  change r ≤ 4 at hr
  change i' ≤ L.length at hi'
  change (kk = 0 ∧ o = ocOf (LDw L) kdD (((kindP (kindsL.drop r)).bind fun k => .ret ((Ex.mk qop qlw qlh qll qnm qfl qn qm qar qln), k)).run wEnd L i')) ∨ (kk ≠ 0 ∧ o = .ret [LDw L, .sc (.int .i64 (i' : Int))] (kdD ((Ex.mk qop qlw qlh qll qnm qfl qn qm qar qln), kk))) at hJ
  clear hO
  change Hits _ [(.slot 0, some (.ptr 1000000 0)), (.box 1000000, some (.ptr 1000000 0)), (.cell 1000000 0, some (.d (LDw L))), (.cell 1000000 1, some (.d (.sc (.int .i64 (i' : Int))))), (.slot 8, some (.d (.list 1 (kindTs.map txD)))), (.slot 9, some (.d (.sc (.int .i64 (4 : Int))))), (.slot 10, some (.d (.sc (.int .i64 (r : Int))))), (.slot 2, some (.ptr 2 0)), (.box 2, some (.ptr 2 0)), (.cell 2 0, some (.d (.sc (.int .u8 (qop : Int))))), (.cell 2 1, some (.d (nD qlw))), (.cell 2 2, some (.d (.sc (.int .u64 (qlh : Int))))), (.cell 2 3, some (.d (.sc (.int .u64 (qll : Int))))), (.cell 2 4, some (.d (txD qnm))), (.cell 2 5, some (.d (txD qfl))), (.cell 2 6, some (.d (nD qn))), (.cell 2 7, some (.d (nD qm))), (.cell 2 8, some (.d (.list 10 (exDs qar)))), (.cell 2 9, some (.d (nD qln))), (.cell 2 10, some (.d (.sc (.int .u8 (kk : Int)))))] _
  refine sqq ?_
  by_cases hr4 : r < 4
  · obtain ⟨t, hdr, hat⟩ := kinds_at hr4
    refine rgq <| sq (f_bin rfl rfl (bT (decide_eq_true (by omega))) (lt rfl)) rfl rfl <| nxq <| sqq <| cnT rfl <| skq <| toq <| sqq ?_
    refine hits_block <| sqq <| rgq <| mvq rfl rfl <| sq (f_idxList rfl rfl rfl un52 kd9 (Int.natCast_nonneg _) hat (lt rfl)) rfl rfl <| ldq kd9 rfl rfl rfl <| asq rfl rfl <| asq rfl rfl ?_
    refine nxq <| sqq ?_
    rcases hJ with ⟨hk0, hO⟩ | ⟨hk0, hO⟩
    · rw [hdr, kind_cons] at hO
      refine rgq <| faq rfl kf82_1 rfl rfl <| ldq kd80 rfl rfl rfl <| sq (f_bin rfl rfl (bT (beq_iff_eq.mpr (by rw [hk0]; rfl))) (lt rfl)) rfl rfl ?_
      refine mvq rfl rfl <| sq_yes (f_move rfl (lt rfl)) rfl rfl rfl rfl (lt rfl) <| sq_yes (f_move rfl (lt rfl)) rfl rfl rfl rfl (lt rfl) <| sq_guard rfl rfl rfl (lt rfl) ?_
      refine sq_pr hO hne (may_c hL hi' t) rfl en134 rfl rfl rfl rfl ⟨rfl, rfl, trivial⟩ rfl rfl (lt rfl) (fun _ _ hd h => And.intro hd (h)) (fun b2 j2 hq2 hO2 => ?_)
      replace hO := hO2
      clear hO2
      have hj2 := may_le hq2 hi'
      cases b2
      · rw [if_neg Bool.false_ne_true] at hO
        refine pkq rfl rfl rfl <| nxq <| cnF rfl <| skq <| inq <| toq <| rgq <| sq (f_bin rfl rfl (iT (((IntWalk.i64_in _ (by omega)).trans (by omega) : _ = ((r + 1 : Nat) : Int)))) (lt rfl)) rfl rfl ?_
        refine mvq rfl rfl <| nxq ?_
        refine round_end (r + 1, kk, j2) ⟨by simp only; omega, hj2, .inl ⟨hk0, hO⟩⟩ (by simp only; omega) ⟨rfl, rfl, rfl, rfl, rfl, rfl, rfl, rfl, rfl, rfl, rfl, rfl, rfl, rfl, rfl, rfl, rfl, rfl, rfl, rfl, trivial⟩ rfl
      · rw [if_pos rfl] at hO
        refine pkq rfl rfl rfl <| nxq <| cnT rfl <| rgq <| mvq rfl rfl <| sq (f_bin rfl rfl (iT (((IntWalk.i64_in _ (by omega)).trans (by omega) : _ = ((r + 1 : Nat) : Int)))) (lt rfl)) rfl rfl <| sq (f_convI rfl us3 un80 (IntWalk.u8_in _ (by omega)) (lt rfl)) rfl rfl <| faq rfl kf82_1 rfl rfl ?_
        refine soq kd80 rfl rfl rfl rfl rfl <| nlq <| inq <| toq <| rgq <| sq (f_bin rfl rfl (iT (((IntWalk.i64_in _ (by omega)).trans (by omega) : _ = ((r + 1 : Nat) : Int)))) (lt rfl)) rfl rfl <| mvq rfl rfl <| nxq ?_
        refine round_end (r + 1, r + 1, j2) ⟨by simp only; omega, hj2, .inr ⟨by simp only; omega, hO⟩⟩ (by simp only; omega) ⟨rfl, rfl, rfl, rfl, rfl, rfl, rfl, rfl, rfl, rfl, rfl, rfl, rfl, rfl, rfl, rfl, rfl, rfl, rfl, rfl, trivial⟩ rfl
    · refine rgq <| faq rfl kf82_1 rfl rfl <| ldq kd80 rfl rfl rfl <| sq (f_bin rfl rfl (bT (beq_eq_false_iff_ne.mpr (by omega))) (lt rfl)) rfl rfl <| mvq rfl rfl <| noq rfl rfl rfl rfl rfl rfl rfl <| noq rfl rfl rfl rfl rfl rfl rfl <| noq rfl rfl rfl rfl rfl rfl rfl ?_
      refine pkq rfl rfl rfl <| nxq <| cnF rfl <| skq <| inq <| toq <| rgq <| sq (f_bin rfl rfl (iT (((IntWalk.i64_in _ (by omega)).trans (by omega) : _ = ((r + 1 : Nat) : Int)))) (lt rfl)) rfl rfl ?_
      refine mvq rfl rfl <| nxq ?_
      refine round_end (r + 1, kk, i') ⟨by simp only; omega, hi', .inr ⟨hk0, hO⟩⟩ (by simp only; omega) ⟨rfl, rfl, rfl, rfl, rfl, rfl, rfl, rfl, rfl, rfl, rfl, rfl, rfl, rfl, rfl, rfl, rfl, rfl, rfl, rfl, trivial⟩ rfl
  · obtain rfl : r = 4 := by omega
    refine rgq <| sq (f_bin rfl rfl (bT (decide_eq_false (by omega))) (lt rfl)) rfl rfl <| nxq <| sqq <| cnF rfl <| hits_exit <| to_exit <| to_exit ?_
    refine in_hit rfl <| toq <| sqq <| sqq ?_
    rcases hJ with ⟨hk0, hO⟩ | ⟨hk0, hO⟩
    · refine rgq <| faq rfl kf82_1 rfl rfl <| ldq kd80 rfl rfl rfl <| sq (f_bin rfl rfl (bT (beq_iff_eq.mpr (by rw [hk0]; rfl))) (lt rfl)) rfl rfl ?_
      refine nxq <| cnT rfl <| rgq <| sq (f_build bu96 rfl rfl (lt rfl)) rfl rfl <| sq (f_mkIfaceD rfl nif96 (lt rfl)) rfl rfl ?_
      exact sq_panic rfl rfl hO rfl rfl ⟨rfl, rfl, trivial⟩ rfl rfl (fun _ _ hd h => And.intro hd h)
    · refine rgq <| faq rfl kf82_1 rfl rfl <| ldq kd80 rfl rfl rfl <| sq (f_bin rfl rfl (bT (beq_eq_false_iff_ne.mpr (by omega))) (lt rfl)) rfl rfl <| nxq <| cnF rfl <| skq <| toq ?_
      refine sqq <| rgq <| ldq kd82 rfl rfl rfl <| soq kd82 rfl rfl rfl rfl rfl <| nxq <| rtq ?_
      exact hits_doneX hO (.inl rfl) rfl rfl rfl rfl rfl ⟨rfl, rfl, trivial⟩ rfl
set_option maxHeartbeats 8000000 in
theorem state_c {L : List Wd} {i : Nat} (hL : L.length ≤ 65536) (hi : i ≤ L.length) (hS : Small L) (hW : Wide L) (f : Nat) : CallsX Tryz.prog Lw pvN 128 [LDw L, .sc (.int .i64 (i : Int))] (fun b => []) (ocOf (LDw L) (stD) ((stateP f).run wEnd L i)) := by
  refine callsX_of (m := 0) Tryz.func128 rfl Tryz.ntmps128 (fun _ => rfl) rfl rfl fun hne w0 S0 b stab => ?_
  obtain ⟨o, hO⟩ : ∃ o, o = ocOf (LDw L) (stD) ((stateP f).run wEnd L i) := ⟨_, rfl⟩
  rw [← hO] at hne ⊢
  rw [stateP_eq] at hO
  change o = ocOf (LDw L) stD ((stateK f (wordAt wEnd L i).ln).run wEnd L i) at hO
  rw [stateK] at hO
  refine sqq <| rgq <| sq (f_alloc zc76 (lt rfl)) rfl rfl <| nxq <| sqq <| rgq <| mvq rfl rfl <| sq_callB en33 rfl rfl (next_c hL hi) ⟨rfl, rfl, trivial⟩ rfl rfl rfl rfl (lt rfl) ?_
  refine sq (f_field rfl fp37_3 rfl (lt rfl)) rfl rfl <| faq rfl kf76_5 rfl rfl <| soq kd3 rfl rfl rfl rfl rfl <| nxq <| sqq <| rgq <| mvq rfl rfl ?_
  refine sq_pr hO hne (name_c hL hi) rfl en121 rfl rfl rfl rfl ⟨rfl, rfl, trivial⟩ rfl rfl (lt rfl) (fun _ _ hd h => And.intro hd (h)) (fun s j0 hq0 hO2 => ?_)
  replace hO := hO2
  clear hO2
  have hj0 := (eager_name hq0 hi).2
  refine faq rfl kf76_0 rfl rfl <| soq kd9 rfl rfl rfl rfl rfl <| nxq <| sqq <| rgq <| mvq rfl rfl ?_
  refine sq_pr hO hne (need_c (l := [123]) (ts := [[123]]) hL hj0 (by decide) (fields_g (l := [123]) (ts := [[123]]) (by decide +kernel) (by decide +kernel) (by decide +kernel))) rfl en122 rfl rfl rfl rfl ⟨rfl, rfl, trivial⟩ rfl rfl (lt rfl) (fun _ _ hd h => And.intro hd (h)) (fun uj1 j1 hq1 hO2 => ?_)
  replace hO := hO2
  clear hO2
  have hj1 := (tame_need _ hq1 hj0).2
  refine nxq <| sqq <| hits_block <| hits_ownC 2 1 201 1 rfl <| hits_loop (fun x : Nat × List Tx × Nat => [(.slot 0, some (.ptr 1000000 0)), (.box 1000000, some (.ptr 1000000 0)), (.cell 1000000 0, some (.d (LDw L))), (.cell 1000000 1, some (.d (.sc (.int .i64 (x.2.2 : Int))))), (.slot 2, some (.ptr 2 0)), (.box 2, some (.ptr 2 0)), (.cell 2 0, some (.d (txD s))), (.cell 2 1, some (.own 201 1 (x.2.1.map txD))), (.cell 2 2, some (.d (.sc (.slice none 0 0)))), (.cell 2 3, some (.d (.sc (.slice none 0 0)))), (.cell 2 4, some (.d (txD []))), (.cell 2 5, some (.d (nD (wordAt wEnd L i).ln))), (.tip 201, some (.ptr 201 0))]) (fun x : Nat × List Tx × Nat => x.1 ≤ f ∧ x.2.1.length ≤ x.2.2 ∧ x.2.2 ≤ L.length ∧ o = ocOf (LDw L) stD (((takesP x.1 x.2.1).bind fun hs => stateT f (wordAt wEnd L i).ln s hs).run wEnd L x.2.2)) (fun x : Nat × List Tx × Nat => x.1) (f, [], j1) ⟨Nat.le_refl _, Nat.zero_le _, hj1, hO⟩ ⟨rfl, rfl, rfl, rfl, rfl, rfl, rfl, rfl, rfl, rfl, rfl, rfl, rfl, trivial⟩ rfl ?_
  intro x hx0
  obtain ⟨g, acc, i'⟩ := x
  obtain ⟨hg, ha, hi', hO⟩ := hx0
  change g ≤ f at hg
  change acc.length ≤ i' at ha
  change i' ≤ L.length at hi'
  change o = ocOf (LDw L) stD (((takesP g acc).bind fun hs => stateT f (wordAt wEnd L i).ln s hs).run wEnd L i') at hO
  change Hits _ [(.slot 0, some (.ptr 1000000 0)), (.box 1000000, some (.ptr 1000000 0)), (.cell 1000000 0, some (.d (LDw L))), (.cell 1000000 1, some (.d (.sc (.int .i64 (i' : Int))))), (.slot 2, some (.ptr 2 0)), (.box 2, some (.ptr 2 0)), (.cell 2 0, some (.d (txD s))), (.cell 2 1, some (.own 201 1 (acc.map txD))), (.cell 2 2, some (.d (.sc (.slice none 0 0)))), (.cell 2 3, some (.d (.sc (.slice none 0 0)))), (.cell 2 4, some (.d (txD []))), (.cell 2 5, some (.d (nD (wordAt wEnd L i).ln))), (.tip 201, some (.ptr 201 0))] _
  cases g with
  | zero => exact absurd hO hne
  | succ g =>
  rw [takes_succ] at hO
  refine sqq <| sqq <| rgq <| mvq rfl rfl ?_
  refine sq_pr hO hne (may_c hL hi' [116, 97, 107, 101]) rfl en134 rfl rfl rfl rfl ⟨rfl, rfl, trivial⟩ rfl rfl (lt rfl) (fun _ _ hd h => And.intro hd (h)) (fun b2 j hq hO2 => ?_)
  replace hO := hO2
  clear hO2
  have hj := may_le hq hi'
  have hjj := may_at hq
  cases b2
  · rw [if_neg Bool.false_ne_true] at hO
    rw [stateT] at hO
    refine nxq <| cnF rfl <| hits_exit <| to_exit <| to_exit <| in_hit rfl <| toq <| sqq ?_
    refine sqq <| rgq <| mvq rfl rfl ?_
    refine sq_pr hO hne (may_c hL hj [115, 101, 108, 101, 99, 116]) rfl en134 rfl rfl rfl rfl ⟨rfl, rfl, trivial⟩ rfl rfl (lt rfl) (fun _ _ hd h => And.intro hd (h)) (fun b2 j2 hq2 hO2 => ?_)
    replace hO := hO2
    clear hO2
    have hj2 := may_le hq2 hj
    cases b2
    · rw [if_neg Bool.false_ne_true] at hO
      refine sq (f_un rfl rfl (lt rfl)) rfl rfl <| nxq <| cnT rfl <| sqq <| rgq <| mvq rfl rfl ?_
      refine sq_pr hO hne (need_c (l := [103, 111]) (ts := [[103, 111]]) hL hj2 (by decide) (fields_g (l := [103, 111]) (ts := [[103, 111]]) (by decide +kernel) (by decide +kernel) (by decide +kernel))) rfl en122 rfl rfl rfl rfl ⟨rfl, rfl, trivial⟩ rfl rfl (lt rfl) (fun _ _ hd h => And.intro hd (h)) (fun um1 m1 g1 hO2 => ?_)
      replace hO := hO2
      clear hO2
      have hm1 := (tame_need _ g1 hj2).2
      refine nxq <| sqq <| rgq <| mvq rfl rfl ?_
      refine sq_pr hO hne (name_c hL hm1) rfl en121 rfl rfl rfl rfl ⟨rfl, rfl, trivial⟩ rfl rfl (lt rfl) (fun _ _ hd h => And.intro hd (h)) (fun t m2 g2 hO2 => ?_)
      replace hO := hO2
      clear hO2
      have hm2 := (eager_name g2 hm1).2
      refine faq rfl kf76_4 rfl rfl <| soq kd9 rfl rfl rfl rfl rfl <| nxq <| sqq <| rgq <| mvq rfl rfl ?_
      refine sq_pr hO hne (need_c (l := [59, 32, 125]) (ts := [[59], [125]]) hL hm2 (by decide) (fields_g (l := [59, 32, 125]) (ts := [[59], [125]]) (by decide +kernel) (by decide +kernel) (by decide +kernel))) rfl en122 rfl rfl rfl rfl ⟨rfl, rfl, trivial⟩ rfl rfl (lt rfl) (fun _ _ hd h => And.intro hd (h)) (fun um3 m3 g3 hO2 => ?_)
      replace hO := hO2
      clear hO2
      have hm3 := (tame_need _ g3 hm2).2
      refine nxq <| sqq <| hits_cellL 2 1 rfl rfl <| hits_cellD 2 2 (q' := .list 10 []) rfl nil_list <| hits_cellD 2 3 (q' := .list 7 []) rfl nil_list <| rgq <| ldq kd76 rfl rfl rfl <| soq kd76 rfl rfl rfl rfl rfl ?_
      refine nxq <| rtq <| to_ret ?_
      have hO' : o = .ret [LDw L, .sc (.int .i64 (m3 : Int))] (.agg [txD s, .list 1 (acc.map txD), .list 10 [], .list 7 [], txD t, nD (wordAt wEnd L i).ln]) := by rw [hO]; rfl
      exact hits_doneX hO' (.inl rfl) rfl rfl rfl rfl rfl ⟨rfl, rfl, trivial⟩ rfl
    · rw [if_pos rfl] at hO
      refine sq (f_un rfl rfl (lt rfl)) rfl rfl <| nxq <| cnF rfl <| skq <| toq <| sqq <| hits_cellL 2 1 rfl rfl <| hits_ownC 2 3 201 7 rfl ?_
      refine rgq <| mvq rfl rfl ?_
      refine sq_pr hO hne ((ex_all hL hS f f (Nat.le_refl _)).2.2.2 hj2) rfl en179 rfl rfl rfl rfl ⟨rfl, rfl, trivial⟩ rfl rfl (lt rfl) (fun _ _ hd h => And.intro hd (h)) (fun q m1 g1 hO2 => ?_)
      replace hO := hO2
      clear hO2
      have hm1 := (tame_ex _ _ g1 hj2).2
      obtain ⟨qop, qlw, qlh, qll, qnm, qfl, qn, qm, qar, qln⟩ := q
      rw [exD_cs]
      refine sq (f_buildSlice sk65 rfl rfl rfl rfl rfl rfl (by decide) (by decide) (lt rfl)) rfl rfl <| faq rfl kf76_2 rfl rfl <| soq kd65 rfl rfl rfl rfl rfl <| nxq <| sqq <| rgq <| mvq rfl rfl ?_
      refine sq_pr hO hne (need_c (l := [123]) (ts := [[123]]) hL hm1 (by decide) (fields_g (l := [123]) (ts := [[123]]) (by decide +kernel) (by decide +kernel) (by decide +kernel))) rfl en122 rfl rfl rfl rfl ⟨rfl, rfl, trivial⟩ rfl rfl (lt rfl) (fun _ _ hd h => And.intro hd (h)) (fun um2 m2 g2 hO2 => ?_)
      replace hO := hO2
      clear hO2
      have hm2 := (tame_need _ g2 hm1).2
      refine nxq <| sqq <| hits_block <| hits_loop (fun y : Nat × List Cs × Nat => [(.slot 0, some (.ptr 1000000 0)), (.box 1000000, some (.ptr 1000000 0)), (.cell 1000000 0, some (.d (LDw L))), (.cell 1000000 1, some (.d (.sc (.int .i64 (y.2.2 : Int))))), (.slot 2, some (.ptr 2 0)), (.box 2, some (.ptr 2 0)), (.cell 2 0, some (.d (txD s))), (.cell 2 1, some (.d (.list 1 (acc.map txD)))), (.cell 2 2, some (.d (.list 10 [.agg (exCs (Ex.mk qop qlw qlh qll qnm qfl qn qm qar qln))]))), (.cell 2 3, some (.own 201 7 (y.2.1.map csD))), (.cell 2 4, some (.d (txD []))), (.cell 2 5, some (.d (nD (wordAt wEnd L i).ln))), (.tip 201, some (.ptr 201 0))]) (fun y : Nat × List Cs × Nat => y.1 ≤ f ∧ y.2.1.length ≤ y.2.2 ∧ y.2.2 ≤ L.length ∧ o = ocOf (LDw L) stD (((casesP y.1 y.2.1).bind fun cs => stateE s acc (Ex.mk qop qlw qlh qll qnm qfl qn qm qar qln) cs (wordAt wEnd L i).ln).run wEnd L y.2.2)) (fun y : Nat × List Cs × Nat => y.1) (f, [], m2) ⟨Nat.le_refl _, Nat.zero_le _, hm2, hO⟩ ⟨rfl, rfl, rfl, rfl, rfl, rfl, rfl, rfl, rfl, rfl, rfl, rfl, rfl, trivial⟩ rfl ?_
      intro y hy0
      obtain ⟨g2, cs, i2⟩ := y
      obtain ⟨hg2, ha2, hi2, hO⟩ := hy0
      change g2 ≤ f at hg2
      change cs.length ≤ i2 at ha2
      change i2 ≤ L.length at hi2
      change o = ocOf (LDw L) stD (((casesP g2 cs).bind fun cs => stateE s acc (Ex.mk qop qlw qlh qll qnm qfl qn qm qar qln) cs (wordAt wEnd L i).ln).run wEnd L i2) at hO
      change Hits _ [(.slot 0, some (.ptr 1000000 0)), (.box 1000000, some (.ptr 1000000 0)), (.cell 1000000 0, some (.d (LDw L))), (.cell 1000000 1, some (.d (.sc (.int .i64 (i2 : Int))))), (.slot 2, some (.ptr 2 0)), (.box 2, some (.ptr 2 0)), (.cell 2 0, some (.d (txD s))), (.cell 2 1, some (.d (.list 1 (acc.map txD)))), (.cell 2 2, some (.d (.list 10 [.agg (exCs (Ex.mk qop qlw qlh qll qnm qfl qn qm qar qln))]))), (.cell 2 3, some (.own 201 7 (cs.map csD))), (.cell 2 4, some (.d (txD []))), (.cell 2 5, some (.d (nD (wordAt wEnd L i).ln))), (.tip 201, some (.ptr 201 0))] _
      cases g2 with
      | zero => exact absurd hO hne
      | succ g2' =>
      rw [cases_succ] at hO
      change o = ocOf (LDw L) stD ((if (wordAt wEnd L i2).k = 3 then kaseP.bind fun c => (casesP g2' (cs ++ [c])).bind fun cs => stateE s acc (Ex.mk qop qlw qlh qll qnm qfl qn qm qar qln) cs (wordAt wEnd L i).ln else stateE s acc (Ex.mk qop qlw qlh qll qnm qfl qn qm qar qln) cs (wordAt wEnd L i).ln).run wEnd L i2) at hO
      refine sqq <| sqq ?_
      by_cases hk : (wordAt wEnd L i2).k = 3
      · rw [if_pos hk] at hO
        refine rgq <| mvq rfl rfl <| sq_callB en33 rfl rfl (next_c (i := i2) hL hi2) ⟨rfl, rfl, trivial⟩ rfl rfl rfl rfl (lt rfl) <| sq (f_field rfl fp37_0 rfl (lt rfl)) rfl rfl <| sq (f_bin rfl rfl (bT (beq_iff_eq.mpr (by rw [hk]; rfl))) (lt rfl)) rfl rfl ?_
        refine nxq <| cnT rfl <| skq <| toq <| hits_block <| hits_drawnT (some (1000000, 2)) rfl mixed <| dq (f_fieldAddr rfl kf76_3 rfl (lt rfl)) rfl rfl <| dq (f_load kd74 rfl rfl (lt rfl)) rfl rfl ?_
        refine dq (f_move rfl (lt rfl)) rfl rfl ?_
        refine dq_pr ((⟨(0, 0, 0), (0, 0, 0), []⟩ : Cs)) hO hne (kase_c hL hi2 hS hW) rfl en180 rfl rfl rfl rfl ⟨rfl, rfl, trivial⟩ rfl (lt rfl) (fun _ _ hd h => And.intro hd (h)) (fun c n1 X hX => ?_)
        refine dq (f_buildSlice sk74 rfl rfl rfl rfl rfl rfl (by decide) (by decide) (lt rfl)) rfl rfl <| dq (f_appendO 200 rfl rfl rfl rfl apk74 (by simp only [snds, List.length_map, List.length_cons, List.length_nil]; omega) (by simp only [snds, List.length_map, List.length_cons, List.length_nil]; omega) rfl (by decide) (lt rfl)) rfl rfl ?_
        refine dq (f_fieldAddr rfl kf76_3 rfl (lt rfl)) rfl rfl <| dq (f_store kd74 rfl rfl rfl rfl rfl) rfl rfl <| dq_nilT (by kernel_rfl) rfl ?_
        refine drawn_end (id := 1000000) hX rfl (fun hXq hXe => ?_)
        obtain ⟨f1, hO2⟩ := hXq
        subst hXe
        replace hO := hO2
        clear hO2 hX
        have hn1 := eager_kase f1 hi2
        refine hits_renumC 2 3 200 201 7 rfl rfl (by decide) <| inq <| toq ?_
        refine round_end (g2', cs ++ [c], n1) ⟨by simp only; omega, by simp only [List.length_append, List.length_cons, List.length_nil]; omega, hn1.2, hO⟩ (by simp only; omega) ⟨rfl, rfl, rfl, rfl, rfl, rfl, rfl, rfl, rfl, (congrArg (fun z => some (V.own 201 7 z)) (map_snoc csD cs c)), rfl, rfl, rfl, trivial⟩ rfl
      · rw [if_neg hk] at hO
        rw [stateE] at hO
        refine rgq <| mvq rfl rfl <| sq_callB en33 rfl rfl (next_c (i := i2) hL hi2) ⟨rfl, rfl, trivial⟩ rfl rfl rfl rfl (lt rfl) <| sq (f_field rfl fp37_0 rfl (lt rfl)) rfl rfl <| sq (f_bin rfl rfl (bT (beq_eq_false_iff_ne.mpr (by omega))) (lt rfl)) rfl rfl <| nxq <| cnF rfl <| hits_exit ?_
        refine to_exit <| to_exit <| in_hit rfl <| toq <| sqq <| rgq <| mvq rfl rfl ?_
        refine sq_pr hO hne (need_c (l := [101, 108, 115, 101]) (ts := [[101, 108, 115, 101]]) hL hi2 (by decide) (fields_g (l := [101, 108, 115, 101]) (ts := [[101, 108, 115, 101]]) (by decide +kernel) (by decide +kernel) (by decide +kernel))) rfl en122 rfl rfl rfl rfl ⟨rfl, rfl, trivial⟩ rfl rfl (lt rfl) (fun _ _ hd h => And.intro hd (h)) (fun un1 n1 f1 hO2 => ?_)
        replace hO := hO2
        clear hO2
        have hn1 := (tame_need _ f1 hi2).2
        refine nxq <| sqq <| rgq <| mvq rfl rfl ?_
        refine sq_pr hO hne (name_c hL hn1) rfl en121 rfl rfl rfl rfl ⟨rfl, rfl, trivial⟩ rfl rfl (lt rfl) (fun _ _ hd h => And.intro hd (h)) (fun t n2 f2 hO2 => ?_)
        replace hO := hO2
        clear hO2
        have hn2 := (eager_name f2 hn1).2
        refine faq rfl kf76_4 rfl rfl <| soq kd9 rfl rfl rfl rfl rfl <| nxq <| sqq <| rgq <| mvq rfl rfl ?_
        refine sq_pr hO hne (need_c (l := [59, 32, 125, 32, 125]) (ts := [[59], [125], [125]]) hL hn2 (by decide) (fields_g (l := [59, 32, 125, 32, 125]) (ts := [[59], [125], [125]]) (by decide +kernel) (by decide +kernel) (by decide +kernel))) rfl en122 rfl rfl rfl rfl ⟨rfl, rfl, trivial⟩ rfl rfl (lt rfl) (fun _ _ hd h => And.intro hd (h)) (fun un3 n3 f3 hO2 => ?_)
        replace hO := hO2
        clear hO2
        have hn3 := (tame_need _ f3 hn2).2
        refine nxq <| sqq <| hits_cellL 2 3 rfl rfl <| rgq <| ldq kd76 rfl rfl rfl <| soq kd76 rfl rfl rfl rfl rfl <| nxq <| rtq ?_
        have hO' : o = .ret [LDw L, .sc (.int .i64 (n3 : Int))] (.agg [txD s, .list 1 (acc.map txD), .list 10 [.agg (exCs (Ex.mk qop qlw qlh qll qnm qfl qn qm qar qln))], .list 7 (cs.map csD), txD t, nD (wordAt wEnd L i).ln]) := by rw [hO]; show Oc.ret _ (stD _) = _; rw [stD, List.map_cons, List.map_nil, exD_cs]
        exact hits_doneX hO' (.inl rfl) rfl rfl rfl rfl rfl ⟨rfl, rfl, trivial⟩ rfl
  · rw [if_pos rfl] at hO
    have hj3 : j = i' + 1 := by rcases hjj with ⟨_, h, _⟩ | ⟨h, _⟩; exact h; cases h
    refine nxq <| cnT rfl <| skq <| toq <| hits_block <| sqq <| hits_drawnT (some (1000000, 2)) rfl mixed <| dq (f_fieldAddr rfl kf76_1 rfl (lt rfl)) rfl rfl ?_
    refine dq (f_load kd52 rfl rfl (lt rfl)) rfl rfl <| dq (f_move rfl (lt rfl)) rfl rfl ?_
    refine dq_pr (([] : Tx)) hO hne (name_c hL hj) rfl en121 rfl rfl rfl rfl ⟨rfl, rfl, trivial⟩ rfl (lt rfl) (fun _ _ hd h => And.intro hd (h)) (fun s2 k2 X hX => ?_)
    refine dq (f_buildSlice sk52 rfl rfl rfl rfl rfl rfl (by decide) (by decide) (lt rfl)) rfl rfl <| dq (f_appendO 200 rfl rfl rfl rfl apk52 (by simp only [snds, List.length_map, List.length_cons, List.length_nil]; omega) (by simp only [snds, List.length_map, List.length_cons, List.length_nil]; omega) rfl (by decide) (lt rfl)) rfl rfl ?_
    refine dq (f_fieldAddr rfl kf76_1 rfl (lt rfl)) rfl rfl <| dq (f_store kd52 rfl rfl rfl rfl rfl) rfl rfl <| dq_nilT (by kernel_rfl) rfl ?_
    refine drawn_end (id := 1000000) hX rfl (fun hXq hXe => ?_)
    obtain ⟨e2, hO2⟩ := hXq
    subst hXe
    replace hO := hO2
    clear hO2 hX
    have hk2 := eager_name e2 hj
    refine hits_renumC 2 1 200 201 1 rfl rfl (by decide) <| toq <| rgq <| mvq rfl rfl ?_
    refine sq_pr hO hne (need_c (l := [59]) (ts := [[59]]) hL hk2.2 (by decide) (fields_g (l := [59]) (ts := [[59]]) (by decide +kernel) (by decide +kernel) (by decide +kernel))) rfl en122 rfl rfl rfl rfl ⟨rfl, rfl, trivial⟩ rfl rfl (lt rfl) (fun _ _ hd h => And.intro hd (h)) (fun u3 k3 e3 hO2 => ?_)
    replace hO := hO2
    clear hO2
    have hk3 := tame_need _ e3 hk2.2
    refine nlq <| inq <| toq ?_
    refine round_end (g, acc ++ [s2], k3) ⟨by simp only; omega, by simp only [List.length_append, List.length_cons, List.length_nil]; omega, hk3.2, hO⟩ (by simp only; omega) ⟨rfl, rfl, rfl, rfl, rfl, rfl, rfl, (congrArg (fun z => some (V.own 201 1 z)) (map_snoc txD acc s2)), rfl, rfl, rfl, rfl, rfl, trivial⟩ rfl
set_option maxHeartbeats 4000000 in
theorem decls_c (b : Nat) : CallsM Tryz.prog Lw 34 [.sc (.pointer (some ⟨b, 0, none⟩))] (declE b) := by
  refine callsG_of (R := fun w0 S0 => PostM w0 (declE b)) gs_lw Tryz.func34 rfl Tryz.ntmps34 rfl fun w0 S0 stab => ?_
  refine sqq <| rgq <| asq rfl rfl <| nxq <| sqq <| rgq <| sq (f_makeMap (lt rfl)) rfl rfl <| mvq rfl rfl ?_
  refine sq (f_methodValD rfl (lt rfl)) rfl rfl <| sq (f_build bu100 rfl rfl (lt rfl)) rfl rfl <| sq (f_mapIns mpk102 rfl rfl rfl rfl rfl rfl (by kernel_rfl)) rfl rfl <| mvq rfl rfl <| sq (f_methodValD rfl (lt rfl)) rfl rfl <| sq (f_build bu100 rfl rfl (lt rfl)) rfl rfl <| sq (f_mapIns mpk102 rfl rfl rfl rfl rfl rfl (by kernel_rfl)) rfl rfl <| mvq rfl rfl ?_
  refine sq (f_methodValD rfl (lt rfl)) rfl rfl <| sq (f_build bu100 rfl rfl (lt rfl)) rfl rfl <| sq (f_mapIns mpk102 rfl rfl rfl rfl rfl rfl (by kernel_rfl)) rfl rfl <| mvq rfl rfl <| sq (f_methodValD rfl (lt rfl)) rfl rfl <| sq (f_build bu100 rfl rfl (lt rfl)) rfl rfl <| sq (f_mapIns mpk102 rfl rfl rfl rfl rfl rfl (by kernel_rfl)) rfl rfl <| mvq rfl rfl ?_
  refine sq (f_methodValD rfl (lt rfl)) rfl rfl <| sq (f_build bu100 rfl rfl (lt rfl)) rfl rfl <| sq (f_mapIns mpk102 rfl rfl rfl rfl rfl rfl (by kernel_rfl)) rfl rfl <| mvq rfl rfl <| sq (f_methodValD rfl (lt rfl)) rfl rfl <| sq (f_build bu100 rfl rfl (lt rfl)) rfl rfl <| sq (f_mapIns mpk102 rfl rfl rfl rfl rfl rfl (by kernel_rfl)) rfl rfl <| mvq rfl rfl ?_
  refine sq (f_methodValD rfl (lt rfl)) rfl rfl <| sq (f_build bu100 rfl rfl (lt rfl)) rfl rfl <| sq (f_mapIns mpk102 rfl rfl rfl rfl rfl rfl (by kernel_rfl)) rfl rfl <| mvq rfl rfl <| sq (f_methodValD rfl (lt rfl)) rfl rfl <| sq (f_build bu100 rfl rfl (lt rfl)) rfl rfl <| sq (f_mapIns mpk102 rfl rfl rfl rfl rfl rfl (by kernel_rfl)) rfl rfl <| mvq rfl rfl ?_
  refine sq (f_methodValD rfl (lt rfl)) rfl rfl <| sq (f_build bu100 rfl rfl (lt rfl)) rfl rfl <| sq (f_mapIns mpk102 rfl rfl rfl rfl rfl rfl (by kernel_rfl)) rfl rfl <| mvq rfl rfl <| sq (f_methodValD rfl (lt rfl)) rfl rfl <| sq (f_build bu100 rfl rfl (lt rfl)) rfl rfl <| sq (f_mapIns mpk102 rfl rfl rfl rfl rfl rfl (by kernel_rfl)) rfl rfl <| mvq rfl rfl ?_
  refine asq rfl rfl <| nxq <| rtq ?_
  exact hits_doneM (.inl rfl) rfl rfl rfl rfl rfl
set_option maxHeartbeats 16000000 in
set_option maxHeartbeats 4000000 in
theorem decl_c {L : List Wd} {i : Nat} (hL : L.length ≤ 65536) (hi : i ≤ L.length) (hS : Small L) (hW : Wide L) (f : Nat) : CallsX Tryz.prog Lw pvN 17 [LDw L, .sc (.int .i64 (i : Int))] (fun b => []) (ocOf (LDw L) (dcD) ((declP f).run wEnd L i)) := by
  refine callsX_of (m := 0) Tryz.func17 rfl Tryz.ntmps17 (fun _ => rfl) rfl rfl fun hne w0 S0 b stab => ?_
  obtain ⟨o, hO⟩ : ∃ o, o = ocOf (LDw L) (dcD) ((declP f).run wEnd L i) := ⟨_, rfl⟩
  rw [← hO] at hne ⊢
  change o = ocOf (LDw L) dcD (((mustP (decide ((wordAt wEnd L i).k = 1) && (declOf (wordAt wEnd L i).s).isSome)).bind fun _ => onP f (wordAt wEnd L i).ln ((declOf (wordAt wEnd L i).s).getD 0)).run wEnd L i) at hO
  have h3 := look_decl b (wordAt wEnd L i).s
  refine sqq <| rgq <| sq (f_alloc zc56 (lt rfl)) rfl rfl <| nxq <| sqq <| rgq <| mvq rfl rfl <| sq_callB en33 rfl rfl (next_c hL hi) ⟨rfl, rfl, trivial⟩ rfl rfl rfl rfl (lt rfl) ?_
  refine sq (f_alloc zc37 (lt rfl)) rfl rfl <| soq kd37 rfl rfl rfl rfl rfl <| nxq <| sqq ?_
  rcases h2 : declOf (wordAt wEnd L i).s with _ | k
  · rw [h2] at h3
    rw [h2, Option.isSome_none, Bool.and_false] at hO
    refine hits_cellD 2 2 (q' := .list 2 []) rfl nil_list <| hits_cellD 2 7 (q' := .list 6 []) rfl nil_list <| hits_cellD 2 8 (q' := .list 11 []) rfl nil_list <| hits_cellD 2 11 (q' := .list 3 []) rfl nil_list <| hits_cellD 2 12 (q' := .list 9 []) rfl nil_list <| hits_cellD 2 13 (q' := .list 1 []) rfl nil_list <| hits_drawn mixed <| dq (f_move rfl (lt rfl)) rfl rfl ?_
    refine dq (f_callMP en34 rfl (decls_c b) rfl rfl (lt rfl)) rfl rfl <| dq (f_fieldAddr rfl kf37_1 rfl (lt rfl)) rfl rfl <| dq (f_load kd9 rfl rfl (lt rfl)) rfl rfl <| dq (f_lookup mpk102 rfl rfl rfl h3.1 h3.2 (lt rfl)) rfl rfl <| dq (f_move rfl (lt rfl)) rfl rfl <| dq (f_extract rfl rfl (lt rfl)) rfl rfl <| dq (f_extract rfl rfl (lt rfl)) rfl rfl <| dq (f_alloc zc100 (lt rfl)) rfl rfl ?_
    refine dq (f_store kd100 rfl rfl rfl rfl rfl) rfl rfl <| dq (f_assign rfl (lt rfl)) rfl rfl <| dq_nil rfl <| toq <| sqq <| rgq <| mvq rfl rfl <| mvq rfl rfl ?_
    refine mvq rfl rfl <| noq rfl rfl rfl rfl rfl rfl rfl <| noq rfl rfl rfl rfl rfl rfl rfl <| noq rfl rfl rfl rfl rfl rfl rfl <| pkq rfl rfl rfl ?_
    refine sq_pr hO hne (must_c hL hi false) rfl en35 rfl rfl rfl rfl ⟨rfl, rfl, trivial⟩ rfl rfl (lt rfl) (fun _ _ hd h => And.intro hd (h)) (fun q j hq hO2 => ?_)
    replace hO := hO2
    clear hO2
    exact absurd (must_ok hq).1 Bool.false_ne_true
  · rw [h2] at h3
    rw [h2, Option.isSome_some, Bool.and_true] at hO
    change o = ocOf (LDw L) dcD (((mustP (decide ((wordAt wEnd L i).k = 1))).bind fun _ => onP f (wordAt wEnd L i).ln k).run wEnd L i) at hO
    have hkk := decl_kind h2
    by_cases hk : (wordAt wEnd L i).k = 1
    · rw [decide_eq_true hk] at hO
      have hi1 : i + 1 ≤ L.length := word_in (by rw [hk]; decide)
      refine hits_cellD 2 2 (q' := .list 2 []) rfl nil_list <| hits_cellD 2 7 (q' := .list 6 []) rfl nil_list <| hits_cellD 2 8 (q' := .list 11 []) rfl nil_list <| hits_cellD 2 11 (q' := .list 3 []) rfl nil_list <| hits_cellD 2 12 (q' := .list 9 []) rfl nil_list <| hits_cellD 2 13 (q' := .list 1 []) rfl nil_list <| hits_drawn mixed <| dq (f_move rfl (lt rfl)) rfl rfl ?_
      refine dq (f_callMP en34 rfl (decls_c b) rfl rfl (lt rfl)) rfl rfl <| dq (f_fieldAddr rfl kf37_1 rfl (lt rfl)) rfl rfl <| dq (f_load kd9 rfl rfl (lt rfl)) rfl rfl <| dq (f_lookup mpk102 rfl rfl rfl h3.1 h3.2 (lt rfl)) rfl rfl <| dq (f_move rfl (lt rfl)) rfl rfl <| dq (f_extract rfl rfl (lt rfl)) rfl rfl <| dq (f_extract rfl rfl (lt rfl)) rfl rfl <| dq (f_alloc zc100 (lt rfl)) rfl rfl ?_
      refine dq (f_store kd100 rfl rfl rfl rfl rfl) rfl rfl <| dq (f_assign rfl (lt rfl)) rfl rfl <| dq_nil rfl <| toq <| sqq <| rgq <| mvq rfl rfl <| mvq rfl rfl ?_
      refine mvq rfl rfl <| sq_yes (f_fieldAddr rfl kf37_0 rfl (lt rfl)) rfl rfl rfl rfl (lt rfl) <| sq_yes (f_load kd32 rfl rfl (lt rfl)) rfl rfl rfl rfl (lt rfl) <| sq_yes (f_bin rfl rfl (bT (beq_iff_eq.mpr (by rw [hk]; rfl))) (lt rfl)) rfl rfl rfl rfl (lt rfl) ?_
      refine pkq rfl rfl rfl ?_
      refine sq_pr hO hne (must_c hL hi true) rfl en35 rfl rfl rfl rfl ⟨rfl, rfl, trivial⟩ rfl rfl (lt rfl) (fun _ _ hd h => And.intro hd (h)) (fun q j hq hO2 => ?_)
      replace hO := hO2
      clear hO2
      obtain ⟨_, _, rfl⟩ := must_ok hq
      refine nxq <| sqq ?_
      obtain rfl | rfl | rfl | rfl | rfl | rfl | rfl | rfl | rfl | rfl : k = 1 ∨ k = 2 ∨ k = 3 ∨ k = 4 ∨ k = 5 ∨ k = 6 ∨ k = 7 ∨ k = 8 ∨ k = 9 ∨ k = 10 := by omega
      · rw [onP] at hO
        refine hits_drawn mixed <| dq (f_fieldAddr rfl kf100_0 rfl (lt rfl)) rfl rfl <| dq (f_load kd48 rfl rfl (lt rfl)) rfl rfl <| dq (f_fieldAddr rfl kf37_3 rfl (lt rfl)) rfl rfl <| dq (f_load kd3 rfl rfl (lt rfl)) rfl rfl <| dq (f_fieldAddr rfl kf56_0 rfl (lt rfl)) rfl rfl <| dq (f_store kd48 rfl rfl rfl rfl rfl) rfl rfl <| dq (f_fieldAddr rfl kf56_14 rfl (lt rfl)) rfl rfl ?_
        refine dq (f_store kd3 rfl rfl rfl rfl rfl) rfl rfl <| dq_nil rfl <| toq <| sqq <| rgq <| faq rfl kf100_1 rfl rfl <| ldq kd98 rfl rfl rfl <| hits_cellD 2 9 (q' := .list 1 []) rfl nil_list ?_
        refine hits_to [(.slot 0, some (.ptr 1000000 0)), (.box 1000000, some (.ptr 1000000 0)), (.cell 1000000 0, some (.d (LDw L))), (.cell 1000000 1, some (.d (.sc (.int .i64 ((i + 1 : Nat) : Int))))), (.slot 2, some (.ptr 2 0)), (.box 2, some (.ptr 2 0)), (.cell 2 0, some (.d (.sc (.int .u8 ((1 : Nat) : Int))))), (.cell 2 1, some (.d (txD []))), (.cell 2 2, some (.d (.list 2 []))), (.cell 2 3, some (.d (nD 0))), (.cell 2 4, some (.d (nD 0))), (.cell 2 5, some (.d (nD 0))), (.cell 2 6, some (.d (nD 0))), (.cell 2 7, some (.d (.list 6 []))), (.cell 2 8, some (.d (.list 11 []))), (.cell 2 9, some (.d (.list 1 []))), (.cell 2 10, some (.d (txD []))), (.cell 2 11, some (.d (.list 3 []))), (.cell 2 12, some (.d (.list 9 []))), (.cell 2 13, some (.d (.list 1 []))), (.cell 2 14, some (.d (nD (wordAt wEnd L i).ln))), (.slot 31, some (.d (.sc (mvV b 76))))] ⟨rfl, rfl, rfl, rfl, rfl, rfl, rfl, rfl, rfl, rfl, rfl, rfl, rfl, rfl, rfl, rfl, rfl, rfl, rfl, rfl, rfl, rfl, trivial⟩ rfl <| sq_inlineV en76 Tryz.func76 rfl Tryz.ntmps76 rfl rfl rfl rfl rfl rfl fun a8 ha8 hd8 => ?_
        refine sqq <| rgq <| mvq rfl rfl <| mvq rfl rfl ?_
        refine sq_pr hO hne (name_c hL hi1) rfl en121 rfl rfl rfl rfl ⟨rfl, rfl, trivial⟩ rfl rfl (lt rfl) (fun _ _ hd h => And.intro hd ((Or.inr ⟨_, rfl, And.intro hd8 h⟩))) (fun s k1 e1 hO2 => ?_)
        replace hO := hO2
        clear hO2
        have hk1 := (eager_name e1 hi1).2
        rw [fields_bind] at hO
        refine sq (f_nil rfl rfl (lt rfl)) rfl rfl <| faq rfl kf56_1 rfl rfl <| soq kd9 rfl rfl rfl rfl rfl <| nxq <| rgq <| mvq rfl rfl <| mvq rfl rfl <| sq_inline en77 Tryz.func77 rfl Tryz.ntmps77 rfl rfl rfl fun a9 ha9 hd9 => ?_
        refine sqq <| rgq <| mvq rfl rfl ?_
        refine sq_pr hO hne (need_c (l := [123]) (ts := [[123]]) hL hk1 (by decide) (fields_g (l := [123]) (ts := [[123]]) (by decide +kernel) (by decide +kernel) (by decide +kernel))) rfl en122 rfl rfl rfl rfl ⟨rfl, rfl, trivial⟩ rfl rfl (lt rfl) (fun _ _ hd h => And.intro hd ((Or.inr ⟨_, rfl, And.intro hd9 (Or.inr ⟨_, rfl, And.intro hd8 h⟩)⟩))) (fun uk8 k8 e8 hO2 => ?_)
        replace hO := hO2
        clear hO2
        have hk8 := (tame_need _ e8 hk1).2
        refine nxq <| rgq <| mvq rfl rfl <| mvq rfl rfl <| mvq rfl rfl <| mvq rfl rfl <| sq (f_methodVal rfl rfl rfl (lt rfl)) rfl rfl <| hits_dataOf 8 rfl rfl rfl ?_
        refine sq (f_call en124 rfl (endedf_c b) (lt rfl)) rfl rfl ?_
        refine sq_pr hO hne (eachf_c hL hk8 eager_typed (fun {i} hi => typed_c hL hi hS) f) rfl en123 rfl rfl rfl rfl ⟨rfl, rfl, trivial⟩ rfl rfl (lt rfl) (fun _ _ hd h => And.intro hd ((Or.inr ⟨_, rfl, And.intro hd9 (Or.inr ⟨_, rfl, And.intro hd8 h⟩)⟩))) (fun l k2 e2 hO2 => ?_)
        replace hO := hO2
        clear hO2
        have hk2 := (tame_each (tame_ended eager_typed) f [] e2 hk8).2
        refine sq (f_nil rfl rfl (lt rfl)) rfl rfl <| faq rfl kf56_2 rfl rfl <| soq kd49 rfl rfl rfl rfl rfl <| nlq <| hits_back (.inr rfl) ha9 hd9 rfl rfl (lt rfl) rfl <| nlq <| hits_back (.inr rfl) ha8 hd8 rfl rfl (lt rfl) rfl <| nxq ?_
        refine sqq <| rgq <| ldq kd56 rfl rfl rfl <| soq kd56 rfl rfl rfl rfl rfl <| nxq <| rtq ?_
        have hO' : o = .ret [LDw L, .sc (.int .i64 (k2 : Int))] (.agg [.sc (.int .u8 ((1 : Nat) : Int)), txD s, .list 2 (l.map fdD), nD 0, nD 0, nD 0, nD 0, .list 6 [], .list 11 [], .list 1 [], txD [], .list 3 [], .list 9 [], .list 1 [], nD (wordAt wEnd L i).ln]) := by rw [hO]; rfl
        exact hits_doneX hO' (.inl rfl) rfl rfl rfl rfl rfl ⟨rfl, rfl, trivial⟩ rfl
      · change o = ocOf (LDw L) dcD (((fieldsP f).bind fun l => .ret { dc0 2 (wordAt wEnd L i).ln with fields := l }).run wEnd L (i + 1)) at hO
        rw [fields_bind] at hO
        refine hits_drawn mixed <| dq (f_fieldAddr rfl kf100_0 rfl (lt rfl)) rfl rfl <| dq (f_load kd48 rfl rfl (lt rfl)) rfl rfl <| dq (f_fieldAddr rfl kf37_3 rfl (lt rfl)) rfl rfl <| dq (f_load kd3 rfl rfl (lt rfl)) rfl rfl <| dq (f_fieldAddr rfl kf56_0 rfl (lt rfl)) rfl rfl <| dq (f_store kd48 rfl rfl rfl rfl rfl) rfl rfl <| dq (f_fieldAddr rfl kf56_14 rfl (lt rfl)) rfl rfl ?_
        refine dq (f_store kd3 rfl rfl rfl rfl rfl) rfl rfl <| dq_nil rfl <| toq <| sqq <| rgq <| faq rfl kf100_1 rfl rfl <| ldq kd98 rfl rfl rfl <| hits_cellD 2 9 (q' := .list 1 []) rfl nil_list ?_
        refine hits_to [(.slot 0, some (.ptr 1000000 0)), (.box 1000000, some (.ptr 1000000 0)), (.cell 1000000 0, some (.d (LDw L))), (.cell 1000000 1, some (.d (.sc (.int .i64 ((i + 1 : Nat) : Int))))), (.slot 2, some (.ptr 2 0)), (.box 2, some (.ptr 2 0)), (.cell 2 0, some (.d (.sc (.int .u8 ((2 : Nat) : Int))))), (.cell 2 1, some (.d (txD []))), (.cell 2 2, some (.d (.list 2 []))), (.cell 2 3, some (.d (nD 0))), (.cell 2 4, some (.d (nD 0))), (.cell 2 5, some (.d (nD 0))), (.cell 2 6, some (.d (nD 0))), (.cell 2 7, some (.d (.list 6 []))), (.cell 2 8, some (.d (.list 11 []))), (.cell 2 9, some (.d (.list 1 []))), (.cell 2 10, some (.d (txD []))), (.cell 2 11, some (.d (.list 3 []))), (.cell 2 12, some (.d (.list 9 []))), (.cell 2 13, some (.d (.list 1 []))), (.cell 2 14, some (.d (nD (wordAt wEnd L i).ln))), (.slot 31, some (.d (.sc (mvV b 77))))] ⟨rfl, rfl, rfl, rfl, rfl, rfl, rfl, rfl, rfl, rfl, rfl, rfl, rfl, rfl, rfl, rfl, rfl, rfl, rfl, rfl, rfl, rfl, trivial⟩ rfl <| sq_inlineV en77 Tryz.func77 rfl Tryz.ntmps77 rfl rfl rfl rfl rfl rfl fun a10 ha10 hd10 => ?_
        refine sqq <| rgq <| mvq rfl rfl ?_
        refine sq_pr hO hne (need_c (l := [123]) (ts := [[123]]) hL hi1 (by decide) (fields_g (l := [123]) (ts := [[123]]) (by decide +kernel) (by decide +kernel) (by decide +kernel))) rfl en122 rfl rfl rfl rfl ⟨rfl, rfl, trivial⟩ rfl rfl (lt rfl) (fun _ _ hd h => And.intro hd ((Or.inr ⟨_, rfl, And.intro hd10 h⟩))) (fun uk8 k8 e8 hO2 => ?_)
        replace hO := hO2
        clear hO2
        have hk8 := (tame_need _ e8 hi1).2
        refine nxq <| rgq <| mvq rfl rfl <| mvq rfl rfl <| mvq rfl rfl <| mvq rfl rfl <| sq (f_methodVal rfl rfl rfl (lt rfl)) rfl rfl <| hits_dataOf 8 rfl rfl rfl ?_
        refine sq (f_call en124 rfl (endedf_c b) (lt rfl)) rfl rfl ?_
        refine sq_pr hO hne (eachf_c hL hk8 eager_typed (fun {i} hi => typed_c hL hi hS) f) rfl en123 rfl rfl rfl rfl ⟨rfl, rfl, trivial⟩ rfl rfl (lt rfl) (fun _ _ hd h => And.intro hd ((Or.inr ⟨_, rfl, And.intro hd10 h⟩))) (fun l k2 e2 hO2 => ?_)
        replace hO := hO2
        clear hO2
        have hk2 := (tame_each (tame_ended eager_typed) f [] e2 hk8).2
        refine sq (f_nil rfl rfl (lt rfl)) rfl rfl <| faq rfl kf56_2 rfl rfl <| soq kd49 rfl rfl rfl rfl rfl <| nlq <| hits_back (.inr rfl) ha10 hd10 rfl rfl (lt rfl) rfl <| nxq <| sqq <| rgq ?_
        refine ldq kd56 rfl rfl rfl <| soq kd56 rfl rfl rfl rfl rfl <| nxq <| rtq ?_
        have hO' : o = .ret [LDw L, .sc (.int .i64 (k2 : Int))] (.agg [.sc (.int .u8 ((2 : Nat) : Int)), txD [], .list 2 (l.map fdD), nD 0, nD 0, nD 0, nD 0, .list 6 [], .list 11 [], .list 1 [], txD [], .list 3 [], .list 9 [], .list 1 [], nD (wordAt wEnd L i).ln]) := by rw [hO]; rfl
        exact hits_doneX hO' (.inl rfl) rfl rfl rfl rfl rfl ⟨rfl, rfl, trivial⟩ rfl
      · rw [onP] at hO
        refine hits_drawn mixed <| dq (f_fieldAddr rfl kf100_0 rfl (lt rfl)) rfl rfl <| dq (f_load kd48 rfl rfl (lt rfl)) rfl rfl <| dq (f_fieldAddr rfl kf37_3 rfl (lt rfl)) rfl rfl <| dq (f_load kd3 rfl rfl (lt rfl)) rfl rfl <| dq (f_fieldAddr rfl kf56_0 rfl (lt rfl)) rfl rfl <| dq (f_store kd48 rfl rfl rfl rfl rfl) rfl rfl <| dq (f_fieldAddr rfl kf56_14 rfl (lt rfl)) rfl rfl ?_
        refine dq (f_store kd3 rfl rfl rfl rfl rfl) rfl rfl <| dq_nil rfl <| toq <| sqq <| rgq <| faq rfl kf100_1 rfl rfl <| ldq kd98 rfl rfl rfl <| hits_cellD 2 9 (q' := .list 1 []) rfl nil_list ?_
        refine hits_to [(.slot 0, some (.ptr 1000000 0)), (.box 1000000, some (.ptr 1000000 0)), (.cell 1000000 0, some (.d (LDw L))), (.cell 1000000 1, some (.d (.sc (.int .i64 ((i + 1 : Nat) : Int))))), (.slot 2, some (.ptr 2 0)), (.box 2, some (.ptr 2 0)), (.cell 2 0, some (.d (.sc (.int .u8 ((3 : Nat) : Int))))), (.cell 2 1, some (.d (txD []))), (.cell 2 2, some (.d (.list 2 []))), (.cell 2 3, some (.d (nD 0))), (.cell 2 4, some (.d (nD 0))), (.cell 2 5, some (.d (nD 0))), (.cell 2 6, some (.d (nD 0))), (.cell 2 7, some (.d (.list 6 []))), (.cell 2 8, some (.d (.list 11 []))), (.cell 2 9, some (.d (.list 1 []))), (.cell 2 10, some (.d (txD []))), (.cell 2 11, some (.d (.list 3 []))), (.cell 2 12, some (.d (.list 9 []))), (.cell 2 13, some (.d (.list 1 []))), (.cell 2 14, some (.d (nD (wordAt wEnd L i).ln))), (.slot 31, some (.d (.sc (mvV b 78))))] ⟨rfl, rfl, rfl, rfl, rfl, rfl, rfl, rfl, rfl, rfl, rfl, rfl, rfl, rfl, rfl, rfl, rfl, rfl, rfl, rfl, rfl, rfl, trivial⟩ rfl <| sq_inlineV en78 Tryz.func78 rfl Tryz.ntmps78 rfl rfl rfl rfl rfl rfl fun a11 ha11 hd11 => ?_
        refine sqq <| rgq <| mvq rfl rfl <| mvq rfl rfl ?_
        refine sq_pr hO hne (name_c hL hi1) rfl en121 rfl rfl rfl rfl ⟨rfl, rfl, trivial⟩ rfl rfl (lt rfl) (fun _ _ hd h => And.intro hd ((Or.inr ⟨_, rfl, And.intro hd11 h⟩))) (fun s k1 e1 hO2 => ?_)
        replace hO := hO2
        clear hO2
        have hk1 := (eager_name e1 hi1).2
        refine sq (f_nil rfl rfl (lt rfl)) rfl rfl <| faq rfl kf56_1 rfl rfl <| soq kd9 rfl rfl rfl rfl rfl <| nxq <| sqq <| rgq <| mvq rfl rfl <| mvq rfl rfl ?_
        refine sq_pr hO hne (whole_c hL hk1 hS) rfl en126 rfl rfl rfl rfl ⟨rfl, rfl, trivial⟩ rfl rfl (lt rfl) (fun _ _ hd h => And.intro hd ((Or.inr ⟨_, rfl, And.intro hd11 h⟩))) (fun w k2 e2 hO2 => ?_)
        replace hO := hO2
        clear hO2
        have hk2 := (eager_whole e2 hk1).2
        refine sq (f_nil rfl rfl (lt rfl)) rfl rfl <| faq rfl kf56_3 rfl rfl <| soq kd3 rfl rfl rfl rfl rfl <| nxq <| sqq <| rgq <| mvq rfl rfl <| mvq rfl rfl ?_
        refine sq_pr hO hne (whole_c hL hk2 hS) rfl en126 rfl rfl rfl rfl ⟨rfl, rfl, trivial⟩ rfl rfl (lt rfl) (fun _ _ hd h => And.intro hd ((Or.inr ⟨_, rfl, And.intro hd11 h⟩))) (fun n k3 e3 hO2 => ?_)
        replace hO := hO2
        clear hO2
        have hk3 := (eager_whole e3 hk2).2
        refine sq (f_nil rfl rfl (lt rfl)) rfl rfl <| faq rfl kf56_4 rfl rfl <| soq kd3 rfl rfl rfl rfl rfl <| nxq <| rgq <| mvq rfl rfl ?_
        refine sq_pr hO hne (need_c (l := [59]) (ts := [[59]]) hL hk3 (by decide) (fields_g (l := [59]) (ts := [[59]]) (by decide +kernel) (by decide +kernel) (by decide +kernel))) rfl en122 rfl rfl rfl rfl ⟨rfl, rfl, trivial⟩ rfl rfl (lt rfl) (fun _ _ hd h => And.intro hd ((Or.inr ⟨_, rfl, And.intro hd11 h⟩))) (fun uk4 k4 e4 hO2 => ?_)
        replace hO := hO2
        clear hO2
        have hk4 := (tame_need _ e4 hk3).2
        refine nlq <| hits_back (.inr rfl) ha11 hd11 rfl rfl (lt rfl) rfl <| nxq <| sqq <| rgq <| ldq kd56 rfl rfl rfl <| soq kd56 rfl rfl rfl rfl rfl <| nxq ?_
        refine rtq ?_
        have hO' : o = .ret [LDw L, .sc (.int .i64 (k4 : Int))] (.agg [.sc (.int .u8 ((3 : Nat) : Int)), txD s, .list 2 [], nD w, nD n, nD 0, nD 0, .list 6 [], .list 11 [], .list 1 [], txD [], .list 3 [], .list 9 [], .list 1 [], nD (wordAt wEnd L i).ln]) := by rw [hO]; rfl
        exact hits_doneX hO' (.inl rfl) rfl rfl rfl rfl rfl ⟨rfl, rfl, trivial⟩ rfl
      · rw [onP] at hO
        refine hits_drawn mixed <| dq (f_fieldAddr rfl kf100_0 rfl (lt rfl)) rfl rfl <| dq (f_load kd48 rfl rfl (lt rfl)) rfl rfl <| dq (f_fieldAddr rfl kf37_3 rfl (lt rfl)) rfl rfl <| dq (f_load kd3 rfl rfl (lt rfl)) rfl rfl <| dq (f_fieldAddr rfl kf56_0 rfl (lt rfl)) rfl rfl <| dq (f_store kd48 rfl rfl rfl rfl rfl) rfl rfl <| dq (f_fieldAddr rfl kf56_14 rfl (lt rfl)) rfl rfl ?_
        refine dq (f_store kd3 rfl rfl rfl rfl rfl) rfl rfl <| dq_nil rfl <| toq <| sqq <| rgq <| faq rfl kf100_1 rfl rfl <| ldq kd98 rfl rfl rfl <| hits_cellD 2 9 (q' := .list 1 []) rfl nil_list ?_
        refine hits_to [(.slot 0, some (.ptr 1000000 0)), (.box 1000000, some (.ptr 1000000 0)), (.cell 1000000 0, some (.d (LDw L))), (.cell 1000000 1, some (.d (.sc (.int .i64 ((i + 1 : Nat) : Int))))), (.slot 2, some (.ptr 2 0)), (.box 2, some (.ptr 2 0)), (.cell 2 0, some (.d (.sc (.int .u8 ((4 : Nat) : Int))))), (.cell 2 1, some (.d (txD []))), (.cell 2 2, some (.d (.list 2 []))), (.cell 2 3, some (.d (nD 0))), (.cell 2 4, some (.d (nD 0))), (.cell 2 5, some (.d (nD 0))), (.cell 2 6, some (.d (nD 0))), (.cell 2 7, some (.d (.list 6 []))), (.cell 2 8, some (.d (.list 11 []))), (.cell 2 9, some (.d (.list 1 []))), (.cell 2 10, some (.d (txD []))), (.cell 2 11, some (.d (.list 3 []))), (.cell 2 12, some (.d (.list 9 []))), (.cell 2 13, some (.d (.list 1 []))), (.cell 2 14, some (.d (nD (wordAt wEnd L i).ln))), (.slot 31, some (.d (.sc (mvV b 79))))] ⟨rfl, rfl, rfl, rfl, rfl, rfl, rfl, rfl, rfl, rfl, rfl, rfl, rfl, rfl, rfl, rfl, rfl, rfl, rfl, rfl, rfl, rfl, trivial⟩ rfl <| sq_inlineV en79 Tryz.func79 rfl Tryz.ntmps79 rfl rfl rfl rfl rfl rfl fun a12 ha12 hd12 => ?_
        refine sqq <| rgq <| mvq rfl rfl <| mvq rfl rfl ?_
        refine sq_pr hO hne (name_c hL hi1) rfl en121 rfl rfl rfl rfl ⟨rfl, rfl, trivial⟩ rfl rfl (lt rfl) (fun _ _ hd h => And.intro hd ((Or.inr ⟨_, rfl, And.intro hd12 h⟩))) (fun s k1 e1 hO2 => ?_)
        replace hO := hO2
        clear hO2
        have hk1 := (eager_name e1 hi1).2
        refine sq (f_nil rfl rfl (lt rfl)) rfl rfl <| faq rfl kf56_1 rfl rfl <| soq kd9 rfl rfl rfl rfl rfl <| nxq <| sqq <| rgq <| mvq rfl rfl <| mvq rfl rfl ?_
        refine sq_pr hO hne (whole_c hL hk1 hS) rfl en126 rfl rfl rfl rfl ⟨rfl, rfl, trivial⟩ rfl rfl (lt rfl) (fun _ _ hd h => And.intro hd ((Or.inr ⟨_, rfl, And.intro hd12 h⟩))) (fun n k2 e2 hO2 => ?_)
        replace hO := hO2
        clear hO2
        have hk2 := (eager_whole e2 hk1).2
        refine sq (f_nil rfl rfl (lt rfl)) rfl rfl <| faq rfl kf56_4 rfl rfl <| soq kd3 rfl rfl rfl rfl rfl <| nxq <| rgq <| mvq rfl rfl ?_
        refine sq_pr hO hne (need_c (l := [59]) (ts := [[59]]) hL hk2 (by decide) (fields_g (l := [59]) (ts := [[59]]) (by decide +kernel) (by decide +kernel) (by decide +kernel))) rfl en122 rfl rfl rfl rfl ⟨rfl, rfl, trivial⟩ rfl rfl (lt rfl) (fun _ _ hd h => And.intro hd ((Or.inr ⟨_, rfl, And.intro hd12 h⟩))) (fun uk3 k3 e3 hO2 => ?_)
        replace hO := hO2
        clear hO2
        have hk3 := (tame_need _ e3 hk2).2
        refine nlq <| hits_back (.inr rfl) ha12 hd12 rfl rfl (lt rfl) rfl <| nxq <| sqq <| rgq <| ldq kd56 rfl rfl rfl <| soq kd56 rfl rfl rfl rfl rfl <| nxq ?_
        refine rtq ?_
        have hO' : o = .ret [LDw L, .sc (.int .i64 (k3 : Int))] (.agg [.sc (.int .u8 ((4 : Nat) : Int)), txD s, .list 2 [], nD 0, nD n, nD 0, nD 0, .list 6 [], .list 11 [], .list 1 [], txD [], .list 3 [], .list 9 [], .list 1 [], nD (wordAt wEnd L i).ln]) := by rw [hO]; rfl
        exact hits_doneX hO' (.inl rfl) rfl rfl rfl rfl rfl ⟨rfl, rfl, trivial⟩ rfl
      · rw [onP] at hO
        refine hits_drawn mixed <| dq (f_fieldAddr rfl kf100_0 rfl (lt rfl)) rfl rfl <| dq (f_load kd48 rfl rfl (lt rfl)) rfl rfl <| dq (f_fieldAddr rfl kf37_3 rfl (lt rfl)) rfl rfl <| dq (f_load kd3 rfl rfl (lt rfl)) rfl rfl <| dq (f_fieldAddr rfl kf56_0 rfl (lt rfl)) rfl rfl <| dq (f_store kd48 rfl rfl rfl rfl rfl) rfl rfl <| dq (f_fieldAddr rfl kf56_14 rfl (lt rfl)) rfl rfl ?_
        refine dq (f_store kd3 rfl rfl rfl rfl rfl) rfl rfl <| dq_nil rfl <| toq <| sqq <| rgq <| faq rfl kf100_1 rfl rfl <| ldq kd98 rfl rfl rfl <| hits_cellD 2 9 (q' := .list 1 []) rfl nil_list ?_
        refine hits_to [(.slot 0, some (.ptr 1000000 0)), (.box 1000000, some (.ptr 1000000 0)), (.cell 1000000 0, some (.d (LDw L))), (.cell 1000000 1, some (.d (.sc (.int .i64 ((i + 1 : Nat) : Int))))), (.slot 2, some (.ptr 2 0)), (.box 2, some (.ptr 2 0)), (.cell 2 0, some (.d (.sc (.int .u8 ((5 : Nat) : Int))))), (.cell 2 1, some (.d (txD []))), (.cell 2 2, some (.d (.list 2 []))), (.cell 2 3, some (.d (nD 0))), (.cell 2 4, some (.d (nD 0))), (.cell 2 5, some (.d (nD 0))), (.cell 2 6, some (.d (nD 0))), (.cell 2 7, some (.d (.list 6 []))), (.cell 2 8, some (.d (.list 11 []))), (.cell 2 9, some (.d (.list 1 []))), (.cell 2 10, some (.d (txD []))), (.cell 2 11, some (.d (.list 3 []))), (.cell 2 12, some (.d (.list 9 []))), (.cell 2 13, some (.d (.list 1 []))), (.cell 2 14, some (.d (nD (wordAt wEnd L i).ln))), (.slot 31, some (.d (.sc (mvV b 80))))] ⟨rfl, rfl, rfl, rfl, rfl, rfl, rfl, rfl, rfl, rfl, rfl, rfl, rfl, rfl, rfl, rfl, rfl, rfl, rfl, rfl, rfl, rfl, trivial⟩ rfl <| sq_inlineV en80 Tryz.func80 rfl Tryz.ntmps80 rfl rfl rfl rfl rfl rfl fun a13 ha13 hd13 => ?_
        refine sqq <| rgq <| mvq rfl rfl <| mvq rfl rfl ?_
        refine sq_pr hO hne (name_c hL hi1) rfl en121 rfl rfl rfl rfl ⟨rfl, rfl, trivial⟩ rfl rfl (lt rfl) (fun _ _ hd h => And.intro hd ((Or.inr ⟨_, rfl, And.intro hd13 h⟩))) (fun s k1 e1 hO2 => ?_)
        replace hO := hO2
        clear hO2
        have hk1 := (eager_name e1 hi1).2
        refine sq (f_nil rfl rfl (lt rfl)) rfl rfl <| faq rfl kf56_1 rfl rfl <| soq kd9 rfl rfl rfl rfl rfl <| nxq <| sqq <| rgq <| mvq rfl rfl <| mvq rfl rfl ?_
        refine sq_pr hO hne (whole_c hL hk1 hS) rfl en126 rfl rfl rfl rfl ⟨rfl, rfl, trivial⟩ rfl rfl (lt rfl) (fun _ _ hd h => And.intro hd ((Or.inr ⟨_, rfl, And.intro hd13 h⟩))) (fun n k2 e2 hO2 => ?_)
        replace hO := hO2
        clear hO2
        have hk2 := (eager_whole e2 hk1).2
        refine sq (f_nil rfl rfl (lt rfl)) rfl rfl <| faq rfl kf56_4 rfl rfl <| soq kd3 rfl rfl rfl rfl rfl <| nxq <| sqq <| rgq <| mvq rfl rfl <| mvq rfl rfl ?_
        refine sq_pr hO hne (whole_c hL hk2 hS) rfl en126 rfl rfl rfl rfl ⟨rfl, rfl, trivial⟩ rfl rfl (lt rfl) (fun _ _ hd h => And.intro hd ((Or.inr ⟨_, rfl, And.intro hd13 h⟩))) (fun rt k3 e3 hO2 => ?_)
        replace hO := hO2
        clear hO2
        have hk3 := (eager_whole e3 hk2).2
        refine sq (f_nil rfl rfl (lt rfl)) rfl rfl <| faq rfl kf56_5 rfl rfl <| soq kd3 rfl rfl rfl rfl rfl <| nxq <| sqq <| rgq <| mvq rfl rfl <| mvq rfl rfl ?_
        refine sq_pr hO hne (whole_c hL hk3 hS) rfl en126 rfl rfl rfl rfl ⟨rfl, rfl, trivial⟩ rfl rfl (lt rfl) (fun _ _ hd h => And.intro hd ((Or.inr ⟨_, rfl, And.intro hd13 h⟩))) (fun bu k4 e4 hO2 => ?_)
        replace hO := hO2
        clear hO2
        have hk4 := (eager_whole e4 hk3).2
        refine sq (f_nil rfl rfl (lt rfl)) rfl rfl <| faq rfl kf56_6 rfl rfl <| soq kd3 rfl rfl rfl rfl rfl <| nxq <| rgq <| mvq rfl rfl ?_
        refine sq_pr hO hne (need_c (l := [59]) (ts := [[59]]) hL hk4 (by decide) (fields_g (l := [59]) (ts := [[59]]) (by decide +kernel) (by decide +kernel) (by decide +kernel))) rfl en122 rfl rfl rfl rfl ⟨rfl, rfl, trivial⟩ rfl rfl (lt rfl) (fun _ _ hd h => And.intro hd ((Or.inr ⟨_, rfl, And.intro hd13 h⟩))) (fun uk5 k5 e5 hO2 => ?_)
        replace hO := hO2
        clear hO2
        have hk5 := (tame_need _ e5 hk4).2
        refine nlq <| hits_back (.inr rfl) ha13 hd13 rfl rfl (lt rfl) rfl <| nxq <| sqq <| rgq <| ldq kd56 rfl rfl rfl <| soq kd56 rfl rfl rfl rfl rfl <| nxq ?_
        refine rtq ?_
        have hO' : o = .ret [LDw L, .sc (.int .i64 (k5 : Int))] (.agg [.sc (.int .u8 ((5 : Nat) : Int)), txD s, .list 2 [], nD 0, nD n, nD rt, nD bu, .list 6 [], .list 11 [], .list 1 [], txD [], .list 3 [], .list 9 [], .list 1 [], nD (wordAt wEnd L i).ln]) := by rw [hO]; rfl
        exact hits_doneX hO' (.inl rfl) rfl rfl rfl rfl rfl ⟨rfl, rfl, trivial⟩ rfl
      · rw [onP] at hO
        refine hits_drawn mixed <| dq (f_fieldAddr rfl kf100_0 rfl (lt rfl)) rfl rfl <| dq (f_load kd48 rfl rfl (lt rfl)) rfl rfl <| dq (f_fieldAddr rfl kf37_3 rfl (lt rfl)) rfl rfl <| dq (f_load kd3 rfl rfl (lt rfl)) rfl rfl <| dq (f_fieldAddr rfl kf56_0 rfl (lt rfl)) rfl rfl <| dq (f_store kd48 rfl rfl rfl rfl rfl) rfl rfl <| dq (f_fieldAddr rfl kf56_14 rfl (lt rfl)) rfl rfl ?_
        refine dq (f_store kd3 rfl rfl rfl rfl rfl) rfl rfl <| dq_nil rfl <| toq <| sqq <| rgq <| faq rfl kf100_1 rfl rfl <| ldq kd98 rfl rfl rfl <| hits_cellD 2 9 (q' := .list 1 []) rfl nil_list ?_
        refine hits_to [(.slot 0, some (.ptr 1000000 0)), (.box 1000000, some (.ptr 1000000 0)), (.cell 1000000 0, some (.d (LDw L))), (.cell 1000000 1, some (.d (.sc (.int .i64 ((i + 1 : Nat) : Int))))), (.slot 2, some (.ptr 2 0)), (.box 2, some (.ptr 2 0)), (.cell 2 0, some (.d (.sc (.int .u8 ((6 : Nat) : Int))))), (.cell 2 1, some (.d (txD []))), (.cell 2 2, some (.d (.list 2 []))), (.cell 2 3, some (.d (nD 0))), (.cell 2 4, some (.d (nD 0))), (.cell 2 5, some (.d (nD 0))), (.cell 2 6, some (.d (nD 0))), (.cell 2 7, some (.d (.list 6 []))), (.cell 2 8, some (.d (.list 11 []))), (.cell 2 9, some (.d (.list 1 []))), (.cell 2 10, some (.d (txD []))), (.cell 2 11, some (.d (.list 3 []))), (.cell 2 12, some (.d (.list 9 []))), (.cell 2 13, some (.d (.list 1 []))), (.cell 2 14, some (.d (nD (wordAt wEnd L i).ln))), (.slot 31, some (.d (.sc (mvV b 81))))] ⟨rfl, rfl, rfl, rfl, rfl, rfl, rfl, rfl, rfl, rfl, rfl, rfl, rfl, rfl, rfl, rfl, rfl, rfl, rfl, rfl, rfl, rfl, trivial⟩ rfl <| sq_inlineV en81 Tryz.func81 rfl Tryz.ntmps81 rfl rfl rfl rfl rfl rfl fun a14 ha14 hd14 => ?_
        refine sqq <| rgq <| mvq rfl rfl ?_
        refine sq_pr hO hne (need_c (l := [123]) (ts := [[123]]) hL hi1 (by decide) (fields_g (l := [123]) (ts := [[123]]) (by decide +kernel) (by decide +kernel) (by decide +kernel))) rfl en122 rfl rfl rfl rfl ⟨rfl, rfl, trivial⟩ rfl rfl (lt rfl) (fun _ _ hd h => And.intro hd ((Or.inr ⟨_, rfl, And.intro hd14 h⟩))) (fun uk1 k1 e1 hO2 => ?_)
        replace hO := hO2
        clear hO2
        have hk1 := (tame_need _ e1 hi1).2
        refine nxq <| rgq <| mvq rfl rfl <| mvq rfl rfl <| mvq rfl rfl <| sq (f_methodVal rfl rfl rfl (lt rfl)) rfl rfl ?_
        refine sq_pr hO hne (eachst_c hL hk1 (eager_state f) (fun {i} hi => state_c hL hi hS hW f) f) rfl en127 rfl rfl rfl rfl ⟨rfl, rfl, trivial⟩ rfl rfl (lt rfl) (fun _ _ hd h => And.intro hd ((Or.inr ⟨_, rfl, And.intro hd14 h⟩))) (fun l k2 e2 hO2 => ?_)
        replace hO := hO2
        clear hO2
        refine sq (f_nil rfl rfl (lt rfl)) rfl rfl <| faq rfl kf56_7 rfl rfl <| soq kd50 rfl rfl rfl rfl rfl <| nlq <| hits_back (.inr rfl) ha14 hd14 rfl rfl (lt rfl) rfl <| nxq <| sqq <| rgq ?_
        refine ldq kd56 rfl rfl rfl <| soq kd56 rfl rfl rfl rfl rfl <| nxq <| rtq ?_
        have hO' : o = .ret [LDw L, .sc (.int .i64 (k2 : Int))] (.agg [.sc (.int .u8 ((6 : Nat) : Int)), txD [], .list 2 [], nD 0, nD 0, nD 0, nD 0, .list 6 (l.map stD), .list 11 [], .list 1 [], txD [], .list 3 [], .list 9 [], .list 1 [], nD (wordAt wEnd L i).ln]) := by rw [hO]; rfl
        exact hits_doneX hO' (.inl rfl) rfl rfl rfl rfl rfl ⟨rfl, rfl, trivial⟩ rfl
      · rw [onP] at hO
        refine hits_drawn mixed <| dq (f_fieldAddr rfl kf100_0 rfl (lt rfl)) rfl rfl <| dq (f_load kd48 rfl rfl (lt rfl)) rfl rfl <| dq (f_fieldAddr rfl kf37_3 rfl (lt rfl)) rfl rfl <| dq (f_load kd3 rfl rfl (lt rfl)) rfl rfl <| dq (f_fieldAddr rfl kf56_0 rfl (lt rfl)) rfl rfl <| dq (f_store kd48 rfl rfl rfl rfl rfl) rfl rfl <| dq (f_fieldAddr rfl kf56_14 rfl (lt rfl)) rfl rfl ?_
        refine dq (f_store kd3 rfl rfl rfl rfl rfl) rfl rfl <| dq_nil rfl <| toq <| sqq <| rgq <| faq rfl kf100_1 rfl rfl <| ldq kd98 rfl rfl rfl <| hits_cellD 2 9 (q' := .list 1 []) rfl nil_list ?_
        refine hits_to [(.slot 0, some (.ptr 1000000 0)), (.box 1000000, some (.ptr 1000000 0)), (.cell 1000000 0, some (.d (LDw L))), (.cell 1000000 1, some (.d (.sc (.int .i64 ((i + 1 : Nat) : Int))))), (.slot 2, some (.ptr 2 0)), (.box 2, some (.ptr 2 0)), (.cell 2 0, some (.d (.sc (.int .u8 ((7 : Nat) : Int))))), (.cell 2 1, some (.d (txD []))), (.cell 2 2, some (.d (.list 2 []))), (.cell 2 3, some (.d (nD 0))), (.cell 2 4, some (.d (nD 0))), (.cell 2 5, some (.d (nD 0))), (.cell 2 6, some (.d (nD 0))), (.cell 2 7, some (.d (.list 6 []))), (.cell 2 8, some (.d (.list 11 []))), (.cell 2 9, some (.d (.list 1 []))), (.cell 2 10, some (.d (txD []))), (.cell 2 11, some (.d (.list 3 []))), (.cell 2 12, some (.d (.list 9 []))), (.cell 2 13, some (.d (.list 1 []))), (.cell 2 14, some (.d (nD (wordAt wEnd L i).ln))), (.slot 31, some (.d (.sc (mvV b 82))))] ⟨rfl, rfl, rfl, rfl, rfl, rfl, rfl, rfl, rfl, rfl, rfl, rfl, rfl, rfl, rfl, rfl, rfl, rfl, rfl, rfl, rfl, rfl, trivial⟩ rfl <| sq_inlineV en82 Tryz.func82 rfl Tryz.ntmps82 rfl rfl rfl rfl rfl rfl fun a15 ha15 hd15 => ?_
        refine sqq <| rgq <| mvq rfl rfl <| mvq rfl rfl ?_
        refine sq_pr hO hne (name_c hL hi1) rfl en121 rfl rfl rfl rfl ⟨rfl, rfl, trivial⟩ rfl rfl (lt rfl) (fun _ _ hd h => And.intro hd ((Or.inr ⟨_, rfl, And.intro hd15 h⟩))) (fun s k1 e1 hO2 => ?_)
        replace hO := hO2
        clear hO2
        have hk1 := (eager_name e1 hi1).2
        refine sq (f_nil rfl rfl (lt rfl)) rfl rfl <| faq rfl kf56_1 rfl rfl <| soq kd9 rfl rfl rfl rfl rfl <| nxq <| sqq <| rgq <| mvq rfl rfl ?_
        refine sq_pr hO hne (need_c (l := [40]) (ts := [[40]]) hL hk1 (by decide) (fields_g (l := [40]) (ts := [[40]]) (by decide +kernel) (by decide +kernel) (by decide +kernel))) rfl en122 rfl rfl rfl rfl ⟨rfl, rfl, trivial⟩ rfl rfl (lt rfl) (fun _ _ hd h => And.intro hd ((Or.inr ⟨_, rfl, And.intro hd15 h⟩))) (fun uk2 k2 e2 hO2 => ?_)
        replace hO := hO2
        clear hO2
        have hk2 := (tame_need _ e2 hk1).2
        refine nxq <| sqq <| rgq <| mvq rfl rfl <| mvq rfl rfl <| mvq rfl rfl <| sq (f_methodVal rfl rfl rfl (lt rfl)) rfl rfl ?_
        refine sq_pr hO hne (rowf_c hL hk2 hS [41] (fields_g (l := [41]) (ts := [[41]]) (by decide +kernel) (by decide +kernel) (by decide +kernel)) f) rfl en129 rfl rfl rfl rfl ⟨rfl, rfl, trivial⟩ rfl rfl (lt rfl) (fun _ _ hd h => And.intro hd ((Or.inr ⟨_, rfl, And.intro hd15 h⟩))) (fun l k3 e3 hO2 => ?_)
        replace hO := hO2
        clear hO2
        have hk3 := (tame_row eager_typed.tame _ f e3 hk2).2
        refine sq (f_nil rfl rfl (lt rfl)) rfl rfl <| faq rfl kf56_2 rfl rfl <| soq kd49 rfl rfl rfl rfl rfl <| nxq <| rgq <| mvq rfl rfl <| mvq rfl rfl ?_
        refine sq_pr hO hne ((sm_all hL hS f f (Nat.le_refl _)).2 hk3) rfl en130 rfl rfl rfl rfl ⟨rfl, rfl, trivial⟩ rfl rfl (lt rfl) (fun _ _ hd h => And.intro hd ((Or.inr ⟨_, rfl, And.intro hd15 h⟩))) (fun m k4 e4 hO2 => ?_)
        replace hO := hO2
        clear hO2
        have hk4 := (tame_bl _ e4 hk3).2
        refine sq (f_nil rfl rfl (lt rfl)) rfl rfl <| faq rfl kf56_12 rfl rfl <| soq kd54 rfl rfl rfl rfl rfl <| nlq <| hits_back (.inr rfl) ha15 hd15 rfl rfl (lt rfl) rfl <| nxq <| sqq <| rgq ?_
        refine ldq kd56 rfl rfl rfl <| soq kd56 rfl rfl rfl rfl rfl <| nxq <| rtq ?_
        have hO' : o = .ret [LDw L, .sc (.int .i64 (k4 : Int))] (.agg [.sc (.int .u8 ((7 : Nat) : Int)), txD s, .list 2 (l.map fdD), nD 0, nD 0, nD 0, nD 0, .list 6 [], .list 11 [], .list 1 [], txD [], .list 3 [], smLD m, .list 1 [], nD (wordAt wEnd L i).ln]) := by rw [hO]; rfl
        exact hits_doneX hO' (.inl rfl) rfl rfl rfl rfl rfl ⟨rfl, rfl, trivial⟩ rfl
      · rw [onTab_eq] at hO
        refine hits_drawn mixed <| dq (f_fieldAddr rfl kf100_0 rfl (lt rfl)) rfl rfl <| dq (f_load kd48 rfl rfl (lt rfl)) rfl rfl <| dq (f_fieldAddr rfl kf37_3 rfl (lt rfl)) rfl rfl <| dq (f_load kd3 rfl rfl (lt rfl)) rfl rfl <| dq (f_fieldAddr rfl kf56_0 rfl (lt rfl)) rfl rfl <| dq (f_store kd48 rfl rfl rfl rfl rfl) rfl rfl <| dq (f_fieldAddr rfl kf56_14 rfl (lt rfl)) rfl rfl ?_
        refine dq (f_store kd3 rfl rfl rfl rfl rfl) rfl rfl <| dq_nil rfl <| toq <| sqq <| rgq <| faq rfl kf100_1 rfl rfl <| ldq kd98 rfl rfl rfl <| hits_to [(.slot 0, some (.ptr 1000000 0)), (.box 1000000, some (.ptr 1000000 0)), (.cell 1000000 0, some (.d (LDw L))), (.cell 1000000 1, some (.d (.sc (.int .i64 ((i + 1 : Nat) : Int))))), (.slot 2, some (.ptr 2 0)), (.box 2, some (.ptr 2 0)), (.cell 2 0, some (.d (.sc (.int .u8 ((8 : Nat) : Int))))), (.cell 2 1, some (.d (txD []))), (.cell 2 2, some (.d (.list 2 []))), (.cell 2 3, some (.d (nD 0))), (.cell 2 4, some (.d (nD 0))), (.cell 2 5, some (.d (nD 0))), (.cell 2 6, some (.d (nD 0))), (.cell 2 7, some (.d (.list 6 []))), (.cell 2 8, some (.d (.list 11 []))), (.cell 2 9, some (.d (.sc (.slice none 0 0)))), (.cell 2 10, some (.d (txD []))), (.cell 2 11, some (.d (.list 3 []))), (.cell 2 12, some (.d (.list 9 []))), (.cell 2 13, some (.d (.list 1 []))), (.cell 2 14, some (.d (nD (wordAt wEnd L i).ln))), (.slot 31, some (.d (.sc (mvV b 83))))] ⟨rfl, rfl, rfl, rfl, rfl, rfl, rfl, rfl, rfl, rfl, rfl, rfl, rfl, rfl, rfl, rfl, rfl, rfl, rfl, rfl, rfl, rfl, trivial⟩ rfl ?_
        refine sq_inlineV en83 Tryz.func83 rfl Tryz.ntmps83 rfl rfl rfl rfl rfl rfl fun a16 ha16 hd16 => ?_
        refine sqq <| rgq <| mvq rfl rfl <| mvq rfl rfl ?_
        refine sq_pr hO hne (name_c hL hi1) rfl en121 rfl rfl rfl rfl ⟨rfl, rfl, trivial⟩ rfl rfl (lt rfl) (fun _ _ hd h => And.intro hd ((Or.inr ⟨_, rfl, And.intro hd16 h⟩))) (fun s k1 e1 hO2 => ?_)
        replace hO := hO2
        clear hO2
        have hk1 := (eager_name e1 hi1).2
        refine sq (f_nil rfl rfl (lt rfl)) rfl rfl <| faq rfl kf56_1 rfl rfl <| soq kd9 rfl rfl rfl rfl rfl <| nxq <| sqq <| rgq <| mvq rfl rfl ?_
        refine sq_pr hO hne (need_c (l := [123, 32, 107, 101, 121, 32, 123]) (ts := [[123], [107, 101, 121], [123]]) hL hk1 (by decide) (fields_g (l := [123, 32, 107, 101, 121, 32, 123]) (ts := [[123], [107, 101, 121], [123]]) (by decide +kernel) (by decide +kernel) (by decide +kernel))) rfl en122 rfl rfl rfl rfl ⟨rfl, rfl, trivial⟩ rfl rfl (lt rfl) (fun _ _ hd h => And.intro hd ((Or.inr ⟨_, rfl, And.intro hd16 h⟩))) (fun uk2 k2 e2 hO2 => ?_)
        replace hO := hO2
        clear hO2
        have hk2 := (tame_need _ e2 hk1).2
        refine nxq <| sqq <| rgq <| mvq rfl rfl <| mvq rfl rfl <| mvq rfl rfl <| mvq rfl rfl <| sq (f_methodVal rfl rfl rfl (lt rfl)) rfl rfl ?_
        refine hits_dataOf 13 rfl rfl rfl <| sq (f_call en132 rfl (endedk_c b) (lt rfl)) rfl rfl ?_
        refine sq_pr hO hne (eachk_c hL hk2 (eager_key f) (fun {i} hi => pkey_c hL hi hS f) f) rfl en131 rfl rfl rfl rfl ⟨rfl, rfl, trivial⟩ rfl rfl (lt rfl) (fun _ _ hd h => And.intro hd ((Or.inr ⟨_, rfl, And.intro hd16 h⟩))) (fun ks k3 e3 hO2 => ?_)
        replace hO := hO2
        clear hO2
        have hk3 := (tame_each (tame_ended (eager_key f)) f [] e3 hk2).2
        refine sq (f_nil rfl rfl (lt rfl)) rfl rfl <| faq rfl kf56_8 rfl rfl <| soq kd51 rfl rfl rfl rfl rfl <| nxq <| sqq <| rgq <| mvq rfl rfl ?_
        refine sq_pr hO hne (need_c (l := [97, 99, 116, 105, 111, 110, 115]) (ts := [[97, 99, 116, 105, 111, 110, 115]]) hL hk3 (by decide) (fields_g (l := [97, 99, 116, 105, 111, 110, 115]) (ts := [[97, 99, 116, 105, 111, 110, 115]]) (by decide +kernel) (by decide +kernel) (by decide +kernel))) rfl en122 rfl rfl rfl rfl ⟨rfl, rfl, trivial⟩ rfl rfl (lt rfl) (fun _ _ hd h => And.intro hd ((Or.inr ⟨_, rfl, And.intro hd16 h⟩))) (fun uk4 k4 e4 hO2 => ?_)
        replace hO := hO2
        clear hO2
        have hk4 := (tame_need _ e4 hk3).2
        refine nxq <| sqq <| hits_ownC 2 9 201 1 rfl <| hits_drawnT (some (1000000, 2)) rfl mixed <| dq (f_move rfl (lt rfl)) rfl rfl <| dq (f_move rfl (lt rfl)) rfl rfl <| dq (f_nil rfl rfl (lt rfl)) rfl rfl <| dq (f_fieldAddr rfl kf56_9 rfl (lt rfl)) rfl rfl ?_
        refine dq (f_load kd52 rfl rfl (lt rfl)) rfl rfl <| dq (f_move rfl (lt rfl)) rfl rfl ?_
        refine dq_pr (([] : Tx)) hO hne (name_c hL hk4) rfl en121 rfl rfl rfl rfl ⟨rfl, rfl, trivial⟩ rfl (lt rfl) (fun _ _ hd h => And.intro hd ((Or.inr ⟨_, rfl, And.intro hd16 h⟩))) (fun a k5 X hX => ?_)
        refine dq (f_buildSlice sk52 rfl rfl rfl rfl rfl rfl (by decide) (by decide) (lt rfl)) rfl rfl <| dq (f_appendO 200 rfl rfl rfl rfl apk52 (by simp only [snds, List.length_map, List.length_cons, List.length_nil]; omega) (by simp only [snds, List.length_map, List.length_cons, List.length_nil]; omega) rfl (by decide) (lt rfl)) rfl rfl ?_
        refine dq (f_nil rfl rfl (lt rfl)) rfl rfl <| dq (f_fieldAddr rfl kf56_9 rfl (lt rfl)) rfl rfl <| dq (f_store kd52 rfl rfl rfl rfl rfl) rfl rfl <| dq_nilT (by kernel_rfl) rfl ?_
        refine drawn_end (id := 1000000) hX rfl (fun hXq hXe => ?_)
        obtain ⟨e5, hO2⟩ := hXq
        subst hXe
        replace hO := hO2
        clear hO2 hX
        have hk5 := eager_name e5 hk4
        refine hits_renumC 2 9 200 201 1 rfl rfl (by decide) <| toq <| sqq <| hits_block <| hits_loop (fun x : Nat × List Tx × Nat => [(.slot 0, some (.ptr 1000000 0)), (.box 1000000, some (.ptr 1000000 0)), (.cell 1000000 0, some (.d (LDw L))), (.cell 1000000 1, some (.d (.sc (.int .i64 (x.2.2 : Int))))), (.slot 1, some (.ptr 2 0)), (.box 2, some (.ptr 2 0)), (.cell 2 0, some (.d (.sc (.int .u8 ((8 : Nat) : Int))))), (.cell 2 1, some (.d (txD s))), (.cell 2 2, some (.d (.list 2 []))), (.cell 2 3, some (.d (nD 0))), (.cell 2 4, some (.d (nD 0))), (.cell 2 5, some (.d (nD 0))), (.cell 2 6, some (.d (nD 0))), (.cell 2 7, some (.d (.list 6 []))), (.cell 2 8, some (.d (.list 11 (ks.map kdD)))), (.cell 2 9, some (.own 201 1 (x.2.1.map txD))), (.cell 2 10, some (.d (txD []))), (.cell 2 11, some (.d (.list 3 []))), (.cell 2 12, some (.d (.list 9 []))), (.cell 2 13, some (.d (.list 1 []))), (.cell 2 14, some (.d (nD (wordAt wEnd L i).ln))), (.tip 201, some (.ptr 201 0)), (.old 2, some (.ptr 2 0)), (.old 0, some (.ptr 1000000 0))]) (fun x : Nat × List Tx × Nat => x.1 ≤ f ∧ x.2.1.length ≤ x.2.2 ∧ x.2.2 ≤ L.length ∧ o = ocOf (LDw L) dcD (((namesP x.1 x.2.1).bind fun al => onTabT f (wordAt wEnd L i).ln s ks al).run wEnd L x.2.2)) (fun x : Nat × List Tx × Nat => x.1) (f, [a], k5) ⟨Nat.le_refl _, by simp only [List.length_cons, List.length_nil]; omega, hk5.2, hO⟩ ⟨rfl, rfl, rfl, rfl, rfl, rfl, rfl, rfl, rfl, rfl, rfl, rfl, rfl, rfl, rfl, rfl, rfl, rfl, rfl, rfl, rfl, rfl, rfl, rfl, trivial⟩ rfl ?_
        intro x hx0
        obtain ⟨g, acc, i'⟩ := x
        obtain ⟨hg, ha, hi', hO⟩ := hx0
        change g ≤ f at hg
        change acc.length ≤ i' at ha
        change i' ≤ L.length at hi'
        change o = ocOf (LDw L) dcD (((namesP g acc).bind fun al => onTabT f (wordAt wEnd L i).ln s ks al).run wEnd L i') at hO
        change Hits _ [(.slot 0, some (.ptr 1000000 0)), (.box 1000000, some (.ptr 1000000 0)), (.cell 1000000 0, some (.d (LDw L))), (.cell 1000000 1, some (.d (.sc (.int .i64 (i' : Int))))), (.slot 1, some (.ptr 2 0)), (.box 2, some (.ptr 2 0)), (.cell 2 0, some (.d (.sc (.int .u8 ((8 : Nat) : Int))))), (.cell 2 1, some (.d (txD s))), (.cell 2 2, some (.d (.list 2 []))), (.cell 2 3, some (.d (nD 0))), (.cell 2 4, some (.d (nD 0))), (.cell 2 5, some (.d (nD 0))), (.cell 2 6, some (.d (nD 0))), (.cell 2 7, some (.d (.list 6 []))), (.cell 2 8, some (.d (.list 11 (ks.map kdD)))), (.cell 2 9, some (.own 201 1 (acc.map txD))), (.cell 2 10, some (.d (txD []))), (.cell 2 11, some (.d (.list 3 []))), (.cell 2 12, some (.d (.list 9 []))), (.cell 2 13, some (.d (.list 1 []))), (.cell 2 14, some (.d (nD (wordAt wEnd L i).ln))), (.tip 201, some (.ptr 201 0)), (.old 2, some (.ptr 2 0)), (.old 0, some (.ptr 1000000 0))] _
        cases g with
        | zero => exact absurd hO hne
        | succ g =>
        rw [names_succ] at hO
        refine sqq <| sqq <| rgq <| mvq rfl rfl ?_
        refine sq_pr hO hne (may_c hL hi' [59]) rfl en134 rfl rfl rfl rfl ⟨rfl, rfl, trivial⟩ rfl rfl (lt rfl) (fun _ _ hd h => And.intro hd ((Or.inr ⟨_, rfl, And.intro hd16 h⟩))) (fun b2 k6 e6 hO2 => ?_)
        replace hO := hO2
        clear hO2
        have hk6 := may_le e6 hi'
        have hjj := may_at e6
        cases b2
        · rw [if_neg Bool.false_ne_true] at hO
          have hji : k6 = i' := by rcases hjj with ⟨h, _⟩ | ⟨_, h⟩; cases h; exact h
          refine sq (f_un rfl rfl (lt rfl)) rfl rfl <| nxq <| cnT rfl <| skq <| toq <| hits_block <| hits_drawnT (some (1000000, 2)) rfl mixed <| dq (f_move rfl (lt rfl)) rfl rfl ?_
          refine dq (f_move rfl (lt rfl)) rfl rfl <| dq (f_nil rfl rfl (lt rfl)) rfl rfl <| dq (f_fieldAddr rfl kf56_9 rfl (lt rfl)) rfl rfl <| dq (f_load kd52 rfl rfl (lt rfl)) rfl rfl <| dq (f_move rfl (lt rfl)) rfl rfl ?_
          refine dq_pr (([] : Tx)) hO hne (name_c hL hk6) rfl en121 rfl rfl rfl rfl ⟨rfl, rfl, trivial⟩ rfl (lt rfl) (fun _ _ hd h => And.intro hd ((Or.inr ⟨_, rfl, And.intro hd16 h⟩))) (fun s2 k7 X hX => ?_)
          refine dq (f_buildSlice sk52 rfl rfl rfl rfl rfl rfl (by decide) (by decide) (lt rfl)) rfl rfl <| dq (f_appendO 200 rfl rfl rfl rfl apk52 (by simp only [snds, List.length_map, List.length_cons, List.length_nil]; omega) (by simp only [snds, List.length_map, List.length_cons, List.length_nil]; omega) rfl (by decide) (lt rfl)) rfl rfl ?_
          refine dq (f_nil rfl rfl (lt rfl)) rfl rfl <| dq (f_fieldAddr rfl kf56_9 rfl (lt rfl)) rfl rfl <| dq (f_store kd52 rfl rfl rfl rfl rfl) rfl rfl <| dq_nilT (by kernel_rfl) rfl ?_
          refine drawn_end (id := 1000000) hX rfl (fun hXq hXe => ?_)
          obtain ⟨e7, hO2⟩ := hXq
          subst hXe
          replace hO := hO2
          clear hO2 hX
          have hk7 := eager_name e7 hk6
          refine hits_renumC 2 9 200 201 1 rfl rfl (by decide) <| inq <| toq ?_
          refine round_end (g, acc ++ [s2], k7) ⟨by simp only; omega, by simp only [List.length_append, List.length_cons, List.length_nil]; omega, hk7.2, hO⟩ (by simp only; omega) ⟨rfl, rfl, rfl, rfl, rfl, rfl, rfl, rfl, rfl, rfl, rfl, rfl, rfl, rfl, rfl, (congrArg (fun z => some (V.own 201 1 z)) (map_snoc txD acc s2)), rfl, rfl, rfl, rfl, rfl, rfl, rfl, rfl, trivial⟩ rfl
        · rw [if_pos rfl] at hO
          rw [onTabT] at hO
          refine sq (f_un rfl rfl (lt rfl)) rfl rfl <| nxq <| cnF rfl <| hits_exit <| to_exit <| to_exit <| in_hit rfl <| toq ?_
          refine sqq <| rgq <| mvq rfl rfl ?_
          refine sq_pr hO hne (need_c (l := [100, 101, 102, 97, 117, 108, 116]) (ts := [[100, 101, 102, 97, 117, 108, 116]]) hL hk6 (by decide) (fields_g (l := [100, 101, 102, 97, 117, 108, 116]) (ts := [[100, 101, 102, 97, 117, 108, 116]]) (by decide +kernel) (by decide +kernel) (by decide +kernel))) rfl en122 rfl rfl rfl rfl ⟨rfl, rfl, trivial⟩ rfl rfl (lt rfl) (fun _ _ hd h => And.intro hd ((Or.inr ⟨_, rfl, And.intro hd16 h⟩))) (fun um1 m1 g1 hO2 => ?_)
          replace hO := hO2
          clear hO2
          have hm1 := (tame_need _ g1 hk6).2
          refine nxq <| sqq <| rgq <| mvq rfl rfl <| mvq rfl rfl ?_
          refine sq_pr hO hne (name_c hL hm1) rfl en121 rfl rfl rfl rfl ⟨rfl, rfl, trivial⟩ rfl rfl (lt rfl) (fun _ _ hd h => And.intro hd ((Or.inr ⟨_, rfl, And.intro hd16 h⟩))) (fun dn m2 g2 hO2 => ?_)
          replace hO := hO2
          clear hO2
          have hm2 := (eager_name g2 hm1).2
          refine sq (f_nil rfl rfl (lt rfl)) rfl rfl <| faq rfl kf56_10 rfl rfl <| soq kd9 rfl rfl rfl rfl rfl <| nxq <| sqq <| rgq <| mvq rfl rfl ?_
          refine sq_pr hO hne (need_c (l := [40]) (ts := [[40]]) hL hm2 (by decide) (fields_g (l := [40]) (ts := [[40]]) (by decide +kernel) (by decide +kernel) (by decide +kernel))) rfl en122 rfl rfl rfl rfl ⟨rfl, rfl, trivial⟩ rfl rfl (lt rfl) (fun _ _ hd h => And.intro hd ((Or.inr ⟨_, rfl, And.intro hd16 h⟩))) (fun um3 m3 g3 hO2 => ?_)
          replace hO := hO2
          clear hO2
          have hm3 := (tame_need _ g3 hm2).2
          refine nxq <| sqq <| rgq <| mvq rfl rfl <| mvq rfl rfl <| mvq rfl rfl <| sq (f_methodVal rfl rfl rfl (lt rfl)) rfl rfl ?_
          refine sq_pr hO hne (rowb_c hL hm3 hS [41] (fields_g (l := [41]) (ts := [[41]]) (by decide +kernel) (by decide +kernel) (by decide +kernel)) f) rfl en135 rfl rfl rfl rfl ⟨rfl, rfl, trivial⟩ rfl rfl (lt rfl) (fun _ _ hd h => And.intro hd ((Or.inr ⟨_, rfl, And.intro hd16 h⟩))) (fun l m4 g4 hO2 => ?_)
          replace hO := hO2
          clear hO2
          have hm4 := (tame_row eager_lit.tame _ f g4 hm3).2
          refine sq (f_nil rfl rfl (lt rfl)) rfl rfl <| faq rfl kf56_11 rfl rfl <| soq kd53 rfl rfl rfl rfl rfl <| nxq <| sqq <| rgq <| mvq rfl rfl ?_
          refine sq_pr hO hne (need_c (l := [59, 32, 115, 105, 122, 101]) (ts := [[59], [115, 105, 122, 101]]) hL hm4 (by decide) (fields_g (l := [59, 32, 115, 105, 122, 101]) (ts := [[59], [115, 105, 122, 101]]) (by decide +kernel) (by decide +kernel) (by decide +kernel))) rfl en122 rfl rfl rfl rfl ⟨rfl, rfl, trivial⟩ rfl rfl (lt rfl) (fun _ _ hd h => And.intro hd ((Or.inr ⟨_, rfl, And.intro hd16 h⟩))) (fun um5 m5 g5 hO2 => ?_)
          replace hO := hO2
          clear hO2
          have hm5 := (tame_need _ g5 hm4).2
          refine nxq <| sqq <| rgq <| mvq rfl rfl <| mvq rfl rfl ?_
          refine sq_pr hO hne (whole_c hL hm5 hS) rfl en126 rfl rfl rfl rfl ⟨rfl, rfl, trivial⟩ rfl rfl (lt rfl) (fun _ _ hd h => And.intro hd ((Or.inr ⟨_, rfl, And.intro hd16 h⟩))) (fun n m6 g6 hO2 => ?_)
          replace hO := hO2
          clear hO2
          have hm6 := (eager_whole g6 hm5).2
          refine sq (f_nil rfl rfl (lt rfl)) rfl rfl <| faq rfl kf56_4 rfl rfl <| soq kd3 rfl rfl rfl rfl rfl <| nxq <| rgq <| mvq rfl rfl ?_
          refine sq_pr hO hne (need_c (l := [59, 32, 125]) (ts := [[59], [125]]) hL hm6 (by decide) (fields_g (l := [59, 32, 125]) (ts := [[59], [125]]) (by decide +kernel) (by decide +kernel) (by decide +kernel))) rfl en122 rfl rfl rfl rfl ⟨rfl, rfl, trivial⟩ rfl rfl (lt rfl) (fun _ _ hd h => And.intro hd ((Or.inr ⟨_, rfl, And.intro hd16 h⟩))) (fun um7 m7 g7 hO2 => ?_)
          replace hO := hO2
          clear hO2
          have hm7 := (tame_need _ g7 hm6).2
          refine nlq <| hits_back (.inr rfl) ha16 hd16 rfl rfl (lt rfl) rfl <| hits_cellL 2 9 rfl rfl <| nxq <| sqq <| rgq <| ldq kd56 rfl rfl rfl <| soq kd56 rfl rfl rfl rfl rfl ?_
          refine nxq <| rtq ?_
          have hO' : o = .ret [LDw L, .sc (.int .i64 (m7 : Int))] (.agg [.sc (.int .u8 ((8 : Nat) : Int)), txD s, .list 2 [], nD 0, nD n, nD 0, nD 0, .list 6 [], .list 11 (ks.map kdD), .list 1 (acc.map txD), txD dn, .list 3 (l.map n3D), .list 9 [], .list 1 [], nD (wordAt wEnd L i).ln]) := by rw [hO]; rfl
          exact hits_doneX hO' (.inl rfl) rfl rfl rfl rfl rfl ⟨rfl, rfl, trivial⟩ rfl
      · rw [onP] at hO
        refine hits_drawn mixed <| dq (f_fieldAddr rfl kf100_0 rfl (lt rfl)) rfl rfl <| dq (f_load kd48 rfl rfl (lt rfl)) rfl rfl <| dq (f_fieldAddr rfl kf37_3 rfl (lt rfl)) rfl rfl <| dq (f_load kd3 rfl rfl (lt rfl)) rfl rfl <| dq (f_fieldAddr rfl kf56_0 rfl (lt rfl)) rfl rfl <| dq (f_store kd48 rfl rfl rfl rfl rfl) rfl rfl <| dq (f_fieldAddr rfl kf56_14 rfl (lt rfl)) rfl rfl ?_
        refine dq (f_store kd3 rfl rfl rfl rfl rfl) rfl rfl <| dq_nil rfl <| toq <| sqq <| rgq <| faq rfl kf100_1 rfl rfl <| ldq kd98 rfl rfl rfl <| hits_cellD 2 9 (q' := .list 1 []) rfl nil_list ?_
        refine hits_to [(.slot 0, some (.ptr 1000000 0)), (.box 1000000, some (.ptr 1000000 0)), (.cell 1000000 0, some (.d (LDw L))), (.cell 1000000 1, some (.d (.sc (.int .i64 ((i + 1 : Nat) : Int))))), (.slot 2, some (.ptr 2 0)), (.box 2, some (.ptr 2 0)), (.cell 2 0, some (.d (.sc (.int .u8 ((9 : Nat) : Int))))), (.cell 2 1, some (.d (txD []))), (.cell 2 2, some (.d (.list 2 []))), (.cell 2 3, some (.d (nD 0))), (.cell 2 4, some (.d (nD 0))), (.cell 2 5, some (.d (nD 0))), (.cell 2 6, some (.d (nD 0))), (.cell 2 7, some (.d (.list 6 []))), (.cell 2 8, some (.d (.list 11 []))), (.cell 2 9, some (.d (.list 1 []))), (.cell 2 10, some (.d (txD []))), (.cell 2 11, some (.d (.list 3 []))), (.cell 2 12, some (.d (.list 9 []))), (.cell 2 13, some (.d (.list 1 []))), (.cell 2 14, some (.d (nD (wordAt wEnd L i).ln))), (.slot 31, some (.d (.sc (mvV b 84))))] ⟨rfl, rfl, rfl, rfl, rfl, rfl, rfl, rfl, rfl, rfl, rfl, rfl, rfl, rfl, rfl, rfl, rfl, rfl, rfl, rfl, rfl, rfl, trivial⟩ rfl <| sq_inlineV en84 Tryz.func84 rfl Tryz.ntmps84 rfl rfl rfl rfl rfl rfl fun a17 ha17 hd17 => ?_
        refine rgq <| mvq rfl rfl <| mvq rfl rfl ?_
        refine sq_pr hO hne ((sm_all hL hS f f (Nat.le_refl _)).2 hi1) rfl en130 rfl rfl rfl rfl ⟨rfl, rfl, trivial⟩ rfl rfl (lt rfl) (fun _ _ hd h => And.intro hd ((Or.inr ⟨_, rfl, And.intro hd17 h⟩))) (fun m k1 e1 hO2 => ?_)
        replace hO := hO2
        clear hO2
        have hk1 := (tame_bl _ e1 hi1).2
        refine sq (f_nil rfl rfl (lt rfl)) rfl rfl <| faq rfl kf56_12 rfl rfl <| soq kd54 rfl rfl rfl rfl rfl <| nlq <| hits_back (.inr rfl) ha17 hd17 rfl rfl (lt rfl) rfl <| nxq <| sqq <| rgq ?_
        refine ldq kd56 rfl rfl rfl <| soq kd56 rfl rfl rfl rfl rfl <| nxq <| rtq ?_
        have hO' : o = .ret [LDw L, .sc (.int .i64 (k1 : Int))] (.agg [.sc (.int .u8 ((9 : Nat) : Int)), txD [], .list 2 [], nD 0, nD 0, nD 0, nD 0, .list 6 [], .list 11 [], .list 1 [], txD [], .list 3 [], smLD m, .list 1 [], nD (wordAt wEnd L i).ln]) := by rw [hO]; rfl
        exact hits_doneX hO' (.inl rfl) rfl rfl rfl rfl rfl ⟨rfl, rfl, trivial⟩ rfl
      · rw [onP] at hO
        refine hits_drawn mixed <| dq (f_fieldAddr rfl kf100_0 rfl (lt rfl)) rfl rfl <| dq (f_load kd48 rfl rfl (lt rfl)) rfl rfl <| dq (f_fieldAddr rfl kf37_3 rfl (lt rfl)) rfl rfl <| dq (f_load kd3 rfl rfl (lt rfl)) rfl rfl <| dq (f_fieldAddr rfl kf56_0 rfl (lt rfl)) rfl rfl <| dq (f_store kd48 rfl rfl rfl rfl rfl) rfl rfl <| dq (f_fieldAddr rfl kf56_14 rfl (lt rfl)) rfl rfl ?_
        refine dq (f_store kd3 rfl rfl rfl rfl rfl) rfl rfl <| dq_nil rfl <| toq <| sqq <| rgq <| faq rfl kf100_1 rfl rfl <| ldq kd98 rfl rfl rfl <| hits_cellD 2 9 (q' := .list 1 []) rfl nil_list ?_
        refine hits_to [(.slot 0, some (.ptr 1000000 0)), (.box 1000000, some (.ptr 1000000 0)), (.cell 1000000 0, some (.d (LDw L))), (.cell 1000000 1, some (.d (.sc (.int .i64 ((i + 1 : Nat) : Int))))), (.slot 2, some (.ptr 2 0)), (.box 2, some (.ptr 2 0)), (.cell 2 0, some (.d (.sc (.int .u8 ((10 : Nat) : Int))))), (.cell 2 1, some (.d (txD []))), (.cell 2 2, some (.d (.list 2 []))), (.cell 2 3, some (.d (nD 0))), (.cell 2 4, some (.d (nD 0))), (.cell 2 5, some (.d (nD 0))), (.cell 2 6, some (.d (nD 0))), (.cell 2 7, some (.d (.list 6 []))), (.cell 2 8, some (.d (.list 11 []))), (.cell 2 9, some (.d (.list 1 []))), (.cell 2 10, some (.d (txD []))), (.cell 2 11, some (.d (.list 3 []))), (.cell 2 12, some (.d (.list 9 []))), (.cell 2 13, some (.d (.list 1 []))), (.cell 2 14, some (.d (nD (wordAt wEnd L i).ln))), (.slot 31, some (.d (.sc (mvV b 85))))] ⟨rfl, rfl, rfl, rfl, rfl, rfl, rfl, rfl, rfl, rfl, rfl, rfl, rfl, rfl, rfl, rfl, rfl, rfl, rfl, rfl, rfl, rfl, trivial⟩ rfl <| sq_inlineV en85 Tryz.func85 rfl Tryz.ntmps85 rfl rfl rfl rfl rfl rfl fun a18 ha18 hd18 => ?_
        refine sqq <| rgq <| mvq rfl rfl ?_
        refine sq_pr hO hne (need_c (l := [123]) (ts := [[123]]) hL hi1 (by decide) (fields_g (l := [123]) (ts := [[123]]) (by decide +kernel) (by decide +kernel) (by decide +kernel))) rfl en122 rfl rfl rfl rfl ⟨rfl, rfl, trivial⟩ rfl rfl (lt rfl) (fun _ _ hd h => And.intro hd ((Or.inr ⟨_, rfl, And.intro hd18 h⟩))) (fun uk1 k1 e1 hO2 => ?_)
        replace hO := hO2
        clear hO2
        have hk1 := (tame_need _ e1 hi1).2
        refine nxq <| rgq <| mvq rfl rfl <| mvq rfl rfl <| mvq rfl rfl <| mvq rfl rfl <| sq (f_methodVal rfl rfl rfl (lt rfl)) rfl rfl <| hits_dataOf 8 rfl rfl rfl ?_
        refine sq (f_call en138 rfl (endedt_c b) (lt rfl)) rfl rfl ?_
        refine sq_pr hO hne (eacht_c hL hk1 eager_name (fun {i} hi => name_c hL hi) f) rfl en137 rfl rfl rfl rfl ⟨rfl, rfl, trivial⟩ rfl rfl (lt rfl) (fun _ _ hd h => And.intro hd ((Or.inr ⟨_, rfl, And.intro hd18 h⟩))) (fun l k2 e2 hO2 => ?_)
        replace hO := hO2
        clear hO2
        refine sq (f_nil rfl rfl (lt rfl)) rfl rfl <| faq rfl kf56_13 rfl rfl <| soq kd52 rfl rfl rfl rfl rfl <| nlq <| hits_back (.inr rfl) ha18 hd18 rfl rfl (lt rfl) rfl <| nxq <| sqq <| rgq ?_
        refine ldq kd56 rfl rfl rfl <| soq kd56 rfl rfl rfl rfl rfl <| nxq <| rtq ?_
        have hO' : o = .ret [LDw L, .sc (.int .i64 (k2 : Int))] (.agg [.sc (.int .u8 ((10 : Nat) : Int)), txD [], .list 2 [], nD 0, nD 0, nD 0, nD 0, .list 6 [], .list 11 [], .list 1 [], txD [], .list 3 [], .list 9 [], .list 1 (l.map txD), nD (wordAt wEnd L i).ln]) := by rw [hO]; rfl
        exact hits_doneX hO' (.inl rfl) rfl rfl rfl rfl rfl ⟨rfl, rfl, trivial⟩ rfl
    · rw [decide_eq_false hk] at hO
      refine hits_cellD 2 2 (q' := .list 2 []) rfl nil_list <| hits_cellD 2 7 (q' := .list 6 []) rfl nil_list <| hits_cellD 2 8 (q' := .list 11 []) rfl nil_list <| hits_cellD 2 11 (q' := .list 3 []) rfl nil_list <| hits_cellD 2 12 (q' := .list 9 []) rfl nil_list <| hits_cellD 2 13 (q' := .list 1 []) rfl nil_list <| hits_drawn mixed <| dq (f_move rfl (lt rfl)) rfl rfl ?_
      refine dq (f_callMP en34 rfl (decls_c b) rfl rfl (lt rfl)) rfl rfl <| dq (f_fieldAddr rfl kf37_1 rfl (lt rfl)) rfl rfl <| dq (f_load kd9 rfl rfl (lt rfl)) rfl rfl <| dq (f_lookup mpk102 rfl rfl rfl h3.1 h3.2 (lt rfl)) rfl rfl <| dq (f_move rfl (lt rfl)) rfl rfl <| dq (f_extract rfl rfl (lt rfl)) rfl rfl <| dq (f_extract rfl rfl (lt rfl)) rfl rfl <| dq (f_alloc zc100 (lt rfl)) rfl rfl ?_
      refine dq (f_store kd100 rfl rfl rfl rfl rfl) rfl rfl <| dq (f_assign rfl (lt rfl)) rfl rfl <| dq_nil rfl <| toq <| sqq <| rgq <| mvq rfl rfl <| mvq rfl rfl ?_
      refine mvq rfl rfl <| sq_yes (f_fieldAddr rfl kf37_0 rfl (lt rfl)) rfl rfl rfl rfl (lt rfl) <| sq_yes (f_load kd32 rfl rfl (lt rfl)) rfl rfl rfl rfl (lt rfl) <| sq_yes (f_bin rfl rfl (bT (beq_eq_false_iff_ne.mpr (by omega))) (lt rfl)) rfl rfl rfl rfl (lt rfl) <| pkq rfl rfl rfl ?_
      refine sq_pr hO hne (must_c hL hi false) rfl en35 rfl rfl rfl rfl ⟨rfl, rfl, trivial⟩ rfl rfl (lt rfl) (fun _ _ hd h => And.intro hd (h)) (fun q j hq hO2 => ?_)
      replace hO := hO2
      clear hO2
      exact absurd (must_ok hq).1 Bool.false_ne_true
end Go.Proofs.YtogodijfdkffaaaGreatDoor.Ln
