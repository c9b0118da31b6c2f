/- The counting of a tree's parts over data. -/
import Derived.Test.YtbgeejmhkmjfdaaGreatDoorAbDc
namespace Go.Proofs.YtbgeejmhkmjfdaaGreatDoor.Ln
open Go Go.RowKit Go.Ab Go.Proofs 
set_option linter.unusedVariables false
set_option linter.unusedSimpArgs false
theorem kf96_0 : kf Tryz.prog 96 0 = some 0 := by kernel_rfl
theorem kf96_1 : kf Tryz.prog 96 1 = some 1 := by kernel_rfl
theorem un44 : Tryz.prog.underlying 44 = some (.slice 46) := by kernel_rfl
theorem en34 : enters Tryz.prog 34 = true := by kernel_rfl
theorem en35 : enters Tryz.prog 35 = true := by kernel_rfl
theorem un60 : Tryz.prog.underlying 60 = some (.slice 65) := by kernel_rfl
theorem en36 : enters Tryz.prog 36 = true := by kernel_rfl
theorem un58 : Tryz.prog.underlying 58 = some (.slice 104) := by kernel_rfl
theorem un57 : Tryz.prog.underlying 57 = some (.slice 100) := by kernel_rfl
theorem un98 : Tryz.prog.underlying 98 = some (.slice 190) := by kernel_rfl
theorem un28 : Tryz.prog.underlying 28 = some (.slice 62) := by kernel_rfl
theorem un56 : Tryz.prog.underlying 56 = some (.slice 150) := by kernel_rfl
theorem bu96 : bk Tryz.prog 96 = some ([(0, 1), (1, 1)], [.int .i64 0, .int .i64 0]) := by kernel_rfl
abbrev Ct := Nat × Nat
def partsC (k d : Nat) (c : Ct) : Ct := (c.1 + k, if 0 < k then max c.2 d else c.2)
mutual
def exA : Ex → Nat → Ct → Ct
  | .mk _ _ _ _ _ _ _ _ args _, d, c => exF args (d + 1) (partsC args.length d c)
def exF : List Ex → Nat → Ct → Ct
  | [], _, c => c
  | x :: l, d, c => exF l d (exA x d c)
end
def exprsC (l : List Ex) (d : Nat) (c : Ct) : Ct := exF l (d + 1) (partsC l.length d c)
mutual
def smA : Sm → Nat → Ct → Ct
  | .mk _ _ _ _ _ args body els _, d, c => smF els (d + 1) (partsC els.length d (smF body (d + 1) (partsC body.length d (exprsC args d c))))
def smF : List Sm → Nat → Ct → Ct
  | [], _, c => c
  | x :: l, d, c => smF l d (smA x d c)
end
def stmtsC (l : List Sm) (d : Nat) (c : Ct) : Ct := smF l (d + 1) (partsC l.length d c)
def stateC (s : Stt) (c : Ct) : Ct := exprsC s.sel 3 (partsC s.cases.length 3 c)
def statesF : List Stt → Ct → Ct
  | [], c => c
  | s :: l, c => statesF l (stateC s c)
def keysF : List (Ex × Nat) → Ct → Ct
  | [], c => c
  | k :: l, c => keysF l (exprsC [k.1] 2 c)
def declC (d : Dc) (c : Ct) : Ct := stmtsC d.body 2 (keysF d.keys (statesF d.states (partsC d.states.length 2 (partsC d.fields.length 2 c))))
def declsF : List Dc → Ct → Ct
  | [], c => c
  | d :: l, c => declsF l (declC d c)
def progC (l : List Dc) : Ct := declsF l (partsC l.length 1 (0, 0))
def smallB (l : List Dc) : Bool := decide ((progC l).1 ≤ 4096) && decide ((progC l).2 ≤ 64)
mutual
theorem exA_le : ∀ (x : Ex) (d : Nat) (c : Ct), c.1 ≤ (exA x d c).1
  | .mk _ _ _ _ _ _ _ _ args _, d, c => by rw [exA]; exact Nat.le_trans (Nat.le_add_right _ _) (exF_le args (d + 1) (partsC args.length d c))
theorem exF_le : ∀ (l : List Ex) (d : Nat) (c : Ct), c.1 ≤ (exF l d c).1
  | [], d, c => by rw [exF]; exact Nat.le_refl _
  | x :: l, d, c => by rw [exF]; exact Nat.le_trans (exA_le x d c) (exF_le l d _)
end
theorem exprsC_le (l : List Ex) (d : Nat) (c : Ct) : c.1 + l.length ≤ (exprsC l d c).1 := exF_le l (d + 1) (partsC l.length d c)
mutual
theorem smA_le : ∀ (x : Sm) (d : Nat) (c : Ct), c.1 ≤ (smA x d c).1
  | .mk _ _ _ _ _ args body els _, d, c => by
    rw [smA]
    refine Nat.le_trans ?_ (smF_le els (d + 1) _)
    refine Nat.le_trans ?_ (Nat.le_add_right _ _)
    refine Nat.le_trans ?_ (smF_le body (d + 1) _)
    refine Nat.le_trans ?_ (Nat.le_add_right _ _)
    exact Nat.le_trans (Nat.le_add_right _ _) (exprsC_le args d c)
theorem smF_le : ∀ (l : List Sm) (d : Nat) (c : Ct), c.1 ≤ (smF l d c).1
  | [], d, c => by rw [smF]; exact Nat.le_refl _
  | x :: l, d, c => by rw [smF]; exact Nat.le_trans (smA_le x d c) (smF_le l d _)
end
theorem stmtsC_le (l : List Sm) (d : Nat) (c : Ct) : c.1 + l.length ≤ (stmtsC l d c).1 := smF_le l (d + 1) (partsC l.length d c)
theorem stateC_le (s : Stt) (c : Ct) : c.1 + s.cases.length ≤ (stateC s c).1 := Nat.le_trans (Nat.le_add_right _ _) (exprsC_le s.sel 3 (partsC s.cases.length 3 c))
theorem statesF_le : ∀ (l : List Stt) (c : Ct), c.1 ≤ (statesF l c).1
  | [], c => Nat.le_refl _
  | s :: l, c => Nat.le_trans (Nat.le_trans (Nat.le_add_right _ _) (stateC_le s c)) (statesF_le l _)
theorem keysF_le : ∀ (l : List (Ex × Nat)) (c : Ct), c.1 + l.length ≤ (keysF l c).1
  | [], c => Nat.le_refl _
  | k :: l, c => by
    have h1 := exprsC_le [k.1] 2 c
    have h2 := keysF_le l (exprsC [k.1] 2 c)
    rw [keysF, List.length_cons]
    simp only [List.length_cons, List.length_nil] at h1
    omega
theorem declC_le (d : Dc) (c : Ct) : c.1 + d.fields.length + d.states.length ≤ (declC d c).1 ∧ (keysF d.keys (statesF d.states (partsC d.states.length 2 (partsC d.fields.length 2 c)))).1 ≤ (declC d c).1 ∧ (statesF d.states (partsC d.states.length 2 (partsC d.fields.length 2 c))).1 ≤ (declC d c).1 := by
  have h1 := stmtsC_le d.body 2 (keysF d.keys (statesF d.states (partsC d.states.length 2 (partsC d.fields.length 2 c))))
  have h2 := keysF_le d.keys (statesF d.states (partsC d.states.length 2 (partsC d.fields.length 2 c)))
  have h3 := statesF_le d.states (partsC d.states.length 2 (partsC d.fields.length 2 c))
  have h4 : (partsC d.states.length 2 (partsC d.fields.length 2 c)).1 = c.1 + d.fields.length + d.states.length := rfl
  unfold declC
  omega
theorem declsF_le : ∀ (l : List Dc) (c : Ct), c.1 ≤ (declsF l c).1
  | [], c => Nat.le_refl _
  | d :: l, c => by
    have h1 := (declC_le d c).1
    have h2 := declsF_le l (declC d c)
    rw [declsF]; omega
theorem exDs_len (l : List Ex) : (exDs l).length = l.length := by rw [exDs_map, List.length_map]
theorem smDs_len (l : List Sm) : (smDs l).length = l.length := by rw [smDs_map, List.length_map]
theorem exDs_at {l : List Ex} {k : Nat} {x : Ex} (h : l[k]? = some x) : (exDs l)[((k : Int)).toNat]? = some (.agg (exCs x)) := by
  rw [Int.toNat_natCast, exDs_map, List.getElem?_map, h, ← exD_cs]; rfl
theorem smDs_at {l : List Sm} {k : Nat} {x : Sm} (h : l[k]? = some x) : (smDs l)[((k : Int)).toNat]? = some (.agg (smCs x)) := by
  rw [Int.toNat_natCast, smDs_map, List.getElem?_map, h, ← smD_cs]; rfl
theorem map_at {α : Type} {g : α → D} {l : List α} {k : Nat} {x : α} (h : l[k]? = some x) : (l.map g)[((k : Int)).toNat]? = some (g x) := by
  rw [Int.toNat_natCast, List.getElem?_map, h]; rfl
abbrev ctL (c : Ct) : List D := [nD c.1, nD c.2]
def big : Nat := 1099511627776
theorem bigE : big = 1099511627776 := rfl
def CE (l : List Ex) : Prop := ∀ (d : Nat) (c : Ct), d ≤ c.1 + 3 → (exprsC l d c).1 ≤ big → CallsB Tryz.prog Lw 35 (ctL c) [.list 10 (exDs l), nD d] (ctL (exprsC l d c)) (.tup [])
def argsOf : Ex → List Ex
  | .mk _ _ _ _ _ _ _ _ args _ => args
theorem exA_args (x : Ex) (d : Nat) (c : Ct) : exA x d c = exprsC (argsOf x) d c := by cases x; rw [exA]; rfl
def CS (l : List Sm) : Prop := ∀ (d : Nat) (c : Ct), d ≤ c.1 + 3 → (stmtsC l d c).1 ≤ big → CallsB Tryz.prog Lw 36 (ctL c) [.list 9 (smDs l), nD d] (ctL (stmtsC l d c)) (.tup [])
def bodyOf : Sm → List Sm
  | .mk _ _ _ _ _ _ body _ _ => body
def elsOf : Sm → List Sm
  | .mk _ _ _ _ _ _ _ els _ => els
def sargsOf : Sm → List Ex
  | .mk _ _ _ _ _ args _ _ _ => args
theorem smA_parts (x : Sm) (d : Nat) (c : Ct) : smA x d c = stmtsC (elsOf x) d (stmtsC (bodyOf x) d (exprsC (sargsOf x) d c)) := by cases x; rw [smA]; rfl
theorem nmax (a b : Nat) : (if (b : Int) > (a : Int) then (b : Int) else (a : Int)) = ((max a b : Nat) : Int) := by
  by_cases h : (b : Int) > (a : Int)
  · rw [if_pos h, Nat.max_eq_right (by omega)]
  · rw [if_neg h, Nat.max_eq_left (by omega)]
set_option maxRecDepth 100000 in
theorem parts_c (k d : Nat) (c : Ct) (h1 : (partsC k d c).1 ≤ 2 * big) : CallsB Tryz.prog Lw 34 [nD (c).1, nD (c).2] [nD k, nD d] [nD (partsC k d c).1, nD (partsC k d c).2] (.tup []) := by
  have hb := bigE
  have h3 : c.1 + k ≤ 2 * big := h1
  refine callsB_of Tryz.func34 rfl Tryz.ntmps34 rfl rfl fun w0 S0 b stab => ?_
  refine hits_seq ?_
  refine hits_region ?_
  refine sq (f_move rfl (lt rfl)) rfl rfl ?_
  refine sq (f_nil rfl rfl (lt rfl)) rfl rfl ?_
  refine sq (f_fieldAddr rfl kf96_0 rfl (lt rfl)) rfl rfl ?_
  refine sq (f_load kd3 rfl rfl (lt rfl)) rfl rfl ?_
  refine sq (f_move rfl (lt rfl)) rfl rfl ?_
  refine sq (f_bin rfl rfl (iT (((IntWalk.i64_in _ (by omega)).trans (by omega) : _ = ((c.1 + k : Nat) : Int)))) (lt rfl)) rfl rfl ?_
  refine sq (f_nil rfl rfl (lt rfl)) rfl rfl ?_
  refine sq (f_fieldAddr rfl kf96_0 rfl (lt rfl)) rfl rfl ?_
  refine sq (f_store kd3 rfl rfl rfl rfl rfl) rfl rfl ?_
  refine hits_nil ?_
  refine to_next ?_
  refine hits_seq ?_
  by_cases h : 0 < k
  · refine hits_region ?_
    refine sq (f_move rfl (lt rfl)) rfl rfl ?_
    refine sq (f_bin rfl rfl (bT (decide_eq_true (by omega))) (lt rfl)) rfl rfl ?_
    refine hits_nil ?_
    refine to_next ?_
    refine hits_cond rfl (fun c0 => ?_) (fun c0 => absurd c0 Bool.false_ne_true.symm)
    refine hits_region ?_
    refine sq (f_move rfl (lt rfl)) rfl rfl ?_
    refine sq (f_move rfl (lt rfl)) rfl rfl ?_
    refine sq (f_nil rfl rfl (lt rfl)) rfl rfl ?_
    refine sq (f_fieldAddr rfl kf96_1 rfl (lt rfl)) rfl rfl ?_
    refine sq (f_load kd3 rfl rfl (lt rfl)) rfl rfl ?_
    refine sq (f_move rfl (lt rfl)) rfl rfl ?_
    refine sq (f_maxI rfl rfl (nmax _ _) (lt rfl)) rfl rfl ?_
    refine sq (f_nil rfl rfl (lt rfl)) rfl rfl ?_
    refine sq (f_fieldAddr rfl kf96_1 rfl (lt rfl)) rfl rfl ?_
    refine sq (f_store kd3 rfl rfl rfl rfl rfl) rfl rfl ?_
    refine hits_nil ?_
    exact hits_doneB (.inr rfl) rfl rfl rfl rfl rfl ⟨rfl, congrArg (fun z : Nat => some (V.d (nD z))) (by simp only [partsC, h, if_true, if_false]), trivial⟩ rfl
  · refine hits_region ?_
    refine sq (f_move rfl (lt rfl)) rfl rfl ?_
    refine sq (f_bin rfl rfl (bT (decide_eq_false (by omega))) (lt rfl)) rfl rfl ?_
    refine hits_nil ?_
    refine to_next ?_
    refine hits_cond rfl (fun c0 => absurd c0 Bool.false_ne_true) (fun c0 => ?_)
    refine hits_skip ?_
    exact hits_doneB (.inr rfl) rfl rfl rfl rfl rfl ⟨rfl, congrArg (fun z : Nat => some (V.d (nD z))) (by simp only [partsC, h, if_true, if_false]), trivial⟩ rfl
set_option maxRecDepth 100000 in
theorem exprs_c (l : List Ex) (IH : ∀ x ∈ l, CE (argsOf x)) (d : Nat) (c : Ct) (h1 : d ≤ c.1 + 3) (h3 : (exprsC l d c).1 ≤ big) : CallsB Tryz.prog Lw 35 [nD c.1, nD c.2] [.list 10 (exDs l), nD d] [nD (exprsC l d c).1, nD (exprsC l d c).2] (.tup []) := by
  have hb := bigE
  have h0 := exprsC_le l d c
  have hll := exDs_len l
  refine callsB_of Tryz.func35 rfl Tryz.ntmps35 rfl rfl fun w0 S0 b stab => ?_
  refine hits_seq ?_
  refine hits_region ?_
  refine sq (f_move rfl (lt rfl)) rfl rfl ?_
  refine sq (f_move rfl (lt rfl)) rfl rfl ?_
  refine sq (f_lenListN rfl rfl un44 hll (lt rfl)) rfl rfl ?_
  refine sq (f_move rfl (lt rfl)) rfl rfl ?_
  refine sq_callB en34 rfl rfl (parts_c l.length d c (by show c.1 + l.length ≤ 2 * big; omega)) ⟨rfl, rfl, trivial⟩ rfl rfl rfl rfl (lt rfl) ?_
  refine hits_nil ?_
  refine to_next ?_
  refine hits_seq ?_
  refine hits_region ?_
  refine sq (f_move rfl (lt rfl)) rfl rfl ?_
  refine sq (f_lenListN rfl rfl un44 hll (lt rfl)) rfl rfl ?_
  refine sq (f_move rfl (lt rfl)) rfl rfl ?_
  refine hits_nil ?_
  refine to_next ?_
  refine hits_block ?_
  refine hits_loop (fun x : Nat × Ct => [(.slot 0, some (.ptr 1000000 0)), (.box 1000000, some (.ptr 1000000 0)), (.cell 1000000 0, some (.d (nD (x.2).1))), (.cell 1000000 1, some (.d (nD (x.2).2))), (.slot 2, some (.d (nD d))), (.slot 13, some (.d (.list 10 (exDs l)))), (.slot 14, some (.d (nD l.length))), (.slot 15, some (.d (nD (x.1))))]) (fun x : Nat × Ct => x.1 ≤ l.length ∧ c.1 + l.length ≤ x.2.1 ∧ exF (l.drop x.1) (d + 1) x.2 = exprsC l d c) (fun x : Nat × Ct => l.length - x.1) (0, partsC l.length d c) ⟨Nat.zero_le _, Nat.le_refl _, by rw [List.drop_zero]; rfl⟩ ⟨rfl, rfl, rfl, rfl, rfl, rfl, rfl, rfl, trivial⟩ rfl ?_
  intro x hx0
  obtain ⟨k, c1⟩ := x
  obtain ⟨hk0, hc1, hJ⟩ := hx0
  change k ≤ l.length at hk0
  change c.1 + l.length ≤ c1.1 at hc1
  change exF (l.drop k) (d + 1) c1 = exprsC l d c at hJ
  change Hits _ [(.slot 0, some (.ptr 1000000 0)), (.box 1000000, some (.ptr 1000000 0)), (.cell 1000000 0, some (.d (nD (c1).1))), (.cell 1000000 1, some (.d (nD (c1).2))), (.slot 2, some (.d (nD d))), (.slot 13, some (.d (.list 10 (exDs l)))), (.slot 14, some (.d (nD l.length))), (.slot 15, some (.d (nD (k))))] _
  refine hits_seq ?_
  by_cases hk : k < l.length
  · obtain ⟨y, hx⟩ : ∃ y, l[k]? = some y := ⟨_, List.getElem?_eq_getElem hk⟩
    have hmem := List.mem_of_getElem? hx
    have hat := exDs_at hx
    rw [list_at hx, exF, exA_args] at hJ
    have hIH := IH y hmem
    obtain ⟨yop, ylw, ylh, yll, ynm, yfl, yn, ym, yar, yln⟩ := y
    change CE yar at hIH
    change exF (l.drop (k + 1)) (d + 1) (exprsC yar (d + 1) c1) = exprsC l d c at hJ
    have h5 := exF_le (l.drop (k + 1)) (d + 1) (exprsC yar (d + 1) c1)
    have h6 := exprsC_le yar (d + 1) c1
    rw [hJ] at h5
    refine hits_region ?_
    refine sq (f_bin rfl rfl (bT (decide_eq_true (by omega))) (lt rfl)) rfl rfl ?_
    refine hits_nil ?_
    refine to_next ?_
    refine hits_seq ?_
    refine hits_cond rfl (fun c0 => ?_) (fun c0 => absurd c0 Bool.false_ne_true.symm)
    refine hits_skip ?_
    refine to_next ?_
    refine hits_seq ?_
    refine hits_block ?_
    refine hits_seq ?_
    refine hits_region ?_
    refine sq (f_idxList rfl rfl rfl un44 kd46 (Int.natCast_nonneg _) hat (lt rfl)) rfl rfl ?_
    refine sq (f_load kd46 rfl rfl (lt rfl)) rfl rfl ?_
    refine sq (f_alloc zc46 (lt rfl)) rfl rfl ?_
    refine sq (f_store kd46 rfl rfl rfl rfl rfl) rfl rfl ?_
    refine hits_nil ?_
    refine to_next ?_
    refine hits_region ?_
    refine sq (f_move rfl (lt rfl)) rfl rfl ?_
    refine sq (f_fieldAddr rfl kf46_6 rfl (lt rfl)) rfl rfl ?_
    refine sq (f_load kd44 rfl rfl (lt rfl)) rfl rfl ?_
    refine sq (f_move rfl (lt rfl)) rfl rfl ?_
    refine sq (f_bin rfl rfl (iT (((IntWalk.i64_in _ (by omega)).trans (by omega) : _ = ((d + 1 : Nat) : Int)))) (lt rfl)) rfl rfl ?_
    refine sq_callB en35 rfl rfl (hIH (d + 1) c1 (by omega) (by omega)) ⟨rfl, rfl, trivial⟩ rfl rfl rfl rfl (lt rfl) ?_
    refine hits_nil ?_
    refine in_next ?_
    refine to_next ?_
    refine hits_region ?_
    refine sq (f_bin rfl rfl (iT (((IntWalk.i64_in _ (by omega)).trans (by omega) : _ = ((k + 1 : Nat) : Int)))) (lt rfl)) rfl rfl ?_
    refine sq (f_move rfl (lt rfl)) rfl rfl ?_
    refine hits_nil ?_
    refine to_next ?_
    refine round_end (k + 1, exprsC yar (d + 1) c1) ⟨by simp only; omega, by simp only; omega, hJ⟩ (by simp only; omega) ⟨rfl, rfl, rfl, rfl, rfl, rfl, rfl, rfl, trivial⟩ rfl
  · obtain rfl : k = l.length := by omega
    rw [List.drop_length, exF] at hJ
    refine hits_region ?_
    refine sq (f_bin rfl rfl (bT (decide_eq_false (by omega))) (lt rfl)) rfl rfl ?_
    refine hits_nil ?_
    refine to_next ?_
    refine hits_seq ?_
    refine hits_cond rfl (fun c0 => absurd c0 Bool.false_ne_true) (fun c0 => ?_)
    refine hits_exit ?_
    refine to_exit ?_
    refine to_exit ?_
    refine in_hit rfl ?_
    exact hits_doneB (.inr rfl) rfl rfl rfl rfl rfl ⟨by rw [← hJ]; rfl, by rw [← hJ]; rfl, trivial⟩ rfl
mutual
theorem ce_all : ∀ x : Ex, CE (argsOf x)
  | .mk _ _ _ _ _ _ _ _ args _ => fun d c h1 h3 => exprs_c args (ces_all args) d c h1 h3
theorem ces_all : ∀ l : List Ex, ∀ x ∈ l, CE (argsOf x)
  | [], x, h => by cases h
  | y :: l, x, h => by
    by_cases hx : x = y
    · rw [hx]; exact ce_all y
    · exact ces_all l x (by rcases List.mem_cons.mp h with h | h; exact absurd h hx; exact h)
end
theorem ce (l : List Ex) : CE l := fun d c h1 h3 => exprs_c l (ces_all l) d c h1 h3
set_option maxRecDepth 100000 in
theorem stmts_c (l : List Sm) (IHb : ∀ x ∈ l, CS (bodyOf x)) (IHe : ∀ x ∈ l, CS (elsOf x)) (d : Nat) (c : Ct) (h1 : d ≤ c.1 + 3) (h3 : (stmtsC l d c).1 ≤ big) : CallsB Tryz.prog Lw 36 [nD c.1, nD c.2] [.list 9 (smDs l), nD d] [nD (stmtsC l d c).1, nD (stmtsC l d c).2] (.tup []) := by
  have hb := bigE
  have h0 := stmtsC_le l d c
  have hll := smDs_len l
  refine callsB_of Tryz.func36 rfl Tryz.ntmps36 rfl rfl fun w0 S0 b stab => ?_
  refine hits_seq ?_
  refine hits_region ?_
  refine sq (f_move rfl (lt rfl)) rfl rfl ?_
  refine sq (f_move rfl (lt rfl)) rfl rfl ?_
  refine sq (f_lenListN rfl rfl un60 hll (lt rfl)) rfl rfl ?_
  refine sq (f_move rfl (lt rfl)) rfl rfl ?_
  refine sq_callB en34 rfl rfl (parts_c l.length d c (by show c.1 + l.length ≤ 2 * big; omega)) ⟨rfl, rfl, trivial⟩ rfl rfl rfl rfl (lt rfl) ?_
  refine hits_nil ?_
  refine to_next ?_
  refine hits_seq ?_
  refine hits_region ?_
  refine sq (f_move rfl (lt rfl)) rfl rfl ?_
  refine sq (f_lenListN rfl rfl un60 hll (lt rfl)) rfl rfl ?_
  refine sq (f_move rfl (lt rfl)) rfl rfl ?_
  refine hits_nil ?_
  refine to_next ?_
  refine hits_block ?_
  refine hits_loop (fun x : Nat × Ct => [(.slot 0, some (.ptr 1000000 0)), (.box 1000000, some (.ptr 1000000 0)), (.cell 1000000 0, some (.d (nD (x.2).1))), (.cell 1000000 1, some (.d (nD (x.2).2))), (.slot 2, some (.d (nD d))), (.slot 13, some (.d (.list 9 (smDs l)))), (.slot 14, some (.d (nD l.length))), (.slot 15, some (.d (nD (x.1))))]) (fun x : Nat × Ct => x.1 ≤ l.length ∧ c.1 + l.length ≤ x.2.1 ∧ smF (l.drop x.1) (d + 1) x.2 = stmtsC l d c) (fun x : Nat × Ct => l.length - x.1) (0, partsC l.length d c) ⟨Nat.zero_le _, Nat.le_refl _, by rw [List.drop_zero]; rfl⟩ ⟨rfl, rfl, rfl, rfl, rfl, rfl, rfl, rfl, trivial⟩ rfl ?_
  intro x hx0
  obtain ⟨k, c1⟩ := x
  obtain ⟨hk0, hc1, hJ⟩ := hx0
  change k ≤ l.length at hk0
  change c.1 + l.length ≤ c1.1 at hc1
  change smF (l.drop k) (d + 1) c1 = stmtsC l d c at hJ
  change Hits _ [(.slot 0, some (.ptr 1000000 0)), (.box 1000000, some (.ptr 1000000 0)), (.cell 1000000 0, some (.d (nD (c1).1))), (.cell 1000000 1, some (.d (nD (c1).2))), (.slot 2, some (.d (nD d))), (.slot 13, some (.d (.list 9 (smDs l)))), (.slot 14, some (.d (nD l.length))), (.slot 15, some (.d (nD (k))))] _
  refine hits_seq ?_
  by_cases hk : k < l.length
  · obtain ⟨y, hx⟩ : ∃ y, l[k]? = some y := ⟨_, List.getElem?_eq_getElem hk⟩
    have hmem := List.mem_of_getElem? hx
    have hat := smDs_at hx
    rw [list_at hx, smF, smA_parts] at hJ
    have hIb := IHb y hmem
    have hIe := IHe y hmem
    obtain ⟨ykd, ynm, yfl, yarr, yn, yar, ybd, yel, yln⟩ := y
    change CS ybd at hIb
    change CS yel at hIe
    change smF (l.drop (k + 1)) (d + 1) (stmtsC yel (d + 1) (stmtsC ybd (d + 1) (exprsC yar (d + 1) c1))) = stmtsC l d c at hJ
    have h5 := smF_le (l.drop (k + 1)) (d + 1) (stmtsC yel (d + 1) (stmtsC ybd (d + 1) (exprsC yar (d + 1) c1)))
    have h6 := exprsC_le yar (d + 1) c1
    have h7 := stmtsC_le ybd (d + 1) (exprsC yar (d + 1) c1)
    have h8 := stmtsC_le yel (d + 1) (stmtsC ybd (d + 1) (exprsC yar (d + 1) c1))
    rw [hJ] at h5
    refine hits_region ?_
    refine sq (f_bin rfl rfl (bT (decide_eq_true (by omega))) (lt rfl)) rfl rfl ?_
    refine hits_nil ?_
    refine to_next ?_
    refine hits_seq ?_
    refine hits_cond rfl (fun c0 => ?_) (fun c0 => absurd c0 Bool.false_ne_true.symm)
    refine hits_skip ?_
    refine to_next ?_
    refine hits_seq ?_
    refine hits_block ?_
    refine hits_seq ?_
    refine hits_region ?_
    refine sq (f_idxList rfl rfl rfl un60 kd65 (Int.natCast_nonneg _) hat (lt rfl)) rfl rfl ?_
    refine sq (f_load kd65 rfl rfl (lt rfl)) rfl rfl ?_
    refine sq (f_alloc zc65 (lt rfl)) rfl rfl ?_
    refine sq (f_store kd65 rfl rfl rfl rfl rfl) rfl rfl ?_
    refine hits_nil ?_
    refine to_next ?_
    refine hits_seq ?_
    refine hits_region ?_
    refine sq (f_move rfl (lt rfl)) rfl rfl ?_
    refine sq (f_fieldAddr rfl kf65_5 rfl (lt rfl)) rfl rfl ?_
    refine sq (f_load kd44 rfl rfl (lt rfl)) rfl rfl ?_
    refine sq (f_move rfl (lt rfl)) rfl rfl ?_
    refine sq (f_bin rfl rfl (iT (((IntWalk.i64_in _ (by omega)).trans (by omega) : _ = ((d + 1 : Nat) : Int)))) (lt rfl)) rfl rfl ?_
    refine sq_callB en35 rfl rfl (ce yar (d + 1) c1 (by omega) (by omega)) ⟨rfl, rfl, trivial⟩ rfl rfl rfl rfl (lt rfl) ?_
    refine hits_nil ?_
    refine to_next ?_
    refine hits_seq ?_
    refine hits_region ?_
    refine sq (f_move rfl (lt rfl)) rfl rfl ?_
    refine sq (f_fieldAddr rfl kf65_6 rfl (lt rfl)) rfl rfl ?_
    refine sq (f_load kd60 rfl rfl (lt rfl)) rfl rfl ?_
    refine sq (f_move rfl (lt rfl)) rfl rfl ?_
    refine sq (f_bin rfl rfl (iT (((IntWalk.i64_in _ (by omega)).trans (by omega) : _ = ((d + 1 : Nat) : Int)))) (lt rfl)) rfl rfl ?_
    refine sq_callB en36 rfl rfl (hIb (d + 1) (exprsC yar (d + 1) c1) (by omega) (by omega)) ⟨rfl, rfl, trivial⟩ rfl rfl rfl rfl (lt rfl) ?_
    refine hits_nil ?_
    refine to_next ?_
    refine hits_region ?_
    refine sq (f_move rfl (lt rfl)) rfl rfl ?_
    refine sq (f_fieldAddr rfl kf65_7 rfl (lt rfl)) rfl rfl ?_
    refine sq (f_load kd60 rfl rfl (lt rfl)) rfl rfl ?_
    refine sq (f_move rfl (lt rfl)) rfl rfl ?_
    refine sq (f_bin rfl rfl (iT (((IntWalk.i64_in _ (by omega)).trans (by omega) : _ = ((d + 1 : Nat) : Int)))) (lt rfl)) rfl rfl ?_
    refine sq_callB en36 rfl rfl (hIe (d + 1) (stmtsC ybd (d + 1) (exprsC yar (d + 1) c1)) (by omega) (by omega)) ⟨rfl, rfl, trivial⟩ rfl rfl rfl rfl (lt rfl) ?_
    refine hits_nil ?_
    refine in_next ?_
    refine to_next ?_
    refine hits_region ?_
    refine sq (f_bin rfl rfl (iT (((IntWalk.i64_in _ (by omega)).trans (by omega) : _ = ((k + 1 : Nat) : Int)))) (lt rfl)) rfl rfl ?_
    refine sq (f_move rfl (lt rfl)) rfl rfl ?_
    refine hits_nil ?_
    refine to_next ?_
    refine round_end (k + 1, stmtsC yel (d + 1) (stmtsC ybd (d + 1) (exprsC yar (d + 1) c1))) ⟨by simp only; omega, by simp only; omega, hJ⟩ (by simp only; omega) ⟨rfl, rfl, rfl, rfl, rfl, rfl, rfl, rfl, trivial⟩ rfl
  · obtain rfl : k = l.length := by omega
    rw [List.drop_length, smF] at hJ
    refine hits_region ?_
    refine sq (f_bin rfl rfl (bT (decide_eq_false (by omega))) (lt rfl)) rfl rfl ?_
    refine hits_nil ?_
    refine to_next ?_
    refine hits_seq ?_
    refine hits_cond rfl (fun c0 => absurd c0 Bool.false_ne_true) (fun c0 => ?_)
    refine hits_exit ?_
    refine to_exit ?_
    refine to_exit ?_
    refine in_hit rfl ?_
    exact hits_doneB (.inr rfl) rfl rfl rfl rfl rfl ⟨by rw [← hJ]; rfl, by rw [← hJ]; rfl, trivial⟩ rfl
mutual
theorem cs_all : ∀ x : Sm, CS (bodyOf x) ∧ CS (elsOf x)
  | .mk _ _ _ _ _ _ body els _ => ⟨fun d c h1 h3 => stmts_c body (fun x hx => (css_all body x hx).1) (fun x hx => (css_all body x hx).2) d c h1 h3, fun d c h1 h3 => stmts_c els (fun x hx => (css_all els x hx).1) (fun x hx => (css_all els x hx).2) d c h1 h3⟩
theorem css_all : ∀ l : List Sm, ∀ x ∈ l, CS (bodyOf x) ∧ CS (elsOf x)
  | [], x, h => by cases h
  | y :: l, x, h => by
    by_cases hx : x = y
    · rw [hx]; exact cs_all y
    · exact css_all l x (by rcases List.mem_cons.mp h with h | h; exact absurd h hx; exact h)
end
theorem cs (l : List Sm) : CS l := fun d c h1 h3 => stmts_c l (fun x hx => (css_all l x hx).1) (fun x hx => (css_all l x hx).2) d c h1 h3
set_option maxHeartbeats 4000000 in
set_option maxHeartbeats 4000000 in
set_option maxRecDepth 100000 in
theorem small_c (ds : List Dc) (hB : (progC ds).1 ≤ big) : CallsP Tryz.prog Lw 16 [.list 15 (ds.map dcD)] (.sc (.bool (smallB ds))) := by
  have hb := bigE
  have h0 := declsF_le ds (partsC ds.length 1 (0, 0))
  have hp : (partsC ds.length 1 (0, 0)).1 = 0 + ds.length := rfl
  change (partsC ds.length 1 (0, 0)).1 ≤ (progC ds).1 at h0
  refine callsP_of gs_lw Tryz.func16 rfl Tryz.ntmps16 rfl fun w0 S0 stab => ?_
  refine hits_seq ?_
  refine hits_region ?_
  refine sq (f_assign rfl (lt rfl)) rfl rfl ?_
  refine hits_nil ?_
  refine to_next ?_
  refine hits_seq ?_
  refine hits_region ?_
  refine sq (f_build bu96 rfl rfl (lt rfl)) rfl rfl ?_
  refine sq (f_box rfl rfl (lt rfl)) rfl rfl ?_
  refine sq (f_assign rfl (lt rfl)) rfl rfl ?_
  refine hits_nil ?_
  refine to_next ?_
  refine hits_seq ?_
  refine hits_region ?_
  refine sq (f_move rfl (lt rfl)) rfl rfl ?_
  refine sq (f_move rfl (lt rfl)) rfl rfl ?_
  refine sq (f_lenListN rfl rfl un28 (List.length_map _) (lt rfl)) rfl rfl ?_
  refine sq_callB en34 rfl rfl (parts_c ds.length 1 (((0, 0) : Ct)) (by show (((0, 0) : Ct)).1 + ds.length ≤ 2 * big; omega)) ⟨rfl, rfl, trivial⟩ rfl rfl rfl rfl (lt rfl) ?_
  refine hits_nil ?_
  refine to_next ?_
  refine hits_seq ?_
  refine hits_seq ?_
  refine hits_region ?_
  refine sq (f_move rfl (lt rfl)) rfl rfl ?_
  refine sq (f_lenListN rfl rfl un28 (List.length_map _) (lt rfl)) rfl rfl ?_
  refine sq (f_move rfl (lt rfl)) rfl rfl ?_
  refine hits_nil ?_
  refine to_next ?_
  refine hits_block ?_
  refine hits_loop (fun x : Nat × Ct => [(.slot 3, some (.ptr 11 0)), (.box 11, some (.ptr 11 0)), (.cell 11 0, some (.d (nD (x.2).1))), (.cell 11 1, some (.d (nD (x.2).2))), (.slot 16, some (.d (.list 15 (ds.map dcD)))), (.slot 17, some (.d (nD ds.length))), (.slot 18, some (.d (nD (x.1))))]) (fun x : Nat × Ct => x.1 ≤ ds.length ∧ declsF (ds.drop x.1) x.2 = progC ds) (fun x : Nat × Ct => ds.length - x.1) (0, partsC ds.length 1 (0, 0)) ⟨Nat.zero_le _, by rw [List.drop_zero]; rfl⟩ ⟨rfl, rfl, rfl, rfl, rfl, rfl, rfl, trivial⟩ rfl ?_
  intro x hx0
  obtain ⟨k, ct1⟩ := x
  obtain ⟨hk0, hJ⟩ := hx0
  change k ≤ ds.length at hk0
  change declsF (ds.drop k) ct1 = progC ds at hJ
  change Hits _ [(.slot 3, some (.ptr 11 0)), (.box 11, some (.ptr 11 0)), (.cell 11 0, some (.d (nD (ct1).1))), (.cell 11 1, some (.d (nD (ct1).2))), (.slot 16, some (.d (.list 15 (ds.map dcD)))), (.slot 17, some (.d (nD ds.length))), (.slot 18, some (.d (nD (k))))] _
  refine hits_seq ?_
  by_cases hk : k < ds.length
  · obtain ⟨dd, hx⟩ : ∃ y, ds[k]? = some y := ⟨_, List.getElem?_eq_getElem hk⟩
    have hat := map_at (g := dcD) hx
    rw [list_at hx, declsF] at hJ
    have h7 := declsF_le (ds.drop (k + 1)) (declC dd ct1)
    rw [hJ] at h7
    obtain ⟨h4, h5, h6⟩ := declC_le dd ct1
    have h8 : (declC dd ct1).1 ≤ big := by omega
    refine hits_region ?_
    refine sq (f_bin rfl rfl (bT (decide_eq_true (by omega))) (lt rfl)) rfl rfl ?_
    refine hits_nil ?_
    refine to_next ?_
    refine hits_seq ?_
    refine hits_cond rfl (fun c0 => ?_) (fun c0 => absurd c0 Bool.false_ne_true.symm)
    refine hits_skip ?_
    refine to_next ?_
    refine hits_seq ?_
    refine hits_block ?_
    refine hits_seq ?_
    refine hits_region ?_
    refine sq (f_idxList rfl rfl rfl un28 kd62 (Int.natCast_nonneg _) hat (lt rfl)) rfl rfl ?_
    refine sq (f_load kd62 rfl rfl (lt rfl)) rfl rfl ?_
    refine sq (f_alloc zc62 (lt rfl)) rfl rfl ?_
    refine sq (f_store kd62 rfl rfl rfl rfl rfl) rfl rfl ?_
    refine hits_nil ?_
    refine to_next ?_
    refine hits_seq ?_
    refine hits_region ?_
    refine sq (f_move rfl (lt rfl)) rfl rfl ?_
    refine sq (f_fieldAddr rfl kf62_2 rfl (lt rfl)) rfl rfl ?_
    refine sq (f_load kd56 rfl rfl (lt rfl)) rfl rfl ?_
    refine sq (f_lenListN rfl rfl un56 (List.length_map _) (lt rfl)) rfl rfl ?_
    refine sq_callB en34 rfl rfl (parts_c dd.fields.length 2 (ct1) (by show (ct1).1 + dd.fields.length ≤ 2 * big; omega)) ⟨rfl, rfl, trivial⟩ rfl rfl rfl rfl (lt rfl) ?_
    refine hits_nil ?_
    refine to_next ?_
    refine hits_seq ?_
    refine hits_region ?_
    refine sq (f_move rfl (lt rfl)) rfl rfl ?_
    refine sq (f_fieldAddr rfl kf62_7 rfl (lt rfl)) rfl rfl ?_
    refine sq (f_load kd57 rfl rfl (lt rfl)) rfl rfl ?_
    refine sq (f_lenListN rfl rfl un57 (List.length_map _) (lt rfl)) rfl rfl ?_
    refine sq_callB en34 rfl rfl (parts_c dd.states.length 2 (partsC dd.fields.length 2 ct1) (by show ct1.1 + dd.fields.length + dd.states.length ≤ 2 * big; omega)) ⟨rfl, rfl, trivial⟩ rfl rfl rfl rfl (lt rfl) ?_
    refine hits_nil ?_
    refine to_next ?_
    refine hits_seq ?_
    refine hits_seq ?_
    refine hits_region ?_
    refine sq (f_fieldAddr rfl kf62_7 rfl (lt rfl)) rfl rfl ?_
    refine sq (f_load kd57 rfl rfl (lt rfl)) rfl rfl ?_
    refine sq (f_lenListN rfl rfl un57 (List.length_map _) (lt rfl)) rfl rfl ?_
    refine sq (f_move rfl (lt rfl)) rfl rfl ?_
    refine hits_nil ?_
    refine to_next ?_
    refine hits_block ?_
    refine hits_loop (fun x : Nat × Ct => [(.slot 3, some (.ptr 11 0)), (.box 11, some (.ptr 11 0)), (.cell 11 0, some (.d (nD (x.2).1))), (.cell 11 1, some (.d (nD (x.2).2))), (.slot 16, some (.d (.list 15 (ds.map dcD)))), (.slot 17, some (.d (nD ds.length))), (.slot 18, some (.d (nD (k)))), (.slot 5, some (.ptr 5 0)), (.box 5, some (.ptr 5 0)), (.cell 5 8, some (.d (.list 11 (dd.keys.map kdD)))), (.cell 5 12, some (.d (.list 9 (dd.body.map smD)))), (.slot 33, some (.d (.list 6 (dd.states.map stD)))), (.slot 34, some (.d (nD dd.states.length))), (.slot 35, some (.d (nD (x.1))))]) (fun x : Nat × Ct => x.1 ≤ dd.states.length ∧ statesF (dd.states.drop x.1) x.2 = statesF dd.states (partsC dd.states.length 2 (partsC dd.fields.length 2 ct1))) (fun x : Nat × Ct => dd.states.length - x.1) (0, partsC dd.states.length 2 (partsC dd.fields.length 2 ct1)) ⟨Nat.zero_le _, by rw [List.drop_zero]⟩ ⟨rfl, rfl, rfl, rfl, rfl, rfl, rfl, rfl, rfl, rfl, rfl, rfl, rfl, rfl, trivial⟩ rfl ?_
    intro x hx0
    obtain ⟨j, ct2⟩ := x
    obtain ⟨hj0, hS⟩ := hx0
    change j ≤ dd.states.length at hj0
    change statesF (dd.states.drop j) ct2 = statesF dd.states (partsC dd.states.length 2 (partsC dd.fields.length 2 ct1)) at hS
    change Hits _ [(.slot 3, some (.ptr 11 0)), (.box 11, some (.ptr 11 0)), (.cell 11 0, some (.d (nD (ct2).1))), (.cell 11 1, some (.d (nD (ct2).2))), (.slot 16, some (.d (.list 15 (ds.map dcD)))), (.slot 17, some (.d (nD ds.length))), (.slot 18, some (.d (nD (k)))), (.slot 5, some (.ptr 5 0)), (.box 5, some (.ptr 5 0)), (.cell 5 8, some (.d (.list 11 (dd.keys.map kdD)))), (.cell 5 12, some (.d (.list 9 (dd.body.map smD)))), (.slot 33, some (.d (.list 6 (dd.states.map stD)))), (.slot 34, some (.d (nD dd.states.length))), (.slot 35, some (.d (nD (j))))] _
    refine hits_seq ?_
    by_cases hj : j < dd.states.length
    · obtain ⟨y1, hx1⟩ : ∃ y, dd.states[j]? = some y := ⟨_, List.getElem?_eq_getElem hj⟩
      have hat1 := map_at (g := stD) hx1
      rw [list_at hx1, statesF] at hS
      have h9 := statesF_le (dd.states.drop (j + 1)) (stateC y1 ct2)
      rw [hS] at h9
      have h10 := stateC_le y1 ct2
      have hce := ce y1.sel 3 (partsC y1.cases.length 3 ct2) (by omega) (by show (stateC y1 ct2).1 ≤ big; omega)
      rw [exDs_map] at hce
      refine hits_region ?_
      refine sq (f_bin rfl rfl (bT (decide_eq_true (by omega))) (lt rfl)) rfl rfl ?_
      refine hits_nil ?_
      refine to_next ?_
      refine hits_seq ?_
      refine hits_cond rfl (fun c1 => ?_) (fun c1 => absurd c1 Bool.false_ne_true.symm)
      refine hits_skip ?_
      refine to_next ?_
      refine hits_seq ?_
      refine hits_block ?_
      refine hits_seq ?_
      refine hits_region ?_
      refine sq (f_idxList rfl rfl rfl un57 kd100 (Int.natCast_nonneg _) hat1 (lt rfl)) rfl rfl ?_
      refine sq (f_load kd100 rfl rfl (lt rfl)) rfl rfl ?_
      refine sq (f_alloc zc100 (lt rfl)) rfl rfl ?_
      refine sq (f_store kd100 rfl rfl rfl rfl rfl) rfl rfl ?_
      refine hits_nil ?_
      refine to_next ?_
      refine hits_seq ?_
      refine hits_region ?_
      refine sq (f_move rfl (lt rfl)) rfl rfl ?_
      refine sq (f_fieldAddr rfl kf100_3 rfl (lt rfl)) rfl rfl ?_
      refine sq (f_load kd98 rfl rfl (lt rfl)) rfl rfl ?_
      refine sq (f_lenListN rfl rfl un98 (List.length_map _) (lt rfl)) rfl rfl ?_
      refine sq_callB en34 rfl rfl (parts_c y1.cases.length 3 (ct2) (by show (ct2).1 + y1.cases.length ≤ 2 * big; omega)) ⟨rfl, rfl, trivial⟩ rfl rfl rfl rfl (lt rfl) ?_
      refine hits_nil ?_
      refine to_next ?_
      refine hits_region ?_
      refine sq (f_move rfl (lt rfl)) rfl rfl ?_
      refine sq (f_fieldAddr rfl kf100_2 rfl (lt rfl)) rfl rfl ?_
      refine sq (f_load kd44 rfl rfl (lt rfl)) rfl rfl ?_
      refine sq_callB en35 rfl rfl (hce) ⟨rfl, rfl, trivial⟩ rfl rfl rfl rfl (lt rfl) ?_
      refine hits_nil ?_
      refine in_next ?_
      refine to_next ?_
      refine hits_region ?_
      refine sq (f_bin rfl rfl (iT (((IntWalk.i64_in _ (by omega)).trans (by omega) : _ = ((j + 1 : Nat) : Int)))) (lt rfl)) rfl rfl ?_
      refine sq (f_move rfl (lt rfl)) rfl rfl ?_
      refine hits_nil ?_
      refine to_next ?_
      refine round_end (j + 1, stateC y1 ct2) ⟨by simp only; omega, hS⟩ (by simp only; omega) ⟨rfl, rfl, rfl, rfl, rfl, rfl, rfl, rfl, rfl, rfl, rfl, rfl, rfl, rfl, trivial⟩ rfl
    · obtain rfl : j = dd.states.length := by omega
      rw [List.drop_length, statesF] at hS
      subst hS
      refine hits_region ?_
      refine sq (f_bin rfl rfl (bT (decide_eq_false (by omega))) (lt rfl)) rfl rfl ?_
      refine hits_nil ?_
      refine to_next ?_
      refine hits_seq ?_
      refine hits_cond rfl (fun c1 => absurd c1 Bool.false_ne_true) (fun c1 => ?_)
      refine hits_exit ?_
      refine to_exit ?_
      refine to_exit ?_
      refine in_hit rfl ?_
      refine to_next ?_
      refine hits_seq ?_
      refine hits_seq ?_
      refine hits_region ?_
      refine sq (f_fieldAddr rfl kf62_8 rfl (lt rfl)) rfl rfl ?_
      refine sq (f_load kd58 rfl rfl (lt rfl)) rfl rfl ?_
      refine sq (f_lenListN rfl rfl un58 (List.length_map _) (lt rfl)) rfl rfl ?_
      refine sq (f_move rfl (lt rfl)) rfl rfl ?_
      refine hits_nil ?_
      refine to_next ?_
      refine hits_block ?_
      refine hits_loop (fun x : Nat × Ct => [(.slot 3, some (.ptr 11 0)), (.box 11, some (.ptr 11 0)), (.cell 11 0, some (.d (nD (x.2).1))), (.cell 11 1, some (.d (nD (x.2).2))), (.slot 16, some (.d (.list 15 (ds.map dcD)))), (.slot 17, some (.d (nD ds.length))), (.slot 18, some (.d (nD (k)))), (.slot 5, some (.ptr 5 0)), (.box 5, some (.ptr 5 0)), (.cell 5 12, some (.d (.list 9 (dd.body.map smD)))), (.slot 50, some (.d (.list 11 (dd.keys.map kdD)))), (.slot 51, some (.d (nD dd.keys.length))), (.slot 52, some (.d (nD (x.1))))]) (fun x : Nat × Ct => x.1 ≤ dd.keys.length ∧ keysF (dd.keys.drop x.1) x.2 = keysF dd.keys (statesF dd.states (partsC dd.states.length 2 (partsC dd.fields.length 2 ct1)))) (fun x : Nat × Ct => dd.keys.length - x.1) (0, statesF dd.states (partsC dd.states.length 2 (partsC dd.fields.length 2 ct1))) ⟨Nat.zero_le _, by rw [List.drop_zero]⟩ ⟨rfl, rfl, rfl, rfl, rfl, rfl, rfl, rfl, rfl, rfl, rfl, rfl, rfl, trivial⟩ rfl ?_
      intro x hx0
      obtain ⟨j, ct3⟩ := x
      obtain ⟨hj0, hK⟩ := hx0
      change j ≤ dd.keys.length at hj0
      change keysF (dd.keys.drop j) ct3 = keysF dd.keys (statesF dd.states (partsC dd.states.length 2 (partsC dd.fields.length 2 ct1))) at hK
      change Hits _ [(.slot 3, some (.ptr 11 0)), (.box 11, some (.ptr 11 0)), (.cell 11 0, some (.d (nD (ct3).1))), (.cell 11 1, some (.d (nD (ct3).2))), (.slot 16, some (.d (.list 15 (ds.map dcD)))), (.slot 17, some (.d (nD ds.length))), (.slot 18, some (.d (nD (k)))), (.slot 5, some (.ptr 5 0)), (.box 5, some (.ptr 5 0)), (.cell 5 12, some (.d (.list 9 (dd.body.map smD)))), (.slot 50, some (.d (.list 11 (dd.keys.map kdD)))), (.slot 51, some (.d (nD dd.keys.length))), (.slot 52, some (.d (nD (j))))] _
      refine hits_seq ?_
      by_cases hj : j < dd.keys.length
      · obtain ⟨y2, hx2⟩ : ∃ y, dd.keys[j]? = some y := ⟨_, List.getElem?_eq_getElem hj⟩
        have hat2 := map_at (g := kdD) hx2
        rw [list_at hx2, keysF] at hK
        obtain ⟨⟨yop, ylw, ylh, yll, ynm, yfl, yn, ym, yar, yln⟩, ykk⟩ := y2
        change keysF (dd.keys.drop (j + 1)) (exprsC [Ex.mk yop ylw ylh yll ynm yfl yn ym yar yln] 2 ct3) = keysF dd.keys (statesF dd.states (partsC dd.states.length 2 (partsC dd.fields.length 2 ct1))) at hK
        have h9 := keysF_le (dd.keys.drop (j + 1)) (exprsC [Ex.mk yop ylw ylh yll ynm yfl yn ym yar yln] 2 ct3)
        rw [hK] at h9
        have h9b := keysF_le dd.keys (statesF dd.states (partsC dd.states.length 2 (partsC dd.fields.length 2 ct1)))
        have hce := ce [Ex.mk yop ylw ylh yll ynm yfl yn ym yar yln] 2 ct3 (by omega) (by omega)
        rw [exDs, exDs, exD_cs] at hce
        refine hits_region ?_
        refine sq (f_bin rfl rfl (bT (decide_eq_true (by omega))) (lt rfl)) rfl rfl ?_
        refine hits_nil ?_
        refine to_next ?_
        refine hits_seq ?_
        refine hits_cond rfl (fun c2 => ?_) (fun c2 => absurd c2 Bool.false_ne_true.symm)
        refine hits_skip ?_
        refine to_next ?_
        refine hits_seq ?_
        refine hits_block ?_
        refine hits_seq ?_
        refine hits_region ?_
        refine sq (f_idxList rfl rfl rfl un58 kd104 (Int.natCast_nonneg _) hat2 (lt rfl)) rfl rfl ?_
        refine sq (f_load kd104 rfl rfl (lt rfl)) rfl rfl ?_
        refine sq (f_alloc zc104 (lt rfl)) rfl rfl ?_
        refine sq (f_store kd104 rfl rfl rfl rfl rfl) rfl rfl ?_
        refine hits_nil ?_
        refine to_next ?_
        refine hits_region ?_
        refine sq (f_move rfl (lt rfl)) rfl rfl ?_
        refine sq (f_fieldAddr rfl kf104_0 rfl (lt rfl)) rfl rfl ?_
        refine sq (f_load kd46 rfl rfl (lt rfl)) rfl rfl ?_
        refine sq (f_buildSlice sk44 rfl rfl rfl rfl rfl rfl (by decide) (by decide) (lt rfl)) rfl rfl ?_
        refine sq_callB en35 rfl rfl (hce) ⟨rfl, rfl, trivial⟩ rfl rfl rfl rfl (lt rfl) ?_
        refine hits_nil ?_
        refine in_next ?_
        refine to_next ?_
        refine hits_region ?_
        refine sq (f_bin rfl rfl (iT (((IntWalk.i64_in _ (by omega)).trans (by omega) : _ = ((j + 1 : Nat) : Int)))) (lt rfl)) rfl rfl ?_
        refine sq (f_move rfl (lt rfl)) rfl rfl ?_
        refine hits_nil ?_
        refine to_next ?_
        refine round_end (j + 1, exprsC [Ex.mk yop ylw ylh yll ynm yfl yn ym yar yln] 2 ct3) ⟨by simp only; omega, hK⟩ (by simp only; omega) ⟨rfl, rfl, rfl, rfl, rfl, rfl, rfl, rfl, rfl, rfl, rfl, rfl, rfl, trivial⟩ rfl
      · obtain rfl : j = dd.keys.length := by omega
        rw [List.drop_length, keysF] at hK
        subst hK
        have hcs := cs dd.body 2 (keysF dd.keys (statesF dd.states (partsC dd.states.length 2 (partsC dd.fields.length 2 ct1)))) (by omega) (by unfold declC at h8; omega)
        rw [smDs_map] at hcs
        refine hits_region ?_
        refine sq (f_bin rfl rfl (bT (decide_eq_false (by omega))) (lt rfl)) rfl rfl ?_
        refine hits_nil ?_
        refine to_next ?_
        refine hits_seq ?_
        refine hits_cond rfl (fun c2 => absurd c2 Bool.false_ne_true) (fun c2 => ?_)
        refine hits_exit ?_
        refine to_exit ?_
        refine to_exit ?_
        refine in_hit rfl ?_
        refine to_next ?_
        refine hits_region ?_
        refine sq (f_move rfl (lt rfl)) rfl rfl ?_
        refine sq (f_fieldAddr rfl kf62_12 rfl (lt rfl)) rfl rfl ?_
        refine sq (f_load kd60 rfl rfl (lt rfl)) rfl rfl ?_
        refine sq_callB en36 rfl rfl (hcs) ⟨rfl, rfl, trivial⟩ rfl rfl rfl rfl (lt rfl) ?_
        refine hits_nil ?_
        refine in_next ?_
        refine to_next ?_
        refine hits_region ?_
        refine sq (f_bin rfl rfl (iT (((IntWalk.i64_in _ (by omega)).trans (by omega) : _ = ((k + 1 : Nat) : Int)))) (lt rfl)) rfl rfl ?_
        refine sq (f_move rfl (lt rfl)) rfl rfl ?_
        refine hits_nil ?_
        refine to_next ?_
        refine round_end (k + 1, declC dd ct1) ⟨by simp only; omega, hJ⟩ (by simp only; omega) ⟨rfl, rfl, rfl, rfl, rfl, rfl, rfl, trivial⟩ rfl
  · obtain rfl : k = ds.length := by omega
    rw [List.drop_length, declsF] at hJ
    refine hits_region ?_
    refine sq (f_bin rfl rfl (bT (decide_eq_false (by omega))) (lt rfl)) rfl rfl ?_
    refine hits_nil ?_
    refine to_next ?_
    refine hits_seq ?_
    refine hits_cond rfl (fun c0 => absurd c0 Bool.false_ne_true) (fun c0 => ?_)
    refine hits_exit ?_
    refine to_exit ?_
    refine to_exit ?_
    refine in_hit rfl ?_
    refine to_next ?_
    refine hits_seq ?_
    by_cases h11 : (progC ds).1 ≤ 4096
    · by_cases h12 : (progC ds).2 ≤ 64
      · refine hits_region ?_
        refine sq (f_move rfl (lt rfl)) rfl rfl ?_
        refine sq (f_nil rfl rfl (lt rfl)) rfl rfl ?_
        refine sq (f_fieldAddr rfl kf96_0 rfl (lt rfl)) rfl rfl ?_
        refine sq (f_load kd3 rfl rfl (lt rfl)) rfl rfl ?_
        refine sq (f_bin rfl rfl (bT (decide_eq_true (by rw [hJ]; omega))) (lt rfl)) rfl rfl ?_
        refine sq (f_move rfl (lt rfl)) rfl rfl ?_
        refine sq_yes (f_move rfl (lt rfl)) rfl rfl rfl rfl (lt rfl) ?_
        refine sq_yes (f_nil rfl rfl (lt rfl)) rfl rfl rfl rfl (lt rfl) ?_
        refine sq_yes (f_fieldAddr rfl kf96_1 rfl (lt rfl)) rfl rfl rfl rfl (lt rfl) ?_
        refine sq_yes (f_load kd3 rfl rfl (lt rfl)) rfl rfl rfl rfl (lt rfl) ?_
        refine sq_yes (f_bin rfl rfl (bT (decide_eq_true (by rw [hJ]; omega))) (lt rfl)) rfl rfl rfl rfl (lt rfl) ?_
        refine sq (f_pick rfl rfl (lt rfl)) rfl rfl ?_
        refine sq (f_assign rfl (lt rfl)) rfl rfl ?_
        refine hits_nil ?_
        refine to_next ?_
        refine hits_ret ?_
        exact hits_done (.inl rfl) rfl rfl (by subst hJ; show D.sc (.bool _) = .sc (.bool (smallB ds)); rw [smallB, decide_eq_true h11, decide_eq_true h12]; rfl)
      · refine hits_region ?_
        refine sq (f_move rfl (lt rfl)) rfl rfl ?_
        refine sq (f_nil rfl rfl (lt rfl)) rfl rfl ?_
        refine sq (f_fieldAddr rfl kf96_0 rfl (lt rfl)) rfl rfl ?_
        refine sq (f_load kd3 rfl rfl (lt rfl)) rfl rfl ?_
        refine sq (f_bin rfl rfl (bT (decide_eq_true (by rw [hJ]; omega))) (lt rfl)) rfl rfl ?_
        refine sq (f_move rfl (lt rfl)) rfl rfl ?_
        refine sq_yes (f_move rfl (lt rfl)) rfl rfl rfl rfl (lt rfl) ?_
        refine sq_yes (f_nil rfl rfl (lt rfl)) rfl rfl rfl rfl (lt rfl) ?_
        refine sq_yes (f_fieldAddr rfl kf96_1 rfl (lt rfl)) rfl rfl rfl rfl (lt rfl) ?_
        refine sq_yes (f_load kd3 rfl rfl (lt rfl)) rfl rfl rfl rfl (lt rfl) ?_
        refine sq_yes (f_bin rfl rfl (bT (decide_eq_false (by rw [hJ]; omega))) (lt rfl)) rfl rfl rfl rfl (lt rfl) ?_
        refine sq (f_pick rfl rfl (lt rfl)) rfl rfl ?_
        refine sq (f_assign rfl (lt rfl)) rfl rfl ?_
        refine hits_nil ?_
        refine to_next ?_
        refine hits_ret ?_
        exact hits_done (.inl rfl) rfl rfl (by subst hJ; show D.sc (.bool _) = .sc (.bool (smallB ds)); rw [smallB, decide_eq_true h11, decide_eq_false h12]; rfl)
    · refine hits_region ?_
      refine sq (f_move rfl (lt rfl)) rfl rfl ?_
      refine sq (f_nil rfl rfl (lt rfl)) rfl rfl ?_
      refine sq (f_fieldAddr rfl kf96_0 rfl (lt rfl)) rfl rfl ?_
      refine sq (f_load kd3 rfl rfl (lt rfl)) rfl rfl ?_
      refine sq (f_bin rfl rfl (bT (decide_eq_false (by rw [hJ]; omega))) (lt rfl)) rfl rfl ?_
      refine sq (f_move rfl (lt rfl)) rfl rfl ?_
      refine sq_no rfl rfl rfl rfl rfl (lt rfl) (lt rfl) ?_
      refine sq_no rfl rfl rfl rfl rfl (lt rfl) (lt rfl) ?_
      refine sq_no rfl rfl rfl rfl rfl (lt rfl) (lt rfl) ?_
      refine sq_no rfl rfl rfl rfl rfl (lt rfl) (lt rfl) ?_
      refine sq_no rfl rfl rfl rfl rfl (lt rfl) (lt rfl) ?_
      refine sq (f_pick rfl rfl (lt rfl)) rfl rfl ?_
      refine sq (f_assign rfl (lt rfl)) rfl rfl ?_
      refine hits_nil ?_
      refine to_next ?_
      refine hits_ret ?_
      exact hits_done (.inl rfl) rfl rfl (by subst hJ; show D.sc (.bool _) = .sc (.bool (smallB ds)); rw [smallB, decide_eq_false h11]; rfl)
end Go.Proofs.YtbgeejmhkmjfdaaGreatDoor.Ln
