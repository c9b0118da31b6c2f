/- Parts of the walk, joined. -/
import Derived.Test.YtogodijfdkffaaaGreatDoorAbDc
import Derived.Test.YtogodijfdkffaaaGreatDoorJ8
import Derived.Tactics
import Derived.Tactics2
import Derived.Defers
import Derived.Recover
import Derived.Laws.Pointers
import Derived.Laws.NewBlocks
import Derived.RowKit3
set_option linter.unusedVariables false
set_option linter.unusedSimpArgs false
set_option maxRecDepth 100000
/- The counting of a tree's parts over data. -/
namespace Go.Proofs.YtogodijfdkffaaaGreatDoor.Ln
open Go Go.RowKit Go.Ab Go.Proofs 
theorem kf108_0 : kf Tryz.prog 108 0 = some 0 := by kernel_rfl
theorem kf108_1 : kf Tryz.prog 108 1 = some 1 := by kernel_rfl
theorem un65 : Tryz.prog.underlying 65 = some (.slice 67) := by kernel_rfl
theorem en36 : enters Tryz.prog 36 = true := by kernel_rfl
theorem en37 : enters Tryz.prog 37 = true := by kernel_rfl
theorem un54 : Tryz.prog.underlying 54 = some (.slice 70) := by kernel_rfl
theorem en38 : enters Tryz.prog 38 = true := by kernel_rfl
theorem un51 : Tryz.prog.underlying 51 = some (.slice 82) := by kernel_rfl
theorem un50 : Tryz.prog.underlying 50 = some (.slice 76) := by kernel_rfl
theorem un74 : Tryz.prog.underlying 74 = some (.slice 172) := by kernel_rfl
theorem un23 : Tryz.prog.underlying 23 = some (.slice 56) := by kernel_rfl
theorem un49 : Tryz.prog.underlying 49 = some (.slice 132) := by kernel_rfl
theorem bu108 : bk Tryz.prog 108 = some ([(0, 1), (1, 1)], [.int .i64 0, .int .i64 0]) := by kernel_rfl
abbrev Ct := Nat × Nat
def partsC (k d : Nat) (c : Ct) : Ct := (c.1 + k, if 0 < k then max c.2 d else c.2)
mutual
def exA : Ex → Nat → Ct → Ct
  | .mk _ _ _ _ _ _ _ _ args _, d, c => exF args (d + 1) (partsC args.length d c)
def exF : List Ex → Nat → Ct → Ct
  | [], _, c => c
  | x :: l, d, c => exF l d (exA x d c)
end
def exprsC (l : List Ex) (d : Nat) (c : Ct) : Ct := exF l (d + 1) (partsC l.length d c)
mutual
def smA : Sm → Nat → Ct → Ct
  | .mk _ _ _ _ _ args body els _, d, c => smF els (d + 1) (partsC els.length d (smF body (d + 1) (partsC body.length d (exprsC args d c))))
def smF : List Sm → Nat → Ct → Ct
  | [], _, c => c
  | x :: l, d, c => smF l d (smA x d c)
end
def stmtsC (l : List Sm) (d : Nat) (c : Ct) : Ct := smF l (d + 1) (partsC l.length d c)
def stateC (s : Stt) (c : Ct) : Ct := exprsC s.sel 3 (partsC s.cases.length 3 c)
def statesF : List Stt → Ct → Ct
  | [], c => c
  | s :: l, c => statesF l (stateC s c)
def keysF : List (Ex × Nat) → Ct → Ct
  | [], c => c
  | k :: l, c => keysF l (exprsC [k.1] 2 c)
def declC (d : Dc) (c : Ct) : Ct := stmtsC d.body 2 (keysF d.keys (statesF d.states (partsC d.states.length 2 (partsC d.fields.length 2 c))))
def declsF : List Dc → Ct → Ct
  | [], c => c
  | d :: l, c => declsF l (declC d c)
def progC (l : List Dc) : Ct := declsF l (partsC l.length 1 (0, 0))
def smallB (l : List Dc) : Bool := decide ((progC l).1 ≤ 4096) && decide ((progC l).2 ≤ 64)
mutual
theorem exA_le : ∀ (x : Ex) (d : Nat) (c : Ct), c.1 ≤ (exA x d c).1
  | .mk _ _ _ _ _ _ _ _ args _, d, c => by rw [exA]; exact Nat.le_trans (Nat.le_add_right _ _) (exF_le args (d + 1) (partsC args.length d c))
theorem exF_le : ∀ (l : List Ex) (d : Nat) (c : Ct), c.1 ≤ (exF l d c).1
  | [], d, c => by rw [exF]; exact Nat.le_refl _
  | x :: l, d, c => by rw [exF]; exact Nat.le_trans (exA_le x d c) (exF_le l d _)
end
theorem exprsC_le (l : List Ex) (d : Nat) (c : Ct) : c.1 + l.length ≤ (exprsC l d c).1 := exF_le l (d + 1) (partsC l.length d c)
mutual
theorem smA_le : ∀ (x : Sm) (d : Nat) (c : Ct), c.1 ≤ (smA x d c).1
  | .mk _ _ _ _ _ args body els _, d, c => by
    rw [smA]
    refine Nat.le_trans ?_ (smF_le els (d + 1) _)
    refine Nat.le_trans ?_ (Nat.le_add_right _ _)
    refine Nat.le_trans ?_ (smF_le body (d + 1) _)
    refine Nat.le_trans ?_ (Nat.le_add_right _ _)
    exact Nat.le_trans (Nat.le_add_right _ _) (exprsC_le args d c)
theorem smF_le : ∀ (l : List Sm) (d : Nat) (c : Ct), c.1 ≤ (smF l d c).1
  | [], d, c => by rw [smF]; exact Nat.le_refl _
  | x :: l, d, c => by rw [smF]; exact Nat.le_trans (smA_le x d c) (smF_le l d _)
end
theorem stmtsC_le (l : List Sm) (d : Nat) (c : Ct) : c.1 + l.length ≤ (stmtsC l d c).1 := smF_le l (d + 1) (partsC l.length d c)
theorem stateC_le (s : Stt) (c : Ct) : c.1 + s.cases.length ≤ (stateC s c).1 := Nat.le_trans (Nat.le_add_right _ _) (exprsC_le s.sel 3 (partsC s.cases.length 3 c))
theorem statesF_le : ∀ (l : List Stt) (c : Ct), c.1 ≤ (statesF l c).1
  | [], c => Nat.le_refl _
  | s :: l, c => Nat.le_trans (Nat.le_trans (Nat.le_add_right _ _) (stateC_le s c)) (statesF_le l _)
theorem keysF_le : ∀ (l : List (Ex × Nat)) (c : Ct), c.1 + l.length ≤ (keysF l c).1
  | [], c => Nat.le_refl _
  | k :: l, c => by
    have h1 := exprsC_le [k.1] 2 c
    have h2 := keysF_le l (exprsC [k.1] 2 c)
    rw [keysF, List.length_cons]
    simp only [List.length_cons, List.length_nil] at h1
    omega
theorem declC_le (d : Dc) (c : Ct) : c.1 + d.fields.length + d.states.length ≤ (declC d c).1 ∧ (keysF d.keys (statesF d.states (partsC d.states.length 2 (partsC d.fields.length 2 c)))).1 ≤ (declC d c).1 ∧ (statesF d.states (partsC d.states.length 2 (partsC d.fields.length 2 c))).1 ≤ (declC d c).1 := by
  have h1 := stmtsC_le d.body 2 (keysF d.keys (statesF d.states (partsC d.states.length 2 (partsC d.fields.length 2 c))))
  have h2 := keysF_le d.keys (statesF d.states (partsC d.states.length 2 (partsC d.fields.length 2 c)))
  have h3 := statesF_le d.states (partsC d.states.length 2 (partsC d.fields.length 2 c))
  have h4 : (partsC d.states.length 2 (partsC d.fields.length 2 c)).1 = c.1 + d.fields.length + d.states.length := rfl
  unfold declC
  omega
theorem declsF_le : ∀ (l : List Dc) (c : Ct), c.1 ≤ (declsF l c).1
  | [], c => Nat.le_refl _
  | d :: l, c => by
    have h1 := (declC_le d c).1
    have h2 := declsF_le l (declC d c)
    rw [declsF]; omega
theorem exDs_len (l : List Ex) : (exDs l).length = l.length := by rw [exDs_map, List.length_map]
theorem smDs_len (l : List Sm) : (smDs l).length = l.length := by rw [smDs_map, List.length_map]
theorem exDs_at {l : List Ex} {k : Nat} {x : Ex} (h : l[k]? = some x) : (exDs l)[((k : Int)).toNat]? = some (.agg (exCs x)) := by
  rw [Int.toNat_natCast, exDs_map, List.getElem?_map, h, ← exD_cs]; rfl
theorem smDs_at {l : List Sm} {k : Nat} {x : Sm} (h : l[k]? = some x) : (smDs l)[((k : Int)).toNat]? = some (.agg (smCs x)) := by
  rw [Int.toNat_natCast, smDs_map, List.getElem?_map, h, ← smD_cs]; rfl
theorem map_at {α : Type} {g : α → D} {l : List α} {k : Nat} {x : α} (h : l[k]? = some x) : (l.map g)[((k : Int)).toNat]? = some (g x) := by
  rw [Int.toNat_natCast, List.getElem?_map, h]; rfl
abbrev ctL (c : Ct) : List D := [nD c.1, nD c.2]
def big : Nat := 1099511627776
theorem bigE : big = 1099511627776 := rfl
def CE (l : List Ex) : Prop := ∀ (d : Nat) (c : Ct), d ≤ c.1 + 3 → (exprsC l d c).1 ≤ big → CallsB Tryz.prog Lw 37 (ctL c) [.list 10 (exDs l), nD d] (ctL (exprsC l d c)) (.tup [])
def argsOf : Ex → List Ex
  | .mk _ _ _ _ _ _ _ _ args _ => args
theorem exA_args (x : Ex) (d : Nat) (c : Ct) : exA x d c = exprsC (argsOf x) d c := by cases x; rw [exA]; rfl
def CS (l : List Sm) : Prop := ∀ (d : Nat) (c : Ct), d ≤ c.1 + 3 → (stmtsC l d c).1 ≤ big → CallsB Tryz.prog Lw 38 (ctL c) [.list 9 (smDs l), nD d] (ctL (stmtsC l d c)) (.tup [])
def bodyOf : Sm → List Sm
  | .mk _ _ _ _ _ _ body _ _ => body
def elsOf : Sm → List Sm
  | .mk _ _ _ _ _ _ _ els _ => els
def sargsOf : Sm → List Ex
  | .mk _ _ _ _ _ args _ _ _ => args
theorem smA_parts (x : Sm) (d : Nat) (c : Ct) : smA x d c = stmtsC (elsOf x) d (stmtsC (bodyOf x) d (exprsC (sargsOf x) d c)) := by cases x; rw [smA]; rfl
theorem nmax (a b : Nat) : (if (b : Int) > (a : Int) then (b : Int) else (a : Int)) = ((max a b : Nat) : Int) := by
  by_cases h : (b : Int) > (a : Int)
  · rw [if_pos h, Nat.max_eq_right (by omega)]
  · rw [if_neg h, Nat.max_eq_left (by omega)]
theorem parts_c (k d : Nat) (c : Ct) (h1 : (partsC k d c).1 ≤ 2 * big) : CallsB Tryz.prog Lw 36 [nD (c).1, nD (c).2] [nD k, nD d] [nD (partsC k d c).1, nD (partsC k d c).2] (.tup []) := by
  have hb := bigE
  have h3 : c.1 + k ≤ 2 * big := h1
  refine callsB_of Tryz.func36 rfl Tryz.ntmps36 rfl rfl fun w0 S0 b stab => ?_
  refine sqq <| rgq <| mvq rfl rfl <| sq (f_nil rfl rfl (lt rfl)) rfl rfl <| faq rfl kf108_0 rfl rfl <| ldq kd3 rfl rfl rfl <| mvq rfl rfl <| sq (f_bin rfl rfl (iT (((IntWalk.i64_in _ (by omega)).trans (by omega) : _ = ((c.1 + k : Nat) : Int)))) (lt rfl)) rfl rfl ?_
  refine sq (f_nil rfl rfl (lt rfl)) rfl rfl <| faq rfl kf108_0 rfl rfl <| soq kd3 rfl rfl rfl rfl rfl <| nxq <| sqq ?_
  by_cases h : 0 < k
  · refine rgq <| mvq rfl rfl <| sq (f_bin rfl rfl (bT (decide_eq_true (by omega))) (lt rfl)) rfl rfl <| nxq <| cnT rfl <| rgq <| mvq rfl rfl <| mvq rfl rfl ?_
    refine sq (f_nil rfl rfl (lt rfl)) rfl rfl <| faq rfl kf108_1 rfl rfl <| ldq kd3 rfl rfl rfl <| mvq rfl rfl <| sq (f_maxI rfl rfl (nmax _ _) (lt rfl)) rfl rfl <| sq (f_nil rfl rfl (lt rfl)) rfl rfl <| faq rfl kf108_1 rfl rfl <| soq kd3 rfl rfl rfl rfl rfl ?_
    refine nlq ?_
    exact hits_doneB (.inr rfl) rfl rfl rfl rfl rfl ⟨rfl, congrArg (fun z : Nat => some (V.d (nD z))) (by simp only [partsC, h, if_true, if_false]), trivial⟩ rfl
  · refine rgq <| mvq rfl rfl <| sq (f_bin rfl rfl (bT (decide_eq_false (by omega))) (lt rfl)) rfl rfl <| nxq <| cnF rfl <| skq ?_
    exact hits_doneB (.inr rfl) rfl rfl rfl rfl rfl ⟨rfl, congrArg (fun z : Nat => some (V.d (nD z))) (by simp only [partsC, h, if_true, if_false]), trivial⟩ rfl
theorem exprs_c (l : List Ex) (IH : ∀ x ∈ l, CE (argsOf x)) (d : Nat) (c : Ct) (h1 : d ≤ c.1 + 3) (h3 : (exprsC l d c).1 ≤ big) : CallsB Tryz.prog Lw 37 [nD c.1, nD c.2] [.list 10 (exDs l), nD d] [nD (exprsC l d c).1, nD (exprsC l d c).2] (.tup []) := by
  have hb := bigE
  have h0 := exprsC_le l d c
  have hll := exDs_len l
  refine callsB_of Tryz.func37 rfl Tryz.ntmps37 rfl rfl fun w0 S0 b stab => ?_
  refine sqq <| rgq <| mvq rfl rfl <| mvq rfl rfl <| sq (f_lenListN rfl rfl un65 hll (lt rfl)) rfl rfl <| mvq rfl rfl <| sq_callB en36 rfl rfl (parts_c l.length d c (by show c.1 + l.length ≤ 2 * big; omega)) ⟨rfl, rfl, trivial⟩ rfl rfl rfl rfl (lt rfl) ?_
  refine nxq <| sqq <| rgq <| mvq rfl rfl <| sq (f_lenListN rfl rfl un65 hll (lt rfl)) rfl rfl <| mvq rfl rfl <| nxq <| hits_block ?_
  refine hits_loop (fun x : Nat × Ct => [(.slot 0, some (.ptr 1000000 0)), (.box 1000000, some (.ptr 1000000 0)), (.cell 1000000 0, some (.d (nD (x.2).1))), (.cell 1000000 1, some (.d (nD (x.2).2))), (.slot 2, some (.d (nD d))), (.slot 13, some (.d (.list 10 (exDs l)))), (.slot 14, some (.d (nD l.length))), (.slot 15, some (.d (nD (x.1))))]) (fun x : Nat × Ct => x.1 ≤ l.length ∧ c.1 + l.length ≤ x.2.1 ∧ exF (l.drop x.1) (d + 1) x.2 = exprsC l d c) (fun x : Nat × Ct => l.length - x.1) (0, partsC l.length d c) ⟨Nat.zero_le _, Nat.le_refl _, by rw [List.drop_zero]; rfl⟩ ⟨rfl, rfl, rfl, rfl, rfl, rfl, rfl, rfl, trivial⟩ rfl ?_
  intro x hx0
  obtain ⟨k, c1⟩ := x
  obtain ⟨hk0, hc1, hJ⟩ := hx0
  change k ≤ l.length at hk0
  change c.1 + l.length ≤ c1.1 at hc1
  change exF (l.drop k) (d + 1) c1 = exprsC l d c at hJ
  change Hits _ [(.slot 0, some (.ptr 1000000 0)), (.box 1000000, some (.ptr 1000000 0)), (.cell 1000000 0, some (.d (nD (c1).1))), (.cell 1000000 1, some (.d (nD (c1).2))), (.slot 2, some (.d (nD d))), (.slot 13, some (.d (.list 10 (exDs l)))), (.slot 14, some (.d (nD l.length))), (.slot 15, some (.d (nD (k))))] _
  refine sqq ?_
  by_cases hk : k < l.length
  · obtain ⟨y, hx⟩ : ∃ y, l[k]? = some y := ⟨_, List.getElem?_eq_getElem hk⟩
    have hmem := List.mem_of_getElem? hx
    have hat := exDs_at hx
    rw [list_at hx, exF, exA_args] at hJ
    have hIH := IH y hmem
    obtain ⟨yop, ylw, ylh, yll, ynm, yfl, yn, ym, yar, yln⟩ := y
    change CE yar at hIH
    change exF (l.drop (k + 1)) (d + 1) (exprsC yar (d + 1) c1) = exprsC l d c at hJ
    have h5 := exF_le (l.drop (k + 1)) (d + 1) (exprsC yar (d + 1) c1)
    have h6 := exprsC_le yar (d + 1) c1
    rw [hJ] at h5
    refine rgq <| sq (f_bin rfl rfl (bT (decide_eq_true (by omega))) (lt rfl)) rfl rfl <| nxq <| sqq <| cnT rfl <| skq <| toq <| sqq ?_
    refine hits_block <| sqq <| rgq <| sq (f_idxList rfl rfl rfl un65 kd67 (Int.natCast_nonneg _) hat (lt rfl)) rfl rfl <| ldq kd67 rfl rfl rfl <| sq (f_alloc zc67 (lt rfl)) rfl rfl <| soq kd67 rfl rfl rfl rfl rfl <| nxq ?_
    refine rgq <| mvq rfl rfl <| faq rfl kf67_6 rfl rfl <| ldq kd65 rfl rfl rfl <| mvq rfl rfl <| sq (f_bin rfl rfl (iT (((IntWalk.i64_in _ (by omega)).trans (by omega) : _ = ((d + 1 : Nat) : Int)))) (lt rfl)) rfl rfl <| sq_callB en37 rfl rfl (hIH (d + 1) c1 (by omega) (by omega)) ⟨rfl, rfl, trivial⟩ rfl rfl rfl rfl (lt rfl) <| nlq ?_
    refine inq <| toq <| rgq <| sq (f_bin rfl rfl (iT (((IntWalk.i64_in _ (by omega)).trans (by omega) : _ = ((k + 1 : Nat) : Int)))) (lt rfl)) rfl rfl <| mvq rfl rfl <| nxq ?_
    refine round_end (k + 1, exprsC yar (d + 1) c1) ⟨by simp only; omega, by simp only; omega, hJ⟩ (by simp only; omega) ⟨rfl, rfl, rfl, rfl, rfl, rfl, rfl, rfl, trivial⟩ rfl
  · obtain rfl : k = l.length := by omega
    rw [List.drop_length, exF] at hJ
    refine rgq <| sq (f_bin rfl rfl (bT (decide_eq_false (by omega))) (lt rfl)) rfl rfl <| nxq <| sqq <| cnF rfl <| hits_exit <| to_exit <| to_exit ?_
    refine in_hit rfl ?_
    exact hits_doneB (.inr rfl) rfl rfl rfl rfl rfl ⟨by rw [← hJ]; rfl, by rw [← hJ]; rfl, trivial⟩ rfl
mutual
theorem ce_all : ∀ x : Ex, CE (argsOf x)
  | .mk _ _ _ _ _ _ _ _ args _ => fun d c h1 h3 => exprs_c args (ces_all args) d c h1 h3
theorem ces_all : ∀ l : List Ex, ∀ x ∈ l, CE (argsOf x)
  | [], x, h => by cases h
  | y :: l, x, h => by
    by_cases hx : x = y
    · rw [hx]; exact ce_all y
    · exact ces_all l x (by rcases List.mem_cons.mp h with h | h; exact absurd h hx; exact h)
end
theorem ce (l : List Ex) : CE l := fun d c h1 h3 => exprs_c l (ces_all l) d c h1 h3
theorem stmts_c (l : List Sm) (IHb : ∀ x ∈ l, CS (bodyOf x)) (IHe : ∀ x ∈ l, CS (elsOf x)) (d : Nat) (c : Ct) (h1 : d ≤ c.1 + 3) (h3 : (stmtsC l d c).1 ≤ big) : CallsB Tryz.prog Lw 38 [nD c.1, nD c.2] [.list 9 (smDs l), nD d] [nD (stmtsC l d c).1, nD (stmtsC l d c).2] (.tup []) := by
  have hb := bigE
  have h0 := stmtsC_le l d c
  have hll := smDs_len l
  refine callsB_of Tryz.func38 rfl Tryz.ntmps38 rfl rfl fun w0 S0 b stab => ?_
  refine sqq <| rgq <| mvq rfl rfl <| mvq rfl rfl <| sq (f_lenListN rfl rfl un54 hll (lt rfl)) rfl rfl <| mvq rfl rfl <| sq_callB en36 rfl rfl (parts_c l.length d c (by show c.1 + l.length ≤ 2 * big; omega)) ⟨rfl, rfl, trivial⟩ rfl rfl rfl rfl (lt rfl) ?_
  refine nxq <| sqq <| rgq <| mvq rfl rfl <| sq (f_lenListN rfl rfl un54 hll (lt rfl)) rfl rfl <| mvq rfl rfl <| nxq <| hits_block ?_
  refine hits_loop (fun x : Nat × Ct => [(.slot 0, some (.ptr 1000000 0)), (.box 1000000, some (.ptr 1000000 0)), (.cell 1000000 0, some (.d (nD (x.2).1))), (.cell 1000000 1, some (.d (nD (x.2).2))), (.slot 2, some (.d (nD d))), (.slot 13, some (.d (.list 9 (smDs l)))), (.slot 14, some (.d (nD l.length))), (.slot 15, some (.d (nD (x.1))))]) (fun x : Nat × Ct => x.1 ≤ l.length ∧ c.1 + l.length ≤ x.2.1 ∧ smF (l.drop x.1) (d + 1) x.2 = stmtsC l d c) (fun x : Nat × Ct => l.length - x.1) (0, partsC l.length d c) ⟨Nat.zero_le _, Nat.le_refl _, by rw [List.drop_zero]; rfl⟩ ⟨rfl, rfl, rfl, rfl, rfl, rfl, rfl, rfl, trivial⟩ rfl ?_
  intro x hx0
  obtain ⟨k, c1⟩ := x
  obtain ⟨hk0, hc1, hJ⟩ := hx0
  change k ≤ l.length at hk0
  change c.1 + l.length ≤ c1.1 at hc1
  change smF (l.drop k) (d + 1) c1 = stmtsC l d c at hJ
  change Hits _ [(.slot 0, some (.ptr 1000000 0)), (.box 1000000, some (.ptr 1000000 0)), (.cell 1000000 0, some (.d (nD (c1).1))), (.cell 1000000 1, some (.d (nD (c1).2))), (.slot 2, some (.d (nD d))), (.slot 13, some (.d (.list 9 (smDs l)))), (.slot 14, some (.d (nD l.length))), (.slot 15, some (.d (nD (k))))] _
  refine sqq ?_
  by_cases hk : k < l.length
  · obtain ⟨y, hx⟩ : ∃ y, l[k]? = some y := ⟨_, List.getElem?_eq_getElem hk⟩
    have hmem := List.mem_of_getElem? hx
    have hat := smDs_at hx
    rw [list_at hx, smF, smA_parts] at hJ
    have hIb := IHb y hmem
    have hIe := IHe y hmem
    obtain ⟨ykd, ynm, yfl, yarr, yn, yar, ybd, yel, yln⟩ := y
    change CS ybd at hIb
    change CS yel at hIe
    change smF (l.drop (k + 1)) (d + 1) (stmtsC yel (d + 1) (stmtsC ybd (d + 1) (exprsC yar (d + 1) c1))) = stmtsC l d c at hJ
    have h5 := smF_le (l.drop (k + 1)) (d + 1) (stmtsC yel (d + 1) (stmtsC ybd (d + 1) (exprsC yar (d + 1) c1)))
    have h6 := exprsC_le yar (d + 1) c1
    have h7 := stmtsC_le ybd (d + 1) (exprsC yar (d + 1) c1)
    have h8 := stmtsC_le yel (d + 1) (stmtsC ybd (d + 1) (exprsC yar (d + 1) c1))
    rw [hJ] at h5
    refine rgq <| sq (f_bin rfl rfl (bT (decide_eq_true (by omega))) (lt rfl)) rfl rfl <| nxq <| sqq <| cnT rfl <| skq <| toq <| sqq ?_
    refine hits_block <| sqq <| rgq <| sq (f_idxList rfl rfl rfl un54 kd70 (Int.natCast_nonneg _) hat (lt rfl)) rfl rfl <| ldq kd70 rfl rfl rfl <| sq (f_alloc zc70 (lt rfl)) rfl rfl <| soq kd70 rfl rfl rfl rfl rfl <| nxq ?_
    refine sqq <| rgq <| mvq rfl rfl <| faq rfl kf70_5 rfl rfl <| ldq kd65 rfl rfl rfl <| mvq rfl rfl <| sq (f_bin rfl rfl (iT (((IntWalk.i64_in _ (by omega)).trans (by omega) : _ = ((d + 1 : Nat) : Int)))) (lt rfl)) rfl rfl <| sq_callB en37 rfl rfl (ce yar (d + 1) c1 (by omega) (by omega)) ⟨rfl, rfl, trivial⟩ rfl rfl rfl rfl (lt rfl) ?_
    refine nxq <| sqq <| rgq <| mvq rfl rfl <| faq rfl kf70_6 rfl rfl <| ldq kd54 rfl rfl rfl <| mvq rfl rfl <| sq (f_bin rfl rfl (iT (((IntWalk.i64_in _ (by omega)).trans (by omega) : _ = ((d + 1 : Nat) : Int)))) (lt rfl)) rfl rfl ?_
    refine sq_callB en38 rfl rfl (hIb (d + 1) (exprsC yar (d + 1) c1) (by omega) (by omega)) ⟨rfl, rfl, trivial⟩ rfl rfl rfl rfl (lt rfl) <| nxq <| rgq <| mvq rfl rfl <| faq rfl kf70_7 rfl rfl <| ldq kd54 rfl rfl rfl <| mvq rfl rfl <| sq (f_bin rfl rfl (iT (((IntWalk.i64_in _ (by omega)).trans (by omega) : _ = ((d + 1 : Nat) : Int)))) (lt rfl)) rfl rfl ?_
    refine sq_callB en38 rfl rfl (hIe (d + 1) (stmtsC ybd (d + 1) (exprsC yar (d + 1) c1)) (by omega) (by omega)) ⟨rfl, rfl, trivial⟩ rfl rfl rfl rfl (lt rfl) <| nlq <| inq <| toq <| rgq <| sq (f_bin rfl rfl (iT (((IntWalk.i64_in _ (by omega)).trans (by omega) : _ = ((k + 1 : Nat) : Int)))) (lt rfl)) rfl rfl <| mvq rfl rfl <| nxq ?_
    refine round_end (k + 1, stmtsC yel (d + 1) (stmtsC ybd (d + 1) (exprsC yar (d + 1) c1))) ⟨by simp only; omega, by simp only; omega, hJ⟩ (by simp only; omega) ⟨rfl, rfl, rfl, rfl, rfl, rfl, rfl, rfl, trivial⟩ rfl
  · obtain rfl : k = l.length := by omega
    rw [List.drop_length, smF] at hJ
    refine rgq <| sq (f_bin rfl rfl (bT (decide_eq_false (by omega))) (lt rfl)) rfl rfl <| nxq <| sqq <| cnF rfl <| hits_exit <| to_exit <| to_exit ?_
    refine in_hit rfl ?_
    exact hits_doneB (.inr rfl) rfl rfl rfl rfl rfl ⟨by rw [← hJ]; rfl, by rw [← hJ]; rfl, trivial⟩ rfl
mutual
theorem cs_all : ∀ x : Sm, CS (bodyOf x) ∧ CS (elsOf x)
  | .mk _ _ _ _ _ _ body els _ => ⟨fun d c h1 h3 => stmts_c body (fun x hx => (css_all body x hx).1) (fun x hx => (css_all body x hx).2) d c h1 h3, fun d c h1 h3 => stmts_c els (fun x hx => (css_all els x hx).1) (fun x hx => (css_all els x hx).2) d c h1 h3⟩
theorem css_all : ∀ l : List Sm, ∀ x ∈ l, CS (bodyOf x) ∧ CS (elsOf x)
  | [], x, h => by cases h
  | y :: l, x, h => by
    by_cases hx : x = y
    · rw [hx]; exact cs_all y
    · exact css_all l x (by rcases List.mem_cons.mp h with h | h; exact absurd h hx; exact h)
end
theorem cs (l : List Sm) : CS l := fun d c h1 h3 => stmts_c l (fun x hx => (css_all l x hx).1) (fun x hx => (css_all l x hx).2) d c h1 h3
set_option maxHeartbeats 4000000 in
set_option maxHeartbeats 4000000 in
theorem small_c (ds : List Dc) (hB : (progC ds).1 ≤ big) : CallsP Tryz.prog Lw 18 [.list 15 (ds.map dcD)] (.sc (.bool (smallB ds))) := by
  have hb := bigE
  have h0 := declsF_le ds (partsC ds.length 1 (0, 0))
  have hp : (partsC ds.length 1 (0, 0)).1 = 0 + ds.length := rfl
  change (partsC ds.length 1 (0, 0)).1 ≤ (progC ds).1 at h0
  refine callsP_of gs_lw Tryz.func18 rfl Tryz.ntmps18 rfl fun w0 S0 stab => ?_
  refine sqq <| rgq <| asq rfl rfl <| nxq <| sqq <| rgq <| sq (f_build bu108 rfl rfl (lt rfl)) rfl rfl <| sq (f_box rfl rfl (lt rfl)) rfl rfl ?_
  refine asq rfl rfl <| nxq <| sqq <| rgq <| mvq rfl rfl <| mvq rfl rfl <| sq (f_lenListN rfl rfl un23 (List.length_map _) (lt rfl)) rfl rfl <| sq_callB en36 rfl rfl (parts_c ds.length 1 (((0, 0) : Ct)) (by show (((0, 0) : Ct)).1 + ds.length ≤ 2 * big; omega)) ⟨rfl, rfl, trivial⟩ rfl rfl rfl rfl (lt rfl) ?_
  refine nxq <| sqq <| sqq <| rgq <| mvq rfl rfl <| sq (f_lenListN rfl rfl un23 (List.length_map _) (lt rfl)) rfl rfl <| mvq rfl rfl <| nxq ?_
  refine hits_block <| hits_loop (fun x : Nat × Ct => [(.slot 3, some (.ptr 11 0)), (.box 11, some (.ptr 11 0)), (.cell 11 0, some (.d (nD (x.2).1))), (.cell 11 1, some (.d (nD (x.2).2))), (.slot 16, some (.d (.list 15 (ds.map dcD)))), (.slot 17, some (.d (nD ds.length))), (.slot 18, some (.d (nD (x.1))))]) (fun x : Nat × Ct => x.1 ≤ ds.length ∧ declsF (ds.drop x.1) x.2 = progC ds) (fun x : Nat × Ct => ds.length - x.1) (0, partsC ds.length 1 (0, 0)) ⟨Nat.zero_le _, by rw [List.drop_zero]; rfl⟩ ⟨rfl, rfl, rfl, rfl, rfl, rfl, rfl, trivial⟩ rfl ?_
  intro x hx0
  obtain ⟨k, ct1⟩ := x
  obtain ⟨hk0, hJ⟩ := hx0
  change k ≤ ds.length at hk0
  change declsF (ds.drop k) ct1 = progC ds at hJ
  change Hits _ [(.slot 3, some (.ptr 11 0)), (.box 11, some (.ptr 11 0)), (.cell 11 0, some (.d (nD (ct1).1))), (.cell 11 1, some (.d (nD (ct1).2))), (.slot 16, some (.d (.list 15 (ds.map dcD)))), (.slot 17, some (.d (nD ds.length))), (.slot 18, some (.d (nD (k))))] _
  refine sqq ?_
  by_cases hk : k < ds.length
  · obtain ⟨dd, hx⟩ : ∃ y, ds[k]? = some y := ⟨_, List.getElem?_eq_getElem hk⟩
    have hat := map_at (g := dcD) hx
    rw [list_at hx, declsF] at hJ
    have h7 := declsF_le (ds.drop (k + 1)) (declC dd ct1)
    rw [hJ] at h7
    obtain ⟨h4, h5, h6⟩ := declC_le dd ct1
    have h8 : (declC dd ct1).1 ≤ big := by omega
    refine rgq <| sq (f_bin rfl rfl (bT (decide_eq_true (by omega))) (lt rfl)) rfl rfl <| nxq <| sqq <| cnT rfl <| skq <| toq <| sqq ?_
    refine hits_block <| sqq <| rgq <| sq (f_idxList rfl rfl rfl un23 kd56 (Int.natCast_nonneg _) hat (lt rfl)) rfl rfl <| ldq kd56 rfl rfl rfl <| sq (f_alloc zc56 (lt rfl)) rfl rfl <| soq kd56 rfl rfl rfl rfl rfl <| nxq ?_
    refine sqq <| rgq <| mvq rfl rfl <| faq rfl kf56_2 rfl rfl <| ldq kd49 rfl rfl rfl <| sq (f_lenListN rfl rfl un49 (List.length_map _) (lt rfl)) rfl rfl <| sq_callB en36 rfl rfl (parts_c dd.fields.length 2 (ct1) (by show (ct1).1 + dd.fields.length ≤ 2 * big; omega)) ⟨rfl, rfl, trivial⟩ rfl rfl rfl rfl (lt rfl) ?_
    refine nxq <| sqq <| rgq <| mvq rfl rfl <| faq rfl kf56_7 rfl rfl <| ldq kd50 rfl rfl rfl <| sq (f_lenListN rfl rfl un50 (List.length_map _) (lt rfl)) rfl rfl <| sq_callB en36 rfl rfl (parts_c dd.states.length 2 (partsC dd.fields.length 2 ct1) (by show ct1.1 + dd.fields.length + dd.states.length ≤ 2 * big; omega)) ⟨rfl, rfl, trivial⟩ rfl rfl rfl rfl (lt rfl) ?_
    refine nxq <| sqq <| sqq <| rgq <| faq rfl kf56_7 rfl rfl <| ldq kd50 rfl rfl rfl <| sq (f_lenListN rfl rfl un50 (List.length_map _) (lt rfl)) rfl rfl <| mvq rfl rfl ?_
    refine nxq <| hits_block <| hits_loop (fun x : Nat × Ct => [(.slot 3, some (.ptr 11 0)), (.box 11, some (.ptr 11 0)), (.cell 11 0, some (.d (nD (x.2).1))), (.cell 11 1, some (.d (nD (x.2).2))), (.slot 16, some (.d (.list 15 (ds.map dcD)))), (.slot 17, some (.d (nD ds.length))), (.slot 18, some (.d (nD (k)))), (.slot 5, some (.ptr 5 0)), (.box 5, some (.ptr 5 0)), (.cell 5 8, some (.d (.list 11 (dd.keys.map kdD)))), (.cell 5 12, some (.d (.list 9 (dd.body.map smD)))), (.slot 33, some (.d (.list 6 (dd.states.map stD)))), (.slot 34, some (.d (nD dd.states.length))), (.slot 35, some (.d (nD (x.1))))]) (fun x : Nat × Ct => x.1 ≤ dd.states.length ∧ statesF (dd.states.drop x.1) x.2 = statesF dd.states (partsC dd.states.length 2 (partsC dd.fields.length 2 ct1))) (fun x : Nat × Ct => dd.states.length - x.1) (0, partsC dd.states.length 2 (partsC dd.fields.length 2 ct1)) ⟨Nat.zero_le _, by rw [List.drop_zero]⟩ ⟨rfl, rfl, rfl, rfl, rfl, rfl, rfl, rfl, rfl, rfl, rfl, rfl, rfl, rfl, trivial⟩ rfl ?_
    intro x hx0
    obtain ⟨j, ct2⟩ := x
    obtain ⟨hj0, hS⟩ := hx0
    change j ≤ dd.states.length at hj0
    change statesF (dd.states.drop j) ct2 = statesF dd.states (partsC dd.states.length 2 (partsC dd.fields.length 2 ct1)) at hS
    change Hits _ [(.slot 3, some (.ptr 11 0)), (.box 11, some (.ptr 11 0)), (.cell 11 0, some (.d (nD (ct2).1))), (.cell 11 1, some (.d (nD (ct2).2))), (.slot 16, some (.d (.list 15 (ds.map dcD)))), (.slot 17, some (.d (nD ds.length))), (.slot 18, some (.d (nD (k)))), (.slot 5, some (.ptr 5 0)), (.box 5, some (.ptr 5 0)), (.cell 5 8, some (.d (.list 11 (dd.keys.map kdD)))), (.cell 5 12, some (.d (.list 9 (dd.body.map smD)))), (.slot 33, some (.d (.list 6 (dd.states.map stD)))), (.slot 34, some (.d (nD dd.states.length))), (.slot 35, some (.d (nD (j))))] _
    refine sqq ?_
    by_cases hj : j < dd.states.length
    · obtain ⟨y1, hx1⟩ : ∃ y, dd.states[j]? = some y := ⟨_, List.getElem?_eq_getElem hj⟩
      have hat1 := map_at (g := stD) hx1
      rw [list_at hx1, statesF] at hS
      have h9 := statesF_le (dd.states.drop (j + 1)) (stateC y1 ct2)
      rw [hS] at h9
      have h10 := stateC_le y1 ct2
      have hce := ce y1.sel 3 (partsC y1.cases.length 3 ct2) (by omega) (by show (stateC y1 ct2).1 ≤ big; omega)
      rw [exDs_map] at hce
      refine rgq <| sq (f_bin rfl rfl (bT (decide_eq_true (by omega))) (lt rfl)) rfl rfl <| nxq <| sqq <| cnT rfl <| skq <| toq <| sqq ?_
      refine hits_block <| sqq <| rgq <| sq (f_idxList rfl rfl rfl un50 kd76 (Int.natCast_nonneg _) hat1 (lt rfl)) rfl rfl <| ldq kd76 rfl rfl rfl <| sq (f_alloc zc76 (lt rfl)) rfl rfl <| soq kd76 rfl rfl rfl rfl rfl <| nxq ?_
      refine sqq <| rgq <| mvq rfl rfl <| faq rfl kf76_3 rfl rfl <| ldq kd74 rfl rfl rfl <| sq (f_lenListN rfl rfl un74 (List.length_map _) (lt rfl)) rfl rfl <| sq_callB en36 rfl rfl (parts_c y1.cases.length 3 (ct2) (by show (ct2).1 + y1.cases.length ≤ 2 * big; omega)) ⟨rfl, rfl, trivial⟩ rfl rfl rfl rfl (lt rfl) ?_
      refine nxq <| rgq <| mvq rfl rfl <| faq rfl kf76_2 rfl rfl <| ldq kd65 rfl rfl rfl <| sq_callB en37 rfl rfl (hce) ⟨rfl, rfl, trivial⟩ rfl rfl rfl rfl (lt rfl) <| nlq <| inq ?_
      refine toq <| rgq <| sq (f_bin rfl rfl (iT (((IntWalk.i64_in _ (by omega)).trans (by omega) : _ = ((j + 1 : Nat) : Int)))) (lt rfl)) rfl rfl <| mvq rfl rfl <| nxq ?_
      refine round_end (j + 1, stateC y1 ct2) ⟨by simp only; omega, hS⟩ (by simp only; omega) ⟨rfl, rfl, rfl, rfl, rfl, rfl, rfl, rfl, rfl, rfl, rfl, rfl, rfl, rfl, trivial⟩ rfl
    · obtain rfl : j = dd.states.length := by omega
      rw [List.drop_length, statesF] at hS
      subst hS
      refine rgq <| sq (f_bin rfl rfl (bT (decide_eq_false (by omega))) (lt rfl)) rfl rfl <| nxq <| sqq <| cnF rfl <| hits_exit <| to_exit <| to_exit ?_
      refine in_hit rfl <| toq <| sqq <| sqq <| rgq <| faq rfl kf56_8 rfl rfl <| ldq kd51 rfl rfl rfl <| sq (f_lenListN rfl rfl un51 (List.length_map _) (lt rfl)) rfl rfl ?_
      refine mvq rfl rfl <| nxq <| hits_block <| hits_loop (fun x : Nat × Ct => [(.slot 3, some (.ptr 11 0)), (.box 11, some (.ptr 11 0)), (.cell 11 0, some (.d (nD (x.2).1))), (.cell 11 1, some (.d (nD (x.2).2))), (.slot 16, some (.d (.list 15 (ds.map dcD)))), (.slot 17, some (.d (nD ds.length))), (.slot 18, some (.d (nD (k)))), (.slot 5, some (.ptr 5 0)), (.box 5, some (.ptr 5 0)), (.cell 5 12, some (.d (.list 9 (dd.body.map smD)))), (.slot 50, some (.d (.list 11 (dd.keys.map kdD)))), (.slot 51, some (.d (nD dd.keys.length))), (.slot 52, some (.d (nD (x.1))))]) (fun x : Nat × Ct => x.1 ≤ dd.keys.length ∧ keysF (dd.keys.drop x.1) x.2 = keysF dd.keys (statesF dd.states (partsC dd.states.length 2 (partsC dd.fields.length 2 ct1)))) (fun x : Nat × Ct => dd.keys.length - x.1) (0, statesF dd.states (partsC dd.states.length 2 (partsC dd.fields.length 2 ct1))) ⟨Nat.zero_le _, by rw [List.drop_zero]⟩ ⟨rfl, rfl, rfl, rfl, rfl, rfl, rfl, rfl, rfl, rfl, rfl, rfl, rfl, trivial⟩ rfl ?_
      intro x hx0
      obtain ⟨j, ct3⟩ := x
      obtain ⟨hj0, hK⟩ := hx0
      change j ≤ dd.keys.length at hj0
      change keysF (dd.keys.drop j) ct3 = keysF dd.keys (statesF dd.states (partsC dd.states.length 2 (partsC dd.fields.length 2 ct1))) at hK
      change Hits _ [(.slot 3, some (.ptr 11 0)), (.box 11, some (.ptr 11 0)), (.cell 11 0, some (.d (nD (ct3).1))), (.cell 11 1, some (.d (nD (ct3).2))), (.slot 16, some (.d (.list 15 (ds.map dcD)))), (.slot 17, some (.d (nD ds.length))), (.slot 18, some (.d (nD (k)))), (.slot 5, some (.ptr 5 0)), (.box 5, some (.ptr 5 0)), (.cell 5 12, some (.d (.list 9 (dd.body.map smD)))), (.slot 50, some (.d (.list 11 (dd.keys.map kdD)))), (.slot 51, some (.d (nD dd.keys.length))), (.slot 52, some (.d (nD (j))))] _
      refine sqq ?_
      by_cases hj : j < dd.keys.length
      · obtain ⟨y2, hx2⟩ : ∃ y, dd.keys[j]? = some y := ⟨_, List.getElem?_eq_getElem hj⟩
        have hat2 := map_at (g := kdD) hx2
        rw [list_at hx2, keysF] at hK
        obtain ⟨⟨yop, ylw, ylh, yll, ynm, yfl, yn, ym, yar, yln⟩, ykk⟩ := y2
        change keysF (dd.keys.drop (j + 1)) (exprsC [Ex.mk yop ylw ylh yll ynm yfl yn ym yar yln] 2 ct3) = keysF dd.keys (statesF dd.states (partsC dd.states.length 2 (partsC dd.fields.length 2 ct1))) at hK
        have h9 := keysF_le (dd.keys.drop (j + 1)) (exprsC [Ex.mk yop ylw ylh yll ynm yfl yn ym yar yln] 2 ct3)
        rw [hK] at h9
        have h9b := keysF_le dd.keys (statesF dd.states (partsC dd.states.length 2 (partsC dd.fields.length 2 ct1)))
        have hce := ce [Ex.mk yop ylw ylh yll ynm yfl yn ym yar yln] 2 ct3 (by omega) (by omega)
        rw [exDs, exDs, exD_cs] at hce
        refine rgq <| sq (f_bin rfl rfl (bT (decide_eq_true (by omega))) (lt rfl)) rfl rfl <| nxq <| sqq <| cnT rfl <| skq <| toq <| sqq ?_
        refine hits_block <| sqq <| rgq <| sq (f_idxList rfl rfl rfl un51 kd82 (Int.natCast_nonneg _) hat2 (lt rfl)) rfl rfl <| ldq kd82 rfl rfl rfl <| sq (f_alloc zc82 (lt rfl)) rfl rfl <| soq kd82 rfl rfl rfl rfl rfl <| nxq ?_
        refine rgq <| mvq rfl rfl <| faq rfl kf82_0 rfl rfl <| ldq kd67 rfl rfl rfl <| sq (f_buildSlice sk65 rfl rfl rfl rfl rfl rfl (by decide) (by decide) (lt rfl)) rfl rfl <| sq_callB en37 rfl rfl (hce) ⟨rfl, rfl, trivial⟩ rfl rfl rfl rfl (lt rfl) <| nlq <| inq ?_
        refine toq <| rgq <| sq (f_bin rfl rfl (iT (((IntWalk.i64_in _ (by omega)).trans (by omega) : _ = ((j + 1 : Nat) : Int)))) (lt rfl)) rfl rfl <| mvq rfl rfl <| nxq ?_
        refine round_end (j + 1, exprsC [Ex.mk yop ylw ylh yll ynm yfl yn ym yar yln] 2 ct3) ⟨by simp only; omega, hK⟩ (by simp only; omega) ⟨rfl, rfl, rfl, rfl, rfl, rfl, rfl, rfl, rfl, rfl, rfl, rfl, rfl, trivial⟩ rfl
      · obtain rfl : j = dd.keys.length := by omega
        rw [List.drop_length, keysF] at hK
        subst hK
        have hcs := cs dd.body 2 (keysF dd.keys (statesF dd.states (partsC dd.states.length 2 (partsC dd.fields.length 2 ct1)))) (by omega) (by unfold declC at h8; omega)
        rw [smDs_map] at hcs
        refine rgq <| sq (f_bin rfl rfl (bT (decide_eq_false (by omega))) (lt rfl)) rfl rfl <| nxq <| sqq <| cnF rfl <| hits_exit <| to_exit <| to_exit ?_
        refine in_hit rfl <| toq <| rgq <| mvq rfl rfl <| faq rfl kf56_12 rfl rfl <| ldq kd54 rfl rfl rfl <| sq_callB en38 rfl rfl (hcs) ⟨rfl, rfl, trivial⟩ rfl rfl rfl rfl (lt rfl) <| nlq ?_
        refine inq <| toq <| rgq <| sq (f_bin rfl rfl (iT (((IntWalk.i64_in _ (by omega)).trans (by omega) : _ = ((k + 1 : Nat) : Int)))) (lt rfl)) rfl rfl <| mvq rfl rfl <| nxq ?_
        refine round_end (k + 1, declC dd ct1) ⟨by simp only; omega, hJ⟩ (by simp only; omega) ⟨rfl, rfl, rfl, rfl, rfl, rfl, rfl, trivial⟩ rfl
  · obtain rfl : k = ds.length := by omega
    rw [List.drop_length, declsF] at hJ
    refine rgq <| sq (f_bin rfl rfl (bT (decide_eq_false (by omega))) (lt rfl)) rfl rfl <| nxq <| sqq <| cnF rfl <| hits_exit <| to_exit <| to_exit ?_
    refine in_hit rfl <| toq <| sqq ?_
    by_cases h11 : (progC ds).1 ≤ 4096
    · by_cases h12 : (progC ds).2 ≤ 64
      · refine rgq <| mvq rfl rfl <| sq (f_nil rfl rfl (lt rfl)) rfl rfl <| faq rfl kf108_0 rfl rfl <| ldq kd3 rfl rfl rfl <| sq (f_bin rfl rfl (bT (decide_eq_true (by rw [hJ]; omega))) (lt rfl)) rfl rfl ?_
        refine mvq rfl rfl <| sq_yes (f_move rfl (lt rfl)) rfl rfl rfl rfl (lt rfl) <| sq_yes (f_nil rfl rfl (lt rfl)) rfl rfl rfl rfl (lt rfl) <| sq_yes (f_fieldAddr rfl kf108_1 rfl (lt rfl)) rfl rfl rfl rfl (lt rfl) <| sq_yes (f_load kd3 rfl rfl (lt rfl)) rfl rfl rfl rfl (lt rfl) <| sq_yes (f_bin rfl rfl (bT (decide_eq_true (by rw [hJ]; omega))) (lt rfl)) rfl rfl rfl rfl (lt rfl) ?_
        refine pkq rfl rfl rfl <| asq rfl rfl <| nxq <| rtq ?_
        exact hits_done (.inl rfl) rfl rfl (by subst hJ; show D.sc (.bool _) = .sc (.bool (smallB ds)); rw [smallB, decide_eq_true h11, decide_eq_true h12]; rfl)
      · refine rgq <| mvq rfl rfl <| sq (f_nil rfl rfl (lt rfl)) rfl rfl <| faq rfl kf108_0 rfl rfl <| ldq kd3 rfl rfl rfl <| sq (f_bin rfl rfl (bT (decide_eq_true (by rw [hJ]; omega))) (lt rfl)) rfl rfl ?_
        refine mvq rfl rfl <| sq_yes (f_move rfl (lt rfl)) rfl rfl rfl rfl (lt rfl) <| sq_yes (f_nil rfl rfl (lt rfl)) rfl rfl rfl rfl (lt rfl) <| sq_yes (f_fieldAddr rfl kf108_1 rfl (lt rfl)) rfl rfl rfl rfl (lt rfl) <| sq_yes (f_load kd3 rfl rfl (lt rfl)) rfl rfl rfl rfl (lt rfl) <| sq_yes (f_bin rfl rfl (bT (decide_eq_false (by rw [hJ]; omega))) (lt rfl)) rfl rfl rfl rfl (lt rfl) ?_
        refine pkq rfl rfl rfl <| asq rfl rfl <| nxq <| rtq ?_
        exact hits_done (.inl rfl) rfl rfl (by subst hJ; show D.sc (.bool _) = .sc (.bool (smallB ds)); rw [smallB, decide_eq_true h11, decide_eq_false h12]; rfl)
    · refine rgq <| mvq rfl rfl <| sq (f_nil rfl rfl (lt rfl)) rfl rfl <| faq rfl kf108_0 rfl rfl <| ldq kd3 rfl rfl rfl <| sq (f_bin rfl rfl (bT (decide_eq_false (by rw [hJ]; omega))) (lt rfl)) rfl rfl ?_
      refine mvq rfl rfl <| noq rfl rfl rfl rfl rfl rfl rfl <| noq rfl rfl rfl rfl rfl rfl rfl <| noq rfl rfl rfl rfl rfl rfl rfl <| noq rfl rfl rfl rfl rfl rfl rfl <| noq rfl rfl rfl rfl rfl rfl rfl <| pkq rfl rfl rfl <| asq rfl rfl ?_
      refine nxq <| rtq ?_
      exact hits_done (.inl rfl) rfl rfl (by subst hJ; show D.sc (.bool _) = .sc (.bool (smallB ds)); rw [smallB, decide_eq_false h11]; rfl)
end Go.Proofs.YtogodijfdkffaaaGreatDoor.Ln

/- A function that catches what the function that it is handed gives up with, walked with that function in place. No program. -/
namespace Go.Ab
open Go Go.RowKit
variable {P : Program} {E : Env} {st : St} {G : Gh} {a : Act} {w : World} {Q : Exit → Act → World → Prop}
variable {d : Nat} {ty : TypeId} {pos : String} {af : Array Edge} {g : Option (Nat × Bool)} {x y z : Operand}
def Caught (tN : TypeId) (p : Nat) (pv : Value) (R : Ending → World → Prop) (e : Ending) (w' : World) : Prop :=
  (∃ b, w'.cell? ⟨p, 0, none⟩ = some (.bool b)) ∧ w'.frozen? ⟨p, 0, none⟩ = false ∧
    ((∃ u, e = .returned u ∧ R (.returned (.bool false)) (w'.setCell ⟨p, 0, none⟩ (.bool false))) ∨
     (e = .panicked (ch0 pv) ∧ R (.returned (.bool true)) ((w'.alloc (.cells #[] tN)).setCell ⟨p, 0, none⟩ (.bool true))))
def BackR (P : Program) (a : Act) (d : Nat) (ops : Array Oper) (Q : Exit → Act → World → Prop) (l : List Oper) (e : Ending) (w' : World) : Prop :=
  ∃ u, e = .returned u ∧ wpList P ops Q l (a.put (some d) u) w'
def Env.intoC (E : Env) (n : Nat) (a : Act) (K p : Nat) : Env := { E.into n a with fix := (K, p) :: E.fix }
theorem Sim.enter {vs : List V} {us : List Value} {n : Nat} (s : Sim E st G a w) (hvs : RelVL G vs us) (hfix : (E.fix.all fun p => Nat.ble n p.1) = true) (hlen : Nat.ble vs.length n = true) :
    Sim (E.into n a) (vrows 0 vs ++ enterSt E.N st) G { tmps := (⟨us⟩ : Array Value) ++ Array.replicate (n - (⟨us⟩ : Array Value).size) undef, defers := [] } w := by
  obtain ⟨hl, hget⟩ := relVL_get hvs
  have hle : vs.length ≤ n := Nat.le_of_ble_eq_true hlen
  have hi : ∀ k : Loc, k.high = true → look (vrows 0 vs ++ enterSt E.N st) k = look st k := fun k hk => by
    rw [look_vrows_ne (fun t c => by subst c; cases hk), look_enter _ _ hk]
  refine ⟨s.kw, s.s0, s.snew, ?_, rfl, fun t v hv => ?_, fun i o v hv => ?_, fun i h1 => ?_, fun i j h1 h2 => ?_, s.stable, fun i h1 h2 => ?_, fun i j h1 h2 => ?_, fun p hp => ⟨?_, fun h1 => ?_⟩, fun i qv l h1 hcl h2 => ?_, fun i v hv => ?_, fun k v hv => ?_⟩
  · show _ = n
    have : us.length = vs.length := hl.symm
    simp at this ⊢; omega
  · rw [look_vrows] at hv
    split at hv
    · rename_i ht
      rw [Nat.sub_zero] at hv
      obtain ⟨u, hu, hr⟩ := hget t v hv
      have e : ((⟨us⟩ : Array Value) ++ Array.replicate (n - (⟨us⟩ : Array Value).size) undef).getD t undef = u := by
        have ht : t < us.length := (List.getElem?_eq_some_iff.1 hu).1
        rw [Array.getD_eq_getD_getElem?, Array.getElem?_append_left (by simpa using ht)]
        simp only [List.getElem?_toArray, hu, Option.getD_some]
      show RelV G v _
      rw [e]; exact hr
    · rw [look_enter_slot] at hv; cases hv
  · rw [hi _ rfl] at hv; rw [hi _ rfl]; exact s.cells i o v hv
  · rw [hi _ rfl] at h1; exact s.boxes i h1
  · rw [hi _ rfl] at h1 h2; exact s.inj i j h1 h2
  · rw [hi _ rfl] at h1
    obtain ⟨q1, q2, q3, q4⟩ := s.tips i h1 h2
    exact ⟨q1, q2, q3, fun j hj => q4 j (by rw [hi _ rfl] at hj; exact hj)⟩
  · rw [hi _ rfl] at h1 h2; exact s.tinj i j h1 h2
  · exact Nat.le_of_ble_eq_true (List.all_eq_true.mp hfix p hp)
  · rw [hi _ rfl] at h1; exact (s.rcv p hp).2 h1
  · rw [hi _ rfl] at h1; exact s.conts i qv l h1 hcl h2
  · rw [hi _ rfl] at hv; rw [hi _ rfl]; exact s.iters i v hv
  · rw [look_vrows_ne (fun t => by simp), look_enter_old] at hv
    show RelV G v ((a.tmps ++ E.keep).getD k undef)
    split at hv
    · rename_i hk
      have := s.slots k v hv
      rwa [show (a.tmps ++ E.keep).getD k undef = a.tmps.getD k undef from by rw [Array.getD_eq_getD_getElem?, Array.getD_eq_getD_getElem?, Array.getElem?_append_left (by rw [s.tmps]; exact hk)]]
    · rename_i hk
      have := s.olds (k - E.N) v hv
      rwa [show (a.tmps ++ E.keep).getD k undef = E.keep.getD (k - E.N) undef from by rw [Array.getD_eq_getD_getElem?, Array.getD_eq_getD_getElem?, Array.getElem?_append_right (by rw [s.tmps]; omega), s.tmps]]
theorem Sim.refix {F : List (Nat × Nat)} (s : Sim E st G a w) (h : ∀ p ∈ F, E.N ≤ p.1 ∧ (look st (.box p.1) ≠ none → G.μ p.1 = p.2)) : Sim { E with fix := F } st G a w :=
  ⟨s.kw, s.s0, s.snew, s.tmps, s.defers, s.slots, s.cells, s.boxes, s.inj, s.stable, s.tips, s.tinj, h, s.conts, s.iters, s.olds⟩
theorem relVL_ptrs (G : Gh) : ∀ ids : List Nat, RelVL G (ids.map fun i => V.ptr i 0) (ids.map fun i => Value.pointer (some ⟨G.μ i, 0, none⟩))
  | [] => by simp only [List.map_nil, RelVL]
  | i :: r => relVL_cons rfl (relVL_ptrs G r)
theorem sq_caught {ops : Array Oper} {l : List Oper} {fC f : FuncId} {tB tN : TypeId} {pv : Value} {ats : Array TypeId} {ids : List Nat} {fn : Func} {c : Code} {n : Nat} (K : Nat)
    (hcc : ∀ (cap : List Value) (w : World) (R : Ending → World → Prop), Calls P f ⟨cap⟩ (w.alloc (.cells #[.bool false] tB)) (Caught tN w.heap.size pv R) → Calls P fC #[.func (.func f) #[] ⟨cap⟩] w R)
    (hen : enters P fC = true) (hx : ev st x = some (.fn f ids)) (hf : P.funcs[f]? = some fn) (hb : fn.body = some c) (hn : fn.ntmps = n) (hfix : E.fix = []) (hlen : Nat.ble ids.length n = true) (hK : Nat.ble n K = true) (hKE : K < E.N) (hu : st.unused K = true) (hids : (ids.all fun i => !(i == K)) = true)
    (h : ∀ (a : Act) (p : Nat), a.tmps.size = E.N → a.defers = [] → Hits (E.intoC n a K p) (vrows 0 (ids.map fun i => .ptr i 0) ++ ((.cell K 0, some (.d (.sc (.bool false)))) :: (.box K, some (.ptr K 0)) :: enterSt E.N st)) (c.wp P (bodyPost P fn (Caught tN p pv (BackR P a d ops Q l))))) :
    Hits E st (wpList P ops Q (⟨some d, .call ⟨.value (.func fC), #[x], ats⟩, ty, pos, af, none⟩ :: l)) := by
  intro G a w s
  unfold wpList
  rw [if_pos (by simp [Region.wanted])]
  refine .inl ?_
  show Oper.upon P _ a _ Q ((execOp a.eval _).run P w)
  have e1 : a.eval x = .func (.func f) #[] ((ids.map fun i => Value.pointer (some ⟨G.μ i, 0, none⟩)).toArray) := s.ev hx
  have ef : a.eval (.func fC) = .func (.func fC) #[] #[] := rfl
  have hrun : (execOp a.eval (⟨some d, .call ⟨.value (.func fC), #[x], ats⟩, ty, pos, af, none⟩ : Oper)).run P w = .ok (.enter fC #[a.eval x]) w := by
    simp [execOp, resolve, ef, Deferred.ofValue, invoke, run_callFunc hen]
  rw [hrun, e1]
  have key := hcc (ids.map fun i => Value.pointer (some ⟨G.μ i, 0, none⟩)) w (BackR P a d ops Q l) ?_
  · refine key.mono ?_
    rintro e w' ⟨u, rfl, hq⟩
    exact hq
  have s1 := s.alloc (id := K) (vs := [.d (.sc (.bool false))]) (cs := #[.bool false]) (ty := tB) hKE hu ⟨rfl, fun i v hv => by
    cases i with
    | zero => simp at hv; subst hv; exact ⟨_, rfl, .sc _⟩
    | succ i => simp at hv⟩ rfl
  have hμ : ∀ i ∈ ids, (upd G.μ K w.heap.size) i = G.μ i := fun i hi => by
    have := List.all_eq_true.mp hids i hi
    simp only [upd, if_neg (show ¬ i = K from by simpa using this)]
  have hvs := relVL_ptrs { G with μ := upd G.μ K w.heap.size } ids
  rw [show (ids.map fun i => Value.pointer (some ⟨({ G with μ := upd G.μ K w.heap.size } : Gh).μ i, 0, none⟩)) = ids.map fun i => Value.pointer (some ⟨G.μ i, 0, none⟩) from List.map_congr_left fun i hi => by rw [show ({ G with μ := upd G.μ K w.heap.size } : Gh).μ i = G.μ i from hμ i hi]] at hvs
  have s2 := s1.enter hvs (n := n) (by rw [hfix]; rfl) (by rw [List.length_map]; exact hlen)
  have s3 : Sim (E.intoC n a K w.heap.size) _ _ _ _ := s2.refix (F := (K, w.heap.size) :: E.fix) (fun p hp => by
    rw [hfix] at hp
    obtain rfl := List.mem_singleton.mp hp
    exact ⟨Nat.le_of_ble_eq_true hK, fun _ => by simp [upd]⟩)
  have := h a w.heap.size s.tmps s.defers _ _ _ s3
  rw [show ((⟨ids.map fun i => Value.pointer (some ⟨G.μ i, 0, none⟩)⟩ : Array Value) ++ Array.replicate (n - (⟨ids.map fun i => Value.pointer (some ⟨G.μ i, 0, none⟩)⟩ : Array Value).size) undef) = ((⟨ids.map fun i => Value.pointer (some ⟨G.μ i, 0, none⟩)⟩ : Array Value) ++ Array.replicate (fn.ntmps - (⟨ids.map fun i => Value.pointer (some ⟨G.μ i, 0, none⟩)⟩ : Array Value).size) undef) from by rw [hn]] at this
  exact calls_of_wp hf hb this
theorem setCell_row {w : World} {b : Nat} {cs : Array Value} {t : TypeId} (h : w.heap[b]? = some (.cells cs t (0, 0))) (hs : 0 < cs.size) (v : Value) : w.setCell ⟨b, 0, none⟩ v = w.setRow b (splice cs 0 [v]) := by
  have e : cs.setIfInBounds 0 v = splice cs 0 [v] := by
    apply Array.ext_getElem?
    intro i
    rw [splice_get (by simp; omega), Array.getElem?_setIfInBounds]
    by_cases h0 : i = 0
    · subst h0; simp [hs]
    · rw [if_neg (fun c => h0 c.symm), if_neg (by simp; omega)]
  unfold World.setCell World.setRow
  have hlt := lt_of_block h
  have : w.heap[b]'hlt = .cells cs t (0, 0) := (Array.getElem?_eq_some_iff.1 h).2
  congr 1
  apply Array.ext_getElem?
  intro i
  rw [Array.getElem?_modify, Array.getElem?_modify]
  by_cases hi : b = i
  · subst hi
    rw [if_pos rfl, if_pos rfl, h]
    simp [e]
  · rw [if_neg hi, if_neg hi]
theorem frozen_of {w : World} {b : Nat} {cs : Array Value} {t : TypeId} (h : w.heap[b]? = some (.cells cs t (0, 0))) : w.frozen? ⟨b, 0, none⟩ = false := by
  unfold World.frozen?
  simp [h]
theorem Sim.backC {n K p : Nat} {a0 : Act} {v : Bool} {b0 : Bool} (h0 : a0.tmps.size = E.N) (hd0 : a0.defers = []) (hd : d < E.N) (hfix : E.fix = []) (s : Sim (E.intoC n a0 K p) st G a w) (hbox : (look st (.box K)).isSome = true) (hcell : look st (.cell K 0) = some (.d (.sc (.bool b0)))) :
    Sim E ((.slot d, some (.d (.sc (.bool v)))) :: leaveSt E.N ((.cell K 0, some (.d (.sc (.bool v)))) :: st)) G (a0.put (some d) (.bool v)) (w.setCell ⟨p, 0, none⟩ (.bool v)) ∧ w.cell? ⟨p, 0, none⟩ = some (.bool b0) ∧ w.frozen? ⟨p, 0, none⟩ = false := by
  have hb0 : look st (.box K) ≠ none := by intro c; rw [c] at hbox; cases hbox
  have hμ : G.μ K = p := (s.rcv (K, p) (by show (K, p) ∈ (K, p) :: E.fix; simp)).2 hb0
  obtain ⟨_, cs, t, cv, h1, h2, h3⟩ := s.cells K 0 _ hcell
  rw [hμ] at h1
  have hcv : cv = .bool b0 := rel_sc h3
  have hsz : 0 < cs.size := (Array.getElem?_eq_some_iff.1 h2).1
  have s1 := s.store (id := K) (off := 0) (vs := [.d (.sc (.bool v))]) (us := [.bool v]) (relVL_cons (.sc _) relVL_nil) hb0 (by rw [hμ]; exact h1) (by simp; omega)
  rw [hμ, ← setCell_row h1 hsz] at s1
  have s2 : Sim (E.into n a0) ((.cell K 0, some (.d (.sc (.bool v)))) :: st) G a (w.setCell ⟨p, 0, none⟩ (.bool v)) := s1.refix (F := E.fix) (fun q hq => by rw [hfix] at hq; cases hq)
  exact ⟨s2.back h0 hd0 hd (by rw [hfix]; rfl) (r := .d (.sc (.bool v))) (.sc _), by rw [cell_of_block h1, h2, hcv], frozen_of h1⟩
theorem hits_backC {fn : Func} {ops : Array Oper} {l : List Oper} {n K p : Nat} {a0 : Act} {tN : TypeId} {pv : Value} {b0 : Bool} {e : Exit} (he : e = .ret ∨ e = .normal) (h0 : a0.tmps.size = E.N) (hd0 : a0.defers = []) (hd : d < E.N) (hfix : E.fix = []) (hr : fn.results.toList = []) (hbox : (look st (.box K)).isSome = true) (hcell : look st (.cell K 0) = some (.d (.sc (.bool b0))))
    (h : Hits E ((.slot d, some (.d (.sc (.bool false)))) :: leaveSt E.N ((.cell K 0, some (.d (.sc (.bool false)))) :: st)) (wpList P ops Q l)) : Hits (E.intoC n a0 K p) st (bodyPost P fn (Caught tN p pv (BackR P a0 d ops Q l)) e) := by
  intro G a w s
  obtain ⟨s1, h1, h2⟩ := s.backC (v := false) h0 hd0 hd hfix hbox hcell
  have hres : (results fn a.tmps).run P w = .ok (.tuple #[]) w := by
    rw [results_eq, Array.mapM_eq_mapM_toList, hr]
    simp
  rcases he with rfl | rfl
  · exact ⟨s.defers, _, hres, ⟨b0, h1⟩, h2, .inl ⟨_, rfl, _, rfl, h _ _ _ s1⟩⟩
  · exact ⟨s.defers, _, hres, ⟨b0, h1⟩, h2, .inl ⟨_, rfl, _, rfl, h _ _ _ s1⟩⟩
theorem panC_of {fn : Func} {ops : Array Oper} {l : List Oper} {n K p : Nat} {a0 : Act} {tN : TypeId} {pv : Value} {b0 : Bool} (h0 : a0.tmps.size = E.N) (hd0 : a0.defers = []) (hd : d < E.N) (hfix : E.fix = []) (hbox : (look st (.box K)).isSome = true) (hcell : look st (.cell K 0) = some (.d (.sc (.bool b0))))
    (h : Hits E ((.slot d, some (.d (.sc (.bool true)))) :: leaveSt E.N ((.cell K 0, some (.d (.sc (.bool true)))) :: st)) (wpList P ops Q l)) : Hits (E.intoC n a0 K p) st fun a w => bodyPost P fn (Caught tN p pv (BackR P a0 d ops Q l)) (.panic (ch0 pv)) a w := by
  intro G a w s
  have hbl : Below w.heap.size w (w.alloc (.cells #[] tN)) := (Below.refl _ _).alloc (Nat.le_refl _) _
  obtain ⟨_, h1, h2⟩ := s.backC (v := true) h0 hd0 hd hfix hbox hcell
  obtain ⟨s1, _, _⟩ := (s.later0 hbl).backC (v := true) h0 hd0 hd hfix hbox hcell
  exact ⟨s.defers, ⟨b0, h1⟩, h2, .inr ⟨rfl, _, rfl, h _ _ _ s1⟩⟩
theorem with_rest {X : Type} {ops : Array Oper} {o : Oper} {l : List Oper} (stT : X → St) (J : X → Prop) (h1 : ∀ x, J x → Hits E (stT x) (wpList P ops Q l)) (h2 : (∀ x, J x → Hits E (stT x) (wpList P ops Q l)) → Hits E st (wpList P ops Q (o :: l))) : Hits E st (wpList P ops Q (o :: l)) := h2 h1
theorem hits_slotL {K : Act → World → Prop} (t : Nat) {es : Nat} {l : List D} {v : V} (hl : look st (.slot t) = some v) (ha : asList v = some (es, l)) (h : Hits E ((.slot t, some (.d (.list es l))) :: st) K) : Hits E st K :=
  fun G a w s => h G a w (s.retell (v := .d (.list es l)) (relV_list (s.slots t _ hl) ha))
end Go.Ab

/- Parse over data. -/
namespace Go.Proofs.YtogodijfdkffaaaGreatDoor.Ln
open Go Go.RowKit Go.Ab Go.Proofs 
theorem sk23 : sk Tryz.prog 23 = some (56, 15, [.int .u8 0, .string ByteArray.empty, .slice none 0 0, .int .i64 0, .int .i64 0, .int .i64 0, .int .i64 0, .slice none 0 0, .slice none 0 0, .slice none 0 0, .string ByteArray.empty, .slice none 0 0, .slice none 0 0, .slice none 0 0, .int .i64 0]) := by kernel_rfl
theorem apk23 : apk Tryz.prog 23 23 = some (56, 15, 248) := by kernel_rfl
theorem en17 : enters Tryz.prog 17 = true := by kernel_rfl
theorem en18 : enters Tryz.prog 18 = true := by kernel_rfl
theorem en16 : enters Tryz.prog 16 = true := by kernel_rfl
theorem en8 : enters Tryz.prog 8 = true := by kernel_rfl
theorem zc27 : zc Tryz.prog 27 = some [.slice none 0 0] := by kernel_rfl
theorem bu46 : bk Tryz.prog 46 = some ([(0, 1), (1, 1)], [.slice none 0 0, .int .i64 0]) := by kernel_rfl
theorem zc44 : zc Tryz.prog 44 = some [.pointer none] := by kernel_rfl
theorem zc23 : zc Tryz.prog 23 = some [.slice none 0 0] := by kernel_rfl
theorem en15 : enters Tryz.prog 15 = true := by kernel_rfl
theorem kd23 : kd Tryz.prog 23 = some (false, 1) := by kernel_rfl
def fuel (_ : List Wd) : Nat := 786433
def lineAt (L : List Wd) (j : Nat) : Nat := (wordAt wEnd L (min j (L.length - 1))).ln
def parseR (L : List Wd) : Rs (List Dc) → List Dc × Nat × Nat
  | .ok ds _ => if smallB ds = true then (ds, 0, 0) else ([], 0, 3)
  | .bad j => ([], lineAt L j, 5)
  | .oof => ([], 0, 0)
def parseL (L : List Wd) : List Dc × Nat × Nat := parseR L ((progP (fuel L) []).run wEnd L 0)
def parseS (s : Tx) : List Dc × Nat × Nat := if 65536 < s.length then ([], 0, 3) else match W s 0 with
  | .inl n => ([], n, 4)
  | .inr L => parseL L
def parsedD (r : List Dc × Nat × Nat) : D := .tup [.list 15 (r.1.map dcD), nD r.2.1, nD r.2.2]
theorem word_at {L : List Wd} {i : Nat} (hi : i < L.length) : ∃ x, L[i]? = some x ∧ wordAt wEnd L i = x := by
  obtain ⟨x, hx⟩ : ∃ x, L[i]? = some x := ⟨_, List.getElem?_eq_getElem hi⟩
  exact ⟨x, hx, by unfold wordAt; rw [hx]; rfl⟩
theorem prog_end {L : List Wd} {i : Nat} (hi : ¬ i < L.length) (f : Nat) (acc : List Dc) : (progP (f + 1) acc).run wEnd L i = .ok acc i := by
  have : wordAt wEnd L i = wEnd := by unfold wordAt; rw [List.getElem?_eq_none (by omega)]; rfl
  rw [progP]
  show ((if (wordAt wEnd L i).k = 0 then Pr.ret acc else (declP f).bind fun d => progP f (acc ++ [d])) : PW _).run wEnd L i = _
  rw [this]; rfl
theorem prog_more {L : List Wd} {i : Nat} (hk : (wordAt wEnd L i).k ≠ 0) (f : Nat) (acc : List Dc) : (progP (f + 1) acc).run wEnd L i = ((declP f).bind fun d => progP f (acc ++ [d])).run wEnd L i := by
  rw [progP]
  show ((if (wordAt wEnd L i).k = 0 then Pr.ret acc else (declP f).bind fun d => progP f (acc ++ [d])) : PW _).run wEnd L i = _
  rw [if_neg hk]
theorem line_at {L : List Wd} {j : Nat} (hL : L ≠ []) : ∃ x, (L.map wordD)[((if ((L.length : Int) - 1) < (j : Int) then ((L.length : Int) - 1) else (j : Int))).toNat]? = some (wordD x) ∧ lineAt L j = x.ln ∧ 0 ≤ (if ((L.length : Int) - 1) < (j : Int) then ((L.length : Int) - 1) else (j : Int)) := by
  have hpos : 0 < L.length := List.length_pos_iff.mpr hL
  have e : (if ((L.length : Int) - 1) < (j : Int) then ((L.length : Int) - 1) else (j : Int)) = ((min j (L.length - 1) : Nat) : Int) := by
    split <;> omega
  rw [e, Int.toNat_natCast]
  obtain ⟨x, hx, hw⟩ := word_at (L := L) (i := min j (L.length - 1)) (by omega)
  exact ⟨x, by rw [List.getElem?_map, hx]; rfl, by unfold lineAt; rw [hw], by omega⟩
theorem assert_none (w : World) : (Instr.typeAssert (.iface 96 (.agg ⟨[]⟩)) 20 96 true).run Tryz.prog w = .ok (.tuple #[.agg ⟨[]⟩, .bool true]) w := by
  simp [Instr.typeAssert, go_sem]
theorem catch_none (pb : Nat) (b : Bool) (w : World) (hc : w.cell? ⟨pb, 0, none⟩ = some (.bool b)) (hz : w.frozen? ⟨pb, 0, none⟩ = false) :
    CallsD Tryz.prog 32 #[.pointer (some ⟨pb, 0, none⟩)] (.panicking (ch0 (.iface 96 (.agg ⟨[]⟩)))) w fun e u' w' =>
      e = .returned (.tuple #[]) ∧ u' = .panicking [{ v := .iface 96 (.agg ⟨[]⟩), recovered := true }] ∧ w' = (w.alloc (.cells #[] 96)).setCell ⟨pb, 0, none⟩ (.bool true) := by
  refine callsD_of_wpS Tryz.func32 rfl fun c₀ cs hu => ?_
  apply wpS_seq
  apply wpS_region
  simp [wpOpsS, go_sem, recoverD, hu, ch0, Tryz.ntmps32, Exit.thenS]
  refine wpS_of_wp ?_
  apply wp_block
  apply wp_seq
  apply wp_region
  simp [wpOps, go_sem, Exit.then]
  refine .inl <| wp_cond (t := false) (by simp [Act.eval]) ?_
  simp only [Bool.false_eq_true, if_false]
  apply wp_seq
  apply wp_region
  simp [wpOps, go_sem, Exit.then, assert_none]
  refine .inl (.inl (.inl ?_))
  refine wp_cond (t := true) (by simp [Act.eval]) ?_
  simp only [if_true]
  apply wp_seq
  apply wp_region
  simp [wpOps, go_sem, Exit.then]
  refine .inl (.inl ?_)
  apply wp_region
  have hc' : (w.alloc (.cells #[] 96)).cell? ⟨pb, 0, none⟩ = some (.bool b) := by
    rw [World.cell?_alloc_past _ _ _ (lt_of_cell hc)]; exact hc
  have hz' : (w.alloc (.cells #[] 96)).frozen? ⟨pb, 0, none⟩ = false := by rw [frozen?_alloc_cells]; exact hz
  simp [wpOps, go_sem, Exit.inBlock, hc', hz', bodyPostS, results, Tryz.results32]
theorem catch_idle (p : Addr) (w : World) :
    CallsD Tryz.prog 32 #[.pointer (some p)] .returning w fun e u' w' => e = .returned (.tuple #[]) ∧ u' = .returning ∧ w' = w := by
  refine callsD_of_wpS Tryz.func32 rfl fun c₀ cs hu => ?_
  apply wpS_seq
  apply wpS_region
  simp [wpOpsS, go_sem, recoverD, hu, Tryz.ntmps32, Exit.thenS]
  refine wpS_of_wp ?_
  apply wp_block
  apply wp_seq
  apply wp_region
  simp [wpOps, go_sem, Exit.then]
  refine .inl <| wp_cond (t := true) (by simp [Act.eval]) ?_
  simp only [if_true]
  apply wp_region
  simp [wpOps, go_sem, Exit.inBlock, bodyPostS, results, Tryz.results32]
  cases c₀
  simp_all
theorem caught_calls {f : FuncId} {cap : List Value} {w : World} {R : Ending → World → Prop} (hen : enters Tryz.prog f = true)
    (h : Calls Tryz.prog f ⟨cap⟩ (w.alloc (.cells #[.bool false] 4)) (Caught 96 w.heap.size pvN R)) : Calls Tryz.prog 15 #[.func (.func f) #[] ⟨cap⟩] w R := by
  have hmf : ∀ (fn : Fn) (first cap : Array Value) (w : World), (Instr.makeFunc fn first cap).run Tryz.prog w = .ok (.func fn first cap) w := fun _ _ _ _ => rfl
  refine calls_of_wp_defers Tryz.func15 rfl ?_
  simp only [Tryz.ntmps15]
  apply wp_seq
  apply wp_region
  simp [wpOps, go_sem, Exit.then]
  refine .inl ?_
  apply wp_seq
  apply wp_region
  simp [wpOps, go_sem, Exit.then, hmf]
  refine .inl (.inl ?_)
  apply wp_seq
  apply wp_region
  simp [wpOps, go_sem, Exit.then, resolve, Deferred.ofValue, invoke, run_callFunc hen]
  refine .inl (.inl ?_)
  refine h.mono ?_
  rintro e w' ⟨⟨b, hc⟩, hz, ⟨u, rfl, hR⟩ | ⟨rfl, hR⟩⟩
  · show Code.wp _ _ _ _ _
    apply wp_seq
    apply wp_region
    simp [wpOps, go_sem, Exit.then, hc, hz]
    refine .inl ?_
    apply wp_ret
    simp only [bodyPostD]
    refine leaves_cons (f := 32) (args := #[.pointer (some ⟨w.heap.size, 0, none⟩)]) (by simp) (by simp [go_sem]) ?_
    refine (catch_idle _ _).mono ?_
    rintro e u' w'' ⟨rfl, rfl, rfl⟩
    have hc2 : (w'.setCell ⟨w.heap.size, 0, none⟩ (.bool false)).cell? ⟨w.heap.size, 0, none⟩ = some (.bool false) := World.cell?_setCell_same _ _ _ hc
    simp [Leaves, settle, results, Tryz.results15, go_sem, hc2]
    exact hR
  · simp only [bodyPostD]
    refine leaves_cons (f := 32) (args := #[.pointer (some ⟨w.heap.size, 0, none⟩)]) (by simp) (by simp [go_sem]) ?_
    refine (catch_none _ b _ hc hz).mono ?_
    rintro e u' w'' ⟨rfl, rfl, rfl⟩
    have hc2 : ((w'.alloc (.cells #[] 96)).setCell ⟨w.heap.size, 0, none⟩ (.bool true)).cell? ⟨w.heap.size, 0, none⟩ = some (.bool true) := World.cell?_setCell_same (u := .bool b) _ _ _ (by rw [World.cell?_alloc_past _ _ _ (lt_of_cell hc)]; exact hc)
    simp [Leaves, settle, results, Tryz.results15, go_sem, hc2]
    exact hR
set_option maxHeartbeats 8000000 in
theorem parse_words {s : Tx} {L : List Wd} (hlex : CallsP Tryz.prog Lw 8 [txD s] (wordsD (.inr L))) (hL : L.length ≤ 65536) (hS : Small L) (hW : Wide L) (hK : ∀ x ∈ L, x.k ≠ 0) {R : Rs (List Dc)} (hJ : R = (progP (fuel L) []).run wEnd L 0) (hR : R ≠ .oof) (hcnt : ∀ ds j, R = .ok ds j → (progC ds).1 ≤ big) : CallsP Tryz.prog Lw 7 [txD s] (parsedD (parseR L R)) := by
  refine callsP_of gs_lw Tryz.func7 rfl Tryz.ntmps7 rfl fun w0 S0 stab => ?_
  refine sqq <| rgq <| asq rfl rfl <| asq rfl rfl <| asq rfl rfl <| nxq <| sqq <| rgq ?_
  refine mvq rfl rfl <| sq (f_call en8 rfl hlex (lt rfl)) rfl rfl <| mvq rfl rfl <| exq rfl rfl rfl <| exq rfl rfl rfl <| exq rfl rfl rfl <| sq (f_alloc zc27 (lt rfl)) rfl rfl <| soq kd27 rfl rfl rfl rfl rfl ?_
  refine asq rfl rfl <| asq rfl rfl <| nxq <| sqq <| sqq <| rgq <| mvq rfl rfl <| sq (f_bin rfl rfl (bT (b' := false) rfl) (lt rfl)) rfl rfl ?_
  refine nxq <| cnF rfl <| skq <| toq <| sqq <| rgq <| ldq kd27 rfl rfl rfl <| sq (f_build bu46 rfl rfl (lt rfl)) rfl rfl ?_
  refine sq (f_box rfl rfl (lt rfl)) rfl rfl <| sq (f_alloc zc44 (lt rfl)) rfl rfl <| soq kd44 rfl rfl rfl rfl rfl <| nxq <| sqq <| rgq <| sq (f_alloc zc23 (lt rfl)) rfl rfl <| nxq ?_
  refine sqq <| sqq <| rgq <| sq (f_makeClo rfl (lt rfl)) rfl rfl ?_
  refine with_rest (fun j : Nat => [(.slot 24, some (.d (.sc (.bool true)))), (.slot 5, some (.ptr 5 0)), (.slot 8, some (.ptr 8 0)), (.box 8, some (.ptr 8 0)), (.cell 8 0, some (.ptr 22 0)), (.box 5, some (.ptr 5 0)), (.cell 5 0, some (.d (LDw L))), (.box 22, some (.ptr 22 0)), (.cell 22 0, some (.d (LDw L))), (.cell 22 1, some (.d (.sc (.int .i64 (j : Int)))))]) (fun j => R = .bad j) ?_ (fun hpT => ?_)
  · intro j hRj
    have hLne : L ≠ [] := fun c => by subst c; rw [hJ] at hRj; cases hRj
    obtain ⟨xw, hat, hln, hpos⟩ := line_at (L := L) (j := j) hLne
    have hpl := List.length_pos_iff.mpr hLne
    refine nxq <| cnT rfl <| sqq <| hits_drawn mixed <| dq (f_load kd27 rfl rfl (lt rfl)) rfl rfl <| dq (f_load kd44 rfl rfl (lt rfl)) rfl rfl <| dq (f_nil rfl rfl (lt rfl)) rfl rfl <| dq (f_fieldAddr rfl kf46_1 rfl (lt rfl)) rfl rfl ?_
    refine dq (f_load kd3 rfl rfl (lt rfl)) rfl rfl <| dq (f_load kd27 rfl rfl (lt rfl)) rfl rfl <| dq (f_lenListN rfl rfl un27 (List.length_map _) (lt rfl)) rfl rfl <| dq (f_bin rfl rfl (iT (((IntWalk.i64_in _ (by omega)).trans (by omega) : _ = ((L.length : Int) - 1)))) (lt rfl)) rfl rfl <| dq (f_min rfl rfl (lt rfl)) rfl rfl <| dq (f_idxList rfl rfl rfl un27 kd37 hpos hat (lt rfl)) rfl rfl <| dq (f_fieldAddr rfl kf37_3 rfl (lt rfl)) rfl rfl <| dq (f_load kd3 rfl rfl (lt rfl)) rfl rfl ?_
    refine dq (f_assign rfl (lt rfl)) rfl rfl <| dq (f_assign rfl (lt rfl)) rfl rfl <| dq (f_assign rfl (lt rfl)) rfl rfl <| dq_nil rfl <| toq <| rtq <| to_ret <| hits_slotD 2 (q' := .list 15 []) rfl nil_list ?_
    exact hits_done (.inl rfl) rfl rfl (by rw [hRj, parseR, hln]; rfl)
  refine sq_caught 40 (fun cap w R h => caught_calls en16 h) en15 rfl Tryz.func16 rfl Tryz.ntmps16 rfl rfl rfl (lt rfl) rfl rfl fun a19 p19 ha19 hd19 => ?_
  refine hits_block <| hits_ownC 9 0 201 15 rfl <| hits_loop (fun x : Nat × List Dc × Nat => [(.slot 0, some (.ptr 8 0)), (.slot 1, some (.ptr 5 0)), (.slot 2, some (.ptr 9 0)), (.box 8, some (.ptr 8 0)), (.cell 8 0, some (.ptr 22 0)), (.box 5, some (.ptr 5 0)), (.cell 5 0, some (.d (LDw L))), (.box 9, some (.ptr 9 0)), (.cell 9 0, some (.own 201 15 (x.2.1.map dcD))), (.box 22, some (.ptr 22 0)), (.cell 22 0, some (.d (LDw L))), (.cell 22 1, some (.d (.sc (.int .i64 (x.2.2 : Int))))), (.box 40, some (.ptr 40 0)), (.cell 40 0, some (.d (.sc (.bool false)))), (.old 5, some (.ptr 5 0)), (.old 8, some (.ptr 8 0)), (.old 9, some (.ptr 9 0)), (.tip 201, some (.ptr 201 0))]) (fun x : Nat × List Dc × Nat => x.1 ≤ fuel L ∧ x.2.1.length ≤ x.2.2 ∧ x.2.2 ≤ L.length ∧ R = (progP x.1 x.2.1).run wEnd L x.2.2) (fun x : Nat × List Dc × Nat => x.1) (fuel L, [], 0) ⟨Nat.le_refl _, Nat.le_refl _, Nat.zero_le _, hJ⟩ ⟨rfl, rfl, rfl, rfl, rfl, rfl, rfl, rfl, rfl, rfl, rfl, rfl, rfl, rfl, rfl, rfl, rfl, rfl, trivial⟩ rfl ?_
  intro x hx0
  obtain ⟨g, acc, i'⟩ := x
  obtain ⟨hg, ha, hi', hJ⟩ := hx0
  change g ≤ fuel L at hg
  change acc.length ≤ i' at ha
  change i' ≤ L.length at hi'
  change R = (progP g acc).run wEnd L i' at hJ
  change Hits _ [(.slot 0, some (.ptr 8 0)), (.slot 1, some (.ptr 5 0)), (.slot 2, some (.ptr 9 0)), (.box 8, some (.ptr 8 0)), (.cell 8 0, some (.ptr 22 0)), (.box 5, some (.ptr 5 0)), (.cell 5 0, some (.d (LDw L))), (.box 9, some (.ptr 9 0)), (.cell 9 0, some (.own 201 15 (acc.map dcD))), (.box 22, some (.ptr 22 0)), (.cell 22 0, some (.d (LDw L))), (.cell 22 1, some (.d (.sc (.int .i64 (i' : Int))))), (.box 40, some (.ptr 40 0)), (.cell 40 0, some (.d (.sc (.bool false)))), (.old 5, some (.ptr 5 0)), (.old 8, some (.ptr 8 0)), (.old 9, some (.ptr 9 0)), (.tip 201, some (.ptr 201 0))] _
  cases g with
  | zero => exact absurd hJ hR
  | succ g =>
  refine sqq <| sqq ?_
  by_cases hlt : i' < L.length
  · have hk : (wordAt wEnd L i').k ≠ 0 := by obtain ⟨x, hx, hw⟩ := word_at hlt; rw [hw]; exact hK x (List.mem_of_getElem? hx)
    rw [prog_more hk, run_bind] at hJ
    have hnd : (declP g).run wEnd L i' ≠ .oof := fun c => by rw [c] at hJ; exact hR hJ
    have hJb : ∀ j, (declP g).run wEnd L i' = .bad j → R = .bad j := fun j h => by rw [h] at hJ; exact hJ
    refine hits_drawn mixed <| dq (f_load kd44 rfl rfl (lt rfl)) rfl rfl <| dq (f_nil rfl rfl (lt rfl)) rfl rfl <| dq (f_fieldAddr rfl kf46_1 rfl (lt rfl)) rfl rfl <| dq (f_load kd3 rfl rfl (lt rfl)) rfl rfl <| dq (f_load kd27 rfl rfl (lt rfl)) rfl rfl <| dq (f_lenListN rfl rfl un27 (List.length_map _) (lt rfl)) rfl rfl <| dq (f_bin rfl rfl (bT (decide_eq_true (by omega))) (lt rfl)) rfl rfl ?_
    refine dq_nil rfl <| toq <| cnT rfl <| skq <| toq <| hits_block <| hits_drawnT (some (22, 2)) rfl mixed <| dq (f_load kd23 rfl rfl (lt rfl)) rfl rfl ?_
    refine dq (f_load kd44 rfl rfl (lt rfl)) rfl rfl ?_
    refine dq_pr0 (Lx := [.slot 11, .old 5, .old 8, .box 8, .cell 8 0, .box 5, .cell 5 0, .box 40, .cell 40 0]) (dc0 0 0) hnd (decl_c hL hi' hS hW g) rfl rfl (fun st' hLx G a w s => ⟨[], by have e1 : a.eval (.tmp 11) = .pointer (some ⟨G.μ 22, 0, none⟩) := s.ev (x := .tmp 11) (v := .ptr 22 0) ((hLx (.slot 11) (by decide)).trans rfl); have ef : a.eval (.func 17) = .func (.func 17) #[] #[] := rfl; simp [execOp, resolve, ef, Deferred.ofValue, invoke, run_callFunc en17, e1], .nil⟩) ⟨rfl, rfl, trivial⟩ rfl (lt rfl) (fun j hbad st' hLx => hits_to [(.old 5, some (.ptr 5 0)), (.old 8, some (.ptr 8 0)), (.box 8, some (.ptr 8 0)), (.cell 8 0, some (.ptr 22 0)), (.box 5, some (.ptr 5 0)), (.cell 5 0, some (.d (LDw L))), (.box 40, some (.ptr 40 0)), (.cell 40 0, some (.d (.sc (.bool false)))), (.box 22, some (.ptr 22 0)), (.cell 22 0, some (.d (LDw L))), (.cell 22 1, some (.d (.sc (.int .i64 (j : Int)))))] ⟨(hLx (.old 5) (by decide)).trans rfl, (hLx (.old 8) (by decide)).trans rfl, (hLx (.box 8) (by decide)).trans rfl, (hLx (.cell 8 0) (by decide)).trans rfl, (hLx (.box 5) (by decide)).trans rfl, (hLx (.cell 5 0) (by decide)).trans rfl, (hLx (.box 40) (by decide)).trans rfl, (hLx (.cell 40 0) (by decide)).trans rfl, (hLx (.box 22) (by decide)).trans rfl, rfl, rfl, trivial⟩ rfl (panC_of (fn := Tryz.f16) ha19 hd19 (lt rfl) rfl rfl rfl (hits_to ((fun j : Nat => [(.slot 24, some (.d (.sc (.bool true)))), (.slot 5, some (.ptr 5 0)), (.slot 8, some (.ptr 8 0)), (.box 8, some (.ptr 8 0)), (.cell 8 0, some (.ptr 22 0)), (.box 5, some (.ptr 5 0)), (.cell 5 0, some (.d (LDw L))), (.box 22, some (.ptr 22 0)), (.cell 22 0, some (.d (LDw L))), (.cell 22 1, some (.d (.sc (.int .i64 (j : Int)))))]) j) ⟨rfl, rfl, rfl, rfl, rfl, rfl, rfl, rfl, rfl, rfl, trivial⟩ rfl (hpT j (hJb j hbad))))) (fun q j X hX => ?_)
    refine dq (f_buildSlice sk23 rfl rfl rfl rfl rfl rfl (by decide) (by decide) (lt rfl)) rfl rfl <| dq (f_appendO 200 rfl rfl rfl rfl apk23 (by simp only [snds, List.length_map, List.length_cons, List.length_nil]; omega) (by simp only [snds, List.length_map, List.length_cons, List.length_nil]; omega) rfl (by decide) (lt rfl)) rfl rfl ?_
    refine dq (f_store kd23 rfl rfl rfl rfl rfl) rfl rfl <| dq_nilT (by kernel_rfl) rfl ?_
    refine drawn_end (id := 22) hX rfl (fun hq hXe => ?_)
    subst hXe
    have hj := eager_decl _ hq hi'
    rw [hq] at hJ
    refine hits_renumC 9 0 200 201 15 rfl rfl (by decide) <| inq <| toq ?_
    refine round_end (g, acc ++ [q], j) ⟨by simp only; omega, by simp only [List.length_append, List.length_cons, List.length_nil]; omega, hj.2, hJ⟩ (by simp only; omega) ⟨rfl, rfl, rfl, rfl, rfl, rfl, rfl, rfl, (congrArg (fun z => some (V.own 201 15 z)) (map_snoc dcD acc q)), rfl, rfl, rfl, rfl, rfl, rfl, rfl, rfl, rfl, trivial⟩ rfl
  · rw [prog_end hlt] at hJ
    refine hits_drawn mixed <| dq (f_load kd44 rfl rfl (lt rfl)) rfl rfl <| dq (f_nil rfl rfl (lt rfl)) rfl rfl <| dq (f_fieldAddr rfl kf46_1 rfl (lt rfl)) rfl rfl <| dq (f_load kd3 rfl rfl (lt rfl)) rfl rfl <| dq (f_load kd27 rfl rfl (lt rfl)) rfl rfl <| dq (f_lenListN rfl rfl un27 (List.length_map _) (lt rfl)) rfl rfl <| dq (f_bin rfl rfl (bT (decide_eq_false (by omega))) (lt rfl)) rfl rfl ?_
    refine dq_nil rfl <| toq <| cnF rfl <| hits_exit <| to_exit <| to_exit <| in_hit rfl <| hits_backC (.inr rfl) ha19 hd19 (lt rfl) rfl rfl rfl rfl ?_
    refine nxq <| cnF rfl <| skq <| toq <| sqq <| sqq ?_
    by_cases hsm : smallB acc = true
    · refine rgq <| ldq kd23 rfl rfl rfl <| hits_slotL 37 rfl rfl <| sq (f_call en18 rfl (small_c acc (hcnt acc i' hJ)) (lt rfl)) rfl rfl ?_
      rw [hsm]
      refine sq (f_un rfl rfl (lt rfl)) rfl rfl <| nxq <| cnF rfl <| skq <| toq <| sqq <| rgq <| ldq kd23 rfl rfl rfl ?_
      refine asq rfl rfl <| asq rfl rfl <| asq rfl rfl <| nxq <| rtq ?_
      exact hits_done (.inl rfl) rfl rfl (by rw [hJ, parseR, if_pos hsm]; rfl)
    · have hsf : smallB acc = false := by simpa using hsm
      refine rgq <| ldq kd23 rfl rfl rfl <| hits_slotL 37 rfl rfl <| sq (f_call en18 rfl (small_c acc (hcnt acc i' hJ)) (lt rfl)) rfl rfl ?_
      rw [hsf]
      refine sq (f_un rfl rfl (lt rfl)) rfl rfl <| nxq <| cnT rfl <| sqq <| rgq <| asq rfl rfl <| asq rfl rfl <| asq rfl rfl ?_
      refine nxq <| rtq <| to_ret <| hits_slotD 2 (q' := .list 15 []) rfl nil_list ?_
      exact hits_done (.inl rfl) rfl rfl (by rw [hJ, parseR, if_neg hsm]; rfl)
end Go.Proofs.YtogodijfdkffaaaGreatDoor.Ln

/- The plain parser: trees are no greater than their words, and there is fuel enough. -/
namespace Go.Proofs.YtogodijfdkffaaaGreatDoor.Ln
open Go Go.RowKit Go.Ab Go.Proofs 
structure Cost {α : Type} (p : PW α) (e : Nat) (m : α → Nat) : Prop where
  go : ∀ {L : List Wd} {i j : Nat} {a : α}, p.run wEnd L i = .ok a j → m a + i ≤ j + e
theorem cost_ret {α : Type} {a : α} {e : Nat} {m : α → Nat} (h : m a ≤ e) : Cost (.ret a) e m := .mk fun hr => by cases hr; omega
theorem cost_bad {α : Type} {e : Nat} {m : α → Nat} : Cost (.bad : PW α) e m := .mk fun hr => by cases hr
theorem cost_oof {α : Type} {e : Nat} {m : α → Nat} : Cost (.oof : PW α) e m := .mk fun hr => by cases hr
theorem cost_bind {α β : Type} {p : PW α} {k : α → PW β} {e : Nat} {m : α → Nat} {n : β → Nat} (hp : Cost p 0 m) (hk : ∀ a, Cost (k a) (e + m a) n) : Cost (p.bind k) e n := .mk fun hr => by
  obtain ⟨a, j1, h1, h2⟩ := run_ok hr
  have := hp.go h1
  have := (hk a).go h2
  omega
theorem cost_look {α : Type} {k : Wd → PW α} {e : Nat} {m : α → Nat} (h : ∀ w, Cost (k w) e m) : Cost (.look k) e m := .mk fun hr => (h _).go hr
theorem cost_take {α : Type} {p : PW α} {e : Nat} {m : α → Nat} (h : Cost p (e + 1) m) : Cost (.take p) e m := .mk fun {L i j a} hr => by
  have := h.go (show p.run wEnd L (i + 1) = _ from hr)
  omega
theorem cost_ite {α : Type} {c : Prop} [Decidable c] {p q : PW α} {e : Nat} {m : α → Nat} (hp : Cost p e m) (hq : Cost q e m) : Cost (if c then p else q) e m := by split; exact hp; exact hq
theorem cost_may {α : Type} {s : Tx} {A B : PW α} {e : Nat} {m : α → Nat} (hA : Cost A (e + 1) m) (hB : Cost B e m) : Cost ((mayP s).bind fun b => if b = true then A else B) e m := .mk fun hr => by
  obtain ⟨b, j1, h1, h2⟩ := run_ok hr
  rcases may_at h1 with ⟨rfl, rfl, _⟩ | ⟨rfl, rfl⟩
  · have := hA.go h2; omega
  · have := hB.go h2; omega
theorem cost_need : ∀ ts : List Tx, Cost (needP ts) 0 fun _ => ts.length
  | [] => cost_ret (Nat.le_refl _)
  | s :: r => cost_may (.mk fun hr => by have := (cost_need r).go hr; simp only [List.length_cons]; omega) cost_bad
theorem cost_must {α : Type} {c : Wd → Bool} {k : Wd → Wd → α} : Cost (.look fun w => (mustP (c w)).bind fun x => .ret (k w x) : PW α) 0 fun _ => 1 := .mk fun hr => by
  obtain ⟨a, m, h1, h2⟩ := run_ok (p := mustP (c (wordAt wEnd _ _))) hr
  obtain ⟨q1, _, rfl⟩ := must_ok h1
  cases h2
  omega
theorem cost_name : Cost nameP 0 fun _ => 1 := cost_must (c := fun w => decide (w.k = 1) && !keyB w.s) (k := fun _ x => x.s)
theorem cost_whole : Cost wholeP 0 fun _ => 1 := cost_must (c := fun w => decide (w.k = 2)) (k := fun _ x => x.lo)
theorem cost_lit : Cost litP 0 fun _ => 1 := cost_must (c := fun w => decide (w.k = 3)) (k := fun _ x => (x.w, x.hi, x.lo))
theorem cost_owner : Cost ownerP 0 fun _ => 1 := cost_may (cost_ret (Nat.le_refl _)) cost_name
theorem cost_field : Cost fieldP 0 fun _ => 1 := cost_bind cost_owner fun a => cost_bind (cost_need _) fun _ => cost_bind cost_name fun b => cost_ret (by show 1 ≤ _; omega)
theorem cost_typed : Cost typedP 0 fun _ => 1 := cost_bind cost_name fun a => cost_bind cost_whole fun n => cost_ret (by show 1 ≤ _; omega)
mutual
def nEx : Ex → Nat
  | .mk _ _ _ _ _ _ _ _ args _ => args.length + nExs args
def nExs : List Ex → Nat
  | [] => 0
  | x :: l => nEx x + nExs l
end
mutual
def nSm : Sm → Nat
  | .mk _ _ _ _ _ args body els _ => args.length + nExs args + (body.length + nSms body) + (els.length + nSms els)
def nSms : List Sm → Nat
  | [] => 0
  | x :: l => nSm x + nSms l
end
theorem nExs_snoc (x : Ex) : ∀ l : List Ex, nExs (l ++ [x]) = nExs l + nEx x
  | [] => by rw [List.nil_append, nExs, nExs, nExs]; omega
  | y :: l => by rw [List.cons_append, nExs, nExs, nExs_snoc x l]; omega
theorem nSms_snoc (x : Sm) : ∀ l : List Sm, nSms (l ++ [x]) = nSms l + nSm x
  | [] => by rw [List.nil_append, nSms, nSms, nSms]; omega
  | y :: l => by rw [List.cons_append, nSms, nSms, nSms_snoc x l]; omega
theorem nExs_nil : nExs [] = 0 := by rw [nExs]
theorem nExs_one (x : Ex) : nExs [x] = nEx x := by rw [nExs, nExs]; omega
theorem nExs_two (x y : Ex) : nExs [x, y] = nEx x + nEx y := by rw [nExs, nExs, nExs]; omega
theorem nSms_nil : nSms [] = 0 := by rw [nSms]
theorem nEx_mk (op lw lh ll : Nat) (nm fl : Tx) (n m : Nat) (args : List Ex) (ln : Nat) : nEx (.mk op lw lh ll nm fl n m args ln) = args.length + nExs args := by rw [nEx]
theorem nEx_un (op : Nat) (args : List Ex) (ln : Nat) : nEx (exUn op args ln) = args.length + nExs args := by unfold exUn; rw [nEx]
theorem nSm_mk (k : Nat) (a b c : Tx) (n : Nat) (args : List Ex) (body els : List Sm) (ln : Nat) : nSm (.mk k a b c n args body els ln) = args.length + nExs args + (body.length + nSms body) + (els.length + nSms els) := by rw [nSm]
theorem cost_ex : ∀ f : Nat, (∀ lv, Cost (exP f lv) 0 fun x => 1 + nEx x) ∧ (∀ lv line x, Cost (exL f lv line x) (1 + nEx x) fun y => 1 + nEx y) ∧ (∀ line x, Cost (exS f line x) (1 + nEx x) fun y => 1 + nEx y) ∧ (∀ e acc, Cost (exR f e acc) (acc.length + nExs acc) fun l => l.length + nExs l)
  | 0 => ⟨fun lv => by rw [exP]; exact cost_oof, fun lv line x => by rw [exL]; exact cost_oof, fun line x => by rw [exS]; exact cost_oof, fun e acc => by rw [exR]; exact cost_oof⟩
  | f + 1 => by
    obtain ⟨ih1, ih2, ih3, ih4⟩ := cost_ex f
    have up2 : ∀ lv line x, Cost (exL f lv line x) (0 + (1 + nEx x)) fun y => 1 + nEx y := fun lv line x => by rw [Nat.zero_add]; exact ih2 lv line x
    refine ⟨fun lv => ?_, fun lv line x => ?_, fun line x => ?_, fun e acc => ?_⟩
    · rw [exP]
      refine cost_ite (cost_look fun w => cost_bind (ih1 _) fun x => up2 _ _ _) (cost_ite (cost_look fun w => cost_may (cost_bind (ih1 8) fun x => cost_ret (by rw [nEx_un, nExs_one]; simp only [List.length_cons, List.length_nil]; omega)) (cost_bind (ih1 9) fun x => by rw [Nat.zero_add]; exact ih3 _ _)) (cost_look fun w => cost_ite (cost_bind cost_lit fun l => cost_ret (by rw [nEx_mk, nExs_nil]; simp only [List.length_nil]; omega)) ?_))
      refine cost_may (cost_bind cost_name fun s => cost_ret (by rw [nEx_mk, nExs_nil]; simp only [List.length_nil]; omega)) ?_
      refine cost_may (cost_bind cost_whole fun n => cost_bind (cost_need _) fun _ => cost_bind (ih1 0) fun x => cost_bind (cost_need _) fun _ => cost_ret (by rw [nEx_mk, nExs_one]; simp only [List.length_cons, List.length_nil]; omega)) ?_
      refine cost_may (cost_bind cost_name fun s => cost_bind (cost_need _) fun _ => cost_bind (m := fun l => l.length + nExs l) (.mk fun h => by have := (ih4 [41] []).go h; rw [nExs_nil] at this; simpa using this) fun l => cost_ret (by rw [nEx_mk]; simp only [List.length_cons, List.length_nil]; omega)) ?_
      refine cost_may (cost_bind (ih1 0) fun x => cost_bind (cost_need _) fun _ => cost_ret (by omega)) ?_
      refine cost_bind cost_owner fun s => cost_ite (cost_bind (cost_need _) fun _ => cost_bind cost_name fun t => cost_ret (by rw [nEx_mk, nExs_nil]; simp only [List.length_nil]; omega)) ?_
      exact cost_may (cost_bind cost_name fun t => cost_ret (by rw [nEx_mk, nExs_nil]; simp only [List.length_nil]; omega)) (cost_ret (by rw [nEx_mk, nExs_nil]; simp only [List.length_nil]; omega))
    · rw [exL]
      refine cost_look fun w => ?_
      split
      · exact cost_ret (Nat.le_refl _)
      · refine cost_ite (cost_take (cost_bind (ih1 _) fun y => cost_ite (cost_ret (by rw [nEx_un, nExs_two]; simp only [List.length_cons, List.length_nil]; omega)) (.mk fun h => ?_))) (cost_ret (Nat.le_refl _))
        have := (ih2 lv line _).go h
        rw [nEx_un, nExs_two] at this
        simp only [List.length_cons, List.length_nil] at this
        omega
    · rw [exS]
      refine cost_may (cost_bind cost_whole fun n => cost_bind (cost_need _) fun _ => cost_bind cost_whole fun m => cost_bind (cost_need _) fun _ => (.mk fun h => ?_)) (cost_ret (Nat.le_refl _))
      have := (ih3 line _).go h
      rw [nEx_mk, nExs_one] at this
      simp only [List.length_cons, List.length_nil] at this ⊢
      omega
    · rw [exR]
      refine cost_bind (ih1 0) fun x => cost_may ((.mk fun h => ?_)) (cost_bind (cost_need _) fun _ => cost_ret (by rw [nExs_snoc]; simp only [List.length_append, List.length_cons, List.length_nil]; omega))
      have := (ih4 e _).go h
      rw [nExs_snoc] at this
      simp only [List.length_append, List.length_cons, List.length_nil] at this
      omega
theorem cost_exp (f lv : Nat) : Cost (exP f lv) 0 fun x => 1 + nEx x := (cost_ex f).1 lv
theorem cost_exr (f : Nat) (e : Tx) : Cost (exR f e []) 0 fun l => l.length + nExs l := .mk fun h => by have := ((cost_ex f).2.2.2 e []).go h; rw [nExs_nil] at this; simpa using this
theorem cost_index (f : Nat) : Cost (indexP f) 0 fun x => 1 + nEx x := cost_bind (cost_need _) fun _ => cost_bind (cost_exp f 0) fun x => cost_bind (cost_need _) fun _ => cost_ret (by omega)
theorem cost_semi {x : Sm} {e : Nat} (h : nSm x ≤ e) : Cost (semi x) e fun y => nSm y := cost_bind (cost_need _) fun _ => cost_ret (by omega)
theorem cost_form (f kind line : Nat) : ∀ form, Cost (formK f kind line form) 0 fun x => nSm x
  | 0 => cost_bind cost_name fun s => cost_semi (by rw [nSm_mk, nExs_nil, nSms_nil]; simp only [List.length_nil]; omega)
  | 1 => cost_bind cost_name fun s => cost_bind (cost_index f) fun x => cost_semi (by rw [nSm_mk, nExs_one, nSms_nil]; simp only [List.length_cons, List.length_nil]; omega)
  | 2 => cost_bind cost_field fun p => cost_bind (cost_need _) fun _ => cost_bind cost_name fun a => cost_bind (cost_index f) fun x => cost_semi (by rw [nSm_mk, nExs_one, nSms_nil]; simp only [List.length_cons, List.length_nil]; omega)
  | 3 => cost_bind cost_name fun a => cost_bind (cost_index f) fun x => cost_bind (cost_need _) fun _ => cost_bind (cost_exp f 0) fun y => cost_semi (by rw [nSm_mk, nExs_two, nSms_nil]; simp only [List.length_cons, List.length_nil]; omega)
  | 4 => cost_bind cost_field fun p => cost_semi (by rw [nSm_mk, nExs_nil, nSms_nil]; simp only [List.length_nil]; omega)
  | 5 => cost_semi (by rw [nSm_mk, nExs_nil, nSms_nil]; simp only [List.length_nil]; omega)
  | n + 6 => cost_bind cost_whole fun n => cost_semi (by rw [nSm_mk, nExs_nil, nSms_nil]; simp only [List.length_nil]; omega)
theorem cost_up {α : Type} {p : PW α} {e : Nat} {m : α → Nat} (c : Nat) (h : Cost p e m) : Cost p (e + c) fun a => c + m a := .mk fun hr => by have := h.go hr; omega
theorem cost_set (f : Nat) (w : Wd) (s : Tx) (e : Nat) : Cost (setK f w s) e fun x => nSm x := cost_bind (cost_need _) fun _ => cost_bind cost_name fun t => cost_bind (cost_need _) fun _ => cost_bind (cost_exp f 0) fun x => cost_semi (by rw [nSm_mk, nExs_one, nSms_nil]; simp only [List.length_cons, List.length_nil]; omega)
theorem cost_sm : ∀ f : Nat, Cost (smP f) 0 (fun x => 1 + nSm x) ∧ Cost (blP f) 0 (fun l => l.length + nSms l) ∧ ∀ acc, Cost (smsP f acc) (acc.length + nSms acc) fun l => l.length + nSms l
  | 0 => ⟨by rw [smP]; exact cost_oof, by rw [blP]; exact cost_oof, fun acc => by rw [smsP]; exact cost_oof⟩
  | f + 1 => by
    obtain ⟨ih1, ih2, ih3⟩ := cost_sm f
    refine ⟨?_, ?_, fun acc => ?_⟩
    · rw [smP_eq]
      refine cost_look fun w => ?_
      unfold stK
      split
      · exact cost_take (cost_up 1 (cost_form f _ _ _))
      · unfold restK
        refine cost_may (cost_bind (cost_exp f 0) fun x => cost_bind ih2 fun l => cost_may (cost_bind ih2 fun m => cost_ret (by rw [nSm_mk, nExs_one]; simp only [List.length_cons, List.length_nil]; omega)) (cost_ret (by rw [nSm_mk, nExs_one, nSms_nil]; simp only [List.length_cons, List.length_nil]; omega))) ?_
        refine cost_may (cost_bind (cost_exr f _) fun l => cost_ret (by rw [nSm_mk, nSms_nil]; simp only [List.length_nil]; omega)) ?_
        refine cost_bind cost_owner fun s => ?_
        have hset : Cost (setK f w s) (0 + 1) fun x => 1 + nSm x := cost_up 1 (cost_set f w s 0)
        refine cost_ite hset (cost_may (cost_bind (m := fun l => l.length + nExs l) (cost_may (cost_ret (by rw [nExs_nil]; simp)) (cost_exr f _)) fun l => ?_) hset)
        refine .mk fun h => ?_
        have := (cost_semi (Nat.le_refl _)).go h
        rw [nSm_mk, nSms_nil] at this
        simp only [List.length_nil] at this
        omega
    · rw [blP]
      refine cost_bind (cost_need _) fun _ => (.mk fun h => ?_)
      have := (ih3 []).go h
      rw [nSms_nil] at this
      simp only [List.length_nil] at this
      omega
    · rw [smsP]
      refine cost_may (cost_ret (by omega)) (cost_bind ih1 fun x => (.mk fun h => ?_))
      have := (ih3 _).go h
      rw [nSms_snoc] at this
      simp only [List.length_append, List.length_cons, List.length_nil] at this
      omega
def sumN {α : Type} (m : α → Nat) : List α → Nat
  | [] => 0
  | x :: l => m x + sumN m l
theorem sumN_snoc {α : Type} (m : α → Nat) (x : α) : ∀ l : List α, sumN m (l ++ [x]) = sumN m l + m x
  | [] => by simp [sumN]
  | y :: l => by rw [List.cons_append, sumN, sumN, sumN_snoc m x l]; omega
theorem sumN_one {α : Type} : ∀ l : List α, sumN (fun _ => 1) l = l.length
  | [] => rfl
  | y :: l => by rw [sumN, sumN_one l, List.length_cons]; omega
theorem sumN_add {α : Type} (m : α → Nat) : ∀ l : List α, sumN (fun x => 1 + m x) l = l.length + sumN m l
  | [] => rfl
  | y :: l => by rw [sumN, sumN, sumN_add m l, List.length_cons]; omega
theorem cost_each {α : Type} {p : PW α} {m : α → Nat} (hp : Cost p 0 m) : ∀ (f : Nat) (acc : List α), Cost (eachP p f acc) (sumN m acc) (sumN m)
  | 0, acc => cost_oof
  | f + 1, acc => cost_may (cost_ret (by omega)) (cost_bind hp fun x => .mk fun h => by have := (cost_each hp f _).go h; rw [sumN_snoc] at this; omega)
theorem cost_some {α : Type} {p : PW α} {m : α → Nat} (hp : Cost p 0 m) (e : Tx) : ∀ (f : Nat) (acc : List α), Cost (someP p e f acc) (sumN m acc) (sumN m)
  | 0, acc => cost_oof
  | f + 1, acc => cost_bind hp fun x => cost_may (.mk fun h => by have := (cost_some hp e f _).go h; rw [sumN_snoc] at this; omega) (cost_bind (cost_need _) fun _ => cost_ret (by rw [sumN_snoc]; omega))
theorem cost_row {α : Type} {p : PW α} {m : α → Nat} (hp : Cost p 0 m) (e : Tx) (f : Nat) : Cost (rowP p e f) 0 (sumN m) := cost_may (cost_ret (by simp [sumN])) (cost_some hp e f [])
theorem cost_ended {α : Type} {p : PW α} {m : α → Nat} (hp : Cost p 0 m) : Cost (endedP p) 0 m := cost_bind hp fun x => cost_bind (cost_need _) fun _ => cost_ret (by omega)
theorem may_mono {L : List Wd} {i j : Nat} {s : Tx} {b : Bool} (h : (mayP s).run wEnd L i = .ok b j) : i ≤ j := by rcases may_at h with ⟨_, h, _⟩ | ⟨_, h⟩ <;> omega
theorem cost_kase : Cost kaseP 0 fun _ => 1 := cost_bind cost_lit fun v => .mk fun h => by
  obtain ⟨b, j1, h1, h2⟩ := run_ok h
  obtain ⟨m, j2, h3, h4⟩ := run_ok h2
  have e2 := may_mono h1
  have e3 : j1 ≤ j2 := by
    cases b with
    | true => have := cost_lit.go h3; omega
    | false => cases h3; exact Nat.le_refl _
  have e4 : Cost ((needP [[58]]).bind fun _ => nameP.bind fun t => (needP [[59]]).bind fun _ => .ret (⟨v, m, t⟩ : Cs)) 0 fun _ => 0 := cost_bind (cost_need _) fun _ => cost_bind cost_name fun t => cost_bind (cost_need _) fun _ => cost_ret (Nat.zero_le _)
  have := e4.go h4
  omega
theorem cost_takes : ∀ (f : Nat) (acc : List Tx), Cost (takesP f acc) acc.length fun l => l.length
  | 0, acc => cost_oof
  | f + 1, acc => cost_may (cost_bind cost_name fun s => cost_bind (cost_need _) fun _ => .mk fun h => by have := (cost_takes f _).go h; simp only [List.length_append, List.length_cons, List.length_nil] at this; omega) (cost_ret (Nat.le_refl _))
theorem cost_cases : ∀ (f : Nat) (acc : List Cs), Cost (casesP f acc) acc.length fun l => l.length
  | 0, acc => cost_oof
  | f + 1, acc => cost_look fun w => cost_ite (cost_bind cost_kase fun c => .mk fun h => by have := (cost_cases f _).go h; simp only [List.length_append, List.length_cons, List.length_nil] at this; omega) (cost_ret (Nat.le_refl _))
theorem cost_names : ∀ (f : Nat) (acc : List Tx), Cost (namesP f acc) 0 fun l => l.length - acc.length
  | 0, acc => cost_oof
  | f + 1, acc => cost_may (cost_ret (by omega)) (cost_bind cost_name fun s => .mk fun h => by have := (cost_names f _).go h; simp only [List.length_append, List.length_cons, List.length_nil] at this; omega)
theorem cost_kind : ∀ l : List (Tx × Nat), Cost (kindP l) 0 fun _ => 0
  | [] => cost_bad
  | p :: r => cost_may (cost_ret (Nat.zero_le _)) (cost_kind r)
def nSt (s : Stt) : Nat := s.cases.length + (s.sel.length + nExs s.sel)
def nDc (d : Dc) : Nat := d.fields.length + (d.states.length + sumN nSt d.states) + sumN (fun k : Ex × Nat => 1 + nEx k.1) d.keys + (d.body.length + nSms d.body)
def wSt (s : Stt) : Nat := s.headers.length + nSt s
def wDc (d : Dc) : Nat := d.fields.length + (d.states.length + sumN wSt d.states) + sumN (fun k : Ex × Nat => 1 + nEx k.1) d.keys + (d.body.length + nSms d.body) + d.actions.length + d.args.length + d.emits.length
theorem sumN_le {α : Type} {m n : α → Nat} (h : ∀ x, m x ≤ n x) : ∀ l : List α, sumN m l ≤ sumN n l
  | [] => Nat.le_refl _
  | x :: l => by have := h x; have := sumN_le h l; rw [sumN, sumN]; omega
theorem nDc_le (d : Dc) : nDc d ≤ wDc d := by have := sumN_le (m := nSt) (n := wSt) (fun s => by unfold wSt; omega) d.states; unfold nDc wDc; omega
theorem cost_state (f : Nat) : Cost (stateP f) 0 fun s => 1 + wSt s := by
  rw [stateP_eq]
  refine cost_look fun w => cost_bind cost_name fun s => cost_bind (cost_need _) fun _ => cost_bind (m := fun l => l.length) (cost_takes f []) fun hs => ?_
  refine cost_may (cost_bind (cost_exp f 0) fun x => cost_bind (cost_need _) fun _ => cost_bind (m := fun l => l.length) (cost_cases f []) fun cs => cost_bind (cost_need _) fun _ => cost_bind cost_name fun t => cost_bind (cost_need _) fun _ => cost_ret ?_) (cost_bind (cost_need _) fun _ => cost_bind cost_name fun t => cost_bind (cost_need _) fun _ => cost_ret ?_)
  · simp only [wSt, nSt, nExs_one, List.length_cons, List.length_nil]; omega
  · simp only [wSt, nSt, nExs_nil, List.length_cons, List.length_nil]; omega
theorem cost_key (f : Nat) : Cost (keyP f) 0 fun k => 1 + nEx k.1 := cost_bind (cost_exp f 0) fun x => cost_bind (cost_kind _) fun k => cost_ret (by simp only; omega)
theorem cost_fields {α : Type} (f : Nat) {K : List (Tx × Nat) → PW α} {e : Nat} {n : α → Nat} (h : ∀ l : List (Tx × Nat), Cost (K l) (e + l.length) n) : Cost ((fieldsP f).bind K) e n := by
  refine cost_bind (m := fun l => l.length) (cost_bind (cost_need _) fun _ => .mk fun hr => ?_) h
  have := (cost_each (cost_ended cost_typed) f []).go hr
  rw [sumN_one] at this
  simp only [sumN] at this
  omega
theorem cost_on (f line : Nat) : ∀ k : Nat, Cost (onP f line k) 0 wDc
  | 0 => cost_bad
  | 1 => cost_bind cost_name fun s => cost_fields f fun l => cost_ret (by simp only [wDc, dc0, sumN, nSms_nil, List.length_nil]; omega)
  | 2 => cost_fields f fun l => cost_ret (by simp only [wDc, dc0, sumN, nSms_nil, List.length_nil]; omega)
  | 3 => cost_bind cost_name fun s => cost_bind cost_whole fun w => cost_bind cost_whole fun n => cost_bind (cost_need _) fun _ => cost_ret (by simp only [wDc, dc0, sumN, nSms_nil, List.length_nil]; omega)
  | 4 => cost_bind cost_name fun s => cost_bind cost_whole fun n => cost_bind (cost_need _) fun _ => cost_ret (by simp only [wDc, dc0, sumN, nSms_nil, List.length_nil]; omega)
  | 5 => cost_bind cost_name fun s => cost_bind cost_whole fun n => cost_bind cost_whole fun r => cost_bind cost_whole fun u => cost_bind (cost_need _) fun _ => cost_ret (by simp only [wDc, dc0, sumN, nSms_nil, List.length_nil]; omega)
  | 6 => cost_bind (cost_need _) fun _ => cost_bind (m := fun l => l.length + sumN wSt l) (.mk fun h => by have := (cost_each (cost_state f) f []).go h; rw [sumN_add] at this; simp only [sumN] at this; omega) fun l => cost_ret (by simp only [wDc, dc0, sumN, nSms_nil, List.length_nil]; omega)
  | 7 => cost_bind cost_name fun s => cost_bind (cost_need _) fun _ => cost_bind (m := fun l => l.length) (.mk fun h => by have := (cost_row cost_typed _ f).go h; rw [sumN_one] at this; exact this) fun l => cost_bind (cost_sm f).2.1 fun m => cost_ret (by simp only [wDc, dc0, sumN, List.length_nil]; omega)
  | 8 => cost_bind cost_name fun s => cost_bind (cost_need _) fun _ => cost_bind (m := sumN fun k : Ex × Nat => 1 + nEx k.1) (.mk fun h => by have := (cost_each (cost_ended (cost_key f)) f []).go h; simp only [sumN] at this; omega) fun ks => cost_bind (cost_need _) fun _ => cost_bind cost_name fun a => cost_bind (m := fun l => l.length - 1) (cost_names f [a]) fun al => cost_bind (cost_need _) fun _ => cost_bind cost_name fun d => cost_bind (cost_need _) fun _ => cost_bind (m := fun l => l.length) (.mk fun h => by have := (cost_row cost_lit _ f).go h; rw [sumN_one] at this; exact this) fun l => cost_bind (cost_need _) fun _ => cost_bind cost_whole fun n => cost_bind (cost_need _) fun _ => cost_ret (by simp only [wDc, dc0, sumN, nSms_nil, List.length_nil]; omega)
  | 9 => cost_bind (cost_sm f).2.1 fun m => cost_ret (by simp only [wDc, dc0, sumN, List.length_nil]; omega)
  | 10 => cost_bind (cost_need _) fun _ => cost_bind (m := fun l => l.length) (.mk fun h => by have := (cost_each (cost_ended cost_name) f []).go h; rw [sumN_one] at this; simp only [sumN] at this; omega) fun l => cost_ret (by simp only [wDc, dc0, sumN, nSms_nil, List.length_nil]; omega)
  | _ + 11 => cost_bad
theorem cost_decl (f : Nat) : Cost (declP f) 0 fun d => 1 + wDc d := cost_look fun w => .mk fun h => by
  obtain ⟨a, m, h1, h2⟩ := run_ok h
  obtain ⟨_, _, rfl⟩ := must_ok h1
  have := (cost_on f _ _).go h2
  omega
theorem cost_prog : ∀ (f : Nat) (acc : List Dc), Cost (progP f acc) (acc.length + sumN wDc acc) fun l => l.length + sumN wDc l
  | 0, acc => cost_oof
  | f + 1, acc => cost_look fun w => cost_ite (cost_ret (Nat.le_refl _)) (cost_bind (cost_decl f) fun d => .mk fun h => by have := (cost_prog f _).go h; rw [sumN_snoc] at this; simp only [List.length_append, List.length_cons, List.length_nil] at this; omega)
mutual
theorem exA_n : ∀ (x : Ex) (d : Nat) (c : Ct), (exA x d c).1 = c.1 + nEx x
  | .mk _ _ _ _ _ _ _ _ args _, d, c => by rw [exA, exF_n args, nEx]; show c.1 + args.length + nExs args = _; omega
theorem exF_n : ∀ (l : List Ex) (d : Nat) (c : Ct), (exF l d c).1 = c.1 + nExs l
  | [], d, c => by rw [exF, nExs]; rfl
  | x :: l, d, c => by rw [exF, exF_n l, exA_n x, nExs]; omega
end
theorem exprsC_n (l : List Ex) (d : Nat) (c : Ct) : (exprsC l d c).1 = c.1 + (l.length + nExs l) := by unfold exprsC; rw [exF_n]; show c.1 + l.length + nExs l = _; omega
mutual
theorem smA_n : ∀ (x : Sm) (d : Nat) (c : Ct), (smA x d c).1 = c.1 + nSm x
  | .mk _ _ _ _ _ args body els _, d, c => by
    rw [smA, smF_n els, nSm]
    show (smF body _ _).1 + els.length + nSms els = _
    rw [smF_n body]
    show (exprsC args d c).1 + body.length + nSms body + els.length + nSms els = _
    rw [exprsC_n]; omega
theorem smF_n : ∀ (l : List Sm) (d : Nat) (c : Ct), (smF l d c).1 = c.1 + nSms l
  | [], d, c => by rw [smF, nSms]; rfl
  | x :: l, d, c => by rw [smF, smF_n l, smA_n x, nSms]; omega
end
theorem statesF_n : ∀ (l : List Stt) (c : Ct), (statesF l c).1 = c.1 + sumN nSt l
  | [], c => rfl
  | s :: l, c => by
    rw [statesF, statesF_n l, sumN]
    show (exprsC s.sel 3 (partsC s.cases.length 3 c)).1 + _ = _
    rw [exprsC_n]; show c.1 + s.cases.length + _ + _ = _; unfold nSt; omega
theorem keysF_n : ∀ (l : List (Ex × Nat)) (c : Ct), (keysF l c).1 = c.1 + sumN (fun k : Ex × Nat => 1 + nEx k.1) l
  | [], c => rfl
  | k :: l, c => by rw [keysF, keysF_n l, exprsC_n, sumN, nExs_one]; simp only [List.length_cons, List.length_nil]; omega
theorem declC_n (d : Dc) (c : Ct) : (declC d c).1 = c.1 + nDc d := by
  unfold declC stmtsC
  rw [smF_n]
  show (keysF _ _).1 + d.body.length + _ = _
  rw [keysF_n, statesF_n]
  show c.1 + d.fields.length + d.states.length + _ + _ + _ + _ = _
  unfold nDc; omega
theorem declsF_n : ∀ (l : List Dc) (c : Ct), (declsF l c).1 = c.1 + sumN nDc l
  | [], c => rfl
  | d :: l, c => by rw [declsF, declsF_n l, declC_n, sumN]; omega
theorem progC_n (l : List Dc) : (progC l).1 = l.length + sumN nDc l := by unfold progC; rw [declsF_n]; show 0 + l.length + _ = _; omega
theorem prog_count {L : List Wd} {f : Nat} {ds : List Dc} {j : Nat} (h : (progP f []).run wEnd L 0 = .ok ds j) : (progC ds).1 ≤ j := by
  have := (cost_prog f []).go h
  have := sumN_le nDc_le ds
  rw [progC_n]
  simp only [List.length_nil, sumN] at *
  omega
def Nf {α : Type} (p : PW α) (L : List Wd) (i : Nat) : Prop := p.run wEnd L i ≠ .oof
structure Sure {α : Type} (p : PW α) : Prop where
  go : ∀ (L : List Wd) (i : Nat), Nf p L i
theorem nf_ret {α : Type} {a : α} {L : List Wd} {i : Nat} : Nf (.ret a) L i := fun c => by cases c
theorem nf_bad {α : Type} {L : List Wd} {i : Nat} : Nf (.bad : PW α) L i := fun c => by cases c
theorem nf_look {α : Type} {k : Wd → PW α} {L : List Wd} {i : Nat} (h : Nf (k (wordAt wEnd L i)) L i) : Nf (.look k) L i := h
theorem nf_ite {α : Type} {c : Prop} [Decidable c] {p q : PW α} {L : List Wd} {i : Nat} (hp : Nf p L i) (hq : Nf q L i) : Nf (if c then p else q) L i := by split; exact hp; exact hq
theorem nf_bind {α β : Type} {p : PW α} {k : α → PW β} {L : List Wd} {i : Nat} (hp : Nf p L i) (hk : ∀ a m, p.run wEnd L i = .ok a m → Nf (k a) L m) : Nf (p.bind k) L i := by
  unfold Nf
  rw [run_bind]
  cases hr : p.run wEnd L i with
  | ok a m => exact hk a m hr
  | bad m => intro c; cases c
  | oof => exact absurd hr hp
theorem nf_bindT {α β : Type} {p : PW α} {k : α → PW β} {L : List Wd} {i : Nat} (ht : Tame p) (hi : i ≤ L.length) (hp : Nf p L i) (hk : ∀ a m, i ≤ m → m ≤ L.length → Nf (k a) L m) : Nf (p.bind k) L i :=
  nf_bind hp fun a m hr => hk a m (ht hr hi).1 (ht hr hi).2
theorem nf_bindE {α β : Type} {p : PW α} {k : α → PW β} {L : List Wd} {i : Nat} (ht : Eager p) (hi : i ≤ L.length) (hp : Nf p L i) (hk : ∀ a m, i < m → m ≤ L.length → Nf (k a) L m) : Nf (p.bind k) L i :=
  nf_bind hp fun a m hr => hk a m (ht hr hi).1 (ht hr hi).2
theorem nf_mayb {s : Tx} {L : List Wd} {i : Nat} : Nf (mayP s) L i := nf_look (nf_ite (fun c => by cases c) nf_ret)
theorem nf_may {α : Type} {s : Tx} {A B : PW α} {L : List Wd} {i : Nat} (hA : i < L.length → Nf A L (i + 1)) (hB : Nf B L i) : Nf ((mayP s).bind fun b => if b = true then A else B) L i :=
  nf_bind nf_mayb fun b m hr => by
    rcases may_at hr with ⟨rfl, rfl, h⟩ | ⟨rfl, rfl⟩
    · exact hA h
    · exact hB
theorem nf_needb : ∀ (ts : List Tx) {L : List Wd} {i : Nat}, Nf (needP ts) L i
  | [], _, _ => nf_ret
  | s :: r, _, _ => nf_bind nf_mayb fun b m _ => nf_ite (nf_needb r) nf_bad
theorem nf_need {α : Type} {ts : List Tx} {k : Unit → PW α} {L : List Wd} {i : Nat} (hi : i ≤ L.length) (hk : ∀ a m, i ≤ m → m ≤ L.length → Nf (k a) L m) : Nf ((needP ts).bind k) L i := nf_bindT (tame_need ts) hi (nf_needb ts) hk
theorem nf_must {α : Type} {c : Wd → Bool} {k : Wd → Wd → α} {L : List Wd} {i : Nat} : Nf (.look fun w => (mustP (c w)).bind fun x => .ret (k w x) : PW α) L i := nf_look (nf_bind (by cases c (wordAt wEnd L i) <;> exact fun c => by cases c) fun a m _ => nf_ret)
theorem nf_nameb {L : List Wd} {i : Nat} : Nf nameP L i := nf_must (c := fun w => decide (w.k = 1) && !keyB w.s) (k := fun _ x => x.s)
theorem nf_wholeb {L : List Wd} {i : Nat} : Nf wholeP L i := nf_must (c := fun w => decide (w.k = 2)) (k := fun _ x => x.lo)
theorem nf_litb {L : List Wd} {i : Nat} : Nf litP L i := nf_must (c := fun w => decide (w.k = 3)) (k := fun _ x => (x.w, x.hi, x.lo))
theorem nf_name {α : Type} {k : Tx → PW α} {L : List Wd} {i : Nat} (hi : i ≤ L.length) (hk : ∀ a m, i < m → m ≤ L.length → Nf (k a) L m) : Nf (nameP.bind k) L i := nf_bindE eager_name hi nf_nameb hk
theorem nf_whole {α : Type} {k : Nat → PW α} {L : List Wd} {i : Nat} (hi : i ≤ L.length) (hk : ∀ a m, i < m → m ≤ L.length → Nf (k a) L m) : Nf (wholeP.bind k) L i := nf_bindE eager_whole hi nf_wholeb hk
theorem nf_lit {α : Type} {k : N3 → PW α} {L : List Wd} {i : Nat} (hi : i ≤ L.length) (hk : ∀ a m, i < m → m ≤ L.length → Nf (k a) L m) : Nf (litP.bind k) L i := nf_bindE eager_lit hi nf_litb hk
theorem nf_ownerb {L : List Wd} {i : Nat} : Nf ownerP L i := nf_may (fun _ => nf_ret) nf_nameb
theorem nf_owner {α : Type} {k : Tx → PW α} {L : List Wd} {i : Nat} (hi : i ≤ L.length) (hk : ∀ a m, i < m → m ≤ L.length → Nf (k a) L m) : Nf (ownerP.bind k) L i := nf_bindE eager_owner hi nf_ownerb hk
theorem eager_field : Eager fieldP := eager_bind eager_owner fun a => tame_bind (tame_need _) fun _ => tame_bind eager_name.tame fun b => tame_ret _
theorem nf_field {α : Type} {k : Tx × Tx → PW α} {L : List Wd} {i : Nat} (hi : i ≤ L.length) (hk : ∀ a m, i < m → m ≤ L.length → Nf (k a) L m) : Nf (fieldP.bind k) L i :=
  nf_bindE eager_field hi (nf_owner hi fun a m h1 h2 => nf_need h2 fun _ m2 h3 h4 => nf_name h4 fun b m3 _ _ => nf_ret) hk
theorem nf_ex {L : List Wd} : ∀ f : Nat, (∀ lv i, lv ≤ 9 → i ≤ L.length → 12 * (L.length - i) + 11 ≤ f + lv → Nf (exP f lv) L i) ∧ (∀ lv line x i, lv ≤ 7 → i ≤ L.length → 12 * (L.length - i) + 1 ≤ f → Nf (exL f lv line x) L i) ∧ (∀ line x i, i ≤ L.length → 12 * (L.length - i) + 1 ≤ f → Nf (exS f line x) L i) ∧ (∀ e acc i, i ≤ L.length → 12 * (L.length - i) + 12 ≤ f → Nf (exR f e acc) L i)
  | 0 => ⟨fun lv i h1 h2 h3 => by omega, fun lv line x i h1 h2 h3 => by omega, fun line x i h1 h2 => by omega, fun e acc i h1 h2 => by omega⟩
  | f + 1 => by
    obtain ⟨ih1, ih2, ih3, ih4⟩ := nf_ex (L := L) f
    refine ⟨fun lv i h1 h2 h3 => ?_, fun lv line x i h1 h2 h3 => ?_, fun line x i h1 h2 => ?_, fun e acc i h1 h2 => ?_⟩
    · by_cases h7 : lv ≤ 7
      · rw [exP, if_pos h7]
        exact nf_look (nf_bindT (tame_ex f _) h2 (ih1 _ _ (by omega) h2 (by omega)) fun x m q1 q2 => ih2 _ _ _ _ h7 q2 (by omega))
      by_cases h8 : lv = 8
      · subst h8
        rw [exP, if_neg h7, if_pos rfl]
        exact nf_look (nf_may (fun hlt => nf_bindT (tame_ex f _) hlt (ih1 _ _ (by omega) hlt (by omega)) fun x m q1 q2 => nf_ret) (nf_bindT (tame_ex f _) h2 (ih1 _ _ (by omega) h2 (by omega)) fun x m q1 q2 => ih3 _ _ _ q2 (by omega)))
      obtain rfl : lv = 9 := by omega
      rw [exP_prim]
      refine nf_look ?_
      unfold primK
      refine nf_ite (nf_lit h2 fun _ _ _ _ => nf_ret) ?_
      refine nf_may (fun hlt => nf_name hlt fun _ _ _ _ => nf_ret) ?_
      refine nf_may (fun hlt => nf_whole hlt fun _ m q1 q2 => nf_need q2 fun _ m2 q3 q4 => nf_bindT (tame_ex f _) q4 (ih1 _ _ (by omega) q4 (by omega)) fun x m3 q5 q6 => nf_need q6 fun _ _ _ _ => nf_ret) ?_
      refine nf_may (fun hlt => nf_name hlt fun _ m q1 q2 => nf_need q2 fun _ m2 q3 q4 => nf_bindT (tame_exR f _ _) q4 (ih4 _ _ _ q4 (by omega)) fun l m3 q5 q6 => nf_ret) ?_
      refine nf_may (fun hlt => nf_bindT (tame_ex f _) hlt (ih1 _ _ (by omega) hlt (by omega)) fun x m q1 q2 => nf_need q2 fun _ _ _ _ => nf_ret) ?_
      refine nf_owner h2 fun s m q1 q2 => nf_ite (nf_need q2 fun _ m2 q3 q4 => nf_name q4 fun _ _ _ _ => nf_ret) (nf_may (fun hlt => nf_name hlt fun _ _ _ _ => nf_ret) nf_ret)
    · rw [exL]
      refine nf_look ?_
      split
      · exact nf_ret
      · rename_i op b _
        by_cases hc : (wordAt wEnd L i).k = 4 ∧ b = lv
        · rw [if_pos hc]
          have hlt := word_in (L := L) (i := i) (by rw [hc.1]; decide)
          show Nf ((exP f (lv + 1)).bind _) L (i + 1)
          exact nf_bindT (tame_ex f _) hlt (ih1 _ _ (by omega) hlt (by omega)) fun y m q1 q2 => nf_ite nf_ret (ih2 _ _ _ _ h1 q2 (by omega))
        · rw [if_neg hc]; exact nf_ret
    · rw [exS]
      exact nf_may (fun hlt => nf_whole hlt fun _ m q1 q2 => nf_need q2 fun _ m2 q3 q4 => nf_whole q4 fun _ m3 q5 q6 => nf_need q6 fun _ m4 q7 q8 => ih3 _ _ _ q8 (by omega)) nf_ret
    · rw [exR]
      refine nf_bindT (tame_ex f _) h1 (ih1 _ _ (by omega) h1 (by omega)) fun x m q1 q2 => nf_may (fun hlt => ih4 _ _ _ hlt (by omega)) (nf_need q2 fun _ _ _ _ => nf_ret)
theorem nf_exp {L : List Wd} {f i : Nat} (hi : i ≤ L.length) (hf : 12 * (L.length - i) + 11 ≤ f) : Nf (exP f 0) L i := (nf_ex f).1 0 i (by omega) hi hf
theorem nf_exr {L : List Wd} {f i : Nat} {e : Tx} {acc : List Ex} (hi : i ≤ L.length) (hf : 12 * (L.length - i) + 12 ≤ f) : Nf (exR f e acc) L i := (nf_ex f).2.2.2 e acc i hi hf
theorem nf_index {α : Type} {L : List Wd} {f i : Nat} {k : Ex → PW α} (hi : i ≤ L.length) (hf : 12 * (L.length - i) + 11 ≤ f) (hk : ∀ a m, i ≤ m → m ≤ L.length → Nf (k a) L m) : Nf ((indexP f).bind k) L i :=
  nf_bindT (tame_index f) hi (nf_need hi fun _ m q1 q2 => nf_bindT (tame_ex f _) q2 (nf_exp q2 (by omega)) fun x m2 q3 q4 => nf_need q4 fun _ _ _ _ => nf_ret) hk
theorem nf_semi {L : List Wd} {i : Nat} {x : Sm} (hi : i ≤ L.length) : Nf (semi x) L i := nf_need hi fun _ _ _ _ => nf_ret
theorem nf_form {L : List Wd} {f kind line i : Nat} (hi : i ≤ L.length) (hf : 12 * (L.length - i) + 11 ≤ f) : ∀ form, Nf (formK f kind line form) L i
  | 0 => nf_name hi fun _ m q1 q2 => nf_semi q2
  | 1 => nf_name hi fun _ m q1 q2 => nf_index q2 (by omega) fun x m2 q3 q4 => nf_semi q4
  | 2 => nf_field hi fun _ m q1 q2 => nf_need q2 fun _ m2 q3 q4 => nf_name q4 fun _ m3 q5 q6 => nf_index q6 (by omega) fun x m4 q7 q8 => nf_semi q8
  | 3 => nf_name hi fun _ m q1 q2 => nf_index q2 (by omega) fun x m2 q3 q4 => nf_need q4 fun _ m3 q5 q6 => nf_bindT (tame_ex f _) q6 (nf_exp q6 (by omega)) fun y m4 q7 q8 => nf_semi q8
  | 4 => nf_field hi fun _ m q1 q2 => nf_semi q2
  | 5 => nf_semi hi
  | n + 6 => nf_whole hi fun _ m q1 q2 => nf_semi q2
theorem nf_set {L : List Wd} {f i : Nat} {w : Wd} {s : Tx} (hi : i ≤ L.length) (hf : 12 * (L.length - i) + 11 ≤ f) : Nf (setK f w s) L i := nf_need hi fun _ m q1 q2 => nf_name q2 fun _ m2 q3 q4 => nf_need q4 fun _ m3 q5 q6 => nf_bindT (tame_ex f _) q6 (nf_exp q6 (by omega)) fun y m4 q7 q8 => nf_semi q8
theorem nf_sm {L : List Wd} : ∀ f : Nat, (∀ i, i ≤ L.length → 12 * (L.length - i) + 1 ≤ f → Nf (smP f) L i) ∧ (∀ i, i ≤ L.length → 12 * (L.length - i) + 1 ≤ f → Nf (blP f) L i) ∧ (∀ acc i, i ≤ L.length → 12 * (L.length - i) + 2 ≤ f → Nf (smsP f acc) L i)
  | 0 => ⟨fun i h1 h2 => by omega, fun i h1 h2 => by omega, fun acc i h1 h2 => by omega⟩
  | f + 1 => by
    obtain ⟨ih1, ih2, ih3⟩ := nf_sm (L := L) f
    refine ⟨fun i h1 h2 => ?_, fun i h1 h2 => ?_, fun acc i h1 h2 => ?_⟩
    · rw [smP_eq]
      refine nf_look ?_
      unfold stK
      split
      · rename_i kind form he
        have hk : (wordAt wEnd L i).k = 1 := by
          by_cases h : (wordAt wEnd L i).k = 1
          · exact h
          · rw [if_neg h] at he; cases he
        have hlt := word_in (L := L) (i := i) (by rw [hk]; decide)
        exact nf_form (i := i + 1) hlt (by omega) form
      · unfold restK
        refine nf_may (fun hlt => nf_bindT (tame_ex f _) hlt (nf_exp hlt (by omega)) fun x m q1 q2 => nf_bindT (tame_bl f) q2 (ih2 _ q2 (by omega)) fun l m2 q3 q4 => nf_may (fun hl2 => nf_bindT (tame_bl f) hl2 (ih2 _ hl2 (by omega)) fun _ _ _ _ => nf_ret) nf_ret) ?_
        refine nf_may (fun hlt => nf_bindT (tame_exR f _ _) hlt (nf_exr hlt (by omega)) fun _ _ _ _ => nf_ret) ?_
        refine nf_owner h1 fun s m q1 q2 => nf_ite (nf_set q2 (by omega)) (nf_may (fun hlt => ?_) (nf_set q2 (by omega)))
        exact nf_bindT (tame_bind (tame_may _) fun c => tame_ite (tame_ret _) (tame_exR f _ _)) hlt (nf_may (fun _ => nf_ret) (nf_exr hlt (by omega))) fun l m2 q3 q4 => nf_semi q4
    · rw [blP]
      refine nf_bind (nf_needb _) fun _ m hr => ?_
      obtain ⟨b, j1, r1, r2⟩ := run_ok (p := mayP [123]) (k := fun b => if b = true then needP [] else .bad) hr
      rcases may_at r1 with ⟨rfl, rfl, hlt⟩ | ⟨rfl, rfl⟩
      · cases r2; exact ih3 _ _ hlt (by omega)
      · cases r2
    · rw [smsP]
      exact nf_may (fun hlt => nf_ret) (nf_bindE (p := smP f) (eager_sm f) h1 (ih1 _ h1 (by omega)) fun x m q1 q2 => ih3 _ _ q2 (by omega))
theorem nf_bl {α : Type} {L : List Wd} {f i : Nat} {k : List Sm → PW α} (hi : i ≤ L.length) (hf : 12 * (L.length - i) + 1 ≤ f) (hk : ∀ a m, i ≤ m → m ≤ L.length → Nf (k a) L m) : Nf ((blP f).bind k) L i := nf_bindT (tame_bl f) hi ((nf_sm f).2.1 i hi hf) hk
theorem nf_each {α : Type} {p : PW α} {L : List Wd} (he : Eager p) {i0 : Nat} (hn : ∀ i, i0 ≤ i → i ≤ L.length → Nf p L i) : ∀ (f : Nat) (acc : List α) (i : Nat), i0 ≤ i → i ≤ L.length → L.length - i + 1 ≤ f → Nf (eachP p f acc) L i
  | 0, acc, i, h0, h1, h2 => by omega
  | f + 1, acc, i, h0, h1, h2 => nf_may (fun _ => nf_ret) (nf_bindE he h1 (hn i h0 h1) fun x m q1 q2 => nf_each he hn f _ m (by omega) q2 (by omega))
theorem nf_some {α : Type} {p : PW α} {e : Tx} {L : List Wd} (he : Eager p) (hn : ∀ i, i ≤ L.length → Nf p L i) : ∀ (f : Nat) (acc : List α) (i : Nat), i ≤ L.length → L.length - i + 1 ≤ f → Nf (someP p e f acc) L i
  | 0, acc, i, h1, h2 => by omega
  | f + 1, acc, i, h1, h2 => nf_bindE he h1 (hn i h1) fun x m q1 q2 => nf_may (fun hlt => nf_some he hn f _ _ hlt (by omega)) (nf_need q2 fun _ _ _ _ => nf_ret)
theorem nf_row {α β : Type} {p : PW α} {e : Tx} {L : List Wd} {f i : Nat} {k : List α → PW β} (he : Eager p) (hn : ∀ i, i ≤ L.length → Nf p L i) (hi : i ≤ L.length) (hf : L.length - i + 1 ≤ f) (hk : ∀ a m, i ≤ m → m ≤ L.length → Nf (k a) L m) : Nf ((rowP p e f).bind k) L i :=
  nf_bindT (tame_row (Eager.tame he) e f) hi (nf_may (fun _ => nf_ret) (nf_some he hn f [] i hi hf)) hk
theorem nf_takes {L : List Wd} : ∀ (f : Nat) (acc : List Tx) (i : Nat), i ≤ L.length → L.length - i + 1 ≤ f → Nf (takesP f acc) L i
  | 0, acc, i, h1, h2 => by omega
  | f + 1, acc, i, h1, h2 => nf_may (fun hlt => nf_name hlt fun _ m q1 q2 => nf_need q2 fun _ m2 q3 q4 => nf_takes f _ m2 q4 (by omega)) nf_ret
theorem nf_kaseb {L : List Wd} {i : Nat} (hi : i ≤ L.length) : Nf kaseP L i := by
  rw [kaseP_eq]
  have hE : ∀ (v m : N3) (i : Nat), i ≤ L.length → Nf (kaseE v m) L i := fun v m i hi => nf_need hi fun _ m q1 q2 => nf_name q2 fun _ m2 q3 q4 => nf_need q4 fun _ _ _ _ => nf_ret
  exact nf_lit hi fun v m q1 q2 => nf_may (fun hlt => nf_lit hlt fun _ m2 q3 q4 => hE _ _ _ q4) (hE _ _ _ q2)
theorem nf_cases {L : List Wd} : ∀ (f : Nat) (acc : List Cs) (i : Nat), i ≤ L.length → L.length - i + 1 ≤ f → Nf (casesP f acc) L i
  | 0, acc, i, h1, h2 => by omega
  | f + 1, acc, i, h1, h2 => nf_look (nf_ite (nf_bindE eager_kase h1 (nf_kaseb h1) fun c m q1 q2 => nf_cases f _ m q2 (by omega)) nf_ret)
theorem nf_names {L : List Wd} : ∀ (f : Nat) (acc : List Tx) (i : Nat), i ≤ L.length → L.length - i + 1 ≤ f → Nf (namesP f acc) L i
  | 0, acc, i, h1, h2 => by omega
  | f + 1, acc, i, h1, h2 => nf_may (fun _ => nf_ret) (nf_name h1 fun _ m q1 q2 => nf_names f _ m q2 (by omega))
theorem nf_kind {L : List Wd} {i : Nat} : ∀ l : List (Tx × Nat), Nf (kindP l) L i
  | [] => nf_bad
  | p :: r => nf_may (fun _ => nf_ret) (nf_kind r)
theorem nf_state {L : List Wd} {f i : Nat} (hi : i ≤ L.length) (hf : 12 * (L.length - i) + 11 ≤ f) : Nf (stateP f) L i := by
  rw [stateP_eq]
  refine nf_look ?_
  unfold stateK
  refine nf_name hi fun _ m q1 q2 => nf_need q2 fun _ m2 q3 q4 => nf_bindT (tame_takes f []) q4 (nf_takes f [] _ q4 (by omega)) fun hs m3 q5 q6 => ?_
  unfold stateT
  refine nf_may (fun hlt => nf_bindT (tame_ex f _) hlt (nf_exp hlt (by omega)) fun x m4 q7 q8 => nf_need q8 fun _ m5 q9 q10 => nf_bindT (tame_cases f []) q10 (nf_cases f [] _ q10 (by omega)) fun cs m6 q11 q12 => ?_) (nf_need q6 fun _ m4 q7 q8 => nf_name q8 fun _ m5 q9 q10 => nf_need q10 fun _ _ _ _ => nf_ret)
  exact nf_need q12 fun _ m7 q13 q14 => nf_name q14 fun _ m8 q15 q16 => nf_need q16 fun _ _ _ _ => nf_ret
theorem nf_key {L : List Wd} {f i : Nat} (hi : i ≤ L.length) (hf : 12 * (L.length - i) + 11 ≤ f) : Nf (keyP f) L i := nf_bindT (tame_ex f _) hi (nf_exp hi hf) fun x m q1 q2 => nf_bind (nf_kind _) fun _ _ _ => nf_ret
theorem nf_ended {α : Type} {p : PW α} {L : List Wd} {i : Nat} (he : Eager p) (hi : i ≤ L.length) (hn : Nf p L i) : Nf (endedP p) L i := nf_bindE he hi hn fun x m q1 q2 => nf_need q2 fun _ _ _ _ => nf_ret
theorem nf_typed {L : List Wd} {i : Nat} (hi : i ≤ L.length) : Nf typedP L i := nf_name hi fun _ m q1 q2 => nf_whole q2 fun _ _ _ _ => nf_ret
theorem nf_fields {α : Type} {L : List Wd} {f i : Nat} {k : List (Tx × Nat) → PW α} (hi : i ≤ L.length) (hf : L.length - i + 1 ≤ f) (hk : ∀ a m, i ≤ m → m ≤ L.length → Nf (k a) L m) : Nf ((fieldsP f).bind k) L i :=
  nf_bindT (tame_fields f) hi (nf_need hi fun _ m q1 q2 => nf_each (i0 := 0) (eager_ended eager_typed) (fun i _ h => nf_ended eager_typed h (nf_typed h)) f [] m (Nat.zero_le _) q2 (by omega)) hk
theorem nf_on {L : List Wd} {f line i : Nat} (hi : i ≤ L.length) (hf : 12 * (L.length - i) + 12 ≤ f) : ∀ k, Nf (onP f line k) L i
  | 0 => nf_bad
  | 1 => nf_name hi fun _ m q1 q2 => nf_fields q2 (by omega) fun _ _ _ _ => nf_ret
  | 2 => nf_fields hi (by omega) fun _ _ _ _ => nf_ret
  | 3 => nf_name hi fun _ m q1 q2 => nf_whole q2 fun _ m2 q3 q4 => nf_whole q4 fun _ m3 q5 q6 => nf_need q6 fun _ _ _ _ => nf_ret
  | 4 => nf_name hi fun _ m q1 q2 => nf_whole q2 fun _ m2 q3 q4 => nf_need q4 fun _ _ _ _ => nf_ret
  | 5 => nf_name hi fun _ m q1 q2 => nf_whole q2 fun _ m2 q3 q4 => nf_whole q4 fun _ m3 q5 q6 => nf_whole q6 fun _ m4 q7 q8 => nf_need q8 fun _ _ _ _ => nf_ret
  | 6 => nf_need hi fun _ m q1 q2 => nf_bindT (tame_each (tame_state f) f []) q2 (nf_each (i0 := m) (p := stateP f) (eager_state f) (fun i h h' => nf_state h' (by omega)) f [] m (Nat.le_refl _) q2 (by omega)) fun _ _ _ _ => nf_ret
  | 7 => nf_name hi fun _ m q1 q2 => nf_need q2 fun _ m2 q3 q4 => nf_row eager_typed (fun i h => nf_typed h) q4 (by omega) fun l m3 q5 q6 => nf_bl q6 (by omega) fun _ _ _ _ => nf_ret
  | 8 => by
    rw [onTab_eq]
    refine nf_name hi fun _ m q1 q2 => nf_need q2 fun _ m2 q3 q4 => nf_bindT (tame_each (tame_ended (eager_key f)) f []) q4 (nf_each (i0 := m2) (p := endedP (keyP f)) (eager_ended (eager_key f)) (fun i h h' => nf_ended (p := keyP f) (eager_key f) h' (nf_key h' (by omega))) f [] m2 (Nat.le_refl _) q4 (by omega)) fun ks m3 q5 q6 => ?_
    refine nf_need q6 fun _ m4 q7 q8 => nf_name q8 fun a m5 q9 q10 => nf_bindT (tame_names f [a]) q10 (nf_names f _ _ q10 (by omega)) fun al m6 q11 q12 => ?_
    exact nf_need q12 fun _ m7 q13 q14 => nf_name q14 fun _ m8 q15 q16 => nf_need q16 fun _ m9 q17 q18 => nf_row eager_lit (fun i h => nf_litb) q18 (by omega) fun l m10 q19 q20 => nf_need q20 fun _ m11 q21 q22 => nf_whole q22 fun _ m12 q23 q24 => nf_need q24 fun _ _ _ _ => nf_ret
  | 9 => nf_bl hi (by omega) fun _ _ _ _ => nf_ret
  | 10 => nf_need hi fun _ m q1 q2 => nf_bindT (tame_each (tame_ended eager_name) f []) q2 (nf_each (i0 := 0) (p := endedP nameP) (eager_ended eager_name) (fun i _ h' => nf_ended eager_name h' nf_nameb) f [] m (Nat.zero_le _) q2 (by omega)) fun _ _ _ _ => nf_ret
  | _ + 11 => nf_bad
theorem nf_decl {L : List Wd} {f i : Nat} (hf : 12 * (L.length - i) ≤ f) : Nf (declP f) L i := nf_look (nf_bind (by cases (decide ((wordAt wEnd L i).k = 1) && (declOf (wordAt wEnd L i).s).isSome) <;> exact fun c => by cases c) fun _ m hr => by
  obtain ⟨q1, _, rfl⟩ := must_ok hr
  have hk : (wordAt wEnd L i).k = 1 := of_decide_eq_true (Bool.and_eq_true _ _ ▸ q1 : decide ((wordAt wEnd L i).k = 1) = true ∧ _).1
  have hlt := word_in (L := L) (i := i) (by rw [hk]; decide)
  exact nf_on hlt (by omega) _)
theorem nf_prog {L : List Wd} : ∀ (f : Nat) (acc : List Dc) (i : Nat), i ≤ L.length → 12 * (L.length - i) + 1 ≤ f → Nf (progP f acc) L i
  | 0, acc, i, h1, h2 => by omega
  | f + 1, acc, i, h1, h2 => by
    rw [progP]
    exact nf_look (nf_ite nf_ret (nf_bindE (p := declP f) (eager_decl f) h1 (nf_decl (by omega)) fun d m q1 q2 => nf_prog f _ m q2 (by omega)))
theorem prog_sure {L : List Wd} (hL : L.length ≤ 65536) : (progP (fuel L) []).run wEnd L 0 ≠ .oof := nf_prog (fuel L) [] 0 (Nat.zero_le _) (by unfold fuel; omega)
end Go.Proofs.YtogodijfdkffaaaGreatDoor.Ln

/- Parse of any text over data. -/
namespace Go.Proofs.YtogodijfdkffaaaGreatDoor.Ln
open Go Go.RowKit Go.Ab Go.Proofs 
theorem W_facts {s : Tx} {L : List Wd} (h : W s 0 = .inr L) : L.length ≤ s.length ∧ Small L ∧ Wide L ∧ ∀ x ∈ L, x.k ≠ 0 := by
  have hg := row_good (W_row (s.length + 1) s 0 L (by omega) h)
  refine ⟨(W_lines (s.length + 1) s 0 L (by omega) h).1, fun x hx hk => ?_, fun x hx hk => ?_, fun x hx hk => ?_⟩
  · rcases (hg x hx).1.2 with h | h | h | h
    · have := h.1; simp only at this; omega
    · exact h.2.2.2.2
    · have := h.1; simp only at this; omega
    · have := h.1; simp only at this; omega
  · rcases (hg x hx).1.2 with h | h | h | h
    · have := h.1; simp only at this; omega
    · have := h.1; simp only at this; omega
    · exact h.2.2.2.1
    · have := h.1; simp only at this; omega
  · rcases (hg x hx).1.2 with h | h | h | h <;> (have := h.1; simp only at this; omega)
theorem big_count {L : List Wd} (hL : L.length ≤ 65536) : ∀ ds j, (progP (fuel L) []).run wEnd L 0 = .ok ds j → (progC ds).1 ≤ big := fun ds j h => by
  have h1 := prog_count h
  have h2 : j ≤ L.length := by
    have : ∀ (f : Nat) (acc : List Dc), Tame (progP f acc) := by
      intro f
      induction f with
      | zero => intro acc; exact tame_oof
      | succ f ih => intro acc; rw [progP]; exact tame_look fun w => tame_ite (tame_ret _) (tame_bind (Eager.tame (p := declP f) (eager_decl f)) fun d => ih _)
    exact (this _ _ h (Nat.zero_le _)).2
  have := bigE
  omega
theorem parse_err {s : Tx} {n e : Nat} (he : e ≠ 0) (hlex : CallsP Tryz.prog Lw 8 [txD s] (.tup [.list 6 [], nD n, nD e])) : CallsP Tryz.prog Lw 7 [txD s] (.tup [.list 15 [], nD n, nD e]) := by
  refine callsP_of gs_lw Tryz.func7 rfl Tryz.ntmps7 rfl fun w0 S0 stab => ?_
  refine sqq <| rgq <| asq rfl rfl <| asq rfl rfl <| asq rfl rfl <| nxq <| sqq <| rgq ?_
  refine mvq rfl rfl <| sq (f_call en8 rfl hlex (lt rfl)) rfl rfl <| mvq rfl rfl <| exq rfl rfl rfl <| exq rfl rfl rfl <| exq rfl rfl rfl <| sq (f_alloc zc27 (lt rfl)) rfl rfl <| soq kd27 rfl rfl rfl rfl rfl ?_
  refine asq rfl rfl <| asq rfl rfl <| nxq <| sqq <| sqq <| rgq <| mvq rfl rfl <| sq (f_bin rfl rfl (bT (bne_iff_ne.mpr (by omega))) (lt rfl)) rfl rfl ?_
  refine nxq <| cnT rfl <| sqq <| rgq <| mvq rfl rfl <| mvq rfl rfl <| asq rfl rfl <| asq rfl rfl ?_
  refine asq rfl rfl <| nxq <| rtq <| to_ret <| hits_slotD 2 (q' := .list 15 []) rfl nil_list ?_
  exact hits_done (.inl rfl) rfl rfl rfl
theorem parse_c (s : Tx) : CallsP Tryz.prog Lw 7 [txD s] (parsedD (parseS s)) := by
  unfold parseS
  by_cases h : 65536 < s.length
  · rw [if_pos h]
    exact parse_err (n := 0) (e := 3) (by decide) (words_big (B s) (by rw [B_size]; exact h))
  · rw [if_neg h]
    have hw := words_c s (by omega)
    cases hW : W s 0 with
    | inl n => rw [hW] at hw; exact parse_err (n := n) (e := 4) (by decide) hw
    | inr L =>
      rw [hW] at hw
      obtain ⟨h1, h2, h3, h4⟩ := W_facts hW
      exact parse_words hw (by omega) h2 h3 h4 rfl (prog_sure (by omega)) (big_count (by omega))
end Go.Proofs.YtogodijfdkffaaaGreatDoor.Ln

