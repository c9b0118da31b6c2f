/- The row of the law BitsOrders, out of its plain law and the walk. For every input; no condition. -/
import Derived.Test.YthhlnghpbjmfpaaDoorRows
import Derived.Test.YthhlnghpbjmfpaaDoorPAbx4
import Derived.Test.YthhlnghpbjmfpaaDoorPAbx4
import Derived.Test.YthhlnghpbjmfpaaDoorOpen
import Derived.Test.YthhlnghpbjmfpaaDoorTie
import Derived.Test.YthhlnghpbjmfpaaDoorCards
import Derived.WalkKit
import Derived.ProofKit
import Derived.OpenShut
import Derived.ShutString
import Derived.ChangeOld
import Derived.Below
import Derived.SizedLaws
import Derived.Carry
import Derived.Lay
import Derived.LaidSub
import Derived.MakeChecks
import Derived.SevenTiedAt
import Derived.Handed
import Derived.Lib.LaidTab
import Derived.Lib.TrailingZeros
namespace Go.Proofs.YthhlnghpbjmfpaaDoor.bitsOrders
open Go.ChangeShapes Go.WideShapes Go.ChangeAt Go.RowKit
open Go.ChangeMaps (open_string shut_string)
set_option linter.unusedVariables false
theorem own : ownKnob Tryd.prog.godebug = none := by kernel_rfl
theorem laidOut : laidOutB Tryd.prog = true := by kernel_rfl
theorem cells3 : Tryd.prog.cellsOf 3 = 1 := by kernel_rfl
theorem cells22 : Tryd.prog.cellsOf 22 = 1 := by kernel_rfl
theorem cells23 : Tryd.prog.cellsOf 23 = 2 := by kernel_rfl
theorem cells25 : Tryd.prog.cellsOf 25 = 7 := by kernel_rfl
open Go.Proofs.YthhlnghpbjmfpaaDoor.Press
theorem tabs_of {W : World} (h : laidMetH Tryd.prog Rows.bitsOrdersRow.laid W) : Tabs W := by
  rw [MakeChecks.laidMetH_plain _ _ _ (by kernel_rfl)] at h
  have h_b := laidMet.filter (fun x => x.1 == "math/bits.deBruijn64tab") h
  have e_b : (Rows.bitsOrdersRow.laid.filter fun x => x.1 == "math/bits.deBruijn64tab") = [("math/bits.deBruijn64tab", Lib.tabData .u8 (Lib.deBruijn64tab.map Int.ofNat))] := by kernel_rfl
  rw [e_b] at h_b
  have t_b := Lib.tabIs_of_head (g := 5) (t := 133) (by kernel_rfl) (by kernel_rfl) Tryd.underlying133 Tryd.underlying5 (by kernel_rfl) (by kernel_rfl) h_b
  have h_p := laidMet.filter (fun x => x.1 == "internal/strconv.uint64pow10") h
  have e_p : (Rows.bitsOrdersRow.laid.filter fun x => x.1 == "internal/strconv.uint64pow10") = [("internal/strconv.uint64pow10", Lib.tabData .u64 Lib.pow10Tab)] := by kernel_rfl
  rw [e_p] at h_p
  have t_p := Lib.tabIs_of_head (g := 0) (t := 116) (by kernel_rfl) (by kernel_rfl) Tryd.underlying116 Tryd.underlying22 (by kernel_rfl) (by kernel_rfl) h_p
  exact ⟨(t_b.cell (by kernel_rfl) 15 (by decide)).trans (by kernel_rfl), t_p⟩
set_option maxHeartbeats 800000 in
set_option maxRecDepth 100000 in
theorem lifted (os : Os) (started : os.Started) (H : Type) (enc : TypeId × Value → H) :
    ReturnsInHanded {} Tryd.checked os 6 .any (fun w args => (Rows.bitsOrdersSpec.pre enc Tryd.prog Tryd.f6 Rows.bitsOrdersRow.domain false w args ∧ laidMetH Tryd.prog Rows.bitsOrdersRow.laid w) ∧ sizedMet enc Tryd.prog Tryd.f6 (OpenSpec.ofChange Rows.bitsOrdersSpec) false w args) (Rows.bitsOrdersSpec.post enc Tryd.prog Tryd.f6 false true false false) := by
  refine returnsInHanded_of_change_and (C := Tryd.checked) (X := fun w _ => laidMetH Tryd.prog Rows.bitsOrdersRow.laid w) (fun _ _ _ hh h => h.of_heap hh) own started (by kernel_rfl) Tryd.func6
    (ChangeSpec.witness_shaped (enc := enc) (C := Tryd.checked) (os := os) (X := fun w _ => laidMetH Tryd.prog Rows.bitsOrdersRow.laid w) false (World.laidAll Tryd.prog os Rows.bitsOrdersRow.laid) #[.agg #[.int .i64 0, .int .u64 0, .int .u64 0, .int .u64 0, .int .u64 0, .int .u64 0, .int .u64 0]] 8 (World.laidAll_os _ _ _)
      (World.shaped_of_ZipB (by kernel_rfl) (by kernel_rfl)) (by kernel_rfl) (by kernel_rfl) (by kernel_rfl)
      (by rw [MakeChecks.laidMetH_plain _ _ _ (by kernel_rfl)]; exact laidMet_laidAll _ (by kernel_rfl) (by kernel_rfl))) ?_
  intro W base args ds gs before hval0 hW hcnd hsz0 hL _
  have hsz : (DataW.weightsEach Tryd.prog (Tryd.f6.params.toList ++ Rows.bitsOrdersSpec.plain.varTypes Tryd.prog) (ds ++ gs)).all (· ≤ reachBytes) = true := hsz0
  have hval : ∀ (j : Nat) t v, Tryd.f6.params[j]? = some t → args[j]? = some v → Value.okWide Tryd.prog W .any base t v := hval0
  have hW' := hW
  obtain ⟨p, q, hA0, hV, rfl, hfz, hnd⟩ := hW
  have hA : DataW.TrodAll enc Tryd.prog W 0 (fun _ => true) true Tryd.f6.params.toList args.toList ds p := hA0
  rw [Tryd.params6] at hA hval hsz
  obtain ⟨v0, vs0, d0, ds0, p0, q0, hargs, rfl, rfl, h0, r0⟩ := trodAll_cons hA
  obtain ⟨rfl, rfl, rfl⟩ := trodAll_nil r0
  obtain rfl : args = #[v0] := by cases args; simp_all
  obtain ⟨rfl, rfl⟩ := trodVars_none hV
  have k0 := h0
  have lt0 : ∀ x ∈ p0, x.block < W.heap.size := by obtain ⟨m, hm⟩ := k0; exact DataW.trod_lt m _ _ _ hm
  obtain ⟨b0, rfl, hb0⟩ : ∃ cs, v0 = .agg cs ∧ cs.size = Tryd.prog.cellsOf 25 := by
    have ok_ := (hval 0 25 v0 rfl rfl)
    simp only [Value.okWide, Tryd.underlying25] at ok_
    obtain ⟨cs, h1, h2, _⟩ := ok_
    exact ⟨cs, h1, h2⟩
  rw [cells25] at hb0
  obtain ⟨l0_0, rfl⟩ : ∃ l, b0 = ⟨l⟩ := ⟨b0.toList, rfl⟩
  have hb0_0 : l0_0.length = 7 := hb0
  obtain ⟨c0_0, l0_1, rfl, hb0_1⟩ := Open.cons hb0_0
  obtain ⟨c0_1, l0_2, rfl, hb0_2⟩ := Open.cons hb0_1
  obtain ⟨c0_2, l0_3, rfl, hb0_3⟩ := Open.cons hb0_2
  obtain ⟨c0_3, l0_4, rfl, hb0_4⟩ := Open.cons hb0_3
  obtain ⟨c0_4, l0_5, rfl, hb0_5⟩ := Open.cons hb0_4
  obtain ⟨c0_5, l0_6, rfl, hb0_6⟩ := Open.cons hb0_5
  obtain ⟨c0_6, l0_7, rfl, hb0_7⟩ := Open.cons hb0_6
  obtain rfl := List.length_eq_zero_iff.mp hb0_7
  obtain ⟨fu0, hf0⟩ := h0
  have hf0 : DataW.trod enc Tryd.prog W 0 (fun _ => true) true fu0 25 [c0_0, c0_1, c0_2, c0_3, c0_4, c0_5, c0_6] = some (d0, p0) := hf0
  obtain ⟨m0_0, y0_0, g0_0⟩ := Open.field Tryd.underlying25 hf0 0 rfl
  have g0_0 : DataW.trod enc Tryd.prog W 0 (fun _ => true) true m0_0 3 [c0_0] = some y0_0 := by have e_ : DataW.trod enc Tryd.prog W 0 (fun _ => true) true m0_0 3 (([_, _, _, _, _, _, _].drop 0).take (Tryd.prog.cellsOf 3)) = some y0_0 := g0_0; rw [cells3] at e_; exact e_
  obtain ⟨a0_0, rfl, wa0_0⟩ := Open.int Tryd.underlying3 g0_0
  obtain ⟨m0_1, y0_1, g0_1⟩ := Open.field Tryd.underlying25 hf0 1 rfl
  have g0_1 : DataW.trod enc Tryd.prog W 0 (fun _ => true) true m0_1 23 [c0_1, c0_2] = some y0_1 := by have e_ : DataW.trod enc Tryd.prog W 0 (fun _ => true) true m0_1 23 (([_, _, _, _, _, _, _].drop 1).take (Tryd.prog.cellsOf 23)) = some y0_1 := g0_1; rw [cells23] at e_; exact e_
  obtain ⟨m0_1_0, y0_1_0, g0_1_0⟩ := Open.elem Tryd.underlying23 g0_1 0 (by decide)
  have g0_1_0 : DataW.trod enc Tryd.prog W 0 (fun _ => true) true m0_1_0 22 [c0_1] = some y0_1_0 := by have e_ : DataW.trod enc Tryd.prog W 0 (fun _ => true) true m0_1_0 22 (([_, _].drop (0 * Tryd.prog.cellsOf 22)).take (Tryd.prog.cellsOf 22)) = some y0_1_0 := g0_1_0; rw [cells22] at e_; exact e_
  obtain ⟨a0_1_0, rfl, wa0_1_0⟩ := Open.int Tryd.underlying22 g0_1_0
  obtain ⟨m0_1_1, y0_1_1, g0_1_1⟩ := Open.elem Tryd.underlying23 g0_1 1 (by decide)
  have g0_1_1 : DataW.trod enc Tryd.prog W 0 (fun _ => true) true m0_1_1 22 [c0_2] = some y0_1_1 := by have e_ : DataW.trod enc Tryd.prog W 0 (fun _ => true) true m0_1_1 22 (([_, _].drop (1 * Tryd.prog.cellsOf 22)).take (Tryd.prog.cellsOf 22)) = some y0_1_1 := g0_1_1; rw [cells22] at e_; exact e_
  obtain ⟨a0_1_1, rfl, wa0_1_1⟩ := Open.int Tryd.underlying22 g0_1_1
  obtain ⟨m0_2, y0_2, g0_2⟩ := Open.field Tryd.underlying25 hf0 2 rfl
  have g0_2 : DataW.trod enc Tryd.prog W 0 (fun _ => true) true m0_2 23 [c0_3, c0_4] = some y0_2 := by have e_ : DataW.trod enc Tryd.prog W 0 (fun _ => true) true m0_2 23 (([_, _, _, _, _, _, _].drop 3).take (Tryd.prog.cellsOf 23)) = some y0_2 := g0_2; rw [cells23] at e_; exact e_
  obtain ⟨m0_2_0, y0_2_0, g0_2_0⟩ := Open.elem Tryd.underlying23 g0_2 0 (by decide)
  have g0_2_0 : DataW.trod enc Tryd.prog W 0 (fun _ => true) true m0_2_0 22 [c0_3] = some y0_2_0 := by have e_ : DataW.trod enc Tryd.prog W 0 (fun _ => true) true m0_2_0 22 (([_, _].drop (0 * Tryd.prog.cellsOf 22)).take (Tryd.prog.cellsOf 22)) = some y0_2_0 := g0_2_0; rw [cells22] at e_; exact e_
  obtain ⟨a0_2_0, rfl, wa0_2_0⟩ := Open.int Tryd.underlying22 g0_2_0
  obtain ⟨m0_2_1, y0_2_1, g0_2_1⟩ := Open.elem Tryd.underlying23 g0_2 1 (by decide)
  have g0_2_1 : DataW.trod enc Tryd.prog W 0 (fun _ => true) true m0_2_1 22 [c0_4] = some y0_2_1 := by have e_ : DataW.trod enc Tryd.prog W 0 (fun _ => true) true m0_2_1 22 (([_, _].drop (1 * Tryd.prog.cellsOf 22)).take (Tryd.prog.cellsOf 22)) = some y0_2_1 := g0_2_1; rw [cells22] at e_; exact e_
  obtain ⟨a0_2_1, rfl, wa0_2_1⟩ := Open.int Tryd.underlying22 g0_2_1
  obtain ⟨m0_3, y0_3, g0_3⟩ := Open.field Tryd.underlying25 hf0 3 rfl
  have g0_3 : DataW.trod enc Tryd.prog W 0 (fun _ => true) true m0_3 23 [c0_5, c0_6] = some y0_3 := by have e_ : DataW.trod enc Tryd.prog W 0 (fun _ => true) true m0_3 23 (([_, _, _, _, _, _, _].drop 5).take (Tryd.prog.cellsOf 23)) = some y0_3 := g0_3; rw [cells23] at e_; exact e_
  obtain ⟨m0_3_0, y0_3_0, g0_3_0⟩ := Open.elem Tryd.underlying23 g0_3 0 (by decide)
  have g0_3_0 : DataW.trod enc Tryd.prog W 0 (fun _ => true) true m0_3_0 22 [c0_5] = some y0_3_0 := by have e_ : DataW.trod enc Tryd.prog W 0 (fun _ => true) true m0_3_0 22 (([_, _].drop (0 * Tryd.prog.cellsOf 22)).take (Tryd.prog.cellsOf 22)) = some y0_3_0 := g0_3_0; rw [cells22] at e_; exact e_
  obtain ⟨a0_3_0, rfl, wa0_3_0⟩ := Open.int Tryd.underlying22 g0_3_0
  obtain ⟨m0_3_1, y0_3_1, g0_3_1⟩ := Open.elem Tryd.underlying23 g0_3 1 (by decide)
  have g0_3_1 : DataW.trod enc Tryd.prog W 0 (fun _ => true) true m0_3_1 22 [c0_6] = some y0_3_1 := by have e_ : DataW.trod enc Tryd.prog W 0 (fun _ => true) true m0_3_1 22 (([_, _].drop (1 * Tryd.prog.cellsOf 22)).take (Tryd.prog.cellsOf 22)) = some y0_3_1 := g0_3_1; rw [cells22] at e_; exact e_
  obtain ⟨a0_3_1, rfl, wa0_3_1⟩ := Open.int Tryd.underlying22 g0_3_1
  clear hA0 hval0 hsz0 hsz
  have hk := Pure.BitsOrders a0_0 a0_1_0 a0_1_1 a0_2_0 a0_2_1 a0_3_0 a0_3_1 wa0_0 wa0_1_0 wa0_1_1 wa0_2_0 wa0_2_1 wa0_3_0 wa0_3_1
  refine (PAb.pointsmanlaw01_BitsOrders.calls a0_0 a0_1_0 a0_1_1 a0_2_0 a0_2_1 a0_3_0 a0_3_1 true W (tabs_of hL) hk).mono ?_
  rintro e W' ⟨rfl, bel0⟩
  have bel : Below W.heap.size W W' := bel0
  exact ⟨_, rfl, _, _, _, [], _, [], hW', trodAll_mk1 (shut_bool Tryd.underlying4 _), (trodAll_cons_mk (Below.trod laidOut (by kernel_rfl) (of_decide_eq_true (by kernel_rfl)) k0 bel lt0) trodAll_mk0), rfl, bel.frame _, fun h => by cases h⟩
theorem over : Rows.bitsOrdersRow.holds Tryd.pinned (OpenSpec.ofChange Rows.bitsOrdersSpec) :=
  OpenClaim.holds_of_wide 6 Tryd.f6 rfl rfl rfl rfl rfl rfl rfl ⟨rfl, rfl, rfl, rfl, rfl⟩ rfl rfl rfl rfl rfl (by kernel_rfl) Tryd.func6 (by kernel_rfl)
    (of_decide_eq_true (by kernel_rfl)) (by unfold Func.isWrapper; first | (rw [if_pos (by decide +kernel)]; kernel_rfl) | (rw [if_neg (by decide +kernel)]; exact ⟨rfl, rfl⟩))
    (fun os started H enc _ => lifted os started H enc)
theorem proved : Rows.BitsOrdersCardSaid :=
  Claim7.holds_tied_plain_at .later [] [.data, .data, .data] true (true, "cd19c3bf7e4360f22ccc32fedbbeb05452d952ca357f8baf345d235348a9ea00") true over (fun _ h => by cases h) (by kernel_rfl) (fun _ h => by cases h) bitsOrders_row_tie rfl ⟨rfl, rfl⟩ (by kernel_rfl) rfl
    (fun f fn hf hfn => by
      obtain rfl : f = 6 := Option.some.inj ((show Tryd.prog.funcNamed "pointsman/pointsmanlaw01.BitsOrders" = some 6 by kernel_rfl).symm.trans hf) |>.symm
      obtain rfl : fn = Tryd.f6 := (Option.some.inj (Tryd.func6.symm.trans hfn)).symm
      refine ⟨by kernel_rfl, fun j t ht => ?_⟩
      rw [Tryd.params6] at ht
      rcases j with _ | j
      · obtain rfl : t = 25 := by simpa using ht.symm
        exact (show Tryd.prog.wantsStandIn 25 = false by kernel_rfl)
      · simp at ht
    )
    (by kernel_rfl)
#print axioms proved
end Go.Proofs.YthhlnghpbjmfpaaDoor.bitsOrders
namespace Go.Proofs.YthhlnghpbjmfpaaDoor
/-- The tied card, under a short name, for the claim. -/
theorem bitsOrders_holds : Rows.BitsOrdersCardSaid := bitsOrders.proved
end Go.Proofs.YthhlnghpbjmfpaaDoor
