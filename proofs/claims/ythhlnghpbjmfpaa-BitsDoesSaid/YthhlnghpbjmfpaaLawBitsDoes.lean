/- The row of the law BitsDoes, out of its plain law and the walk. For every input; no condition. -/
import Derived.Test.YthhlnghpbjmfpaaRows
import Derived.Test.YthhlnghpbjmfpaaPTryx11
import Derived.Test.YthhlnghpbjmfpaaPureBitsDoes
import Derived.Test.YthhlnghpbjmfpaaOpen
import Derived.WalkKit
import Derived.ProofKit
import Derived.OpenShut
import Derived.ShutString
import Derived.ChangeOld
import Derived.Below
import Derived.SizedLaws
import Derived.Carry
namespace Go.Proofs.Ythhlnghpbjmfpaa.bitsDoes
open Go.ChangeShapes Go.WideShapes Go.ChangeAt Go.RowKit
open Go.ChangeMaps (open_string shut_string)
set_option linter.unusedVariables false
theorem own : ownKnob Try.prog.godebug = none := by kernel_rfl
theorem laidOut : laidOutB Try.prog = true := by kernel_rfl
theorem cells3 : Try.prog.cellsOf 3 = 1 := by kernel_rfl
theorem cells22 : Try.prog.cellsOf 22 = 1 := by kernel_rfl
theorem cells24 : Try.prog.cellsOf 24 = 3 := by kernel_rfl
theorem cells30 : Try.prog.cellsOf 30 = 1 := by kernel_rfl
theorem cells32 : Try.prog.cellsOf 32 = 9 := by kernel_rfl
set_option maxHeartbeats 800000 in
set_option maxRecDepth 100000 in
theorem lifted (os : Os) (started : os.Started) (H : Type) (enc : TypeId × Value → H) :
    ReturnsInHanded {} Try.checked os 4 .any (Rows.bitsDoesSpec.pre6 enc Try.prog Try.f4 Rows.bitsDoesRow.domain false) (Rows.bitsDoesSpec.post enc Try.prog Try.f4 false true false false) := by
  refine returnsInHanded_of_change_sized (C := Try.checked) own started (by kernel_rfl) Try.func4
    (ChangeSpec.witness6 (enc := enc) (C := Try.checked) false ⟨#[], #[.agg #[.int .u8 0, .int .i64 0, .int .u64 0, .int .u64 0, .int .i64 0, .int .u64 0, .int .u64 0, .int .i64 0, .int .i64 0]], []⟩ 8 (by kernel_rfl) (by kernel_rfl) (by kernel_rfl) (by kernel_rfl)) ?_
  intro W base args ds gs before hval0 hW hcnd hsz0 _
  have hsz : (DataW.weightsEach Try.prog (Try.f4.params.toList ++ Rows.bitsDoesSpec.plain.varTypes Try.prog) (ds ++ gs)).all (· ≤ reachBytes) = true := hsz0
  have hval : ∀ (j : Nat) t v, Try.f4.params[j]? = some t → args[j]? = some v → Value.okWide Try.prog W .any base t v := hval0
  have hW' := hW
  obtain ⟨p, q, hA0, hV, rfl, hfz, hnd⟩ := hW
  have hA : DataW.TrodAll enc Try.prog W 0 (fun _ => true) true Try.f4.params.toList args.toList ds p := hA0
  rw [Try.params4] at hA hval hsz
  obtain ⟨v0, vs0, d0, ds0, p0, q0, hargs, rfl, rfl, h0, r0⟩ := trodAll_cons hA
  obtain ⟨rfl, rfl, rfl⟩ := trodAll_nil r0
  obtain rfl : args = #[v0] := by cases args; simp_all
  obtain ⟨rfl, rfl⟩ := trodVars_none hV
  have k0 := h0
  have lt0 : ∀ x ∈ p0, x.block < W.heap.size := by obtain ⟨m, hm⟩ := k0; exact DataW.trod_lt m _ _ _ hm
  obtain ⟨b0, rfl, hb0⟩ : ∃ cs, v0 = .agg cs ∧ cs.size = Try.prog.cellsOf 32 := by
    have ok_ := (hval 0 32 v0 rfl rfl)
    simp only [Value.okWide, Try.underlying32] at ok_
    obtain ⟨cs, h1, h2, _⟩ := ok_
    exact ⟨cs, h1, h2⟩
  rw [cells32] at hb0
  obtain ⟨l0_0, rfl⟩ : ∃ l, b0 = ⟨l⟩ := ⟨b0.toList, rfl⟩
  have hb0_0 : l0_0.length = 9 := hb0
  obtain ⟨c0_0, l0_1, rfl, hb0_1⟩ := Open.cons hb0_0
  obtain ⟨c0_1, l0_2, rfl, hb0_2⟩ := Open.cons hb0_1
  obtain ⟨c0_2, l0_3, rfl, hb0_3⟩ := Open.cons hb0_2
  obtain ⟨c0_3, l0_4, rfl, hb0_4⟩ := Open.cons hb0_3
  obtain ⟨c0_4, l0_5, rfl, hb0_5⟩ := Open.cons hb0_4
  obtain ⟨c0_5, l0_6, rfl, hb0_6⟩ := Open.cons hb0_5
  obtain ⟨c0_6, l0_7, rfl, hb0_7⟩ := Open.cons hb0_6
  obtain ⟨c0_7, l0_8, rfl, hb0_8⟩ := Open.cons hb0_7
  obtain ⟨c0_8, l0_9, rfl, hb0_9⟩ := Open.cons hb0_8
  obtain rfl := List.length_eq_zero_iff.mp hb0_9
  obtain ⟨fu0, hf0⟩ := h0
  have hf0 : DataW.trod enc Try.prog W 0 (fun _ => true) true fu0 32 [c0_0, c0_1, c0_2, c0_3, c0_4, c0_5, c0_6, c0_7, c0_8] = some (d0, p0) := hf0
  obtain ⟨m0_0, y0_0, g0_0⟩ := Open.field Try.underlying32 hf0 0 rfl
  have g0_0 : DataW.trod enc Try.prog W 0 (fun _ => true) true m0_0 30 [c0_0] = some y0_0 := by have e_ : DataW.trod enc Try.prog W 0 (fun _ => true) true m0_0 30 (([_, _, _, _, _, _, _, _, _].drop 0).take (Try.prog.cellsOf 30)) = some y0_0 := g0_0; rw [cells30] at e_; exact e_
  obtain ⟨a0_0, rfl, wa0_0⟩ := Open.int Try.underlying30 g0_0
  obtain ⟨m0_1, y0_1, g0_1⟩ := Open.field Try.underlying32 hf0 1 rfl
  have g0_1 : DataW.trod enc Try.prog W 0 (fun _ => true) true m0_1 24 [c0_1, c0_2, c0_3] = some y0_1 := by have e_ : DataW.trod enc Try.prog W 0 (fun _ => true) true m0_1 24 (([_, _, _, _, _, _, _, _, _].drop 1).take (Try.prog.cellsOf 24)) = some y0_1 := g0_1; rw [cells24] at e_; exact e_
  obtain ⟨m0_1_0, y0_1_0, g0_1_0⟩ := Open.field Try.underlying24 g0_1 0 rfl
  have g0_1_0 : DataW.trod enc Try.prog W 0 (fun _ => true) true m0_1_0 3 [c0_1] = some y0_1_0 := by have e_ : DataW.trod enc Try.prog W 0 (fun _ => true) true m0_1_0 3 (([_, _, _].drop 0).take (Try.prog.cellsOf 3)) = some y0_1_0 := g0_1_0; rw [cells3] at e_; exact e_
  obtain ⟨a0_1_0, rfl, wa0_1_0⟩ := Open.int Try.underlying3 g0_1_0
  obtain ⟨m0_1_1, y0_1_1, g0_1_1⟩ := Open.field Try.underlying24 g0_1 1 rfl
  have g0_1_1 : DataW.trod enc Try.prog W 0 (fun _ => true) true m0_1_1 22 [c0_2] = some y0_1_1 := by have e_ : DataW.trod enc Try.prog W 0 (fun _ => true) true m0_1_1 22 (([_, _, _].drop 1).take (Try.prog.cellsOf 22)) = some y0_1_1 := g0_1_1; rw [cells22] at e_; exact e_
  obtain ⟨a0_1_1, rfl, wa0_1_1⟩ := Open.int Try.underlying22 g0_1_1
  obtain ⟨m0_1_2, y0_1_2, g0_1_2⟩ := Open.field Try.underlying24 g0_1 2 rfl
  have g0_1_2 : DataW.trod enc Try.prog W 0 (fun _ => true) true m0_1_2 22 [c0_3] = some y0_1_2 := by have e_ : DataW.trod enc Try.prog W 0 (fun _ => true) true m0_1_2 22 (([_, _, _].drop 2).take (Try.prog.cellsOf 22)) = some y0_1_2 := g0_1_2; rw [cells22] at e_; exact e_
  obtain ⟨a0_1_2, rfl, wa0_1_2⟩ := Open.int Try.underlying22 g0_1_2
  obtain ⟨m0_2, y0_2, g0_2⟩ := Open.field Try.underlying32 hf0 2 rfl
  have g0_2 : DataW.trod enc Try.prog W 0 (fun _ => true) true m0_2 24 [c0_4, c0_5, c0_6] = some y0_2 := by have e_ : DataW.trod enc Try.prog W 0 (fun _ => true) true m0_2 24 (([_, _, _, _, _, _, _, _, _].drop 4).take (Try.prog.cellsOf 24)) = some y0_2 := g0_2; rw [cells24] at e_; exact e_
  obtain ⟨m0_2_0, y0_2_0, g0_2_0⟩ := Open.field Try.underlying24 g0_2 0 rfl
  have g0_2_0 : DataW.trod enc Try.prog W 0 (fun _ => true) true m0_2_0 3 [c0_4] = some y0_2_0 := by have e_ : DataW.trod enc Try.prog W 0 (fun _ => true) true m0_2_0 3 (([_, _, _].drop 0).take (Try.prog.cellsOf 3)) = some y0_2_0 := g0_2_0; rw [cells3] at e_; exact e_
  obtain ⟨a0_2_0, rfl, wa0_2_0⟩ := Open.int Try.underlying3 g0_2_0
  obtain ⟨m0_2_1, y0_2_1, g0_2_1⟩ := Open.field Try.underlying24 g0_2 1 rfl
  have g0_2_1 : DataW.trod enc Try.prog W 0 (fun _ => true) true m0_2_1 22 [c0_5] = some y0_2_1 := by have e_ : DataW.trod enc Try.prog W 0 (fun _ => true) true m0_2_1 22 (([_, _, _].drop 1).take (Try.prog.cellsOf 22)) = some y0_2_1 := g0_2_1; rw [cells22] at e_; exact e_
  obtain ⟨a0_2_1, rfl, wa0_2_1⟩ := Open.int Try.underlying22 g0_2_1
  obtain ⟨m0_2_2, y0_2_2, g0_2_2⟩ := Open.field Try.underlying24 g0_2 2 rfl
  have g0_2_2 : DataW.trod enc Try.prog W 0 (fun _ => true) true m0_2_2 22 [c0_6] = some y0_2_2 := by have e_ : DataW.trod enc Try.prog W 0 (fun _ => true) true m0_2_2 22 (([_, _, _].drop 2).take (Try.prog.cellsOf 22)) = some y0_2_2 := g0_2_2; rw [cells22] at e_; exact e_
  obtain ⟨a0_2_2, rfl, wa0_2_2⟩ := Open.int Try.underlying22 g0_2_2
  obtain ⟨m0_3, y0_3, g0_3⟩ := Open.field Try.underlying32 hf0 3 rfl
  have g0_3 : DataW.trod enc Try.prog W 0 (fun _ => true) true m0_3 3 [c0_7] = some y0_3 := by have e_ : DataW.trod enc Try.prog W 0 (fun _ => true) true m0_3 3 (([_, _, _, _, _, _, _, _, _].drop 7).take (Try.prog.cellsOf 3)) = some y0_3 := g0_3; rw [cells3] at e_; exact e_
  obtain ⟨a0_3, rfl, wa0_3⟩ := Open.int Try.underlying3 g0_3
  obtain ⟨m0_4, y0_4, g0_4⟩ := Open.field Try.underlying32 hf0 4 rfl
  have g0_4 : DataW.trod enc Try.prog W 0 (fun _ => true) true m0_4 3 [c0_8] = some y0_4 := by have e_ : DataW.trod enc Try.prog W 0 (fun _ => true) true m0_4 3 (([_, _, _, _, _, _, _, _, _].drop 8).take (Try.prog.cellsOf 3)) = some y0_4 := g0_4; rw [cells3] at e_; exact e_
  obtain ⟨a0_4, rfl, wa0_4⟩ := Open.int Try.underlying3 g0_4
  clear hA0 hval0 hsz0 hsz
  obtain ⟨k, hk⟩ := Pure.BitsDoes a0_0 a0_1_0 a0_1_1 a0_1_2 a0_2_0 a0_2_1 a0_2_2 a0_3 a0_4 wa0_0 wa0_1_0 wa0_1_1 wa0_1_2 wa0_2_0 wa0_2_1 wa0_2_2 wa0_3 wa0_4
  refine (PTry.pointsmanlaw01_BitsDoes.calls k a0_0 a0_1_0 a0_1_1 a0_1_2 a0_2_0 a0_2_1 a0_2_2 a0_3 a0_4 true W hk).mono ?_
  rintro e W' ⟨rfl, bel0⟩
  have bel : Below W.heap.size W W' := bel0
  exact ⟨_, rfl, _, _, _, [], _, [], hW', trodAll_mk1 (shut_bool Try.underlying4 _), (trodAll_cons_mk (Below.trod laidOut (by kernel_rfl) (of_decide_eq_true (by kernel_rfl)) k0 bel lt0) trodAll_mk0), rfl, bel.frame _, fun h => by cases h⟩
theorem over : Rows.bitsDoesRow.holds Try.pinned (OpenSpec.ofChange Rows.bitsDoesSpec) :=
  OpenClaim.holds_of_wide 4 Try.f4 rfl rfl rfl rfl rfl rfl rfl ⟨rfl, rfl, rfl, rfl, rfl⟩ rfl rfl rfl rfl rfl (by kernel_rfl) Try.func4 (by kernel_rfl)
    (of_decide_eq_true (by kernel_rfl)) (by unfold Func.isWrapper; first | (rw [if_pos (by decide +kernel)]; kernel_rfl) | (rw [if_neg (by decide +kernel)]; exact ⟨rfl, rfl⟩))
    (fun os started H enc _ => lifted os started H enc)
theorem proved : Rows.BitsDoesSaid := over
#print axioms proved
end Go.Proofs.Ythhlnghpbjmfpaa.bitsDoes
namespace Go.Proofs.Ythhlnghpbjmfpaa
/-- The row, under a short name, for the claim. -/
theorem bitsDoes_holds : Rows.BitsDoesSaid := bitsDoes.proved
end Go.Proofs.Ythhlnghpbjmfpaa
