/- The row of the law BitsBytes, out of its plain law and the walk. For every input; no condition. -/
import Derived.Test.YtcaedggggkchiaaGreatDoorFactsBitsBytes
import Derived.Test.YtcaedggggkchiaaGreatDoorRows
import Derived.Test.YtcaedggggkchiaaGreatDoorPAbx5
import Derived.Test.YtcaedggggkchiaaGreatDoorOpen
import Derived.Test.YtcaedggggkchiaaGreatDoorTie
import Derived.Test.YtcaedggggkchiaaGreatDoorCards
import Derived.WalkKit
import Derived.ProofKit
import Derived.OpenShut
import Derived.ShutString
import Derived.ChangeOld
import Derived.Below
import Derived.SizedLaws
import Derived.Carry
import Derived.Lay
import Derived.LaidSub
import Derived.MakeChecks
import Derived.SevenTiedAt
import Derived.Handed
import Derived.Lib.LaidTab
import Derived.Lib.TrailingZeros
import Derived.OpenShut
import Derived.ChangeShapes
namespace Go.Proofs.YtcaedggggkchiaaGreatDoor.bitsBytes
open Go.ChangeShapes Go.WideShapes Go.ChangeAt Go.RowKit
open Go.ChangeMaps (open_string shut_string)
set_option linter.unusedVariables false
theorem own : ownKnob Tryz.prog.godebug = none := by kernel_rfl
theorem laidOut : laidOutB Tryz.prog = true := by kernel_rfl
def IsRow (k : IntKind) (w : World) (a : Option Addr) (len cap : Nat) (zs : List Int) : Prop :=
  (a = none ∧ len = 0 ∧ cap = 0 ∧ zs = []) ∨
  ∃ x, a = some x ∧ len ≤ cap ∧ cap ≤ maxLen ∧ zs.length = cap ∧ (∀ i, i < zs.length → w.cell? (x.add i) = some (.int k (zs.getD i 0))) ∧ ∀ n ∈ zs, (Lit.int k n).wf = true
theorem cells3 : Tryz.prog.cellsOf 3 = 1 := by kernel_rfl
theorem cells22 : Tryz.prog.cellsOf 22 = 1 := by kernel_rfl
theorem cells24 : Tryz.prog.cellsOf 24 = 3 := by kernel_rfl
set_option maxHeartbeats 800000 in
set_option maxRecDepth 100000 in
theorem lifted (os : Os) (started : os.Started) (H : Type) (enc : TypeId × Value → H) :
    ReturnsInHanded {} Tryz.checked os 3 .any (fun w args => (Rows.bitsBytesSpec.pre enc Tryz.prog Tryz.f3 Rows.bitsBytesRow.domain false w args ∧ laidMetH Tryz.prog Rows.bitsBytesRow.laid w) ∧ sizedMet enc Tryz.prog Tryz.f3 (OpenSpec.ofChange Rows.bitsBytesSpec) false w args) (Rows.bitsBytesSpec.post enc Tryz.prog Tryz.f3 false true false false) := by
  refine returnsInHanded_of_change_and (C := Tryz.checked) (X := fun w _ => laidMetH Tryz.prog Rows.bitsBytesRow.laid w) (fun _ _ _ hh h => h.of_heap hh) own started (by kernel_rfl) Tryz.func3
    (ChangeSpec.witness_shaped (enc := enc) (C := Tryz.checked) (os := os) (X := fun w _ => laidMetH Tryz.prog Rows.bitsBytesRow.laid w) false (World.laidAll Tryz.prog os Rows.bitsBytesRow.laid) #[.agg #[.int .i64 0, .int .u64 0, .int .u64 0], .int .i64 0, .slice none 0 0] 8 (World.laidAll_os _ _ _)
      (World.shaped_of_ZipB (by kernel_rfl) (by kernel_rfl)) (by kernel_rfl) (by kernel_rfl) (by kernel_rfl)
      (by rw [MakeChecks.laidMetH_plain _ _ _ (by kernel_rfl)]; exact laidMet_laidAll _ (by kernel_rfl) (by kernel_rfl))) ?_
  intro W base args ds gs before hval0 hW hcnd hsz0 hL _
  have hsz : (DataW.weightsEach Tryz.prog (Tryz.f3.params.toList ++ Rows.bitsBytesSpec.plain.varTypes Tryz.prog) (ds ++ gs)).all (· ≤ reachBytes) = true := hsz0
  have hval : ∀ (j : Nat) t v, Tryz.f3.params[j]? = some t → args[j]? = some v → Value.okWide Tryz.prog W .any base t v := hval0
  have hW' := hW
  obtain ⟨p, q, hA0, hV, rfl, hfz, hnd⟩ := hW
  have hA : DataW.TrodAll enc Tryz.prog W 0 (fun _ => true) true Tryz.f3.params.toList args.toList ds p := hA0
  rw [Tryz.params3] at hA hval hsz
  obtain ⟨v0, vs0, d0, ds0, p0, q0, hargs, rfl, rfl, h0, r0⟩ := trodAll_cons hA
  obtain ⟨v1, vs1, d1, ds1, p1, q1, rfl, rfl, rfl, h1, r1⟩ := trodAll_cons r0
  obtain ⟨v2, vs2, d2, ds2, p2, q2, rfl, rfl, rfl, h2, r2⟩ := trodAll_cons r1
  obtain ⟨rfl, rfl, rfl⟩ := trodAll_nil r2
  obtain rfl : args = #[v0, v1, v2] := by cases args; simp_all
  obtain ⟨rfl, rfl⟩ := trodVars_none hV
  have k0 := h0
  have lt0 : ∀ x ∈ p0, x.block < W.heap.size := by obtain ⟨m, hm⟩ := k0; exact DataW.trod_lt m _ _ _ hm
  obtain ⟨b0, rfl, hb0⟩ : ∃ cs, v0 = .agg cs ∧ cs.size = Tryz.prog.cellsOf 24 := by
    have ok_ := (hval 0 24 v0 rfl rfl)
    simp only [Value.okWide, Tryz.underlying24] at ok_
    obtain ⟨cs, h1, h2, _⟩ := ok_
    exact ⟨cs, h1, h2⟩
  rw [cells24] at hb0
  obtain ⟨l0_0, rfl⟩ : ∃ l, b0 = ⟨l⟩ := ⟨b0.toList, rfl⟩
  have hb0_0 : l0_0.length = 3 := hb0
  obtain ⟨c0_0, l0_1, rfl, hb0_1⟩ := Open.cons hb0_0
  obtain ⟨c0_1, l0_2, rfl, hb0_2⟩ := Open.cons hb0_1
  obtain ⟨c0_2, l0_3, rfl, hb0_3⟩ := Open.cons hb0_2
  obtain rfl := List.length_eq_zero_iff.mp hb0_3
  obtain ⟨fu0, hf0⟩ := h0
  have hf0 : DataW.trod enc Tryz.prog W 0 (fun _ => true) true fu0 24 [c0_0, c0_1, c0_2] = some (d0, p0) := hf0
  obtain ⟨m0_0, y0_0, g0_0⟩ := Open.field Tryz.underlying24 hf0 0 rfl
  have g0_0 : DataW.trod enc Tryz.prog W 0 (fun _ => true) true m0_0 3 [c0_0] = some y0_0 := by have e_ : DataW.trod enc Tryz.prog W 0 (fun _ => true) true m0_0 3 (([_, _, _].drop 0).take (Tryz.prog.cellsOf 3)) = some y0_0 := g0_0; rw [cells3] at e_; exact e_
  obtain ⟨a0_0, rfl, wa0_0⟩ := Open.int Tryz.underlying3 g0_0
  obtain ⟨m0_1, y0_1, g0_1⟩ := Open.field Tryz.underlying24 hf0 1 rfl
  have g0_1 : DataW.trod enc Tryz.prog W 0 (fun _ => true) true m0_1 22 [c0_1] = some y0_1 := by have e_ : DataW.trod enc Tryz.prog W 0 (fun _ => true) true m0_1 22 (([_, _, _].drop 1).take (Tryz.prog.cellsOf 22)) = some y0_1 := g0_1; rw [cells22] at e_; exact e_
  obtain ⟨a0_1, rfl, wa0_1⟩ := Open.int Tryz.underlying22 g0_1
  obtain ⟨m0_2, y0_2, g0_2⟩ := Open.field Tryz.underlying24 hf0 2 rfl
  have g0_2 : DataW.trod enc Tryz.prog W 0 (fun _ => true) true m0_2 22 [c0_2] = some y0_2 := by have e_ : DataW.trod enc Tryz.prog W 0 (fun _ => true) true m0_2 22 (([_, _, _].drop 2).take (Tryz.prog.cellsOf 22)) = some y0_2 := g0_2; rw [cells22] at e_; exact e_
  obtain ⟨a0_2, rfl, wa0_2⟩ := Open.int Tryz.underlying22 g0_2
  obtain ⟨a1, rfl, rfl, rfl, w1⟩ := open_int Tryz.underlying3 (hval 1 3 v1 rfl rfl) h1
  obtain ⟨a2, len2, cap2, rfl⟩ := okWide_slice Tryz.underlying25 (hval 2 25 v2 rfl rfl)
  have k2 := h2
  have lt2 : ∀ x ∈ p2, x.block < W.heap.size := by obtain ⟨m, hm⟩ := k2; exact DataW.trod_lt m _ _ _ hm
  obtain ⟨z2, w2⟩ : ∃ zs, IsRow .u8 W a2 len2 cap2 zs := by
    obtain ⟨fuel, hf⟩ := h2
    rcases open_ints Tryz.underlying25 Tryz.underlying5 (by kernel_rfl) hf with ⟨hcs, _⟩ | ⟨x, l, c, zs, hcs, _, hl, hm, hz, _, hcell, hwz⟩
    · simp [Value.cells] at hcs
      obtain ⟨rfl, rfl, rfl⟩ := hcs
      exact ⟨[], .inl ⟨rfl, rfl, rfl, rfl⟩⟩
    · simp [Value.cells] at hcs
      obtain ⟨rfl, rfl, rfl⟩ := hcs
      exact ⟨zs, .inr ⟨_, rfl, hl, hm, by simpa using hz, hcell, hwz⟩⟩
  have sp2 : ∀ y, a2 = some y → y.spot = none := by
    intro y hy
    subst hy
    have hh := hval 2 25 _ rfl rfl
    simp only [Value.okWide, Tryz.underlying25, Cell.okWide, Cell.ok] at hh
    exact hh.2.2.2.1
  clear hA0 hval0 hsz0 hsz
  have hk : true = true := rfl
  refine (Ln.pointsmanlaw01_BitsBytes.calls a0_0 a0_1 a0_2 a1 a2 len2 cap2 z2 true W trivial hk wa0_0 wa0_1 wa0_2 w1 w2 sp2).mono ?_
  rintro e W' ⟨rfl, bel0⟩
  have bel : Below W.heap.size W W' := bel0
  exact ⟨_, rfl, _, _, _, [], _, [], hW', trodAll_mk1 (shut_bool Tryz.underlying4 _), (trodAll_cons_mk (Below.trod laidOut (by kernel_rfl) (of_decide_eq_true (by kernel_rfl)) k0 bel lt0) (trodAll_cons_mk (shut_int Tryz.underlying3 w1) (trodAll_cons_mk (Below.trod laidOut (by kernel_rfl) (of_decide_eq_true (by kernel_rfl)) k2 bel lt2) trodAll_mk0))), rfl, bel.frame _, fun h => by cases h⟩
theorem over : Rows.bitsBytesRow.holds Tryz.pinned (OpenSpec.ofChange Rows.bitsBytesSpec) :=
  OpenClaim.holds_of_wide 3 Tryz.f3 rfl rfl rfl rfl rfl rfl rfl ⟨rfl, rfl, rfl, rfl, rfl⟩ rfl rfl rfl rfl rfl (by kernel_rfl) Tryz.func3 facts
    (of_decide_eq_true (by kernel_rfl)) (by unfold Func.isWrapper; first | (rw [if_pos (by decide +kernel)]; kernel_rfl) | (rw [if_neg (by decide +kernel)]; exact ⟨rfl, rfl⟩))
    (fun os started H enc _ => lifted os started H enc)
end Go.Proofs.YtcaedggggkchiaaGreatDoor.bitsBytes
