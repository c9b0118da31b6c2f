/- The row of the law BitsMoves, out of its plain law and the walk. For every input; no condition. -/
import Derived.Test.YthhlnghpbjmfpaaDoorRows
import Derived.Test.YthhlnghpbjmfpaaDoorPAbx3
import Derived.Test.YthhlnghpbjmfpaaDoorPAbx3
import Derived.Test.YthhlnghpbjmfpaaDoorOpen
import Derived.Test.YthhlnghpbjmfpaaDoorTie
import Derived.Test.YthhlnghpbjmfpaaDoorCards
import Derived.WalkKit
import Derived.ProofKit
import Derived.OpenShut
import Derived.ShutString
import Derived.ChangeOld
import Derived.Below
import Derived.SizedLaws
import Derived.Carry
import Derived.Lay
import Derived.LaidSub
import Derived.MakeChecks
import Derived.SevenTiedAt
import Derived.Handed
import Derived.Lib.LaidTab
import Derived.Lib.TrailingZeros
namespace Go.Proofs.YthhlnghpbjmfpaaDoor.bitsMoves
open Go.ChangeShapes Go.WideShapes Go.ChangeAt Go.RowKit
open Go.ChangeMaps (open_string shut_string)
set_option linter.unusedVariables false
theorem own : ownKnob Tryd.prog.godebug = none := by kernel_rfl
theorem laidOut : laidOutB Tryd.prog = true := by kernel_rfl
theorem cells22 : Tryd.prog.cellsOf 22 = 1 := by kernel_rfl
theorem cells23 : Tryd.prog.cellsOf 23 = 2 := by kernel_rfl
open Go.Proofs.YthhlnghpbjmfpaaDoor.Press
theorem tabs_of {W : World} (h : laidMetH Tryd.prog Rows.bitsMovesRow.laid W) : Tabs W := by
  rw [MakeChecks.laidMetH_plain _ _ _ (by kernel_rfl)] at h
  have h_b := laidMet.filter (fun x => x.1 == "math/bits.deBruijn64tab") h
  have e_b : (Rows.bitsMovesRow.laid.filter fun x => x.1 == "math/bits.deBruijn64tab") = [("math/bits.deBruijn64tab", Lib.tabData .u8 (Lib.deBruijn64tab.map Int.ofNat))] := by kernel_rfl
  rw [e_b] at h_b
  have t_b := Lib.tabIs_of_head (g := 5) (t := 133) (by kernel_rfl) (by kernel_rfl) Tryd.underlying133 Tryd.underlying5 (by kernel_rfl) (by kernel_rfl) h_b
  have h_p := laidMet.filter (fun x => x.1 == "internal/strconv.uint64pow10") h
  have e_p : (Rows.bitsMovesRow.laid.filter fun x => x.1 == "internal/strconv.uint64pow10") = [("internal/strconv.uint64pow10", Lib.tabData .u64 Lib.pow10Tab)] := by kernel_rfl
  rw [e_p] at h_p
  have t_p := Lib.tabIs_of_head (g := 0) (t := 116) (by kernel_rfl) (by kernel_rfl) Tryd.underlying116 Tryd.underlying22 (by kernel_rfl) (by kernel_rfl) h_p
  exact ⟨(t_b.cell (by kernel_rfl) 15 (by decide)).trans (by kernel_rfl), t_p⟩
set_option maxHeartbeats 800000 in
set_option maxRecDepth 100000 in
theorem lifted (os : Os) (started : os.Started) (H : Type) (enc : TypeId × Value → H) :
    ReturnsInHanded {} Tryd.checked os 5 .any (fun w args => (Rows.bitsMovesSpec.pre enc Tryd.prog Tryd.f5 Rows.bitsMovesRow.domain false w args ∧ laidMetH Tryd.prog Rows.bitsMovesRow.laid w) ∧ sizedMet enc Tryd.prog Tryd.f5 (OpenSpec.ofChange Rows.bitsMovesSpec) false w args) (Rows.bitsMovesSpec.post enc Tryd.prog Tryd.f5 false true false false) := by
  refine returnsInHanded_of_change_and (C := Tryd.checked) (X := fun w _ => laidMetH Tryd.prog Rows.bitsMovesRow.laid w) (fun _ _ _ hh h => h.of_heap hh) own started (by kernel_rfl) Tryd.func5
    (ChangeSpec.witness_shaped (enc := enc) (C := Tryd.checked) (os := os) (X := fun w _ => laidMetH Tryd.prog Rows.bitsMovesRow.laid w) false (World.laidAll Tryd.prog os Rows.bitsMovesRow.laid) #[.int .i64 0, .agg #[.int .u64 0, .int .u64 0], .int .u8 0] 8 (World.laidAll_os _ _ _)
      (World.shaped_of_ZipB (by kernel_rfl) (by kernel_rfl)) (by kernel_rfl) (by kernel_rfl) (by kernel_rfl)
      (by rw [MakeChecks.laidMetH_plain _ _ _ (by kernel_rfl)]; exact laidMet_laidAll _ (by kernel_rfl) (by kernel_rfl))) ?_
  intro W base args ds gs before hval0 hW hcnd hsz0 hL _
  have hsz : (DataW.weightsEach Tryd.prog (Tryd.f5.params.toList ++ Rows.bitsMovesSpec.plain.varTypes Tryd.prog) (ds ++ gs)).all (· ≤ reachBytes) = true := hsz0
  have hval : ∀ (j : Nat) t v, Tryd.f5.params[j]? = some t → args[j]? = some v → Value.okWide Tryd.prog W .any base t v := hval0
  have hW' := hW
  obtain ⟨p, q, hA0, hV, rfl, hfz, hnd⟩ := hW
  have hA : DataW.TrodAll enc Tryd.prog W 0 (fun _ => true) true Tryd.f5.params.toList args.toList ds p := hA0
  rw [Tryd.params5] at hA hval hsz
  obtain ⟨v0, vs0, d0, ds0, p0, q0, hargs, rfl, rfl, h0, r0⟩ := trodAll_cons hA
  obtain ⟨v1, vs1, d1, ds1, p1, q1, rfl, rfl, rfl, h1, r1⟩ := trodAll_cons r0
  obtain ⟨v2, vs2, d2, ds2, p2, q2, rfl, rfl, rfl, h2, r2⟩ := trodAll_cons r1
  obtain ⟨rfl, rfl, rfl⟩ := trodAll_nil r2
  obtain rfl : args = #[v0, v1, v2] := by cases args; simp_all
  obtain ⟨rfl, rfl⟩ := trodVars_none hV
  obtain ⟨a0, rfl, rfl, rfl, w0⟩ := open_int Tryd.underlying3 (hval 0 3 v0 rfl rfl) h0
  have k1 := h1
  have lt1 : ∀ x ∈ p1, x.block < W.heap.size := by obtain ⟨m, hm⟩ := k1; exact DataW.trod_lt m _ _ _ hm
  obtain ⟨b1, rfl, hb1⟩ : ∃ cs, v1 = .agg cs ∧ cs.size = Tryd.prog.cellsOf 23 := by
    have ok_ := (hval 1 23 v1 rfl rfl)
    simp only [Value.okWide, Tryd.underlying23] at ok_
    obtain ⟨cs, h1, h2, _⟩ := ok_
    exact ⟨cs, h1, h2⟩
  rw [cells23] at hb1
  obtain ⟨l1_0, rfl⟩ : ∃ l, b1 = ⟨l⟩ := ⟨b1.toList, rfl⟩
  have hb1_0 : l1_0.length = 2 := hb1
  obtain ⟨c1_0, l1_1, rfl, hb1_1⟩ := Open.cons hb1_0
  obtain ⟨c1_1, l1_2, rfl, hb1_2⟩ := Open.cons hb1_1
  obtain rfl := List.length_eq_zero_iff.mp hb1_2
  obtain ⟨fu1, hf1⟩ := h1
  have hf1 : DataW.trod enc Tryd.prog W 0 (fun _ => true) true fu1 23 [c1_0, c1_1] = some (d1, p1) := hf1
  obtain ⟨m1_0, y1_0, g1_0⟩ := Open.elem Tryd.underlying23 hf1 0 (by decide)
  have g1_0 : DataW.trod enc Tryd.prog W 0 (fun _ => true) true m1_0 22 [c1_0] = some y1_0 := by have e_ : DataW.trod enc Tryd.prog W 0 (fun _ => true) true m1_0 22 (([_, _].drop (0 * Tryd.prog.cellsOf 22)).take (Tryd.prog.cellsOf 22)) = some y1_0 := g1_0; rw [cells22] at e_; exact e_
  obtain ⟨a1_0, rfl, wa1_0⟩ := Open.int Tryd.underlying22 g1_0
  obtain ⟨m1_1, y1_1, g1_1⟩ := Open.elem Tryd.underlying23 hf1 1 (by decide)
  have g1_1 : DataW.trod enc Tryd.prog W 0 (fun _ => true) true m1_1 22 [c1_1] = some y1_1 := by have e_ : DataW.trod enc Tryd.prog W 0 (fun _ => true) true m1_1 22 (([_, _].drop (1 * Tryd.prog.cellsOf 22)).take (Tryd.prog.cellsOf 22)) = some y1_1 := g1_1; rw [cells22] at e_; exact e_
  obtain ⟨a1_1, rfl, wa1_1⟩ := Open.int Tryd.underlying22 g1_1
  obtain ⟨a2, rfl, rfl, rfl, w2⟩ := open_int Tryd.underlying5 (hval 2 5 v2 rfl rfl) h2
  clear hA0 hval0 hsz0 hsz
  have hk := Pure.BitsMoves a0 a1_0 a1_1 a2 w0 wa1_0 wa1_1 w2
  refine (PAb.pointsmanlaw01_BitsMoves.calls a0 a1_0 a1_1 a2 true W (tabs_of hL) hk).mono ?_
  rintro e W' ⟨rfl, bel0⟩
  have bel : Below W.heap.size W W' := bel0
  exact ⟨_, rfl, _, _, _, [], _, [], hW', trodAll_mk1 (shut_bool Tryd.underlying4 _), (trodAll_cons_mk (shut_int Tryd.underlying3 w0) (trodAll_cons_mk (Below.trod laidOut (by kernel_rfl) (of_decide_eq_true (by kernel_rfl)) k1 bel lt1) (trodAll_cons_mk (shut_int Tryd.underlying5 w2) trodAll_mk0))), rfl, bel.frame _, fun h => by cases h⟩
theorem over : Rows.bitsMovesRow.holds Tryd.pinned (OpenSpec.ofChange Rows.bitsMovesSpec) :=
  OpenClaim.holds_of_wide 5 Tryd.f5 rfl rfl rfl rfl rfl rfl rfl ⟨rfl, rfl, rfl, rfl, rfl⟩ rfl rfl rfl rfl rfl (by kernel_rfl) Tryd.func5 (by kernel_rfl)
    (of_decide_eq_true (by kernel_rfl)) (by unfold Func.isWrapper; first | (rw [if_pos (by decide +kernel)]; kernel_rfl) | (rw [if_neg (by decide +kernel)]; exact ⟨rfl, rfl⟩))
    (fun os started H enc _ => lifted os started H enc)
theorem proved : Rows.BitsMovesCardSaid :=
  Claim7.holds_tied_plain_at .later [] [.data, .data, .data] true (true, "cd19c3bf7e4360f22ccc32fedbbeb05452d952ca357f8baf345d235348a9ea00") true over (fun _ h => by cases h) (by kernel_rfl) (fun _ h => by cases h) bitsMoves_row_tie rfl ⟨rfl, rfl⟩ (by kernel_rfl) rfl
    (fun f fn hf hfn => by
      obtain rfl : f = 5 := Option.some.inj ((show Tryd.prog.funcNamed "pointsman/pointsmanlaw01.BitsMoves" = some 5 by kernel_rfl).symm.trans hf) |>.symm
      obtain rfl : fn = Tryd.f5 := (Option.some.inj (Tryd.func5.symm.trans hfn)).symm
      refine ⟨by kernel_rfl, fun j t ht => ?_⟩
      rw [Tryd.params5] at ht
      rcases j with _ | _ | _ | j
      · obtain rfl : t = 3 := by simpa using ht.symm
        exact (show Tryd.prog.wantsStandIn 3 = false by kernel_rfl)
      · obtain rfl : t = 23 := by simpa using ht.symm
        exact (show Tryd.prog.wantsStandIn 23 = false by kernel_rfl)
      · obtain rfl : t = 5 := by simpa using ht.symm
        exact (show Tryd.prog.wantsStandIn 5 = false by kernel_rfl)
      · simp at ht
    )
    (by kernel_rfl)
#print axioms proved
end Go.Proofs.YthhlnghpbjmfpaaDoor.bitsMoves
namespace Go.Proofs.YthhlnghpbjmfpaaDoor
/-- The tied card, under a short name, for the claim. -/
theorem bitsMoves_holds : Rows.BitsMovesCardSaid := bitsMoves.proved
end Go.Proofs.YthhlnghpbjmfpaaDoor
