/- The row of the law BitsBack, out of its plain law and the walk. For every input; no condition. -/
import Derived.Test.YthhlnghpbjmfpaaDoorRows
import Derived.Test.YthhlnghpbjmfpaaDoorPAbx6
import Derived.Test.YthhlnghpbjmfpaaDoorPAbx6
import Derived.Test.YthhlnghpbjmfpaaDoorOpen
import Derived.Test.YthhlnghpbjmfpaaDoorTie
import Derived.Test.YthhlnghpbjmfpaaDoorCards
import Derived.Stop.LaidErr
import Derived.WalkKit
import Derived.ProofKit
import Derived.OpenShut
import Derived.ShutString
import Derived.ChangeOld
import Derived.Below
import Derived.SizedLaws
import Derived.Carry
import Derived.Lay
import Derived.LaidSub
import Derived.MakeChecks
import Derived.SevenTiedAt
import Derived.Handed
import Derived.Lib.LaidTab
import Derived.Lib.TrailingZeros
namespace Go.Proofs.YthhlnghpbjmfpaaDoor.bitsBack
open Go.ChangeShapes Go.WideShapes Go.ChangeAt Go.RowKit
open Go.ChangeMaps (open_string shut_string)
set_option linter.unusedVariables false
theorem own : ownKnob Tryd.prog.godebug = none := by kernel_rfl
theorem laidOut : laidOutB Tryd.prog = true := by kernel_rfl
theorem cells3 : Tryd.prog.cellsOf 3 = 1 := by kernel_rfl
theorem cells22 : Tryd.prog.cellsOf 22 = 1 := by kernel_rfl
theorem cells27 : Tryd.prog.cellsOf 27 = 3 := by kernel_rfl
open Go.Proofs.YthhlnghpbjmfpaaDoor.Press
theorem star : "*" ++ "errors.errorString" = "*errors.errorString" := by decide
theorem rowE (u : TypeId) (h : Tryd.prog.typeName? 3 u = some "*errors.errorString") : u = 129 :=
  typeName_ptr_named (nm := "errors.errorString") (by rw [star]; kernel_rfl) (by kernel_rfl) (by decide) u (by rw [star]; exact h)
theorem tabs_of {W : World} (h : laidMetH Tryd.prog Rows.bitsBackRow.laid W) : AbBits.Errs W := by
  rw [MakeChecks.laidMetH_plain _ _ _ (by kernel_rfl)] at h
  have h_b := laidMet.filter (fun x => x.1 == "math/bits.deBruijn64tab") h
  have e_b : (Rows.bitsBackRow.laid.filter fun x => x.1 == "math/bits.deBruijn64tab") = [("math/bits.deBruijn64tab", Lib.tabData .u8 (Lib.deBruijn64tab.map Int.ofNat))] := by kernel_rfl
  rw [e_b] at h_b
  have t_b := Lib.tabIs_of_head (g := 5) (t := 133) (by kernel_rfl) (by kernel_rfl) Tryd.underlying133 Tryd.underlying5 (by kernel_rfl) (by kernel_rfl) h_b
  have h_p := laidMet.filter (fun x => x.1 == "internal/strconv.uint64pow10") h
  have e_p : (Rows.bitsBackRow.laid.filter fun x => x.1 == "internal/strconv.uint64pow10") = [("internal/strconv.uint64pow10", Lib.tabData .u64 Lib.pow10Tab)] := by kernel_rfl
  rw [e_p] at h_p
  have t_p := Lib.tabIs_of_head (g := 0) (t := 116) (by kernel_rfl) (by kernel_rfl) Tryd.underlying116 Tryd.underlying22 (by kernel_rfl) (by kernel_rfl) h_p
  have h_s := laidMet.filter (fun x => x.1 == "strconv.ErrSyntax") h
  rw [show (Rows.bitsBackRow.laid.filter fun x => x.1 == "strconv.ErrSyntax") = [("strconv.ErrSyntax", Rows.laid_strconv_ErrSyntax)] from by kernel_rfl] at h_s
  have h_r := laidMet.filter (fun x => x.1 == "strconv.ErrRange") h
  rw [show (Rows.bitsBackRow.laid.filter fun x => x.1 == "strconv.ErrRange") = [("strconv.ErrRange", Rows.laid_strconv_ErrRange)] from by kernel_rfl] at h_r
  have g_s : Tryd.prog.globalNamed "strconv.ErrSyntax" = some 2 := by kernel_rfl
  have g_r : Tryd.prog.globalNamed "strconv.ErrRange" = some 3 := by kernel_rfl
  obtain ⟨a0, s0, v0, -, -, -⟩ := laid_sentinel h_s g_s (show (Tryd.prog.globals[2]?).map (·.type) = some 73 by kernel_rfl) Tryd.underlying73 rowE Tryd.underlying129 Tryd.underlying131 rfl rfl Tryd.underlying9 (by kernel_rfl) (by kernel_rfl)
  obtain ⟨a1, s1, v1, -, -, -⟩ := laid_sentinel h_r g_r (show (Tryd.prog.globals[3]?).map (·.type) = some 73 by kernel_rfl) Tryd.underlying73 rowE Tryd.underlying129 Tryd.underlying131 rfl rfl Tryd.underlying9 (by kernel_rfl) (by kernel_rfl)
  exact ⟨⟨(t_b.cell (by kernel_rfl) 15 (by decide)).trans (by kernel_rfl), t_p⟩, ⟨_, by have q := World.var?_cell g_s v0 0; simpa using q, .inr ⟨_, _, rfl⟩⟩, ⟨_, by have q := World.var?_cell g_r v1 0; simpa using q, .inr ⟨_, _, rfl⟩⟩⟩
set_option maxHeartbeats 800000 in
set_option maxRecDepth 100000 in
theorem lifted (os : Os) (started : os.Started) (H : Type) (enc : TypeId × Value → H) :
    ReturnsInHanded {} Tryd.checked os 8 .any (fun w args => (Rows.bitsBackSpec.pre enc Tryd.prog Tryd.f8 Rows.bitsBackRow.domain false w args ∧ laidMetH Tryd.prog Rows.bitsBackRow.laid w) ∧ sizedMet enc Tryd.prog Tryd.f8 (OpenSpec.ofChange Rows.bitsBackSpec) false w args) (Rows.bitsBackSpec.post enc Tryd.prog Tryd.f8 false true false false) := by
  refine returnsInHanded_of_change_and (C := Tryd.checked) (X := fun w _ => laidMetH Tryd.prog Rows.bitsBackRow.laid w) (fun _ _ _ hh h => h.of_heap hh) own started (by kernel_rfl) Tryd.func8
    (ChangeSpec.witness_shaped (enc := enc) (C := Tryd.checked) (os := os) (X := fun w _ => laidMetH Tryd.prog Rows.bitsBackRow.laid w) false (World.laidAll Tryd.prog os Rows.bitsBackRow.laid) #[.agg #[.int .i64 0, .int .u64 0, .int .u64 0], .agg #[.int .i64 0, .int .u64 0, .int .u64 0]] 8 (World.laidAll_os _ _ _)
      (World.shaped_of_ZipB (by kernel_rfl) (by kernel_rfl)) (by kernel_rfl) (by kernel_rfl) (by kernel_rfl)
      (by rw [MakeChecks.laidMetH_plain _ _ _ (by kernel_rfl)]; exact laidMet_laidAll _ (by kernel_rfl) (by kernel_rfl))) ?_
  intro W base args ds gs before hval0 hW hcnd hsz0 hL _
  have hsz : (DataW.weightsEach Tryd.prog (Tryd.f8.params.toList ++ Rows.bitsBackSpec.plain.varTypes Tryd.prog) (ds ++ gs)).all (· ≤ reachBytes) = true := hsz0
  have hval : ∀ (j : Nat) t v, Tryd.f8.params[j]? = some t → args[j]? = some v → Value.okWide Tryd.prog W .any base t v := hval0
  have hW' := hW
  obtain ⟨p, q, hA0, hV, rfl, hfz, hnd⟩ := hW
  have hA : DataW.TrodAll enc Tryd.prog W 0 (fun _ => true) true Tryd.f8.params.toList args.toList ds p := hA0
  rw [Tryd.params8] at hA hval hsz
  obtain ⟨v0, vs0, d0, ds0, p0, q0, hargs, rfl, rfl, h0, r0⟩ := trodAll_cons hA
  obtain ⟨v1, vs1, d1, ds1, p1, q1, rfl, rfl, rfl, h1, r1⟩ := trodAll_cons r0
  obtain ⟨rfl, rfl, rfl⟩ := trodAll_nil r1
  obtain rfl : args = #[v0, v1] := by cases args; simp_all
  obtain ⟨rfl, rfl⟩ := trodVars_none hV
  have k0 := h0
  have lt0 : ∀ x ∈ p0, x.block < W.heap.size := by obtain ⟨m, hm⟩ := k0; exact DataW.trod_lt m _ _ _ hm
  obtain ⟨b0, rfl, hb0⟩ : ∃ cs, v0 = .agg cs ∧ cs.size = Tryd.prog.cellsOf 27 := by
    have ok_ := (hval 0 27 v0 rfl rfl)
    simp only [Value.okWide, Tryd.underlying27] at ok_
    obtain ⟨cs, h1, h2, _⟩ := ok_
    exact ⟨cs, h1, h2⟩
  rw [cells27] at hb0
  obtain ⟨l0_0, rfl⟩ : ∃ l, b0 = ⟨l⟩ := ⟨b0.toList, rfl⟩
  have hb0_0 : l0_0.length = 3 := hb0
  obtain ⟨c0_0, l0_1, rfl, hb0_1⟩ := Open.cons hb0_0
  obtain ⟨c0_1, l0_2, rfl, hb0_2⟩ := Open.cons hb0_1
  obtain ⟨c0_2, l0_3, rfl, hb0_3⟩ := Open.cons hb0_2
  obtain rfl := List.length_eq_zero_iff.mp hb0_3
  obtain ⟨fu0, hf0⟩ := h0
  have hf0 : DataW.trod enc Tryd.prog W 0 (fun _ => true) true fu0 27 [c0_0, c0_1, c0_2] = some (d0, p0) := hf0
  obtain ⟨m0_0, y0_0, g0_0⟩ := Open.field Tryd.underlying27 hf0 0 rfl
  have g0_0 : DataW.trod enc Tryd.prog W 0 (fun _ => true) true m0_0 3 [c0_0] = some y0_0 := by have e_ : DataW.trod enc Tryd.prog W 0 (fun _ => true) true m0_0 3 (([_, _, _].drop 0).take (Tryd.prog.cellsOf 3)) = some y0_0 := g0_0; rw [cells3] at e_; exact e_
  obtain ⟨a0_0, rfl, wa0_0⟩ := Open.int Tryd.underlying3 g0_0
  obtain ⟨m0_1, y0_1, g0_1⟩ := Open.field Tryd.underlying27 hf0 1 rfl
  have g0_1 : DataW.trod enc Tryd.prog W 0 (fun _ => true) true m0_1 22 [c0_1] = some y0_1 := by have e_ : DataW.trod enc Tryd.prog W 0 (fun _ => true) true m0_1 22 (([_, _, _].drop 1).take (Tryd.prog.cellsOf 22)) = some y0_1 := g0_1; rw [cells22] at e_; exact e_
  obtain ⟨a0_1, rfl, wa0_1⟩ := Open.int Tryd.underlying22 g0_1
  obtain ⟨m0_2, y0_2, g0_2⟩ := Open.field Tryd.underlying27 hf0 2 rfl
  have g0_2 : DataW.trod enc Tryd.prog W 0 (fun _ => true) true m0_2 22 [c0_2] = some y0_2 := by have e_ : DataW.trod enc Tryd.prog W 0 (fun _ => true) true m0_2 22 (([_, _, _].drop 2).take (Tryd.prog.cellsOf 22)) = some y0_2 := g0_2; rw [cells22] at e_; exact e_
  obtain ⟨a0_2, rfl, wa0_2⟩ := Open.int Tryd.underlying22 g0_2
  have k1 := h1
  have lt1 : ∀ x ∈ p1, x.block < W.heap.size := by obtain ⟨m, hm⟩ := k1; exact DataW.trod_lt m _ _ _ hm
  obtain ⟨b1, rfl, hb1⟩ : ∃ cs, v1 = .agg cs ∧ cs.size = Tryd.prog.cellsOf 27 := by
    have ok_ := (hval 1 27 v1 rfl rfl)
    simp only [Value.okWide, Tryd.underlying27] at ok_
    obtain ⟨cs, h1, h2, _⟩ := ok_
    exact ⟨cs, h1, h2⟩
  rw [cells27] at hb1
  obtain ⟨l1_0, rfl⟩ : ∃ l, b1 = ⟨l⟩ := ⟨b1.toList, rfl⟩
  have hb1_0 : l1_0.length = 3 := hb1
  obtain ⟨c1_0, l1_1, rfl, hb1_1⟩ := Open.cons hb1_0
  obtain ⟨c1_1, l1_2, rfl, hb1_2⟩ := Open.cons hb1_1
  obtain ⟨c1_2, l1_3, rfl, hb1_3⟩ := Open.cons hb1_2
  obtain rfl := List.length_eq_zero_iff.mp hb1_3
  obtain ⟨fu1, hf1⟩ := h1
  have hf1 : DataW.trod enc Tryd.prog W 0 (fun _ => true) true fu1 27 [c1_0, c1_1, c1_2] = some (d1, p1) := hf1
  obtain ⟨m1_0, y1_0, g1_0⟩ := Open.field Tryd.underlying27 hf1 0 rfl
  have g1_0 : DataW.trod enc Tryd.prog W 0 (fun _ => true) true m1_0 3 [c1_0] = some y1_0 := by have e_ : DataW.trod enc Tryd.prog W 0 (fun _ => true) true m1_0 3 (([_, _, _].drop 0).take (Tryd.prog.cellsOf 3)) = some y1_0 := g1_0; rw [cells3] at e_; exact e_
  obtain ⟨a1_0, rfl, wa1_0⟩ := Open.int Tryd.underlying3 g1_0
  obtain ⟨m1_1, y1_1, g1_1⟩ := Open.field Tryd.underlying27 hf1 1 rfl
  have g1_1 : DataW.trod enc Tryd.prog W 0 (fun _ => true) true m1_1 22 [c1_1] = some y1_1 := by have e_ : DataW.trod enc Tryd.prog W 0 (fun _ => true) true m1_1 22 (([_, _, _].drop 1).take (Tryd.prog.cellsOf 22)) = some y1_1 := g1_1; rw [cells22] at e_; exact e_
  obtain ⟨a1_1, rfl, wa1_1⟩ := Open.int Tryd.underlying22 g1_1
  obtain ⟨m1_2, y1_2, g1_2⟩ := Open.field Tryd.underlying27 hf1 2 rfl
  have g1_2 : DataW.trod enc Tryd.prog W 0 (fun _ => true) true m1_2 22 [c1_2] = some y1_2 := by have e_ : DataW.trod enc Tryd.prog W 0 (fun _ => true) true m1_2 22 (([_, _, _].drop 2).take (Tryd.prog.cellsOf 22)) = some y1_2 := g1_2; rw [cells22] at e_; exact e_
  obtain ⟨a1_2, rfl, wa1_2⟩ := Open.int Tryd.underlying22 g1_2
  clear hA0 hval0 hsz0 hsz
  have hk := Pure.BitsBack a0_0 a0_1 a0_2 a1_0 a1_1 a1_2 wa0_0 wa0_1 wa0_2 wa1_0 wa1_1 wa1_2
  refine (PAb.pointsmanlaw01_BitsBack.calls a0_0 a0_1 a0_2 a1_0 a1_1 a1_2 true W (tabs_of hL) hk).mono ?_
  rintro e W' ⟨rfl, bel0⟩
  have bel : Below W.heap.size W W' := bel0
  exact ⟨_, rfl, _, _, _, [], _, [], hW', trodAll_mk1 (shut_bool Tryd.underlying4 _), (trodAll_cons_mk (Below.trod laidOut (by kernel_rfl) (of_decide_eq_true (by kernel_rfl)) k0 bel lt0) (trodAll_cons_mk (Below.trod laidOut (by kernel_rfl) (of_decide_eq_true (by kernel_rfl)) k1 bel lt1) trodAll_mk0)), rfl, bel.frame _, fun h => by cases h⟩
theorem over : Rows.bitsBackRow.holds Tryd.pinned (OpenSpec.ofChange Rows.bitsBackSpec) :=
  OpenClaim.holds_of_wide 8 Tryd.f8 rfl rfl rfl rfl rfl rfl rfl ⟨rfl, rfl, rfl, rfl, rfl⟩ rfl rfl rfl rfl rfl (by kernel_rfl) Tryd.func8 (by kernel_rfl)
    (of_decide_eq_true (by kernel_rfl)) (by unfold Func.isWrapper; first | (rw [if_pos (by decide +kernel)]; kernel_rfl) | (rw [if_neg (by decide +kernel)]; exact ⟨rfl, rfl⟩))
    (fun os started H enc _ => lifted os started H enc)
theorem proved : Rows.BitsBackCardSaid :=
  Claim7.holds_tied_plain_at .later [] [.data, .data, .data, .sentinel, .sentinel] true (true, "cd19c3bf7e4360f22ccc32fedbbeb05452d952ca357f8baf345d235348a9ea00") true over (fun _ h => by cases h) (by kernel_rfl) (fun _ h => by cases h) bitsBack_row_tie rfl ⟨rfl, rfl⟩ (by kernel_rfl) rfl
    (fun f fn hf hfn => by
      obtain rfl : f = 8 := Option.some.inj ((show Tryd.prog.funcNamed "pointsman/pointsmanlaw01.BitsBack" = some 8 by kernel_rfl).symm.trans hf) |>.symm
      obtain rfl : fn = Tryd.f8 := (Option.some.inj (Tryd.func8.symm.trans hfn)).symm
      refine ⟨by kernel_rfl, fun j t ht => ?_⟩
      rw [Tryd.params8] at ht
      rcases j with _ | _ | j
      · obtain rfl : t = 27 := by simpa using ht.symm
        exact (show Tryd.prog.wantsStandIn 27 = false by kernel_rfl)
      · obtain rfl : t = 27 := by simpa using ht.symm
        exact (show Tryd.prog.wantsStandIn 27 = false by kernel_rfl)
      · simp at ht
    )
    (by kernel_rfl)
#print axioms proved
end Go.Proofs.YthhlnghpbjmfpaaDoor.bitsBack
namespace Go.Proofs.YthhlnghpbjmfpaaDoor
/-- The tied card, under a short name, for the claim. -/
theorem bitsBack_holds : Rows.BitsBackCardSaid := bitsBack.proved
end Go.Proofs.YthhlnghpbjmfpaaDoor
