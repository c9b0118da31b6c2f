/- The row of the law LexOne, out of its plain law and the walk. For every input; no condition. -/
import Derived.Test.YtcaedggggkchiaaGreatDoorFactsLexOne
import Derived.Test.YtcaedggggkchiaaGreatDoorRows
import Derived.Test.YtcaedggggkchiaaGreatDoorPAbx2
import Derived.Test.YtcaedggggkchiaaGreatDoorOpen
import Derived.Test.YtcaedggggkchiaaGreatDoorTie
import Derived.Test.YtcaedggggkchiaaGreatDoorCards
import Derived.Stop.LaidErr
import Derived.WalkKit
import Derived.ProofKit
import Derived.OpenShut
import Derived.ShutString
import Derived.ChangeOld
import Derived.Below
import Derived.SizedLaws
import Derived.Carry
import Derived.Lay
import Derived.LaidSub
import Derived.MakeChecks
import Derived.SevenTiedAt
import Derived.Handed
import Derived.Lib.LaidTab
import Derived.Lib.TrailingZeros
namespace Go.Proofs.YtcaedggggkchiaaGreatDoor.lexOne
open Go.ChangeShapes Go.WideShapes Go.ChangeAt Go.RowKit
open Go.ChangeMaps (open_string shut_string)
set_option linter.unusedVariables false
theorem own : ownKnob Tryz.prog.godebug = none := by kernel_rfl
theorem laidOut : laidOutB Tryz.prog = true := by kernel_rfl
theorem cells3 : Tryz.prog.cellsOf 3 = 1 := by kernel_rfl
theorem cells22 : Tryz.prog.cellsOf 22 = 1 := by kernel_rfl
theorem cells24 : Tryz.prog.cellsOf 24 = 3 := by kernel_rfl
theorem star : "*" ++ "errors.errorString" = "*errors.errorString" := by decide
theorem rowE (u : TypeId) (h : Tryz.prog.typeName? 3 u = some "*errors.errorString") : u = 405 :=
  typeName_ptr_named (nm := "errors.errorString") (by rw [star]; kernel_rfl) (by kernel_rfl) (by decide) u (by rw [star]; exact h)
theorem tabs_of {W : World} (h : laidMetH Tryz.prog Rows.lexOneRow.laid W) : Ln.Lw W := by
  rw [MakeChecks.laidMetH_plain _ _ _ (by kernel_rfl)] at h
  have h_b := laidMet.filter (fun x => x.1 == "math/bits.deBruijn64tab") h
  have e_b : (Rows.lexOneRow.laid.filter fun x => x.1 == "math/bits.deBruijn64tab") = [("math/bits.deBruijn64tab", Lib.tabData .u8 (Lib.deBruijn64tab.map Int.ofNat))] := by kernel_rfl
  rw [e_b] at h_b
  have t_b := Lib.tabIs_of_head (g := 7) (t := 400) (by kernel_rfl) (by kernel_rfl) Tryz.underlying400 Tryz.underlying5 (by kernel_rfl) (by kernel_rfl) h_b
  have h_p := laidMet.filter (fun x => x.1 == "internal/strconv.uint64pow10") h
  have e_p : (Rows.lexOneRow.laid.filter fun x => x.1 == "internal/strconv.uint64pow10") = [("internal/strconv.uint64pow10", Lib.tabData .u64 Lib.pow10Tab)] := by kernel_rfl
  rw [e_p] at h_p
  have t_p := Lib.tabIs_of_head (g := 1) (t := 362) (by kernel_rfl) (by kernel_rfl) Tryz.underlying362 Tryz.underlying22 (by kernel_rfl) (by kernel_rfl) h_p
  have h_a := laidMet.filter (fun x => x.1 == "strings.asciiSpace") h
  have e_a : (Rows.lexOneRow.laid.filter fun x => x.1 == "strings.asciiSpace") = [("strings.asciiSpace", Lib.tabData .u8 Lib.asciiSpaceTab)] := by kernel_rfl
  rw [e_a] at h_a
  have t_a := Lib.tabIs_of_head (g := 0) (t := 357) (by kernel_rfl) (by kernel_rfl) Tryz.underlying357 Tryz.underlying5 (by kernel_rfl) (by kernel_rfl) h_a
  have h_s := laidMet.filter (fun x => x.1 == "strconv.ErrSyntax") h
  rw [show (Rows.lexOneRow.laid.filter fun x => x.1 == "strconv.ErrSyntax") = [("strconv.ErrSyntax", Rows.laid_strconv_ErrSyntax)] from by kernel_rfl] at h_s
  have h_r := laidMet.filter (fun x => x.1 == "strconv.ErrRange") h
  rw [show (Rows.lexOneRow.laid.filter fun x => x.1 == "strconv.ErrRange") = [("strconv.ErrRange", Rows.laid_strconv_ErrRange)] from by kernel_rfl] at h_r
  have g_s : Tryz.prog.globalNamed "strconv.ErrSyntax" = some 4 := by kernel_rfl
  have g_r : Tryz.prog.globalNamed "strconv.ErrRange" = some 5 := by kernel_rfl
  obtain ⟨a0, s0, v0, -, -, -⟩ := laid_sentinel h_s g_s (show (Tryz.prog.globals[4]?).map (·.type) = some 324 by kernel_rfl) Tryz.underlying324 rowE Tryz.underlying405 Tryz.underlying407 rfl rfl Tryz.underlying9 (by kernel_rfl) (by kernel_rfl)
  obtain ⟨a1, s1, v1, -, -, -⟩ := laid_sentinel h_r g_r (show (Tryz.prog.globals[5]?).map (·.type) = some 324 by kernel_rfl) Tryz.underlying324 rowE Tryz.underlying405 Tryz.underlying407 rfl rfl Tryz.underlying9 (by kernel_rfl) (by kernel_rfl)
  exact ⟨(t_b.cell (by kernel_rfl) 15 (by decide)).trans (by kernel_rfl), t_p, t_a, ⟨_, by have q := World.var?_cell g_s v0 0; simpa using q, .inr ⟨_, _, rfl⟩⟩, ⟨_, by have q := World.var?_cell g_r v1 0; simpa using q, .inr ⟨_, _, rfl⟩⟩⟩
set_option maxHeartbeats 800000 in
set_option maxRecDepth 100000 in
theorem lifted (os : Os) (started : os.Started) (H : Type) (enc : TypeId × Value → H) :
    ReturnsInHanded {} Tryz.checked os 6 .any (fun w args => (Rows.lexOneSpec.pre enc Tryz.prog Tryz.f6 Rows.lexOneRow.domain false w args ∧ laidMetH Tryz.prog Rows.lexOneRow.laid w) ∧ sizedMet enc Tryz.prog Tryz.f6 (OpenSpec.ofChange Rows.lexOneSpec) false w args) (Rows.lexOneSpec.post enc Tryz.prog Tryz.f6 false true false false) := by
  refine returnsInHanded_of_change_and (C := Tryz.checked) (X := fun w _ => laidMetH Tryz.prog Rows.lexOneRow.laid w) (fun _ _ _ hh h => h.of_heap hh) own started (by kernel_rfl) Tryz.func6
    (ChangeSpec.witness_shaped (enc := enc) (C := Tryz.checked) (os := os) (X := fun w _ => laidMetH Tryz.prog Rows.lexOneRow.laid w) false (World.laidAll Tryz.prog os Rows.lexOneRow.laid) #[.int .u32 0, .agg #[.int .i64 0, .int .u64 0, .int .u64 0], .int .u8 0] 8 (World.laidAll_os _ _ _)
      (World.shaped_of_ZipB (by kernel_rfl) (by kernel_rfl)) (by kernel_rfl) (by kernel_rfl) (by kernel_rfl)
      (by rw [MakeChecks.laidMetH_plain _ _ _ (by kernel_rfl)]; exact laidMet_laidAll _ (by kernel_rfl) (by kernel_rfl))) ?_
  intro W base args ds gs before hval0 hW hcnd hsz0 hL _
  have hsz : (DataW.weightsEach Tryz.prog (Tryz.f6.params.toList ++ Rows.lexOneSpec.plain.varTypes Tryz.prog) (ds ++ gs)).all (· ≤ reachBytes) = true := hsz0
  have hval : ∀ (j : Nat) t v, Tryz.f6.params[j]? = some t → args[j]? = some v → Value.okWide Tryz.prog W .any base t v := hval0
  have hW' := hW
  obtain ⟨p, q, hA0, hV, rfl, hfz, hnd⟩ := hW
  have hA : DataW.TrodAll enc Tryz.prog W 0 (fun _ => true) true Tryz.f6.params.toList args.toList ds p := hA0
  rw [Tryz.params6] at hA hval hsz
  obtain ⟨v0, vs0, d0, ds0, p0, q0, hargs, rfl, rfl, h0, r0⟩ := trodAll_cons hA
  obtain ⟨v1, vs1, d1, ds1, p1, q1, rfl, rfl, rfl, h1, r1⟩ := trodAll_cons r0
  obtain ⟨v2, vs2, d2, ds2, p2, q2, rfl, rfl, rfl, h2, r2⟩ := trodAll_cons r1
  obtain ⟨rfl, rfl, rfl⟩ := trodAll_nil r2
  obtain rfl : args = #[v0, v1, v2] := by cases args; simp_all
  obtain ⟨rfl, rfl⟩ := trodVars_none hV
  obtain ⟨a0, rfl, rfl, rfl, w0⟩ := open_int Tryz.underlying79 (hval 0 79 v0 rfl rfl) h0
  have k1 := h1
  have lt1 : ∀ x ∈ p1, x.block < W.heap.size := by obtain ⟨m, hm⟩ := k1; exact DataW.trod_lt m _ _ _ hm
  obtain ⟨b1, rfl, hb1⟩ : ∃ cs, v1 = .agg cs ∧ cs.size = Tryz.prog.cellsOf 24 := by
    have ok_ := (hval 1 24 v1 rfl rfl)
    simp only [Value.okWide, Tryz.underlying24] at ok_
    obtain ⟨cs, h1, h2, _⟩ := ok_
    exact ⟨cs, h1, h2⟩
  rw [cells24] at hb1
  obtain ⟨l1_0, rfl⟩ : ∃ l, b1 = ⟨l⟩ := ⟨b1.toList, rfl⟩
  have hb1_0 : l1_0.length = 3 := hb1
  obtain ⟨c1_0, l1_1, rfl, hb1_1⟩ := Open.cons hb1_0
  obtain ⟨c1_1, l1_2, rfl, hb1_2⟩ := Open.cons hb1_1
  obtain ⟨c1_2, l1_3, rfl, hb1_3⟩ := Open.cons hb1_2
  obtain rfl := List.length_eq_zero_iff.mp hb1_3
  obtain ⟨fu1, hf1⟩ := h1
  have hf1 : DataW.trod enc Tryz.prog W 0 (fun _ => true) true fu1 24 [c1_0, c1_1, c1_2] = some (d1, p1) := hf1
  obtain ⟨m1_0, y1_0, g1_0⟩ := Open.field Tryz.underlying24 hf1 0 rfl
  have g1_0 : DataW.trod enc Tryz.prog W 0 (fun _ => true) true m1_0 3 [c1_0] = some y1_0 := by have e_ : DataW.trod enc Tryz.prog W 0 (fun _ => true) true m1_0 3 (([_, _, _].drop 0).take (Tryz.prog.cellsOf 3)) = some y1_0 := g1_0; rw [cells3] at e_; exact e_
  obtain ⟨a1_0, rfl, wa1_0⟩ := Open.int Tryz.underlying3 g1_0
  obtain ⟨m1_1, y1_1, g1_1⟩ := Open.field Tryz.underlying24 hf1 1 rfl
  have g1_1 : DataW.trod enc Tryz.prog W 0 (fun _ => true) true m1_1 22 [c1_1] = some y1_1 := by have e_ : DataW.trod enc Tryz.prog W 0 (fun _ => true) true m1_1 22 (([_, _, _].drop 1).take (Tryz.prog.cellsOf 22)) = some y1_1 := g1_1; rw [cells22] at e_; exact e_
  obtain ⟨a1_1, rfl, wa1_1⟩ := Open.int Tryz.underlying22 g1_1
  obtain ⟨m1_2, y1_2, g1_2⟩ := Open.field Tryz.underlying24 hf1 2 rfl
  have g1_2 : DataW.trod enc Tryz.prog W 0 (fun _ => true) true m1_2 22 [c1_2] = some y1_2 := by have e_ : DataW.trod enc Tryz.prog W 0 (fun _ => true) true m1_2 22 (([_, _, _].drop 2).take (Tryz.prog.cellsOf 22)) = some y1_2 := g1_2; rw [cells22] at e_; exact e_
  obtain ⟨a1_2, rfl, wa1_2⟩ := Open.int Tryz.underlying22 g1_2
  obtain ⟨a2, rfl, rfl, rfl, w2⟩ := open_int Tryz.underlying5 (hval 2 5 v2 rfl rfl) h2
  clear hA0 hval0 hsz0 hsz
  have hk : true = true := rfl
  refine (Ln.pointsmanlaw07_LexOne.calls a0 a1_0 a1_1 a1_2 a2 true W (tabs_of hL) hk w0 wa1_0 wa1_1 wa1_2 w2).mono ?_
  rintro e W' ⟨rfl, bel0⟩
  have bel : Below W.heap.size W W' := bel0
  exact ⟨_, rfl, _, _, _, [], _, [], hW', trodAll_mk1 (shut_bool Tryz.underlying4 _), (trodAll_cons_mk (shut_int Tryz.underlying79 w0) (trodAll_cons_mk (Below.trod laidOut (by kernel_rfl) (of_decide_eq_true (by kernel_rfl)) k1 bel lt1) (trodAll_cons_mk (shut_int Tryz.underlying5 w2) trodAll_mk0))), rfl, bel.frame _, fun h => by cases h⟩
theorem over : Rows.lexOneRow.holds Tryz.pinned (OpenSpec.ofChange Rows.lexOneSpec) :=
  OpenClaim.holds_of_wide 6 Tryz.f6 rfl rfl rfl rfl rfl rfl rfl ⟨rfl, rfl, rfl, rfl, rfl⟩ rfl rfl rfl rfl rfl (by kernel_rfl) Tryz.func6 facts
    (of_decide_eq_true (by kernel_rfl)) (by unfold Func.isWrapper; first | (rw [if_pos (by decide +kernel)]; kernel_rfl) | (rw [if_neg (by decide +kernel)]; exact ⟨rfl, rfl⟩))
    (fun os started H enc _ => lifted os started H enc)
end Go.Proofs.YtcaedggggkchiaaGreatDoor.lexOne
