/- The row of the law ParseJoins, out of its plain law and the walk. For every input; no condition. -/
import Derived.Test.YtogodijfdkffaaaGreatDoorFactsParseJoins
import Derived.Test.YtogodijfdkffaaaGreatDoorRows
import Derived.Test.YtogodijfdkffaaaGreatDoorPAbx2
import Derived.Test.YtogodijfdkffaaaGreatDoorJ13
import Derived.Test.YtogodijfdkffaaaGreatDoorTie
import Derived.Test.YtogodijfdkffaaaGreatDoorCards
import Derived.Stop.LaidErr
import Derived.WalkKit
import Derived.ProofKit
import Derived.OpenShut
import Derived.ShutString
import Derived.ChangeOld
import Derived.Below
import Derived.SizedLaws
import Derived.Carry
import Derived.Lay
import Derived.LaidSub
import Derived.MakeChecks
import Derived.SevenTiedAt
import Derived.Handed
import Derived.Lib.LaidTab
import Derived.Lib.TrailingZeros
set_option linter.unusedVariables false
set_option linter.unusedSimpArgs false
set_option maxRecDepth 100000
namespace Go.Proofs.YtogodijfdkffaaaGreatDoor.parseJoins
open Go.ChangeShapes Go.WideShapes Go.ChangeAt Go.RowKit
open Go.ChangeMaps (open_string shut_string)
theorem own : ownKnob Tryz.prog.godebug = none := by kernel_rfl
theorem star : "*" ++ "errors.errorString" = "*errors.errorString" := by decide
theorem rowE (u : TypeId) (h : Tryz.prog.typeName? 3 u = some "*errors.errorString") : u = 306 :=
  typeName_ptr_named (nm := "errors.errorString") (by rw [star]; kernel_rfl) (by kernel_rfl) (by decide) u (by rw [star]; exact h)
theorem tabs_of {W : World} (h : laidMetH Tryz.prog Rows.parseJoinsRow.laid W) : Ln.Lw W := by
  rw [MakeChecks.laidMetH_plain _ _ _ (by kernel_rfl)] at h
  have h_b := laidMet.filter (fun x => x.1 == "math/bits.deBruijn64tab") h
  have e_b : (Rows.parseJoinsRow.laid.filter fun x => x.1 == "math/bits.deBruijn64tab") = [("math/bits.deBruijn64tab", Lib.tabData .u8 (Lib.deBruijn64tab.map Int.ofNat))] := by kernel_rfl
  rw [e_b] at h_b
  have t_b := Lib.tabIs_of_head (g := 9) (t := 312) (by kernel_rfl) (by kernel_rfl) Tryz.underlying312 Tryz.underlying5 (by kernel_rfl) (by kernel_rfl) h_b
  have h_p := laidMet.filter (fun x => x.1 == "internal/strconv.uint64pow10") h
  have e_p : (Rows.parseJoinsRow.laid.filter fun x => x.1 == "internal/strconv.uint64pow10") = [("internal/strconv.uint64pow10", Lib.tabData .u64 Lib.pow10Tab)] := by kernel_rfl
  rw [e_p] at h_p
  have t_p := Lib.tabIs_of_head (g := 2) (t := 252) (by kernel_rfl) (by kernel_rfl) Tryz.underlying252 Tryz.underlying33 (by kernel_rfl) (by kernel_rfl) h_p
  have h_a := laidMet.filter (fun x => x.1 == "strings.asciiSpace") h
  have e_a : (Rows.parseJoinsRow.laid.filter fun x => x.1 == "strings.asciiSpace") = [("strings.asciiSpace", Lib.tabData .u8 Lib.asciiSpaceTab)] := by kernel_rfl
  rw [e_a] at h_a
  have t_a := Lib.tabIs_of_head (g := 0) (t := 202) (by kernel_rfl) (by kernel_rfl) Tryz.underlying202 Tryz.underlying5 (by kernel_rfl) (by kernel_rfl) h_a
  have h_s := laidMet.filter (fun x => x.1 == "strconv.ErrSyntax") h
  rw [show (Rows.parseJoinsRow.laid.filter fun x => x.1 == "strconv.ErrSyntax") = [("strconv.ErrSyntax", Rows.laid_strconv_ErrSyntax)] from by kernel_rfl] at h_s
  have h_r := laidMet.filter (fun x => x.1 == "strconv.ErrRange") h
  rw [show (Rows.parseJoinsRow.laid.filter fun x => x.1 == "strconv.ErrRange") = [("strconv.ErrRange", Rows.laid_strconv_ErrRange)] from by kernel_rfl] at h_r
  have g_s : Tryz.prog.globalNamed "strconv.ErrSyntax" = some 3 := by kernel_rfl
  have g_r : Tryz.prog.globalNamed "strconv.ErrRange" = some 4 := by kernel_rfl
  obtain ⟨a0, s0, v0, -, -, -⟩ := laid_sentinel h_s g_s (show (Tryz.prog.globals[3]?).map (·.type) = some 151 by kernel_rfl) Tryz.underlying151 rowE Tryz.underlying306 Tryz.underlying308 rfl rfl Tryz.underlying9 (by kernel_rfl) (by kernel_rfl)
  obtain ⟨a1, s1, v1, -, -, -⟩ := laid_sentinel h_r g_r (show (Tryz.prog.globals[4]?).map (·.type) = some 151 by kernel_rfl) Tryz.underlying151 rowE Tryz.underlying306 Tryz.underlying308 rfl rfl Tryz.underlying9 (by kernel_rfl) (by kernel_rfl)
  exact ⟨(t_b.cell (by kernel_rfl) 15 (by decide)).trans (by kernel_rfl), t_p, t_a, ⟨_, by have q := World.var?_cell g_s v0 0; simpa using q, .inr ⟨_, _, rfl⟩⟩, ⟨_, by have q := World.var?_cell g_r v1 0; simpa using q, .inr ⟨_, _, rfl⟩⟩⟩
set_option maxHeartbeats 800000 in
theorem lifted (os : Os) (started : os.Started) (H : Type) (enc : TypeId × Value → H) :
    ReturnsInHanded {} Tryz.checked os 4 .any (fun w args => (Rows.parseJoinsSpec.pre enc Tryz.prog Tryz.f4 Rows.parseJoinsRow.domain false w args ∧ laidMetH Tryz.prog Rows.parseJoinsRow.laid w) ∧ sizedMet enc Tryz.prog Tryz.f4 (OpenSpec.ofChange Rows.parseJoinsSpec) false w args) (Rows.parseJoinsSpec.post enc Tryz.prog Tryz.f4 false true false false) := by
  refine returnsInHanded_of_change_and (C := Tryz.checked) (X := fun w _ => laidMetH Tryz.prog Rows.parseJoinsRow.laid w) (fun _ _ _ hh h => h.of_heap hh) own started (by kernel_rfl) Tryz.func4
    (ChangeSpec.witness_shaped (enc := enc) (C := Tryz.checked) (os := os) (X := fun w _ => laidMetH Tryz.prog Rows.parseJoinsRow.laid w) false (World.laidAll Tryz.prog os Rows.parseJoinsRow.laid) #[.string ByteArray.empty, .string ByteArray.empty] 8 (World.laidAll_os _ _ _)
      (World.shaped_of_ZipB (by kernel_rfl) (by kernel_rfl)) (by kernel_rfl) (by kernel_rfl) (by kernel_rfl)
      (by rw [MakeChecks.laidMetH_plain _ _ _ (by kernel_rfl)]; exact laidMet_laidAll _ (by kernel_rfl) (by kernel_rfl))) ?_
  intro W base args ds gs before hval0 hW hcnd hsz0 hL _
  have hsz : (DataW.weightsEach Tryz.prog (Tryz.f4.params.toList ++ Rows.parseJoinsSpec.plain.varTypes Tryz.prog) (ds ++ gs)).all (· ≤ reachBytes) = true := hsz0
  have hval : ∀ (j : Nat) t v, Tryz.f4.params[j]? = some t → args[j]? = some v → Value.okWide Tryz.prog W .any base t v := hval0
  have hW' := hW
  obtain ⟨p, q, hA0, hV, rfl, hfz, hnd⟩ := hW
  have hA : DataW.TrodAll enc Tryz.prog W 0 (fun _ => true) true Tryz.f4.params.toList args.toList ds p := hA0
  rw [Tryz.params4] at hA hval hsz
  obtain ⟨v0, vs0, d0, ds0, p0, q0, hargs, rfl, rfl, h0, r0⟩ := trodAll_cons hA
  obtain ⟨v1, vs1, d1, ds1, p1, q1, rfl, rfl, rfl, h1, r1⟩ := trodAll_cons r0
  obtain ⟨rfl, rfl, rfl⟩ := trodAll_nil r1
  obtain rfl : args = #[v0, v1] := by cases args; simp_all
  obtain ⟨rfl, rfl⟩ := trodVars_none hV
  obtain ⟨a0, rfl, rfl, rfl, y0⟩ := open_string Tryz.underlying9 (hval 0 9 v0 rfl rfl) h0
  have w0 : a0.size ≤ 140737488351232 := by
    have z := sized_string hsz (j := 0) (t := 9) rfl rfl
    rw [Array.length_toList] at z
    exact z
  obtain ⟨a1, rfl, rfl, rfl, y1⟩ := open_string Tryz.underlying9 (hval 1 9 v1 rfl rfl) h1
  have w1 : a1.size ≤ 140737488351232 := by
    have z := sized_string hsz (j := 1) (t := 9) rfl rfl
    rw [Array.length_toList] at z
    exact z
  clear hA0 hval0 hsz0 hsz
  have hk : true = true := rfl
  refine (Ln.pointsmanlaw08_ParseJoins.calls a0 a1 true W (tabs_of hL) hk).mono ?_
  rintro e W' ⟨rfl, bel0⟩
  have bel : Below W.heap.size W W' := bel0
  exact ⟨_, rfl, _, _, _, [], _, [], hW', trodAll_mk1 (shut_bool Tryz.underlying4 _), (trodAll_cons_mk (shut_string Tryz.underlying9 y0) (trodAll_cons_mk (shut_string Tryz.underlying9 y1) trodAll_mk0)), rfl, bel.frame _, fun h => by cases h⟩
theorem over : Rows.parseJoinsRow.holds Tryz.pinned (OpenSpec.ofChange Rows.parseJoinsSpec) :=
  OpenClaim.holds_of_wide 4 Tryz.f4 rfl rfl rfl rfl rfl rfl rfl ⟨rfl, rfl, rfl, rfl, rfl⟩ rfl rfl rfl rfl rfl (by kernel_rfl) Tryz.func4 facts
    (of_decide_eq_true (by kernel_rfl)) (by unfold Func.isWrapper; first | (rw [if_pos (by decide +kernel)]; kernel_rfl) | (rw [if_neg (by decide +kernel)]; exact ⟨rfl, rfl⟩))
    (fun os started H enc _ => lifted os started H enc)
end Go.Proofs.YtogodijfdkffaaaGreatDoor.parseJoins
