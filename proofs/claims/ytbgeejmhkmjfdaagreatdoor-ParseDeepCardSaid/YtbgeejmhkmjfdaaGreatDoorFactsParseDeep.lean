/- Closed facts of the row of the law ParseDeep, one by one. -/
import Derived.Test.YtbgeejmhkmjfdaaGreatDoorRows
import Derived.Test.YtbgeejmhkmjfdaaGreatDoorFacts
namespace Go.Proofs.YtbgeejmhkmjfdaaGreatDoor.parseDeep
open Go
theorem and2 {a b : Bool} (ha : a = true) (hb : b = true) : (a && b) = true := by rw [ha, hb]; rfl
theorem fact0 : (Rows.parseDeepRow.wf (OpenSpec.ofChange Rows.parseDeepSpec)) = true := by kernel_rfl
theorem fact3 : (Tryz.f4.params.all (Tryz.prog.readableRec ·)) = true := by kernel_rfl
theorem fact4 : (namedTie Tryz.prog Rows.parseDeepRow.named Rows.parseDeepSpec.vars) = true := by kernel_rfl
theorem fact5 : ((Rows.parseDeepRow.stops == [])) = true := by kernel_rfl
theorem fact7 : ((Rows.parseDeepRow.knobs == [])) = true := by kernel_rfl
theorem fact9 : ((Rows.parseDeepRow.inPlace == Tryz.prog.inPlace 4)) = true := by kernel_rfl
theorem fact10 : ((Rows.parseDeepRow.unfollowed == Tryz.prog.unfollowed 4)) = true := by kernel_rfl
theorem fact11 : ((Rows.parseDeepRow.recurses == Tryz.prog.recurses 4)) = true := by kernel_rfl
theorem fact12 : ((Rows.parseDeepRow.named == Tryz.prog.varsNamed 4)) = true := by kernel_rfl
theorem fact13 : ((Rows.parseDeepRow.maps == (Tryz.f4.params.toList ++ Rows.parseDeepSpec.plain.varTypes Tryz.prog).any (Tryz.prog.mapsRec ·))) = true := by kernel_rfl
theorem fact14 : ((Rows.parseDeepRow.ifaces == (Tryz.f4.params.toList ++ Rows.parseDeepSpec.plain.varTypes Tryz.prog).any (Tryz.prog.ifacesRec ·))) = true := by kernel_rfl
theorem fact15 : ((Rows.parseDeepRow.mapsOut == Tryz.prog.mapsAmong Tryz.f4.resultTypes.toList)) = true := by kernel_rfl
theorem fact16 : ((Rows.parseDeepRow.loops == (Tryz.f4.params.toList ++ Rows.parseDeepSpec.plain.varTypes Tryz.prog).any (Tryz.prog.loopsFrom ·))) = true := by kernel_rfl
theorem fact17 : ((Rows.parseDeepRow.wideKeys == (Tryz.f4.params.toList ++ Rows.parseDeepSpec.plain.varTypes Tryz.prog ++ Tryz.f4.resultTypes.toList).any (Tryz.prog.wideKeysFrom ·))) = true := by kernel_rfl
theorem fact18 : (Rows.parseDeepSpec.vars.all (Tryz.prog.varReadable ·)) = true := by kernel_rfl
theorem fact19 : (Tryz.f4.resultTypes.all (fun t => Tryz.prog.readableRec t && decide (t < Tryz.prog.types.size))) = true := by kernel_rfl
theorem fact20 : ((Rows.parseDeepRow.ifacesOut == Tryz.f4.resultTypes.toList.any (Tryz.prog.ifacesRec ·))) = true := by kernel_rfl
theorem fact21 : ((Rows.parseDeepRow.loopsOut == Tryz.f4.resultTypes.toList.any (Tryz.prog.loopsFrom ·))) = true := by kernel_rfl
theorem fact22 : ((Rows.parseDeepRow.plainKeys == Tryz.prog.plainKeys)) = true := by kernel_rfl
theorem fact23 : (Rows.parseDeepRow.shortTexts.isNone) = true := by kernel_rfl
theorem fact26 : ((Rows.parseDeepRow.lifted == Tryz.prog.liftsFinal)) = true := by kernel_rfl
theorem fact27 : ((Tryz.prog.make == some Rows.parseDeepRow.make)) = true := by kernel_rfl
theorem fact28 : ((Rows.parseDeepRow.kinds == (if Rows.parseDeepRow.domain.isEmpty then [] else Tryz.f4.params.toList.map fun t => match Tryz.prog.underlying t with | some (.int k) => some k | _ => none))) = true := by kernel_rfl
theorem fact29 : ((Rows.parseDeepRow.pinned == Rows.parseDeepRow.pinnedBy)) = true := by kernel_rfl
theorem fact30 : ((Rows.parseDeepRow.veiled == (Tryz.f4.params.toList ++ Rows.parseDeepSpec.plain.varTypes Tryz.prog ++ Tryz.f4.resultTypes.toList).any (Tryz.prog.veiledRec ·))) = true := by kernel_rfl
theorem fact31 : (Rows.parseDeepRow.veiledFits Tryz.prog Tryz.f4.params.toList (Tryz.f4.params.toList ++ Rows.parseDeepSpec.plain.varTypes Tryz.prog ++ Tryz.f4.resultTypes.toList)) = true := by kernel_rfl
set_option maxRecDepth 100000 in
theorem facts : joinedFacts Tryz.prog 4 Tryz.f4 Rows.parseDeepSpec Rows.parseDeepRow = true := by
  unfold joinedFacts
  exact (and2 (and2 (and2 (and2 (and2 (and2 (and2 (and2 (and2 (and2 (and2 (and2 (and2 (and2 (and2 (and2 (and2 (and2 (and2 (and2 (and2 (and2 (and2 (and2 (and2 (and2 (and2 (and2 (and2 (and2 (and2 fact0 Facts.fact1) Facts.fact2) fact3) fact4) fact5) Facts.fact6) fact7) Facts.fact8) fact9) fact10) fact11) fact12) fact13) fact14) fact15) fact16) fact17) fact18) fact19) fact20) fact21) fact22) fact23) Facts.fact24) Facts.fact25) fact26) fact27) fact28) fact29) fact30) fact31)
end Go.Proofs.YtbgeejmhkmjfdaaGreatDoor.parseDeep
