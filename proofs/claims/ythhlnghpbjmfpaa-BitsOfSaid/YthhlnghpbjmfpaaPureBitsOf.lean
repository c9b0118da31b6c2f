/- BitsOf: for every width and every two words of 64 bits, the program's Of and Check answer as the reference's. No condition. -/
import Derived.Test.YthhlnghpbjmfpaaPBitsOfFns
namespace Go.Proofs.Ythhlnghpbjmfpaa.Pure
open Go.RowKit Go.Proofs.Ythhlnghpbjmfpaa.PBitsOf Go.Proofs.YthhlnghpbjmfpaaW.PrintWords Go.Proofs.YthhlnghpbjmfpaaW.PrintLast
open Go.Proofs.Ythhlnghpbjmfpaa.BitsMath Go.Proofs.Ythhlnghpbjmfpaa.PBitsOfFns

theorem BitsOf : pointsmanlaw01_BitsOf.Pure := by
  intro w hi lo _ h1 h2
  refine ⟨400, ?_⟩
  unfold pointsmanlaw01_BitsOf.f
  by_cases hw : 1 ≤ w ∧ w ≤ 128
  · obtain ⟨n, rfl⟩ := Int.eq_ofNat_of_zero_le (show 0 ≤ w by omega)
    obtain ⟨v, hv, rfl, rfl⟩ := two_words h1 h2
    rw [of_is n (by omega) (by omega) hv, Option.bind_some, refOf_is n (by omega) (by omega) hv 400 (by decide), Option.bind_some, if_pos (by simp), if_pos rfl, check_is n (by omega) (by omega) hv, Option.bind_some, refCheck_is n (by omega) (by omega) hv 400 (by decide), Option.bind_some]
    simp
  · rw [of_not w hi lo hw, Option.bind_some, refOf_not w hi lo 400 (by decide) hw, Option.bind_some, if_pos (by simp), if_pos rfl, check_not w hi lo hw, Option.bind_some, refCheck_not w hi lo 400 (by decide) hw, Option.bind_some]
    simp
end Go.Proofs.Ythhlnghpbjmfpaa.Pure
