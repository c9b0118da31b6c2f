/- Numbers that the laws are told. -/
import Derived.Test.YthhlnghpbjmfpaaDoorAbAlive
namespace Go.Proofs.YthhlnghpbjmfpaaDoor.AbBits
open Go Go.RowKit Go.Ab Go.Proofs.YthhlnghpbjmfpaaDoor Go.Proofs.YthhlnghpbjmfpaaDoor.PTryd Go.Proofs.YthhlnghpbjmfpaaDoor.PTrydFns Go.Proofs.YthhlnghpbjmfpaaDoor.BitsMath Go.Proofs.YthhlnghpbjmfpaaDoor.Press
set_option linter.unusedVariables false
set_option linter.unusedSimpArgs false
theorem numbers_c {a0 a1 a2 a3 a4 a5 a6 r1 r2 r3 r4 r5 r6 r7 r8 r9 : Int} {r10 : Bool} (h : Go.Proofs.YthhlnghpbjmfpaaDoor.PTryd.pointsmanlaw01_Three_numbers.f a0 a1 a2 a3 a4 a5 a6 = some (r1, r2, r3, r4, r5, r6, r7, r8, r9, r10)) : CallsP Tryd.prog Tabs 9 [.agg [.sc (.int .i64 a0), .sc (.int .u64 a1), .sc (.int .u64 a2), .sc (.int .u64 a3), .sc (.int .u64 a4), .sc (.int .u64 a5), .sc (.int .u64 a6)]] (.tup [.agg [.sc (.int .i64 r1), .sc (.int .u64 r2), .sc (.int .u64 r3)], .agg [.sc (.int .i64 r4), .sc (.int .u64 r5), .sc (.int .u64 r6)], .agg [.sc (.int .i64 r7), .sc (.int .u64 r8), .sc (.int .u64 r9)], .sc (.bool r10)]) :=
  lift rfl rfl fun w hg => (Go.Proofs.YthhlnghpbjmfpaaDoor.PTryd.pointsmanlaw01_Three_numbers.calls a0 a1 a2 a3 a4 a5 a6 r1 r2 r3 r4 r5 r6 r7 r8 r9 r10 w h).mono fun _ _ q => ⟨q.1, below_of q.2⟩

def threeD (n : Int) (x y z : Nat) : D := .agg [.sc (.int .i64 n), .sc (.int .u64 (hiOf x)), .sc (.int .u64 (loOf x)), .sc (.int .u64 (hiOf y)), .sc (.int .u64 (loOf y)), .sc (.int .u64 (hiOf z)), .sc (.int .u64 (loOf z))]
theorem numbers_ok {n x y z : Nat} (h0 : 1 ≤ n) (h : n ≤ 128) (hx : x < 2 ^ 128) (hy : y < 2 ^ 128) (hz : z < 2 ^ 128) : CallsP Tryd.prog Tabs 9 [threeD n x y z] (.tup [bitD n (x % 2 ^ n), bitD n (y % 2 ^ n), bitD n (z % 2 ^ n), .sc (.bool true)]) := by
  refine numbers_c ?_
  unfold pointsmanlaw01_Three_numbers.f
  rw [of_is n h0 h hx, of_is n h0 h hy, of_is n h0 h hz, Option.bind_some, Option.bind_some, Option.bind_some]
  rfl
theorem numbers_not {n : Int} {x y z : Nat} (h : ¬ (1 ≤ n ∧ n ≤ 128)) : CallsP Tryd.prog Tabs 9 [threeD n x y z] (.tup [.agg [.sc (.int .i64 0), .sc (.int .u64 0), .sc (.int .u64 0)], .agg [.sc (.int .i64 0), .sc (.int .u64 0), .sc (.int .u64 0)], .agg [.sc (.int .i64 0), .sc (.int .u64 0), .sc (.int .u64 0)], .sc (.bool false)]) := by
  refine numbers_c ?_
  unfold pointsmanlaw01_Three_numbers.f
  rw [of_not _ _ _ h, of_not _ _ _ h, of_not _ _ _ h, Option.bind_some, Option.bind_some, Option.bind_some]
  rfl
theorem num_b (n v : Nat) (hv : v < 2 ^ 64) : CallsP Tryd.prog Tabs 12 [.sc (.int .i64 (n : Int)), .sc (.int .u64 (v : Int))] (bitD n v) := by
  have h : CallsP Tryd.prog Tabs 12 _ _ := num_c (a0 := (n : Int)) (a1 := (v : Int))
  have e1 : hiOf v = 0 := by unfold hiOf; rw [Nat.div_eq_of_lt hv]; rfl
  have e2 : loOf v = v := by unfold loOf; rw [Nat.mod_eq_of_lt hv]
  unfold bitD
  rw [e1, e2]; exact h
theorem bT {b b' : Bool} (h : b = b') : some (Value.bool b) = some (Value.bool b') := congrArg (fun b => some (Value.bool b)) h
theorem eqT {w X Y : Nat} (h : X = Y) : decide (w = w ∧ X = Y) = true := by simp [h]
theorem neF {w X Y : Nat} (h : X = Y) : (!decide (w = w ∧ X = Y)) = false := by simp [h]

end Go.Proofs.YthhlnghpbjmfpaaDoor.AbBits
