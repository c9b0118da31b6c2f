/- More words for the laws' walks. -/
import Derived.Test.YthhlnghpbjmfpaaDoorAbNums
namespace Go.Proofs.YthhlnghpbjmfpaaDoor.AbBits
open Go Go.RowKit Go.Ab Go.Proofs.YthhlnghpbjmfpaaDoor Go.Proofs.YthhlnghpbjmfpaaDoor.PTryd Go.Proofs.YthhlnghpbjmfpaaDoor.PTrydFns Go.Proofs.YthhlnghpbjmfpaaDoor.BitsMath Go.Proofs.YthhlnghpbjmfpaaDoor.Press
set_option linter.unusedVariables false
set_option linter.unusedSimpArgs false
theorem iT {k : IntKind} {a b : Int} (h : a = b) : some (Value.int k a) = some (Value.int k b) := congrArg (fun b => some (Value.int k b)) h
set_option maxRecDepth 100000 in
theorem eql4 (x y : Operand) (p q : Bool) (w : World) : ((do eqGuard .eql 4 x y (.bool p) (.bool q); binOp .eql 4 (.bool p) (.bool q)) : Sem Value).run Tryd.prog w = .ok (.bool (p == q)) w := by
  have e2 : (Op.equal 4 (.bool p) (.bool q)).run Tryd.prog w = .ok (p == q) w := run_equalIn_bool' w 9999 4 p q (by kernel_rfl)
  have e3 : Tryd.prog.eqGuardType Tryd.prog.depth 4 = false := by kernel_rfl
  simp [eqGuard, binOp, e2, e3]
set_option maxRecDepth 100000 in
theorem neq4 (x y : Operand) (p q : Bool) (w : World) : ((do eqGuard .neq 4 x y (.bool p) (.bool q); binOp .neq 4 (.bool p) (.bool q)) : Sem Value).run Tryd.prog w = .ok (.bool (!(p == q))) w := by
  have e2 : (Op.equal 4 (.bool p) (.bool q)).run Tryd.prog w = .ok (p == q) w := run_equalIn_bool' w 9999 4 p q (by kernel_rfl)
  have e3 : Tryd.prog.eqGuardType Tryd.prog.depth 4 = false := by kernel_rfl
  simp [eqGuard, binOp, e2, e3]
theorem cut_all {w va : Nat} (h0 : 1 ≤ w) (h : w ≤ 128) (ha : va < 2 ^ w) : pointsmanlaw01_cut.f w (hiOf va) (loOf va) ((w - 1 : Nat) : Int) 0 = some ((w : Int), hiOf va, loOf va) := by
  have e := cut_to h0 h ha (w - 1) 0 (by omega) (by omega)
  rw [show w - 1 - 0 + 1 = w from by omega, Nat.pow_zero, Nat.div_one, Nat.mod_eq_of_lt ha] at e
  exact e
theorem wpred {w : Nat} (h0 : 1 ≤ w) (h : w ≤ 128) : IntKind.i64.wrap ((w : Int) - 1) = ((w - 1 : Nat) : Int) := by rw [IntWalk.i64_in _ (by omega)]; omega
theorem wsumK {w wb : Nat} (h : w ≤ 128) (h' : wb ≤ 128) : IntKind.i64.wrap ((w : Int) + wb) = ((w + wb : Nat) : Int) := IntWalk.i64_in _ (by omega)
theorem neT {w X Y : Nat} (h : X ≠ Y) : (!decide (w = w ∧ X = Y)) = true := by simp [h]
theorem eqF {w X Y : Nat} (h : X ≠ Y) : decide (w = w ∧ X = Y) = false := by simp [h]
def bitI (y : Int) (x : Nat) : D := .agg [.sc (.int .i64 y), .sc (.int .u64 (hiOf x)), .sc (.int .u64 (loOf x))]
theorem f_convI {P : Program} {E : Env} {st : St} {x : Operand} {ty : TypeId} {pos : String} {af : Array Edge} {g : Option (Nat × Bool)} {d : Nat} {src dst : TypeId} {k k' : IntKind} {n r : Int} (hx : ev st x = some (.d (.sc (.int k n)))) (hs : (P.underlying src).isSome = true) (ht : P.underlying dst = some (.int k')) (hr : k'.wrap n = r) (hd : d < E.N) :
    FOk P E ⟨some d, .convert src dst x, ty, pos, af, g⟩ st (evL x) [] [(.slot d, some (.d (.sc (.int k' r))))] := by subst hr; exact f_conv hx hs ht hd

end Go.Proofs.YthhlnghpbjmfpaaDoor.AbBits
