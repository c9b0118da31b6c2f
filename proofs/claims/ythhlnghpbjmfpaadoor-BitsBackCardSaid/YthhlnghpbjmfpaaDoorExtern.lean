/- A call of a function that has no body in the program (the model stands in for it): its contract, and the step of a walk that meets it; math/bits' Add64 and Sub64. -/
import Derived.Laws.Externs
import Derived.Laws.World
import Derived.Deep.Draws
import Derived.Test.YthhlnghpbjmfpaaDoorWLast
namespace Go.Proofs.YthhlnghpbjmfpaaDoor.Extern
open Go.Proofs.YthhlnghpbjmfpaaDoorW.PrintLast

/-- A cell that was written twice. -/
theorem cell_twice {w : World} {a : Addr} {u v v' : Value} (h : w.cell? a = some u) : ((w.setCell a v).setCell a v').cell? a = some v' :=
  World.cell?_setCell_same _ _ _ (World.cell?_setCell_same _ _ _ h)

/-- The call answers at once, in the world as it is. -/
def CallsX (P : Program) (f : FuncId) (args : Array Value) (w : World) (Q : Ending → World → Prop) : Prop :=
  ∃ v, (callFunc f args).run P w = .ok (.value v) w ∧ Q (.returned v) w
theorem CallsX.mono {P : Program} {f : FuncId} {args : Array Value} {w : World} {Q R : Ending → World → Prop} (h : CallsX P f args w Q) (hi : ∀ e w', Q e w' → R e w') : CallsX P f args w R := by
  obtain ⟨v, h1, h2⟩ := h
  exact ⟨v, h1, hi _ _ h2⟩
theorem goesX_ {P : Program} {ops : Array Oper} {Q : Exit → Act → World → Prop} {rest : List Oper} {oi : Oper} {a : Act} {w : World} {f : FuncId} (N : Option Tmp) (hd : oi.dst = N) (hg : oi.guard = none) {as : Array Operand} {ts : Array TypeId} (args : Array Value)
    (hop : oi.op = .call { callee := .value (.func f), args := as, argTypes := ts }) (hargs : as.map a.eval = args)
    (h : CallsX P f args w fun e w' => ∃ v, e = .returned v ∧ wpList P ops Q rest (a.put N v) w') : wpList P ops Q (oi :: rest) a w := by
  refine wpList_plain hg fun K hK => ?_
  obtain ⟨v, hrun, v', he, hk⟩ := h
  cases he
  unfold Oper.wp
  have h1 : (execOp a.eval oi).run P w = .ok (.value v) w := by
    unfold execOp
    simp [hop, resolve, Deferred.ofValue, invoke, Act.eval, hargs, hrun]
  rw [h1]
  subst hd
  exact hK _ _ hk

/-- The model's entry for Sub64, under a name. -/
def subEntry : Array Value → Sem Value := fun args => do
  let (x, y, b) ← Extern.MathBitsCarry.three "Sub64" args
  pure (Extern.MathBitsCarry.pair ((x + Extern.MathBitsCarry.m64 - y - b) % Extern.MathBitsCarry.m64) (if x < y + b then 1 else 0))
theorem run_sub {P : Program} (x y b : Nat) (hb : b ≤ 1) (w : World) :
    (subEntry #[.int .u64 x, .int .u64 y, .int .u64 b]).run P w =
      .ok (.tuple #[.int .u64 (((x + 18446744073709551616 - y - b) % 18446744073709551616 : Nat) : Int), .int .u64 ((if x < y + b then 1 else 0 : Nat) : Int)]) w := by
  have : b = 0 ∨ b = 1 := by omega
  rcases this with rfl | rfl <;> rfl

/-- Add64 of words, the carry 0 or 1. -/
def addF (x y c : Int) : Option (Int × Int) :=
  if 0 ≤ x ∧ 0 ≤ y ∧ 0 ≤ c ∧ c ≤ 1 then some ((x + y + c) % 18446744073709551616, (x + y + c) / 18446744073709551616) else none
/-- Sub64 of words, the borrow 0 or 1. -/
def subF (x y b : Int) : Option (Int × Int) :=
  if 0 ≤ x ∧ x < 18446744073709551616 ∧ 0 ≤ y ∧ y < 18446744073709551616 ∧ 0 ≤ b ∧ b ≤ 1 then some ((x - y - b) % 18446744073709551616, if x < y + b then 1 else 0) else none
theorem callsX_add {P : Program} {f : FuncId} {fn : Func} (hf : P.funcs[f]? = some fn) (hname : (fn.name == "runtime.NumGoroutine") = false) (hb : fn.body.isNone = true) (hn : Extern.findNext fn = none) (he : Extern.find fn = some add64Entry)
    (x y c r1 r2 : Int) (w : World) (h : addF x y c = some (r1, r2)) : CallsX P f #[.int .u64 x, .int .u64 y, .int .u64 c] w fun e w' => e = .returned (.tuple #[.int .u64 r1, .int .u64 r2]) ∧ ∃ n, w' = w.drewN n := by
  unfold addF at h
  split at h
  · rename_i hc
    obtain ⟨h1, h2, h3, h4⟩ := hc
    simp only [Option.some.injEq, Prod.mk.injEq] at h
    obtain ⟨rfl, rfl⟩ := h
    refine ⟨_, ?_, rfl, 0, rfl⟩
    rw [run_callFunc_extern hf hname hb hn he, run_add64 x y c h1 h2 h3 h4]
    rfl
  · cases h
theorem callsX_sub {P : Program} {f : FuncId} {fn : Func} (hf : P.funcs[f]? = some fn) (hname : (fn.name == "runtime.NumGoroutine") = false) (hb : fn.body.isNone = true) (hn : Extern.findNext fn = none) (he : Extern.find fn = some subEntry)
    (x y c r1 r2 : Int) (w : World) (h : subF x y c = some (r1, r2)) : CallsX P f #[.int .u64 x, .int .u64 y, .int .u64 c] w fun e w' => e = .returned (.tuple #[.int .u64 r1, .int .u64 r2]) ∧ ∃ n, w' = w.drewN n := by
  unfold subF at h
  split at h
  · rename_i hc
    obtain ⟨h1, h2, h3, h4, h5, h6⟩ := hc
    simp only [Option.some.injEq, Prod.mk.injEq] at h
    obtain ⟨rfl, rfl⟩ := h
    obtain ⟨x, rfl⟩ := Int.eq_ofNat_of_zero_le h1
    obtain ⟨y, rfl⟩ := Int.eq_ofNat_of_zero_le h3
    obtain ⟨c, rfl⟩ := Int.eq_ofNat_of_zero_le h5
    have e1 : (((x + 18446744073709551616 - y - c) % 18446744073709551616 : Nat) : Int) = ((x : Int) - y - c) % 18446744073709551616 := by omega
    have e2 : ((if x < y + c then 1 else 0 : Nat) : Int) = if (x : Int) < y + c then 1 else 0 := by split <;> split <;> omega
    refine ⟨_, ?_, rfl, 0, rfl⟩
    rw [← e1, ← e2, run_callFunc_extern hf hname hb hn he, run_sub x y c (by omega)]
    rfl
  · cases h
end Go.Proofs.YthhlnghpbjmfpaaDoor.Extern
