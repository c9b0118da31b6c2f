/- Short forms of what the printed walks say of worlds at each call. No program. -/
import Derived.Test.YthhlnghpbjmfpaaDoorWMore
import Derived.Test.YthhlnghpbjmfpaaDoorProg
import Derived.Lib.LaidTab
import Derived.Lib.Itoa
import Derived.Lib.ItoaNum
namespace Go.Proofs.YthhlnghpbjmfpaaDoor.Press
open Go.RowKit Go.Proofs.YthhlnghpbjmfpaaDoorW.PrintWords
/-- So many truths, told by a number's bits. -/
def ba (n k : Nat) : Array Bool := ((List.range n).map fun i => k.testBit i).toArray
/-- w' is w, but for draws and new blocks. -/
class Later (w w' : World) : Prop where
  blk : ∀ (g : Nat) (o : Obj), w.heap[g]? = some o → w'.heap[g]? = some o
  bel : ∀ a : World, Below a.heap.size a w → Below a.heap.size a w'
variable {w w' u v a : World} {g : Nat} {o : Obj}
instance : Later w w := ⟨fun _ _ h => h, fun _ h => h⟩
instance [h : Later w w'] : Later w w'.drew := ⟨fun g o e => blk_drew (h.blk g o e), fun a e => (h.bel a e).drew⟩
instance {n : Nat} [h : Later w w'] : Later w (w'.drewN n) := ⟨fun g o e => blk_drewN (h.blk g o e) _, fun a e => pw_below_drewN (h.bel a e) _⟩
instance {o : Obj} [h : Later w w'] : Later w (w'.alloc o) := ⟨fun g o e => blk_alloc (h.blk g o e) _, fun a e => (h.bel a e).alloc (h.bel a e).size _⟩
theorem bl (h : Aside0 (u.heap[g]? = some o)) [l : Later u w] : w.heap[g]? = some o := l.blk _ _ h.out
theorem bb (h : Aside0 (u.heap[g]? = some o)) [l : Later u w] (hb : Below w.heap.size w w') : Aside0 (w'.heap[g]? = some o) := ⟨blk_below (l.blk _ _ h.out) hb⟩
theorem bs (h : Aside0 (Below a.heap.size a u)) [l : Later u w] (hb : Below w.heap.size w w') : Aside0 (Below a.heap.size a w') := ⟨below_step (l.bel a h.out) hb⟩
theorem be (h : Aside0 (Below a.heap.size a u)) [l : Later u w] : Below a.heap.size a w := l.bel a h.out
/-- The tables of the library that are read: what they are laid as. -/
structure Tabs (w : World) : Prop where
  bruijn : w.cell? ⟨5, 15, none⟩ = some (.int .u8 4)
  pow : Lib.TabIs Tryd.prog w "internal/strconv.uint64pow10" .u64 Lib.pow10Tab
theorem Tabs.below (h : Tabs a) (hb : Below a.heap.size a w) : Tabs w := by
  have h1 : 5 < a.heap.size := by
    have := h.bruijn
    unfold World.cell? at this
    rcases Nat.lt_or_ge 5 a.heap.size with g | g
    · exact g
    · simp [Array.getElem?_eq_none g] at this
  refine ⟨(hb.cell h1).trans h.bruijn, ?_⟩
  have h2 := h.pow
  unfold Lib.TabIs World.var? at *
  cases hg : Tryd.prog.globalNamed "internal/strconv.uint64pow10" with
  | none => simp [hg] at h2
  | some g =>
    simp only [hg, Option.bind_some] at h2 ⊢
    have h3 : g < a.heap.size := by
      rcases Nat.lt_or_ge g a.heap.size with g' | g'
      · exact g'
      · simp [Array.getElem?_eq_none g'] at h2
    rw [hb.block g h3]
    exact h2
theorem tabs (h : Aside0 (Tabs a)) (hb : Aside0 (Below a.heap.size a u)) [l : Later u w] : Tabs w := h.out.below (l.bel a hb.out)
end Go.Proofs.YthhlnghpbjmfpaaDoor.Press
