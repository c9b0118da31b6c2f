/- Three variables of one struct type that a call has laid: what is known of them while other calls run; plain facts on worlds. -/
import Derived.Test.YthhlnghpbjmfpaaDoorWMore
import Derived.WalkKit
namespace Go.Proofs.YthhlnghpbjmfpaaDoor.Three
open Go.RowKit Go.Proofs.YthhlnghpbjmfpaaDoorW.PrintWords Go.Proofs.YthhlnghpbjmfpaaDoorW.PrintLast Go.Proofs.YthhlnghpbjmfpaaDoorW.PrintMore

/-- The three blocks laid behind w hold A, B, Z; below, all is as it was. -/
structure St (t : TypeId) (w W : World) (A B Z : Array Value) : Prop where
  a : W.heap[w.heap.size]? = some (.cells A t (0, 0))
  b : W.heap[w.heap.size + 1]? = some (.cells B t (0, 0))
  z : W.heap[w.heap.size + 1 + 1]? = some (.cells Z t (0, 0))
  low : Below w.heap.size w W

theorem St.made (t : TypeId) (w : World) (A B Z : Array Value) : St t w (((w.alloc (.cells A t)).alloc (.cells B t)).alloc (.cells Z t)) A B Z := by
  have h1 := heap_alloc_new w (.cells A t)
  have h2 := heap_alloc_new (w.alloc (.cells A t)) (.cells B t)
  have h3 := heap_alloc_new ((w.alloc (.cells A t)).alloc (.cells B t)) (.cells Z t)
  have b0 := below_alloc (Below.refl w.heap.size w) (.cells A t)
  have b1 := Below.refl (w.alloc (.cells A t)).heap.size (w.alloc (.cells A t))
  have b2 := Below.refl ((w.alloc (.cells A t)).alloc (.cells B t)).heap.size ((w.alloc (.cells A t)).alloc (.cells B t))
  refine ⟨?_, ?_, ?_, below_alloc (below_alloc b0 _) _⟩
  · exact blk_below (blk_below h1 (below_alloc b1 _)) (below_alloc b2 _)
  · have h2' := blk_below h2 (below_alloc b2 (.cells Z t))
    simpa using h2'
  · simpa using h3
variable {t : TypeId} {w W W1 : World} {A B Z : Array Value}
theorem St.below (h : St t w W A B Z) (hb : Below W.heap.size W W1) : St t w W1 A B Z :=
  ⟨blk_below h.a hb, blk_below h.b hb, blk_below h.z hb, below_step h.low hb⟩
theorem St.ca (h : St t w W A B Z) (i : Nat) : W.cell? ⟨w.heap.size, i, none⟩ = A[i]? := blk_cell h.a i
theorem St.cb (h : St t w W A B Z) (i : Nat) : W.cell? ⟨w.heap.size + 1, i, none⟩ = B[i]? := blk_cell h.b i
theorem St.cz (h : St t w W A B Z) (i : Nat) : W.cell? ⟨w.heap.size + 1 + 1, i, none⟩ = Z[i]? := blk_cell h.z i
theorem St.fa (h : St t w W A B Z) (i : Nat) : W.frozen? ⟨w.heap.size, i, none⟩ = false := blk_frozen h.a i
theorem St.fb (h : St t w W A B Z) (i : Nat) : W.frozen? ⟨w.heap.size + 1, i, none⟩ = false := blk_frozen h.b i
theorem St.fz (h : St t w W A B Z) (i : Nat) : W.frozen? ⟨w.heap.size + 1 + 1, i, none⟩ = false := blk_frozen h.z i
theorem St.lt (h : St t w W A B Z) : w.heap.size + 1 + 1 < W.heap.size := blk_lt h.z
/-- A call that may have turned one later block. -/
theorem St.keep (h : St t w W A B Z) {g : Nat} (hk : KeepBut W W1 g none) (hb : Below w.heap.size w W1) (hg : w.heap.size + 1 + 1 < g) : St t w W1 A B Z :=
  ⟨(hk.2 _ (blk_lt h.a) (by omega) (by simp)).trans h.a, (hk.2 _ (blk_lt h.b) (by omega) (by simp)).trans h.b, (hk.2 _ (blk_lt h.z) (by omega) (by simp)).trans h.z, hb⟩
theorem St.alloc (h : St t w W A B Z) (o : Obj) : St t w (W.alloc o) A B Z := h.below (below_alloc (Below.refl _ _) o)
/-- The third one is written whole. -/
theorem St.setZ (h : St t w W A B Z) (hZ : Z.size = 3) (x y z : Value) : St t w (((W.setCell ⟨w.heap.size + 1 + 1, 0, none⟩ x).setCell ⟨w.heap.size + 1 + 1, 1, none⟩ y).setCell ⟨w.heap.size + 1 + 1, 2, none⟩ z) A B #[x, y, z] := by
  have e : ((Z.setIfInBounds 0 x).setIfInBounds 1 y).setIfInBounds 2 z = #[x, y, z] := by
    match Z, hZ with
    | ⟨[p, q, r]⟩, _ => rfl
  refine ⟨?_, ?_, blk_put (blk_put (blk_put h.z 0 x rfl) 1 y rfl) 2 z e, below_set (below_set (below_set h.low (by omega)) (by omega)) (by omega)⟩
  · exact blk_far (blk_far (blk_far h.a (by simp <;> omega) _) (by simp <;> omega) _) (by simp <;> omega) _
  · exact blk_far (blk_far (blk_far h.b (by simp <;> omega) _) (by simp <;> omega) _) (by simp <;> omega) _
/-- The first one is. -/
theorem St.setA (h : St t w W A B Z) (hA : A.size = 3) (x y z : Value) : St t w (((W.setCell ⟨w.heap.size, 0, none⟩ x).setCell ⟨w.heap.size, 1, none⟩ y).setCell ⟨w.heap.size, 2, none⟩ z) #[x, y, z] B Z := by
  have e : ((A.setIfInBounds 0 x).setIfInBounds 1 y).setIfInBounds 2 z = #[x, y, z] := by
    match A, hA with
    | ⟨[p, q, r]⟩, _ => rfl
  refine ⟨blk_put (blk_put (blk_put h.a 0 x rfl) 1 y rfl) 2 z e, ?_, ?_, below_set (below_set (below_set h.low (by omega)) (by omega)) (by omega)⟩
  · exact blk_far (blk_far (blk_far h.b (by simp <;> omega) _) (by simp <;> omega) _) (by simp <;> omega) _
  · exact blk_far (blk_far (blk_far h.z (by simp <;> omega) _) (by simp <;> omega) _) (by simp <;> omega) _
end Go.Proofs.YthhlnghpbjmfpaaDoor.Three
