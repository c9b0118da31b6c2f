/- strconv.FormatUint at base 16: the number's digits from the highest one that is not 0. Premise: the library's table deBruijn64tab holds what it is laid as. -/
import Derived.Test.YtbgeejmhkmjfdaaGreatDoorProg
import Derived.Test.YtbgeejmhkmjfdaaGreatDoorAbNum
import Derived.WalkKit
import Derived.Lib.Walk
import Derived.Lib.ItoaMem
import Derived.Deep.Draws
import Derived.Below
import Derived.Deep.RegionHeld
namespace Go.Proofs.YtbgeejmhkmjfdaaGreatDoor.Hex
open Go.RowKit Go.Sort Go.Lib Go.Proofs.YtbgeejmhkmjfdaaGreatDoor.Ln
set_option linter.unusedSimpArgs false
set_option linter.unusedVariables false
set_option maxRecDepth 100000 in
theorem tz64_16 (w : World) (hc : w.cell? ⟨9, 15, none⟩ = some (.int .u8 4)) :
    Calls Tryz.prog 157 #[.int .u64 16] w fun e w' => e = .returned (.int .i64 4) ∧ w' = w := by
  have hI : IntKind.u64.wrap (bits .and .u64 16 (IntKind.u64.wrap (-16)) * 285870213051353865) / 288230376151711744 = 15 := by decide +kernel
  have hc' : w.cell? ⟨9, (IntKind.u64.wrap (bits .and .u64 16 (IntKind.u64.wrap (-16)) * 285870213051353865) / 288230376151711744).toNat, none⟩ = some (.int .u8 4) := by rw [hI]; exact hc
  go_enter Tryz.func157, Tryz.ntmps157
  go_wp2
  all_goals first
    | (exfalso; rename_i h; rw [hI] at h; revert h; decide)
    | (go_ret; exact ⟨rfl, rfl⟩)
theorem tz_16 (w : World) (hc : w.cell? ⟨9, 15, none⟩ = some (.int .u8 4)) :
    Calls Tryz.prog 138 #[.int .u64 16] w fun e w' => e = .returned (.int .i64 4) ∧ w' = w := by
  go_enter Tryz.func138, Tryz.ntmps138
  go_wp2_with (first | (go_at_call 157; refine (tz64_16 _ hc).mono ?_; rintro e w' ⟨rfl, rfl⟩))
  go_ret
  exact ⟨rfl, rfl⟩
theorem zeros65_at (i : Nat) (h : i < 65) : Tryz.zeroCells198[i]? = some (.int .u8 0) := by
  have e : Tryz.zeroCells198 = Array.replicate 65 (.int .u8 0) := by kernel_rfl
  rw [e, Array.getElem?_replicate, if_pos h]
abbrev bv : UInt8 → Value := fun b => Value.int .u8 (b.toNat : Int)
theorem holds65 (w : World) (T : TypeId) : Holds bv (w.alloc (.cells Tryz.zeroCells198 T)) w.heap.size 0 (Array.replicate 65 (0 : UInt8)) := fun j hj => by
  have hj' : j < 65 := by simpa using hj
  refine ⟨?_, World.frozen?_alloc_new _ _ _ _⟩
  rw [World.cell?_alloc_new, zeros65_at _ (by omega), getElem!_pos _ j hj]
  simp
def digs : ByteArray := ⟨#[48, 49, 50, 51, 52, 53, 54, 55, 56, 57, 97, 98, 99, 100, 101, 102, 103, 104, 105, 106, 107, 108, 109, 110, 111, 112, 113, 114, 115, 116, 117, 118, 119, 120, 121, 122]⟩
def hx (d : Nat) : UInt8 := digs.data.toList.getD d 0
theorem digs_at (t : TypeId) {P : Program} (ht : P.underlying t = some .string) (k : IntKind) (z : Int) (i : Nat) (hz : z = (i : Int)) (hi : i < 36) (w : World) :
    (Instr.index t (.string digs) (.int k z)).run P w = .ok (.int .u8 ((hx i).toNat : Int)) w := by
  subst hz
  rw [run_index_string w t digs k _ ht, dif_pos ⟨by omega, by show (i : Int) < (36 : Nat); omega⟩]
  have e : ((i : Int)).toNat = i := by omega
  simp only [e]
  have hd : digs[i] = hx i := Lib.getD_at digs i hi
  exact congrArg (fun b : UInt8 => Result.ok (Value.int IntKind.u8 (b.toNat : Int)) w) hd
structure HexInv (u j : Nat) (dk : Array UInt8) : Prop where
  size : dk.size = 65
  done : ∀ t, t < j → dk[64 - t]! = hx (u / 16 ^ t % 16)
theorem pow_16 (w : World) : Calls Tryz.prog 137 #[.int .i64 16] w fun e w' => e = .returned (.bool true) ∧ w' = w := by
  go_enter Tryz.func137, Tryz.ntmps137
  go_wp2
  go_ret
  exact ⟨congrArg (fun b => Ending.returned (Value.bool b)) (by decide +kernel : (bits .and .i64 16 15 == 0) = true), rfl⟩
theorem HexInv.step {u j v m : Nat} {dk : Array UInt8} (h : HexInv u j dk) (hv : v = u / 16 ^ j) (hm : m + 1 + j = 65) : HexInv u (j + 1) (dk.setIfInBounds m (hx (v % 16))) := by
  refine ⟨by simpa using h.size, fun t ht => ?_⟩
  have hs := h.size
  rw [getElem!_pos _ _ (by simp; omega), Array.getElem_setIfInBounds (by omega)]
  by_cases e : t = j
  · subst e
    rw [if_pos (by omega), hv]
  · rw [if_neg (by omega), ← getElem!_pos _ _ (by omega)]
    exact h.done t (by omega)
def hexL (u : Nat) : List UInt8 := if u < 16 then [hx u] else hexL (u / 16) ++ [hx (u % 16)]
def hexD (u k : Nat) : List UInt8 := (List.range k).map fun t => hx (u / 16 ^ (k - 1 - t) % 16)
theorem hexD_length (u k : Nat) : (hexD u k).length = k := by simp [hexD]
theorem hexL_eq : ∀ (j u : Nat), u / 16 ^ j < 16 → (j = 0 ∨ 16 ^ j ≤ u) → hexL u = hexD u (j + 1) := by
  intro j
  induction j with
  | zero =>
    intro u h _
    rw [Nat.pow_zero, Nat.div_one] at h
    rw [hexL, if_pos h]
    simp [hexD, List.range_succ, Nat.mod_eq_of_lt h]
  | succ j ih =>
    intro u h hj
    have hp : 16 ^ (j + 1) = 16 * 16 ^ j := by rw [Nat.pow_succ, Nat.mul_comm]
    have h1 : 16 ^ (j + 1) ≤ u := by omega
    have h0 := Nat.two_pow_pos (4 * j)
    rw [Nat.pow_mul] at h0
    have h16 : 16 ≤ u := by have : 0 < 16 ^ j := h0; omega
    have hd : ∀ i, u / 16 ^ (i + 1) = u / 16 / 16 ^ i := fun i => by rw [Nat.pow_succ, Nat.mul_comm, Nat.div_div_eq_div_mul]
    rw [hexL, if_neg (by omega), ih (u / 16) (by rw [← hd]; exact h) (Or.inr (by rw [Nat.le_div_iff_mul_le (by decide), Nat.mul_comm]; omega))]
    unfold hexD
    rw [List.range_succ (n := j + 1), List.map_append, List.map_singleton]
    congr 1
    · refine List.map_congr_left fun t ht => ?_
      rw [List.mem_range] at ht
      rw [show j + 1 + 1 - 1 - t = (j + 1 - 1 - t) + 1 from by omega, hd]
    · simp
theorem below_grow {w : World} (n : Nat) (os : Array Obj) : Below w.heap.size w (grow (w.drewN n) os) := by
  refine ⟨rfl, rfl, rfl, ?_, fun k hk => ?_⟩
  · simp [grow]
  · rw [heap_grow_old _ _ (by simpa using hk)]
    rfl
set_option maxHeartbeats 6400000 in
set_option maxRecDepth 100000 in
theorem formatBits_16 (u : Nat) (hu : u < 18446744073709551616) (w : World) (hc : w.cell? ⟨9, 15, none⟩ = some (.int .u8 4)) :
    Calls Tryz.prog 103 #[.slice none 0 0, .int .u64 u, .int .i64 16, .bool false, .bool false] w fun e w' => e = .returned (.tuple #[.slice none 0 0, .string ⟨(hexL u).toArray⟩]) ∧ Below w.heap.size w w' := by
  have h0 := holds65 w 198
  have hc1 : ∀ o, (w.alloc o).cell? ⟨9, 15, none⟩ = some (.int .u8 4) := fun o => by rw [World.cell?_alloc_some _ _ _ (by rw [hc]; rfl)]; exact hc
  have AH := Lib.hid h0
  clear h0
  go_enter Tryz.func103, Tryz.ntmps103
  go_name_bytes MSG hMSG
  clear hMSG
  go_name_bytes DG hDG
  have eDG : DG = digs := by rw [← hDG]; decide +kernel
  subst eDG
  clear hDG
  go_wp2_with (first | (go_at_call 138; refine (tz_16 _ (hc1 _)).mono ?_; rintro e w' ⟨rfl, rfl⟩) | (go_at_call 137; refine (pow_16 _).mono ?_; rintro e w' ⟨rfl, rfl⟩))
  clear hc hc1
  go_loopw [1, 13] (fun vu vi wr => ∃ (j i n : Nat) (dk : Array UInt8), i + j = 65 ∧ j < 16 ∧ (j = 0 ∨ 16 ^ j ≤ u) ∧ vu = .int .u64 ((u / 16 ^ j : Nat) : Int) ∧ vi = .int .i64 (i : Int) ∧ wr = (putRow bv (w.alloc (.cells Tryz.zeroCells198 198)) w.heap.size 0 dk).drewN n ∧ Hid (HexInv u j dk)) (fun _ vi _ => (RowKit.intOf vi).toNat)
  case atStart => exact ⟨0, 65, 0, Array.replicate 65 0, rfl, by omega, Or.inl rfl, by simp, rfl, (putRow_self _ _ _ _ _ AH.out).symm, ⟨by simp, fun t ht => absurd ht (by omega)⟩⟩
  case round =>
    obtain ⟨j, i, n, dk, hij, hj, hju, rfl, rfl, hw0, HI⟩ := hrel
    obtain ⟨m, rfl⟩ : ∃ m, i = m + 1 := ⟨i - 1, by omega⟩
    rename World => W0
    obtain ⟨v, hv⟩ : ∃ v, v = u / 16 ^ j := ⟨_, rfl⟩
    rw [← hv]
    have hv64 : v < 18446744073709551616 := by rw [hv]; exact Nat.lt_of_le_of_lt (Nat.div_le_self _ _) hu
    have hs0 := HI.out.size
    have hH0 : Holds bv W0 w.heap.size 0 dk := by rw [hw0]; exact holds_putRow _ _ w.heap.size 0 _ dk AH.out (by rw [hs0]; simp)
    obtain ⟨G0, hG0⟩ : ∃ G : Int, G = (dk[m]!.toNat : Int) := ⟨_, rfl⟩
    have hc0 : W0.cell? ⟨w.heap.size, m, none⟩ = some (.int .u8 G0) := by rw [hG0]; have := (hH0 m (by omega)).1; rwa [Nat.zero_add] at this
    have hf0 : W0.frozen? ⟨w.heap.size, m, none⟩ = false := by have := (hH0 m (by omega)).2; rwa [Nat.zero_add] at this
    have AW0 := Lib.hid hw0
    have AHv := Lib.hid hv
    by_cases h16 : 16 ≤ v
    · have hb : bits .and .u64 (v : Int) 15 = ((v % 16 : Nat) : Int) := by
        have h := and_nat (a := v) (b := 15) (by omega) (by omega)
        rw [Nat.and_two_pow_sub_one_eq_mod v 4] at h
        exact h
      have hXa : ∀ w, (Instr.index 9 (.string digs) (.int .u64 (bits .and .u64 (v : Int) 15))).run Tryz.prog w = .ok (.int .u8 ((hx (v % 16)).toNat : Int)) w := digs_at _ Tryz.underlying9 _ _ _ hb (by omega)
      obtain ⟨X, hXv⟩ : ∃ X : Nat, X = (hx (v % 16)).toNat := ⟨_, rfl⟩
      rw [← hXv] at hXa
      have AX := Lib.hid hXv
      clear hw0 hG0 hH0 hv hb hXv
      go_wp2
      have hge : 16 ^ (j + 1) ≤ u := by
        rw [AHv.out, Nat.le_div_iff_mul_le (Nat.pow_pos (by decide))] at h16
        rw [Nat.pow_succ, Nat.mul_comm]; exact h16
      refine ⟨⟨j + 1, m, n, dk.setIfInBounds m (hx (v % 16)), by omega, ?_, Or.inr hge, ?_, rfl, ?_, ?_⟩, ?_⟩
      · rcases Nat.lt_or_ge (j + 1) 16 with h | h
        · exact h
        · exfalso
          obtain rfl : j = 15 := by omega
          omega
      · rw [AHv.out, Nat.pow_succ, ← Nat.div_div_eq_div_mul]
        rfl
      · have e := Lib.store1_world (w.alloc (.cells Tryz.zeroCells198 198)) w.heap.size 0 dk n m (hx (v % 16)) (by omega)
        rw [Nat.zero_add] at e
        rw [AX.out, AW0.out]
        exact e
      · exact HexInv.step HI.out AHv.out (by omega)
      · simp [RowKit.intOf]
    · have hXa : ∀ w, (Instr.index 9 (.string digs) (.int .u64 (v : Int))).run Tryz.prog w = .ok (.int .u8 ((hx v).toNat : Int)) w := digs_at _ Tryz.underlying9 _ _ _ rfl (by omega)
      obtain ⟨X, hXv⟩ : ∃ X : Nat, X = (hx v).toNat := ⟨_, rfl⟩
      rw [← hXv] at hXa
      have AX := Lib.hid hXv
      have hsl : ∀ W, (Instr.sliceAt 198 (.pointer (some ⟨w.heap.size, 0, none⟩)) (some (.int .i64 (m : Int))) none none).run Tryz.prog W = .ok (.slice (some ⟨w.heap.size, m, none⟩) (65 - m) (65 - m)) W := fun W => by
        have hal : Tryz.prog.arrayLen 198 = 65 := by simp [Program.arrayLen, Tryz.underlying198]
        rw [run_sliceAt_array_l W 198 ⟨w.heap.size, 0, none⟩ (by simp [Program.arrayLen, Program.elem, Tryz.underlying198]) .i64 (m : Int) (by omega) (by rw [hal]; omega), hal]
        go_simp
        omega
      have hstep : HexInv u (j + 1) (dk.setIfInBounds m (hx v)) := by
        have := HexInv.step HI.out AHv.out (by omega : m + 1 + j = 65)
        rwa [Nat.mod_eq_of_lt (by omega)] at this
      have hW1 : W0.setCell ⟨w.heap.size, m, none⟩ (.int .u8 (X : Int)) = (putRow bv (w.alloc (.cells Tryz.zeroCells198 198)) w.heap.size 0 (dk.setIfInBounds m (hx v))).drewN n := by
        have e := Lib.store1_world (w.alloc (.cells Tryz.zeroCells198 198)) w.heap.size 0 dk n m (hx v) (by omega)
        rw [Nat.zero_add] at e
        rw [hXv, AW0.out]
        exact e
      have hcv : (convert 125 9 (.slice (some ⟨w.heap.size, m, none⟩) (65 - m) (65 - m))).run Tryz.prog (W0.setCell ⟨w.heap.size, m, none⟩ (.int .u8 (X : Int))) = .ok (.string ⟨(hexL u).toArray⟩) (W0.setCell ⟨w.heap.size, m, none⟩ (.int .u8 (X : Int))) := by
        have h := run_convert_bytes_back (P := Tryz.prog) (W0.setCell ⟨w.heap.size, m, none⟩ (.int .u8 (X : Int))) 125 9 5 ⟨w.heap.size, m, none⟩ (65 - m) (hexL u) Tryz.underlying125 Tryz.underlying5 Tryz.underlying9 (fun t ht => by
          have hL := hexL_eq j u (by rw [← AHv.out]; omega) hju
          have ht' : t < j + 1 := by rw [hL, hexD_length] at ht; exact ht
          have e1 := cell?_putRow bv (w.alloc (.cells Tryz.zeroCells198 198)) w.heap.size 0 _ (dk.setIfInBounds m (hx v)) AH.out (by rw [hstep.size]; simp) (m + t) (by rw [hstep.size]; omega)
          rw [Nat.zero_add] at e1
          rw [Lib.add_plain, hW1, World.cell?_drewN, e1]
          have e2 := hstep.done (j - t) (by omega)
          rw [show 64 - (j - t) = m + t from by omega] at e2
          rw [e2]
          have e3 : (hexL u)[t] = hx (u / 16 ^ (j - t) % 16) := by
            simp only [hL, hexD, List.getElem_map, List.getElem_range]
            rfl
          rw [e3])
        have hlen : (hexL u).length = 65 - m := by rw [hexL_eq j u (by rw [← AHv.out]; omega) hju, hexD_length]; omega
        rw [hlen] at h
        exact h
      have HW1 := Lib.hid hW1
      clear hw0 hG0 hH0 hv hXv hW1 hstep
      go_wp2
      go_ret2
      refine ⟨rfl, ?_⟩
      obtain ⟨os', _, e⟩ := putRow_grow_new bv w #[.cells Tryz.zeroCells198 198] w.heap.size 0 (dk.setIfInBounds m (hx v)) (Nat.le_refl _)
      rw [HW1.out, alloc_eq_grow, e]
      exact below_grow n os'
theorem FormatUint_16i (u : Nat) (hu : u < 18446744073709551616) (w : World) (hc : w.cell? ⟨9, 15, none⟩ = some (.int .u8 4)) :
    Calls Tryz.prog 62 #[.int .u64 u, .int .i64 16] w fun e w' => e = .returned (.string ⟨(hexL u).toArray⟩) ∧ Below w.heap.size w w' := by
  go_enter Tryz.func62, Tryz.ntmps62
  go_wp2_with (first | (go_at_call 103; refine (formatBits_16 u hu _ hc).mono ?_; rintro e w' ⟨rfl, hb⟩))
  go_ret
  exact ⟨rfl, hb⟩
theorem FormatUint_16 (u : Nat) (hu : u < 18446744073709551616) (w : World) (hc : w.cell? ⟨9, 15, none⟩ = some (.int .u8 4)) :
    Calls Tryz.prog 38 #[.int .u64 u, .int .i64 16] w fun e w' => e = .returned (.string ⟨(hexL u).toArray⟩) ∧ Below w.heap.size w w' := by
  go_enter Tryz.func38, Tryz.ntmps38
  go_wp2_with (first | (go_at_call 62; refine (FormatUint_16i u hu _ hc).mono ?_; rintro e w' ⟨rfl, hb⟩))
  go_ret
  exact ⟨rfl, hb⟩
end Go.Proofs.YtbgeejmhkmjfdaaGreatDoor.Hex
