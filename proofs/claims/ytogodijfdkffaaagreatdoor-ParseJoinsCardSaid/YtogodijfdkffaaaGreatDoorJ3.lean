/- Parts of the walk, joined. -/
import Derived.Test.YtogodijfdkffaaaGreatDoorProg
import Derived.Test.YtogodijfdkffaaaGreatDoorJ2
import Derived.WalkKit
import Derived.Lib.Walk
import Derived.Lib.ItoaMem
import Derived.Deep.Draws
import Derived.Below
import Derived.Deep.RegionHeld
import Derived.Lib.AppendIntMem
import Derived.Lib.LaidTab
import Derived.Laws.Strings
import Derived.IntWalk
import Derived.Laws.RangeString
set_option linter.unusedVariables false
set_option linter.unusedSimpArgs false
set_option maxRecDepth 100000
/- strconv.FormatUint at base 16: the number's digits from the highest one that is not 0. Premise: the library's table deBruijn64tab holds what it is laid as. -/
namespace Go.Proofs.YtogodijfdkffaaaGreatDoor.Hex
open Go.RowKit Go.Sort Go.Lib Go.Proofs.YtogodijfdkffaaaGreatDoor.Ln
theorem tz64_16 (w : World) (hc : w.cell? ⟨9, 15, none⟩ = some (.int .u8 4)) :
    Calls Tryz.prog 230 #[.int .u64 16] w fun e w' => e = .returned (.int .i64 4) ∧ w' = w := by
  have hI : IntKind.u64.wrap (bits .and .u64 16 (IntKind.u64.wrap (-16)) * 285870213051353865) / 288230376151711744 = 15 := by decide +kernel
  have hc' : w.cell? ⟨9, (IntKind.u64.wrap (bits .and .u64 16 (IntKind.u64.wrap (-16)) * 285870213051353865) / 288230376151711744).toNat, none⟩ = some (.int .u8 4) := by rw [hI]; exact hc
  go_enter Tryz.func230, Tryz.ntmps230
  go_wp2
  all_goals first
    | (exfalso; rename_i h; rw [hI] at h; revert h; decide)
    | (go_ret; exact ⟨rfl, rfl⟩)
theorem tz_16 (w : World) (hc : w.cell? ⟨9, 15, none⟩ = some (.int .u8 4)) :
    Calls Tryz.prog 205 #[.int .u64 16] w fun e w' => e = .returned (.int .i64 4) ∧ w' = w := by
  go_enter Tryz.func205, Tryz.ntmps205
  go_wp2_with (first | (go_at_call 230; refine (tz64_16 _ hc).mono ?_; rintro e w' ⟨rfl, rfl⟩))
  go_ret
  exact ⟨rfl, rfl⟩
theorem zeros65_at (i : Nat) (h : i < 65) : Tryz.zeroCells253[i]? = some (.int .u8 0) := by
  have e : Tryz.zeroCells253 = Array.replicate 65 (.int .u8 0) := by kernel_rfl
  rw [e, Array.getElem?_replicate, if_pos h]
abbrev bv : UInt8 → Value := fun b => Value.int .u8 (b.toNat : Int)
theorem holds65 (w : World) (T : TypeId) : Holds bv (w.alloc (.cells Tryz.zeroCells253 T)) w.heap.size 0 (Array.replicate 65 (0 : UInt8)) := fun j hj => by
  have hj' : j < 65 := by simpa using hj
  refine ⟨?_, World.frozen?_alloc_new _ _ _ _⟩
  rw [World.cell?_alloc_new, zeros65_at _ (by omega), getElem!_pos _ j hj]
  simp
def digs : ByteArray := ⟨#[48, 49, 50, 51, 52, 53, 54, 55, 56, 57, 97, 98, 99, 100, 101, 102, 103, 104, 105, 106, 107, 108, 109, 110, 111, 112, 113, 114, 115, 116, 117, 118, 119, 120, 121, 122]⟩
def hx (d : Nat) : UInt8 := digs.data.toList.getD d 0
theorem digs_at (t : TypeId) {P : Program} (ht : P.underlying t = some .string) (k : IntKind) (z : Int) (i : Nat) (hz : z = (i : Int)) (hi : i < 36) (w : World) :
    (Instr.index t (.string digs) (.int k z)).run P w = .ok (.int .u8 ((hx i).toNat : Int)) w := by
  subst hz
  rw [run_index_string w t digs k _ ht, dif_pos ⟨by omega, by show (i : Int) < (36 : Nat); omega⟩]
  have e : ((i : Int)).toNat = i := by omega
  simp only [e]
  have hd : digs[i] = hx i := Lib.getD_at digs i hi
  exact congrArg (fun b : UInt8 => Result.ok (Value.int IntKind.u8 (b.toNat : Int)) w) hd
structure HexInv (u j : Nat) (dk : Array UInt8) : Prop where
  size : dk.size = 65
  done : ∀ t, t < j → dk[64 - t]! = hx (u / 16 ^ t % 16)
theorem pow_16 (w : World) : Calls Tryz.prog 204 #[.int .i64 16] w fun e w' => e = .returned (.bool true) ∧ w' = w := by
  go_enter Tryz.func204, Tryz.ntmps204
  go_wp2
  go_ret
  exact ⟨congrArg (fun b => Ending.returned (Value.bool b)) (by decide +kernel : (bits .and .i64 16 15 == 0) = true), rfl⟩
theorem HexInv.step {u j v m : Nat} {dk : Array UInt8} (h : HexInv u j dk) (hv : v = u / 16 ^ j) (hm : m + 1 + j = 65) : HexInv u (j + 1) (dk.setIfInBounds m (hx (v % 16))) := by
  refine ⟨by simpa using h.size, fun t ht => ?_⟩
  have hs := h.size
  rw [getElem!_pos _ _ (by simp; omega), Array.getElem_setIfInBounds (by omega)]
  by_cases e : t = j
  · subst e
    rw [if_pos (by omega), hv]
  · rw [if_neg (by omega), ← getElem!_pos _ _ (by omega)]
    exact h.done t (by omega)
def hexL (u : Nat) : List UInt8 := if u < 16 then [hx u] else hexL (u / 16) ++ [hx (u % 16)]
def hexD (u k : Nat) : List UInt8 := (List.range k).map fun t => hx (u / 16 ^ (k - 1 - t) % 16)
theorem hexD_length (u k : Nat) : (hexD u k).length = k := by simp [hexD]
theorem hexL_eq : ∀ (j u : Nat), u / 16 ^ j < 16 → (j = 0 ∨ 16 ^ j ≤ u) → hexL u = hexD u (j + 1) := by
  intro j
  induction j with
  | zero =>
    intro u h _
    rw [Nat.pow_zero, Nat.div_one] at h
    rw [hexL, if_pos h]
    simp [hexD, List.range_succ, Nat.mod_eq_of_lt h]
  | succ j ih =>
    intro u h hj
    have hp : 16 ^ (j + 1) = 16 * 16 ^ j := by rw [Nat.pow_succ, Nat.mul_comm]
    have h1 : 16 ^ (j + 1) ≤ u := by omega
    have h0 := Nat.two_pow_pos (4 * j)
    rw [Nat.pow_mul] at h0
    have h16 : 16 ≤ u := by have : 0 < 16 ^ j := h0; omega
    have hd : ∀ i, u / 16 ^ (i + 1) = u / 16 / 16 ^ i := fun i => by rw [Nat.pow_succ, Nat.mul_comm, Nat.div_div_eq_div_mul]
    rw [hexL, if_neg (by omega), ih (u / 16) (by rw [← hd]; exact h) (Or.inr (by rw [Nat.le_div_iff_mul_le (by decide), Nat.mul_comm]; omega))]
    unfold hexD
    rw [List.range_succ (n := j + 1), List.map_append, List.map_singleton]
    congr 1
    · refine List.map_congr_left fun t ht => ?_
      rw [List.mem_range] at ht
      rw [show j + 1 + 1 - 1 - t = (j + 1 - 1 - t) + 1 from by omega, hd]
    · simp
theorem below_grow {w : World} (n : Nat) (os : Array Obj) : Below w.heap.size w (grow (w.drewN n) os) := by
  refine ⟨rfl, rfl, rfl, ?_, fun k hk => ?_⟩
  · simp [grow]
  · rw [heap_grow_old _ _ (by simpa using hk)]
    rfl
set_option maxHeartbeats 6400000 in
theorem formatBits_16 (u : Nat) (hu : u < 18446744073709551616) (w : World) (hc : w.cell? ⟨9, 15, none⟩ = some (.int .u8 4)) :
    Calls Tryz.prog 155 #[.slice none 0 0, .int .u64 u, .int .i64 16, .bool false, .bool false] w fun e w' => e = .returned (.tuple #[.slice none 0 0, .string ⟨(hexL u).toArray⟩]) ∧ Below w.heap.size w w' := by
  have h0 := holds65 w 253
  have hc1 : ∀ o, (w.alloc o).cell? ⟨9, 15, none⟩ = some (.int .u8 4) := fun o => by rw [World.cell?_alloc_some _ _ _ (by rw [hc]; rfl)]; exact hc
  have AH := Lib.hid h0
  clear h0
  go_enter Tryz.func155, Tryz.ntmps155
  go_name_bytes MSG hMSG
  clear hMSG
  go_name_bytes DG hDG
  have eDG : DG = digs := by rw [← hDG]; decide +kernel
  subst eDG
  clear hDG
  go_wp2_with (first | (go_at_call 205; refine (tz_16 _ (hc1 _)).mono ?_; rintro e w' ⟨rfl, rfl⟩) | (go_at_call 204; refine (pow_16 _).mono ?_; rintro e w' ⟨rfl, rfl⟩))
  clear hc hc1
  go_loopw [1, 13] (fun vu vi wr => ∃ (j i n : Nat) (dk : Array UInt8), i + j = 65 ∧ j < 16 ∧ (j = 0 ∨ 16 ^ j ≤ u) ∧ vu = .int .u64 ((u / 16 ^ j : Nat) : Int) ∧ vi = .int .i64 (i : Int) ∧ wr = (putRow bv (w.alloc (.cells Tryz.zeroCells253 253)) w.heap.size 0 dk).drewN n ∧ Hid (HexInv u j dk)) (fun _ vi _ => (RowKit.intOf vi).toNat)
  case atStart => exact ⟨0, 65, 0, Array.replicate 65 0, rfl, by omega, Or.inl rfl, by simp, rfl, (putRow_self _ _ _ _ _ AH.out).symm, ⟨by simp, fun t ht => absurd ht (by omega)⟩⟩
  case round =>
    obtain ⟨j, i, n, dk, hij, hj, hju, rfl, rfl, hw0, HI⟩ := hrel
    obtain ⟨m, rfl⟩ : ∃ m, i = m + 1 := ⟨i - 1, by omega⟩
    rename World => W0
    obtain ⟨v, hv⟩ : ∃ v, v = u / 16 ^ j := ⟨_, rfl⟩
    rw [← hv]
    have hv64 : v < 18446744073709551616 := by rw [hv]; exact Nat.lt_of_le_of_lt (Nat.div_le_self _ _) hu
    have hs0 := HI.out.size
    have hH0 : Holds bv W0 w.heap.size 0 dk := by rw [hw0]; exact holds_putRow _ _ w.heap.size 0 _ dk AH.out (by rw [hs0]; simp)
    obtain ⟨G0, hG0⟩ : ∃ G : Int, G = (dk[m]!.toNat : Int) := ⟨_, rfl⟩
    have hc0 : W0.cell? ⟨w.heap.size, m, none⟩ = some (.int .u8 G0) := by rw [hG0]; have := (hH0 m (by omega)).1; rwa [Nat.zero_add] at this
    have hf0 : W0.frozen? ⟨w.heap.size, m, none⟩ = false := by have := (hH0 m (by omega)).2; rwa [Nat.zero_add] at this
    have AW0 := Lib.hid hw0
    have AHv := Lib.hid hv
    by_cases h16 : 16 ≤ v
    · have hb : bits .and .u64 (v : Int) 15 = ((v % 16 : Nat) : Int) := by
        have h := and_nat (a := v) (b := 15) (by omega) (by omega)
        rw [Nat.and_two_pow_sub_one_eq_mod v 4] at h
        exact h
      have hXa : ∀ w, (Instr.index 9 (.string digs) (.int .u64 (bits .and .u64 (v : Int) 15))).run Tryz.prog w = .ok (.int .u8 ((hx (v % 16)).toNat : Int)) w := digs_at _ Tryz.underlying9 _ _ _ hb (by omega)
      obtain ⟨X, hXv⟩ : ∃ X : Nat, X = (hx (v % 16)).toNat := ⟨_, rfl⟩
      rw [← hXv] at hXa
      have AX := Lib.hid hXv
      clear hw0 hG0 hH0 hv hb hXv
      go_wp2
      have hge : 16 ^ (j + 1) ≤ u := by
        rw [AHv.out, Nat.le_div_iff_mul_le (Nat.pow_pos (by decide))] at h16
        rw [Nat.pow_succ, Nat.mul_comm]; exact h16
      refine ⟨⟨j + 1, m, n, dk.setIfInBounds m (hx (v % 16)), by omega, ?_, Or.inr hge, ?_, rfl, ?_, ?_⟩, ?_⟩
      · rcases Nat.lt_or_ge (j + 1) 16 with h | h
        · exact h
        · exfalso
          obtain rfl : j = 15 := by omega
          omega
      · rw [AHv.out, Nat.pow_succ, ← Nat.div_div_eq_div_mul]
        rfl
      · have e := Lib.store1_world (w.alloc (.cells Tryz.zeroCells253 253)) w.heap.size 0 dk n m (hx (v % 16)) (by omega)
        rw [Nat.zero_add] at e
        rw [AX.out, AW0.out]
        exact e
      · exact HexInv.step HI.out AHv.out (by omega)
      · simp [RowKit.intOf]
    · have hXa : ∀ w, (Instr.index 9 (.string digs) (.int .u64 (v : Int))).run Tryz.prog w = .ok (.int .u8 ((hx v).toNat : Int)) w := digs_at _ Tryz.underlying9 _ _ _ rfl (by omega)
      obtain ⟨X, hXv⟩ : ∃ X : Nat, X = (hx v).toNat := ⟨_, rfl⟩
      rw [← hXv] at hXa
      have AX := Lib.hid hXv
      have hsl : ∀ W, (Instr.sliceAt 253 (.pointer (some ⟨w.heap.size, 0, none⟩)) (some (.int .i64 (m : Int))) none none).run Tryz.prog W = .ok (.slice (some ⟨w.heap.size, m, none⟩) (65 - m) (65 - m)) W := fun W => by
        have hal : Tryz.prog.arrayLen 253 = 65 := by simp [Program.arrayLen, Tryz.underlying253]
        rw [run_sliceAt_array_l W 253 ⟨w.heap.size, 0, none⟩ (by simp [Program.arrayLen, Program.elem, Tryz.underlying253]) .i64 (m : Int) (by omega) (by rw [hal]; omega), hal]
        go_simp
        omega
      have hstep : HexInv u (j + 1) (dk.setIfInBounds m (hx v)) := by
        have := HexInv.step HI.out AHv.out (by omega : m + 1 + j = 65)
        rwa [Nat.mod_eq_of_lt (by omega)] at this
      have hW1 : W0.setCell ⟨w.heap.size, m, none⟩ (.int .u8 (X : Int)) = (putRow bv (w.alloc (.cells Tryz.zeroCells253 253)) w.heap.size 0 (dk.setIfInBounds m (hx v))).drewN n := by
        have e := Lib.store1_world (w.alloc (.cells Tryz.zeroCells253 253)) w.heap.size 0 dk n m (hx v) (by omega)
        rw [Nat.zero_add] at e
        rw [hXv, AW0.out]
        exact e
      have hcv : (convert 86 9 (.slice (some ⟨w.heap.size, m, none⟩) (65 - m) (65 - m))).run Tryz.prog (W0.setCell ⟨w.heap.size, m, none⟩ (.int .u8 (X : Int))) = .ok (.string ⟨(hexL u).toArray⟩) (W0.setCell ⟨w.heap.size, m, none⟩ (.int .u8 (X : Int))) := by
        have h := run_convert_bytes_back (P := Tryz.prog) (W0.setCell ⟨w.heap.size, m, none⟩ (.int .u8 (X : Int))) 86 9 5 ⟨w.heap.size, m, none⟩ (65 - m) (hexL u) Tryz.underlying86 Tryz.underlying5 Tryz.underlying9 (fun t ht => by
          have hL := hexL_eq j u (by rw [← AHv.out]; omega) hju
          have ht' : t < j + 1 := by rw [hL, hexD_length] at ht; exact ht
          have e1 := cell?_putRow bv (w.alloc (.cells Tryz.zeroCells253 253)) w.heap.size 0 _ (dk.setIfInBounds m (hx v)) AH.out (by rw [hstep.size]; simp) (m + t) (by rw [hstep.size]; omega)
          rw [Nat.zero_add] at e1
          rw [Lib.add_plain, hW1, World.cell?_drewN, e1]
          have e2 := hstep.done (j - t) (by omega)
          rw [show 64 - (j - t) = m + t from by omega] at e2
          rw [e2]
          have e3 : (hexL u)[t] = hx (u / 16 ^ (j - t) % 16) := by
            simp only [hL, hexD, List.getElem_map, List.getElem_range]
            rfl
          rw [e3])
        have hlen : (hexL u).length = 65 - m := by rw [hexL_eq j u (by rw [← AHv.out]; omega) hju, hexD_length]; omega
        rw [hlen] at h
        exact h
      have HW1 := Lib.hid hW1
      clear hw0 hG0 hH0 hv hXv hW1 hstep
      go_wp2
      go_ret2
      refine ⟨rfl, ?_⟩
      obtain ⟨os', _, e⟩ := putRow_grow_new bv w #[.cells Tryz.zeroCells253 253] w.heap.size 0 (dk.setIfInBounds m (hx v)) (Nat.le_refl _)
      rw [HW1.out, alloc_eq_grow, e]
      exact below_grow n os'
theorem FormatUint_16i (u : Nat) (hu : u < 18446744073709551616) (w : World) (hc : w.cell? ⟨9, 15, none⟩ = some (.int .u8 4)) :
    Calls Tryz.prog 97 #[.int .u64 u, .int .i64 16] w fun e w' => e = .returned (.string ⟨(hexL u).toArray⟩) ∧ Below w.heap.size w w' := by
  go_enter Tryz.func97, Tryz.ntmps97
  go_wp2_with (first | (go_at_call 155; refine (formatBits_16 u hu _ hc).mono ?_; rintro e w' ⟨rfl, hb⟩))
  go_ret
  exact ⟨rfl, hb⟩
theorem FormatUint_16 (u : Nat) (hu : u < 18446744073709551616) (w : World) (hc : w.cell? ⟨9, 15, none⟩ = some (.int .u8 4)) :
    Calls Tryz.prog 51 #[.int .u64 u, .int .i64 16] w fun e w' => e = .returned (.string ⟨(hexL u).toArray⟩) ∧ Below w.heap.size w w' := by
  go_enter Tryz.func51, Tryz.ntmps51
  go_wp2_with (first | (go_at_call 97; refine (FormatUint_16i u hu _ hc).mono ?_; rintro e w' ⟨rfl, hb⟩))
  go_ret
  exact ⟨rfl, hb⟩
end Go.Proofs.YtogodijfdkffaaaGreatDoor.Hex

/- strconv.FormatUint at base 10: the number's decimal digits. Premise: the library's table of powers holds what it is laid as. -/
namespace Go.Proofs.YtogodijfdkffaaaGreatDoor.Dec
open Go.RowKit Go.Sort Go.Lib
set_option maxHeartbeats 6400000 in
theorem FormatUint_10i (u : Nat) (hu64 : u < 18446744073709551616) (w : World) (htab : Lib.TabIs Tryz.prog w "internal/strconv.uint64pow10" .u64 Lib.pow10Tab) :
    Calls Tryz.prog 97 #[.int .u64 u, .int .i64 10] w fun e w' => e = .returned (.string ⟨(Lib.decDigits u).toArray⟩) ∧ Below w.heap.size w w' := by
  by_cases hs : u < 100
  · go_enter Tryz.func97, Tryz.ntmps97
    go_wp2_with (first | (go_at_call 152; refine (Tryz.internal_strconv_small u hs _).mono ?_; rintro e w' ⟨rfl, rfl⟩))
    go_ret
    exact ⟨rfl, Below.refl _ _⟩
  · have hu1 : 1 ≤ u := by omega
    have hnd20 : Lib.nDigits u ≤ 20 := by have := Lib.numDigits_eq u hu1 hu64; split at this <;> omega
    have hal : Tryz.prog.arrayLen 205 = 24 := by kernel_rfl
    have hsl1 : ∀ W, (Instr.sliceAt 205 (.pointer (some ⟨w.heap.size, 0, none⟩)) none (some (.int .i64 ((Lib.nDigits u : Nat) : Int))) none).run Tryz.prog W = .ok (.slice (some ⟨w.heap.size, 0, none⟩) (Lib.nDigits u) 24) W := fun W => by
      rw [run_sliceAt_array_h W 205 ⟨w.heap.size, 0, none⟩ (by kernel_rfl) .i64 ((Lib.nDigits u : Nat) : Int) (by omega) (by rw [hal]; omega)]
      go_simp
    have hH0 := Lib.holds_zero0 w 205 (Lib.nDigits u) (by omega)
    have hfmt := Tryz.internal_strconv_formatBase10 w.heap.size 0 24 u (Array.replicate (Lib.nDigits u) 0) (w.alloc (.cells Lib.zeros24 205)) hH0 (by rw [Array.size_replicate]; exact Lib.lt_pow_nDigits u) hu64 (by rw [Array.size_replicate]; omega)
    rw [Array.size_replicate] at hfmt
    have HH0 := Lib.hid hH0
    clear hH0 hal
    go_enter Tryz.func97, Tryz.ntmps97
    go_wp2_with (first
      | (go_at_call 153; refine (Tryz.internal_strconv_numDigits u hu1 hu64 _ (Lib.tabIs_alloc htab _)).mono ?_; rintro e w' ⟨rfl, rfl⟩))
    go_at_call 154
    refine hfmt.mono ?_
    rintro e w' ⟨rfl, k, v', dk, rfl, hF⟩
    have hcv : (convert 86 9 (.slice (some ⟨w.heap.size, 0, none⟩) (Lib.nDigits u) 24)).run Tryz.prog ((putRow (fun (b : UInt8) => Value.int .u8 (b.toNat : Int)) (w.alloc (.cells Lib.zeros24 205)) w.heap.size 0 dk).drewN k) = .ok (.string ⟨(Lib.decDigits u).toArray⟩) ((putRow (fun (b : UInt8) => Value.int .u8 (b.toNat : Int)) (w.alloc (.cells Lib.zeros24 205)) w.heap.size 0 dk).drewN k) := by
      have h := run_convert_bytes_back (P := Tryz.prog) ((putRow (fun (b : UInt8) => Value.int .u8 (b.toNat : Int)) (w.alloc (.cells Lib.zeros24 205)) w.heap.size 0 dk).drewN k) 86 9 5 ⟨w.heap.size, 0, none⟩ 24 (Lib.decDigits u) Tryz.underlying86 Tryz.underlying5 Tryz.underlying9 (fun j hj => by
        rw [Lib.row_is_numeral hF j hj, Lib.add_plain, World.cell?_drewN]
        exact cell?_putRow (fun (b : UInt8) => Value.int .u8 (b.toNat : Int)) _ w.heap.size 0 _ dk HH0.out (by rw [hF.size, Array.size_replicate]) j (by rw [hF.size]; rw [Lib.decDigits_length] at hj; exact hj))
      rw [Lib.decDigits_length] at h
      exact h
    go_wp2
    go_ret
    refine ⟨rfl, ?_⟩
    obtain ⟨os', _, e⟩ := putRow_grow_new (fun (b : UInt8) => Value.int .u8 (b.toNat : Int)) w #[.cells Lib.zeros24 205] w.heap.size 0 dk (Nat.le_refl _)
    rw [alloc_eq_grow, e]
    exact Hex.below_grow k os'
theorem FormatUint_10 (u : Nat) (hu64 : u < 18446744073709551616) (w : World) (htab : Lib.TabIs Tryz.prog w "internal/strconv.uint64pow10" .u64 Lib.pow10Tab) :
    Calls Tryz.prog 51 #[.int .u64 u, .int .i64 10] w fun e w' => e = .returned (.string ⟨(Lib.decDigits u).toArray⟩) ∧ Below w.heap.size w w' := by
  go_enter Tryz.func51, Tryz.ntmps51
  go_wp2_with (first | (go_at_call 97; refine (FormatUint_10i u hu64 _ htab).mono ?_; rintro e w' ⟨rfl, hb⟩))
  go_ret
  exact ⟨rfl, hb⟩
end Go.Proofs.YtogodijfdkffaaaGreatDoor.Dec

/- Texts of numbers, over data. -/
namespace Go.Proofs.YtogodijfdkffaaaGreatDoor.Ln
open Go Go.RowKit Go.Ab Go.Proofs 
theorem en50 : enters Tryz.prog 50 = true := by kernel_rfl
theorem en51 : enters Tryz.prog 51 = true := by kernel_rfl
theorem en52 : enters Tryz.prog 52 = true := by kernel_rfl
theorem en53 : enters Tryz.prog 53 = true := by kernel_rfl
theorem un9 : Tryz.prog.underlying 9 = some (.string) := by kernel_rfl
theorem nif240 : nif Tryz.prog 240 = true := by kernel_rfl
theorem en224 : enters Tryz.prog 224 = true := by kernel_rfl
theorem en192 : enters Tryz.prog 192 = true := by kernel_rfl
theorem en194 : enters Tryz.prog 194 = true := by kernel_rfl
theorem us3 : (Tryz.prog.underlying 3).isSome = true := by kernel_rfl
theorem un158 : Tryz.prog.underlying 158 = some (.int .u64) := by kernel_rfl
theorem us9 : (Tryz.prog.underlying 9).isSome = true := by kernel_rfl
theorem un86 : Tryz.prog.underlying 86 = some (.slice 5) := by kernel_rfl
theorem un5 : Tryz.prog.underlying 5 = some (.int .u8) := by kernel_rfl
theorem kd5 : kd Tryz.prog 5 = some (false, 1) := by kernel_rfl
theorem un33 : Tryz.prog.underlying 33 = some (.int .u64) := by kernel_rfl
theorem us5 : (Tryz.prog.underlying 5).isSome = true := by kernel_rfl
theorem isf151 : Tryz.prog.isIface 151 = true := by kernel_rfl
theorem en148 : enters Tryz.prog 148 = true := by kernel_rfl
theorem en149 : enters Tryz.prog 149 = true := by kernel_rfl
theorem en146 : enters Tryz.prog 146 = true := by kernel_rfl
theorem en147 : enters Tryz.prog 147 = true := by kernel_rfl
theorem en90 : enters Tryz.prog 90 = true := by kernel_rfl
theorem en22 : enters Tryz.prog 22 = true := by kernel_rfl
def ErrAt (w : World) (g : Nat) : Prop := ∃ ev, w.cell? ⟨g, 0, none⟩ = some ev ∧ (ev = .nilIface ∨ ∃ te pe, ev = .iface te pe)
structure Lw (w : World) : Prop where
  bruijn : w.cell? ⟨9, 15, none⟩ = some (.int .u8 4)
  pow : Lib.TabIs Tryz.prog w "internal/strconv.uint64pow10" .u64 Lib.pow10Tab
  space : Lib.TabIs Tryz.prog w "strings.asciiSpace" .u8 Lib.asciiSpaceTab
  syn : ErrAt w 3
  rng : ErrAt w 4
theorem tab_below {w w' : World} {n : String} {k : IntKind} {l : List Int} (h : Lib.TabIs Tryz.prog w n k l) (hb : Below w.heap.size w w') : Lib.TabIs Tryz.prog w' n k l := by
  unfold Lib.TabIs World.var? at *
  cases hg : Tryz.prog.globalNamed n with
  | none => simp [hg] at h
  | some g =>
    simp only [hg, Option.bind_some] at h ⊢
    have h3 : g < w.heap.size := by
      rcases Nat.lt_or_ge g w.heap.size with g' | g'
      · exact g'
      · simp [Array.getElem?_eq_none g'] at h
    rw [hb.block g h3]
    exact h
theorem errAt_below {w w' : World} {g : Nat} (h : ErrAt w g) (hb : Below w.heap.size w w') : ErrAt w' g := by
  obtain ⟨ev, h1, h2⟩ := h
  have hlt : g < w.heap.size := by
    rcases Nat.lt_or_ge g w.heap.size with q | q
    · exact q
    · simp [World.cell?, Array.getElem?_eq_none q] at h1
  exact ⟨ev, (hb.cell (p := ⟨g, 0, none⟩) hlt).trans h1, h2⟩
theorem gs_lw : GS Lw := fun w w' h hb => by
  have h1 : 9 < w.heap.size := by
    have := h.bruijn
    rcases Nat.lt_or_ge 9 w.heap.size with g | g
    · exact g
    · simp [World.cell?, Array.getElem?_eq_none g] at this
  exact ⟨(hb.cell (p := ⟨9, 15, none⟩) h1).trans h.bruijn, tab_below h.pow hb, tab_below h.space hb, errAt_below h.syn hb, errAt_below h.rng hb⟩
theorem wrap_succ {i : Nat} (h : i < 9223372036854775807) : IntKind.i64.wrap ((i : Int) + 1) = ((i + 1 : Nat) : Int) := by
  exact IntWalk.i64_in _ (by omega)
-- texts
def hexB (u : Nat) : ByteArray := ⟨(Hex.hexL u).toArray⟩
def zerosB (c : Nat) : ByteArray := ⟨(Lib.repeatL (⟨#[48]⟩ : ByteArray).data.toList c).toArray⟩
def itoaB (w : Nat) : ByteArray := ⟨(Lib.itoa (w : Int)).toArray⟩
def digitsB (v : Nat) : ByteArray := if 0 < v / 2 ^ 64 then hexB (v / 2 ^ 64) ++ zerosB (16 - (hexB (v % 2 ^ 64)).size) ++ hexB (v % 2 ^ 64) else hexB (v % 2 ^ 64)
def textB (w v : Nat) : ByteArray := itoaB w ++ ⟨#[119]⟩ ++ digitsB v
theorem textB_hi (w v : Nat) (h : 0 < v / 2 ^ 64) : textB w v = itoaB w ++ ⟨#[119]⟩ ++ (hexB (v / 2 ^ 64) ++ zerosB (16 - (hexB (v % 2 ^ 64)).size) ++ hexB (v % 2 ^ 64)) := by unfold textB digitsB; rw [if_pos h]
theorem textB_lo (w v : Nat) (h : ¬ 0 < v / 2 ^ 64) : textB w v = itoaB w ++ ⟨#[119]⟩ ++ hexB (v % 2 ^ 64) := by unfold textB digitsB; rw [if_neg h]
theorem hexL_le : ∀ (k u : Nat), u < 16 ^ (k + 1) → (Hex.hexL u).length ≤ k + 1
  | 0, u, h => by rw [Hex.hexL, if_pos (by simpa using h)]; simp
  | k + 1, u, h => by
    rw [Hex.hexL]
    split
    · simp
    · have := hexL_le k (u / 16) (Nat.div_lt_of_lt_mul (by rw [Nat.pow_succ] at h; omega))
      simp; omega
theorem hexB_size {u : Nat} (h : u < 18446744073709551616) : (hexB u).size ≤ 16 := by
  have := hexL_le 15 u (by simpa using h)
  simpa [hexB, ByteArray.size] using this
theorem zerosB_size (c : Nat) : (zerosB c).size = c := by
  have : ∀ (l : List UInt8) (n : Nat), (Lib.repeatL l n).length = n * l.length := fun l n => by
    induction n with
    | zero => simp [Lib.repeatL]
    | succ n ih => simp [Lib.repeatL, ih, Nat.add_mul]; try omega
  simpa [zerosB, ByteArray.size] using this [48] c
theorem itoa_small : ∀ w : Nat, w < 129 → (Lib.itoa (w : Int)).length ≤ 3 := by decide +kernel
theorem itoaB_size {w : Nat} (h : w ≤ 128) : (itoaB w).size ≤ 3 := by
  have := itoa_small w (by omega)
  simpa [itoaB, ByteArray.size] using this
theorem size_app (a b : ByteArray) : (a ++ b).size = a.size + b.size := ByteArray.size_append
theorem wrap_16 {u : Nat} (h : u < 18446744073709551616) : IntKind.i64.wrap (16 - ((hexB u).size : Int)) = ((16 - (hexB u).size : Nat) : Int) := by
  have := hexB_size h
  rw [IntWalk.i64_in _ (by omega)]; omega
theorem cat1 (v : Nat) (hv : v < 2 ^ 128) : (hexB (v / 2 ^ 64)).size + (zerosB (16 - (hexB (v % 2 ^ 64)).size)).size ≤ 9223372036854775807 := by
  have h1 := hexB_size (u := v / 2 ^ 64) (by have := hi_lt hv; simpa using this)
  have h2 := zerosB_size (16 - (hexB (v % 2 ^ 64)).size)
  omega
theorem cat2 (v : Nat) (hv : v < 2 ^ 128) : (hexB (v / 2 ^ 64) ++ zerosB (16 - (hexB (v % 2 ^ 64)).size)).size + (hexB (v % 2 ^ 64)).size ≤ 9223372036854775807 := by
  have h1 := hexB_size (u := v / 2 ^ 64) (by have := hi_lt hv; simpa using this)
  have h2 := zerosB_size (16 - (hexB (v % 2 ^ 64)).size)
  have h3 := hexB_size (u := v % 2 ^ 64) (by have := lo_lt v; simpa using this)
  rw [size_app]
  omega
theorem cat3 (w : Nat) (h : w ≤ 128) : (itoaB w).size + (⟨#[119]⟩ : ByteArray).size ≤ 9223372036854775807 := by
  have := itoaB_size h
  have h1 : (⟨#[119]⟩ : ByteArray).size = 1 := rfl
  omega
theorem cat4 (w v : Nat) (h : w ≤ 128) (hv : v < 2 ^ 128) : (itoaB w ++ ⟨#[119]⟩).size + (hexB (v / 2 ^ 64) ++ zerosB (16 - (hexB (v % 2 ^ 64)).size) ++ hexB (v % 2 ^ 64)).size ≤ 9223372036854775807 := by
  have := itoaB_size h
  have h0 : (⟨#[119]⟩ : ByteArray).size = 1 := rfl
  have h1 := hexB_size (u := v / 2 ^ 64) (by have := hi_lt hv; simpa using this)
  have h2 := zerosB_size (16 - (hexB (v % 2 ^ 64)).size)
  have h3 := hexB_size (u := v % 2 ^ 64) (by have := lo_lt v; simpa using this)
  rw [size_app, size_app, size_app]
  omega
theorem cat5 (w v : Nat) (h : w ≤ 128) : (itoaB w ++ ⟨#[119]⟩).size + (hexB (v % 2 ^ 64)).size ≤ 9223372036854775807 := by
  have := itoaB_size h
  have h0 : (⟨#[119]⟩ : ByteArray).size = 1 := rfl
  have h3 := hexB_size (u := v % 2 ^ 64) (by have := lo_lt v; simpa using this)
  rw [size_app]
  omega
theorem hi_pos {v : Nat} (c : decide (hiOf v > 0) = true) : 0 < v / 2 ^ 64 := by have := of_decide_eq_true c; unfold hiOf at this; omega
theorem hi_zero {v : Nat} (c : decide (hiOf v > 0) = false) : ¬ 0 < v / 2 ^ 64 := by have := of_decide_eq_false c; unfold hiOf at this; omega
theorem fmt_c {u : Nat} (hu : u < 18446744073709551616) : CallsP Tryz.prog Lw 51 [.sc (.int .u64 (u : Int)), .sc (.int .i64 16)] (.sc (.string (hexB u))) :=
  lift rfl rfl fun w hg => Hex.FormatUint_16 u hu w hg.bruijn
theorem fmt10_c {u : Nat} (hu : u < 18446744073709551616) : CallsP Tryz.prog Lw 51 [.sc (.int .u64 (u : Int)), .sc (.int .i64 10)] (.sc (.string (B (Lib.decDigits u)))) :=
  lift rfl rfl fun w hg => Dec.FormatUint_10 u hu w hg.pow
theorem rep_c {c : Nat} (h : c ≤ 16) : CallsP Tryz.prog Lw 52 [.sc (.string ⟨#[48]⟩), .sc (.int .i64 (c : Int))] (.sc (.string (zerosB c))) :=
  lift rfl rfl fun w hg => Tryz.strings_Repeat ⟨#[48]⟩ c w (by omega) (Nat.le_trans (Nat.mul_le_mul (Nat.le_refl 1) h) (by decide))
theorem rep_c' {u : Nat} (hu : u < 18446744073709551616) : CallsP Tryz.prog Lw 52 [.sc (.string ⟨#[48]⟩), .sc (.int .i64 (IntKind.i64.wrap (16 - ((hexB u).size : Int))))] (.sc (.string (zerosB (16 - (hexB u).size)))) := by
  rw [wrap_16 hu]; exact rep_c (by omega)
theorem itoa_c {n : Int} (h1 : -9223372036854775808 ≤ n) (h2 : n ≤ 9223372036854775807) : CallsP Tryz.prog Lw 53 [.sc (.int .i64 n)] (.sc (.string ⟨(Lib.itoa n).toArray⟩)) :=
  lift rfl rfl fun w hg => (Tryz.strconv_Itoa n h1 h2 w hg.pow).mono fun e w' ⟨q, k, os, r⟩ => ⟨q, by rw [r]; exact Hex.below_grow k os⟩
theorem text_c {w v : Nat} (h0 : 1 ≤ w) (h : w ≤ 128) (hv : v < 2 ^ w) : CallsP Tryz.prog Lw 22 [bitD w v] (.tup [.sc (.string (textB w v)), .sc (.int .i64 0)]) := by
  have hv' := lt128 h hv
  have hck := check_c gs_lw (w : Int) hv'
  rw [chk_ok h0 h hv] at hck
  refine callsP_of gs_lw Tryz.func22 rfl Tryz.ntmps22 rfl fun w0 S0 stab => ?_
  refine sqq <| rgq <| sq (f_box rfl rfl (lt rfl)) rfl rfl <| asq rfl rfl <| asq rfl rfl <| nxq <| sqq <| sqq ?_
  refine rgq <| ldq kd35 rfl rfl rfl <| sq (f_call en50 rfl hck (lt rfl)) rfl rfl <| sq (f_un rfl rfl (lt rfl)) rfl rfl <| nxq <| cnF rfl <| skq <| toq ?_
  refine sqq <| rgq <| faq rfl kf35_2 rfl rfl <| ldq kd33 rfl rfl rfl <| sq (f_call en51 rfl (fmt_c (lo_lt v)) (lt rfl)) rfl rfl <| asq rfl rfl <| nxq <| sqq ?_
  refine sqq <| rgq <| faq rfl kf35_1 rfl rfl <| ldq kd33 rfl rfl rfl <| sq (f_bin rfl rfl rfl (lt rfl)) rfl rfl <| nxq ?_
  refine hits_cond rfl (fun c1 => ?_) (fun c1 => ?_)
  · have hz : 0 < v / 2 ^ 64 := hi_pos c1
    refine rgq <| faq rfl kf35_1 rfl rfl <| ldq kd33 rfl rfl rfl <| sq (f_call en51 rfl (fmt_c (hi_lt hv')) (lt rfl)) rfl rfl <| mvq rfl rfl <| sq (f_lenStr rfl un9 (lt rfl)) rfl rfl <| sq (f_bin rfl rfl rfl (lt rfl)) rfl rfl <| sq (f_call en52 rfl (rep_c' (lo_lt v)) (lt rfl)) rfl rfl ?_
    refine sq (f_cat rfl rfl (cat1 v hv') (lt rfl)) rfl rfl <| mvq rfl rfl <| sq (f_cat rfl rfl (cat2 v hv') (lt rfl)) rfl rfl <| asq rfl rfl <| nxq <| sqq <| rgq <| faq rfl kf35_0 rfl rfl ?_
    refine ldq kd3 rfl rfl rfl <| sq (f_call en53 rfl (itoa_c (by omega) (by omega)) (lt rfl)) rfl rfl <| sq (f_cat rfl rfl (cat3 w h) (lt rfl)) rfl rfl <| mvq rfl rfl <| sq (f_cat rfl rfl (cat4 w v h hv') (lt rfl)) rfl rfl <| asq rfl rfl <| asq rfl rfl <| nxq ?_
    refine rtq ?_
    exact hits_done (.inl rfl) rfl rfl (by rw [textB_hi w v hz]; rfl)
  · refine skq <| toq <| sqq <| rgq <| faq rfl kf35_0 rfl rfl <| ldq kd3 rfl rfl rfl <| sq (f_call en53 rfl (itoa_c (by omega) (by omega)) (lt rfl)) rfl rfl <| sq (f_cat rfl rfl (cat3 w h) (lt rfl)) rfl rfl ?_
    refine mvq rfl rfl <| sq (f_cat rfl rfl (cat5 w v h) (lt rfl)) rfl rfl <| asq rfl rfl <| asq rfl rfl <| nxq <| rtq ?_
    exact hits_done (.inl rfl) rfl rfl (by rw [textB_lo w v (hi_zero c1)]; rfl)
theorem text_no {a : Int} {v : Nat} (hv : v < 2 ^ 128) (hc : chk a v = false) : CallsP Tryz.prog Lw 22 [(.agg [.sc (.int .i64 a), .sc (.int .u64 (hiOf v)), .sc (.int .u64 (loOf v))])] (.tup [.sc (.string ⟨#[]⟩), .sc (.int .i64 1)]) := by
  have hck := check_c gs_lw a hv
  rw [hc] at hck
  refine callsP_of gs_lw Tryz.func22 rfl Tryz.ntmps22 rfl fun w0 S0 stab => ?_
  refine sqq <| rgq <| sq (f_box rfl rfl (lt rfl)) rfl rfl <| asq rfl rfl <| asq rfl rfl <| nxq <| sqq <| sqq ?_
  refine rgq <| ldq kd35 rfl rfl rfl <| sq (f_call en50 rfl hck (lt rfl)) rfl rfl <| sq (f_un rfl rfl (lt rfl)) rfl rfl <| nxq <| cnT rfl <| sqq <| rgq ?_
  refine asq rfl rfl <| asq rfl rfl <| nxq <| rtq <| to_ret ?_
  exact hits_done (.inl rfl) rfl rfl rfl
end Go.Proofs.YtogodijfdkffaaaGreatDoor.Ln

/- The library's functions that read a number's text; bits.Parse. -/
namespace Go.Proofs.YtogodijfdkffaaaGreatDoor.Ln
open Go Go.RowKit Go.Ab Go.Proofs 
theorem lift_any {Γ : World → Prop} {f : FuncId} {args : List D} {vs : List Value} {n : Value} (ha : plainVs args = some vs)
    (h : ∀ w, Γ w → Calls Tryz.prog f ⟨vs⟩ w fun e w' => ∃ u, e = .returned (.tuple #[n, u]) ∧ u.oneCell' = true ∧ Below w.heap.size w w') : CallsP Tryz.prog Γ f args (.tup [.sc n, .any]) := by
  intro S w us hg hS hus
  obtain rfl := rels_plain ha hus
  refine (h w hg).mono ?_
  rintro e w' ⟨u, he, h1, hb⟩
  exact ⟨_, S, he, .tup (.cons (.sc _) (.cons (.any h1) .nil)), Stab.le.refl _, hb, fun _ _ _ q => .inl q⟩
theorem lift_any1 {Γ : World → Prop} {f : FuncId} {args : List D} {vs : List Value} (ha : plainVs args = some vs)
    (h : ∀ w, Γ w → Calls Tryz.prog f ⟨vs⟩ w fun e w' => ∃ u, e = .returned u ∧ u.oneCell' = true ∧ Below w.heap.size w w') : CallsP Tryz.prog Γ f args .any := by
  intro S w us hg hS hus
  obtain rfl := rels_plain ha hus
  refine (h w hg).mono ?_
  rintro e w' ⟨u, he, h1, hb⟩
  exact ⟨_, S, he, .any h1, Stab.le.refl _, hb, fun _ _ _ q => .inl q⟩
def atoiN (s : ByteArray) : Int := match Lib.atoiAll s.data.toList with | .ok v => v | .range => Lib.atoiSat s.data.toList | _ => 0
theorem old_or {w w' : World} {s : ByteArray} (h : w' = w ∨ ∃ t, w' = Lib.bytesWorld w 5 t) : Below w.heap.size w w' := by
  rcases h with rfl | ⟨t, rfl⟩
  · exact Below.refl _ _
  · exact Lib.bytesWorld_below _ _ _
theorem atoi_c (s : ByteArray) (hs : s.size ≤ 281474976710656) : CallsP Tryz.prog Lw 147 [.sc (.string s)] (.tup [.sc (.int .i64 (atoiN s)), .any]) := by
  refine lift_any rfl fun w hg => ?_
  unfold atoiN
  obtain ⟨ev, e1, e2⟩ := hg.syn
  obtain ⟨ew, r1, r2⟩ := hg.rng
  cases h : Lib.atoiAll s.data.toList
  · exact (Tryz.strconv_Atoi_ok s (by omega) _ h w).mono fun e w' q => ⟨_, q.1, rfl, old_or (s := s) q.2⟩
  · exact (Tryz.strconv_Atoi_syntax s hs h ev w e1 e2).mono fun e w' ⟨N, q1, _, _, q2⟩ => ⟨_, q1, rfl, q2⟩
  · exact (Tryz.strconv_Atoi_range s hs h ew w r1 r2).mono fun e w' ⟨N, q1, _, _, q2⟩ => ⟨_, q1, rfl, q2⟩
theorem toErr_c (fn s : ByteArray) (b c : Int) (k : Nat) (hk : k = 1 ∨ k = 2) (hs : s.size ≤ 281474976710656) : CallsP Tryz.prog Lw 149 [.sc (.string fn), .sc (.string s), .sc (.int .i64 b), .sc (.int .i64 c), .sc (.iface 240 (.int .i64 k))] .any := by
  refine lift_any1 rfl fun w hg => ?_
  obtain ⟨ev, e1, e2⟩ := hg.syn
  obtain ⟨ew, r1, r2⟩ := hg.rng
  rcases hk with rfl | rfl
  · exact (Tryz.strconv_toError_range fn s b c ew w hs r1 r2).mono fun e w' ⟨N, q1, _, _, q2⟩ => ⟨_, q1, rfl, q2⟩
  · exact (Tryz.strconv_toError_syntax fn s b c ev w hs e1 e2).mono fun e w' ⟨N, q1, _, _, q2⟩ => ⟨_, q1, rfl, q2⟩
theorem idx_c (s : ByteArray) : CallsP Tryz.prog Lw 224 [.sc (.string s), .sc (.string ⟨#[119]⟩)] (.sc (.int .i64 (Lib.indexByte s.data.toList 119))) :=
  lift rfl rfl fun w _ => (Tryz.stringslite_Index_one s 119 w).mono fun e w' q => ⟨q.1, by rw [q.2]; exact Below.refl _ _⟩
theorem idx_lt : ∀ (l : List UInt8) (c : UInt8), Lib.indexByte l c < (l.length : Int) ∨ (l = [] ∧ Lib.indexByte l c = -1)
  | [], c => .inr ⟨rfl, rfl⟩
  | b :: l, c => by
    left
    unfold Lib.indexByte
    have := idx_lt l c
    split
    · simp <;> omega
    · split
      · simp <;> omega
      · rcases this with h | ⟨rfl, h⟩
        · simp <;> omega
        · simp [Lib.indexByte] at *
theorem idx_le (s : ByteArray) (c : UInt8) (h : 0 ≤ Lib.indexByte s.data.toList c) : Lib.indexByte s.data.toList c < (s.size : Int) := by
  rcases idx_lt s.data.toList c with q | ⟨_, q⟩
  · simpa using q
  · omega
def cutA (s : ByteArray) : ByteArray := if 0 ≤ Lib.indexByte s.data.toList 119 then s.extract 0 (Lib.indexByte s.data.toList 119).toNat else s
def cutB (s : ByteArray) : ByteArray := if 0 ≤ Lib.indexByte s.data.toList 119 then s.extract ((Lib.indexByte s.data.toList 119).toNat + 1) s.size else ⟨#[]⟩
def cutD (s : ByteArray) : D := .tup [.sc (.string (cutA s)), .sc (.string (cutB s)), .sc (.bool (decide (0 ≤ Lib.indexByte s.data.toList 119)))]
def dig (c : Nat) : Option Nat := if 48 ≤ c ∧ c ≤ 57 then some (c - 48) else if 97 ≤ c ||| 32 ∧ c ||| 32 ≤ 122 then some ((c ||| 32) - 87) else none
def pu16 : Nat → List UInt8 → Nat × Nat
  | n, [] => (n, 0)
  | n, c :: l => match dig c.toNat with
    | none => (0, 2)
    | some d => if 16 ≤ d then (0, 2) else if 1152921504606846976 ≤ n then (18446744073709551615, 1) else pu16 (n * 16 + d) l
def puOf (s : ByteArray) : Nat × Nat := if s.size = 0 then (0, 2) else pu16 0 s.data.toList
theorem pu_bad {n : Nat} {c : UInt8} {l : List UInt8} (h : dig c.toNat = none) : pu16 n (c :: l) = (0, 2) := by simp [pu16, h]
theorem pu_big {n d : Nat} {c : UInt8} {l : List UInt8} (h : dig c.toNat = some d) (hd : 16 ≤ d) : pu16 n (c :: l) = (0, 2) := by simp [pu16, h, hd]
theorem pu_rng {n d : Nat} {c : UInt8} {l : List UInt8} (h : dig c.toNat = some d) (hd : ¬ 16 ≤ d) (hn : 1152921504606846976 ≤ n) : pu16 n (c :: l) = (18446744073709551615, 1) := by simp [pu16, h, hd, hn]
theorem pu_go {n d : Nat} {c : UInt8} {l : List UInt8} (h : dig c.toNat = some d) (hd : ¬ 16 ≤ d) (hn : ¬ 1152921504606846976 ≤ n) : pu16 n (c :: l) = pu16 (n * 16 + d) l := by simp [pu16, h, hd, hn]
def errV : Nat → Value
  | 0 => .nilIface
  | k + 1 => .iface 240 (.int .i64 ((k + 1 : Nat) : Int))
def puD (r : Nat × Nat) : D := .tup [.sc (.int .u64 (r.1 : Int)), .sc (errV r.2)]
theorem low_is {c : Nat} (h : c < 256) : Go.bits .or .u8 (c : Int) 32 = ((c ||| 32 : Nat) : Int) := (bits_nat .u8 8 (by decide) (fun n h0 h1 => by simp [IntKind.wrap, IntKind.bits, IntKind.signed]; omega) c 32 h (by decide)).2
theorem u8_in {n : Nat} (h : n < 256) : IntKind.u8.wrap (n : Int) = n := by simp [IntKind.wrap, IntKind.bits, IntKind.signed]; omega
theorem u8_sub {c k : Nat} (h : c < 256) (hk : k ≤ c) : IntKind.u8.wrap ((c : Int) - k) = ((c - k : Nat) : Int) := by simp [IntKind.wrap, IntKind.bits, IntKind.signed]; omega
theorem u8_add {c k : Nat} (h : c + k < 256) : IntKind.u8.wrap ((c : Int) + k) = ((c + k : Nat) : Int) := by simp [IntKind.wrap, IntKind.bits, IntKind.signed]; omega
theorem u64_in {n : Nat} (h : n < 18446744073709551616) : IntKind.u64.wrap (n : Int) = n := by rw [wrap_u64]; omega
theorem str_beq (s t : ByteArray) : (s.toList == t.toList) = decide (s = t) := by
  rw [ByteArray.toList_eq, ByteArray.toList_eq]
  by_cases h : s = t
  · subst h; simp
  · simp only [h, decide_false, beq_eq_false_iff_ne, ne_eq]
    intro q; apply h
    cases s; cases t
    congr 1
    exact Array.toList_inj.mp q
theorem dig_num {c : Nat} (h : 48 ≤ c) (h' : c ≤ 57) : dig c = some (c - 48) := if_pos ⟨h, h'⟩
theorem dig_let {c : Nat} (h : ¬ (48 ≤ c ∧ c ≤ 57)) (h1 : 97 ≤ c ||| 32) (h2 : c ||| 32 ≤ 122) : dig c = some ((c ||| 32) - 87) := by rw [dig, if_neg h, if_pos ⟨h1, h2⟩]
theorem dig_no {c : Nat} (h : ¬ (48 ≤ c ∧ c ≤ 57)) (h1 : ¬ (97 ≤ c ||| 32 ∧ c ||| 32 ≤ 122)) : dig c = none := by rw [dig, if_neg h, if_neg h1]
theorem or_lt {c : Nat} (h : c < 256) : c ||| 32 < 256 := Nat.or_lt_two_pow (n := 8) h (by decide)
theorem ext_le (s : ByteArray) (i j : Nat) : (s.extract i j).size ≤ s.size := by rw [ByteArray.size_extract]; omega
theorem cutA_le (s : ByteArray) : (cutA s).size ≤ s.size := by unfold cutA; split; exact ext_le _ _ _; exact Nat.le_refl _
theorem cutB_le (s : ByteArray) : (cutB s).size ≤ s.size := by unfold cutB; split; exact ext_le _ _ _; exact Nat.zero_le _
theorem pu16_lt : ∀ (l : List UInt8) (n : Nat), n < 18446744073709551616 → (pu16 n l).1 < 18446744073709551616
  | [], n, h => h
  | c :: l, n, h => by
    unfold pu16
    split
    · decide
    · rename_i d hd
      split
      · decide
      · split
        · decide
        · exact pu16_lt l _ (by omega)
theorem puOf_lt (s : ByteArray) : (puOf s).1 < 18446744073709551616 := by
  unfold puOf
  split
  · decide
  · exact pu16_lt _ _ (by decide)
def pW (s : ByteArray) : Int := atoiN (cutA s)
def pL (s : ByteArray) : Nat := (puOf ((cutB s).extract ((cutB s).size - 16) (cutB s).size)).1
def pH (s : ByteArray) : Nat := (puOf ((cutB s).extract 0 ((cutB s).size - 16))).1
def pV (s : ByteArray) : Nat := pH s * 18446744073709551616 + pL s
theorem pV_lt (s : ByteArray) : pV s < 2 ^ 128 := by
  have h1 : pL s < 18446744073709551616 := puOf_lt _
  have h2 : pH s < 18446744073709551616 := puOf_lt _
  unfold pV; omega
theorem pV_hi (s : ByteArray) : hiOf (pV s) = (pH s : Int) := by
  have h1 : pL s < 18446744073709551616 := puOf_lt _
  unfold hiOf pV; omega
theorem pV_lo (s : ByteArray) : loOf (pV s) = (pL s : Int) := by
  have h1 : pL s < 18446744073709551616 := puOf_lt _
  unfold loOf pV; omega
def Yes (s : ByteArray) : Prop := ∃ w : Nat, pW s = (w : Int) ∧ 1 ≤ w ∧ w ≤ 128 ∧ pV s < 2 ^ w ∧ textB w (pV s) = s
theorem str_ne {s t : ByteArray} (h : s ≠ t) : (!(s.toList == t.toList)) = true := by rw [str_beq, decide_eq_false h]; rfl
theorem str_ne0 {s t : ByteArray} (h : s = t) : (!(s.toList == t.toList)) = false := by rw [str_beq, decide_eq_true h]; rfl
theorem lcut_w (s : ByteArray) (hs : s.size ≤ 281474976710656) : CallsP Tryz.prog Lw 192 [.sc (.string s), .sc (.string ⟨#[119]⟩)] (cutD s) := by
  have hlt := idx_le s 119
  refine callsP_of gs_lw Tryz.func192 rfl Tryz.ntmps192 rfl fun w0 S0 stab => ?_
  refine sqq <| rgq <| asq rfl rfl <| asq rfl rfl <| asq rfl rfl <| nxq <| sqq <| sqq ?_
  refine rgq <| mvq rfl rfl <| mvq rfl rfl <| sq (f_call en224 rfl (idx_c s) (lt rfl)) rfl rfl <| asq rfl rfl <| nxq <| sqq ?_
  by_cases h : 0 ≤ Lib.indexByte s.data.toList 119
  · have hl := hlt h
    refine rgq <| mvq rfl rfl <| sq (f_bin rfl rfl (bT (decide_eq_true h)) (lt rfl)) rfl rfl <| nxq <| cnT rfl <| sqq <| hits_drawn mixed <| dq (f_move rfl (lt rfl)) rfl rfl ?_
    refine dq (f_move rfl (lt rfl)) rfl rfl <| dq (f_sliceStr rfl rfl rfl un9 (Int.le_refl 0) h (Int.le_of_lt hl) (lt rfl)) rfl rfl <| dq (f_move rfl (lt rfl)) rfl rfl <| dq (f_move rfl (lt rfl)) rfl rfl <| dq (f_move rfl (lt rfl)) rfl rfl <| dq (f_lenStr rfl un9 (lt rfl)) rfl rfl <| dq (f_bin rfl rfl (iT ((IntWalk.i64_in _ (by omega) : _ = Lib.indexByte s.data.toList 119 + 1))) (lt rfl)) rfl rfl <| dq (f_sliceStr rfl rfl rfl un9 (by omega) (by omega) (Int.le_refl _) (lt rfl)) rfl rfl ?_
    refine dq (f_assign rfl (lt rfl)) rfl rfl <| dq (f_assign rfl (lt rfl)) rfl rfl <| dq (f_assign rfl (lt rfl)) rfl rfl <| dq_nil rfl <| toq <| rtq <| to_ret ?_
    exact hits_done (.inl rfl) rfl rfl (by rw [cutD, cutA, cutB, if_pos h, if_pos h, decide_eq_true h, show (Lib.indexByte s.data.toList 119).toNat + 1 = (Lib.indexByte s.data.toList 119 + 1).toNat from by omega]; rfl)
  · refine rgq <| mvq rfl rfl <| sq (f_bin rfl rfl (bT (decide_eq_false h)) (lt rfl)) rfl rfl <| nxq <| cnF rfl <| skq <| toq <| sqq ?_
    refine rgq <| mvq rfl rfl <| asq rfl rfl <| asq rfl rfl <| asq rfl rfl <| nxq <| rtq ?_
    exact hits_done (.inl rfl) rfl rfl (by rw [cutD, cutA, cutB, if_neg h, if_neg h, decide_eq_false h]; rfl)
theorem cut_w (s : ByteArray) (hs : s.size ≤ 281474976710656) : CallsP Tryz.prog Lw 146 [.sc (.string s), .sc (.string ⟨#[119]⟩)] (cutD s) := by
  refine callsP_of gs_lw Tryz.func146 rfl Tryz.ntmps146 rfl fun w0 S0 stab => ?_
  refine sqq <| rgq <| asq rfl rfl <| asq rfl rfl <| asq rfl rfl <| nxq <| sqq <| rgq ?_
  refine mvq rfl rfl <| mvq rfl rfl <| sq (f_call en192 rfl (lcut_w s hs) (lt rfl)) rfl rfl <| exq rfl rfl rfl <| exq rfl rfl rfl <| exq rfl rfl rfl <| asq rfl rfl <| asq rfl rfl ?_
  refine asq rfl rfl <| nxq <| rtq ?_
  exact hits_done (.inl rfl) rfl rfl rfl
theorem low_c {c : Nat} (h : c < 256) : CallsP Tryz.prog Lw 194 [.sc (.int .u8 (c : Int))] (.sc (.int .u8 ((c ||| 32 : Nat) : Int))) := by
  refine callsP_of gs_lw Tryz.func194 rfl Tryz.ntmps194 rfl fun w0 S0 stab => ?_
  refine sqq <| rgq <| asq rfl rfl <| nxq <| sqq <| rgq <| mvq rfl rfl <| sq (f_bin rfl rfl (iT (low_is h)) (lt rfl)) rfl rfl ?_
  refine asq rfl rfl <| nxq <| rtq ?_
  exact hits_done (.inl rfl) rfl rfl rfl
theorem pu_none : CallsP Tryz.prog Lw 148 [.sc (.string ⟨#[]⟩), .sc (.int .i64 16), .sc (.int .i64 64)] (puD (0, 2)) := by
  refine callsP_of gs_lw Tryz.func148 rfl Tryz.ntmps148 rfl fun w0 S0 stab => ?_
  refine sqq <| rgq <| asq rfl rfl <| asq rfl rfl <| nxq <| sqq <| sqq <| rgq ?_
  refine mvq rfl rfl <| sq (f_bin rfl rfl (bT (b' := true) (beq_self_eq_true _)) (lt rfl)) rfl rfl <| nxq <| cnT rfl <| sqq <| rgq <| sq (f_mkIface rfl nif240 (lt rfl)) rfl rfl <| asq rfl rfl ?_
  refine asq rfl rfl <| nxq <| rtq <| to_ret ?_
  exact hits_done (.inl rfl) rfl rfl rfl
set_option maxHeartbeats 4000000 in
theorem pu_some (s : ByteArray) (hs : s.size ≤ 281474976710656) (h0 : s.size ≠ 0) : CallsP Tryz.prog Lw 148 [.sc (.string s), .sc (.int .i64 16), .sc (.int .i64 64)] (puD (pu16 0 s.data.toList)) := by
  refine callsP_of gs_lw Tryz.func148 rfl Tryz.ntmps148 rfl fun w0 S0 stab => ?_
  refine sqq <| rgq <| asq rfl rfl <| asq rfl rfl <| nxq <| sqq <| sqq <| rgq ?_
  refine mvq rfl rfl <| sq (f_bin rfl rfl (bT (b' := false) (by rw [str_beq]; exact decide_eq_false (fun c => by subst c; exact h0 rfl))) (lt rfl)) rfl rfl ?_
  refine nxq <| cnF rfl <| skq <| toq <| sqq <| rgq <| mvq rfl rfl <| sq (f_bin rfl rfl (bT (b' := false) rfl) (lt rfl)) rfl rfl ?_
  refine asq rfl rfl <| nxq <| sqq <| rgq <| mvq rfl rfl <| asq rfl rfl <| nxq <| sqq ?_
  refine hits_block <| sqq <| rgq <| mvq rfl rfl <| sq (f_bin rfl rfl (bT (b' := true) rfl) (lt rfl)) rfl rfl <| mvq rfl rfl <| sq_yes (f_move rfl (lt rfl)) rfl rfl rfl rfl (lt rfl) <| sq_yes (f_bin rfl rfl (bT (b' := true) rfl) (lt rfl)) rfl rfl rfl rfl (lt rfl) ?_
  refine pkq rfl rfl rfl <| asq rfl rfl <| nxq <| cnT rfl <| skq <| inq <| toq <| sqq ?_
  refine sqq <| rgq <| mvq rfl rfl <| sq (f_bin rfl rfl (bT (b' := false) rfl) (lt rfl)) rfl rfl <| nxq <| cnF rfl <| sqq <| rgq ?_
  refine mvq rfl rfl <| sq (f_bin rfl rfl (bT (b' := false) rfl) (lt rfl)) rfl rfl <| mvq rfl rfl <| sq_yes (f_move rfl (lt rfl)) rfl rfl rfl rfl (lt rfl) <| sq_yes (f_bin rfl rfl (bT (b' := false) rfl) (lt rfl)) rfl rfl rfl rfl (lt rfl) <| pkq rfl rfl rfl <| nxq <| cnF rfl ?_
  refine skq <| toq <| sqq <| rgq <| asq rfl rfl <| nxq <| sqq <| sqq ?_
  refine rgq <| mvq rfl rfl <| nxq <| hits_block <| sqq <| rgq <| sq (f_bin rfl rfl (bT (b' := false) rfl) (lt rfl)) rfl rfl <| asq rfl rfl ?_
  refine nxq <| cnF rfl <| sqq <| rgq <| sq (f_bin rfl rfl (bT (b' := true) rfl) (lt rfl)) rfl rfl <| asq rfl rfl <| nxq <| cnT rfl ?_
  refine rgq <| asq rfl rfl <| nlq <| inq <| toq <| sqq <| rgq <| mvq rfl rfl ?_
  refine sq (f_convI rfl us3 un158 (by decide : _ = (64 : Int)) (lt rfl)) rfl rfl <| sq (f_shl rfl rfl (by omega) (lt rfl)) rfl rfl <| sq (f_bin rfl rfl (iT ((by decide : _ = (18446744073709551615 : Int)))) (lt rfl)) rfl rfl <| asq rfl rfl <| nxq <| sqq <| rgq <| asq rfl rfl ?_
  refine nxq <| sqq <| rgq <| asq rfl rfl <| nxq <| sqq <| sqq <| rgq ?_
  refine mvq rfl rfl <| sq (f_bytes rfl us9 un86 un5 (lt rfl)) rfl rfl <| sq (f_lenList rfl rfl un86 (lt rfl)) rfl rfl <| mvq rfl rfl <| nxq <| hits_block <| hits_loop (fun x : Nat × Nat => [(.slot 1, some (.d (.sc (.int .i64 16)))), (.slot 8, some (.d (.sc (.bool false)))), (.slot 10, some (.d (.sc (.int .u64 1152921504606846976)))), (.slot 11, some (.d (.sc (.int .u64 18446744073709551615)))), (.slot 12, some (.d (.sc (.bool false)))), (.slot 13, some (.d (.sc (.int .u64 (x.1 : Int))))), (.slot 99, some (.d (.list 1 (bytesL s)))), (.slot 100, some (.d (.sc (.int .i64 ((bytesL s).length : Int))))), (.slot 101, some (.d (.sc (.int .i64 (x.2 : Int)))))]) (fun x => x.2 ≤ s.size ∧ x.1 < 18446744073709551616 ∧ pu16 0 s.data.toList = pu16 x.1 (s.data.toList.drop x.2)) (fun x => s.size - x.2) (0, 0) ⟨Nat.zero_le _, by decide, by simp⟩ ⟨rfl, rfl, rfl, rfl, rfl, rfl, rfl, rfl, rfl, trivial⟩ rfl ?_
  intro x hx
  obtain ⟨n, i⟩ := x
  obtain ⟨hi, hn64, hJ⟩ := hx
  simp only at hi hn64 hJ
  change Hits _ [(.slot 1, some (.d (.sc (.int .i64 16)))), (.slot 8, some (.d (.sc (.bool false)))), (.slot 10, some (.d (.sc (.int .u64 1152921504606846976)))), (.slot 11, some (.d (.sc (.int .u64 18446744073709551615)))), (.slot 12, some (.d (.sc (.bool false)))), (.slot 13, some (.d (.sc (.int .u64 (n : Int))))), (.slot 99, some (.d (.list 1 (bytesL s)))), (.slot 100, some (.d (.sc (.int .i64 ((bytesL s).length : Int))))), (.slot 101, some (.d (.sc (.int .i64 (i : Int)))))] _
  refine sqq <| rgq <| sq (f_bin rfl rfl rfl (lt rfl)) rfl rfl <| nxq <| sqq ?_
  refine hits_cond rfl (fun c11 => ?_) (fun c11 => ?_)
  · refine skq <| toq <| sqq <| hits_block <| sqq ?_
    have hlt : i < s.size := by have := of_decide_eq_true c11; rw [bytesL_length] at this; omega
    obtain ⟨c, hat⟩ : ∃ c, s.data.toList[i]? = some c := ⟨_, List.getElem?_eq_getElem (by simpa using hlt)⟩
    have hb : (bytesL s)[((i : Int)).toNat]? = some (.sc (.int .u8 (c.toNat : Int))) := by rw [Int.toNat_natCast, bytesL, List.getElem?_map, hat]; rfl
    have hdrop : s.data.toList.drop i = c :: s.data.toList.drop (i + 1) := by obtain ⟨h1, h2⟩ := List.getElem?_eq_some_iff.mp hat; rw [List.drop_eq_getElem_cons h1, h2]
    have hc : c.toNat < 256 := c.toNat_lt
    have ho := or_lt hc
    refine rgq <| sq (f_idxList rfl rfl rfl un86 kd5 (Int.natCast_nonneg _) hb (lt rfl)) rfl rfl <| ldq kd5 rfl rfl rfl <| asq rfl rfl <| nxq <| sqq <| rgq <| asq rfl rfl ?_
    refine nxq <| sqq <| hits_block <| sqq ?_
    by_cases h1 : 48 ≤ c.toNat ∧ c.toNat ≤ 57
    · obtain ⟨h1, h2⟩ := h1
      refine rgq <| mvq rfl rfl <| sq (f_bin rfl rfl (bT (beq_eq_false_iff_ne.mpr (by omega))) (lt rfl)) rfl rfl <| mvq rfl rfl <| noq rfl rfl rfl rfl rfl rfl rfl <| pkq rfl rfl rfl <| asq rfl rfl <| nxq ?_
      refine cnF rfl <| sqq <| rgq <| mvq rfl rfl <| sq (f_bin rfl rfl (bT (decide_eq_true (by omega))) (lt rfl)) rfl rfl <| mvq rfl rfl <| sq_yes (f_move rfl (lt rfl)) rfl rfl rfl rfl (lt rfl) <| sq_yes (f_bin rfl rfl (bT (decide_eq_true (by omega))) (lt rfl)) rfl rfl rfl rfl (lt rfl) ?_
      refine pkq rfl rfl rfl <| asq rfl rfl <| nxq <| cnT rfl <| rgq <| mvq rfl rfl <| sq (f_bin rfl rfl (iT ((u8_sub hc h1 : _ = ((c.toNat - 48 : Nat) : Int)))) (lt rfl)) rfl rfl <| asq rfl rfl ?_
      refine nlq <| inq <| toq <| sqq <| sqq ?_
      by_cases hd : 16 ≤ c.toNat - 48
      · refine rgq <| mvq rfl rfl <| mvq rfl rfl <| sq (f_convI rfl us3 un5 (by decide : _ = (16 : Int)) (lt rfl)) rfl rfl <| sq (f_bin rfl rfl (bT (decide_eq_true (by omega))) (lt rfl)) rfl rfl <| nxq <| cnT rfl <| sqq ?_
        refine rgq <| sq (f_mkIface rfl nif240 (lt rfl)) rfl rfl <| asq rfl rfl <| asq rfl rfl <| nxq <| rtq <| to_ret <| in_ret ?_
        refine to_ret <| to_ret <| in_ret <| to_ret ?_
        exact hits_done (.inl rfl) rfl rfl (by rw [hJ, hdrop, pu_big (dig_num h1 h2) hd]; rfl)
      · by_cases hn : 1152921504606846976 ≤ n
        · refine rgq <| mvq rfl rfl <| mvq rfl rfl <| sq (f_convI rfl us3 un5 (by decide : _ = (16 : Int)) (lt rfl)) rfl rfl <| sq (f_bin rfl rfl (bT (decide_eq_false (by omega))) (lt rfl)) rfl rfl <| nxq <| cnF rfl <| skq ?_
          refine toq <| sqq <| sqq <| rgq <| mvq rfl rfl <| mvq rfl rfl <| sq (f_bin rfl rfl (bT (decide_eq_true (by omega))) (lt rfl)) rfl rfl <| nxq ?_
          refine cnT rfl <| sqq <| rgq <| mvq rfl rfl <| sq (f_mkIface rfl nif240 (lt rfl)) rfl rfl <| asq rfl rfl <| asq rfl rfl <| nxq ?_
          refine rtq <| to_ret <| in_ret <| to_ret <| to_ret <| in_ret <| to_ret ?_
          exact hits_done (.inl rfl) rfl rfl (by rw [hJ, hdrop, pu_rng (dig_num h1 h2) hd hn]; rfl)
        · have hm : n * 16 + (c.toNat - 48) < 18446744073709551616 := by omega
          refine rgq <| mvq rfl rfl <| mvq rfl rfl <| sq (f_convI rfl us3 un5 (by decide : _ = (16 : Int)) (lt rfl)) rfl rfl <| sq (f_bin rfl rfl (bT (decide_eq_false (by omega))) (lt rfl)) rfl rfl <| nxq <| cnF rfl <| skq ?_
          refine toq <| sqq <| sqq <| rgq <| mvq rfl rfl <| mvq rfl rfl <| sq (f_bin rfl rfl (bT (decide_eq_false (by omega))) (lt rfl)) rfl rfl <| nxq ?_
          refine cnF rfl <| skq <| toq <| sqq <| rgq <| mvq rfl rfl <| mvq rfl rfl <| sq (f_convI rfl us3 un33 (by decide : _ = (16 : Int)) (lt rfl)) rfl rfl ?_
          refine sq (f_bin rfl rfl (iT ((u64_in (by omega) : _ = ((n * 16 : Nat) : Int)))) (lt rfl)) rfl rfl <| asq rfl rfl <| nxq <| sqq <| rgq <| mvq rfl rfl <| mvq rfl rfl <| sq (f_convI rfl us5 un33 (u64_in (by omega)) (lt rfl)) rfl rfl ?_
          refine sq (f_bin rfl rfl (iT ((u64_in hm : _ = ((n * 16 + (c.toNat - 48) : Nat) : Int)))) (lt rfl)) rfl rfl <| asq rfl rfl <| nxq <| sqq <| sqq <| rgq <| mvq rfl rfl <| mvq rfl rfl ?_
          refine sq (f_bin rfl rfl (bT (decide_eq_false (by omega))) (lt rfl)) rfl rfl <| mvq rfl rfl <| sq_yes (f_move rfl (lt rfl)) rfl rfl rfl rfl (lt rfl) <| sq_yes (f_move rfl (lt rfl)) rfl rfl rfl rfl (lt rfl) <| sq_yes (f_bin rfl rfl (bT (decide_eq_false (by omega))) (lt rfl)) rfl rfl rfl rfl (lt rfl) <| pkq rfl rfl rfl <| nxq <| cnF rfl ?_
          refine skq <| toq <| rgq <| mvq rfl rfl <| asq rfl rfl <| nlq <| inq <| toq ?_
          refine rgq <| sq (f_bin rfl rfl (iT ((wrap_succ (by omega) : _ = ((i + 1 : Nat) : Int)))) (lt rfl)) rfl rfl <| mvq rfl rfl <| nxq ?_
          refine round_end (n * 16 + (c.toNat - 48), i + 1) ⟨by omega, hm, hJ.trans (by rw [hdrop, pu_go (dig_num h1 h2) hd hn])⟩ (by omega) ⟨rfl, rfl, rfl, rfl, rfl, rfl, rfl, rfl, rfl, trivial⟩ rfl
    · by_cases h2 : 97 ≤ c.toNat ||| 32 ∧ c.toNat ||| 32 ≤ 122
      · obtain ⟨h2, h3⟩ := h2
        have hn95 : c.toNat ≠ 95 := fun e => by rw [e] at h3; exact absurd h3 (by decide)
        refine rgq <| mvq rfl rfl <| sq (f_bin rfl rfl (bT (beq_eq_false_iff_ne.mpr (by omega))) (lt rfl)) rfl rfl <| mvq rfl rfl <| noq rfl rfl rfl rfl rfl rfl rfl <| pkq rfl rfl rfl <| asq rfl rfl <| nxq ?_
        refine cnF rfl <| sqq ?_
        by_cases h4 : 48 ≤ c.toNat
        · refine rgq <| mvq rfl rfl <| sq (f_bin rfl rfl (bT (decide_eq_true (by omega))) (lt rfl)) rfl rfl <| mvq rfl rfl <| sq_yes (f_move rfl (lt rfl)) rfl rfl rfl rfl (lt rfl) <| sq_yes (f_bin rfl rfl (bT (decide_eq_false (by omega))) (lt rfl)) rfl rfl rfl rfl (lt rfl) <| pkq rfl rfl rfl <| asq rfl rfl ?_
          refine nxq <| cnF rfl <| sqq <| rgq <| mvq rfl rfl <| sq (f_call en194 rfl (low_c hc) (lt rfl)) rfl rfl <| sq (f_bin rfl rfl (bT (decide_eq_true (by omega))) (lt rfl)) rfl rfl <| mvq rfl rfl ?_
          refine sq_yes (f_move rfl (lt rfl)) rfl rfl rfl rfl (lt rfl) <| sq_yes (f_call en194 rfl (low_c hc) (lt rfl)) rfl rfl rfl rfl (lt rfl) <| sq_yes (f_bin rfl rfl (bT (decide_eq_true (by omega))) (lt rfl)) rfl rfl rfl rfl (lt rfl) <| pkq rfl rfl rfl <| asq rfl rfl <| nxq <| cnT rfl <| rgq ?_
          refine mvq rfl rfl <| sq (f_call en194 rfl (low_c hc) (lt rfl)) rfl rfl <| sq (f_bin rfl rfl (iT ((u8_sub ho (by omega) : _ = (((c.toNat ||| 32) - 97 : Nat) : Int)))) (lt rfl)) rfl rfl <| sq (f_bin rfl rfl (iT (((u8_add (k := 10) (by omega)).trans (by omega) : _ = (((c.toNat ||| 32) - 87 : Nat) : Int)))) (lt rfl)) rfl rfl <| asq rfl rfl <| nlq <| inq <| toq ?_
          refine sqq <| sqq ?_
          by_cases hd : 16 ≤ (c.toNat ||| 32) - 87
          · refine rgq <| mvq rfl rfl <| mvq rfl rfl <| sq (f_convI rfl us3 un5 (by decide : _ = (16 : Int)) (lt rfl)) rfl rfl <| sq (f_bin rfl rfl (bT (decide_eq_true (by omega))) (lt rfl)) rfl rfl <| nxq <| cnT rfl <| sqq ?_
            refine rgq <| sq (f_mkIface rfl nif240 (lt rfl)) rfl rfl <| asq rfl rfl <| asq rfl rfl <| nxq <| rtq <| to_ret <| in_ret ?_
            refine to_ret <| to_ret <| in_ret <| to_ret ?_
            exact hits_done (.inl rfl) rfl rfl (by rw [hJ, hdrop, pu_big (dig_let h1 h2 h3) hd]; rfl)
          · by_cases hn : 1152921504606846976 ≤ n
            · refine rgq <| mvq rfl rfl <| mvq rfl rfl <| sq (f_convI rfl us3 un5 (by decide : _ = (16 : Int)) (lt rfl)) rfl rfl <| sq (f_bin rfl rfl (bT (decide_eq_false (by omega))) (lt rfl)) rfl rfl <| nxq <| cnF rfl <| skq ?_
              refine toq <| sqq <| sqq <| rgq <| mvq rfl rfl <| mvq rfl rfl <| sq (f_bin rfl rfl (bT (decide_eq_true (by omega))) (lt rfl)) rfl rfl <| nxq ?_
              refine cnT rfl <| sqq <| rgq <| mvq rfl rfl <| sq (f_mkIface rfl nif240 (lt rfl)) rfl rfl <| asq rfl rfl <| asq rfl rfl <| nxq ?_
              refine rtq <| to_ret <| in_ret <| to_ret <| to_ret <| in_ret <| to_ret ?_
              exact hits_done (.inl rfl) rfl rfl (by rw [hJ, hdrop, pu_rng (dig_let h1 h2 h3) hd hn]; rfl)
            · have hm : n * 16 + ((c.toNat ||| 32) - 87) < 18446744073709551616 := by omega
              refine rgq <| mvq rfl rfl <| mvq rfl rfl <| sq (f_convI rfl us3 un5 (by decide : _ = (16 : Int)) (lt rfl)) rfl rfl <| sq (f_bin rfl rfl (bT (decide_eq_false (by omega))) (lt rfl)) rfl rfl <| nxq <| cnF rfl <| skq ?_
              refine toq <| sqq <| sqq <| rgq <| mvq rfl rfl <| mvq rfl rfl <| sq (f_bin rfl rfl (bT (decide_eq_false (by omega))) (lt rfl)) rfl rfl <| nxq ?_
              refine cnF rfl <| skq <| toq <| sqq <| rgq <| mvq rfl rfl <| mvq rfl rfl <| sq (f_convI rfl us3 un33 (by decide : _ = (16 : Int)) (lt rfl)) rfl rfl ?_
              refine sq (f_bin rfl rfl (iT ((u64_in (by omega) : _ = ((n * 16 : Nat) : Int)))) (lt rfl)) rfl rfl <| asq rfl rfl <| nxq <| sqq <| rgq <| mvq rfl rfl <| mvq rfl rfl <| sq (f_convI rfl us5 un33 (u64_in (by omega)) (lt rfl)) rfl rfl ?_
              refine sq (f_bin rfl rfl (iT ((u64_in hm : _ = ((n * 16 + ((c.toNat ||| 32) - 87) : Nat) : Int)))) (lt rfl)) rfl rfl <| asq rfl rfl <| nxq <| sqq <| sqq <| rgq <| mvq rfl rfl <| mvq rfl rfl ?_
              refine sq (f_bin rfl rfl (bT (decide_eq_false (by omega))) (lt rfl)) rfl rfl <| mvq rfl rfl <| sq_yes (f_move rfl (lt rfl)) rfl rfl rfl rfl (lt rfl) <| sq_yes (f_move rfl (lt rfl)) rfl rfl rfl rfl (lt rfl) <| sq_yes (f_bin rfl rfl (bT (decide_eq_false (by omega))) (lt rfl)) rfl rfl rfl rfl (lt rfl) <| pkq rfl rfl rfl <| nxq <| cnF rfl ?_
              refine skq <| toq <| rgq <| mvq rfl rfl <| asq rfl rfl <| nlq <| inq <| toq ?_
              refine rgq <| sq (f_bin rfl rfl (iT ((wrap_succ (by omega) : _ = ((i + 1 : Nat) : Int)))) (lt rfl)) rfl rfl <| mvq rfl rfl <| nxq ?_
              refine round_end (n * 16 + ((c.toNat ||| 32) - 87), i + 1) ⟨by omega, hm, hJ.trans (by rw [hdrop, pu_go (dig_let h1 h2 h3) hd hn])⟩ (by omega) ⟨rfl, rfl, rfl, rfl, rfl, rfl, rfl, rfl, rfl, trivial⟩ rfl
        · refine rgq <| mvq rfl rfl <| sq (f_bin rfl rfl (bT (decide_eq_false (by omega))) (lt rfl)) rfl rfl <| mvq rfl rfl <| noq rfl rfl rfl rfl rfl rfl rfl <| noq rfl rfl rfl rfl rfl rfl rfl <| pkq rfl rfl rfl <| asq rfl rfl ?_
          refine nxq <| cnF rfl <| sqq <| rgq <| mvq rfl rfl <| sq (f_call en194 rfl (low_c hc) (lt rfl)) rfl rfl <| sq (f_bin rfl rfl (bT (decide_eq_true (by omega))) (lt rfl)) rfl rfl <| mvq rfl rfl ?_
          refine sq_yes (f_move rfl (lt rfl)) rfl rfl rfl rfl (lt rfl) <| sq_yes (f_call en194 rfl (low_c hc) (lt rfl)) rfl rfl rfl rfl (lt rfl) <| sq_yes (f_bin rfl rfl (bT (decide_eq_true (by omega))) (lt rfl)) rfl rfl rfl rfl (lt rfl) <| pkq rfl rfl rfl <| asq rfl rfl <| nxq <| cnT rfl <| rgq ?_
          refine mvq rfl rfl <| sq (f_call en194 rfl (low_c hc) (lt rfl)) rfl rfl <| sq (f_bin rfl rfl (iT ((u8_sub ho (by omega) : _ = (((c.toNat ||| 32) - 97 : Nat) : Int)))) (lt rfl)) rfl rfl <| sq (f_bin rfl rfl (iT (((u8_add (k := 10) (by omega)).trans (by omega) : _ = (((c.toNat ||| 32) - 87 : Nat) : Int)))) (lt rfl)) rfl rfl <| asq rfl rfl <| nlq <| inq <| toq ?_
          refine sqq <| sqq ?_
          by_cases hd : 16 ≤ (c.toNat ||| 32) - 87
          · refine rgq <| mvq rfl rfl <| mvq rfl rfl <| sq (f_convI rfl us3 un5 (by decide : _ = (16 : Int)) (lt rfl)) rfl rfl <| sq (f_bin rfl rfl (bT (decide_eq_true (by omega))) (lt rfl)) rfl rfl <| nxq <| cnT rfl <| sqq ?_
            refine rgq <| sq (f_mkIface rfl nif240 (lt rfl)) rfl rfl <| asq rfl rfl <| asq rfl rfl <| nxq <| rtq <| to_ret <| in_ret ?_
            refine to_ret <| to_ret <| in_ret <| to_ret ?_
            exact hits_done (.inl rfl) rfl rfl (by rw [hJ, hdrop, pu_big (dig_let h1 h2 h3) hd]; rfl)
          · by_cases hn : 1152921504606846976 ≤ n
            · refine rgq <| mvq rfl rfl <| mvq rfl rfl <| sq (f_convI rfl us3 un5 (by decide : _ = (16 : Int)) (lt rfl)) rfl rfl <| sq (f_bin rfl rfl (bT (decide_eq_false (by omega))) (lt rfl)) rfl rfl <| nxq <| cnF rfl <| skq ?_
              refine toq <| sqq <| sqq <| rgq <| mvq rfl rfl <| mvq rfl rfl <| sq (f_bin rfl rfl (bT (decide_eq_true (by omega))) (lt rfl)) rfl rfl <| nxq ?_
              refine cnT rfl <| sqq <| rgq <| mvq rfl rfl <| sq (f_mkIface rfl nif240 (lt rfl)) rfl rfl <| asq rfl rfl <| asq rfl rfl <| nxq ?_
              refine rtq <| to_ret <| in_ret <| to_ret <| to_ret <| in_ret <| to_ret ?_
              exact hits_done (.inl rfl) rfl rfl (by rw [hJ, hdrop, pu_rng (dig_let h1 h2 h3) hd hn]; rfl)
            · have hm : n * 16 + ((c.toNat ||| 32) - 87) < 18446744073709551616 := by omega
              refine rgq <| mvq rfl rfl <| mvq rfl rfl <| sq (f_convI rfl us3 un5 (by decide : _ = (16 : Int)) (lt rfl)) rfl rfl <| sq (f_bin rfl rfl (bT (decide_eq_false (by omega))) (lt rfl)) rfl rfl <| nxq <| cnF rfl <| skq ?_
              refine toq <| sqq <| sqq <| rgq <| mvq rfl rfl <| mvq rfl rfl <| sq (f_bin rfl rfl (bT (decide_eq_false (by omega))) (lt rfl)) rfl rfl <| nxq ?_
              refine cnF rfl <| skq <| toq <| sqq <| rgq <| mvq rfl rfl <| mvq rfl rfl <| sq (f_convI rfl us3 un33 (by decide : _ = (16 : Int)) (lt rfl)) rfl rfl ?_
              refine sq (f_bin rfl rfl (iT ((u64_in (by omega) : _ = ((n * 16 : Nat) : Int)))) (lt rfl)) rfl rfl <| asq rfl rfl <| nxq <| sqq <| rgq <| mvq rfl rfl <| mvq rfl rfl <| sq (f_convI rfl us5 un33 (u64_in (by omega)) (lt rfl)) rfl rfl ?_
              refine sq (f_bin rfl rfl (iT ((u64_in hm : _ = ((n * 16 + ((c.toNat ||| 32) - 87) : Nat) : Int)))) (lt rfl)) rfl rfl <| asq rfl rfl <| nxq <| sqq <| sqq <| rgq <| mvq rfl rfl <| mvq rfl rfl ?_
              refine sq (f_bin rfl rfl (bT (decide_eq_false (by omega))) (lt rfl)) rfl rfl <| mvq rfl rfl <| sq_yes (f_move rfl (lt rfl)) rfl rfl rfl rfl (lt rfl) <| sq_yes (f_move rfl (lt rfl)) rfl rfl rfl rfl (lt rfl) <| sq_yes (f_bin rfl rfl (bT (decide_eq_false (by omega))) (lt rfl)) rfl rfl rfl rfl (lt rfl) <| pkq rfl rfl rfl <| nxq <| cnF rfl ?_
              refine skq <| toq <| rgq <| mvq rfl rfl <| asq rfl rfl <| nlq <| inq <| toq ?_
              refine rgq <| sq (f_bin rfl rfl (iT ((wrap_succ (by omega) : _ = ((i + 1 : Nat) : Int)))) (lt rfl)) rfl rfl <| mvq rfl rfl <| nxq ?_
              refine round_end (n * 16 + ((c.toNat ||| 32) - 87), i + 1) ⟨by omega, hm, hJ.trans (by rw [hdrop, pu_go (dig_let h1 h2 h3) hd hn])⟩ (by omega) ⟨rfl, rfl, rfl, rfl, rfl, rfl, rfl, rfl, rfl, trivial⟩ rfl
      · by_cases h95 : c.toNat = 95
        · have e95 : ((c.toNat : Nat) : Int) = 95 := by omega
          refine rgq <| mvq rfl rfl <| sq (f_bin rfl rfl (bT (beq_iff_eq.mpr e95)) (lt rfl)) rfl rfl <| mvq rfl rfl <| sq_yes (f_move rfl (lt rfl)) rfl rfl rfl rfl (lt rfl) <| pkq rfl rfl rfl <| asq rfl rfl <| nxq ?_
          refine cnF rfl <| sqq <| rgq <| mvq rfl rfl <| sq (f_bin rfl rfl (bT (decide_eq_true (by omega))) (lt rfl)) rfl rfl <| mvq rfl rfl <| sq_yes (f_move rfl (lt rfl)) rfl rfl rfl rfl (lt rfl) <| sq_yes (f_bin rfl rfl (bT (decide_eq_false (by omega))) (lt rfl)) rfl rfl rfl rfl (lt rfl) ?_
          refine pkq rfl rfl rfl <| asq rfl rfl <| nxq <| cnF rfl <| sqq <| rgq <| mvq rfl rfl <| sq (f_call en194 rfl (low_c hc) (lt rfl)) rfl rfl ?_
          refine sq (f_bin rfl rfl (bT (decide_eq_true (by rw [h95]; decide))) (lt rfl)) rfl rfl ?_
          refine mvq rfl rfl <| sq_yes (f_move rfl (lt rfl)) rfl rfl rfl rfl (lt rfl) <| sq_yes (f_call en194 rfl (low_c hc) (lt rfl)) rfl rfl rfl rfl (lt rfl) <| sq_yes (f_bin rfl rfl (bT (decide_eq_false (by rw [h95]; decide))) (lt rfl)) rfl rfl rfl rfl (lt rfl) ?_
          refine pkq rfl rfl rfl <| asq rfl rfl <| nxq <| cnF rfl <| sqq <| rgq <| sq (f_mkIface rfl nif240 (lt rfl)) rfl rfl <| asq rfl rfl ?_
          refine asq rfl rfl <| nxq <| rtq <| in_ret <| to_ret <| in_ret <| to_ret <| to_ret ?_
          refine in_ret <| to_ret ?_
          exact hits_done (.inl rfl) rfl rfl (by rw [hJ, hdrop, pu_bad (dig_no h1 h2)]; rfl)
        · refine rgq <| mvq rfl rfl <| sq (f_bin rfl rfl (bT (beq_eq_false_iff_ne.mpr (by omega))) (lt rfl)) rfl rfl <| mvq rfl rfl <| noq rfl rfl rfl rfl rfl rfl rfl <| pkq rfl rfl rfl <| asq rfl rfl <| nxq ?_
          refine cnF rfl <| sqq ?_
          by_cases h4 : 48 ≤ c.toNat
          · refine rgq <| mvq rfl rfl <| sq (f_bin rfl rfl (bT (decide_eq_true (by omega))) (lt rfl)) rfl rfl <| mvq rfl rfl <| sq_yes (f_move rfl (lt rfl)) rfl rfl rfl rfl (lt rfl) <| sq_yes (f_bin rfl rfl (bT (decide_eq_false (by omega))) (lt rfl)) rfl rfl rfl rfl (lt rfl) <| pkq rfl rfl rfl <| asq rfl rfl ?_
            refine nxq <| cnF rfl <| sqq ?_
            by_cases h5 : 97 ≤ c.toNat ||| 32
            · refine rgq <| mvq rfl rfl <| sq (f_call en194 rfl (low_c hc) (lt rfl)) rfl rfl <| sq (f_bin rfl rfl (bT (decide_eq_true (by omega))) (lt rfl)) rfl rfl <| mvq rfl rfl <| sq_yes (f_move rfl (lt rfl)) rfl rfl rfl rfl (lt rfl) <| sq_yes (f_call en194 rfl (low_c hc) (lt rfl)) rfl rfl rfl rfl (lt rfl) <| sq_yes (f_bin rfl rfl (bT (decide_eq_false (by omega))) (lt rfl)) rfl rfl rfl rfl (lt rfl) ?_
              refine pkq rfl rfl rfl <| asq rfl rfl <| nxq <| cnF rfl <| sqq <| rgq <| sq (f_mkIface rfl nif240 (lt rfl)) rfl rfl <| asq rfl rfl ?_
              refine asq rfl rfl <| nxq <| rtq <| in_ret <| to_ret <| in_ret <| to_ret <| to_ret ?_
              refine in_ret <| to_ret ?_
              exact hits_done (.inl rfl) rfl rfl (by rw [hJ, hdrop, pu_bad (dig_no h1 h2)]; rfl)
            · refine rgq <| mvq rfl rfl <| sq (f_call en194 rfl (low_c hc) (lt rfl)) rfl rfl <| sq (f_bin rfl rfl (bT (decide_eq_false (by omega))) (lt rfl)) rfl rfl <| mvq rfl rfl <| noq rfl rfl rfl rfl rfl rfl rfl <| noq rfl rfl rfl rfl rfl rfl rfl <| noq rfl rfl rfl rfl rfl rfl rfl ?_
              refine pkq rfl rfl rfl <| asq rfl rfl <| nxq <| cnF rfl <| sqq <| rgq <| sq (f_mkIface rfl nif240 (lt rfl)) rfl rfl <| asq rfl rfl ?_
              refine asq rfl rfl <| nxq <| rtq <| in_ret <| to_ret <| in_ret <| to_ret <| to_ret ?_
              refine in_ret <| to_ret ?_
              exact hits_done (.inl rfl) rfl rfl (by rw [hJ, hdrop, pu_bad (dig_no h1 h2)]; rfl)
          · refine rgq <| mvq rfl rfl <| sq (f_bin rfl rfl (bT (decide_eq_false (by omega))) (lt rfl)) rfl rfl <| mvq rfl rfl <| noq rfl rfl rfl rfl rfl rfl rfl <| noq rfl rfl rfl rfl rfl rfl rfl <| pkq rfl rfl rfl <| asq rfl rfl ?_
            refine nxq <| cnF rfl <| sqq ?_
            by_cases h5 : 97 ≤ c.toNat ||| 32
            · refine rgq <| mvq rfl rfl <| sq (f_call en194 rfl (low_c hc) (lt rfl)) rfl rfl <| sq (f_bin rfl rfl (bT (decide_eq_true (by omega))) (lt rfl)) rfl rfl <| mvq rfl rfl <| sq_yes (f_move rfl (lt rfl)) rfl rfl rfl rfl (lt rfl) <| sq_yes (f_call en194 rfl (low_c hc) (lt rfl)) rfl rfl rfl rfl (lt rfl) <| sq_yes (f_bin rfl rfl (bT (decide_eq_false (by omega))) (lt rfl)) rfl rfl rfl rfl (lt rfl) ?_
              refine pkq rfl rfl rfl <| asq rfl rfl <| nxq <| cnF rfl <| sqq <| rgq <| sq (f_mkIface rfl nif240 (lt rfl)) rfl rfl <| asq rfl rfl ?_
              refine asq rfl rfl <| nxq <| rtq <| in_ret <| to_ret <| in_ret <| to_ret <| to_ret ?_
              refine in_ret <| to_ret ?_
              exact hits_done (.inl rfl) rfl rfl (by rw [hJ, hdrop, pu_bad (dig_no h1 h2)]; rfl)
            · refine rgq <| mvq rfl rfl <| sq (f_call en194 rfl (low_c hc) (lt rfl)) rfl rfl <| sq (f_bin rfl rfl (bT (decide_eq_false (by omega))) (lt rfl)) rfl rfl <| mvq rfl rfl <| noq rfl rfl rfl rfl rfl rfl rfl <| noq rfl rfl rfl rfl rfl rfl rfl <| noq rfl rfl rfl rfl rfl rfl rfl ?_
              refine pkq rfl rfl rfl <| asq rfl rfl <| nxq <| cnF rfl <| sqq <| rgq <| sq (f_mkIface rfl nif240 (lt rfl)) rfl rfl <| asq rfl rfl ?_
              refine asq rfl rfl <| nxq <| rtq <| in_ret <| to_ret <| in_ret <| to_ret <| to_ret ?_
              refine in_ret <| to_ret ?_
              exact hits_done (.inl rfl) rfl rfl (by rw [hJ, hdrop, pu_bad (dig_no h1 h2)]; rfl)
  · refine hits_exit <| to_exit <| to_exit <| in_hit rfl <| toq <| sqq <| sqq ?_
    have hend : i = s.size := by have := of_decide_eq_false c11; rw [bytesL_length] at this; omega
    have hall : pu16 0 s.data.toList = (n, 0) := by rw [hJ, List.drop_eq_nil_of_le (by simp; omega)]; rfl
    refine rgq <| mvq rfl rfl <| mvq rfl rfl <| noq rfl rfl rfl rfl rfl rfl rfl <| noq rfl rfl rfl rfl rfl rfl rfl <| noq rfl rfl rfl rfl rfl rfl rfl <| pkq rfl rfl rfl <| nxq ?_
    refine cnF rfl <| skq <| toq <| sqq <| rgq <| mvq rfl rfl <| asq rfl rfl <| asq rfl rfl ?_
    refine nxq <| rtq ?_
    exact hits_done (.inl rfl) rfl rfl (by rw [hall]; rfl)
theorem pu_c (s : ByteArray) (hs : s.size ≤ 281474976710656) : CallsP Tryz.prog Lw 148 [.sc (.string s), .sc (.int .i64 16), .sc (.int .i64 64)] (puD (puOf s)) := by
  unfold puOf
  by_cases h : s.size = 0
  · rw [if_pos h]
    obtain rfl : s = ⟨#[]⟩ := by cases s; rename_i a; congr 1; exact Array.eq_empty_of_size_eq_zero h
    exact pu_none
  · rw [if_neg h]; exact pu_some s hs h
theorem pu_err (s : ByteArray) : (puOf s).2 = 0 ∨ (puOf s).2 = 1 ∨ (puOf s).2 = 2 := by
  unfold puOf
  split
  · exact .inr (.inr rfl)
  · generalize s.data.toList = l
    have : ∀ n, (pu16 n l).2 = 0 ∨ (pu16 n l).2 = 1 ∨ (pu16 n l).2 = 2 := by
      induction l with
      | nil => intro n; exact .inl rfl
      | cons c l ih =>
        intro n
        unfold pu16
        split
        · exact .inr (.inr rfl)
        · split
          · exact .inr (.inr rfl)
          · split
            · exact .inr (.inl rfl)
            · exact ih _
    exact this 0
theorem spu_ok (s : ByteArray) (hs : s.size ≤ 281474976710656) {n : Nat} (h : puOf s = (n, 0)) : CallsP Tryz.prog Lw 90 [.sc (.string s), .sc (.int .i64 16), .sc (.int .i64 64)] (.tup [.sc (.int .u64 (n : Int)), .sc .nilIface]) := by
  have hp := pu_c s hs
  rw [h] at hp
  refine callsP_of gs_lw Tryz.func90 rfl Tryz.ntmps90 rfl fun w0 S0 stab => ?_
  refine sqq <| rgq <| asq rfl rfl <| asq rfl rfl <| nxq <| sqq <| rgq <| mvq rfl rfl ?_
  refine mvq rfl rfl <| mvq rfl rfl <| sq (f_call en148 rfl hp (lt rfl)) rfl rfl <| mvq rfl rfl <| exq rfl rfl rfl <| exq rfl rfl rfl <| asq rfl rfl <| asq rfl rfl ?_
  refine nxq <| sqq <| sqq <| rgq <| mvq rfl rfl <| sq (f_ifNe0 rfl isf151 (lt rfl)) rfl rfl <| nxq <| cnF rfl ?_
  refine skq <| toq <| sqq <| rgq <| mvq rfl rfl <| asq rfl rfl <| asq rfl rfl <| nxq ?_
  refine rtq ?_
  exact hits_done (.inl rfl) rfl rfl rfl
theorem spu_err (s : ByteArray) (hs : s.size ≤ 281474976710656) {n k : Nat} (h : puOf s = (n, k + 1)) (hk : k + 1 = 1 ∨ k + 1 = 2) : CallsP Tryz.prog Lw 90 [.sc (.string s), .sc (.int .i64 16), .sc (.int .i64 64)] (.tup [.sc (.int .u64 (n : Int)), .any]) := by
  have hp := pu_c s hs
  rw [h] at hp
  refine callsP_of gs_lw Tryz.func90 rfl Tryz.ntmps90 rfl fun w0 S0 stab => ?_
  refine sqq <| rgq <| asq rfl rfl <| asq rfl rfl <| nxq <| sqq <| rgq <| mvq rfl rfl ?_
  refine mvq rfl rfl <| mvq rfl rfl <| sq (f_call en148 rfl hp (lt rfl)) rfl rfl <| mvq rfl rfl <| exq rfl rfl rfl <| exq rfl rfl rfl <| asq rfl rfl <| asq rfl rfl ?_
  refine nxq <| sqq <| sqq <| rgq <| mvq rfl rfl <| sq (f_ifNe rfl isf151 (lt rfl)) rfl rfl <| nxq <| cnT rfl ?_
  refine sqq <| rgq <| mvq rfl rfl <| mvq rfl rfl <| mvq rfl rfl <| mvq rfl rfl <| mvq rfl rfl <| sq (f_call en149 rfl (toErr_c ⟨#[80, 97, 114, 115, 101, 85, 105, 110, 116]⟩ s 16 64 (k + 1) hk hs) (lt rfl)) rfl rfl ?_
  refine asq rfl rfl <| asq rfl rfl <| nxq <| rtq <| to_ret ?_
  exact hits_done (.inl rfl) rfl rfl rfl
theorem spu_c (s : ByteArray) (hs : s.size ≤ 281474976710656) : ∃ r, CallsP Tryz.prog Lw 90 [.sc (.string s), .sc (.int .i64 16), .sc (.int .i64 64)] (.tup [.sc (.int .u64 ((puOf s).1 : Int)), r]) := by
  cases h : puOf s with
  | mk n k =>
    cases k with
    | zero => exact ⟨_, spu_ok s hs h⟩
    | succ k => exact ⟨_, spu_err s hs h (by have := pu_err s; rw [h] at this; simp at this; omega)⟩
theorem parse_yes (s : ByteArray) (hs : s.size ≤ 281474976710656) (h : Yes s) : CallsP Tryz.prog Lw 89 [.sc (.string s)] (.tup [.agg [.sc (.int .i64 (pW s)), .sc (.int .u64 (pH s : Int)), .sc (.int .u64 (pL s : Int))], .sc (.int .i64 0)]) := by
  have hA := cutA_le s
  have hB := cutB_le s
  have hat := atoi_c (cutA s) (by omega)
  obtain ⟨r1, hr1⟩ := spu_c ((cutB s).extract ((cutB s).size - 16) (cutB s).size) (Nat.le_trans (ext_le _ _ _) (by omega))
  obtain ⟨r2, hr2⟩ := spu_c ((cutB s).extract 0 ((cutB s).size - 16)) (Nat.le_trans (ext_le _ _ _) (by omega))
  obtain ⟨w, h1, h2, h3, h4, h5⟩ := h
  have ht := text_c h2 h3 h4
  unfold bitD at ht
  rw [pV_hi, pV_lo, ← h1, h5] at ht
  refine callsP_of gs_lw Tryz.func89 rfl Tryz.ntmps89 rfl fun w0 S0 stab => ?_
  refine sqq <| rgq <| sq (f_alloc zc35 (lt rfl)) rfl rfl <| asq rfl rfl <| nxq <| sqq <| rgq <| mvq rfl rfl ?_
  refine sq (f_call en146 rfl (cut_w s hs) (lt rfl)) rfl rfl <| mvq rfl rfl <| exq rfl rfl rfl <| exq rfl rfl rfl <| exq rfl rfl rfl <| asq rfl rfl <| asq rfl rfl <| asq rfl rfl ?_
  refine nxq <| sqq <| rgq <| sq (f_alloc zc35 (lt rfl)) rfl rfl <| nxq <| sqq <| rgq <| mvq rfl rfl ?_
  refine sq (f_call en147 rfl hat (lt rfl)) rfl rfl <| mvq rfl rfl <| exq rfl rfl rfl <| exq rfl rfl rfl <| faq rfl kf35_0 rfl rfl <| soq kd3 rfl rfl rfl rfl rfl <| nxq <| sqq ?_
  refine rgq <| mvq rfl rfl <| sq (f_lenStr rfl un9 (lt rfl)) rfl rfl <| sq (f_bin rfl rfl (iT ((IntWalk.i64_in _ (by omega) : _ = ((cutB s).size : Int) - 16))) (lt rfl)) rfl rfl <| sq (f_maxI rfl rfl (by split <;> omega : _ = (((cutB s).size - 16 : Nat) : Int)) (lt rfl)) rfl rfl ?_
  refine asq rfl rfl <| nxq <| sqq <| rgq <| mvq rfl rfl <| mvq rfl rfl <| sq (f_sliceStr rfl rfl rfl un9 (by omega) (by omega) (by omega) (lt rfl)) rfl rfl <| sq (f_call en90 rfl hr1 (lt rfl)) rfl rfl ?_
  refine mvq rfl rfl <| exq rfl rfl rfl <| exq rfl rfl rfl <| faq rfl kf35_2 rfl rfl <| soq kd33 rfl rfl rfl rfl rfl <| nxq <| sqq <| rgq ?_
  refine mvq rfl rfl <| mvq rfl rfl <| sq (f_sliceStr rfl rfl rfl un9 (by omega) (by omega) (by omega) (lt rfl)) rfl rfl <| sq (f_call en90 rfl hr2 (lt rfl)) rfl rfl <| mvq rfl rfl <| exq rfl rfl rfl <| exq rfl rfl rfl <| faq rfl kf35_1 rfl rfl ?_
  refine soq kd33 rfl rfl rfl rfl rfl <| nxq <| sqq <| sqq <| rgq <| ldq kd35 rfl rfl rfl <| sq (f_call en22 rfl ht (lt rfl)) rfl rfl <| mvq rfl rfl ?_
  refine exq rfl rfl rfl <| exq rfl rfl rfl <| asq rfl rfl <| asq rfl rfl <| nxq <| sqq <| rgq <| mvq rfl rfl ?_
  refine sq (f_bin rfl rfl (bT (b' := false) rfl) (lt rfl)) rfl rfl <| mvq rfl rfl <| sq_yes (f_move rfl (lt rfl)) rfl rfl rfl rfl (lt rfl) <| sq_yes (f_move rfl (lt rfl)) rfl rfl rfl rfl (lt rfl) <| sq_yes (f_bin rfl rfl (bT (str_ne0 rfl)) (lt rfl)) rfl rfl rfl rfl (lt rfl) <| pkq rfl rfl rfl <| nxq <| cnF rfl ?_
  refine skq <| toq <| sqq <| rgq <| ldq kd35 rfl rfl rfl <| soq kd35 rfl rfl rfl rfl rfl <| asq rfl rfl <| nxq ?_
  refine rtq ?_
  exact hits_done (.inl rfl) rfl rfl rfl
theorem parse_bad (s : ByteArray) (hs : s.size ≤ 281474976710656) (h : chk (pW s) (pV s) = false) : CallsP Tryz.prog Lw 89 [.sc (.string s)] (.tup [.agg [.sc (.int .i64 0), .sc (.int .u64 0), .sc (.int .u64 0)], .sc (.int .i64 8)]) := by
  have hA := cutA_le s
  have hB := cutB_le s
  have hat := atoi_c (cutA s) (by omega)
  obtain ⟨r1, hr1⟩ := spu_c ((cutB s).extract ((cutB s).size - 16) (cutB s).size) (Nat.le_trans (ext_le _ _ _) (by omega))
  obtain ⟨r2, hr2⟩ := spu_c ((cutB s).extract 0 ((cutB s).size - 16)) (Nat.le_trans (ext_le _ _ _) (by omega))
  have ht := text_no (pV_lt s) h
  rw [pV_hi, pV_lo] at ht
  refine callsP_of gs_lw Tryz.func89 rfl Tryz.ntmps89 rfl fun w0 S0 stab => ?_
  refine sqq <| rgq <| sq (f_alloc zc35 (lt rfl)) rfl rfl <| asq rfl rfl <| nxq <| sqq <| rgq <| mvq rfl rfl ?_
  refine sq (f_call en146 rfl (cut_w s hs) (lt rfl)) rfl rfl <| mvq rfl rfl <| exq rfl rfl rfl <| exq rfl rfl rfl <| exq rfl rfl rfl <| asq rfl rfl <| asq rfl rfl <| asq rfl rfl ?_
  refine nxq <| sqq <| rgq <| sq (f_alloc zc35 (lt rfl)) rfl rfl <| nxq <| sqq <| rgq <| mvq rfl rfl ?_
  refine sq (f_call en147 rfl hat (lt rfl)) rfl rfl <| mvq rfl rfl <| exq rfl rfl rfl <| exq rfl rfl rfl <| faq rfl kf35_0 rfl rfl <| soq kd3 rfl rfl rfl rfl rfl <| nxq <| sqq ?_
  refine rgq <| mvq rfl rfl <| sq (f_lenStr rfl un9 (lt rfl)) rfl rfl <| sq (f_bin rfl rfl (iT ((IntWalk.i64_in _ (by omega) : _ = ((cutB s).size : Int) - 16))) (lt rfl)) rfl rfl <| sq (f_maxI rfl rfl (by split <;> omega : _ = (((cutB s).size - 16 : Nat) : Int)) (lt rfl)) rfl rfl ?_
  refine asq rfl rfl <| nxq <| sqq <| rgq <| mvq rfl rfl <| mvq rfl rfl <| sq (f_sliceStr rfl rfl rfl un9 (by omega) (by omega) (by omega) (lt rfl)) rfl rfl <| sq (f_call en90 rfl hr1 (lt rfl)) rfl rfl ?_
  refine mvq rfl rfl <| exq rfl rfl rfl <| exq rfl rfl rfl <| faq rfl kf35_2 rfl rfl <| soq kd33 rfl rfl rfl rfl rfl <| nxq <| sqq <| rgq ?_
  refine mvq rfl rfl <| mvq rfl rfl <| sq (f_sliceStr rfl rfl rfl un9 (by omega) (by omega) (by omega) (lt rfl)) rfl rfl <| sq (f_call en90 rfl hr2 (lt rfl)) rfl rfl <| mvq rfl rfl <| exq rfl rfl rfl <| exq rfl rfl rfl <| faq rfl kf35_1 rfl rfl ?_
  refine soq kd33 rfl rfl rfl rfl rfl <| nxq <| sqq <| sqq <| rgq <| ldq kd35 rfl rfl rfl <| sq (f_call en22 rfl ht (lt rfl)) rfl rfl <| mvq rfl rfl ?_
  refine exq rfl rfl rfl <| exq rfl rfl rfl <| asq rfl rfl <| asq rfl rfl <| nxq <| sqq <| rgq <| mvq rfl rfl ?_
  refine sq (f_bin rfl rfl (bT (b' := true) rfl) (lt rfl)) rfl rfl <| mvq rfl rfl <| noq rfl rfl rfl rfl rfl rfl rfl <| noq rfl rfl rfl rfl rfl rfl rfl <| noq rfl rfl rfl rfl rfl rfl rfl <| pkq rfl rfl rfl <| nxq <| cnT rfl ?_
  refine sqq <| rgq <| sq (f_build bu35 rfl rfl (lt rfl)) rfl rfl <| soq kd35 rfl rfl rfl rfl rfl <| asq rfl rfl <| nxq <| rtq <| to_ret ?_
  exact hits_done (.inl rfl) rfl rfl rfl
theorem parse_ne (s : ByteArray) (hs : s.size ≤ 281474976710656) {w : Nat} (h1 : pW s = (w : Int)) (h2 : 1 ≤ w) (h3 : w ≤ 128) (h4 : pV s < 2 ^ w) (h5 : textB w (pV s) ≠ s) : CallsP Tryz.prog Lw 89 [.sc (.string s)] (.tup [.agg [.sc (.int .i64 0), .sc (.int .u64 0), .sc (.int .u64 0)], .sc (.int .i64 8)]) := by
  have hA := cutA_le s
  have hB := cutB_le s
  have hat := atoi_c (cutA s) (by omega)
  obtain ⟨r1, hr1⟩ := spu_c ((cutB s).extract ((cutB s).size - 16) (cutB s).size) (Nat.le_trans (ext_le _ _ _) (by omega))
  obtain ⟨r2, hr2⟩ := spu_c ((cutB s).extract 0 ((cutB s).size - 16)) (Nat.le_trans (ext_le _ _ _) (by omega))
  have ht := text_c h2 h3 h4
  unfold bitD at ht
  rw [pV_hi, pV_lo, ← h1] at ht
  refine callsP_of gs_lw Tryz.func89 rfl Tryz.ntmps89 rfl fun w0 S0 stab => ?_
  refine sqq <| rgq <| sq (f_alloc zc35 (lt rfl)) rfl rfl <| asq rfl rfl <| nxq <| sqq <| rgq <| mvq rfl rfl ?_
  refine sq (f_call en146 rfl (cut_w s hs) (lt rfl)) rfl rfl <| mvq rfl rfl <| exq rfl rfl rfl <| exq rfl rfl rfl <| exq rfl rfl rfl <| asq rfl rfl <| asq rfl rfl <| asq rfl rfl ?_
  refine nxq <| sqq <| rgq <| sq (f_alloc zc35 (lt rfl)) rfl rfl <| nxq <| sqq <| rgq <| mvq rfl rfl ?_
  refine sq (f_call en147 rfl hat (lt rfl)) rfl rfl <| mvq rfl rfl <| exq rfl rfl rfl <| exq rfl rfl rfl <| faq rfl kf35_0 rfl rfl <| soq kd3 rfl rfl rfl rfl rfl <| nxq <| sqq ?_
  refine rgq <| mvq rfl rfl <| sq (f_lenStr rfl un9 (lt rfl)) rfl rfl <| sq (f_bin rfl rfl (iT ((IntWalk.i64_in _ (by omega) : _ = ((cutB s).size : Int) - 16))) (lt rfl)) rfl rfl <| sq (f_maxI rfl rfl (by split <;> omega : _ = (((cutB s).size - 16 : Nat) : Int)) (lt rfl)) rfl rfl ?_
  refine asq rfl rfl <| nxq <| sqq <| rgq <| mvq rfl rfl <| mvq rfl rfl <| sq (f_sliceStr rfl rfl rfl un9 (by omega) (by omega) (by omega) (lt rfl)) rfl rfl <| sq (f_call en90 rfl hr1 (lt rfl)) rfl rfl ?_
  refine mvq rfl rfl <| exq rfl rfl rfl <| exq rfl rfl rfl <| faq rfl kf35_2 rfl rfl <| soq kd33 rfl rfl rfl rfl rfl <| nxq <| sqq <| rgq ?_
  refine mvq rfl rfl <| mvq rfl rfl <| sq (f_sliceStr rfl rfl rfl un9 (by omega) (by omega) (by omega) (lt rfl)) rfl rfl <| sq (f_call en90 rfl hr2 (lt rfl)) rfl rfl <| mvq rfl rfl <| exq rfl rfl rfl <| exq rfl rfl rfl <| faq rfl kf35_1 rfl rfl ?_
  refine soq kd33 rfl rfl rfl rfl rfl <| nxq <| sqq <| sqq <| rgq <| ldq kd35 rfl rfl rfl <| sq (f_call en22 rfl ht (lt rfl)) rfl rfl <| mvq rfl rfl ?_
  refine exq rfl rfl rfl <| exq rfl rfl rfl <| asq rfl rfl <| asq rfl rfl <| nxq <| sqq <| rgq <| mvq rfl rfl ?_
  refine sq (f_bin rfl rfl (bT (b' := false) rfl) (lt rfl)) rfl rfl <| mvq rfl rfl <| sq_yes (f_move rfl (lt rfl)) rfl rfl rfl rfl (lt rfl) <| sq_yes (f_move rfl (lt rfl)) rfl rfl rfl rfl (lt rfl) <| sq_yes (f_bin rfl rfl (bT (str_ne h5)) (lt rfl)) rfl rfl rfl rfl (lt rfl) <| pkq rfl rfl rfl <| nxq <| cnT rfl ?_
  refine sqq <| rgq <| sq (f_build bu35 rfl rfl (lt rfl)) rfl rfl <| soq kd35 rfl rfl rfl rfl rfl <| asq rfl rfl <| nxq <| rtq <| to_ret ?_
  exact hits_done (.inl rfl) rfl rfl rfl
theorem parse_no (s : ByteArray) (hs : s.size ≤ 281474976710656) (h : ¬ Yes s) : CallsP Tryz.prog Lw 89 [.sc (.string s)] (.tup [.agg [.sc (.int .i64 0), .sc (.int .u64 0), .sc (.int .u64 0)], .sc (.int .i64 8)]) := by
  cases hc : chk (pW s) (pV s)
  · exact parse_bad s hs hc
  · obtain ⟨h1, h2, h3⟩ := of_decide_eq_true hc
    have e : pW s = (((pW s).toNat : Nat) : Int) := by omega
    exact parse_ne s hs e (by omega) (by omega) h3 fun h5 => h ⟨_, e, by omega, by omega, h3, h5⟩
end Go.Proofs.YtogodijfdkffaaaGreatDoor.Ln

/- lex's scanner over data. -/
namespace Go.Proofs.YtogodijfdkffaaaGreatDoor.Ln
open Go Go.RowKit Go.Ab Go.Proofs 
theorem kf61_0 : kf Tryz.prog 61 0 = some 0 := by kernel_rfl
theorem kd9 : kd Tryz.prog 9 = some (false, 1) := by kernel_rfl
theorem en43 : enters Tryz.prog 43 = true := by kernel_rfl
theorem en44 : enters Tryz.prog 44 = true := by kernel_rfl
theorem en40 : enters Tryz.prog 40 = true := by kernel_rfl
theorem en42 : enters Tryz.prog 42 = true := by kernel_rfl
theorem en41 : enters Tryz.prog 41 = true := by kernel_rfl
theorem en39 : enters Tryz.prog 39 = true := by kernel_rfl
theorem kf61_1 : kf Tryz.prog 61 1 = some 1 := by kernel_rfl
def dgt (c : UInt8) : Bool := decide (48 ≤ c.toNat ∧ c.toNat ≤ 57)
def ltr (c : UInt8) : Bool := decide ((97 ≤ c.toNat ||| 32 ∧ c.toNat ||| 32 ≤ 122) ∨ c.toNat = 95)
def blank (c : UInt8) : Bool := decide (c.toNat = 32 ∨ c.toNat = 9 ∨ c.toNat = 10)
def noline (c : UInt8) : Bool := decide (c.toNat ≠ 10)
def aln (c : UInt8) : Bool := dgt c || ltr c
def run (p : UInt8 → Bool) (s : ByteArray) : Nat := (s.data.toList.takeWhile p).length
theorem take_all {p : UInt8 → Bool} : ∀ {l : List UInt8} {i : Nat}, (∀ c ∈ l.take i, p c = true) → i ≤ l.length → (i = l.length ∨ ∃ c, l[i]? = some c ∧ p c = false) → (l.takeWhile p).length = i
  | [], i, _, h, _ => by simp at h; subst h; rfl
  | c :: l, 0, _, _, h => by
    rcases h with h | ⟨c', h1, h2⟩
    · simp at h
    · simp at h1; subst h1; simp [List.takeWhile, h2]
  | c :: l, i + 1, h, hl, hs => by
    have hc := h c (by simp)
    rw [List.takeWhile_cons, hc]
    simp only [if_true, List.length_cons]
    rw [take_all (i := i) (fun c' hc' => h c' (by simp [hc'])) (by simpa using hl) (by simpa using hs)]
theorem run_stop {p : UInt8 → Bool} {s : ByteArray} {i : Nat} (hi : i ≤ s.size) (h : ∀ c ∈ s.data.toList.take i, p c = true) (hs : i = s.size ∨ ∃ c, s.data.toList[i]? = some c ∧ p c = false) : run p s = i := take_all h (by simpa using hi) (by simpa using hs)
theorem run_more {p : UInt8 → Bool} {s : ByteArray} {i : Nat} {c : UInt8} (hat : s.data.toList[i]? = some c) (hc : p c = true) (h : ∀ c ∈ s.data.toList.take i, p c = true) : ∀ c ∈ s.data.toList.take (i + 1), p c = true := by
  intro c' hc'
  rw [List.take_add_one, hat] at hc'
  rcases List.mem_append.mp hc' with q | q
  · exact h c' q
  · simp at q; subst q; exact hc
theorem take_run (p : UInt8 → Bool) : ∀ l : List UInt8, l.take (l.takeWhile p).length = l.takeWhile p ∧ l.drop (l.takeWhile p).length = l.dropWhile p
  | [] => ⟨rfl, rfl⟩
  | c :: l => by
    obtain ⟨h1, h2⟩ := take_run p l
    rw [List.takeWhile_cons, List.dropWhile_cons]
    split
    · rw [List.length_cons, List.take_succ_cons, List.drop_succ_cons, h1, h2]; exact ⟨rfl, rfl⟩
    · exact ⟨rfl, rfl⟩
theorem ext_run (p : UInt8 → Bool) (l : List UInt8) : (B l).extract 0 (run p (B l)) = B (l.takeWhile p) ∧ (B l).extract (run p (B l)) (B l).size = B (l.dropWhile p) := by
  have h : run p (B l) = (l.takeWhile p).length := by unfold run; rw [B_toList]
  obtain ⟨h1, h2⟩ := take_run p l
  rw [h, B_ext, B_ext, B_size, List.drop_zero, Nat.sub_zero, h1, h2]
  refine ⟨rfl, ?_⟩
  congr 1
  apply List.take_of_length_le
  rw [← h2, List.length_drop]; omega
theorem blank_lt {c : UInt8} (h : blank c = true) : c.toNat < 128 := by
  have := of_decide_eq_true h
  omega
theorem blank_dec {l : List UInt8} (h : ∀ c ∈ l, blank c = true) {i : Nat} {c : UInt8} (hc : l[i]? = some c) : Utf8.decode (B l) i = (c.toNat, 1) := by
  obtain ⟨h1, h2⟩ := List.getElem?_eq_some_iff.mp hc
  have hlt : i < (B l).size := by rw [B_size]; exact h1
  have e : (B l)[i]'hlt = c := by
    show (B l).data[i]'(by simpa using hlt) = c
    simp only [B]
    simpa using h2
  have := decode_ascii (B l) i hlt (by rw [e]; exact blank_lt (h c (List.mem_of_getElem? hc)))
  rw [e] at this; exact this
def skip : Bool → List UInt8 → Nat → List UInt8 × Nat
  | _, [], n => ([], n)
  | true, c :: r, n => if c = 10 then skip false r (n + 1) else skip true r n
  | false, c :: r, n => if c = 10 then skip false r (n + 1) else if blank c = true then skip false r n else if c = 47 ∧ r.head? = some 47 then skip true r n else (c :: r, n)
theorem skip_t (c : UInt8) (r : List UInt8) (n : Nat) : skip true (c :: r) n = if c = 10 then skip false r (n + 1) else skip true r n := by rw [skip]
theorem skip_f (c : UInt8) (r : List UInt8) (n : Nat) : skip false (c :: r) n = if c = 10 then skip false r (n + 1) else if blank c = true then skip false r n else if c = 47 ∧ r.head? = some 47 then skip true r n else (c :: r, n) := by rw [skip]
theorem noline_iff (c : UInt8) : noline c = true ↔ c ≠ 10 := by
  unfold noline
  rw [decide_eq_true_iff]
  constructor
  · intro h e; subst e; exact h rfl
  · intro h e; exact h (UInt8.toNat_inj.mp e)
theorem skip_blanks : ∀ (s : List UInt8) (n : Nat), skip false s n = skip false (s.dropWhile blank) (n + (s.takeWhile blank).count 10)
  | [], n => by simp [skip]
  | c :: r, n => by
    by_cases h : blank c = true
    · rw [List.dropWhile_cons, if_pos h, List.takeWhile_cons, if_pos h]
      rw [skip_f]
      by_cases h1 : c = 10
      · subst h1
        rw [if_pos rfl, skip_blanks r, List.count_cons_self]
        rw [show n + 1 + (r.takeWhile blank).count 10 = n + ((r.takeWhile blank).count 10 + 1) from by omega]
      · rw [if_neg h1, if_pos h, skip_blanks r, List.count_cons_of_ne h1]
    · rw [List.dropWhile_cons, if_neg h, List.takeWhile_cons, if_neg h]; simp
theorem skip_line : ∀ (s : List UInt8) (n : Nat), skip true s n = skip false (s.dropWhile noline) n
  | [], n => by simp [skip]
  | c :: r, n => by
    by_cases h : c = 10
    · subst h
      rw [List.dropWhile_cons, if_neg (by decide)]
      rw [skip_t, skip_f, if_pos rfl, if_pos rfl]
    · rw [List.dropWhile_cons, if_pos ((noline_iff c).mpr h), ← skip_line r n]
      rw [skip_t, if_neg h]
theorem skip_com (r : List UInt8) (n : Nat) : skip false (47 :: 47 :: r) n = skip false ((47 :: 47 :: r).dropWhile noline) n := by
  rw [← skip_line]
  rw [skip_f, if_neg (by decide), if_neg (by decide), if_pos ⟨rfl, rfl⟩, skip_t 47 (47 :: r), if_neg (by decide)]
def Stops : List UInt8 → Prop
  | [] => True
  | c :: r => blank c = false ∧ ¬ (c = 47 ∧ r.head? = some 47)
theorem skip_stop : ∀ {s : List UInt8} (n : Nat), Stops s → skip false s n = (s, n)
  | [], n, _ => rfl
  | c :: r, n, ⟨h1, h2⟩ => by
    have h3 : c ≠ 10 := fun e => by subst e; exact absurd h1 (by decide)
    rw [skip_f, if_neg h3, if_neg (by rw [h1]; decide), if_neg h2]
theorem skip_stops : ∀ (b : Bool) (s : List UInt8) (n : Nat), Stops (skip b s n).1
  | true, [], n => trivial
  | false, [], n => trivial
  | true, c :: r, n => by
    rw [skip_t]
    split
    · exact skip_stops _ _ _
    · exact skip_stops _ _ _
  | false, c :: r, n => by
    rw [skip_f]
    split
    · exact skip_stops _ _ _
    · split
      · exact skip_stops _ _ _
      · split
        · exact skip_stops _ _ _
        · rename_i h2 h3; exact ⟨by simpa using h2, h3⟩
theorem skip_le : ∀ (b : Bool) (s : List UInt8) (n : Nat), (skip b s n).1.length ≤ s.length
  | true, [], n => Nat.le_refl _
  | false, [], n => Nat.le_refl _
  | true, c :: r, n => by
    rw [skip_t]
    split
    · exact Nat.le_succ_of_le (skip_le _ _ _)
    · exact Nat.le_succ_of_le (skip_le _ _ _)
  | false, c :: r, n => by
    rw [skip_f]
    split
    · exact Nat.le_succ_of_le (skip_le _ _ _)
    · split
      · exact Nat.le_succ_of_le (skip_le _ _ _)
      · split
        · exact Nat.le_succ_of_le (skip_le _ _ _)
        · exact Nat.le_refl _
theorem skip_count : ∀ (b : Bool) (s : List UInt8) (n : Nat), (skip b s n).2 + (skip b s n).1.count 10 = n + s.count 10
  | true, [], n => by simp [skip]
  | false, [], n => by simp [skip]
  | true, c :: r, n => by
    rw [skip_t]
    split
    · rename_i h; subst h; rw [skip_count, List.count_cons_self]; omega
    · rename_i h; rw [skip_count, List.count_cons_of_ne h]
  | false, c :: r, n => by
    rw [skip_f]
    split
    · rename_i h; subst h; rw [skip_count, List.count_cons_self]; omega
    · rename_i h
      split
      · rw [skip_count, List.count_cons_of_ne h]
      · split
        · rw [skip_count, List.count_cons_of_ne h]
        · rfl
theorem skip_len : ∀ (b : Bool) (s : List UInt8) (n : Nat), s.count 10 - (skip b s n).1.count 10 ≤ s.length - (skip b s n).1.length
  | true, [], n => by simp [skip]
  | false, [], n => by simp [skip]
  | true, c :: r, n => by
    rw [skip_t]
    have hc : (c :: r).count 10 ≤ r.count 10 + 1 := by rw [List.count_cons]; split <;> omega
    have h2 := skip_le false r (n + 1)
    have h3 := skip_le true r n
    split
    · have := skip_len false r (n + 1); simp only [List.length_cons]; omega
    · have := skip_len true r n; simp only [List.length_cons]; omega
  | false, c :: r, n => by
    rw [skip_f]
    have hc : (c :: r).count 10 ≤ r.count 10 + 1 := by rw [List.count_cons]; split <;> omega
    have h2 := skip_le false r (n + 1)
    have h3 := skip_le true r n
    have h4 := skip_le false r n
    split
    · have := skip_len false r (n + 1); simp only [List.length_cons]; omega
    · split
      · have := skip_len false r n; simp only [List.length_cons]; omega
      · split
        · have := skip_len true r n; simp only [List.length_cons]; omega
        · simp
theorem skip_add : ∀ (b : Bool) (s : List UInt8) (n k : Nat), skip b s (n + k) = ((skip b s n).1, (skip b s n).2 + k)
  | true, [], n, k => rfl
  | false, [], n, k => rfl
  | true, c :: r, n, k => by
    rw [skip_t, skip_t]
    split
    · rw [show n + k + 1 = n + 1 + k from by omega, skip_add]
    · rw [skip_add]
  | false, c :: r, n, k => by
    rw [skip_f, skip_f]
    split
    · rw [show n + k + 1 = n + 1 + k from by omega, skip_add]
    · split
      · rw [skip_add]
      · split
        · rw [skip_add]
        · rfl
theorem skip_mono (b : Bool) (s : List UInt8) (n : Nat) : n ≤ (skip b s n).2 := by
  have h := skip_add b s 0 n
  rw [Nat.zero_add] at h
  rw [h]; simp
theorem skip_join (b : List UInt8) : ∀ (m : Bool) (s : List UInt8) (n : Nat), skip m (s ++ 10 :: b) n = match skip m s n with
    | ([], k) => skip false b (k + 1)
    | (t, k) => (t ++ 10 :: b, k)
  | true, [], n => by simp [skip]
  | false, [], n => by simp [skip]
  | true, c :: r, n => by
    rw [List.cons_append]
    by_cases h : c = 10
    · rw [skip_t, skip_t, if_pos h, if_pos h, skip_join]
    · rw [skip_t, skip_t, if_neg h, if_neg h, skip_join]
  | false, c :: r, n => by
    rw [List.cons_append, skip_f, skip_f]
    by_cases h : c = 10
    · rw [if_pos h, if_pos h, skip_join]
    · rw [if_neg h, if_neg h]
      by_cases h1 : blank c = true
      · rw [if_pos h1, if_pos h1, skip_join]
      · rw [if_neg h1, if_neg h1]
        by_cases h2 : c = 47 ∧ r.head? = some 47
        · have h3 : c = 47 ∧ (r ++ 10 :: b).head? = some 47 := by
            refine ⟨h2.1, ?_⟩
            cases r with
            | nil => simp at h2
            | cons d r => simpa using h2.2
          rw [if_pos h2, if_pos h3, skip_join]
        · have h3 : ¬ (c = 47 ∧ (r ++ 10 :: b).head? = some 47) := by
            intro h3
            cases r with
            | nil => simp at h3
            | cons d r => exact h2 ⟨h3.1, by simpa using h3.2⟩
          rw [if_neg h2, if_neg h3]
          rfl
theorem all_take (p : UInt8 → Bool) : ∀ l : List UInt8, ∀ c ∈ l.takeWhile p, p c = true
  | [], c, h => by simp at h
  | d :: l, c, h => by
    rw [List.takeWhile_cons] at h
    split at h
    · rename_i hd
      rcases List.mem_cons.mp h with rfl | h
      · exact hd
      · exact all_take p l c h
    · simp at h
theorem len_split (p : UInt8 → Bool) (l : List UInt8) : (l.takeWhile p).length + (l.dropWhile p).length = l.length := by
  rw [← List.length_append, List.takeWhile_append_dropWhile]
theorem count_le (l : List UInt8) : l.count 10 ≤ l.length := List.count_le_length
theorem count_take_le (l : List UInt8) (i : Nat) : (l.take i).count 10 ≤ l.length := Nat.le_trans List.count_le_length (by rw [List.length_take]; omega)
theorem count_take {l : List UInt8} {i : Nat} {c : UInt8} (h : l[i]? = some c) : (l.take i).count 10 + (if c.toNat = 10 then 1 else 0) = (l.take (i + 1)).count 10 := by
  rw [List.take_add_one, h, List.count_append]
  simp only [Option.toList_some, List.count_singleton]
  congr 1
  by_cases hc : c.toNat = 10
  · have : c = 10 := UInt8.toNat_inj.mp hc
    subst this; rfl
  · have : c ≠ 10 := fun e => hc (by subst e; rfl)
    rw [if_neg hc]; simp [this]
theorem drop_head {p : UInt8 → Bool} : ∀ {l : List UInt8} {c : UInt8} {r : List UInt8}, l.dropWhile p = c :: r → p c = false
  | [], c, r, h => by simp at h
  | d :: l, c, r, h => by
    rw [List.dropWhile_cons] at h
    split at h
    · exact drop_head h
    · rename_i hd; cases h; simpa using hd
theorem skip_fin {t t' : List UInt8} {m n' : Nat} (hJ : skip false t m = (t', n')) (hp : List.isPrefixOf [47, 47] (t.dropWhile blank) = false) : t.dropWhile blank = t' ∧ m + (t.takeWhile blank).count 10 = n' := by
  rw [skip_blanks, skip_stop] at hJ
  · cases hJ; exact ⟨rfl, rfl⟩
  · cases h : t.dropWhile blank with
    | nil => trivial
    | cons c r =>
      refine ⟨drop_head h, fun ⟨h1, h2⟩ => ?_⟩
      rw [h] at hp
      cases r with
      | nil => simp at h2
      | cons d r =>
        simp at h2
        subst h1 h2
        simp [List.isPrefixOf] at hp
theorem skip_go {t t' : List UInt8} {m n' : Nat} (hJ : skip false t m = (t', n')) (hp : List.isPrefixOf [47, 47] (t.dropWhile blank) = true) :
    skip false ((t.dropWhile blank).dropWhile noline) (m + (t.takeWhile blank).count 10) = (t', n') ∧ ((t.dropWhile blank).dropWhile noline).length < (t.dropWhile blank).length ∧ True := by
  obtain ⟨r, hr⟩ := List.isPrefixOf_iff_prefix.mp hp
  rw [skip_blanks] at hJ
  rw [← hr] at hJ ⊢
  simp only [List.cons_append, List.nil_append] at hJ ⊢
  refine ⟨?_, ?_, trivial⟩
  · rw [← skip_com]; exact hJ
  · show ((47 :: 47 :: r).dropWhile noline).length < _
    rw [List.dropWhile_cons, if_pos (by decide)]
    exact Nat.lt_succ_of_le (List.dropWhile_sublist noline).length_le
theorem eat_s {Γ : World → Prop} {s : ByteArray} {ln : Int} {kf : Nat} {p : UInt8 → Bool} (hs : s.size ≤ 281474976710656) (hen : enters Tryz.prog kf = true) (hp : ∀ c : UInt8, CallsP Tryz.prog Γ kf [.sc (.int .u8 (c.toNat : Int))] (.sc (.bool (p c)))) : CallsB Tryz.prog Γ 39 [.sc (.string s), .sc (.int .i64 ln)] [.sc (.func (.func kf) #[] #[])] [.sc (.string (s.extract (run p s) s.size)), .sc (.int .i64 ln)] (.sc (.string (s.extract 0 (run p s)))) := by
  refine callsB_of Tryz.func39 rfl Tryz.ntmps39 rfl rfl fun w0 S0 b stab => ?_
  refine sqq <| rgq <| asq rfl rfl <| nxq <| sqq <| rgq <| asq rfl rfl <| nxq ?_
  refine sqq <| hits_block <| hits_loop (fun i : Nat => [(.slot 0, some (.ptr 1000000 0)), (.box 1000000, some (.ptr 1000000 0)), (.cell 1000000 0, some (.d (.sc (.string s)))), (.cell 1000000 1, some (.d (.sc (.int .i64 ln)))), (.slot 1, some (.d (.sc (.func (.func kf) #[] #[])))), (.slot 5, some (.d (.sc (.int .i64 (i : Int)))))]) (fun i : Nat => i ≤ s.size ∧ (∀ c ∈ s.data.toList.take i, p c = true)) (fun i : Nat => s.size - i) 0 ⟨Nat.zero_le _, by simp⟩ ⟨rfl, rfl, rfl, rfl, rfl, rfl, trivial⟩ rfl ?_
  intro i hx
  obtain ⟨hi, hJ⟩ := hx
  refine sqq <| sqq ?_
  by_cases h1 : i < s.size
  · obtain ⟨c, hat⟩ : ∃ c, s.data.toList[i]? = some c := ⟨_, List.getElem?_eq_getElem (by simpa using h1)⟩
    have hpc := hp c
    cases hc : p c
    · rw [hc] at hpc
      have hrun := run_stop hi hJ (.inr ⟨c, hat, hc⟩)
      refine rgq <| mvq rfl rfl <| mvq rfl rfl <| sq (f_nil rfl rfl (lt rfl)) rfl rfl <| faq rfl kf61_0 rfl rfl <| ldq kd9 rfl rfl rfl <| sq (f_lenStr rfl un9 (lt rfl)) rfl rfl <| sq (f_bin rfl rfl (bT (decide_eq_true (by omega))) (lt rfl)) rfl rfl ?_
      refine mvq rfl rfl <| sq_yes (f_move rfl (lt rfl)) rfl rfl rfl rfl (lt rfl) <| sq_yes (f_move rfl (lt rfl)) rfl rfl rfl rfl (lt rfl) <| sq_yes (f_nil rfl rfl (lt rfl)) rfl rfl rfl rfl (lt rfl) <| sq_yes (f_fieldAddr rfl kf61_0 rfl (lt rfl)) rfl rfl rfl rfl (lt rfl) <| sq_yes (f_load kd9 rfl rfl (lt rfl)) rfl rfl rfl rfl (lt rfl) <| sq_yes (f_move rfl (lt rfl)) rfl rfl rfl rfl (lt rfl) <| sq_yes (f_idxS rfl rfl un9 hat (lt rfl)) rfl rfl rfl rfl (lt rfl) ?_
      refine sq_yes (f_callV rfl hen rfl hpc (lt rfl)) rfl rfl rfl rfl (lt rfl) <| pkq rfl rfl rfl <| nxq <| cnF rfl <| hits_exit <| to_exit <| to_exit <| in_hit rfl ?_
      refine toq <| sqq ?_
      subst hrun
      refine rgq <| mvq rfl rfl <| sq (f_nil rfl rfl (lt rfl)) rfl rfl <| faq rfl kf61_0 rfl rfl <| ldq kd9 rfl rfl rfl <| mvq rfl rfl <| sq (f_sliceStr rfl rfl rfl un9 (by omega) (by omega) (by omega) (lt rfl)) rfl rfl <| asq rfl rfl ?_
      refine nxq <| sqq <| rgq <| mvq rfl rfl <| mvq rfl rfl <| sq (f_nil rfl rfl (lt rfl)) rfl rfl <| faq rfl kf61_0 rfl rfl <| ldq kd9 rfl rfl rfl ?_
      refine mvq rfl rfl <| sq (f_sliceStr rfl rfl rfl un9 (by omega) (by omega) (by omega) (lt rfl)) rfl rfl <| sq (f_nil rfl rfl (lt rfl)) rfl rfl <| faq rfl kf61_0 rfl rfl <| soq kd9 rfl rfl rfl rfl rfl <| nxq <| sqq <| rgq ?_
      refine mvq rfl rfl <| asq rfl rfl <| nxq <| rtq ?_
      exact hits_doneB (.inl rfl) rfl rfl rfl rfl rfl ⟨rfl, rfl, trivial⟩ rfl
    · rw [hc] at hpc
      refine rgq <| mvq rfl rfl <| mvq rfl rfl <| sq (f_nil rfl rfl (lt rfl)) rfl rfl <| faq rfl kf61_0 rfl rfl <| ldq kd9 rfl rfl rfl <| sq (f_lenStr rfl un9 (lt rfl)) rfl rfl <| sq (f_bin rfl rfl (bT (decide_eq_true (by omega))) (lt rfl)) rfl rfl ?_
      refine mvq rfl rfl <| sq_yes (f_move rfl (lt rfl)) rfl rfl rfl rfl (lt rfl) <| sq_yes (f_move rfl (lt rfl)) rfl rfl rfl rfl (lt rfl) <| sq_yes (f_nil rfl rfl (lt rfl)) rfl rfl rfl rfl (lt rfl) <| sq_yes (f_fieldAddr rfl kf61_0 rfl (lt rfl)) rfl rfl rfl rfl (lt rfl) <| sq_yes (f_load kd9 rfl rfl (lt rfl)) rfl rfl rfl rfl (lt rfl) <| sq_yes (f_move rfl (lt rfl)) rfl rfl rfl rfl (lt rfl) <| sq_yes (f_idxS rfl rfl un9 hat (lt rfl)) rfl rfl rfl rfl (lt rfl) ?_
      refine sq_yes (f_callV rfl hen rfl hpc (lt rfl)) rfl rfl rfl rfl (lt rfl) <| pkq rfl rfl rfl <| nxq <| cnT rfl <| skq <| toq <| hits_block <| rgq ?_
      refine mvq rfl rfl <| sq (f_bin rfl rfl (iT (((IntWalk.i64_in _ (by omega)).trans (by omega) : _ = ((i + 1 : Nat) : Int)))) (lt rfl)) rfl rfl <| asq rfl rfl <| nlq <| inq <| toq ?_
      refine round_end (i + 1) ⟨by omega, run_more hat hc hJ⟩ (by omega) ⟨rfl, rfl, rfl, rfl, rfl, rfl, trivial⟩ rfl
  · have hrun := run_stop hi hJ (.inl (by omega))
    refine rgq <| mvq rfl rfl <| mvq rfl rfl <| sq (f_nil rfl rfl (lt rfl)) rfl rfl <| faq rfl kf61_0 rfl rfl <| ldq kd9 rfl rfl rfl <| sq (f_lenStr rfl un9 (lt rfl)) rfl rfl <| sq (f_bin rfl rfl (bT (decide_eq_false (by omega))) (lt rfl)) rfl rfl ?_
    refine mvq rfl rfl <| noq rfl rfl rfl rfl rfl rfl rfl <| noq rfl rfl rfl rfl rfl rfl rfl <| noq rfl rfl rfl rfl rfl rfl rfl <| noq rfl rfl rfl rfl rfl rfl rfl <| noq rfl rfl rfl rfl rfl rfl rfl <| noq rfl rfl rfl rfl rfl rfl rfl <| noq rfl rfl rfl rfl rfl rfl rfl ?_
    refine noq rfl rfl rfl rfl rfl rfl rfl <| pkq rfl rfl rfl <| nxq <| cnF rfl <| hits_exit <| to_exit <| to_exit <| in_hit rfl ?_
    refine toq <| sqq ?_
    subst hrun
    refine rgq <| mvq rfl rfl <| sq (f_nil rfl rfl (lt rfl)) rfl rfl <| faq rfl kf61_0 rfl rfl <| ldq kd9 rfl rfl rfl <| mvq rfl rfl <| sq (f_sliceStr rfl rfl rfl un9 (by omega) (by omega) (by omega) (lt rfl)) rfl rfl <| asq rfl rfl ?_
    refine nxq <| sqq <| rgq <| mvq rfl rfl <| mvq rfl rfl <| sq (f_nil rfl rfl (lt rfl)) rfl rfl <| faq rfl kf61_0 rfl rfl <| ldq kd9 rfl rfl rfl ?_
    refine mvq rfl rfl <| sq (f_sliceStr rfl rfl rfl un9 (by omega) (by omega) (by omega) (lt rfl)) rfl rfl <| sq (f_nil rfl rfl (lt rfl)) rfl rfl <| faq rfl kf61_0 rfl rfl <| soq kd9 rfl rfl rfl rfl rfl <| nxq <| sqq <| rgq ?_
    refine mvq rfl rfl <| asq rfl rfl <| nxq <| rtq ?_
    exact hits_doneB (.inl rfl) rfl rfl rfl rfl rfl ⟨rfl, rfl, trivial⟩ rfl
theorem eat_c {Γ : World → Prop} {l : List UInt8} {ln : Int} {kf : Nat} {p : UInt8 → Bool} (hs : l.length ≤ 281474976710656) (hen : enters Tryz.prog kf = true) (hp : ∀ c : UInt8, CallsP Tryz.prog Γ kf [.sc (.int .u8 (c.toNat : Int))] (.sc (.bool (p c)))) :
    CallsB Tryz.prog Γ 39 [.sc (.string (B l)), .sc (.int .i64 ln)] [.sc (.func (.func kf) #[] #[])] [.sc (.string (B (l.dropWhile p))), .sc (.int .i64 ln)] (.sc (.string (B (l.takeWhile p)))) := by
  have h := eat_s (Γ := Γ) (s := B l) (ln := ln) (by rw [B_size]; exact hs) hen hp
  obtain ⟨h1, h2⟩ := ext_run p l
  rwa [h1, h2] at h
theorem digit_c {Γ : World → Prop} (hΓ : GS Γ) (c : UInt8) : CallsP Tryz.prog Γ 43 [.sc (.int .u8 (c.toNat : Int))] (.sc (.bool (dgt c))) := by
  refine callsP_of hΓ Tryz.func43 rfl Tryz.ntmps43 rfl fun w0 S0 stab => ?_
  refine sqq <| rgq <| asq rfl rfl <| nxq <| sqq ?_
  by_cases h1 : 48 ≤ c.toNat
  · by_cases h2 : c.toNat ≤ 57
    · refine rgq <| mvq rfl rfl <| sq (f_bin rfl rfl (bT (decide_eq_true (by omega))) (lt rfl)) rfl rfl <| mvq rfl rfl <| sq_yes (f_move rfl (lt rfl)) rfl rfl rfl rfl (lt rfl) <| sq_yes (f_bin rfl rfl (bT (decide_eq_true (by omega))) (lt rfl)) rfl rfl rfl rfl (lt rfl) <| pkq rfl rfl rfl <| asq rfl rfl ?_
      refine nxq <| rtq ?_
      exact hits_done (.inl rfl) rfl rfl (by rw [show dgt c = true from decide_eq_true (by omega)]; rfl)
    · refine rgq <| mvq rfl rfl <| sq (f_bin rfl rfl (bT (decide_eq_true (by omega))) (lt rfl)) rfl rfl <| mvq rfl rfl <| sq_yes (f_move rfl (lt rfl)) rfl rfl rfl rfl (lt rfl) <| sq_yes (f_bin rfl rfl (bT (decide_eq_false (by omega))) (lt rfl)) rfl rfl rfl rfl (lt rfl) <| pkq rfl rfl rfl <| asq rfl rfl ?_
      refine nxq <| rtq ?_
      exact hits_done (.inl rfl) rfl rfl (by rw [show dgt c = false from decide_eq_false (by omega)]; rfl)
  · refine rgq <| mvq rfl rfl <| sq (f_bin rfl rfl (bT (decide_eq_false (by omega))) (lt rfl)) rfl rfl <| mvq rfl rfl <| noq rfl rfl rfl rfl rfl rfl rfl <| noq rfl rfl rfl rfl rfl rfl rfl <| pkq rfl rfl rfl <| asq rfl rfl ?_
    refine nxq <| rtq ?_
    exact hits_done (.inl rfl) rfl rfl (by rw [show dgt c = false from decide_eq_false (by omega)]; rfl)
theorem letter_c {Γ : World → Prop} (hΓ : GS Γ) (c : UInt8) : CallsP Tryz.prog Γ 44 [.sc (.int .u8 (c.toNat : Int))] (.sc (.bool (ltr c))) := by
  have hc : c.toNat < 256 := c.toNat_lt
  refine callsP_of hΓ Tryz.func44 rfl Tryz.ntmps44 rfl fun w0 S0 stab => ?_
  refine sqq <| rgq <| asq rfl rfl <| nxq <| sqq ?_
  by_cases h1 : 97 ≤ c.toNat ||| 32
  · by_cases h2 : c.toNat ||| 32 ≤ 122
    · refine rgq <| mvq rfl rfl <| sq (f_bin rfl rfl (iT (low_is hc)) (lt rfl)) rfl rfl <| sq (f_bin rfl rfl (bT (decide_eq_true (by omega))) (lt rfl)) rfl rfl <| mvq rfl rfl <| sq_yes (f_move rfl (lt rfl)) rfl rfl rfl rfl (lt rfl) <| sq_yes (f_bin rfl rfl (iT (low_is hc)) (lt rfl)) rfl rfl rfl rfl (lt rfl) <| sq_yes (f_bin rfl rfl (bT (decide_eq_true (by omega))) (lt rfl)) rfl rfl rfl rfl (lt rfl) ?_
      refine pkq rfl rfl rfl <| mvq rfl rfl <| noq rfl rfl rfl rfl rfl rfl rfl <| noq rfl rfl rfl rfl rfl rfl rfl <| pkq rfl rfl rfl <| asq rfl rfl <| nxq <| rtq ?_
      exact hits_done (.inl rfl) rfl rfl (by rw [show ltr c = true from decide_eq_true (by omega)]; rfl)
    · by_cases h3 : c.toNat = 95
      · refine rgq <| mvq rfl rfl <| sq (f_bin rfl rfl (iT (low_is hc)) (lt rfl)) rfl rfl <| sq (f_bin rfl rfl (bT (decide_eq_true (by omega))) (lt rfl)) rfl rfl <| mvq rfl rfl <| sq_yes (f_move rfl (lt rfl)) rfl rfl rfl rfl (lt rfl) <| sq_yes (f_bin rfl rfl (iT (low_is hc)) (lt rfl)) rfl rfl rfl rfl (lt rfl) <| sq_yes (f_bin rfl rfl (bT (decide_eq_false (by omega))) (lt rfl)) rfl rfl rfl rfl (lt rfl) ?_
        refine pkq rfl rfl rfl <| mvq rfl rfl <| sq_yes (f_move rfl (lt rfl)) rfl rfl rfl rfl (lt rfl) <| sq_yes (f_bin rfl rfl (bT (beq_iff_eq.mpr (by omega))) (lt rfl)) rfl rfl rfl rfl (lt rfl) <| pkq rfl rfl rfl <| asq rfl rfl <| nxq <| rtq ?_
        exact hits_done (.inl rfl) rfl rfl (by rw [show ltr c = true from decide_eq_true (by omega)]; rfl)
      · refine rgq <| mvq rfl rfl <| sq (f_bin rfl rfl (iT (low_is hc)) (lt rfl)) rfl rfl <| sq (f_bin rfl rfl (bT (decide_eq_true (by omega))) (lt rfl)) rfl rfl <| mvq rfl rfl <| sq_yes (f_move rfl (lt rfl)) rfl rfl rfl rfl (lt rfl) <| sq_yes (f_bin rfl rfl (iT (low_is hc)) (lt rfl)) rfl rfl rfl rfl (lt rfl) <| sq_yes (f_bin rfl rfl (bT (decide_eq_false (by omega))) (lt rfl)) rfl rfl rfl rfl (lt rfl) ?_
        refine pkq rfl rfl rfl <| mvq rfl rfl <| sq_yes (f_move rfl (lt rfl)) rfl rfl rfl rfl (lt rfl) <| sq_yes (f_bin rfl rfl (bT (beq_eq_false_iff_ne.mpr (by omega))) (lt rfl)) rfl rfl rfl rfl (lt rfl) <| pkq rfl rfl rfl <| asq rfl rfl <| nxq <| rtq ?_
        exact hits_done (.inl rfl) rfl rfl (by rw [show ltr c = false from decide_eq_false (by omega)]; rfl)
  · by_cases h3 : c.toNat = 95
    · refine rgq <| mvq rfl rfl <| sq (f_bin rfl rfl (iT (low_is hc)) (lt rfl)) rfl rfl <| sq (f_bin rfl rfl (bT (decide_eq_false (by omega))) (lt rfl)) rfl rfl <| mvq rfl rfl <| noq rfl rfl rfl rfl rfl rfl rfl <| noq rfl rfl rfl rfl rfl rfl rfl <| noq rfl rfl rfl rfl rfl rfl rfl ?_
      refine pkq rfl rfl rfl <| mvq rfl rfl <| sq_yes (f_move rfl (lt rfl)) rfl rfl rfl rfl (lt rfl) <| sq_yes (f_bin rfl rfl (bT (beq_iff_eq.mpr (by omega))) (lt rfl)) rfl rfl rfl rfl (lt rfl) <| pkq rfl rfl rfl <| asq rfl rfl <| nxq <| rtq ?_
      exact hits_done (.inl rfl) rfl rfl (by rw [show ltr c = true from decide_eq_true (by omega)]; rfl)
    · refine rgq <| mvq rfl rfl <| sq (f_bin rfl rfl (iT (low_is hc)) (lt rfl)) rfl rfl <| sq (f_bin rfl rfl (bT (decide_eq_false (by omega))) (lt rfl)) rfl rfl <| mvq rfl rfl <| noq rfl rfl rfl rfl rfl rfl rfl <| noq rfl rfl rfl rfl rfl rfl rfl <| noq rfl rfl rfl rfl rfl rfl rfl ?_
      refine pkq rfl rfl rfl <| mvq rfl rfl <| sq_yes (f_move rfl (lt rfl)) rfl rfl rfl rfl (lt rfl) <| sq_yes (f_bin rfl rfl (bT (beq_eq_false_iff_ne.mpr (by omega))) (lt rfl)) rfl rfl rfl rfl (lt rfl) <| pkq rfl rfl rfl <| asq rfl rfl <| nxq <| rtq ?_
      exact hits_done (.inl rfl) rfl rfl (by rw [show ltr c = false from decide_eq_false (by omega)]; rfl)
theorem blank_c {Γ : World → Prop} (hΓ : GS Γ) (c : UInt8) : CallsP Tryz.prog Γ 40 [.sc (.int .u8 (c.toNat : Int))] (.sc (.bool (blank c))) := by
  refine callsP_of hΓ Tryz.func40 rfl Tryz.ntmps40 rfl fun w0 S0 stab => ?_
  refine sqq <| rgq <| asq rfl rfl <| nxq <| sqq ?_
  by_cases h1 : c.toNat = 32
  · refine rgq <| mvq rfl rfl <| sq (f_bin rfl rfl (bT (beq_iff_eq.mpr (by omega))) (lt rfl)) rfl rfl <| mvq rfl rfl <| noq rfl rfl rfl rfl rfl rfl rfl <| noq rfl rfl rfl rfl rfl rfl rfl <| pkq rfl rfl rfl <| mvq rfl rfl ?_
    refine noq rfl rfl rfl rfl rfl rfl rfl <| noq rfl rfl rfl rfl rfl rfl rfl <| pkq rfl rfl rfl <| asq rfl rfl <| nxq <| rtq ?_
    exact hits_done (.inl rfl) rfl rfl (by rw [show blank c = true from decide_eq_true (by omega)]; rfl)
  · by_cases h2 : c.toNat = 9
    · refine rgq <| mvq rfl rfl <| sq (f_bin rfl rfl (bT (beq_eq_false_iff_ne.mpr (by omega))) (lt rfl)) rfl rfl <| mvq rfl rfl <| sq_yes (f_move rfl (lt rfl)) rfl rfl rfl rfl (lt rfl) <| sq_yes (f_bin rfl rfl (bT (beq_iff_eq.mpr (by omega))) (lt rfl)) rfl rfl rfl rfl (lt rfl) <| pkq rfl rfl rfl <| mvq rfl rfl ?_
      refine noq rfl rfl rfl rfl rfl rfl rfl <| noq rfl rfl rfl rfl rfl rfl rfl <| pkq rfl rfl rfl <| asq rfl rfl <| nxq <| rtq ?_
      exact hits_done (.inl rfl) rfl rfl (by rw [show blank c = true from decide_eq_true (by omega)]; rfl)
    · by_cases h3 : c.toNat = 10
      · refine rgq <| mvq rfl rfl <| sq (f_bin rfl rfl (bT (beq_eq_false_iff_ne.mpr (by omega))) (lt rfl)) rfl rfl <| mvq rfl rfl <| sq_yes (f_move rfl (lt rfl)) rfl rfl rfl rfl (lt rfl) <| sq_yes (f_bin rfl rfl (bT (beq_eq_false_iff_ne.mpr (by omega))) (lt rfl)) rfl rfl rfl rfl (lt rfl) <| pkq rfl rfl rfl <| mvq rfl rfl ?_
        refine sq_yes (f_move rfl (lt rfl)) rfl rfl rfl rfl (lt rfl) <| sq_yes (f_bin rfl rfl (bT (beq_iff_eq.mpr (by omega))) (lt rfl)) rfl rfl rfl rfl (lt rfl) <| pkq rfl rfl rfl <| asq rfl rfl <| nxq <| rtq ?_
        exact hits_done (.inl rfl) rfl rfl (by rw [show blank c = true from decide_eq_true (by omega)]; rfl)
      · refine rgq <| mvq rfl rfl <| sq (f_bin rfl rfl (bT (beq_eq_false_iff_ne.mpr (by omega))) (lt rfl)) rfl rfl <| mvq rfl rfl <| sq_yes (f_move rfl (lt rfl)) rfl rfl rfl rfl (lt rfl) <| sq_yes (f_bin rfl rfl (bT (beq_eq_false_iff_ne.mpr (by omega))) (lt rfl)) rfl rfl rfl rfl (lt rfl) <| pkq rfl rfl rfl <| mvq rfl rfl ?_
        refine sq_yes (f_move rfl (lt rfl)) rfl rfl rfl rfl (lt rfl) <| sq_yes (f_bin rfl rfl (bT (beq_eq_false_iff_ne.mpr (by omega))) (lt rfl)) rfl rfl rfl rfl (lt rfl) <| pkq rfl rfl rfl <| asq rfl rfl <| nxq <| rtq ?_
        exact hits_done (.inl rfl) rfl rfl (by rw [show blank c = false from decide_eq_false (by omega)]; rfl)
theorem noline_c {Γ : World → Prop} (hΓ : GS Γ) (c : UInt8) : CallsP Tryz.prog Γ 42 [.sc (.int .u8 (c.toNat : Int))] (.sc (.bool (noline c))) := by
  refine callsP_of hΓ Tryz.func42 rfl Tryz.ntmps42 rfl fun w0 S0 stab => ?_
  refine sqq <| rgq <| asq rfl rfl <| nxq <| sqq ?_
  by_cases h1 : c.toNat = 10
  · refine rgq <| mvq rfl rfl <| sq (f_bin rfl rfl (bT (show ((c.toNat : Int) != 10) = false from by rw [h1]; rfl)) (lt rfl)) rfl rfl ?_
    refine asq rfl rfl <| nxq <| rtq ?_
    exact hits_done (.inl rfl) rfl rfl (by rw [show noline c = false from decide_eq_false (by omega)]; rfl)
  · refine rgq <| mvq rfl rfl <| sq (f_bin rfl rfl (bT (show ((c.toNat : Int) != 10) = true from bne_iff_ne.mpr (by omega))) (lt rfl)) rfl rfl <| asq rfl rfl <| nxq <| rtq ?_
    exact hits_done (.inl rfl) rfl rfl (by rw [show noline c = true from decide_eq_true (by omega)]; rfl)
theorem aln_c {Γ : World → Prop} (hΓ : GS Γ) (c : UInt8) : CallsP Tryz.prog Γ 45 [.sc (.int .u8 (c.toNat : Int))] (.sc (.bool (aln c))) := by
  have h1 := digit_c hΓ c
  have h2 := letter_c hΓ c
  refine callsP_of hΓ Tryz.func45 rfl Tryz.ntmps45 rfl fun w0 S0 stab => ?_
  refine sqq <| rgq <| asq rfl rfl <| nxq <| sqq ?_
  cases hd : dgt c
  · rw [hd] at h1
    cases hl : ltr c
    · rw [hl] at h2
      refine rgq <| mvq rfl rfl <| sq (f_call en43 rfl h1 (lt rfl)) rfl rfl <| mvq rfl rfl <| sq_yes (f_move rfl (lt rfl)) rfl rfl rfl rfl (lt rfl) <| sq_yes (f_call en44 rfl h2 (lt rfl)) rfl rfl rfl rfl (lt rfl) <| pkq rfl rfl rfl <| asq rfl rfl ?_
      refine nxq <| rtq ?_
      exact hits_done (.inl rfl) rfl rfl (by rw [aln, hd, hl]; rfl)
    · rw [hl] at h2
      refine rgq <| mvq rfl rfl <| sq (f_call en43 rfl h1 (lt rfl)) rfl rfl <| mvq rfl rfl <| sq_yes (f_move rfl (lt rfl)) rfl rfl rfl rfl (lt rfl) <| sq_yes (f_call en44 rfl h2 (lt rfl)) rfl rfl rfl rfl (lt rfl) <| pkq rfl rfl rfl <| asq rfl rfl ?_
      refine nxq <| rtq ?_
      exact hits_done (.inl rfl) rfl rfl (by rw [aln, hd, hl]; rfl)
  · rw [hd] at h1
    refine rgq <| mvq rfl rfl <| sq (f_call en43 rfl h1 (lt rfl)) rfl rfl <| mvq rfl rfl <| noq rfl rfl rfl rfl rfl rfl rfl <| noq rfl rfl rfl rfl rfl rfl rfl <| pkq rfl rfl rfl <| asq rfl rfl ?_
    refine nxq <| rtq ?_
    exact hits_done (.inl rfl) rfl rfl (by rw [aln, hd, Bool.true_or]; rfl)
theorem has_c {Γ : World → Prop} (t p : List UInt8) : CallsP Tryz.prog Γ 41 [.sc (.string (B t)), .sc (.string (B p))] (.sc (.bool (p.isPrefixOf t))) :=
  lift rfl rfl fun w _ => (Tryz.strings_HasPrefix (B t) (B p) w).mono fun e w' q => ⟨by rw [q.1, B_toList, B_toList]; rfl, by rw [q.2]; exact Below.refl _ _⟩
theorem skip_c {Γ : World → Prop} (hΓ : GS Γ) {l t' : List UInt8} {n n' : Nat} (hl : l.length ≤ 281474976710656) (hn : n + l.length ≤ 281474976710656) (hs : skip false l n = (t', n')) : CallsB Tryz.prog Γ 19 [.sc (.string (B l)), .sc (.int .i64 (n : Int))] [] [.sc (.string (B t')), .sc (.int .i64 (n' : Int))] (.tup []) := by
  have hE1 : enters Tryz.prog 40 = true := en40
  have hE2 : enters Tryz.prog 42 = true := en42
  refine callsB_of Tryz.func19 rfl Tryz.ntmps19 rfl rfl fun w0 S0 b stab => ?_
  refine hits_block <| hits_loop (fun x : List UInt8 × Nat => [(.slot 0, some (.ptr 1000000 0)), (.box 1000000, some (.ptr 1000000 0)), (.cell 1000000 0, some (.d (.sc (.string (B x.1))))), (.cell 1000000 1, some (.d (.sc (.int .i64 (x.2 : Int)))))]) (fun x : List UInt8 × Nat => x.1.length ≤ l.length ∧ x.2 + x.1.length ≤ n + l.length ∧ skip false x.1 x.2 = (t', n')) (fun x : List UInt8 × Nat => x.1.length) (l, n) ⟨Nat.le_refl _, Nat.le_refl _, hs⟩ ⟨rfl, rfl, rfl, rfl, trivial⟩ rfl ?_
  intro x hx
  obtain ⟨t, m⟩ := x
  obtain ⟨hlt, hnt, hJ⟩ := hx
  simp only at hlt hnt hJ
  change Hits _ [(.slot 0, some (.ptr 1000000 0)), (.box 1000000, some (.ptr 1000000 0)), (.cell 1000000 0, some (.d (.sc (.string (B t))))), (.cell 1000000 1, some (.d (.sc (.int .i64 (m : Int)))))] _
  have hbl := all_take blank t
  have hlen := len_split blank t
  have hcl := count_le (t.takeWhile blank)
  refine hits_block <| sqq <| sqq <| rgq <| mvq rfl rfl <| sq_callB en39 rfl rfl (eat_c (by omega) hE1 (blank_c hΓ)) ⟨rfl, rfl, trivial⟩ rfl rfl rfl rfl (lt rfl) <| sq (f_range rfl un9 (lt rfl)) rfl rfl <| nxq ?_
  refine hits_block <| hits_loop (fun i : Nat => [(.slot 0, some (.ptr 1000000 0)), (.box 1000000, some (.ptr 1000000 0)), (.cell 1000000 0, some (.d (.sc (.string (B (t.dropWhile blank)))))), (.cell 1000000 1, some (.d (.sc (.int .i64 ((m + ((t.takeWhile blank).take i).count 10 : Nat) : Int))))), (.slot 6, some (.ptr 6 0)), (.box 6, some (.ptr 6 0)), (.iter 6, some (itV (.inl (B (t.takeWhile blank))) i))]) (fun i : Nat => i ≤ (t.takeWhile blank).length) (fun i : Nat => (t.takeWhile blank).length - i) 0 (Nat.zero_le _) ⟨rfl, rfl, rfl, rfl, rfl, rfl, rfl, trivial⟩ rfl ?_
  intro i hi0
  have hci := count_le ((t.takeWhile blank).take i)
  have hct := count_take_le (t.takeWhile blank) i
  have hct1 := count_take_le (t.takeWhile blank) (i + 1)
  refine sqq ?_
  by_cases hi : i < (t.takeWhile blank).length
  · obtain ⟨c, hc⟩ : ∃ c, (t.takeWhile blank)[i]? = some c := ⟨_, List.getElem?_eq_getElem hi⟩
    have hdec := blank_dec hbl hc
    have hcnt := count_take hc
    refine rgq <| sq (f_nextMore rfl rfl (by rw [B_size]; exact hi) hdec (lt rfl)) rfl rfl ?_
    refine exq rfl rfl rfl <| nxq <| sqq <| cnT rfl <| skq <| toq <| hits_block <| sqq ?_
    refine rgq <| exq rfl rfl rfl <| asq rfl rfl <| nxq <| sqq ?_
    by_cases h10 : c.toNat = 10
    · rw [if_pos h10] at hcnt
      refine rgq <| mvq rfl rfl <| sq (f_bin rfl rfl (bT (beq_iff_eq.mpr (by omega))) (lt rfl)) rfl rfl <| nxq <| cnT rfl <| rgq <| mvq rfl rfl <| sq (f_nil rfl rfl (lt rfl)) rfl rfl ?_
      refine faq rfl kf61_1 rfl rfl <| ldq kd3 rfl rfl rfl <| sq (f_bin rfl rfl (iT (((IntWalk.i64_in _ (by omega)).trans (by omega) : _ = ((m + ((t.takeWhile blank).take (i + 1)).count 10 : Nat) : Int)))) (lt rfl)) rfl rfl <| sq (f_nil rfl rfl (lt rfl)) rfl rfl <| faq rfl kf61_1 rfl rfl <| soq kd3 rfl rfl rfl rfl rfl <| nlq <| inq ?_
      refine toq ?_
      refine round_end (i + 1) hi (by omega) ⟨rfl, rfl, rfl, rfl, rfl, rfl, rfl, trivial⟩ rfl
    · rw [if_neg h10, Nat.add_zero] at hcnt
      refine rgq <| mvq rfl rfl <| sq (f_bin rfl rfl (bT (beq_eq_false_iff_ne.mpr (by omega))) (lt rfl)) rfl rfl <| nxq <| cnF rfl <| skq <| inq <| toq ?_
      refine round_end (i + 1) hi (by omega) ⟨rfl, rfl, rfl, congrArg (fun z : Nat => some (V.d (.sc (.int .i64 ((m + z : Nat) : Int))))) hcnt, rfl, rfl, rfl, trivial⟩ rfl
  · have hi' : i = (t.takeWhile blank).length := by omega
    subst hi'
    rw [List.take_length] at *
    refine rgq <| sq (f_nextEnd rfl rfl (by rw [B_size]; exact Nat.le_refl _) (lt rfl)) rfl rfl ?_
    refine exq rfl rfl rfl <| nxq <| sqq <| cnF rfl <| hits_exit <| to_exit <| to_exit <| in_hit rfl ?_
    refine toq <| sqq <| sqq ?_
    cases hp : List.isPrefixOf [47, 47] (t.dropWhile blank)
    · have hh := has_c (Γ := Γ) (t.dropWhile blank) [47, 47]
      rw [hp] at hh
      obtain ⟨rfl, rfl⟩ := skip_fin hJ hp
      refine rgq <| mvq rfl rfl <| sq (f_nil rfl rfl (lt rfl)) rfl rfl <| faq rfl kf61_0 rfl rfl <| ldq kd9 rfl rfl rfl <| sq (f_call en41 rfl hh (lt rfl)) rfl rfl <| sq (f_un rfl rfl (lt rfl)) rfl rfl <| nxq ?_
      refine cnT rfl <| rtq <| to_ret <| in_ret <| to_ret <| in_ret ?_
      exact hits_doneB (.inl rfl) rfl rfl rfl rfl rfl ⟨rfl, rfl, trivial⟩ rfl
    · have hh := has_c (Γ := Γ) (t.dropWhile blank) [47, 47]
      rw [hp] at hh
      have hst := skip_go hJ hp
      refine rgq <| mvq rfl rfl <| sq (f_nil rfl rfl (lt rfl)) rfl rfl <| faq rfl kf61_0 rfl rfl <| ldq kd9 rfl rfl rfl <| sq (f_call en41 rfl hh (lt rfl)) rfl rfl <| sq (f_un rfl rfl (lt rfl)) rfl rfl <| nxq ?_
      refine cnF rfl <| skq <| toq <| rgq <| mvq rfl rfl <| sq_callB en39 rfl rfl (eat_c (by omega) hE2 (noline_c hΓ)) ⟨rfl, rfl, trivial⟩ rfl rfl rfl rfl (lt rfl) <| nlq <| inq ?_
      refine toq ?_
      obtain ⟨hst1, hst2, hst3⟩ := hst
      refine round_end ((t.dropWhile blank).dropWhile noline, m + (t.takeWhile blank).count 10) ⟨by simp only; omega, by simp only; omega, hst1⟩ (by simp only; omega) ⟨rfl, rfl, rfl, rfl, trivial⟩ rfl
end Go.Proofs.YtogodijfdkffaaaGreatDoor.Ln

