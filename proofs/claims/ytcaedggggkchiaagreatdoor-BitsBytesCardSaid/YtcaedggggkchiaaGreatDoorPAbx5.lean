/- The law BitsBytes over data. -/
import Derived.Test.YtcaedggggkchiaaGreatDoorAbByW
import Derived.ChangeShapes
import Derived.IntWalk
namespace Go.Proofs.YtcaedggggkchiaaGreatDoor.Ln
open Go Go.RowKit Go.Ab Go.Proofs 
set_option linter.unusedVariables false
set_option linter.unusedSimpArgs false


theorem bounds_u64 {a : Int} (h : (Lit.int .u64 a).wf = true) : 0 ≤ a ∧ a ≤ 18446744073709551615 := by
  simp [Lit.wf, IntKind.min, IntKind.max, IntKind.bits, IntKind.signed] at h
  omega
theorem u64_nat {a : Int} (h : (Lit.int .u64 a).wf = true) : ∃ n : Nat, a = n ∧ n < 2 ^ 64 := by
  have h0 := bounds_u64 h
  exact ⟨a.toNat, by omega, by omega⟩
theorem two_words {hi lo : Int} (h1 : (Lit.int .u64 hi).wf = true) (h2 : (Lit.int .u64 lo).wf = true) : ∃ v : Nat, v < 2 ^ 128 ∧ hi = hiOf v ∧ lo = loOf v := by
  obtain ⟨a, rfl, ha⟩ := u64_nat h1
  obtain ⟨b, rfl, hb⟩ := u64_nat h2
  refine ⟨a * 2 ^ 64 + b, by omega, ?_, ?_⟩
  · unfold hiOf; congr 1; omega
  · unfold loOf; congr 1; omega
theorem relE_bytes {S : Stab} : ∀ (l : List Int) (b o : Nat), (∀ i c, l[i]? = some c → S b (o + i) = some (.int .u8 c)) → RelE S 1 (l.map byteD) b o
  | [], _, _, _ => .nil
  | c :: l, b, o, h => .cons rfl (.cons (h 0 c rfl) (.sc _) .nil) (relE_bytes l b (o + 1) fun i c' hc => by rw [Nat.add_assoc, Nat.add_comm 1 i]; exact h (i + 1) c' hc)
/-- A slice of bytes, as a row gives it. -/
theorem rel_row {w : World} {x : Option Addr} {len cap : Nat} {zs : List Int} (h : (x = none ∧ len = 0 ∧ cap = 0 ∧ zs = []) ∨ ∃ y, x = some y ∧ len ≤ cap ∧ cap ≤ maxLen ∧ zs.length = cap ∧ (∀ i, i < zs.length → w.cell? (y.add i) = some (.int .u8 (zs.getD i 0))) ∧ ∀ n ∈ zs, (Lit.int .u8 n).wf = true) (hs : ∀ y, x = some y → y.spot = none) :
    ∃ l : List Int, Bs l ∧ l.length ≤ 9223372036854775807 ∧ Rel (Stab.all w) (.list 1 (l.map byteD)) (.slice x len cap) := by
  rcases h with ⟨rfl, rfl, rfl, rfl⟩ | ⟨y, rfl, h1, h2, h3, h4, h5⟩
  · exact ⟨[], fun c hc => by simp at hc, by simp, .lnil⟩
  · have hsp := hs y rfl
    obtain ⟨b, o, s⟩ := y
    obtain rfl : s = none := hsp
    have hlen : (zs.take len).length = len := by rw [List.length_take]; omega
    refine ⟨zs.take len, fun c hc => ?_, by rw [hlen]; simp only [maxLen] at h2; omega, ?_⟩
    · have hw := h5 c (List.mem_of_mem_take hc)
      simp [Lit.wf, IntKind.min, IntKind.max, IntKind.bits, IntKind.signed] at hw
      omega
    · have hr : Rel (Stab.all w) (.list 1 ((zs.take len).map byteD)) (.slice (some ⟨b, o, none⟩) ((zs.take len).map byteD).length cap) := by
        refine .list (by rw [List.length_map, hlen]; exact h1) (relE_bytes _ b o fun i c hc => ?_)
        have hi := (List.getElem?_eq_some_iff.mp hc).1
        rw [hlen] at hi
        have hz : zs[i]? = some c := by rw [List.getElem?_take_of_lt hi] at hc; exact hc
        have := h4 i (by omega)
        rw [List.getD_eq_getElem?_getD, hz] at this
        have e : (⟨b, o, none⟩ : Addr).add i = ⟨b, o + i, none⟩ := by
          unfold Addr.add
          split
          · rename_i h0; rw [h0]; rfl
          · rfl
        rw [e] at this
        exact this
      rwa [List.length_map, hlen] at hr
theorem read_both {w : Int} {l : List Int} (hb : Bs l) : ∃ p0 p1 p2 g : Int, CallsP Tryz.prog Tt 12 [.sc (.int .i64 w), .list 1 (l.map byteD)] (.tup [.agg [.sc (.int .i64 p0), .sc (.int .u64 p1), .sc (.int .u64 p2)], .sc (.int .i64 g)]) ∧ CallsP Tryz.prog Tt 13 [.sc (.int .i64 w), .list 1 (l.map byteD)] (.tup [.agg [.sc (.int .i64 p0), .sc (.int .u64 p1), .sc (.int .u64 p2)], .sc (.int .i64 g)]) := by
  by_cases h : 1 ≤ w ∧ w ≤ 128
  · obtain ⟨n, rfl⟩ : ∃ n : Nat, w = (n : Int) := ⟨w.toNat, by omega⟩
    by_cases he : l.length = (n + 7) / 8
    · have h1 := rd_v hb (by omega) (by omega) he
      have h2 := rrd_v hb (by omega) (by omega) he
      by_cases hv : valB l < 2 ^ n
      · rw [if_pos hv] at h1 h2; exact ⟨_, _, _, _, h1, h2⟩
      · rw [if_neg hv] at h1 h2; exact ⟨_, _, _, _, h1, h2⟩
    · exact ⟨_, _, _, _, rd_l l (by omega) (by omega) he, rrd_l l (by omega) (by omega) he⟩
  · exact ⟨_, _, _, _, rd_w l h, rrd_w l h⟩
theorem bitsbytes_c {a : Int} {v : Nat} (hv : v < 2 ^ 128) (w : Int) {l : List Int} (hb : Bs l) (hl : l.length ≤ 9223372036854775807) : CallsP Tryz.prog Tt 3 [.agg [.sc (.int .i64 a), .sc (.int .u64 (hiOf v)), .sc (.int .u64 (loOf v))], .sc (.int .i64 w), .list 1 (l.map byteD)] (.sc (.bool true)) := by
  by_cases hq : l.length ≤ 1048576
  · obtain ⟨p0, p1, p2, g, hR, hRR⟩ := read_both (w := w) hb
    cases hc : chk a v with
    | false => exact bitsbytes_gen (l := []) (bytes_nn hv hc) (rbytes_no hv hc) hR hRR (Nat.zero_le _) hq
    | true =>
      obtain ⟨h1, h2, h3⟩ := of_decide_eq_true hc
      obtain ⟨n, rfl⟩ : ∃ n : Nat, a = (n : Int) := ⟨a.toNat, by omega⟩
      rw [Int.toNat_natCast] at h3
      exact bitsbytes_gen (bytes_n (by omega) (by omega) h3) (rbytes_c (by omega) (by omega) h3) hR hRR (by rw [bytes_len]; omega) hq
  · exact bitsbytes_far (by omega) hl
theorem pointsmanlaw01_BitsBytes.calls (a0_0 a0_1 a0_2 a1 : Int) (x : Option Addr) (len cap : Nat) (zs : List Int) (r : Bool) (w : World) (hg : Tt w) (hk : r = true) (g0 : (Lit.int .i64 a0_0).wf = true) (g1 : (Lit.int .u64 a0_1).wf = true) (g2 : (Lit.int .u64 a0_2).wf = true) (g3 : (Lit.int .i64 a1).wf = true)
    (hrow : (x = none ∧ len = 0 ∧ cap = 0 ∧ zs = []) ∨ ∃ y, x = some y ∧ len ≤ cap ∧ cap ≤ maxLen ∧ zs.length = cap ∧ (∀ i, i < zs.length → w.cell? (y.add i) = some (.int .u8 (zs.getD i 0))) ∧ ∀ n ∈ zs, (Lit.int .u8 n).wf = true) (hs : ∀ y, x = some y → y.spot = none) :
    Calls Tryz.prog 3 #[.agg #[.int .i64 a0_0, .int .u64 a0_1, .int .u64 a0_2], .int .i64 a1, .slice x len cap] w fun e w' => e = .returned (.bool r) ∧ Below w.heap.size w w' := by
  subst hk
  obtain ⟨v, hv, rfl, rfl⟩ := two_words g1 g2
  obtain ⟨l, hb, hl, hrel⟩ := rel_row hrow hs
  refine (bitsbytes_c (a := a0_0) hv a1 hb hl (Stab.all w) w [_, _, _] hg (fun b o v h => h) (.cons (.agg (.cons (.sc _) (.cons (.sc _) (.cons (.sc _) .nil)))) (.cons (.sc _) (.cons hrel .nil)))).mono ?_
  rintro e w' ⟨u, S', rfl, h2, _, h3, _⟩
  exact ⟨by rw [rel_sc h2], h3⟩

end Go.Proofs.YtcaedggggkchiaaGreatDoor.Ln
