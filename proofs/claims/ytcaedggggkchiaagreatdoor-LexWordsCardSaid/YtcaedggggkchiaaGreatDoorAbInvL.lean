/- What is written is read again: texts of numbers. -/
import Derived.Test.YtcaedggggkchiaaGreatDoorAbPar
import Derived.Lib.SmallJoins
namespace Go.Proofs.YtcaedggggkchiaaGreatDoor.Ln
open Go Go.RowKit Go.Ab Go.Proofs 
set_option linter.unusedVariables false
set_option linter.unusedSimpArgs false

def decB (n : Nat) : ByteArray := ⟨(Lib.decDigits n).toArray⟩
theorem itoaB_dec (w : Nat) : itoaB w = decB w := by unfold itoaB decB Lib.itoa; rw [if_neg (by omega)]; simp
/-- The reference's digit. -/
def dgI (c : Nat) : Int := if 48 ≤ c ∧ c ≤ 57 then ((c - 48 : Nat) : Int) else if 97 ≤ c ∧ c ≤ 102 then ((c - 87 : Nat) : Int) else -1
/-- The reference's text. -/
def rtextB (w v : Nat) : ByteArray := decB w ++ ⟨#[119]⟩ ++ hexB v

/-- What decimal digits, what hexadecimal digits come to. -/
def wv (l : List UInt8) : Nat := l.foldl (fun a c => 10 * a + (c.toNat - 48)) 0
def hv16 (l : List UInt8) : Nat := l.foldl (fun a c => a * 16 + (dgI c.toNat).toNat) 0
theorem hv_snoc (l : List UInt8) (c : UInt8) : hv16 (l ++ [c]) = hv16 l * 16 + (dgI c.toNat).toNat := by simp [hv16]
theorem hx_dig : ∀ d : Nat, d < 16 → dig (Hex.hx d).toNat = some d := by decide +kernel
theorem hx_dgI : ∀ d : Nat, d < 16 → dgI (Hex.hx d).toNat = (d : Int) := by decide +kernel
/-- Hexadecimal digits, nothing else. -/
def IsHex (l : List UInt8) : Prop := ∀ c ∈ l, ∃ d : Nat, d < 16 ∧ c = Hex.hx d
theorem hexL_is (u : Nat) : IsHex (Hex.hexL u) := by
  induction u using Nat.strongRecOn with
  | _ u ih =>
    rw [Hex.hexL]
    split
    · rename_i h; intro c hc; simp at hc; exact ⟨u, h, hc⟩
    · intro c hc
      rcases List.mem_append.mp hc with h | h
      · exact ih (u / 16) (by omega) c h
      · simp at h; exact ⟨u % 16, by omega, h⟩
theorem hv_hexL (u : Nat) : hv16 (Hex.hexL u) = u := by
  induction u using Nat.strongRecOn with
  | _ u ih =>
    rw [Hex.hexL]
    split
    · rename_i h; show 0 * 16 + (dgI (Hex.hx u).toNat).toNat = u; rw [hx_dgI u h]; simp
    · rw [hv_snoc, ih (u / 16) (by omega), hx_dgI _ (Nat.mod_lt _ (by decide))]; simp only [Int.toNat_natCast]; omega
theorem fold_app (l : List UInt8) : ∀ a, l.foldl (fun a c => a * 16 + (dgI c.toNat).toNat) a = a * 16 ^ l.length + hv16 l := by
  induction l with
  | nil => intro a; simp [hv16]
  | cons c l ih =>
    intro a
    have e : hv16 (c :: l) = l.foldl (fun a c => a * 16 + (dgI c.toNat).toNat) (0 * 16 + (dgI c.toNat).toNat) := rfl
    rw [List.foldl_cons, ih, e, ih, List.length_cons, Nat.pow_succ]
    rw [Nat.add_mul, Nat.add_mul, Nat.mul_assoc, Nat.mul_comm 16 (16 ^ l.length)]; simp; omega
theorem hv_app (a b : List UInt8) : hv16 (a ++ b) = hv16 a * 16 ^ b.length + hv16 b := by
  rw [← fold_app]; unfold hv16; rw [List.foldl_append]
theorem pu_hex : ∀ (l : List UInt8) (n : Nat), IsHex l → l.length ≤ 16 → n < 16 ^ (16 - l.length) → pu16 n l = (l.foldl (fun a c => a * 16 + (dgI c.toNat).toNat) n, 0)
  | [], n, _, _, _ => rfl
  | c :: l, n, h, hl, hn => by
    obtain ⟨d, hd, rfl⟩ := h c (by simp)
    have hl' : l.length + 1 ≤ 16 := hl
    have h1 : n < 16 ^ 15 := Nat.lt_of_lt_of_le hn (Nat.pow_le_pow_right (by decide) (by simp))
    have h2 : n * 16 + d < 16 ^ (16 - l.length) := by
      rw [show 16 - l.length = 16 - (l.length + 1) + 1 from by omega, Nat.pow_succ]
      have : n < 16 ^ (16 - (l.length + 1)) := by simpa using hn
      omega
    rw [pu_go (hx_dig d hd) (by omega) (by have : (16 : Nat) ^ 15 = 1152921504606846976 := rfl; omega), pu_hex l _ (fun c hc => h c (by simp [hc])) (by omega) h2, List.foldl_cons, hx_dgI d hd]
    simp
theorem puOf_hex (b : ByteArray) (h : IsHex b.data.toList) (hl : b.size ≤ 16) : (puOf b).1 = hv16 b.data.toList := by
  unfold puOf
  split
  · rename_i h0
    have : b.data.toList = [] := List.length_eq_zero_iff.mp (by simpa using h0)
    rw [this]; rfl
  · rw [pu_hex _ 0 h (by simpa using hl) (Nat.two_pow_pos 0 |> fun _ => Nat.pow_pos (by decide))]; rfl
theorem idx_at (D H : List UInt8) (h : ∀ c ∈ D, c ≠ 119) : Lib.indexByte (D ++ 119 :: H) 119 = (D.length : Int) := by
  induction D with
  | nil => rfl
  | cons c D ih =>
    have hc := h c (by simp)
    have := ih fun c hc => h c (by simp [hc])
    simp only [List.cons_append, Lib.indexByte]
    rw [if_neg (by simpa using hc), this, if_neg (by simp <;> omega)]
    rfl
theorem ext_list (s : ByteArray) (i j : Nat) : (s.extract i j).data.toList = (s.data.toList.drop i).take (j - i) := by
  rw [ByteArray.data_extract, Array.toList_extract, List.extract_eq_take_drop]
theorem small_ok : ∀ w : Nat, w < 129 → ((Lib.decDigits w).all (fun c => 48 ≤ c.toNat && c.toNat ≤ 57) && decide ((Lib.decDigits w).length ≤ 3) && decide (wv (Lib.decDigits w) = w) && (match Lib.atoiAll (Lib.decDigits w) with | .ok v => v == (w : Int) | _ => false)) = true := by decide +kernel
theorem ba_ext {a b : ByteArray} (h : a.data.toList = b.data.toList) : a = b := by
  cases a; cases b; congr 1; exact Array.toList_inj.mp h
theorem rtext_list (w v : Nat) : (rtextB w v).data.toList = Lib.decDigits w ++ 119 :: Hex.hexL v := by
  unfold rtextB decB hexB; simp
section
variable {w v : Nat} (h0 : 1 ≤ w) (h : w ≤ 128) (hv : v < 2 ^ 128)
theorem yes_of (h : w ≤ 128) : (∀ c ∈ Lib.decDigits w, 48 ≤ c.toNat ∧ c.toNat ≤ 57) ∧ (Lib.decDigits w).length ≤ 3 ∧ wv (Lib.decDigits w) = w ∧ Lib.atoiAll (Lib.decDigits w) = .ok (w : Int) := by
  have e := small_ok w (by omega)
  simp only [Bool.and_eq_true, List.all_eq_true, decide_eq_true_eq] at e
  obtain ⟨⟨⟨e1, e2⟩, e3⟩, e4⟩ := e
  refine ⟨e1, e2, e3, ?_⟩
  split at e4
  · rename_i q hq; rw [hq, eq_of_beq e4]
  · cases e4
theorem cut_idx (h : w ≤ 128) : Lib.indexByte (rtextB w v).data.toList 119 = ((Lib.decDigits w).length : Int) := by
  rw [rtext_list]
  exact idx_at _ _ fun c hc e => by have := (yes_of h).1 c hc; rw [e] at this; exact absurd this.2 (by decide)
theorem cutA_is (h : w ≤ 128) : cutA (rtextB w v) = decB w := by
  unfold cutA
  rw [cut_idx h, if_pos (by omega)]
  apply ba_ext
  rw [ext_list, rtext_list]
  simp [decB]
theorem rtext_size : (rtextB w v).size = (Lib.decDigits w).length + 1 + (Hex.hexL v).length := by
  have := congrArg List.length (rtext_list w v)
  rw [Array.length_toList, List.length_append, List.length_cons] at this
  exact this.trans (by omega)
theorem cutB_is (h : w ≤ 128) : cutB (rtextB w v) = hexB v := by
  unfold cutB
  rw [cut_idx h, if_pos (by omega)]
  apply ba_ext
  rw [ext_list, rtext_list, rtext_size]
  simp [hexB]
theorem pW_is (h : w ≤ 128) : pW (rtextB w v) = w := by
  unfold pW atoiN
  rw [cutA_is h]
  show (match Lib.atoiAll (decB w).data.toList with | .ok v => v | .range => _ | _ => 0) = _
  rw [show (decB w).data.toList = Lib.decDigits w from by simp [decB], (yes_of h).2.2.2]
theorem pV_is (h : w ≤ 128) (hv : v < 2 ^ 128) : pV (rtextB w v) = v := by
  have hlen := hexL_le 31 v (by simpa using hv)
  have hhex := hexL_is v
  have hval := hv_hexL v
  have hsz : (hexB v).size = (Hex.hexL v).length := by simp [hexB, ByteArray.size]
  have hl : (hexB v).data.toList = Hex.hexL v := by simp [hexB]
  unfold pV pH pL
  rw [cutB_is h, puOf_hex, puOf_hex, ext_list, ext_list, hl, hsz]
  · generalize hL : Hex.hexL v = L at *
    rw [List.drop_zero, Nat.sub_zero, List.take_of_length_le (l := L.drop (L.length - 16)) (by rw [List.length_drop]; exact Nat.le_refl _)]
    have e := hv_app (L.take (L.length - 16)) (L.drop (L.length - 16))
    rw [List.take_append_drop, hval] at e
    by_cases h16 : L.length ≤ 16
    · rw [show L.length - 16 = 0 from by omega, List.take_zero, List.drop_zero, show hv16 ([] : List UInt8) = 0 from rfl, Nat.zero_mul, Nat.zero_add]; exact hval
    · rw [List.length_drop, show L.length - (L.length - 16) = 16 from by omega] at e
      rw [show (18446744073709551616 : Nat) = 16 ^ 16 from rfl]; exact e.symm
  · rw [ext_list, hl]
    intro c hc
    exact hhex c (List.mem_of_mem_drop (List.mem_of_mem_take hc))
  · rw [ByteArray.size_extract]; omega
  · rw [ext_list, hl]
    intro c hc
    exact hhex c (List.mem_of_mem_drop (List.mem_of_mem_take hc))
  · rw [ByteArray.size_extract]; omega
end
theorem app_list (a b : ByteArray) : (a ++ b).data.toList = a.data.toList ++ b.data.toList := by simp
/-- Exactly so many digits. -/
def pad : Nat → Nat → List UInt8
  | 0, _ => []
  | k + 1, r => pad k (r / 16) ++ [Hex.hx (r % 16)]
theorem hexL_pad (u : Nat) (hu : 0 < u) : ∀ (k r : Nat), r < 16 ^ k → Hex.hexL (u * 16 ^ k + r) = Hex.hexL u ++ pad k r
  | 0, r, h => by
    obtain rfl : r = 0 := (by simpa using h)
    simp [pad]
  | k + 1, r, h => by
    have hp := Nat.pow_pos (n := k) (show 0 < 16 by decide)
    have e1 : (u * 16 ^ (k + 1) + r) / 16 = u * 16 ^ k + r / 16 := by rw [Nat.pow_succ, ← Nat.mul_assoc]; omega
    have e2 : (u * 16 ^ (k + 1) + r) % 16 = r % 16 := by rw [Nat.pow_succ, ← Nat.mul_assoc]; omega
    have h1 : r / 16 < 16 ^ k := Nat.div_lt_of_lt_mul (by rw [Nat.mul_comm, ← Nat.pow_succ]; exact h)
    rw [Hex.hexL, if_neg (by rw [Nat.pow_succ, ← Nat.mul_assoc]; have : 1 * 1 ≤ u * 16 ^ k := Nat.mul_le_mul hu hp; omega), e1, e2, hexL_pad u hu k (r / 16) h1, pad, List.append_assoc]
theorem pad_zero : ∀ k, pad k 0 = List.replicate k 48
  | 0 => rfl
  | k + 1 => by rw [pad, Nat.zero_div, pad_zero k, show Hex.hx (0 % 16) = 48 from by decide, List.replicate_succ']
theorem pad_hexL : ∀ (k r : Nat), (Hex.hexL r).length ≤ k → pad k r = List.replicate (k - (Hex.hexL r).length) 48 ++ Hex.hexL r
  | 0, r, h => by rw [Hex.hexL] at h; split at h <;> simp at h
  | k + 1, r, h => by
    by_cases hr : r < 16
    · have e : Hex.hexL r = [Hex.hx r] := by rw [Hex.hexL, if_pos hr]
      rw [pad, Nat.div_eq_of_lt hr, pad_zero, Nat.mod_eq_of_lt hr, e]; simp
    · have e : Hex.hexL r = Hex.hexL (r / 16) ++ [Hex.hx (r % 16)] := by rw [Hex.hexL, if_neg hr]
      rw [e, List.length_append] at h
      rw [pad, pad_hexL k (r / 16) (by simpa using h), e, List.length_append, List.append_assoc]
      simp
theorem digits_is {v : Nat} (hv : v < 2 ^ 128) : digitsB v = hexB v := by
  unfold digitsB
  by_cases h : 0 < v / 2 ^ 64
  · rw [if_pos h]
    apply ba_ext
    have hs : (hexB (v % 2 ^ 64)).size = (Hex.hexL (v % 2 ^ 64)).length := by simp [hexB, ByteArray.size]
    have hl := hexL_le 15 (v % 2 ^ 64) (by have := Nat.mod_lt v (show 0 < 2 ^ 64 by decide); simpa using this)
    have e := hexL_pad (v / 2 ^ 64) h 16 (v % 2 ^ 64) (by have := Nat.mod_lt v (show 0 < 2 ^ 64 by decide); simpa using this)
    rw [show v / 2 ^ 64 * 16 ^ 16 + v % 2 ^ 64 = v from by rw [show (16 : Nat) ^ 16 = 2 ^ 64 from rfl]; omega, pad_hexL 16 _ hl] at e
    have hz : (zerosB (16 - (hexB (v % 2 ^ 64)).size)).data.toList = List.replicate (16 - (Hex.hexL (v % 2 ^ 64)).length) 48 := by
      rw [hs]
      generalize 16 - (Hex.hexL (v % 2 ^ 64)).length = c
      show (⟨(Lib.repeatL [48] c).toArray⟩ : ByteArray).data.toList = _
      simp only
      induction c with
      | zero => rfl
      | succ c ih => rw [Lib.repeatL, ih, List.replicate_succ]; rfl
    show (hexB (v / 2 ^ 64) ++ zerosB (16 - (hexB (v % 2 ^ 64)).size) ++ hexB (v % 2 ^ 64)).data.toList = (hexB v).data.toList
    rw [app_list, app_list, hz]
    unfold hexB
    rw [e]; simp
  · rw [if_neg h, Nat.mod_eq_of_lt (by omega)]
theorem rtext_eq {w v : Nat} (hv : v < 2 ^ 128) : textB w v = rtextB w v := by
  unfold textB rtextB
  rw [itoaB_dec, digits_is hv]
end Go.Proofs.YtcaedggggkchiaaGreatDoor.Ln
