/- Parts of the walk, joined. -/
import Derived.Test.YtogodijfdkffaaaGreatDoorJ3
import Derived.Lib.ParseIntB
import Derived.Shelf.Strings.SlTrimAscii
import Derived.Lib.ParseIntBCases
import Derived.Test.YtogodijfdkffaaaGreatDoorJ2
import Derived.LoopN
import Derived.Laws.MakeOwn
import Derived.MapKept
set_option linter.unusedVariables false
set_option linter.unusedSimpArgs false
set_option maxRecDepth 100000
/- What words are, in plain words. -/
namespace Go.Proofs.YtogodijfdkffaaaGreatDoor.Ln
open Go Go.RowKit Go.Ab Go.Proofs 
def litOf (s : ByteArray) : Option (Nat × Nat) := if 1 ≤ pW s ∧ pW s ≤ 128 ∧ pV s < 2 ^ (pW s).toNat ∧ textB (pW s).toNat (pV s) = s then some ((pW s).toNat, pV s) else none
theorem lit_yes {s : ByteArray} {w v : Nat} (h : litOf s = some (w, v)) : Yes s ∧ pW s = (w : Int) ∧ (pH s : Int) = ((v / 18446744073709551616 : Nat) : Int) ∧ (pL s : Int) = ((v % 18446744073709551616 : Nat) : Int) := by
  unfold litOf at h
  split at h
  · rename_i hc
    cases h
    obtain ⟨h1, h2, h3, h4⟩ := hc
    have e : pW s = (((pW s).toNat : Nat) : Int) := by omega
    have e1 := pV_hi s
    have e2 := pV_lo s
    unfold hiOf at e1
    unfold loOf at e2
    exact ⟨⟨_, e, by omega, by omega, h3, h4⟩, e, e1.symm, e2.symm⟩
  · cases h
theorem lit_no {s : ByteArray} (h : litOf s = none) : ¬ Yes s := by
  rintro ⟨w, h1, h2, h3, h4, h5⟩
  unfold litOf at h
  rw [h1] at h
  simp only [Int.toNat_natCast] at h
  rw [if_pos ⟨by omega, by omega, h4, h5⟩] at h
  cases h
structure Wd where
  k : Nat
  s : List UInt8
  w : Nat
  hi : Nat
  lo : Nat
  ln : Nat
  deriving DecidableEq
def sgns : List (List UInt8) := [[61, 61], [33, 61], [60, 61], [60, 60], [62, 62], [43, 43], [38, 38], [124, 124], [123], [125], [40], [41], [91], [93], [59], [58], [44], [46], [61], [60], [43], [45], [42], [38], [124], [94], [126]]
def valL (l : List UInt8) : Nat := l.foldl (fun n c => 10 * n + (c.toNat - 48)) 0
def number (l : List UInt8) : Option Wd :=
  if l.all dgt = true then (if valL l ≤ 2147483647 ∧ Lib.decDigits (valL l) = l then some ⟨2, [], 64, 0, valL l, 0⟩ else none)
  else match litOf (B l) with
    | some (w, v) => some ⟨3, [], w, v / 18446744073709551616, v % 18446744073709551616, 0⟩
    | none => none
def puN (l : List UInt8) : Nat := match Lib.parseUintB 64 l with | .ok u => u | .range => 18446744073709551615 | _ => 0
def numW (l : List UInt8) : Wd :=
  if l.all dgt = true then ⟨2, [], 64, 0, puN l, 0⟩
  else match litOf (B l) with
    | some (w, v) => ⟨3, [], w, v / 18446744073709551616, v % 18446744073709551616, 0⟩
    | none => ⟨3, [], 0, 0, 0, 0⟩
def numOk (l : List UInt8) : Bool := if l.all dgt = true then decide (valL l ≤ 2147483647 ∧ Lib.decDigits (valL l) = l) else (litOf (B l)).isSome
theorem val_go : ∀ (l : List UInt8) (acc : Nat), l.all dgt = true → acc ≤ l.foldl (fun n c => 10 * n + (c.toNat - 48)) acc
  | [], acc, _ => Nat.le_refl _
  | c :: l, acc, h => by
    simp only [List.all_cons, Bool.and_eq_true] at h
    exact Nat.le_trans (by omega) (val_go l (10 * acc + (c.toNat - 48)) h.2)
theorem pu_go10 {M : Nat} : ∀ (l : List UInt8) (acc : Nat), l.all dgt = true → (Lib.parseUintM M acc l = .ok (l.foldl (fun n c => 10 * n + (c.toNat - 48)) acc) ∨ Lib.parseUintM M acc l = .range) ∧
    (M = 18446744073709551615 → l.foldl (fun n c => 10 * n + (c.toNat - 48)) acc ≤ 2147483647 → Lib.parseUintM M acc l = .ok (l.foldl (fun n c => 10 * n + (c.toNat - 48)) acc))
  | [], acc, _ => ⟨.inl rfl, fun _ _ => rfl⟩
  | c :: l, acc, h => by
    simp only [List.all_cons, Bool.and_eq_true] at h
    have hd := of_decide_eq_true h.1
    have e : acc * 10 + (c.toNat - 48) = 10 * acc + (c.toNat - 48) := by omega
    unfold Lib.parseUintM
    rw [if_pos hd, List.foldl_cons, e]
    obtain ⟨h1, h2⟩ := pu_go10 (M := M) l (10 * acc + (c.toNat - 48)) h.2
    have hv := val_go l (10 * acc + (c.toNat - 48)) h.2
    constructor
    · split
      · exact .inr rfl
      · split
        · exact .inr rfl
        · exact h1
    · intro hM hle
      rw [if_neg (by omega), if_neg (by omega)]
      exact h2 hM hle
theorem puB {l : List UInt8} (hl : l ≠ []) (h : l.all dgt = true) : (Lib.parseUintB 64 l = .ok (valL l) ∨ Lib.parseUintB 64 l = .range) ∧ (valL l ≤ 2147483647 → Lib.parseUintB 64 l = .ok (valL l)) := by
  obtain ⟨h1, h2⟩ := pu_go10 (M := 2 ^ 64 - 1) l 0 h
  unfold Lib.parseUintB valL
  rw [if_neg hl]
  exact ⟨h1, h2 rfl⟩
theorem number_is {l : List UInt8} (hl : l ≠ []) : number l = if numOk l = true then some (numW l) else none := by
  unfold number numOk numW
  by_cases h : l.all dgt = true
  · simp only [if_pos h, decide_eq_true_eq]
    split
    · rename_i hc
      have := (puB hl h).2 hc.1
      unfold puN; rw [this]
    · rfl
  · simp only [if_neg h]
    cases hm : litOf (B l) with
    | none => rfl
    | some p => rfl
def word : List UInt8 → Option (Wd × List UInt8)
  | [] => none
  | c :: r =>
    if aln c = true then
      if dgt c = true then (match number ((c :: r).takeWhile aln) with | some x => some (x, (c :: r).dropWhile aln) | none => none)
      else if ((c :: r).takeWhile aln).length ≤ 255 then some (⟨1, (c :: r).takeWhile aln, 0, 0, 0, 0⟩, (c :: r).dropWhile aln) else none
    else match sgns.find? (fun t => t.isPrefixOf (c :: r)) with
      | some t => some (⟨4, t, 0, 0, 0, 0⟩, (c :: r).drop t.length)
      | none => none
theorem word_cons (c : UInt8) (r : List UInt8) : word (c :: r) = if aln c = true then
      (if dgt c = true then (match number ((c :: r).takeWhile aln) with | some x => some (x, (c :: r).dropWhile aln) | none => none)
      else if ((c :: r).takeWhile aln).length ≤ 255 then some (⟨1, (c :: r).takeWhile aln, 0, 0, 0, 0⟩, (c :: r).dropWhile aln) else none)
    else match sgns.find? (fun t => t.isPrefixOf (c :: r)) with
      | some t => some (⟨4, t, 0, 0, 0, 0⟩, (c :: r).drop t.length)
      | none => none := by rw [word]
def wordW : List UInt8 → Wd
  | [] => ⟨4, [], 0, 0, 0, 0⟩
  | c :: r => if aln c = true then (if dgt c = true then numW ((c :: r).takeWhile aln) else ⟨1, (c :: r).takeWhile aln, 0, 0, 0, 0⟩)
    else match sgns.find? (fun t => t.isPrefixOf (c :: r)) with
      | some t => ⟨4, t, 0, 0, 0, 0⟩
      | none => ⟨4, [], 0, 0, 0, 0⟩
def wordT : List UInt8 → List UInt8
  | [] => []
  | c :: r => if aln c = true then (c :: r).dropWhile aln
    else match sgns.find? (fun t => t.isPrefixOf (c :: r)) with
      | some t => (c :: r).drop t.length
      | none => c :: r
def wordOk : List UInt8 → Bool
  | [] => false
  | c :: r => if aln c = true then (if dgt c = true then numOk ((c :: r).takeWhile aln) else decide (((c :: r).takeWhile aln).length ≤ 255))
    else (sgns.find? (fun t => t.isPrefixOf (c :: r))).isSome
theorem word_is (t : List UInt8) : word t = if wordOk t = true then some (wordW t, wordT t) else none := by
  cases t with
  | nil => rfl
  | cons c r =>
    rw [word_cons]
    simp only [wordOk, wordW, wordT]
    by_cases ha : aln c = true
    · simp only [if_pos ha]
      by_cases hd : dgt c = true
      · simp only [if_pos hd]
        rw [number_is (by rw [List.takeWhile_cons, if_pos ha]; simp)]
        split
        · rename_i h; split at h
          · rename_i h2; cases h; rw [if_pos h2]
          · cases h
        · rename_i h; split at h
          · cases h
          · rename_i h2; rw [if_neg h2]
      · simp only [if_neg hd, decide_eq_true_eq]
    · simp only [if_neg ha]
      cases sgns.find? (fun t => t.isPrefixOf (c :: r)) <;> rfl
def wordsF : Nat → List UInt8 → Nat → Nat ⊕ List Wd
  | 0, _, _ => .inr []
  | f + 1, s, n => match (skip false s n).1 with
    | [] => .inr []
    | c :: r => match word (c :: r) with
      | none => .inl (skip false s n).2
      | some (x, t) => match wordsF f t (skip false s n).2 with
        | .inl e => .inl e
        | .inr l => .inr ({ x with ln := (skip false s n).2 } :: l)
theorem wordsF_succ (f : Nat) (s : List UInt8) (n : Nat) : wordsF (f + 1) s n = match (skip false s n).1 with
    | [] => .inr []
    | c :: r => match word (c :: r) with
      | none => .inl (skip false s n).2
      | some (x, t) => match wordsF f t (skip false s n).2 with
        | .inl e => .inl e
        | .inr l => .inr ({ x with ln := (skip false s n).2 } :: l) := by rw [wordsF]
def W (s : List UInt8) (n : Nat) : Nat ⊕ List Wd := wordsF (s.length + 1) s n
theorem sgns_pos : ∀ t ∈ sgns, 1 ≤ t.length := by decide
theorem sgns_small : ∀ t ∈ sgns, t.length ≤ 2 := by decide
theorem dropWhile_cons_lt {p : UInt8 → Bool} {c : UInt8} {r : List UInt8} (h : p c = true) : ((c :: r).dropWhile p).length < (c :: r).length := by
  rw [List.dropWhile_cons, if_pos h]
  exact Nat.lt_succ_of_le (List.dropWhile_sublist p).length_le
theorem word_lt {t t' : List UInt8} {x : Wd} (h : word t = some (x, t')) : t'.length < t.length := by
  cases t with
  | nil => cases h
  | cons c r =>
    rw [word_cons] at h
    split at h
    · rename_i ha
      split at h
      · split at h
        · cases h; exact dropWhile_cons_lt ha
        · cases h
      · split at h
        · cases h; exact dropWhile_cons_lt ha
        · cases h
    · split at h
      · rename_i s hs
        cases h
        have := sgns_pos s (List.mem_of_find?_eq_some hs)
        rw [List.length_drop]
        simp only [List.length_cons]
        omega
      · cases h
theorem wordsF_any : ∀ (f g : Nat) (s : List UInt8) (n : Nat), s.length < f → s.length < g → wordsF f s n = wordsF g s n
  | f + 1, g + 1, s, n, hf, hg => by
    rw [wordsF_succ, wordsF_succ]
    have hl := skip_le false s n
    split
    · rfl
    · rename_i c r hs
      rw [hs] at hl
      split
      · rfl
      · rename_i x t hw
        have := word_lt hw
        rw [wordsF_any f g t _ (by omega) (by omega)]
theorem W_nil {s : List UInt8} {n : Nat} (h : (skip false s n).1 = []) : W s n = .inr [] := by
  unfold W; rw [wordsF_succ, h]
theorem W_none {s t : List UInt8} {n m : Nat} (h : skip false s n = (t, m)) (ht : t ≠ []) (hw : word t = none) : W s n = .inl m := by
  unfold W; rw [wordsF_succ, h]
  cases t with
  | nil => exact absurd rfl ht
  | cons c r => simp only [hw]
theorem W_some {s t t' : List UInt8} {n m : Nat} {x : Wd} (h : skip false s n = (t, m)) (hw : word t = some (x, t')) : W s n = match W t' m with | .inl e => .inl e | .inr l => .inr ({ x with ln := m } :: l) := by
  have hl := skip_le false s n
  have h2 := word_lt hw
  rw [h] at hl
  have e : W t' m = wordsF s.length t' m := wordsF_any _ _ _ _ (by omega) (by simp at hl; omega)
  rw [e]
  unfold W
  rw [wordsF_succ]
  rw [h]
  cases t with
  | nil => cases hw
  | cons c r => simp only [hw]
def told (x : Wd) : List UInt8 := if x.k = 2 then Lib.decDigits x.lo else if x.k = 3 then (textB x.w (x.hi * 18446744073709551616 + x.lo)).data.toList else x.s
def Good (x : Wd) : Prop := x.ln = 0 ∧ (x.k = 1 ∧ x.w = 0 ∧ x.hi = 0 ∧ x.lo = 0 ∧ x.s.length ≤ 255 ∨ x.k = 2 ∧ x.s = [] ∧ x.w = 64 ∧ x.hi = 0 ∧ x.lo ≤ 2147483647 ∨ x.k = 3 ∧ x.s = [] ∧ 1 ≤ x.w ∧ x.w ≤ 128 ∧ x.hi * 18446744073709551616 + x.lo < 2 ^ x.w ∧ x.lo < 18446744073709551616 ∨ x.k = 4 ∧ x.w = 0 ∧ x.hi = 0 ∧ x.lo = 0 ∧ x.s.length ≤ 2)
theorem litOf_some {s : ByteArray} {w v : Nat} (h : litOf s = some (w, v)) : 1 ≤ w ∧ w ≤ 128 ∧ v < 2 ^ w ∧ textB w v = s := by
  unfold litOf at h
  split at h
  · rename_i hc
    cases h
    exact ⟨by omega, by omega, hc.2.2.1, hc.2.2.2⟩
  · cases h
theorem number_good {a : List UInt8} {x : Wd} (h : number a = some x) : told x = a ∧ Good x := by
  unfold number at h
  split at h
  · split at h
    · rename_i hc
      cases h
      exact ⟨hc.2, rfl, .inr (.inl ⟨rfl, rfl, rfl, rfl, hc.1⟩)⟩
    · cases h
  · split at h
    · rename_i w v hl
      cases h
      obtain ⟨h1, h2, h3, h4⟩ := litOf_some hl
      have e : v / 18446744073709551616 * 18446744073709551616 + v % 18446744073709551616 = v := by omega
      refine ⟨?_, rfl, .inr (.inr (.inl ⟨rfl, rfl, h1, h2, ?_, Nat.mod_lt _ (by decide)⟩))⟩
      · show (textB w (v / 18446744073709551616 * 18446744073709551616 + v % 18446744073709551616)).data.toList = a
        rw [e, h4, B_toList]
      · show v / 18446744073709551616 * 18446744073709551616 + v % 18446744073709551616 < 2 ^ w
        rw [e]; exact h3
    · cases h
theorem number_kind {a : List UInt8} {x : Wd} (h : number a = some x) : x.k = 2 ∨ x.k = 3 := by
  unfold number at h
  split at h
  · split at h
    · cases h; exact .inl rfl
    · cases h
  · split at h
    · cases h; exact .inr rfl
    · cases h
def Ends (l : List UInt8) : Prop := ∀ c r, l = c :: r → aln c = false
def EndsS (l : List UInt8) : Prop := l = [] ∨ (∃ r, l = 32 :: r) ∨ ∃ r, l = 10 :: r
theorem EndsS.ends {l : List UInt8} (h : EndsS l) : Ends l := by
  rintro c r rfl
  rcases h with h | ⟨r', h⟩ | ⟨r', h⟩
  · cases h
  · cases h; decide
  · cases h; decide
theorem takeWhile_app {p : UInt8 → Bool} : ∀ {a rest : List UInt8}, a.all p = true → (∀ c r, rest = c :: r → p c = false) → (a ++ rest).takeWhile p = a ∧ (a ++ rest).dropWhile p = rest
  | [], [], _, _ => ⟨rfl, rfl⟩
  | [], c :: r, _, h => by simp [List.takeWhile, List.dropWhile, h c r rfl]
  | c :: a, rest, ha, h => by
    simp only [List.all_cons, Bool.and_eq_true] at ha
    obtain ⟨h1, h2⟩ := takeWhile_app ha.2 h
    rw [List.cons_append, List.takeWhile_cons, if_pos ha.1, List.dropWhile_cons, if_pos ha.1, h1, h2]
    exact ⟨rfl, rfl⟩
theorem all_takeWhile (p : UInt8 → Bool) : ∀ l : List UInt8, (l.takeWhile p).all p = true
  | [] => rfl
  | c :: l => by
    rw [List.takeWhile_cons]
    split
    · rename_i h; simp [h, all_takeWhile p l]
    · rfl
theorem sgn_heads : ∀ t ∈ sgns, ∃ c r, t = c :: r ∧ aln c = false ∧ blank c = false ∧ c ≠ 47 := by
  intro t ht
  simp only [sgns, List.mem_cons, List.not_mem_nil, or_false] at ht
  rcases ht with rfl | rfl | rfl | rfl | rfl | rfl | rfl | rfl | rfl | rfl | rfl | rfl | rfl | rfl | rfl | rfl | rfl | rfl | rfl | rfl | rfl | rfl | rfl | rfl | rfl | rfl | rfl <;> exact ⟨_, _, rfl, by decide, by decide, by decide⟩
theorem sgn_again : ∀ t ∈ sgns, ∀ rest, EndsS rest → sgns.find? (fun s => s.isPrefixOf (t ++ rest)) = some t := by
  intro t ht rest hr
  simp only [sgns, List.mem_cons, List.not_mem_nil, or_false] at ht
  rcases hr with rfl | ⟨r, rfl⟩ | ⟨r, rfl⟩ <;> rcases ht with rfl | rfl | rfl | rfl | rfl | rfl | rfl | rfl | rfl | rfl | rfl | rfl | rfl | rfl | rfl | rfl | rfl | rfl | rfl | rfl | rfl | rfl | rfl | rfl | rfl | rfl | rfl <;> rfl
theorem aln_blank {c : UInt8} (h : aln c = true) : blank c = false ∧ c ≠ 47 := by
  constructor
  · cases hb : blank c with
    | false => rfl
    | true =>
      unfold blank at hb
      have := of_decide_eq_true hb
      unfold aln dgt ltr at h
      simp only [Bool.or_eq_true, decide_eq_true_eq] at h
      rcases this with e | e | e <;> rw [e] at h <;> revert h <;> decide
  · rintro rfl; revert h; decide
theorem word_told {t t' : List UInt8} {x : Wd} (h : word t = some (x, t')) : told x ++ t' = t ∧ Good x ∧ (∃ c r, told x = c :: r ∧ blank c = false ∧ c ≠ 47) ∧
    (∀ rest, EndsS rest → word (told x ++ rest) = some (x, rest)) ∧ (x.k ≠ 4 → (told x).all aln = true ∧ ∀ rest, Ends rest → word (told x ++ rest) = some (x, rest)) := by
  cases t with
  | nil => cases h
  | cons c r =>
    by_cases ha : aln c = true
    · have hcons : ∃ q, (c :: r).takeWhile aln = c :: q := by rw [List.takeWhile_cons, if_pos ha]; exact ⟨_, rfl⟩
      obtain ⟨q, hq⟩ := hcons
      have key : ∀ rest, Ends rest → ((c :: r).takeWhile aln ++ rest).takeWhile aln = (c :: r).takeWhile aln ∧ ((c :: r).takeWhile aln ++ rest).dropWhile aln = rest := fun rest hr => takeWhile_app (all_takeWhile aln _) hr
      rw [word_cons] at h
      rw [if_pos ha] at h
      by_cases hd : dgt c = true
      · rw [if_pos hd] at h
        cases hn : number ((c :: r).takeWhile aln) with
        | none => rw [hn] at h; cases h
        | some y =>
          rw [hn] at h
          cases h
          obtain ⟨h1, h2⟩ := number_good hn
          have again : ∀ rest, Ends rest → word (told x ++ rest) = some (x, rest) := fun rest hr => by
            obtain ⟨k1, k2⟩ := key rest hr
            rw [h1]
            rw [hq] at k1 k2 ⊢
            rw [List.cons_append] at k1 k2 ⊢
            rw [word_cons]
            rw [if_pos ha, if_pos hd, k1, k2, ← hq, hn]
          refine ⟨by rw [h1]; exact List.takeWhile_append_dropWhile, h2, ⟨c, q, by rw [h1, hq], aln_blank ha⟩, fun rest hr => again rest hr.ends, fun _ => ⟨by rw [h1]; exact all_takeWhile aln _, again⟩⟩
      · rw [if_neg hd] at h
        split at h
        · rename_i hlen
          cases h
          have h1 : told ⟨1, (c :: r).takeWhile aln, 0, 0, 0, 0⟩ = (c :: r).takeWhile aln := rfl
          have again : ∀ rest, Ends rest → word (told ⟨1, (c :: r).takeWhile aln, 0, 0, 0, 0⟩ ++ rest) = some (⟨1, (c :: r).takeWhile aln, 0, 0, 0, 0⟩, rest) := fun rest hr => by
            obtain ⟨k1, k2⟩ := key rest hr
            rw [h1]
            rw [hq] at k1 k2 hlen ⊢
            rw [List.cons_append] at k1 k2 ⊢
            rw [word_cons]
            rw [if_pos ha, if_neg hd, k1, k2, if_pos hlen]
          refine ⟨by rw [h1]; exact List.takeWhile_append_dropWhile, ⟨rfl, .inl ⟨rfl, rfl, rfl, rfl, hlen⟩⟩, ⟨c, q, by rw [h1, hq], aln_blank ha⟩, fun rest hr => again rest hr.ends, fun _ => ⟨by rw [h1]; exact all_takeWhile aln _, again⟩⟩
        · cases h
    · rw [word_cons] at h
      rw [if_neg ha] at h
      split at h
      · rename_i s hs
        cases h
        have hm := List.mem_of_find?_eq_some hs
        have hp := List.find?_some hs
        have h1 : told ⟨4, s, 0, 0, 0, 0⟩ = s := rfl
        obtain ⟨c', r', e, h2, h3, h4⟩ := sgn_heads s hm
        refine ⟨?_, ⟨rfl, .inr (.inr (.inr ⟨rfl, rfl, rfl, rfl, sgns_small s hm⟩))⟩, ⟨c', r', by rw [h1, e], h3, h4⟩, fun rest hr => ?_, fun h => absurd rfl h⟩
        · rw [h1]
          obtain ⟨z, hz⟩ := List.isPrefixOf_iff_prefix.mp hp
          rw [← hz, List.drop_left]
        · rw [h1]
          have hf := sgn_again s hm rest hr
          subst e
          rw [List.cons_append] at hf ⊢
          rw [word_cons]
          rw [if_neg (by rw [h2]; decide), hf]
          simp only
          rw [← List.cons_append, List.drop_left]
      · cases h
theorem W_eq (s : List UInt8) (n : Nat) : W s n = match (skip false s n).1 with
    | [] => .inr []
    | c :: r => match word (c :: r) with
      | none => .inl (skip false s n).2
      | some (x, t) => match W t (skip false s n).2 with
        | .inl e => .inl e
        | .inr l => .inr ({ x with ln := (skip false s n).2 } :: l) := by
  split
  · rename_i h; exact W_nil h
  · rename_i c r h
    have h' : skip false s n = (c :: r, (skip false s n).2) := by rw [← h]
    split
    · rename_i hw; exact W_none h' (by simp) hw
    · rename_i x t hw; exact W_some h' hw
theorem W_skip {s s' : List UInt8} {n n' : Nat} (h : skip false s n = skip false s' n') : W s n = W s' n' := by rw [W_eq s, W_eq s', h]
theorem W_blank (r : List UInt8) (n : Nat) : W (32 :: r) n = W r n := W_skip (by rw [skip, if_neg (by decide), if_pos (by decide)])
theorem W_word {a rest : List UInt8} {x : Wd} (n : Nat) (hs : ∃ c r, a = c :: r ∧ blank c = false ∧ c ≠ 47) (hw : word (a ++ rest) = some (x, rest)) :
    W (a ++ rest) n = match W rest n with | .inl e => .inl e | .inr l => .inr ({ x with ln := n } :: l) := by
  obtain ⟨c, r, rfl, h1, h2⟩ := hs
  exact W_some (skip_stop n ⟨h1, fun h => h2 h.1⟩) hw
inductive Row : List Wd → Prop
  | nil : Row []
  | cons {x : Wd} {t t' : List UInt8} {k : Nat} {l : List Wd} : word t = some (x, t') → Row l → Row ({ x with ln := k } :: l)
theorem W_row : ∀ (f : Nat) (s : List UInt8) (n : Nat) (l : List Wd), s.length < f → W s n = .inr l → Row l
  | f + 1, s, n, l, hf, h => by
    have hl := skip_le false s n
    rw [W_eq] at h
    split at h
    · cases h; exact .nil
    · rename_i c r hs
      rw [hs] at hl
      split at h
      · cases h
      · rename_i x t hw
        have hlt := word_lt hw
        split at h
        · cases h
        · rename_i l' hl'
          cases h
          exact .cons hw (W_row f t _ l' (by omega) hl')
theorem told_ln (x : Wd) (k : Nat) : told { x with ln := k } = told x := rfl
theorem row_good {l : List Wd} (h : Row l) : ∀ x ∈ l, Good { x with ln := 0 } ∧ told x ≠ [] := by
  induction h with
  | nil => simp
  | cons hw hr ih =>
    intro y hy
    rcases List.mem_cons.mp hy with rfl | hy
    · obtain ⟨_, h2, ⟨c, r, h3, _⟩, _⟩ := word_told hw
      refine ⟨?_, by rw [told_ln, h3]; simp⟩
      have e := h2.1
      exact ⟨rfl, h2.2⟩
    · exact ih y hy
theorem W_lines : ∀ (f : Nat) (s : List UInt8) (n : Nat) (l : List Wd), s.length < f → W s n = .inr l → l.length ≤ s.length ∧ (∀ x ∈ l, n ≤ x.ln ∧ x.ln ≤ n + s.count 10) ∧ ∀ (i : Nat) x y, l[i]? = some x → l[i + 1]? = some y → x.ln ≤ y.ln
  | f + 1, s, n, l, hf, h => by
    have hl := skip_le false s n
    have hcnt := skip_count false s n
    have hmono := skip_mono false s n
    rw [W_eq] at h
    split at h
    · cases h; simp
    · rename_i c r hs
      rw [hs] at hl hcnt
      split at h
      · cases h
      · rename_i x t hw
        have hlt := word_lt hw
        obtain ⟨ht, _, _⟩ := word_told hw
        have hct : t.count 10 ≤ (c :: r).count 10 := by rw [← ht, List.count_append]; omega
        split at h
        · cases h
        · rename_i l' hl'
          cases h
          obtain ⟨h1, h2, h3⟩ := W_lines f t _ l' (by omega) hl'
          refine ⟨by simp only [List.length_cons] at *; omega, ?_, ?_⟩
          · intro y hy
            rcases List.mem_cons.mp hy with rfl | hy
            · simp only; omega
            · have := h2 y hy; omega
          · intro i y z hy hz
            cases i with
            | zero =>
              simp at hy hz
              subst hy
              have := (h2 z (List.mem_of_getElem? hz)).1
              exact this
            | succ i => exact h3 i y z (by simpa using hy) (by simpa using hz)
theorem W_add : ∀ (f : Nat) (s : List UInt8) (n k : Nat), s.length < f → W s (n + k) = match W s n with | .inl e => .inl (e + k) | .inr l => .inr (l.map fun x => { x with ln := x.ln + k })
  | f + 1, s, n, k, hf => by
    have hl := skip_le false s n
    rw [W_eq s n, W_eq s (n + k), skip_add]
    simp only
    cases hs : (skip false s n).1 with
    | nil => rfl
    | cons c r =>
      rw [hs] at hl
      simp only
      cases hw : word (c :: r) with
      | none => rfl
      | some p =>
        obtain ⟨x, t⟩ := p
        have hlt := word_lt hw
        simp only
        rw [W_add f t _ k (by omega)]
        cases W t (skip false s n).2 <;> rfl
theorem takeWhile_join {p : UInt8 → Bool} (hp : p 10 = false) (b : List UInt8) : ∀ t : List UInt8, (t ++ 10 :: b).takeWhile p = t.takeWhile p ∧ (t ++ 10 :: b).dropWhile p = t.dropWhile p ++ 10 :: b
  | [] => by simp [List.takeWhile, List.dropWhile, hp]
  | c :: t => by
    obtain ⟨h1, h2⟩ := takeWhile_join hp b t
    rw [List.cons_append, List.takeWhile_cons, List.dropWhile_cons, List.takeWhile_cons, List.dropWhile_cons, h1, h2]
    split
    · exact ⟨rfl, rfl⟩
    · exact ⟨rfl, rfl⟩
theorem prefix_join (b : List UInt8) : ∀ (s t : List UInt8), (∀ c ∈ s, c ≠ 10) → s.isPrefixOf (t ++ 10 :: b) = s.isPrefixOf t
  | [], t, _ => by simp
  | c :: s, [], h => by
    have : (c == 10) = false := by simpa using h c (by simp)
    simp [List.isPrefixOf, this]
  | c :: s, d :: t, h => by
    rw [List.cons_append, List.isPrefixOf, List.isPrefixOf, prefix_join b s t fun x hx => h x (by simp [hx])]
theorem sgns_no : ∀ t ∈ sgns, ∀ c ∈ t, c ≠ 10 := by decide
theorem told_no10 {t t' : List UInt8} {x : Wd} (h : word t = some (x, t')) : (told x).count 10 = 0 := by
  obtain ⟨h1, h2, _, _, h5⟩ := word_told h
  rw [List.count_eq_zero]
  intro hm
  by_cases hk : x.k = 4
  · cases t with
    | nil => cases h
    | cons c r =>
      rw [word_cons] at h
      split at h
      · split at h
        · split at h
          · rename_i y hn
            cases h
            have := number_kind hn
            omega
          · cases h
        · split at h
          · cases h; simp at hk
          · cases h
      · split at h
        · rename_i s hs
          cases h
          exact sgns_no s (List.mem_of_find?_eq_some hs) 10 hm rfl
        · cases h
  · have := List.all_eq_true.mp (h5 hk).1 10 hm
    revert this; decide
theorem find_join (b t : List UInt8) : sgns.find? (fun s => s.isPrefixOf (t ++ 10 :: b)) = sgns.find? (fun s => s.isPrefixOf t) := by
  have : ∀ l : List (List UInt8), (∀ s ∈ l, ∀ c ∈ s, c ≠ 10) → l.find? (fun s => s.isPrefixOf (t ++ 10 :: b)) = l.find? (fun s => s.isPrefixOf t) := by
    intro l
    induction l with
    | nil => intro _; rfl
    | cons s l ih =>
      intro h
      rw [List.find?_cons, List.find?_cons, prefix_join b s t (h s (by simp)), ih fun x hx => h x (by simp [hx])]
  exact this sgns sgns_no
theorem word_join (b : List UInt8) {t : List UInt8} (ht : t ≠ []) : word (t ++ 10 :: b) = match word t with | none => none | some (x, r) => some (x, r ++ 10 :: b) := by
  cases t with
  | nil => exact absurd rfl ht
  | cons c r =>
    obtain ⟨h1, h2⟩ := takeWhile_join (p := aln) (by decide) b (c :: r)
    have h3 := find_join b (c :: r)
    rw [List.cons_append] at h1 h2 h3 ⊢
    rw [word_cons, word_cons]
    split
    · split
      · rw [h1, h2]; cases number ((c :: r).takeWhile aln) <;> rfl
      · rw [h1, h2]
        split <;> rfl
    · rw [h3]
      split
      · rename_i s hs
        have hp0 := List.find?_some hs
        have hp := List.isPrefixOf_iff_prefix.mp (show s.isPrefixOf (c :: r) = true from hp0)
        simp only
        rw [← List.cons_append, List.drop_append_of_le_length hp.length_le]
      · rfl
theorem W_join (b : List UInt8) : ∀ (f : Nat) (a : List UInt8) (n : Nat), a.length < f → W (a ++ 10 :: b) n = match W a n with
    | .inl e => .inl e
    | .inr l => match W b (n + a.count 10 + 1) with
      | .inl e => .inl e
      | .inr m => .inr (l ++ m)
  | f + 1, a, n, hf => by
    have hl := skip_le false a n
    have hcnt := skip_count false a n
    rw [W_eq a n]
    cases hs : skip false a n with
    | mk t k =>
      rw [hs] at hl hcnt
      have hj := skip_join b false a n
      rw [hs] at hj
      cases t with
      | nil =>
        simp only at hj ⊢
        rw [W_skip hj]
        simp only [List.count_nil, Nat.add_zero] at hcnt
        rw [hcnt]
        cases W b (n + a.count 10 + 1) <;> rfl
      | cons c r =>
        simp only at hj ⊢
        have hw := word_join b (t := c :: r) (by simp)
        rw [List.cons_append] at hj hw
        cases hw2 : word (c :: r) with
        | none =>
          rw [hw2] at hw
          exact W_none hj (by simp) hw
        | some p =>
          obtain ⟨x, t'⟩ := p
          rw [hw2] at hw
          simp only at hw ⊢
          have hlt := word_lt hw2
          obtain ⟨ht, h2, ⟨d, q, hq, _⟩, _⟩ := word_told hw2
          have h10 : (told x).count 10 = 0 := told_no10 hw2
          have hct : (c :: r).count 10 = t'.count 10 := by rw [← ht, List.count_append, h10]; omega
          rw [W_some hj hw, W_join b f t' k (by simp only [List.length_cons] at *; omega)]
          rw [show k + t'.count 10 = n + a.count 10 from by rw [← hct]; exact hcnt]
          cases W t' k with
          | inl e => rfl
          | inr l =>
            simp only
            cases W b (n + a.count 10 + 1) <;> rfl
end Go.Proofs.YtogodijfdkffaaaGreatDoor.Ln

/- lex.number, lex.signs over data. -/
namespace Go.Proofs.YtogodijfdkffaaaGreatDoor.Ln
open Go Go.RowKit Go.Ab Go.Proofs 
theorem en93 : enters Tryz.prog 93 = true := by kernel_rfl
theorem en92 : enters Tryz.prog 92 = true := by kernel_rfl
theorem en88 : enters Tryz.prog 88 = true := by kernel_rfl
theorem en89 : enters Tryz.prog 89 = true := by kernel_rfl
theorem zc37 : zc Tryz.prog 37 = some [.int .u8 0, .string ByteArray.empty, .int .i64 0, .int .u64 0, .int .u64 0, .int .i64 0] := by kernel_rfl
theorem bu37 : bk Tryz.prog 37 = some ([(0, 1), (1, 1), (2, 3), (5, 1)], [.int .u8 0, .string ByteArray.empty, .int .i64 0, .int .u64 0, .int .u64 0, .int .i64 0]) := by kernel_rfl
theorem kd37 : kd Tryz.prog 37 = some (true, 6) := by kernel_rfl
theorem en91 : enters Tryz.prog 91 = true := by kernel_rfl
def wordD (x : Wd) : D := .agg [.sc (.int .u8 (x.k : Int)), .sc (.string (B x.s)), .sc (.int .i64 (x.w : Int)), .sc (.int .u64 (x.hi : Int)), .sc (.int .u64 (x.lo : Int)), .sc (.int .i64 (x.ln : Int))]
theorem newlist {S : Stab} {w : World} (hS : ∀ b o v, S b o = some v → w.cell? ⟨b, o, none⟩ = some v) (cs : List Value) (t : TypeId) :
    ∃ S', Rel S' (.list 1 (cs.map .sc)) (.slice (some ⟨w.heap.size, 0, none⟩) cs.length cs.length) ∧ S.le S' ∧ Below w.heap.size w (w.alloc (.cells cs.toArray t)) ∧
      ∀ b o v, S' b o = some v → S b o = some v ∨ (w.heap.size ≤ b ∧ (w.alloc (.cells cs.toArray t)).cell? ⟨b, o, none⟩ = some v) := by
  have hno : ∀ o, S w.heap.size o = none := fun o => by
    cases hv : S w.heap.size o with
    | none => rfl
    | some v => exact absurd (lt_of_cell (hS _ _ _ hv)) (by omega)
  refine ⟨S.row w.heap.size cs.length cs.toArray, ?_, fun b o v hv => ?_, (Below.refl _ _).alloc (Nat.le_refl _) _, fun b o v hv => ?_⟩
  · have hl : (cs.map D.sc).length = cs.length := List.length_map _
    rw [← hl]
    refine .list (by rw [hl]; exact Nat.le_refl _) (relE_of (fun q hq => ?_) ?_)
    · obtain ⟨c, _, rfl⟩ := List.mem_map.mp hq; rfl
    · have hf : flat (cs.map D.sc) = cs.map D.sc := by
        unfold flat
        induction cs with
        | nil => rfl
        | cons c l ih => simp only [List.map_cons, List.flatMap_cons] at ih ⊢; rw [ih (by simp)]; rfl
      rw [hf]
      refine relP_of (relL_scs _ cs) fun k u hk => ?_
      rw [Nat.zero_add, hl, row_get (List.getElem?_eq_some_iff.mp hk).1, List.getElem?_toArray]
      exact hk
  · unfold Stab.row
    rw [if_neg]
    · exact hv
    · rintro rfl; rw [hno] at hv; cases hv
  · unfold Stab.row at hv
    split at hv
    · rename_i hb
      subst hb
      split at hv
      · refine .inr ⟨Nat.le_refl _, ?_⟩
        rw [cell_of_block (cs := cs.toArray) (ty := t) (fr := (0, 0)) (by show (w.heap.push _)[w.heap.size]? = _; rw [Array.getElem?_push, if_pos rfl])]
        exact hv
      · cases hv
    · exact .inl hv
def sgD : List D := sgns.map fun t => .sc (.string (B t))
theorem sgD_at {i : Nat} {s : List UInt8} (h : sgns[i]? = some s) : sgD[((i : Int)).toNat]? = some (.sc (.string (B s))) := by
  unfold sgD; rw [Int.toNat_natCast, List.getElem?_map, h]; rfl
theorem fields_c : CallsP Tryz.prog Lw 93 [.sc (.string ⟨#[61, 61, 32, 33, 61, 32, 60, 61, 32, 60, 60, 32, 62, 62, 32, 43, 43, 32, 38, 38, 32, 124, 124, 32, 123, 32, 125, 32, 40, 32, 41, 32, 91, 32, 93, 32, 59, 32, 58, 32, 44, 32, 46, 32, 61, 32, 60, 32, 43, 32, 45, 32, 42, 32, 38, 32, 124, 32, 94, 32, 126]⟩)] (.list 1 sgD) := by
  intro S w us hg hS hus
  obtain rfl := rels_plain (vs := [.string ⟨#[61, 61, 32, 33, 61, 32, 60, 61, 32, 60, 60, 32, 62, 62, 32, 43, 43, 32, 38, 38, 32, 124, 124, 32, 123, 32, 125, 32, 40, 32, 41, 32, 91, 32, 93, 32, 59, 32, 58, 32, 44, 32, 46, 32, 61, 32, 60, 32, 43, 32, 45, 32, 42, 32, 38, 32, 124, 32, 94, 32, 126]⟩]) rfl hus
  have hf : Lib.fields (⟨#[61, 61, 32, 33, 61, 32, 60, 61, 32, 60, 60, 32, 62, 62, 32, 43, 43, 32, 38, 38, 32, 124, 124, 32, 123, 32, 125, 32, 40, 32, 41, 32, 91, 32, 93, 32, 59, 32, 58, 32, 44, 32, 46, 32, 61, 32, 60, 32, 43, 32, 45, 32, 42, 32, 38, 32, 124, 32, 94, 32, 126]⟩ : ByteArray).data.toList = sgns := by decide +kernel
  refine (Tryz.strings_Fields _ w (by decide) (fun j b hb => ?_) hg.space).mono ?_
  · have h2 := List.mem_of_getElem? hb
    have h3 : ((⟨#[61, 61, 32, 33, 61, 32, 60, 61, 32, 60, 60, 32, 62, 62, 32, 43, 43, 32, 38, 38, 32, 124, 124, 32, 123, 32, 125, 32, 40, 32, 41, 32, 91, 32, 93, 32, 59, 32, 58, 32, 44, 32, 46, 32, 61, 32, 60, 32, 43, 32, 45, 32, 42, 32, 38, 32, 124, 32, 94, 32, 126]⟩ : ByteArray).data.toList.all fun b => decide (b.toNat < 128)) = true := by decide +kernel
    have := List.all_eq_true.mp h3 b h2
    exact of_decide_eq_true this
  · rintro e w' ⟨rfl, rfl⟩
    rw [hf]
    obtain ⟨S', h1, h2, h3, h4⟩ := newlist hS (sgns.map fun l => Value.string ⟨l.toArray⟩) 9
    refine ⟨_, S', rfl, ?_, h2, h3, h4⟩
    rw [List.map_map, List.length_map] at h1
    exact h1
theorem cutp_c {Γ : World → Prop} (t p : List UInt8) : CallsP Tryz.prog Γ 49 [.sc (.string (B t)), .sc (.string (B p))] (.tup [.sc (.string (B (if p.isPrefixOf t = true then t.drop p.length else t))), .sc (.bool (p.isPrefixOf t))]) :=
  lift rfl rfl fun w _ => (Tryz.strings_CutPrefix (B t) (B p) w).mono fun e w' q => ⟨by rw [q.1, B_toList, B_toList]; rfl, by rw [q.2]; exact Below.refl _ _⟩
theorem clone_c {Γ : World → Prop} (s : ByteArray) (hs : s.size ≤ 281474976710656) : CallsP Tryz.prog Γ 92 [.sc (.string s)] (.sc (.string s)) :=
  lift rfl rfl fun w _ => Tryz.stringslite_Clone s w hs
def digs10 : List UInt8 := [48, 49, 50, 51, 52, 53, 54, 55, 56, 57]
theorem dig_in : ∀ c : UInt8, digs10.contains c = dgt c := by
  intro c
  have h : ∀ n : Nat, n < 256 → digs10.contains (UInt8.ofNat n) = dgt (UInt8.ofNat n) := by decide +kernel
  have := h c.toNat c.toNat_lt
  simpa using this
theorem trim_is (l : List UInt8) : (Lib.trimS l digs10 = []) ↔ l.all dgt = true := by
  have hf : (fun x => digs10.contains x) = dgt := funext dig_in
  unfold Lib.trimS Lib.trimLeftS Lib.trimRightS
  rw [hf]
  have all_drop : ∀ m : List UInt8, m.dropWhile dgt = [] ↔ m.all dgt = true := by
    intro m
    induction m with
    | nil => simp
    | cons c m ih =>
      rw [List.dropWhile_cons]
      split
      · rename_i h; rw [ih]; simp [h]
      · rename_i h; simp [h]
  rw [all_drop]
  constructor
  · intro h
    -- what is behind the last one that is none is empty
    cases hd : l.reverse.dropWhile dgt with
    | nil =>
      have := (all_drop _).mp hd
      simpa using this
    | cons c r =>
      rw [hd] at h
      have hc : dgt c = false := by
        have : ∀ (m : List UInt8) (c : UInt8) (r : List UInt8), m.dropWhile dgt = c :: r → dgt c = false := fun m c r hm => drop_head hm
        exact this _ _ _ hd
      simp only [List.all_reverse, List.all_cons, Bool.and_eq_true] at h
      rw [hc] at h; cases h.1
  · intro h
    have : l.reverse.dropWhile dgt = [] := (all_drop _).mpr (by simpa using h)
    rw [this]; rfl
theorem trim_c {Γ : World → Prop} (l : List UInt8) (hl : l.length ≤ 281474976710656) : CallsP Tryz.prog Γ 88 [.sc (.string (B l)), .sc (.string (B digs10))] (.sc (.string (B (Lib.trimS l digs10)))) :=
  lift rfl rfl fun w _ => (Any.strings_Trim_laid Tryz.lays160 (by kernel_rfl) (B l) (B digs10) w (by rw [B_size]; omega) (by decide) (fun j b hb => by
    have h2 := List.mem_of_getElem? hb
    have h3 : ((B digs10).data.toList.all fun b => decide (b.toNat < 128)) = true := by decide +kernel
    exact of_decide_eq_true (List.all_eq_true.mp h3 b h2))).mono fun e w' q => ⟨by rw [q.1, B_toList, B_toList]; rfl, q.2⟩
theorem pu10_ok (l : List UInt8) (hl : l.length ≤ 281474976710656) {u : Nat} (h : Lib.parseUintB 64 l = .ok u) : CallsP Tryz.prog Lw 90 [.sc (.string (B l)), .sc (.int .i64 10), .sc (.int .i64 64)] (.tup [.sc (.int .u64 (u : Int)), .sc .nilIface]) :=
  lift rfl rfl fun w hg => (Tryz.strconv_ParseUint_10_at64_ok (B l) (by rw [B_size]; omega) u (by rw [B_toList]; exact h) w).mono fun e w' q => ⟨q.1, by
    rcases q.2 with rfl | rfl
    · exact Below.refl _ _
    · exact Lib.bytesWorld_below _ _ _⟩
theorem pu10_rng (l : List UInt8) (hl : l.length ≤ 281474976710656) (h : Lib.parseUintB 64 l = .range) : CallsP Tryz.prog Lw 90 [.sc (.string (B l)), .sc (.int .i64 10), .sc (.int .i64 64)] (.tup [.sc (.int .u64 18446744073709551615), .ifc 242 .any]) :=
  lift_ifc rfl fun w hg => by
    obtain ⟨ev, h1, h2⟩ := hg.rng
    exact (Tryz.strconv_ParseUint_10_at64_range (B l) (by rw [B_size]; omega) (by rw [B_toList]; exact h) ev w h1 h2).mono fun e w' ⟨M, q1, _, _, q2⟩ => ⟨_, q1, rfl, q2⟩
theorem hi_small {u : Nat} (h : u < 18446744073709551616) : hiOf u = 0 := by unfold hiOf; rw [Nat.div_eq_of_lt (by simpa using h)]; rfl
theorem lo_small {u : Nat} (h : u < 18446744073709551616) : loOf u = (u : Int) := by unfold loOf; rw [Nat.mod_eq_of_lt (by simpa using h)]
theorem of64 {Γ : World → Prop} (hΓ : GS Γ) {u : Nat} (h : u < 18446744073709551616) : CallsP Tryz.prog Γ 91 [.sc (.int .i64 64), .sc (.int .u64 0), .sc (.int .u64 (u : Int))] (.tup [.agg [.sc (.int .i64 64), .sc (.int .u64 0), .sc (.int .u64 (u : Int))], .sc (.int .i64 0)]) := by
  have := of_c (Γ := Γ) (w := 64) (v := u) hΓ (by decide) (by decide) (by omega)
  rw [Nat.mod_eq_of_lt (by omega : u < 2 ^ 64)] at this
  unfold bitD at this
  rw [hi_small h, lo_small h] at this
  exact this
theorem val_lt {l : List UInt8} {u : Nat} (h : Lib.parseUintB 64 l = .ok u) : u < 18446744073709551616 := by have := Lib.parseUintB_le h; omega
theorem signs_c : CallsP Tryz.prog Lw 48 [] (.list 1 sgD) := by
  refine callsP_of gs_lw Tryz.func48 rfl Tryz.ntmps48 rfl fun w0 S0 stab => ?_
  refine sqq <| rgq <| asq rfl rfl <| nxq <| sqq <| rgq <| sq (f_call en93 rfl fields_c (lt rfl)) rfl rfl <| asq rfl rfl ?_
  refine nxq <| rtq ?_
  exact hits_done (.inl rfl) rfl rfl rfl
theorem sclone_c (s : ByteArray) (hs : s.size ≤ 281474976710656) : CallsP Tryz.prog Lw 47 [.sc (.string s)] (.sc (.string s)) := by
  refine callsP_of gs_lw Tryz.func47 rfl Tryz.ntmps47 rfl fun w0 S0 stab => ?_
  refine sqq <| rgq <| asq rfl rfl <| nxq <| sqq <| rgq <| mvq rfl rfl <| sq (f_call en92 rfl (clone_c s hs) (lt rfl)) rfl rfl ?_
  refine asq rfl rfl <| nxq <| rtq ?_
  exact hits_done (.inl rfl) rfl rfl rfl
theorem number_lit (l : List UInt8) (hl : l.length ≤ 281474976710656) (h : ¬ l.all dgt = true) : CallsP Tryz.prog Lw 46 [.sc (.string (B l))] (.tup [wordD (numW l), .sc (.bool (numOk l))]) := by
  have htr := trim_c (Γ := Lw) l hl
  have hne : Lib.trimS l digs10 ≠ [] := fun e => h ((trim_is l).mp e)
  have hB : (B l).size ≤ 281474976710656 := by rw [B_size]; exact hl
  refine callsP_of gs_lw Tryz.func46 rfl Tryz.ntmps46 rfl fun w0 S0 stab => ?_
  refine sqq <| rgq <| sq (f_alloc zc37 (lt rfl)) rfl rfl <| asq rfl rfl <| nxq <| sqq <| sqq <| rgq ?_
  refine mvq rfl rfl <| sq (f_call en88 rfl htr (lt rfl)) rfl rfl <| sq (f_bin rfl rfl (bT ((by rw [show ((⟨#[]⟩ : ByteArray).toList) = (B []).toList from rfl, B_beq, decide_eq_false hne]; rfl : _ = true))) (lt rfl)) rfl rfl ?_
  refine nxq <| cnT rfl <| sqq ?_
  cases hm : litOf (B l)
  · have hp := parse_no (B l) hB (lit_no hm)
    refine rgq <| mvq rfl rfl <| sq (f_call en89 rfl hp (lt rfl)) rfl rfl <| mvq rfl rfl <| exq rfl rfl rfl <| exq rfl rfl rfl <| sq (f_alloc zc35 (lt rfl)) rfl rfl <| soq kd35 rfl rfl rfl rfl rfl ?_
    refine asq rfl rfl <| nxq <| sqq <| rgq <| ldq kd35 rfl rfl rfl <| sq (f_build bu37 rfl rfl (lt rfl)) rfl rfl <| mvq rfl rfl <| sq (f_bin rfl rfl (bT (b' := false) rfl) (lt rfl)) rfl rfl ?_
    refine soq kd37 rfl rfl rfl rfl rfl <| asq rfl rfl <| nxq <| rtq <| to_ret ?_
    exact hits_done (.inl rfl) rfl rfl (by rw [numW, if_neg h, hm, numOk, if_neg h, hm]; rfl)
  · obtain ⟨hy, e1, e2, e3⟩ := lit_yes (w := (‹Nat × Nat›).1) (v := (‹Nat × Nat›).2) hm
    have hp := parse_yes (B l) hB hy
    rw [e1, e2, e3] at hp
    refine rgq <| mvq rfl rfl <| sq (f_call en89 rfl hp (lt rfl)) rfl rfl <| mvq rfl rfl <| exq rfl rfl rfl <| exq rfl rfl rfl <| sq (f_alloc zc35 (lt rfl)) rfl rfl <| soq kd35 rfl rfl rfl rfl rfl ?_
    refine asq rfl rfl <| nxq <| sqq <| rgq <| ldq kd35 rfl rfl rfl <| sq (f_build bu37 rfl rfl (lt rfl)) rfl rfl <| mvq rfl rfl <| sq (f_bin rfl rfl (bT (b' := true) rfl) (lt rfl)) rfl rfl ?_
    refine soq kd37 rfl rfl rfl rfl rfl <| asq rfl rfl <| nxq <| rtq <| to_ret ?_
    exact hits_done (.inl rfl) rfl rfl (by rw [numW, if_neg h, hm, numOk, if_neg h, hm]; rfl)
theorem number_dig (l : List UInt8) (hl : l.length ≤ 281474976710656) (h0 : l ≠ []) (h : l.all dgt = true) : CallsP Tryz.prog Lw 46 [.sc (.string (B l))] (.tup [wordD (numW l), .sc (.bool (numOk l))]) := by
  have htr := trim_c (Γ := Lw) l hl
  have hne : Lib.trimS l digs10 = [] := (trim_is l).mpr h
  obtain ⟨hv1, hv2⟩ := puB h0 h
  refine callsP_of gs_lw Tryz.func46 rfl Tryz.ntmps46 rfl fun w0 S0 stab => ?_
  refine sqq <| rgq <| sq (f_alloc zc37 (lt rfl)) rfl rfl <| asq rfl rfl <| nxq <| sqq <| sqq <| rgq ?_
  refine mvq rfl rfl <| sq (f_call en88 rfl htr (lt rfl)) rfl rfl <| sq (f_bin rfl rfl (bT ((by rw [show ((⟨#[]⟩ : ByteArray).toList) = (B []).toList from rfl, B_beq, decide_eq_true hne]; rfl : _ = false))) (lt rfl)) rfl rfl ?_
  refine nxq <| cnF rfl <| skq <| toq <| sqq ?_
  rcases hv1 with hv | hv
  · have hp := pu10_ok l hl hv
    have hlt := val_lt hv
    have ho := of64 gs_lw hlt
    by_cases hle : valL l ≤ 2147483647
    · have hf := fmt10_c hlt
      by_cases heq : Lib.decDigits (valL l) = l
      · refine rgq <| mvq rfl rfl <| sq (f_call en90 rfl hp (lt rfl)) rfl rfl <| mvq rfl rfl <| exq rfl rfl rfl <| exq rfl rfl rfl <| asq rfl rfl <| asq rfl rfl ?_
        refine nxq <| sqq <| rgq <| mvq rfl rfl <| sq (f_call en91 rfl ho (lt rfl)) rfl rfl <| mvq rfl rfl <| exq rfl rfl rfl <| exq rfl rfl rfl ?_
        refine sq (f_alloc zc35 (lt rfl)) rfl rfl <| soq kd35 rfl rfl rfl rfl rfl <| asq rfl rfl <| nxq <| sqq <| hits_drawn mixed <| dq (f_load kd35 rfl rfl (lt rfl)) rfl rfl <| dq (f_build bu37 rfl rfl (lt rfl)) rfl rfl ?_
        refine dq (f_move rfl (lt rfl)) rfl rfl <| dq (f_ifEq0 rfl isf151 (lt rfl)) rfl rfl <| dq (f_move rfl (lt rfl)) rfl rfl <| dq_yes (f_move rfl (lt rfl)) rfl rfl rfl rfl (lt rfl) <| dq_yes (f_bin rfl rfl (bT (decide_eq_true (by omega))) (lt rfl)) rfl rfl rfl rfl (lt rfl) <| dq (f_pick rfl rfl (lt rfl)) rfl rfl <| dq (f_move rfl (lt rfl)) rfl rfl <| dq_yes (f_move rfl (lt rfl)) rfl rfl rfl rfl (lt rfl) ?_
        refine dq_yes (f_call en51 rfl hf (lt rfl)) rfl rfl rfl rfl (lt rfl) <| dq_yes (f_move rfl (lt rfl)) rfl rfl rfl rfl (lt rfl) <| dq_yes (f_bin rfl rfl (bT ((by rw [B_beq]; exact decide_eq_true heq : _ = true))) (lt rfl)) rfl rfl rfl rfl (lt rfl) ?_
        refine dq (f_pick rfl rfl (lt rfl)) rfl rfl <| dq (f_store kd37 rfl rfl rfl rfl rfl) rfl rfl <| dq (f_assign rfl (lt rfl)) rfl rfl <| dq_nil rfl <| toq <| rtq ?_
        exact hits_done (.inl rfl) rfl rfl (by rw [numW, if_pos h, puN, hv, numOk, if_pos h, decide_eq_true ⟨hle, heq⟩]; rfl)
      · refine rgq <| mvq rfl rfl <| sq (f_call en90 rfl hp (lt rfl)) rfl rfl <| mvq rfl rfl <| exq rfl rfl rfl <| exq rfl rfl rfl <| asq rfl rfl <| asq rfl rfl ?_
        refine nxq <| sqq <| rgq <| mvq rfl rfl <| sq (f_call en91 rfl ho (lt rfl)) rfl rfl <| mvq rfl rfl <| exq rfl rfl rfl <| exq rfl rfl rfl ?_
        refine sq (f_alloc zc35 (lt rfl)) rfl rfl <| soq kd35 rfl rfl rfl rfl rfl <| asq rfl rfl <| nxq <| sqq <| hits_drawn mixed <| dq (f_load kd35 rfl rfl (lt rfl)) rfl rfl <| dq (f_build bu37 rfl rfl (lt rfl)) rfl rfl ?_
        refine dq (f_move rfl (lt rfl)) rfl rfl <| dq (f_ifEq0 rfl isf151 (lt rfl)) rfl rfl <| dq (f_move rfl (lt rfl)) rfl rfl <| dq_yes (f_move rfl (lt rfl)) rfl rfl rfl rfl (lt rfl) <| dq_yes (f_bin rfl rfl (bT (decide_eq_true (by omega))) (lt rfl)) rfl rfl rfl rfl (lt rfl) <| dq (f_pick rfl rfl (lt rfl)) rfl rfl <| dq (f_move rfl (lt rfl)) rfl rfl <| dq_yes (f_move rfl (lt rfl)) rfl rfl rfl rfl (lt rfl) ?_
        refine dq_yes (f_call en51 rfl hf (lt rfl)) rfl rfl rfl rfl (lt rfl) <| dq_yes (f_move rfl (lt rfl)) rfl rfl rfl rfl (lt rfl) <| dq_yes (f_bin rfl rfl (bT ((by rw [B_beq]; exact decide_eq_false heq : _ = false))) (lt rfl)) rfl rfl rfl rfl (lt rfl) ?_
        refine dq (f_pick rfl rfl (lt rfl)) rfl rfl <| dq (f_store kd37 rfl rfl rfl rfl rfl) rfl rfl <| dq (f_assign rfl (lt rfl)) rfl rfl <| dq_nil rfl <| toq <| rtq ?_
        exact hits_done (.inl rfl) rfl rfl (by rw [numW, if_pos h, puN, hv, numOk, if_pos h, decide_eq_false fun c => heq c.2]; rfl)
    · refine rgq <| mvq rfl rfl <| sq (f_call en90 rfl hp (lt rfl)) rfl rfl <| mvq rfl rfl <| exq rfl rfl rfl <| exq rfl rfl rfl <| asq rfl rfl <| asq rfl rfl ?_
      refine nxq <| sqq <| rgq <| mvq rfl rfl <| sq (f_call en91 rfl ho (lt rfl)) rfl rfl <| mvq rfl rfl <| exq rfl rfl rfl <| exq rfl rfl rfl ?_
      refine sq (f_alloc zc35 (lt rfl)) rfl rfl <| soq kd35 rfl rfl rfl rfl rfl <| asq rfl rfl <| nxq <| sqq <| hits_drawn mixed <| dq (f_load kd35 rfl rfl (lt rfl)) rfl rfl <| dq (f_build bu37 rfl rfl (lt rfl)) rfl rfl ?_
      refine dq (f_move rfl (lt rfl)) rfl rfl <| dq (f_ifEq0 rfl isf151 (lt rfl)) rfl rfl <| dq (f_move rfl (lt rfl)) rfl rfl <| dq_yes (f_move rfl (lt rfl)) rfl rfl rfl rfl (lt rfl) <| dq_yes (f_bin rfl rfl (bT (decide_eq_false (by omega))) (lt rfl)) rfl rfl rfl rfl (lt rfl) <| dq (f_pick rfl rfl (lt rfl)) rfl rfl <| dq (f_move rfl (lt rfl)) rfl rfl <| dq_no rfl rfl rfl rfl rfl (lt rfl) (lt rfl) ?_
      refine dq_no rfl rfl rfl rfl rfl (lt rfl) (lt rfl) <| dq_no rfl rfl rfl rfl rfl (lt rfl) (lt rfl) <| dq_no rfl rfl rfl rfl rfl (lt rfl) (lt rfl) <| dq (f_pick rfl rfl (lt rfl)) rfl rfl <| dq (f_store kd37 rfl rfl rfl rfl rfl) rfl rfl <| dq (f_assign rfl (lt rfl)) rfl rfl <| dq_nil rfl <| toq ?_
      refine rtq ?_
      exact hits_done (.inl rfl) rfl rfl (by rw [numW, if_pos h, puN, hv, numOk, if_pos h, decide_eq_false fun c => hle c.1]; rfl)
  · have hp := pu10_rng l hl hv
    have ho := of64 gs_lw (u := 18446744073709551615) (by decide)
    have hle : ¬ valL l ≤ 2147483647 := fun c => by rw [hv2 c] at hv; cases hv
    refine rgq <| mvq rfl rfl <| sq (f_call en90 rfl hp (lt rfl)) rfl rfl <| mvq rfl rfl <| exq rfl rfl rfl <| exq rfl rfl rfl <| asq rfl rfl <| asq rfl rfl ?_
    refine nxq <| sqq <| rgq <| mvq rfl rfl <| sq (f_call en91 rfl ho (lt rfl)) rfl rfl <| mvq rfl rfl <| exq rfl rfl rfl <| exq rfl rfl rfl ?_
    refine sq (f_alloc zc35 (lt rfl)) rfl rfl <| soq kd35 rfl rfl rfl rfl rfl <| asq rfl rfl <| nxq <| sqq <| hits_drawn mixed <| dq (f_load kd35 rfl rfl (lt rfl)) rfl rfl <| dq (f_build bu37 rfl rfl (lt rfl)) rfl rfl ?_
    refine dq (f_move rfl (lt rfl)) rfl rfl <| dq (f_ifEqN rfl isf151 (lt rfl)) rfl rfl <| dq (f_move rfl (lt rfl)) rfl rfl <| dq_no rfl rfl rfl rfl rfl (lt rfl) (lt rfl) <| dq_no rfl rfl rfl rfl rfl (lt rfl) (lt rfl) <| dq (f_pick rfl rfl (lt rfl)) rfl rfl <| dq (f_move rfl (lt rfl)) rfl rfl <| dq_no rfl rfl rfl rfl rfl (lt rfl) (lt rfl) ?_
    refine dq_no rfl rfl rfl rfl rfl (lt rfl) (lt rfl) <| dq_no rfl rfl rfl rfl rfl (lt rfl) (lt rfl) <| dq_no rfl rfl rfl rfl rfl (lt rfl) (lt rfl) <| dq (f_pick rfl rfl (lt rfl)) rfl rfl <| dq (f_store kd37 rfl rfl rfl rfl rfl) rfl rfl <| dq (f_assign rfl (lt rfl)) rfl rfl <| dq_nil rfl <| toq ?_
    refine rtq ?_
    exact hits_done (.inl rfl) rfl rfl (by rw [numW, if_pos h, puN, hv, numOk, if_pos h, decide_eq_false fun c => hle c.1]; rfl)
theorem number_c (l : List UInt8) (hl : l.length ≤ 281474976710656) (h0 : l ≠ []) : CallsP Tryz.prog Lw 46 [.sc (.string (B l))] (.tup [wordD (numW l), .sc (.bool (numOk l))]) := by
  by_cases h : l.all dgt = true
  · exact number_dig l hl h0 h
  · exact number_lit l hl h
end Go.Proofs.YtogodijfdkffaaaGreatDoor.Ln

/- lex's word over data. -/
namespace Go.Proofs.YtogodijfdkffaaaGreatDoor.Ln
open Go Go.RowKit Go.Ab Go.Proofs 
theorem en45 : enters Tryz.prog 45 = true := by kernel_rfl
theorem en47 : enters Tryz.prog 47 = true := by kernel_rfl
theorem en46 : enters Tryz.prog 46 = true := by kernel_rfl
theorem en48 : enters Tryz.prog 48 = true := by kernel_rfl
theorem un52 : Tryz.prog.underlying 52 = some (.slice 9) := by kernel_rfl
theorem en49 : enters Tryz.prog 49 = true := by kernel_rfl
theorem kf37_0 : kf Tryz.prog 37 0 = some 0 := by kernel_rfl
theorem kd32 : kd Tryz.prog 32 = some (false, 1) := by kernel_rfl
theorem kf37_1 : kf Tryz.prog 37 1 = some 1 := by kernel_rfl
theorem len_dec (l : List UInt8) : decide ((l.length : Int) ≤ 255) = decide (l.length ≤ 255) := by
  by_cases h : l.length ≤ 255
  · rw [decide_eq_true h, decide_eq_true (by omega)]
  · rw [decide_eq_false h, decide_eq_false (by omega)]
theorem word_name {c : UInt8} {r : List UInt8} (ha : aln c = true) (hd : dgt c = false) : wordW (c :: r) = ⟨1, (c :: r).takeWhile aln, 0, 0, 0, 0⟩ ∧ wordOk (c :: r) = decide (((c :: r).takeWhile aln).length ≤ 255) := by
  simp only [wordW, wordOk, if_pos ha, hd, Bool.false_eq_true, if_false, and_self]
theorem word_nameT {c : UInt8} {r : List UInt8} (ha : aln c = true) : wordT (c :: r) = (c :: r).dropWhile aln := by simp only [wordT, if_pos ha]
theorem word_num {c : UInt8} {r : List UInt8} (ha : aln c = true) (hd : dgt c = true) : wordW (c :: r) = numW ((c :: r).takeWhile aln) ∧ wordOk (c :: r) = numOk ((c :: r).takeWhile aln) := by
  simp only [wordW, wordOk, if_pos ha, if_pos hd, and_self]
theorem find_none {c : UInt8} {r : List UInt8} (h : ∀ t ∈ sgns.take 27, t.isPrefixOf (c :: r) = false) : sgns.find? (fun t => t.isPrefixOf (c :: r)) = none := by
  rw [List.find?_eq_none]
  intro t ht
  have := h t (by simpa [sgns] using ht)
  simp [this]
theorem find_more {i : Nat} {s t : List UInt8} (hs : sgns[i]? = some s) (hp : s.isPrefixOf t = false) (hJ : ∀ s ∈ sgns.take i, s.isPrefixOf t = false) : ∀ s ∈ sgns.take (i + 1), s.isPrefixOf t = false := by
  intro x hx
  rw [List.take_add_one, hs] at hx
  rcases List.mem_append.mp hx with q | q
  · exact hJ x q
  · simp at q; subst q; exact hp
theorem find_hit {i : Nat} {s t : List UInt8} (hs : sgns[i]? = some s) (hp : s.isPrefixOf t = true) (hJ : ∀ s ∈ sgns.take i, s.isPrefixOf t = false) : sgns.find? (fun s => s.isPrefixOf t) = some s := by
  rw [List.find?_eq_some_iff_append]
  obtain ⟨h1, h2⟩ := List.getElem?_eq_some_iff.mp hs
  refine ⟨hp, sgns.take i, sgns.drop (i + 1), ?_, fun a ha => by simp [hJ a ha]⟩
  rw [← h2, ← List.drop_eq_getElem_cons h1, List.take_append_drop]
theorem word_sgn {c : UInt8} {r s : List UInt8} (ha : ¬ aln c = true) (hf : sgns.find? (fun t => t.isPrefixOf (c :: r)) = some s) : (wordW (c :: r)).s = s := by simp only [wordW, if_neg ha, hf]
theorem word_sgnT {c : UInt8} {r s : List UInt8} (ha : ¬ aln c = true) (hf : sgns.find? (fun t => t.isPrefixOf (c :: r)) = some s) : wordT (c :: r) = (c :: r).drop s.length := by simp only [wordT, if_neg ha, hf]
theorem word_sgnO {c : UInt8} {r s : List UInt8} (ha : ¬ aln c = true) (hf : sgns.find? (fun t => t.isPrefixOf (c :: r)) = some s) : wordOk (c :: r) = true := by simp only [wordOk, if_neg ha, hf]; rfl
theorem word_noS {c : UInt8} {r : List UInt8} (ha : ¬ aln c = true) (hf : sgns.find? (fun t => t.isPrefixOf (c :: r)) = none) : (wordW (c :: r)).s = [] := by simp only [wordW, if_neg ha, hf]
theorem word_noT {c : UInt8} {r : List UInt8} (ha : ¬ aln c = true) (hf : sgns.find? (fun t => t.isPrefixOf (c :: r)) = none) : wordT (c :: r) = c :: r := by simp only [wordT, if_neg ha, hf]
theorem word_noO {c : UInt8} {r : List UInt8} (ha : ¬ aln c = true) (hf : sgns.find? (fun t => t.isPrefixOf (c :: r)) = none) : wordOk (c :: r) = false := by simp only [wordOk, if_neg ha, hf]; rfl
theorem word_sD {c : UInt8} {r : List UInt8} (ha : ¬ aln c = true) : wordW (c :: r) = ⟨4, (wordW (c :: r)).s, 0, 0, 0, 0⟩ := by
  simp only [wordW, if_neg ha]
  cases sgns.find? (fun t => t.isPrefixOf (c :: r)) <;> rfl
theorem word_c {c : UInt8} {r : List UInt8} {ln : Int} (hl : (c :: r).length ≤ 281474976710656) : CallsB Tryz.prog Lw 20 [.sc (.string (B (c :: r))), .sc (.int .i64 ln)] [] [.sc (.string (B (wordT (c :: r)))), .sc (.int .i64 ln)] (.tup [wordD (wordW (c :: r)), .sc (.bool (wordOk (c :: r)))]) := by
  have hE : enters Tryz.prog 45 = true := en45
  have hd := digit_c gs_lw c
  have hlt := letter_c gs_lw c
  have hat0 : (B (c :: r)).data.toList[0]? = some c := by rw [B_toList]; rfl
  refine callsB_of Tryz.func20 rfl Tryz.ntmps20 rfl rfl fun w0 S0 b stab => ?_
  refine sqq <| rgq <| sq (f_alloc zc37 (lt rfl)) rfl rfl <| asq rfl rfl <| nxq <| hits_scope <| sqq <| sqq ?_
  refine rgq <| mvq rfl rfl <| sq (f_nil rfl rfl (lt rfl)) rfl rfl <| faq rfl kf61_0 rfl rfl <| ldq kd9 rfl rfl rfl <| sq (f_idxS rfl rfl un9 hat0 (lt rfl)) rfl rfl <| asq rfl rfl <| nxq ?_
  refine hits_block <| sqq ?_
  by_cases ha : aln c = true
  · have hta : ((c :: r).takeWhile aln) ≠ [] := by rw [List.takeWhile_cons, if_pos ha]; simp
    have htl : ((c :: r).takeWhile aln).length ≤ 281474976710656 := Nat.le_trans (List.takeWhile_sublist _).length_le hl
    cases hdc : dgt c
    · rw [hdc] at hd
      have hlc : ltr c = true := by rw [aln, hdc, Bool.false_or] at ha; exact ha
      rw [hlc] at hlt
      refine rgq <| mvq rfl rfl <| sq (f_call en43 rfl hd (lt rfl)) rfl rfl <| mvq rfl rfl <| sq_yes (f_move rfl (lt rfl)) rfl rfl rfl rfl (lt rfl) <| sq_yes (f_call en44 rfl hlt (lt rfl)) rfl rfl rfl rfl (lt rfl) <| pkq rfl rfl rfl <| asq rfl rfl ?_
      refine nxq <| cnT rfl <| sqq <| rgq <| mvq rfl rfl <| sq_callB en39 rfl rfl (eat_c (by omega) hE (aln_c gs_lw)) ⟨rfl, rfl, trivial⟩ rfl rfl rfl rfl (lt rfl) <| asq rfl rfl <| nxq ?_
      refine sqq <| sqq <| rgq <| mvq rfl rfl <| sq (f_call en43 rfl hd (lt rfl)) rfl rfl <| nxq <| cnF rfl <| skq ?_
      refine toq <| sqq <| rgq <| mvq rfl rfl <| sq (f_call en47 rfl (sclone_c _ (by rw [B_size]; exact htl)) (lt rfl)) rfl rfl ?_
      refine sq (f_build bu37 rfl rfl (lt rfl)) rfl rfl <| mvq rfl rfl <| sq (f_lenStr rfl un9 (lt rfl)) rfl rfl <| sq (f_bin rfl rfl (bT ((by rw [B_size]; exact len_dec _ : _ = decide (((c :: r).takeWhile aln).length ≤ 255)))) (lt rfl)) rfl rfl ?_
      refine soq kd37 rfl rfl rfl rfl rfl <| asq rfl rfl <| nxq <| rtq <| in_ret <| to_ret <| ng_ret ?_
      refine hits_doneB (ds := [wordD (wordW (c :: r)), .sc (.bool (wordOk (c :: r)))]) (.inl rfl) rfl rfl (by rw [(word_name ha hdc).1, (word_name ha hdc).2]; rfl) rfl rfl ⟨(congrArg (fun z => some (V.d (.sc (.string (B z))))) (word_nameT ha)).symm, rfl, trivial⟩ rfl
    · rw [hdc] at hd
      have hnum := number_c ((c :: r).takeWhile aln) htl hta
      refine rgq <| mvq rfl rfl <| sq (f_call en43 rfl hd (lt rfl)) rfl rfl <| mvq rfl rfl <| noq rfl rfl rfl rfl rfl rfl rfl <| noq rfl rfl rfl rfl rfl rfl rfl <| pkq rfl rfl rfl <| asq rfl rfl ?_
      refine nxq <| cnT rfl <| sqq <| rgq <| mvq rfl rfl <| sq_callB en39 rfl rfl (eat_c (by omega) hE (aln_c gs_lw)) ⟨rfl, rfl, trivial⟩ rfl rfl rfl rfl (lt rfl) <| asq rfl rfl <| nxq ?_
      refine sqq <| sqq <| rgq <| mvq rfl rfl <| sq (f_call en43 rfl hd (lt rfl)) rfl rfl <| nxq <| cnT rfl <| sqq ?_
      refine rgq <| mvq rfl rfl <| sq (f_call en46 rfl hnum (lt rfl)) rfl rfl <| exq rfl rfl rfl <| exq rfl rfl rfl <| soq kd37 rfl rfl rfl rfl rfl <| asq rfl rfl <| nxq ?_
      refine rtq <| to_ret <| in_ret <| to_ret <| ng_ret ?_
      refine hits_doneB (ds := [wordD (wordW (c :: r)), .sc (.bool (wordOk (c :: r)))]) (.inl rfl) rfl rfl (by rw [(word_num ha hdc).1, (word_num ha hdc).2]; rfl) rfl rfl ⟨(congrArg (fun z => some (V.d (.sc (.string (B z))))) (word_nameT ha)).symm, rfl, trivial⟩ rfl
  · have hdc : dgt c = false := by cases h : dgt c with | false => rfl | true => exact absurd (by rw [aln, h]; rfl) ha
    have hlc : ltr c = false := by cases h : ltr c with | false => rfl | true => exact absurd (by rw [aln, h, Bool.or_true]) ha
    rw [hdc] at hd
    rw [hlc] at hlt
    refine rgq <| mvq rfl rfl <| sq (f_call en43 rfl hd (lt rfl)) rfl rfl <| mvq rfl rfl <| sq_yes (f_move rfl (lt rfl)) rfl rfl rfl rfl (lt rfl) <| sq_yes (f_call en44 rfl hlt (lt rfl)) rfl rfl rfl rfl (lt rfl) <| pkq rfl rfl rfl <| asq rfl rfl ?_
    refine nxq <| cnF rfl <| skq <| inq <| toq <| sqq <| rgq <| faq rfl kf37_0 rfl rfl ?_
    refine soq kd32 rfl rfl rfl rfl rfl <| nxq <| sqq <| hits_label <| toq <| sqq <| sqq <| rgq ?_
    refine sq (f_call en48 rfl signs_c (lt rfl)) rfl rfl <| sq (f_lenList rfl rfl un52 (lt rfl)) rfl rfl <| mvq rfl rfl <| nxq <| hits_block ?_
    refine hits_via (fun _ : Unit => [(.slot 0, some (.ptr 1000000 0)), (.box 1000000, some (.ptr 1000000 0)), (.cell 1000000 0, some (.d (.sc (.string (B (wordT (c :: r))))))), (.cell 1000000 1, some (.d (.sc (.int .i64 ln)))), (.slot 2, some (.ptr 2 0)), (.box 2, some (.ptr 2 0)), (.cell 2 0, some (.d (.sc (.int .u8 4)))), (.cell 2 1, some (.d (.sc (.string (B (wordW (c :: r)).s))))), (.cell 2 2, some (.d (.sc (.int .i64 0)))), (.cell 2 3, some (.d (.sc (.int .u64 0)))), (.cell 2 4, some (.d (.sc (.int .u64 0)))), (.cell 2 5, some (.d (.sc (.int .i64 0)))), (.slot 3, some (.d (.sc (.bool (wordOk (c :: r))))))]) (fun _ => True) 1 (fun rest => ?_) ?_
    · refine hits_loop (fun i : Nat => [(.slot 0, some (.ptr 1000000 0)), (.box 1000000, some (.ptr 1000000 0)), (.cell 1000000 0, some (.d (.sc (.string (B (c :: r)))))), (.cell 1000000 1, some (.d (.sc (.int .i64 ln)))), (.slot 2, some (.ptr 2 0)), (.box 2, some (.ptr 2 0)), (.cell 2 0, some (.d (.sc (.int .u8 4)))), (.cell 2 1, some (.d (.sc (.string (B []))))), (.cell 2 2, some (.d (.sc (.int .i64 0)))), (.cell 2 3, some (.d (.sc (.int .u64 0)))), (.cell 2 4, some (.d (.sc (.int .u64 0)))), (.cell 2 5, some (.d (.sc (.int .i64 0)))), (.slot 3, some (.d (.sc (.bool false)))), (.slot 37, some (.d (.list 1 sgD))), (.slot 38, some (.d (.sc (.int .i64 27)))), (.slot 39, some (.d (.sc (.int .i64 (i : Int)))))]) (fun i : Nat => i ≤ 27 ∧ ∀ t ∈ sgns.take i, t.isPrefixOf (c :: r) = false) (fun i : Nat => 27 - i) 0 ⟨by decide, by simp⟩ ⟨rfl, rfl, rfl, rfl, rfl, rfl, rfl, rfl, rfl, rfl, rfl, rfl, rfl, rfl, rfl, rfl, trivial⟩ rfl ?_
      intro i hx
      obtain ⟨hi, hJ⟩ := hx
      refine sqq <| rgq <| sq (f_bin rfl rfl rfl (lt rfl)) rfl rfl <| nxq <| sqq ?_
      refine hits_cond rfl (fun c2 => ?_) (fun c2 => ?_)
      · refine skq <| toq <| sqq <| hits_block <| sqq ?_
        obtain ⟨s, hs⟩ : ∃ s, sgns[i]? = some s := ⟨_, List.getElem?_eq_getElem (by have := of_decide_eq_true c2; show i < 27; omega)⟩
        have hcp := cutp_c (Γ := Lw) (c :: r) s
        refine rgq <| sq (f_idxList rfl rfl rfl un52 kd9 (Int.natCast_nonneg _) (sgD_at hs) (lt rfl)) rfl rfl <| ldq kd9 rfl rfl rfl <| asq rfl rfl <| nxq <| sqq ?_
        cases hp : s.isPrefixOf (c :: r)
        · rw [hp] at hcp
          refine rgq <| mvq rfl rfl <| sq (f_nil rfl rfl (lt rfl)) rfl rfl <| faq rfl kf61_0 rfl rfl <| ldq kd9 rfl rfl rfl <| mvq rfl rfl <| sq (f_call en49 rfl hcp (lt rfl)) rfl rfl <| mvq rfl rfl ?_
          refine exq rfl rfl rfl <| exq rfl rfl rfl <| asq rfl rfl <| asq rfl rfl <| nxq <| sqq <| rgq <| mvq rfl rfl ?_
          refine nxq <| cnF rfl <| skq <| inq <| toq <| rgq <| sq (f_bin rfl rfl (iT (((IntWalk.i64_in _ (by omega)).trans (by omega) : _ = ((i + 1 : Nat) : Int)))) (lt rfl)) rfl rfl <| mvq rfl rfl ?_
          refine nxq ?_
          refine round_end (i + 1) ⟨by have := (List.getElem?_eq_some_iff.mp hs).1; exact this, find_more hs hp hJ⟩ (by have := (List.getElem?_eq_some_iff.mp hs).1; have h27 : sgns.length = 27 := rfl; omega) ⟨rfl, rfl, rfl, rfl, rfl, rfl, rfl, rfl, rfl, rfl, rfl, rfl, rfl, rfl, rfl, rfl, trivial⟩ rfl
        · rw [hp] at hcp
          have hf := find_hit hs hp hJ
          refine rgq <| mvq rfl rfl <| sq (f_nil rfl rfl (lt rfl)) rfl rfl <| faq rfl kf61_0 rfl rfl <| ldq kd9 rfl rfl rfl <| mvq rfl rfl <| sq (f_call en49 rfl hcp (lt rfl)) rfl rfl <| mvq rfl rfl ?_
          refine exq rfl rfl rfl <| exq rfl rfl rfl <| asq rfl rfl <| asq rfl rfl <| nxq <| sqq <| rgq <| mvq rfl rfl ?_
          refine nxq <| cnT rfl <| sqq <| rgq <| mvq rfl rfl <| mvq rfl rfl <| mvq rfl rfl <| faq rfl kf37_1 rfl rfl ?_
          refine soq kd9 rfl rfl rfl rfl rfl <| sq (f_nil rfl rfl (lt rfl)) rfl rfl <| faq rfl kf61_0 rfl rfl <| soq kd9 rfl rfl rfl rfl rfl <| asq rfl rfl <| nxq <| hits_exit <| in_miss rfl ?_
          refine to_exit <| to_exit ?_
          exact hits_out rest () trivial ⟨rfl, rfl, (congrArg (fun z => some (V.d (.sc (.string (B z))))) (word_sgnT ha hf)).symm, rfl, rfl, rfl, rfl, (congrArg (fun z => some (V.d (.sc (.string (B z))))) (word_sgn ha hf)).symm, rfl, rfl, rfl, rfl, (congrArg (fun z => some (V.d (.sc (.bool z)))) (word_sgnO ha hf)).symm, trivial⟩ rfl
      · refine hits_exit <| to_exit <| to_exit ?_
        have hi27 : i = 27 := by have := of_decide_eq_false c2; omega
        have hf := find_none (by rw [hi27] at hJ; exact hJ)
        exact hits_out rest () trivial ⟨rfl, rfl, (congrArg (fun z => some (V.d (.sc (.string (B z))))) (word_noT ha hf)).symm, rfl, rfl, rfl, rfl, (congrArg (fun z => some (V.d (.sc (.string (B z))))) (word_noS ha hf)).symm, rfl, rfl, rfl, rfl, (congrArg (fun z => some (V.d (.sc (.bool z)))) (word_noO ha hf)).symm, trivial⟩ rfl
    · intro _ _
      refine in_hit rfl <| toq <| sqq <| rgq <| ldq kd37 rfl rfl rfl <| mvq rfl rfl <| soq kd37 rfl rfl rfl rfl rfl <| asq rfl rfl ?_
      refine nxq <| rtq <| ng_ret ?_
      refine hits_doneB (ds := [wordD (wordW (c :: r)), .sc (.bool (wordOk (c :: r)))]) (.inl rfl) rfl rfl (by rw [word_sD ha]; rfl) rfl rfl ⟨rfl, rfl, trivial⟩ rfl
end Go.Proofs.YtogodijfdkffaaaGreatDoor.Ln

/- lex.Words over data. -/
namespace Go.Proofs.YtogodijfdkffaaaGreatDoor.Ln
open Go Go.RowKit Go.Ab Go.Proofs 
theorem en20 : enters Tryz.prog 20 = true := by kernel_rfl
theorem sk27 : sk Tryz.prog 27 = some (37, 6, [.int .u8 0, .string ByteArray.empty, .int .i64 0, .int .u64 0, .int .u64 0, .int .i64 0]) := by kernel_rfl
theorem apk27 : apk Tryz.prog 27 27 = some (37, 6, 56) := by kernel_rfl
theorem bu61 : bk Tryz.prog 61 = some ([(0, 1), (1, 1)], [.string ByteArray.empty, .int .i64 0]) := by kernel_rfl
theorem en19 : enters Tryz.prog 19 = true := by kernel_rfl
theorem kf37_3 : kf Tryz.prog 37 3 = some 5 := by kernel_rfl
def wordsD : Nat ⊕ List Wd → D
  | .inl e => .tup [.list 6 [], .sc (.int .i64 (e : Int)), .sc (.int .i64 4)]
  | .inr l => .tup [.list 6 (l.map wordD), .sc (.int .i64 0), .sc (.int .i64 0)]
def words_app (l : List Wd) : Nat ⊕ List Wd → Nat ⊕ List Wd
  | .inl e => .inl e
  | .inr r => .inr (l ++ r)
theorem skip_cnt {s t : List UInt8} {n m : Nat} (h : skip false s n = (t, m)) : t.length ≤ s.length ∧ m + t.length ≤ n + s.length := by
  have h1 := skip_le false s n
  have h2 := skip_count false s n
  rw [h] at h1 h2
  simp only at h1 h2
  have h3 : s.count 10 - t.count 10 ≤ s.length - t.length := by
    have := skip_len false s n
    rw [h] at this
    exact this
  have h4 := List.count_le_length (a := (10 : UInt8)) (l := t)
  exact ⟨h1, by omega⟩
theorem words_first {s t : List UInt8} {n : Nat} (h : skip false s 0 = (t, n)) : W s 0 = words_app [] (W t n) := by
  have h2 := skip_stops false s 0
  rw [h] at h2
  have : W s 0 = W t n := W_skip (by rw [h, skip_stop n h2])
  rw [this]
  cases W t n <;> simp [words_app]
theorem words_step {s t t1 t2 : List UInt8} {m n2 : Nat} {x : Wd} {l : List Wd} (hs : skip false t m = (t, m)) (hw : word t = some (x, t1)) (h2 : skip false t1 m = (t2, n2)) (hJ : W s 0 = words_app l (W t m)) : W s 0 = words_app (l ++ [{ x with ln := m }]) (W t2 n2) := by
  have h3 := skip_stops false t1 m
  rw [h2] at h3
  have e : W t1 m = W t2 n2 := W_skip (by rw [h2, skip_stop n2 h3])
  rw [hJ, W_some hs hw, e]
  cases W t2 n2 <;> simp [words_app]
theorem words_big (s : ByteArray) (hs : 65536 < s.size) : CallsP Tryz.prog Lw 8 [.sc (.string s)] (.tup [.list 6 [], .sc (.int .i64 0), .sc (.int .i64 3)]) := by
  refine callsP_of gs_lw Tryz.func8 rfl Tryz.ntmps8 rfl fun w0 S0 stab => ?_
  refine sqq <| rgq <| asq rfl rfl <| asq rfl rfl <| asq rfl rfl <| nxq <| sqq <| sqq ?_
  refine rgq <| mvq rfl rfl <| sq (f_lenStr rfl un9 (lt rfl)) rfl rfl <| sq (f_bin rfl rfl (bT (decide_eq_true (by omega))) (lt rfl)) rfl rfl <| nxq <| cnT rfl <| sqq <| rgq ?_
  refine asq rfl rfl <| asq rfl rfl <| asq rfl rfl <| nxq <| rtq <| to_ret <| hits_own 2 2 6 rfl ?_
  exact hits_done (.inl rfl) rfl rfl rfl
theorem words_c (s : List UInt8) (hs : s.length ≤ 65536) : CallsP Tryz.prog Lw 8 [.sc (.string (B s))] (wordsD (W s 0)) := by
  obtain ⟨t0, n0, h0⟩ : ∃ t n, skip false s 0 = (t, n) := ⟨_, _, rfl⟩
  have hb0 := skip_cnt h0
  have hst0 := skip_stops false s 0
  rw [h0] at hst0
  refine callsP_of gs_lw Tryz.func8 rfl Tryz.ntmps8 rfl fun w0 S0 stab => ?_
  refine sqq <| rgq <| asq rfl rfl <| asq rfl rfl <| asq rfl rfl <| nxq <| sqq <| sqq ?_
  refine rgq <| mvq rfl rfl <| sq (f_lenStr rfl un9 (lt rfl)) rfl rfl <| sq (f_bin rfl rfl (bT (decide_eq_false (by rw [B_size]; omega))) (lt rfl)) rfl rfl ?_
  refine nxq <| cnF rfl <| skq <| toq <| sqq <| rgq <| mvq rfl rfl <| sq (f_build bu61 rfl rfl (lt rfl)) rfl rfl ?_
  refine sq (f_box rfl rfl (lt rfl)) rfl rfl <| asq rfl rfl <| nxq <| sqq <| rgq <| asq rfl rfl <| nxq <| sqq ?_
  refine sqq <| rgq <| mvq rfl rfl <| sq_callB en19 rfl rfl (skip_c gs_lw (n := 0) (by omega) (by omega) h0) ⟨rfl, rfl, trivial⟩ rfl rfl rfl rfl (lt rfl) <| nxq <| hits_block <| hits_own 6 6 6 rfl <| hits_loop (fun x : List Wd × List UInt8 × Nat => [(.slot 5, some (.ptr 14 0)), (.box 14, some (.ptr 14 0)), (.cell 14 0, some (.d (.sc (.string (B x.2.1))))), (.cell 14 1, some (.d (.sc (.int .i64 (x.2.2 : Int))))), (.slot 6, some (.own 6 6 (x.1.map wordD))), (.tip 6, some (.ptr 6 0))]) (fun x : List Wd × List UInt8 × Nat => Stops x.2.1 ∧ x.2.2 + x.2.1.length ≤ s.length ∧ x.1.length + x.2.1.length ≤ s.length ∧ W s 0 = words_app x.1 (W x.2.1 x.2.2)) (fun x : List Wd × List UInt8 × Nat => x.2.1.length) ([], t0, n0) ⟨hst0, by simpa using hb0.2, by simpa using hb0.1, words_first h0⟩ ⟨rfl, rfl, rfl, rfl, rfl, rfl, trivial⟩ rfl ?_
  intro x hx
  obtain ⟨l, t, m⟩ := x
  obtain ⟨hst, hmt, hlt0, hJ⟩ := hx
  change Stops t at hst
  change m + t.length ≤ s.length at hmt
  change l.length + t.length ≤ s.length at hlt0
  change W s 0 = words_app l (W t m) at hJ
  change Hits _ [(.slot 5, some (.ptr 14 0)), (.box 14, some (.ptr 14 0)), (.cell 14 0, some (.d (.sc (.string (B t))))), (.cell 14 1, some (.d (.sc (.int .i64 (m : Int))))), (.slot 6, some (.own 6 6 (l.map wordD))), (.tip 6, some (.ptr 6 0))] _
  have hll : (l.map wordD).length = l.length := List.length_map _
  refine sqq <| sqq ?_
  rcases t with _ | ⟨c, r⟩
  · have hfin : W s 0 = .inr l := by rw [hJ, W_nil rfl]; simp [words_app]
    refine rgq <| mvq rfl rfl <| sq (f_nil rfl rfl (lt rfl)) rfl rfl <| faq rfl kf61_0 rfl rfl <| ldq kd9 rfl rfl rfl <| sq (f_bin rfl rfl (bT ((by rw [show ((⟨#[]⟩ : ByteArray).toList) = (B []).toList from rfl, B_beq]; rfl : _ = false))) (lt rfl)) rfl rfl ?_
    refine nxq <| cnF rfl <| hits_exit <| to_exit <| to_exit <| in_hit rfl <| toq <| sqq ?_
    refine rgq <| mvq rfl rfl <| asq rfl rfl <| asq rfl rfl <| asq rfl rfl <| nxq <| rtq ?_
    exact hits_done (.inl rfl) rfl rfl (by rw [hfin]; rfl)
  · have hw := word_c (c := c) (r := r) (ln := (m : Int)) (by omega)
    cases hok : wordOk (c :: r)
    · rw [hok] at hw
      have hfin : W s 0 = .inl m := by rw [hJ, W_none (skip_stop m hst) (by simp) (by rw [word_is, hok]; rfl)]; rfl
      refine rgq <| mvq rfl rfl <| sq (f_nil rfl rfl (lt rfl)) rfl rfl <| faq rfl kf61_0 rfl rfl <| ldq kd9 rfl rfl rfl <| sq (f_bin rfl rfl (bT ((by rw [show ((⟨#[]⟩ : ByteArray).toList) = (B []).toList from rfl, B_beq]; rfl : _ = true))) (lt rfl)) rfl rfl ?_
      refine nxq <| cnT rfl <| skq <| toq <| sqq <| hits_block <| sqq <| rgq ?_
      refine mvq rfl rfl <| sq_callB en20 rfl rfl (hw) ⟨rfl, rfl, trivial⟩ rfl rfl rfl rfl (lt rfl) <| mvq rfl rfl <| exq rfl rfl rfl <| exq rfl rfl rfl <| sq (f_alloc zc37 (lt rfl)) rfl rfl <| soq kd37 rfl rfl rfl rfl rfl <| asq rfl rfl ?_
      refine nxq <| sqq <| sqq <| rgq <| mvq rfl rfl <| sq (f_un rfl rfl (lt rfl)) rfl rfl <| nxq <| cnT rfl ?_
      refine sqq <| hits_drawn mixed <| dq (f_move rfl (lt rfl)) rfl rfl <| dq (f_nil rfl rfl (lt rfl)) rfl rfl <| dq (f_fieldAddr rfl kf61_1 rfl (lt rfl)) rfl rfl <| dq (f_load kd3 rfl rfl (lt rfl)) rfl rfl <| dq (f_assign rfl (lt rfl)) rfl rfl <| dq (f_assign rfl (lt rfl)) rfl rfl ?_
      refine dq (f_assign rfl (lt rfl)) rfl rfl <| dq_nil rfl <| toq <| rtq <| to_ret <| in_ret <| to_ret <| to_ret ?_
      refine in_ret <| to_ret <| hits_own 2 2 6 rfl ?_
      exact hits_done (.inl rfl) rfl rfl (by rw [hfin]; rfl)
    · rw [hok] at hw
      have hwd : word (c :: r) = some (wordW (c :: r), wordT (c :: r)) := by rw [word_is, hok]; rfl
      have hlt := word_lt hwd
      obtain ⟨t2, n2, h2⟩ : ∃ t n, skip false (wordT (c :: r)) m = (t, n) := ⟨_, _, rfl⟩
      have hb2 := skip_cnt h2
      have hst2 := skip_stops false (wordT (c :: r)) m
      rw [h2] at hst2
      have hJ2 := words_step (l := l) (skip_stop m hst) hwd h2 hJ
      refine rgq <| mvq rfl rfl <| sq (f_nil rfl rfl (lt rfl)) rfl rfl <| faq rfl kf61_0 rfl rfl <| ldq kd9 rfl rfl rfl <| sq (f_bin rfl rfl (bT ((by rw [show ((⟨#[]⟩ : ByteArray).toList) = (B []).toList from rfl, B_beq]; rfl : _ = true))) (lt rfl)) rfl rfl ?_
      refine nxq <| cnT rfl <| skq <| toq <| sqq <| hits_block <| sqq <| rgq ?_
      refine mvq rfl rfl <| sq_callB en20 rfl rfl (hw) ⟨rfl, rfl, trivial⟩ rfl rfl rfl rfl (lt rfl) <| mvq rfl rfl <| exq rfl rfl rfl <| exq rfl rfl rfl <| sq (f_alloc zc37 (lt rfl)) rfl rfl <| soq kd37 rfl rfl rfl rfl rfl <| asq rfl rfl ?_
      refine nxq <| sqq <| sqq <| rgq <| mvq rfl rfl <| sq (f_un rfl rfl (lt rfl)) rfl rfl <| nxq <| cnF rfl ?_
      refine skq <| toq <| sqq <| rgq <| mvq rfl rfl <| sq (f_nil rfl rfl (lt rfl)) rfl rfl <| faq rfl kf61_1 rfl rfl <| ldq kd3 rfl rfl rfl ?_
      refine faq rfl kf37_3 rfl rfl <| soq kd3 rfl rfl rfl rfl rfl <| nxq <| rgq <| mvq rfl rfl <| ldq kd37 rfl rfl rfl <| sq (f_buildSlice sk27 rfl rfl rfl rfl rfl rfl (by decide) (by decide) (lt rfl)) rfl rfl <| sq_append rfl rfl rfl rfl apk27 (by rw [List.length_map]; simp only [snds, List.length_cons, List.length_nil]; omega) (by rw [List.length_map]; simp only [snds, List.length_cons, List.length_nil]; omega) rfl (lt rfl) ?_
      refine asq rfl rfl <| nlq <| inq <| toq <| rgq <| mvq rfl rfl <| sq_callB en19 rfl rfl (skip_c gs_lw (n := m) (by omega) (by omega) h2) ⟨rfl, rfl, trivial⟩ rfl rfl rfl rfl (lt rfl) <| nxq ?_
      refine round_end (l ++ [({ wordW (c :: r) with ln := m } : Wd)], t2, n2) ⟨hst2, by simp only; omega, by simp only [List.length_append, List.length_cons, List.length_nil] at *; omega, hJ2⟩ (by simp only [List.length_cons] at *; omega) ⟨rfl, rfl, rfl, rfl, (by show _ = some (V.own 6 6 (List.map wordD (l ++ [({ wordW (c :: r) with ln := m } : Wd)]))); rw [List.map_append]; rfl), rfl, trivial⟩ rfl
end Go.Proofs.YtogodijfdkffaaaGreatDoor.Ln

/- Lists that may be written to: calls that hand back a list of their own, elements read and written, the list made fast again. No program. -/
namespace Go.Ab
open Go Go.RowKit
variable {P : Program} {E : Env} {st : St} {G : Gh} {a : Act} {w : World} {Q : Exit → Act → World → Prop} {d : Nat} {ty : TypeId} {pos : String} {af : Array Edge} {g : Option (Nat × Bool)} {x y : Operand}
theorem callsG_of {Γ : World → Prop} {f : FuncId} {fn : Func} {c : Code} {args : List D} {R : World → Stab → Ending → World → Prop} {N : Nat} (hΓ : GS Γ) (hf : P.funcs[f]? = some fn) (hb : fn.body = some c) (hn : fn.ntmps = N) (hl : Nat.ble args.length N = true)
    (h : ∀ (w0 : World) (S0 : Stab) (stab : ∀ w, KW w0 [] w → Γ w), Hits ⟨w0, [], [], S0, N, Γ, stab, #[]⟩ (argRows 0 args) (c.wp P (bodyPost P fn (R w0 S0)))) :
    ∀ (S : Stab) (w : World) (us : List Value), Γ w → (∀ b o v, S b o = some v → w.cell? ⟨b, o, none⟩ = some v) → RelL S args us → Calls P f ⟨us⟩ w (R w S) := by
  intro S w us hg hS hr
  -- the frame's start is as at callsP_of: told there; here its walk is asked
  have hlen := relL_length hr
  have hle : args.length ≤ N := Nat.le_of_ble_eq_true hl
  let E : Env := ⟨w, [], [], S, N, Γ, fun w' k => hΓ w w' hg k.toBelow, #[]⟩
  have h1 := h w S (fun w' k => hΓ w w' hg k.toBelow)
  have hs : Sim E (argRows 0 args) ⟨S, fun _ => 0, fun _ => 0, fun _ => false, fun _ => 0, fun _ => 0⟩ { tmps := (⟨us⟩ : Array Value) ++ Array.replicate (fn.ntmps - (⟨us⟩ : Array Value).size) undef, defers := [] } w := by
    have nb : ∀ i, look (argRows 0 args) (.box i) = none := fun i => look_argRows_ne args 0 _ (by simp)
    have nt : ∀ i, look (argRows 0 args) (.tip i) = none := fun i => look_argRows_ne args 0 _ (by simp)
    refine ⟨⟨rfl, rfl, rfl, Nat.le_refl _, fun _ _ _ => rfl⟩, Stab.le.refl _, fun _ _ _ e => .inl e, ?_, rfl, fun t v hv => ?_, fun i o v hv => ?_, fun i hi => absurd (nb i) hi, fun i j hi => absurd (nb i) hi, hS, fun i hi => absurd (nt i) hi, fun i j hi => absurd (nt i) hi, fun p hp => (List.not_mem_nil hp).elim, fun i qv l hl _ _ => (by rw [nt i] at hl; cases hl), fun i v hl => (by rw [look_argRows_ne args 0 _ (by simp)] at hl; cases hl), fun k v hl => (by rw [look_argRows_ne args 0 _ (by simp)] at hl; cases hl)⟩
    · show _ = N
      simp [hn]; omega
    · rw [look_argRows, if_pos (Nat.zero_le _), Nat.sub_zero] at hv
      simp only [Option.map_eq_some_iff] at hv
      obtain ⟨x, hx, rfl⟩ := hv
      obtain ⟨u, hu, hrel⟩ := relL_getElem hr hx
      show Rel S x _
      have e : ((⟨us⟩ : Array Value) ++ Array.replicate (fn.ntmps - (⟨us⟩ : Array Value).size) undef).getD t undef = u := by
        have ht : t < us.length := (List.getElem?_eq_some_iff.1 hu).1
        rw [Array.getD_eq_getD_getElem?, Array.getElem?_append_left (by simpa using ht)]
        simp [hu]
      rw [e]; exact hrel
    · rw [look_argRows_ne args 0 _ (by simp)] at hv; cases hv
  exact calls_of_wp hf hb (h1 _ _ _ hs)
end Go.Ab

/- Calls walked in place: the caller's slots are kept as old ones, the callee's code is walked on the same world. No program. -/
namespace Go.Ab
open Go Go.RowKit
variable {P : Program} {E : Env} {st : St} {G : Gh} {a : Act} {w : World} {Q : Exit → Act → World → Prop} {d : Nat} {ty : TypeId} {pos : String} {af : Array Edge} {g : Option (Nat × Bool)} {x y : Operand}
def enterSt (N : Nat) : St → St
  | [] => []
  | (.slot t, v) :: r => match Nat.blt t N with
    | true => (.old t, v) :: enterSt N r
    | false => enterSt N r
  | (.old k, v) :: r => (.old (k + N), v) :: enterSt N r
  | (.cell i o, v) :: r => (.cell i o, v) :: enterSt N r
  | (.box i, v) :: r => (.box i, v) :: enterSt N r
  | (.tip i, v) :: r => (.tip i, v) :: enterSt N r
  | (.iter i, v) :: r => (.iter i, v) :: enterSt N r
def leaveSt (N : Nat) : St → St
  | [] => []
  | (.slot _, _) :: r => leaveSt N r
  | (.old k, v) :: r => match Nat.blt k N with
    | true => (.slot k, v) :: leaveSt N r
    | false => (.old (k - N), v) :: leaveSt N r
  | (.cell i o, v) :: r => (.cell i o, v) :: leaveSt N r
  | (.box i, v) :: r => (.box i, v) :: leaveSt N r
  | (.tip i, v) :: r => (.tip i, v) :: leaveSt N r
  | (.iter i, v) :: r => (.iter i, v) :: leaveSt N r
def Loc.high : Loc → Bool
  | .slot _ => false
  | .old _ => false
  | _ => true
theorem look_enter (N : Nat) (k : Loc) (hk : k.high = true) : ∀ st : St, look (enterSt N st) k = look st k
  | [] => rfl
  | (l, v) :: r => by
    have ih := look_enter N k hk r
    cases l with
    | slot t =>
      have h1 : Loc.slot t ≠ k := by rintro rfl; cases hk
      rw [look_ne _ _ h1]
      unfold enterSt
      split
      · rw [look_ne _ _ (by rintro rfl; cases hk)]; exact ih
      · exact ih
    | old t =>
      have h1 : Loc.old t ≠ k := by rintro rfl; cases hk
      rw [look_ne _ _ h1]
      unfold enterSt
      rw [look_ne _ _ (by rintro rfl; cases hk)]; exact ih
    | cell i o => unfold enterSt; rw [look_cons, look_cons, ih]
    | box i => unfold enterSt; rw [look_cons, look_cons, ih]
    | tip i => unfold enterSt; rw [look_cons, look_cons, ih]
    | iter i => unfold enterSt; rw [look_cons, look_cons, ih]
theorem look_enter_slot (N t : Nat) : ∀ st : St, look (enterSt N st) (.slot t) = none
  | [] => rfl
  | (l, v) :: r => by
    have ih := look_enter_slot N t r
    cases l with
    | slot u =>
      unfold enterSt
      split
      · rw [look_ne _ _ (by simp)]; exact ih
      · exact ih
    | old u => unfold enterSt; rw [look_ne _ _ (by simp)]; exact ih
    | cell i o => unfold enterSt; rw [look_ne _ _ (by simp)]; exact ih
    | box i => unfold enterSt; rw [look_ne _ _ (by simp)]; exact ih
    | tip i => unfold enterSt; rw [look_ne _ _ (by simp)]; exact ih
    | iter i => unfold enterSt; rw [look_ne _ _ (by simp)]; exact ih
theorem look_enter_old (N k : Nat) : ∀ st : St, look (enterSt N st) (.old k) = if k < N then look st (.slot k) else look st (.old (k - N))
  | [] => by simp [enterSt, look]
  | (l, v) :: r => by
    have ih := look_enter_old N k r
    cases l with
    | slot u =>
      unfold enterSt
      split
      · rename_i hb
        have hu : u < N := Nat.le_of_ble_eq_true hb
        rw [look_cons, ih]
        by_cases hk : u = k
        · subst hk; rw [if_pos rfl, if_pos hu, look_same]
        · rw [if_neg (by simpa using hk), look_ne _ _ (by simpa using hk), look_ne _ _ (by simp)]
      · rename_i hb
        have hu : ¬ u < N := fun c => by rw [show Nat.blt u N = true from Nat.ble_eq_true_of_le c] at hb; cases hb
        rw [ih]
        by_cases hk : k < N
        · rw [if_pos hk, if_pos hk, look_ne _ _ (by simp; omega)]
        · rw [if_neg hk, if_neg hk, look_ne _ _ (by simp)]
    | old u =>
      unfold enterSt
      rw [look_cons, ih]
      by_cases hk : u + N = k
      · rw [if_pos (by rw [hk]), if_neg (by omega), show k - N = u from by omega, look_same]
      · rw [if_neg (by simpa using hk), look_ne _ _ (by simp)]
        by_cases hk2 : k < N
        · rw [if_pos hk2, if_pos hk2]
        · rw [if_neg hk2, if_neg hk2, look_ne _ _ (by simp; omega)]
    | cell i o => unfold enterSt; rw [look_ne _ _ (by simp), ih, look_ne _ _ (by simp), look_ne _ _ (by simp)]
    | box i => unfold enterSt; rw [look_ne _ _ (by simp), ih, look_ne _ _ (by simp), look_ne _ _ (by simp)]
    | tip i => unfold enterSt; rw [look_ne _ _ (by simp), ih, look_ne _ _ (by simp), look_ne _ _ (by simp)]
    | iter i => unfold enterSt; rw [look_ne _ _ (by simp), ih, look_ne _ _ (by simp), look_ne _ _ (by simp)]
theorem look_leave (N : Nat) (k : Loc) (hk : k.high = true) : ∀ st : St, look (leaveSt N st) k = look st k
  | [] => rfl
  | (l, v) :: r => by
    have ih := look_leave N k hk r
    cases l with
    | slot t =>
      have h1 : Loc.slot t ≠ k := by rintro rfl; cases hk
      rw [look_ne _ _ h1]
      exact ih
    | old t =>
      have h1 : Loc.old t ≠ k := by rintro rfl; cases hk
      rw [look_ne _ _ h1]
      unfold leaveSt
      split
      · rw [look_ne _ _ (by rintro rfl; cases hk)]; exact ih
      · rw [look_ne _ _ (by rintro rfl; cases hk)]; exact ih
    | cell i o => unfold leaveSt; rw [look_cons, look_cons, ih]
    | box i => unfold leaveSt; rw [look_cons, look_cons, ih]
    | tip i => unfold leaveSt; rw [look_cons, look_cons, ih]
    | iter i => unfold leaveSt; rw [look_cons, look_cons, ih]
theorem look_leave_slot (N t : Nat) : ∀ st : St, look (leaveSt N st) (.slot t) = if t < N then look st (.old t) else none
  | [] => by simp [leaveSt, look]
  | (l, v) :: r => by
    have ih := look_leave_slot N t r
    cases l with
    | slot u => rw [show leaveSt N ((Loc.slot u, v) :: r) = leaveSt N r from rfl, ih, look_ne _ _ (by simp)]
    | old u =>
      unfold leaveSt
      split
      · rename_i hb
        have hu : u < N := Nat.le_of_ble_eq_true hb
        rw [look_cons, ih]
        by_cases hk : u = t
        · subst hk; rw [if_pos rfl, if_pos hu, look_same]
        · rw [if_neg (by simpa using hk), look_ne _ _ (by simpa using hk)]
      · rename_i hb
        have hu : ¬ u < N := fun c => by rw [show Nat.blt u N = true from Nat.ble_eq_true_of_le c] at hb; cases hb
        rw [look_ne _ _ (by simp), ih]
        by_cases hk : t < N
        · rw [if_pos hk, if_pos hk, look_ne _ _ (by simp; omega)]
        · rw [if_neg hk, if_neg hk]
    | cell i o => unfold leaveSt; rw [look_ne _ _ (by simp), ih, look_ne _ _ (by simp)]
    | box i => unfold leaveSt; rw [look_ne _ _ (by simp), ih, look_ne _ _ (by simp)]
    | tip i => unfold leaveSt; rw [look_ne _ _ (by simp), ih, look_ne _ _ (by simp)]
    | iter i => unfold leaveSt; rw [look_ne _ _ (by simp), ih, look_ne _ _ (by simp)]
theorem look_leave_old (N k : Nat) : ∀ st : St, look (leaveSt N st) (.old k) = look st (.old (k + N))
  | [] => rfl
  | (l, v) :: r => by
    have ih := look_leave_old N k r
    cases l with
    | slot u => rw [show leaveSt N ((Loc.slot u, v) :: r) = leaveSt N r from rfl, ih, look_ne _ _ (by simp)]
    | old u =>
      unfold leaveSt
      split
      · rename_i hb
        have hu : u < N := Nat.le_of_ble_eq_true hb
        rw [look_ne _ _ (by simp), ih, look_ne _ _ (by simp; omega)]
      · rename_i hb
        have hu : ¬ u < N := fun c => by rw [show Nat.blt u N = true from Nat.ble_eq_true_of_le c] at hb; cases hb
        rw [look_cons, ih]
        by_cases hk : u - N = k
        · rw [if_pos (by rw [hk]), show k + N = u from by omega, look_same]
        · rw [if_neg (by simpa using hk), look_ne _ _ (by simp; omega)]
    | cell i o => unfold leaveSt; rw [look_ne _ _ (by simp), ih, look_ne _ _ (by simp)]
    | box i => unfold leaveSt; rw [look_ne _ _ (by simp), ih, look_ne _ _ (by simp)]
    | tip i => unfold leaveSt; rw [look_ne _ _ (by simp), ih, look_ne _ _ (by simp)]
    | iter i => unfold leaveSt; rw [look_ne _ _ (by simp), ih, look_ne _ _ (by simp)]
def evVs (st : St) : List Operand → Option (List V)
  | [] => some []
  | x :: r => match ev st x, evVs st r with
    | some v, some l => some (v :: l)
    | _, _ => none
theorem Sim.evVs (h : Sim E st G a w) : ∀ {xs : List Operand} {vs : List V}, Ab.evVs st xs = some vs → RelVL G vs (xs.map a.eval)
  | [], vs, he => by obtain rfl := Option.some.inj he; exact relVL_nil
  | x :: r, vs, he => by
    unfold Ab.evVs at he
    split at he
    · rename_i v l h1 h2
      obtain rfl := Option.some.inj he
      exact relVL_cons (h.ev h1) (Sim.evVs h h2)
    · cases he
def vrows (k : Nat) : List V → St
  | [] => []
  | v :: l => (.slot k, some v) :: vrows (k + 1) l
theorem look_vrows (t : Nat) (r : St) : ∀ (vs : List V) (k : Nat), look (vrows k vs ++ r) (.slot t) = if k ≤ t ∧ t < k + vs.length then vs[t - k]? else look r (.slot t)
  | [], k => by simp [vrows]; intro h1 h2; omega
  | v :: l, k => by
    simp only [vrows, List.cons_append, look_cons, Loc.slot.injEq, List.length_cons]
    by_cases h : k = t
    · subst h; simp
    · rw [if_neg h, look_vrows t r l (k + 1)]
      by_cases h' : k + 1 ≤ t ∧ t < k + 1 + l.length
      · rw [if_pos h', if_pos (by omega), show t - k = (t - (k + 1)) + 1 from by omega, List.getElem?_cons_succ]
      · rw [if_neg h', if_neg (by omega)]
theorem look_vrows_ne {l : Loc} (h : ∀ t, l ≠ .slot t) (r : St) : ∀ (vs : List V) (k : Nat), look (vrows k vs ++ r) l = look r l
  | [], k => rfl
  | v :: t, k => by simp only [vrows, List.cons_append]; rw [look_ne _ _ (fun c => h k c.symm), look_vrows_ne h r t (k + 1)]
def Env.into (E : Env) (n : Nat) (a : Act) : Env := { E with N := n, keep := a.tmps ++ E.keep }
def Back (P : Program) (a : Act) (d : Nat) (ops : Array Oper) (Q : Exit → Act → World → Prop) (l : List Oper) (e : Ending) (w' : World) : Prop :=
  (∃ u, e = .returned u ∧ wpList P ops Q l (a.put (some d) u) w') ∨ ∃ ch, e = .panicked ch ∧ Q (.panic ch) a w'
theorem sq_inline0 {ops : Array Oper} {l : List Oper} {op : Oper} {f : FuncId} {fn : Func} {c : Code} {vs : List V} {n : Nat} (hdst : op.dst = some d) (hgd : op.guard = none)
    (hrun0 : ∀ G a w, Sim E st G a w → ∃ us, (execOp a.eval op).run P w = .ok (.enter f ⟨us⟩) w ∧ RelVL G vs us) (hf : P.funcs[f]? = some fn) (hb : fn.body = some c) (hn : fn.ntmps = n)
    (hfix : (E.fix.all fun p => Nat.ble n p.1) = true) (hlen : Nat.ble vs.length n = true)
    (h : ∀ a : Act, a.tmps.size = E.N → a.defers = [] → Hits (E.into n a) (vrows 0 vs ++ enterSt E.N st) (c.wp P (bodyPost P fn (Back P a d ops Q l)))) :
    Hits E st (wpList P ops Q (op :: l)) := by
  intro G a w s
  obtain ⟨us, hrun, hvs⟩ := hrun0 G a w s
  unfold wpList
  rw [if_pos (by simp [Region.wanted, hgd])]
  refine .inl ?_
  show Oper.upon P op a _ Q ((execOp a.eval op).run P w)
  rw [hrun]
  obtain ⟨hl, hget⟩ := relVL_get hvs
  have hle : vs.length ≤ n := Nat.le_of_ble_eq_true hlen
  have hs : Sim (E.into n a) (vrows 0 vs ++ enterSt E.N st) G { tmps := (⟨us⟩ : Array Value) ++ Array.replicate (fn.ntmps - (⟨us⟩ : Array Value).size) undef, defers := [] } w := by
    have hi : ∀ k : Loc, k.high = true → look (vrows 0 vs ++ enterSt E.N st) k = look st k := fun k hk => by
      rw [look_vrows_ne (fun t c => by subst c; cases hk), look_enter _ _ hk]
    refine ⟨s.kw, s.s0, s.snew, ?_, rfl, fun t v hv => ?_, fun i o v hv => ?_, fun i h1 => ?_, fun i j h1 h2 => ?_, s.stable, fun i h1 h2 => ?_, fun i j h1 h2 => ?_, fun p hp => ⟨?_, fun h1 => ?_⟩, fun i qv l h1 hcl h2 => ?_, fun i v hv => ?_, fun k v hv => ?_⟩
    · show _ = n
      have : us.length = vs.length := hl.symm
      simp [hn] at this ⊢; omega
    · rw [look_vrows] at hv
      split at hv
      · rename_i ht
        rw [Nat.sub_zero] at hv
        obtain ⟨u, hu, hr⟩ := hget t v hv
        have e : ((⟨us⟩ : Array Value) ++ Array.replicate (fn.ntmps - (⟨us⟩ : Array Value).size) undef).getD t undef = u := by
          have ht : t < us.length := (List.getElem?_eq_some_iff.1 hu).1
          rw [Array.getD_eq_getD_getElem?, Array.getElem?_append_left (by simpa using ht)]
          simp only [List.getElem?_toArray, hu, Option.getD_some]
        show RelV G v _
        rw [e]; exact hr
      · rw [look_enter_slot] at hv; cases hv
    · rw [hi _ rfl] at hv; rw [hi _ rfl]; exact s.cells i o v hv
    · rw [hi _ rfl] at h1; exact s.boxes i h1
    · rw [hi _ rfl] at h1 h2; exact s.inj i j h1 h2
    · rw [hi _ rfl] at h1
      obtain ⟨q1, q2, q3, q4⟩ := s.tips i h1 h2
      exact ⟨q1, q2, q3, fun j hj => q4 j (by rw [hi _ rfl] at hj; exact hj)⟩
    · rw [hi _ rfl] at h1 h2; exact s.tinj i j h1 h2
    · exact Nat.le_of_ble_eq_true (List.all_eq_true.mp hfix p hp)
    · rw [hi _ rfl] at h1; exact (s.rcv p hp).2 h1
    · rw [hi _ rfl] at h1; exact s.conts i qv l h1 hcl h2
    · rw [hi _ rfl] at hv; rw [hi _ rfl]; exact s.iters i v hv
    · rw [look_vrows_ne (fun t => by simp), look_enter_old] at hv
      show RelV G v ((a.tmps ++ E.keep).getD k undef)
      split at hv
      · rename_i hk
        have := s.slots k v hv
        rwa [show (a.tmps ++ E.keep).getD k undef = a.tmps.getD k undef from by rw [Array.getD_eq_getD_getElem?, Array.getD_eq_getD_getElem?, Array.getElem?_append_left (by rw [s.tmps]; exact hk)]]
      · rename_i hk
        have := s.olds (k - E.N) v hv
        rwa [show (a.tmps ++ E.keep).getD k undef = E.keep.getD (k - E.N) undef from by rw [Array.getD_eq_getD_getElem?, Array.getD_eq_getD_getElem?, Array.getElem?_append_right (by rw [s.tmps]; omega), s.tmps]]
  refine (calls_of_wp hf hb (h a s.tmps s.defers G _ w hs)).mono ?_
  rintro e w' (⟨u, rfl, hu⟩ | ⟨ch, rfl, hu⟩)
  · rw [← hdst] at hu; exact hu
  · exact hu
theorem sq_inline {ops : Array Oper} {l : List Oper} {f : FuncId} {fn : Func} {c : Code} {xs : List Operand} {ats : Array TypeId} {vs : List V} {n : Nat} (hen : enters P f = true) (hf : P.funcs[f]? = some fn) (hb : fn.body = some c) (hn : fn.ntmps = n)
    (hfix : (E.fix.all fun p => Nat.ble n p.1) = true) (ha : evVs st xs = some vs) (hlen : Nat.ble vs.length n = true)
    (h : ∀ a : Act, a.tmps.size = E.N → a.defers = [] → Hits (E.into n a) (vrows 0 vs ++ enterSt E.N st) (c.wp P (bodyPost P fn (Back P a d ops Q l)))) :
    Hits E st (wpList P ops Q (⟨some d, .call ⟨.value (.func f), xs.toArray, ats⟩, ty, pos, af, none⟩ :: l)) :=
  sq_inline0 rfl rfl (fun G a w s => ⟨xs.map a.eval, by
    have ef : a.eval (.func f) = .func (.func f) #[] #[] := rfl
    simp [execOp, resolve, ef, Deferred.ofValue, invoke, run_callFunc hen], s.evVs ha⟩) hf hb hn hfix hlen h
theorem sq_inlineV {ops : Array Oper} {l : List Oper} {f : FuncId} {fn : Func} {c : Code} {v : Operand} {xs : List Operand} {ats : Array TypeId} {vs : List V} {n b : Nat} (hen : enters P f = true) (hf : P.funcs[f]? = some fn) (hb : fn.body = some c) (hn : fn.ntmps = n)
    (hfix : (E.fix.all fun p => Nat.ble n p.1) = true) (hv : ev st v = some (.d (.sc (.func (.func f) #[.pointer (some ⟨b, 0, none⟩)] #[])))) (hfx : E.fix = [(1000000, b)]) (hbox : (look st (.box 1000000)).isSome = true) (ha : evVs st xs = some vs) (hlen : Nat.ble (vs.length + 1) n = true)
    (h : ∀ a : Act, a.tmps.size = E.N → a.defers = [] → Hits (E.into n a) (vrows 0 (.ptr 1000000 0 :: vs) ++ enterSt E.N st) (c.wp P (bodyPost P fn (Back P a d ops Q l)))) :
    Hits E st (wpList P ops Q (⟨some d, .call ⟨.value v, xs.toArray, ats⟩, ty, pos, af, none⟩ :: l)) :=
  sq_inline0 (vs := .ptr 1000000 0 :: vs) rfl rfl (fun G a w s => by
    have e1 := s.sc hv
    have hm : G.μ 1000000 = b := (s.rcv (1000000, b) (by rw [hfx]; simp)).2 (by intro c; rw [c] at hbox; cases hbox)
    refine ⟨.pointer (some ⟨b, 0, none⟩) :: xs.map a.eval, ?_, relVL_cons (by show _ = _; rw [hm]) (s.evVs ha)⟩
    simp [execOp, resolve, e1, Deferred.ofValue, invoke, run_callFunc hen]) hf hb hn hfix hlen h
theorem Sim.back {n : Nat} {a0 : Act} {r : V} {u : Value} (h0 : a0.tmps.size = E.N) (hd0 : a0.defers = []) (hd : d < E.N) (hfix : (E.fix.all fun p => Nat.ble E.N p.1) = true) (s : Sim (E.into n a0) st G a w) (hr : RelV G r u) : Sim E ((.slot d, some r) :: leaveSt E.N st) G (a0.put (some d) u) w := by
  have hi : ∀ k : Loc, k.high = true → look (leaveSt E.N st) k = look st k := fun k hk => look_leave _ _ hk st
  have s1 : Sim E (leaveSt E.N st) G a0 w := by
    refine ⟨s.kw, s.s0, s.snew, h0, hd0, fun t v hv => ?_, fun i o v hv => ?_, fun i h1 => ?_, fun i j h1 h2 => ?_, s.stable, fun i h1 h2 => ?_, fun i j h1 h2 => ?_, fun p hp => ⟨Nat.le_of_ble_eq_true (List.all_eq_true.mp hfix p hp), fun h1 => ?_⟩, fun i qv l h1 hcl h2 => ?_, fun i v hv => ?_, fun k v hv => ?_⟩
    · rw [look_leave_slot] at hv
      split at hv
      · rename_i ht
        have : RelV G v ((a0.tmps ++ E.keep).getD t undef) := s.olds t v hv
        rwa [show (a0.tmps ++ E.keep).getD t undef = a0.tmps.getD t undef from by rw [Array.getD_eq_getD_getElem?, Array.getD_eq_getD_getElem?, Array.getElem?_append_left (by rw [h0]; exact ht)]] at this
      · cases hv
    · rw [hi _ rfl] at hv; rw [hi _ rfl]; exact s.cells i o v hv
    · rw [hi _ rfl] at h1; exact s.boxes i h1
    · rw [hi _ rfl] at h1 h2; exact s.inj i j h1 h2
    · rw [hi _ rfl] at h1
      obtain ⟨q1, q2, q3, q4⟩ := s.tips i h1 h2
      exact ⟨q1, q2, q3, fun j hj => q4 j (by rw [hi _ rfl] at hj; exact hj)⟩
    · rw [hi _ rfl] at h1 h2; exact s.tinj i j h1 h2
    · rw [hi _ rfl] at h1; exact (s.rcv p hp).2 h1
    · rw [hi _ rfl] at h1; exact s.conts i qv l h1 hcl h2
    · rw [hi _ rfl] at hv; rw [hi _ rfl]; exact s.iters i v hv
    · rw [look_leave_old] at hv
      have : RelV G v ((a0.tmps ++ E.keep).getD (k + E.N) undef) := s.olds (k + E.N) v hv
      rwa [show (a0.tmps ++ E.keep).getD (k + E.N) undef = E.keep.getD k undef from by rw [Array.getD_eq_getD_getElem?, Array.getD_eq_getD_getElem?, Array.getElem?_append_right (by rw [h0]; omega), h0, Nat.add_sub_cancel]] at this
  exact s1.put hd hr
theorem hits_back {fn : Func} {ops : Array Oper} {l : List Oper} {n : Nat} {a0 : Act} {ds : List D} {r : D} {e : Exit} (he : e = .ret ∨ e = .normal) (h0 : a0.tmps.size = E.N) (hd0 : a0.defers = []) (hr : resDs P st fn.results.toList = some ds) (hp : packD ds = r) (hd : d < E.N) (hfix : (E.fix.all fun p => Nat.ble E.N p.1) = true)
    (h : Hits E ((.slot d, some (.d r)) :: leaveSt E.N st) (wpList P ops Q l)) : Hits (E.into n a0) st (bodyPost P fn (Back P a0 d ops Q l) e) := by
  intro G a w s
  obtain ⟨us, h1, h2⟩ := s.resDs hr
  have key : ∃ u, (results fn a.tmps).run P w = .ok u w ∧ Rel G.S r u := by
    rw [results_eq, Array.mapM_eq_mapM_toList]
    simp only [Sem.run_bind, Sem.run_map, h1, Result.andThen_ok, Sem.run_pure]
    subst hp
    cases h2 with
    | nil => exact ⟨_, rfl, .tup .nil⟩
    | cons h3 h4 =>
      cases h4 with
      | nil => exact ⟨_, rfl, h3⟩
      | cons h5 h6 => exact ⟨_, by simp, .tup (.cons h3 (.cons h5 h6))⟩
  obtain ⟨u, hu, hrel⟩ := key
  have hs := s.back h0 hd0 hd hfix (r := .d r) hrel
  rcases he with rfl | rfl
  · exact ⟨s.defers, u, hu, .inl ⟨u, rfl, h _ _ _ hs⟩⟩
  · exact ⟨s.defers, u, hu, .inl ⟨u, rfl, h _ _ _ hs⟩⟩
end Go.Ab

/- Lists that may be written to, as data for a call that only reads; told as data for good. No program. -/
namespace Go.Ab
open Go Go.RowKit
variable {P : Program} {E : Env} {st : St} {G : Gh} {a : Act} {w : World} {Q : Exit → Act → World → Prop} {d : Nat} {ty : TypeId} {pos : String} {af : Array Edge} {g : Option (Nat × Bool)} {x y : Operand}
inductive Snap0 (L : List Loc) (st : St) : V → D → Prop
  | d (x : D) : Snap0 L st (.d x) x
  | own {id es : Nat} {l : List D} : Snap0 L st (.own id es l) (.list es l)
  | mo {id es n : Nat} {ls : List D} {q : V} (h1 : has L (.tip id) = true) (h2 : look st (.tip id) = some q) (h2' : q.contL = some ((flat ls).map .d)) (h3 : n = ls.length) (h4 : ∀ q ∈ ls, q.cells.length = es) : Snap0 L st (.mo id es n) (.list es ls)
  | any {v : V} (h : v.one = true) : Snap0 L st v .any
  | nil {es : Nat} : Snap0 L st (.d (.sc (.slice none 0 0))) (.list es [])
inductive SnapC (L : List Loc) (st : St) (id : Nat) : Nat → List D → Prop
  | nil {k : Nat} : SnapC L st id k []
  | cons {k : Nat} {v : V} {q : D} {l : List D} (h1 : has L (.cell id k) = true) (h2 : look st (.cell id k) = some v) (h3 : Snap0 L st v q) (h4 : SnapC L st id (k + 1) l) : SnapC L st id k (q :: l)
inductive Snap (L : List Loc) (st : St) : V → D → Prop
  | of {v : V} {q : D} (h : Snap0 L st v q) : Snap L st v q
  | box {id : Nat} {ds : List D} (h : SnapC L st id 0 ds) : Snap L st (.ptr id 0) (.eptr ds)
inductive SnapL (L : List Loc) (st : St) : List V → List D → Prop
  | nil : SnapL L st [] []
  | cons {v : V} {q : D} {vs : List V} {l : List D} (h1 : Snap L st v q) (h2 : SnapL L st vs l) : SnapL L st (v :: vs) (q :: l)
def Stab.all (w : World) : Stab := fun b o => w.cell? ⟨b, o, none⟩
theorem has_mem {L : List Loc} {l : Loc} (h : has L l = true) : l ∈ L := by
  obtain ⟨k, h1, h2⟩ := List.any_eq_true.mp h
  obtain rfl := (Loc.eqb_iff _ _).1 h2
  exact h1
theorem flat_len_of {es : Nat} : ∀ {l : List D}, (∀ q ∈ l, q.cells.length = es) → (flat l).length = l.length * es
  | [], _ => by simp [flat]
  | q :: l, hq => by
    rw [show flat (q :: l) = q.cells ++ flat l from rfl, List.length_append, hq q (by simp), flat_len_of (fun x hx => hq x (by simp [hx])), List.length_cons, Nat.add_mul]; omega
variable {L : List Loc}
theorem Snap0.same {st' : St} (hL : ∀ l ∈ L, look st' l = look st l) {v : V} {q : D} (h : Snap0 L st v q) : Snap0 L st' v q := by
  cases h with
  | d => exact .d _
  | own => exact .own
  | mo h1 h2 h2' h3 h4 => exact .mo h1 ((hL _ (has_mem h1)).trans h2) h2' h3 h4
  | any h => exact .any h
  | nil => exact .nil
theorem SnapC.same {st' : St} (hL : ∀ l ∈ L, look st' l = look st l) {id : Nat} : ∀ {k : Nat} {ds : List D}, SnapC L st id k ds → SnapC L st' id k ds
  | _, [], _ => .nil
  | k, q :: l, .cons h1 h2 h3 h4 => .cons h1 ((hL _ (has_mem h1)).trans h2) (h3.same hL) (h4.same hL)
theorem SnapL.same {st' : St} (hL : ∀ l ∈ L, look st' l = look st l) : ∀ {vs : List V} {ds : List D}, SnapL L st vs ds → SnapL L st' vs ds
  | [], [], _ => .nil
  | v :: vs, q :: ds, .cons h1 h2 => .cons (by cases h1 with | of h => exact .of (h.same hL) | box h => exact .box (h.same hL)) (h2.same hL)
theorem evVs_same {st' : St} : ∀ {xs : List Operand}, (∀ l ∈ evsL xs, look st' l = look st l) → evVs st' xs = evVs st xs
  | [], _ => rfl
  | x :: r, h => by
    unfold evVs
    rw [ev_same (fun l hl => h l (mem_l hl)) (fun l hl => hl), evVs_same (fun l hl => h l (mem_r hl))]
def Gh.tip (G : Gh) (d b n z : Nat) : Gh := { G with tb := upd G.tb d b, tk := upd G.tk d true, te := upd G.te d n, tz := upd G.tz d z }
theorem Sim.fresh_none (s : Sim E st G a w) (o : Nat) : G.S w.heap.size o = none := by
  cases hv : G.S w.heap.size o with
  | none => rfl
  | some v => exact absurd (lt_of_cell (s.stable _ _ _ hv)) (by omega)
mutual
def settleV (id : Nat) (r : D) : V → V
  | .own i es l => .own i es l
  | .mo i es n => bif i == id then .d r else .mo i es n
  | .mptr i n o => .mptr i n o
  | .agg l => .agg (settleVs id r l)
  | .tup l => .tup (settleVs id r l)
  | .cont l => .cont (settleVs id r l)
  | .contD l => .contD l
  | .d x => .d x
  | .ptr i o => .ptr i o
  | .mapp i => .mapp i
  | .fn f l => .fn f l
def settleVs (id : Nat) (r : D) : List V → List V
  | [] => []
  | v :: l => settleV id r v :: settleVs id r l
end
mutual
/-- Each time that the list is told it is told with these numbers. -/
def V.mos (id es n : Nat) : V → Prop
  | .mo i e m => match i == id with
    | true => e = es ∧ m = n
    | false => True
  | .agg l => V.moss id es n l
  | .tup l => V.moss id es n l
  | .cont l => V.moss id es n l
  | .contD _ => True
  | .d _ => True
  | .ptr _ _ => True
  | .mapp _ => True
  | .fn _ _ => True
  | .own _ _ _ => True
  | .mptr _ _ _ => True
def V.moss (id es n : Nat) : List V → Prop
  | [] => True
  | v :: l => V.mos id es n v ∧ V.moss id es n l
end
theorem moss_d (id es n : Nat) : ∀ l : List D, V.moss id es n (l.map .d)
  | [] => by simp only [List.map_nil, V.moss]
  | x :: l => by simp only [List.map_cons, V.moss, V.mos, true_and]; exact moss_d id es n l
theorem settleVs_d (id : Nat) (r : D) : ∀ l : List D, settleVs id r (l.map .d) = l.map .d
  | [] => by simp only [List.map_nil, settleVs]
  | x :: l => by simp only [List.map_cons, settleVs, settleV, settleVs_d id r l]
mutual
theorem RelV.settle {id es n : Nat} {r : D} (hm : ∀ u, RelV G (.mo id es n) u → Rel G.S r u) : ∀ {v : V} {u : Value}, V.mos id es n v → RelV G v u → RelV G (settleV id r v) u
  | .d x, _, _, hr => by simp only [settleV]; exact hr
  | .ptr i off, _, _, hr => by simp only [settleV]; exact hr
  | .mapp i, _, _, hr => by simp only [settleV]; exact hr
  | .fn f ids, _, _, hr => by simp only [settleV]; exact hr
  | .own i es l, _, _, hr => by simp only [settleV]; exact hr
  | .mptr i n off, _, _, hr => by simp only [settleV]; exact hr
  | .mo i e m, u, hv, hr => by
    simp only [settleV]
    simp only [V.mos] at hv
    cases hi : (i == id) with
    | true =>
      rw [hi] at hv
      obtain ⟨rfl, rfl⟩ := hv
      obtain rfl : i = id := by simpa using hi
      simp only [cond_true]
      show Rel G.S r u
      exact hm u hr
    | false => simp only [cond_false]; exact hr
  | .agg l, _, hv, hr => by
    simp only [settleV]
    simp only [V.mos] at hv
    simp only [RelV] at *
    obtain ⟨cs, h1, h2⟩ := hr
    exact ⟨cs, h1, RelVL.settle hm hv h2⟩
  | .tup l, _, hv, hr => by
    simp only [settleV]
    simp only [V.mos] at hv
    simp only [RelV] at *
    obtain ⟨cs, h1, h2⟩ := hr
    exact ⟨cs, h1, RelVL.settle hm hv h2⟩
  | .cont l, _, _, hr => by simp only [RelV] at hr
  | .contD l, _, _, hr => by simp only [RelV] at hr
theorem RelVL.settle {id es n : Nat} {r : D} (hm : ∀ u, RelV G (.mo id es n) u → Rel G.S r u) : ∀ {l : List V} {us : List Value}, V.moss id es n l → RelVL G l us → RelVL G (settleVs id r l) us
  | [], _, _, hr => by simp only [settleVs]; exact hr
  | v :: l, _, hv, hr => by
    simp only [settleVs]
    simp only [V.moss] at hv
    simp only [RelVL] at *
    obtain ⟨u, q, h1, h2, h3⟩ := hr
    exact ⟨u, q, h1, RelV.settle hm hv.1 h2, RelVL.settle hm hv.2 h3⟩
end
theorem settleVs_length (id : Nat) (r : D) : ∀ l : List V, (settleVs id r l).length = l.length
  | [] => by simp only [settleVs]
  | v :: l => by simp only [settleVs, List.length_cons, settleVs_length id r l]
def settle (id : Nat) (r : D) : St → St
  | [] => []
  | e :: t => (e.1, e.2.map (settleV id r)) :: settle id r t
def St.mos (id es n : Nat) : St → Prop
  | [] => True
  | (_, none) :: t => St.mos id es n t
  | (_, some v) :: t => V.mos id es n v ∧ St.mos id es n t
theorem look_settle (id : Nat) (r : D) (st : St) (l : Loc) : look (settle id r st) l = (look st l).map (settleV id r) := by
  induction st with
  | nil => rfl
  | cons e t ih =>
    rw [settle, look_cons, look_cons, ih]
    simp only
    split <;> rfl
theorem mos_look {id es n : Nat} : ∀ {st : St} {l : Loc} {v : V}, St.mos id es n st → look st l = some v → V.mos id es n v
  | [], _, _, _, h => by cases h
  | (k, none) :: t, l, v, hm, h => by
    rw [look_cons] at h
    split at h
    · cases h
    · exact mos_look (st := t) hm h
  | (k, some x) :: t, l, v, hm, h => by
    rw [look_cons] at h
    split at h
    · cases h; exact hm.1
    · exact mos_look hm.2 h
theorem settle_contL {id : Nat} {r : D} {v0 : V} {l : List V} (hc : (settleV id r v0).contL = some l) : ∃ l0, v0.contL = some l0 ∧ l = settleVs id r l0 := by
  cases v0 with
  | cont l0 => simp only [settleV] at hc; cases hc; exact ⟨l0, rfl, rfl⟩
  | contD ds => simp only [settleV] at hc; cases hc; exact ⟨_, rfl, (settleVs_d id r ds).symm⟩
  | mo i es l => simp only [settleV] at hc; cases hb : (i == id) <;> rw [hb] at hc <;> cases hc
  | _ => simp only [settleV] at hc; cases hc
theorem mos_contL {id es n : Nat} {v : V} {l : List V} (h : V.mos id es n v) (hc : v.contL = some l) : V.moss id es n l := by
  cases v with
  | cont l0 => cases hc; simpa only [V.mos] using h
  | contD ds => cases hc; exact moss_d id es n ds
  | _ => cases hc
theorem Sim.settle {id es n : Nat} {r : D} (s : Sim E st G a w) (hm : ∀ u, RelV G (.mo id es n) u → Rel G.S r u) (hst : St.mos id es n st) : Sim E (Ab.settle id r st) G a w := by
  have en : ∀ l, look (Ab.settle id r st) l ≠ none → look st l ≠ none := fun l h c => by rw [look_settle, c] at h; exact h rfl
  have ev : ∀ l v, look (Ab.settle id r st) l = some v → ∃ v0, look st l = some v0 ∧ settleV id r v0 = v := fun l v h => by rw [look_settle] at h; simpa using h
  refine ⟨s.kw, s.s0, s.snew, s.tmps, s.defers, fun t v hl => ?_, fun i o v hl => ?_, fun i hi => s.boxes i (en _ hi), fun i j hi hj => s.inj i j (en _ hi) (en _ hj), s.stable, fun i hi ht => ?_, fun i j hi hj => s.tinj i j (en _ hi) (en _ hj), fun p hp => ⟨(s.rcv p hp).1, fun hi => (s.rcv p hp).2 (en _ hi)⟩, fun i qv l hl hcl ht => ?_, fun i v hl => ?_, fun k v hl => ?_⟩
  · obtain ⟨v0, h1, rfl⟩ := ev _ v hl
    exact (s.slots t v0 h1).settle hm (mos_look hst h1)
  · obtain ⟨v0, h1, rfl⟩ := ev _ v hl
    obtain ⟨q1, cs, ty, cv, q2, q3, q4⟩ := s.cells i o v0 h1
    exact ⟨by rw [look_settle]; simpa using q1, cs, ty, cv, q2, q3, q4.settle hm (mos_look hst h1)⟩
  · obtain ⟨h1, h2, h3, h4⟩ := s.tips i (en _ hi) ht
    exact ⟨h1, h2, h3, fun j hj => h4 j (en _ hj)⟩
  · obtain ⟨v0, h1, h2⟩ := ev _ _ hl
    subst h2
    obtain ⟨l0, hc0, rfl⟩ := settle_contL hcl
    obtain ⟨q1, o, us, cs, ty, q2, q3, q4, q5, q6⟩ := s.conts i v0 l0 h1 hc0 ht
    have hv := mos_contL (mos_look hst h1) hc0
    exact ⟨q1, o, us, cs, ty, q2, by rw [settleVs_length]; exact q3, q4, q5.settle hm hv, q6⟩
  · obtain ⟨v0, h1, h2⟩ := ev _ v hl
    obtain ⟨q1, s', pos, q2, q3⟩ := s.iters i v0 h1
    exact ⟨by rw [look_settle]; simpa using q1, s', pos, by rw [← h2, q2]; simp only [itV, settleV], q3⟩
  · obtain ⟨v0, h1, rfl⟩ := ev _ v hl
    exact (s.olds k v0 h1).settle hm (mos_look hst h1)
end Go.Ab

/- Lists with known data in the room behind them: a list made empty, with room; parts of lists; how many find room. No program. -/
namespace Go.Ab
open Go Go.RowKit
variable {P : Program} {E : Env} {st : St} {G : Gh} {a : Act} {w : World}
variable {d : Nat} {ty : TypeId} {pos : String} {af : Array Edge} {g : Option (Nat × Bool)} {x y z : Operand}
variable {Q : Exit → Act → World → Prop}
end Go.Ab

/- Maps whose keys are texts: made, told other keys each time, looked up; functions that hand one back. No program. -/
namespace Go.Ab
open Go Go.RowKit
variable {P : Program} {E : Env} {st : St} {G : Gh} {a : Act} {w : World} {Q : Exit → Act → World → Prop}
variable {d : Nat} {ty : TypeId} {pos : String} {af : Array Edge} {g : Option (Nat × Bool)} {x y z : Operand}
def findE (k : ByteArray) : List (ByteArray × Value) → Option Value
  | [] => none
  | e :: r => if k == e.1 then some e.2 else findE k r
theorem find_ents (k : ByteArray) : ∀ (es : List (ByteArray × Value)) (b i : Nat), ∃ r, Instr.findNow .string (.string k) (entsOf es b) i = some r ∧ r.map (·.2) = findE k es
  | [], b, i => ⟨none, rfl, rfl⟩
  | e :: es, b, i => by
    obtain ⟨r, h1, h2⟩ := find_ents k es (b + 1) (i + 1)
    cases hk : (k == e.1) with
    | true => exact ⟨some (i, e.2), by simp [entsOf, Instr.findNow, Instr.sameNow, hk], by simp [findE, hk]⟩
    | false => exact ⟨r, by simp [entsOf, Instr.findNow, Instr.sameNow, hk, h1], by simp [findE, hk, h2]⟩
theorem ents_snoc (k : ByteArray) (v : Value) : ∀ (es : List (ByteArray × Value)) (b : Nat), entsOf (es ++ [(k, v)]) b = entsOf es b ++ [{ key := .string k, val := v, born := b + es.length }]
  | [], _ => rfl
  | e :: es, b => by
    rw [List.cons_append, entsOf, entsOf, ents_snoc k v es (b + 1), List.length_cons, show b + 1 + es.length = b + (es.length + 1) from by omega]; rfl
def mpk (P : Program) (t : TypeId) : Option (TypeId × TypeId × Value) :=
  match P.underlying t with
  | some (.map k e) => match P.underlying k, (P.info? e).bind (·.zero) with
    | some .string, some z => some (k, e, z)
    | _, _ => none
  | _ => none
theorem mpk_spec {t k e : TypeId} {z : Value} (h : mpk P t = some (k, e, z)) : P.underlying t = some (.map k e) ∧ P.underlying k = some .string ∧ ∀ w, (zeroValue e).run P w = .ok z w := by
  unfold mpk at h
  split at h
  · rename_i k' e' hu
    split at h
    · rename_i z' h1 h2
      simp only [Option.some.injEq, Prod.mk.injEq] at h
      obtain ⟨rfl, rfl, rfl⟩ := h
      refine ⟨hu, h1, fun w => ?_⟩
      cases hi : P.info? e' with
      | none => simp [hi] at h2
      | some i =>
        simp only [hi, Option.bind_some] at h2
        simp [zeroValue, run_typeInfo w hi, h2]
    · cases h
  · cases h
theorem run_checkKey {k : TypeId} {s : ByteArray} {b : Bool} (h : P.underlying k = some .string) (w : World) : (Instr.checkKey b 10000 k (.string s)).run P w = .ok () w := by
  show (Instr.checkKey b (9999 + 1) k (.string s)).run P w = _
  rw [Instr.checkKey]
  simp only [Sem.run_bind, run_underlying h, Result.andThen_ok, Sem.run_pure]
def aggD : Value → D
  | .agg cs => .agg (cs.toList.map .sc)
  | v => .sc v
theorem relL_scsA {S : Stab} : ∀ l : List Value, RelL S (l.map .sc) l
  | [] => .nil
  | v :: l => .cons (.sc v) (relL_scsA l)
theorem rel_aggD (S : Stab) (v : Value) : Rel S (aggD v) v := by
  cases v with
  | agg cs => exact .agg (relL_scsA cs.toList)
  | _ => exact .sc _
theorem f_makeMap {t : TypeId} (hd : d < E.N) :
    FOk P E ⟨some d, .makeMap t none, ty, pos, af, g⟩ st [] [d] [(.slot d, some (.mapp d)), (.iter d, some (itV (.inr []) 0)), (.box d, some (.ptr d 0))] := by
  intro Q K st' hL hf hK G a w hs
  have hu := hf d (by simp)
  have h1 := hs.allocIter (.inr []) 0 hd hu
  have hr : (execOp a.eval (⟨some d, .makeMap t none, ty, pos, af, g⟩ : Oper)).run P w = .ok (.value (.map (some w.heap.size))) (w.alloc (itO (.inr []) 0)) := by
    simp [execOp, Instr.makeMap, newObj]; rfl
  show Oper.upon P _ a _ Q _
  rw [hr]
  exact hK _ _ _ (h1.put hd (by show _ = _; simp [upd]))
theorem run_mapPut {t k e : TypeId} {r n : Nat} {s : ByteArray} {es : List (ByteArray × Value)} {zr v : Value} (hm : mpk P t = some (k, e, zr)) (hb : w.heap[r]? = some (itO (.inr es) n)) (hn : n = es.length) (hno : findE s es = none) :
    (Instr.mapUpdate t (.map (some r)) (.string s) v).run P w = .ok () (w.putObj r (itO (.inr (es ++ [(s, v)])) (n + 1))) := by
  obtain ⟨h1, h2, _⟩ := mpk_spec hm
  obtain ⟨q, hq1, hq2⟩ := find_ents s es 0 0
  rw [hno] at hq2
  obtain rfl : q = none := by cases q <;> simp at hq2 ⊢
  change w.heap[r]? = some (.map (entsOf es 0).toArray n) at hb
  have hg : (getObj r).run P w = .ok (.map (entsOf es 0).toArray n) w := by simp [getObj, Sem.run, hb]
  have hs : ∀ o, (setObj r o).run P w = .ok () (w.putObj r o) := fun o => by simp [setObj, Sem.run, hb, World.putObj]
  have hf : (Instr.findKey k (.string s) (entsOf es 0)).run P w = .ok none w := by simp [Instr.findKey, run_underlying h2, hq1]
  have hc := run_checkKey (s := s) (b := false) h2 w
  have he : itO (.inr (es ++ [(s, v)])) (n + 1) = .map ((entsOf es 0).toArray.push { key := .string s, val := v, born := n }) (n + 1) := by
    show Obj.map _ _ = _
    rw [ents_snoc, Nat.zero_add, ← hn]
    simp
  rw [he]
  simp [Instr.mapUpdate, run_underlying h1, hg, hc, hf, hs]
theorem sim_mapPut {t k e : TypeId} {id n : Nat} {s : ByteArray} {es : List (ByteArray × Value)} {zr v : Value} {z : Operand} {q : D} (hs : Sim E st G a w) (hm : mpk P t = some (k, e, zr)) (hx : ev st x = some (.mapp id)) (hit : look st (.iter id) = some (itV (.inr es) n)) (hn : n = es.length)
    (hy : ev st y = some (.d (.sc (.string s)))) (hz : ev st z = some (.d q)) (hq : plainV q = some v) (hno : findE s es = none) :
    ∃ w', (Instr.mapUpdate t (a.eval x) (a.eval y) (a.eval z)).run P w = .ok () w' ∧ Sim E ((.iter id, some (itV (.inr (es ++ [(s, v)])) (n + 1))) :: st) G a w' := by
  have e1 : a.eval x = .map (some (G.μ id)) := hs.ev hx
  have e2 := hs.sc hy
  have e3 : a.eval z = v := rel_plain hq (hs.ev hz)
  obtain ⟨_, s0, q0, h1, h2⟩ := hs.iters id _ hit
  obtain ⟨rfl, rfl⟩ := itV_map h1
  rw [e1, e2, e3]
  exact ⟨_, run_mapPut hm h2 hn hno, hs.setIter _ _ hit⟩
theorem f_mapIns {t k e : TypeId} {id n : Nat} {s : ByteArray} {es : List (ByteArray × Value)} {zr v : Value} {z : Operand} {q : D} (hm : mpk P t = some (k, e, zr)) (hx : ev st x = some (.mapp id)) (hit : look st (.iter id) = some (itV (.inr es) n)) (hn : n = es.length)
    (hy : ev st y = some (.d (.sc (.string s)))) (hz : ev st z = some (.d q)) (hq : plainV q = some v) (hno0 : (findE s es).isNone = true) :
    FOk P E ⟨none, .insert t x y z, ty, pos, af, g⟩ st (evL x ++ (evL y ++ (evL z ++ [.iter id]))) [] [(.iter id, some (itV (.inr (es ++ [(s, v)])) (n + 1)))] := by
  have hno : findE s es = none := Option.isNone_iff_eq_none.mp hno0
  intro Q K st' hL _ hK G a w hs
  obtain ⟨w', h1, h2⟩ := sim_mapPut hs hm ((ev_same hL fun l h => mem_l h).trans hx) ((hL (.iter id) (mem_r (mem_r (mem_r (by simp))))).trans hit) hn ((ev_same hL fun l h => mem_r (mem_l h)).trans hy) ((ev_same hL fun l h => mem_r (mem_r (mem_l h))).trans hz) hq hno
  have hr : (execOp a.eval (⟨none, .insert t x y z, ty, pos, af, g⟩ : Oper)).run P w = .ok .skip w' := by simp [execOp, h1]
  show Oper.upon P _ a _ Q _
  rw [hr]
  exact hK _ _ _ h2
theorem f_lookup {t k e : TypeId} {id n : Nat} {s : ByteArray} {es : List (ByteArray × Value)} {zr : Value} {r : D} {ok : Bool} (hm : mpk P t = some (k, e, zr)) (hx : ev st x = some (.mapp id)) (hit : look st (.iter id) = some (itV (.inr es) n))
    (hy : ev st y = some (.d (.sc (.string s)))) (hr : aggD ((findE s es).getD zr) = r) (hok : (findE s es).isSome = ok) (hd : d < E.N) :
    FOk P E ⟨some d, .lookup t x y true, ty, pos, af, g⟩ st (evL x ++ (evL y ++ [.iter id])) [] [(.slot d, some (.d (.tup [r, .sc (.bool ok)])))] :=
  fok_val rfl hd fun st' G a w hL hs => by
    have e1 : a.eval x = .map (some (G.μ id)) := hs.ev ((ev_same hL fun l h => mem_l h).trans hx)
    have e2 := hs.sc ((ev_same hL fun l h => mem_r (mem_l h)).trans hy)
    obtain ⟨_, s0, q0, h1, h2⟩ := hs.iters id _ ((hL (.iter id) (mem_r (mem_r (by simp)))).trans hit)
    obtain ⟨rfl, rfl⟩ := itV_map h1
    change w.heap[G.μ id]? = some (.map (entsOf es 0).toArray n) at h2
    obtain ⟨m1, m2, m3⟩ := mpk_spec hm
    obtain ⟨q, hq1, hq2⟩ := find_ents s es 0 0
    have hg : (getObj (G.μ id)).run P w = .ok (.map (entsOf es 0).toArray n) w := by simp [getObj, Sem.run, h2]
    have hf : (Instr.findKey k (.string s) (entsOf es 0)).run P w = .ok q w := by simp [Instr.findKey, run_underlying m2, hq1]
    have hc : ∀ b, (Instr.checkKey b 10000 k (.string s)).run P w = .ok () w := fun b => run_checkKey m2 w
    subst hr hok
    refine ⟨.tuple ⟨[(findE s es).getD zr, .bool (findE s es).isSome]⟩, ?_, .tup (.cons (rel_aggD _ _) (.cons (.sc _) .nil))⟩
    rw [← hq2]
    cases q with
    | none => simp [execOp, e1, e2, Instr.lookup, run_underlying m1, hg, hc, hf, m3]
    | some p => simp [execOp, e1, e2, Instr.lookup, run_underlying m1, hg, hc, hf]
def PostM (w0 : World) (es : List (ByteArray × Value)) (e : Ending) (w' : World) : Prop :=
  ∃ r, e = .returned (.map (some r)) ∧ w0.heap.size ≤ r ∧ r < w'.heap.size ∧ w'.heap[r]? = some (itO (.inr es) es.length) ∧ Below w0.heap.size w0 w'
def CallsM (P : Program) (Γ : World → Prop) (f : FuncId) (args : List D) (es : List (ByteArray × Value)) : Prop :=
  ∀ (S : Stab) (w : World) (us : List Value), Γ w → (∀ b o v, S b o = some v → w.cell? ⟨b, o, none⟩ = some v) → RelL S args us → Calls P f ⟨us⟩ w (PostM w es)
theorem hits_doneM {fn : Func} {e : Exit} {t0 id : Nat} {es : List (ByteArray × Value)} {n : Nat} (he : e = .ret ∨ e = .normal) (ho : E.outs = []) (hfr : fn.results.toList = [.tmp t0]) (hl : look st (.slot t0) = some (.mapp id)) (hit : look st (.iter id) = some (itV (.inr es) n)) (hn : n = es.length) :
    Hits E st (bodyPost P fn (PostM E.w0 es) e) := by
  intro G a w s
  have hb : Below E.w0.heap.size E.w0 w := by have := s.kw; rw [ho] at this; exact this.toBelow
  have e1 : a.tmps.getD t0 undef = .map (some (G.μ id)) := s.slots t0 _ hl
  obtain ⟨hb0, s0, q0, h1, h2⟩ := s.iters id _ hit
  obtain ⟨rfl, rfl⟩ := itV_map h1
  obtain ⟨b1, b2, _⟩ := s.boxes id hb0
  have hu : (results fn a.tmps).run P w = .ok (.map (some (G.μ id))) w := by
    rw [results_eq, Array.mapM_eq_mapM_toList, hfr]
    have : a.tmps[t0]?.getD undef = .map (some (G.μ id)) := by rw [← Array.getD_eq_getD_getElem?]; exact e1
    simp [resS, this]
  have key : PostM E.w0 es (.returned (.map (some (G.μ id)))) w := ⟨_, rfl, b1.elim (fun q => q) (fun q => by rw [ho] at q; cases q), b2, by rw [← hn]; exact h2, hb⟩
  rcases he with rfl | rfl
  · exact ⟨s.defers, _, hu, key⟩
  · exact ⟨s.defers, _, hu, key⟩
theorem sq_callM {ops : Array Oper} {l : List Oper} {f : FuncId} {xs : List Operand} {ats : Array TypeId} {ds : List D} {es : List (ByteArray × Value)} (hen : enters P f = true) (ha : evs st xs = some ds) (hc : CallsM P E.Γ f ds es) (hfree : st.unused d = true) (hd : d < E.N)
    (h : Hits E ((.slot d, some (.mapp d)) :: (.iter d, some (itV (.inr es) es.length)) :: (.box d, some (.ptr d 0)) :: st) (wpList P ops Q l)) :
    Hits E st (wpList P ops Q (⟨some d, .call ⟨.value (.func f), xs.toArray, ats⟩, ty, pos, af, none⟩ :: l)) := by
  intro G a w s
  unfold wpList
  rw [if_pos (by simp [Region.wanted])]
  refine .inl ?_
  show Oper.upon P _ a _ Q ((execOp a.eval _).run P w)
  have hrun : (execOp a.eval (⟨some d, .call ⟨.value (.func f), xs.toArray, ats⟩, ty, pos, af, none⟩ : Oper)).run P w = .ok (.enter f ⟨xs.map a.eval⟩) w := by
    have ef : a.eval (.func f) = .func (.func f) #[] #[] := rfl
    simp [execOp, resolve, ef, Deferred.ofValue, invoke, run_callFunc hen]
  rw [hrun]
  refine (hc G.S w (xs.map a.eval) (E.stab w s.kw) s.stable (s.evs ha)).mono ?_
  rintro e w' ⟨r, rfl, h1, h2, h3, h4⟩
  exact h _ _ _ ((s.adopt (.inr es) es.length hd hfree h4 h1 h2 h3).put hd (by show _ = _; simp [upd]))
end Go.Ab

