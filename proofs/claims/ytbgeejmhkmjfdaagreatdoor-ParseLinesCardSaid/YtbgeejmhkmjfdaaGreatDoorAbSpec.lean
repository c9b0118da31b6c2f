/- What words are, in plain words. -/
import Derived.Test.YtbgeejmhkmjfdaaGreatDoorAbPar
import Derived.Test.YtbgeejmhkmjfdaaGreatDoorAbLex
import Derived.Lib.ParseIntB
namespace Go.Proofs.YtbgeejmhkmjfdaaGreatDoor.Ln
open Go Go.RowKit Go.Ab Go.Proofs 
set_option linter.unusedVariables false
set_option linter.unusedSimpArgs false
def litOf (s : ByteArray) : Option (Nat × Nat) := if 1 ≤ pW s ∧ pW s ≤ 128 ∧ pV s < 2 ^ (pW s).toNat ∧ textB (pW s).toNat (pV s) = s then some ((pW s).toNat, pV s) else none
theorem lit_yes {s : ByteArray} {w v : Nat} (h : litOf s = some (w, v)) : Yes s ∧ pW s = (w : Int) ∧ (pH s : Int) = ((v / 18446744073709551616 : Nat) : Int) ∧ (pL s : Int) = ((v % 18446744073709551616 : Nat) : Int) := by
  unfold litOf at h
  split at h
  · rename_i hc
    cases h
    obtain ⟨h1, h2, h3, h4⟩ := hc
    have e : pW s = (((pW s).toNat : Nat) : Int) := by omega
    have e1 := pV_hi s
    have e2 := pV_lo s
    unfold hiOf at e1
    unfold loOf at e2
    exact ⟨⟨_, e, by omega, by omega, h3, h4⟩, e, e1.symm, e2.symm⟩
  · cases h
theorem lit_no {s : ByteArray} (h : litOf s = none) : ¬ Yes s := by
  rintro ⟨w, h1, h2, h3, h4, h5⟩
  unfold litOf at h
  rw [h1] at h
  simp only [Int.toNat_natCast] at h
  rw [if_pos ⟨by omega, by omega, h4, h5⟩] at h
  cases h
structure Wd where
  k : Nat
  s : List UInt8
  w : Nat
  hi : Nat
  lo : Nat
  ln : Nat
  deriving DecidableEq
def sgns : List (List UInt8) := [[61, 61], [33, 61], [60, 61], [60, 60], [62, 62], [43, 43], [38, 38], [124, 124], [123], [125], [40], [41], [91], [93], [59], [58], [44], [46], [61], [60], [43], [45], [42], [38], [124], [94], [126]]
def valL (l : List UInt8) : Nat := l.foldl (fun n c => 10 * n + (c.toNat - 48)) 0
def number (l : List UInt8) : Option Wd :=
  if l.all dgt = true then (if valL l ≤ 2147483647 ∧ Lib.decDigits (valL l) = l then some ⟨2, [], 64, 0, valL l, 0⟩ else none)
  else match litOf (B l) with
    | some (w, v) => some ⟨3, [], w, v / 18446744073709551616, v % 18446744073709551616, 0⟩
    | none => none
def puN (l : List UInt8) : Nat := match Lib.parseUintB 64 l with | .ok u => u | .range => 18446744073709551615 | _ => 0
def numW (l : List UInt8) : Wd :=
  if l.all dgt = true then ⟨2, [], 64, 0, puN l, 0⟩
  else match litOf (B l) with
    | some (w, v) => ⟨3, [], w, v / 18446744073709551616, v % 18446744073709551616, 0⟩
    | none => ⟨3, [], 0, 0, 0, 0⟩
def numOk (l : List UInt8) : Bool := if l.all dgt = true then decide (valL l ≤ 2147483647 ∧ Lib.decDigits (valL l) = l) else (litOf (B l)).isSome
theorem val_go : ∀ (l : List UInt8) (acc : Nat), l.all dgt = true → acc ≤ l.foldl (fun n c => 10 * n + (c.toNat - 48)) acc
  | [], acc, _ => Nat.le_refl _
  | c :: l, acc, h => by
    simp only [List.all_cons, Bool.and_eq_true] at h
    exact Nat.le_trans (by omega) (val_go l (10 * acc + (c.toNat - 48)) h.2)
theorem pu_go10 {M : Nat} : ∀ (l : List UInt8) (acc : Nat), l.all dgt = true → (Lib.parseUintM M acc l = .ok (l.foldl (fun n c => 10 * n + (c.toNat - 48)) acc) ∨ Lib.parseUintM M acc l = .range) ∧
    (M = 18446744073709551615 → l.foldl (fun n c => 10 * n + (c.toNat - 48)) acc ≤ 2147483647 → Lib.parseUintM M acc l = .ok (l.foldl (fun n c => 10 * n + (c.toNat - 48)) acc))
  | [], acc, _ => ⟨.inl rfl, fun _ _ => rfl⟩
  | c :: l, acc, h => by
    simp only [List.all_cons, Bool.and_eq_true] at h
    have hd := of_decide_eq_true h.1
    have e : acc * 10 + (c.toNat - 48) = 10 * acc + (c.toNat - 48) := by omega
    unfold Lib.parseUintM
    rw [if_pos hd, List.foldl_cons, e]
    obtain ⟨h1, h2⟩ := pu_go10 (M := M) l (10 * acc + (c.toNat - 48)) h.2
    have hv := val_go l (10 * acc + (c.toNat - 48)) h.2
    constructor
    · split
      · exact .inr rfl
      · split
        · exact .inr rfl
        · exact h1
    · intro hM hle
      rw [if_neg (by omega), if_neg (by omega)]
      exact h2 hM hle
theorem puB {l : List UInt8} (hl : l ≠ []) (h : l.all dgt = true) : (Lib.parseUintB 64 l = .ok (valL l) ∨ Lib.parseUintB 64 l = .range) ∧ (valL l ≤ 2147483647 → Lib.parseUintB 64 l = .ok (valL l)) := by
  obtain ⟨h1, h2⟩ := pu_go10 (M := 2 ^ 64 - 1) l 0 h
  unfold Lib.parseUintB valL
  rw [if_neg hl]
  exact ⟨h1, h2 rfl⟩
theorem number_is {l : List UInt8} (hl : l ≠ []) : number l = if numOk l = true then some (numW l) else none := by
  unfold number numOk numW
  by_cases h : l.all dgt = true
  · simp only [if_pos h, decide_eq_true_eq]
    split
    · rename_i hc
      have := (puB hl h).2 hc.1
      unfold puN; rw [this]
    · rfl
  · simp only [if_neg h]
    cases hm : litOf (B l) with
    | none => rfl
    | some p => rfl
def word : List UInt8 → Option (Wd × List UInt8)
  | [] => none
  | c :: r =>
    if aln c = true then
      if dgt c = true then (match number ((c :: r).takeWhile aln) with | some x => some (x, (c :: r).dropWhile aln) | none => none)
      else if ((c :: r).takeWhile aln).length ≤ 255 then some (⟨1, (c :: r).takeWhile aln, 0, 0, 0, 0⟩, (c :: r).dropWhile aln) else none
    else match sgns.find? (fun t => t.isPrefixOf (c :: r)) with
      | some t => some (⟨4, t, 0, 0, 0, 0⟩, (c :: r).drop t.length)
      | none => none
theorem word_cons (c : UInt8) (r : List UInt8) : word (c :: r) = if aln c = true then
      (if dgt c = true then (match number ((c :: r).takeWhile aln) with | some x => some (x, (c :: r).dropWhile aln) | none => none)
      else if ((c :: r).takeWhile aln).length ≤ 255 then some (⟨1, (c :: r).takeWhile aln, 0, 0, 0, 0⟩, (c :: r).dropWhile aln) else none)
    else match sgns.find? (fun t => t.isPrefixOf (c :: r)) with
      | some t => some (⟨4, t, 0, 0, 0, 0⟩, (c :: r).drop t.length)
      | none => none := by rw [word]
def wordW : List UInt8 → Wd
  | [] => ⟨4, [], 0, 0, 0, 0⟩
  | c :: r => if aln c = true then (if dgt c = true then numW ((c :: r).takeWhile aln) else ⟨1, (c :: r).takeWhile aln, 0, 0, 0, 0⟩)
    else match sgns.find? (fun t => t.isPrefixOf (c :: r)) with
      | some t => ⟨4, t, 0, 0, 0, 0⟩
      | none => ⟨4, [], 0, 0, 0, 0⟩
def wordT : List UInt8 → List UInt8
  | [] => []
  | c :: r => if aln c = true then (c :: r).dropWhile aln
    else match sgns.find? (fun t => t.isPrefixOf (c :: r)) with
      | some t => (c :: r).drop t.length
      | none => c :: r
def wordOk : List UInt8 → Bool
  | [] => false
  | c :: r => if aln c = true then (if dgt c = true then numOk ((c :: r).takeWhile aln) else decide (((c :: r).takeWhile aln).length ≤ 255))
    else (sgns.find? (fun t => t.isPrefixOf (c :: r))).isSome
theorem word_is (t : List UInt8) : word t = if wordOk t = true then some (wordW t, wordT t) else none := by
  cases t with
  | nil => rfl
  | cons c r =>
    rw [word_cons]
    simp only [wordOk, wordW, wordT]
    by_cases ha : aln c = true
    · simp only [if_pos ha]
      by_cases hd : dgt c = true
      · simp only [if_pos hd]
        rw [number_is (by rw [List.takeWhile_cons, if_pos ha]; simp)]
        split
        · rename_i h; split at h
          · rename_i h2; cases h; rw [if_pos h2]
          · cases h
        · rename_i h; split at h
          · cases h
          · rename_i h2; rw [if_neg h2]
      · simp only [if_neg hd, decide_eq_true_eq]
    · simp only [if_neg ha]
      cases sgns.find? (fun t => t.isPrefixOf (c :: r)) <;> rfl
def wordsF : Nat → List UInt8 → Nat → Nat ⊕ List Wd
  | 0, _, _ => .inr []
  | f + 1, s, n => match (skip false s n).1 with
    | [] => .inr []
    | c :: r => match word (c :: r) with
      | none => .inl (skip false s n).2
      | some (x, t) => match wordsF f t (skip false s n).2 with
        | .inl e => .inl e
        | .inr l => .inr ({ x with ln := (skip false s n).2 } :: l)
theorem wordsF_succ (f : Nat) (s : List UInt8) (n : Nat) : wordsF (f + 1) s n = match (skip false s n).1 with
    | [] => .inr []
    | c :: r => match word (c :: r) with
      | none => .inl (skip false s n).2
      | some (x, t) => match wordsF f t (skip false s n).2 with
        | .inl e => .inl e
        | .inr l => .inr ({ x with ln := (skip false s n).2 } :: l) := by rw [wordsF]
def W (s : List UInt8) (n : Nat) : Nat ⊕ List Wd := wordsF (s.length + 1) s n
theorem sgns_pos : ∀ t ∈ sgns, 1 ≤ t.length := by decide
theorem sgns_small : ∀ t ∈ sgns, t.length ≤ 2 := by decide
theorem dropWhile_cons_lt {p : UInt8 → Bool} {c : UInt8} {r : List UInt8} (h : p c = true) : ((c :: r).dropWhile p).length < (c :: r).length := by
  rw [List.dropWhile_cons, if_pos h]
  exact Nat.lt_succ_of_le (List.dropWhile_sublist p).length_le
theorem word_lt {t t' : List UInt8} {x : Wd} (h : word t = some (x, t')) : t'.length < t.length := by
  cases t with
  | nil => cases h
  | cons c r =>
    rw [word_cons] at h
    split at h
    · rename_i ha
      split at h
      · split at h
        · cases h; exact dropWhile_cons_lt ha
        · cases h
      · split at h
        · cases h; exact dropWhile_cons_lt ha
        · cases h
    · split at h
      · rename_i s hs
        cases h
        have := sgns_pos s (List.mem_of_find?_eq_some hs)
        rw [List.length_drop]
        simp only [List.length_cons]
        omega
      · cases h
theorem wordsF_any : ∀ (f g : Nat) (s : List UInt8) (n : Nat), s.length < f → s.length < g → wordsF f s n = wordsF g s n
  | f + 1, g + 1, s, n, hf, hg => by
    rw [wordsF_succ, wordsF_succ]
    have hl := skip_le false s n
    split
    · rfl
    · rename_i c r hs
      rw [hs] at hl
      split
      · rfl
      · rename_i x t hw
        have := word_lt hw
        rw [wordsF_any f g t _ (by omega) (by omega)]
theorem W_nil {s : List UInt8} {n : Nat} (h : (skip false s n).1 = []) : W s n = .inr [] := by
  unfold W; rw [wordsF_succ, h]
theorem W_none {s t : List UInt8} {n m : Nat} (h : skip false s n = (t, m)) (ht : t ≠ []) (hw : word t = none) : W s n = .inl m := by
  unfold W; rw [wordsF_succ, h]
  cases t with
  | nil => exact absurd rfl ht
  | cons c r => simp only [hw]
theorem W_some {s t t' : List UInt8} {n m : Nat} {x : Wd} (h : skip false s n = (t, m)) (hw : word t = some (x, t')) : W s n = match W t' m with | .inl e => .inl e | .inr l => .inr ({ x with ln := m } :: l) := by
  have hl := skip_le false s n
  have h2 := word_lt hw
  rw [h] at hl
  have e : W t' m = wordsF s.length t' m := wordsF_any _ _ _ _ (by omega) (by simp at hl; omega)
  rw [e]
  unfold W
  rw [wordsF_succ]
  rw [h]
  cases t with
  | nil => cases hw
  | cons c r => simp only [hw]
def told (x : Wd) : List UInt8 := if x.k = 2 then Lib.decDigits x.lo else if x.k = 3 then (textB x.w (x.hi * 18446744073709551616 + x.lo)).data.toList else x.s
def Good (x : Wd) : Prop := x.ln = 0 ∧ (x.k = 1 ∧ x.w = 0 ∧ x.hi = 0 ∧ x.lo = 0 ∧ x.s.length ≤ 255 ∨ x.k = 2 ∧ x.s = [] ∧ x.w = 64 ∧ x.hi = 0 ∧ x.lo ≤ 2147483647 ∨ x.k = 3 ∧ x.s = [] ∧ 1 ≤ x.w ∧ x.w ≤ 128 ∧ x.hi * 18446744073709551616 + x.lo < 2 ^ x.w ∧ x.lo < 18446744073709551616 ∨ x.k = 4 ∧ x.w = 0 ∧ x.hi = 0 ∧ x.lo = 0 ∧ x.s.length ≤ 2)
theorem litOf_some {s : ByteArray} {w v : Nat} (h : litOf s = some (w, v)) : 1 ≤ w ∧ w ≤ 128 ∧ v < 2 ^ w ∧ textB w v = s := by
  unfold litOf at h
  split at h
  · rename_i hc
    cases h
    exact ⟨by omega, by omega, hc.2.2.1, hc.2.2.2⟩
  · cases h
theorem number_good {a : List UInt8} {x : Wd} (h : number a = some x) : told x = a ∧ Good x := by
  unfold number at h
  split at h
  · split at h
    · rename_i hc
      cases h
      exact ⟨hc.2, rfl, .inr (.inl ⟨rfl, rfl, rfl, rfl, hc.1⟩)⟩
    · cases h
  · split at h
    · rename_i w v hl
      cases h
      obtain ⟨h1, h2, h3, h4⟩ := litOf_some hl
      have e : v / 18446744073709551616 * 18446744073709551616 + v % 18446744073709551616 = v := by omega
      refine ⟨?_, rfl, .inr (.inr (.inl ⟨rfl, rfl, h1, h2, ?_, Nat.mod_lt _ (by decide)⟩))⟩
      · show (textB w (v / 18446744073709551616 * 18446744073709551616 + v % 18446744073709551616)).data.toList = a
        rw [e, h4, B_toList]
      · show v / 18446744073709551616 * 18446744073709551616 + v % 18446744073709551616 < 2 ^ w
        rw [e]; exact h3
    · cases h
def Ends (l : List UInt8) : Prop := ∀ c r, l = c :: r → aln c = false
def EndsS (l : List UInt8) : Prop := l = [] ∨ (∃ r, l = 32 :: r) ∨ ∃ r, l = 10 :: r
theorem EndsS.ends {l : List UInt8} (h : EndsS l) : Ends l := by
  rintro c r rfl
  rcases h with h | ⟨r', h⟩ | ⟨r', h⟩
  · cases h
  · cases h; decide
  · cases h; decide
theorem takeWhile_app {p : UInt8 → Bool} : ∀ {a rest : List UInt8}, a.all p = true → (∀ c r, rest = c :: r → p c = false) → (a ++ rest).takeWhile p = a ∧ (a ++ rest).dropWhile p = rest
  | [], [], _, _ => ⟨rfl, rfl⟩
  | [], c :: r, _, h => by simp [List.takeWhile, List.dropWhile, h c r rfl]
  | c :: a, rest, ha, h => by
    simp only [List.all_cons, Bool.and_eq_true] at ha
    obtain ⟨h1, h2⟩ := takeWhile_app ha.2 h
    rw [List.cons_append, List.takeWhile_cons, if_pos ha.1, List.dropWhile_cons, if_pos ha.1, h1, h2]
    exact ⟨rfl, rfl⟩
theorem all_takeWhile (p : UInt8 → Bool) : ∀ l : List UInt8, (l.takeWhile p).all p = true
  | [] => rfl
  | c :: l => by
    rw [List.takeWhile_cons]
    split
    · rename_i h; simp [h, all_takeWhile p l]
    · rfl
theorem sgn_heads : ∀ t ∈ sgns, ∃ c r, t = c :: r ∧ aln c = false ∧ blank c = false ∧ c ≠ 47 := by
  intro t ht
  simp only [sgns, List.mem_cons, List.not_mem_nil, or_false] at ht
  rcases ht with rfl | rfl | rfl | rfl | rfl | rfl | rfl | rfl | rfl | rfl | rfl | rfl | rfl | rfl | rfl | rfl | rfl | rfl | rfl | rfl | rfl | rfl | rfl | rfl | rfl | rfl | rfl <;> exact ⟨_, _, rfl, by decide, by decide, by decide⟩
theorem sgn_again : ∀ t ∈ sgns, ∀ rest, EndsS rest → sgns.find? (fun s => s.isPrefixOf (t ++ rest)) = some t := by
  intro t ht rest hr
  simp only [sgns, List.mem_cons, List.not_mem_nil, or_false] at ht
  rcases hr with rfl | ⟨r, rfl⟩ | ⟨r, rfl⟩ <;> rcases ht with rfl | rfl | rfl | rfl | rfl | rfl | rfl | rfl | rfl | rfl | rfl | rfl | rfl | rfl | rfl | rfl | rfl | rfl | rfl | rfl | rfl | rfl | rfl | rfl | rfl | rfl | rfl <;> rfl
theorem aln_blank {c : UInt8} (h : aln c = true) : blank c = false ∧ c ≠ 47 := by
  constructor
  · cases hb : blank c with
    | false => rfl
    | true =>
      unfold blank at hb
      have := of_decide_eq_true hb
      unfold aln dgt ltr at h
      simp only [Bool.or_eq_true, decide_eq_true_eq] at h
      rcases this with e | e | e <;> rw [e] at h <;> revert h <;> decide
  · rintro rfl; revert h; decide
theorem word_told {t t' : List UInt8} {x : Wd} (h : word t = some (x, t')) : told x ++ t' = t ∧ Good x ∧ (∃ c r, told x = c :: r ∧ blank c = false ∧ c ≠ 47) ∧
    (∀ rest, EndsS rest → word (told x ++ rest) = some (x, rest)) ∧ (x.k ≠ 4 → (told x).all aln = true ∧ ∀ rest, Ends rest → word (told x ++ rest) = some (x, rest)) := by
  cases t with
  | nil => cases h
  | cons c r =>
    by_cases ha : aln c = true
    · have hcons : ∃ q, (c :: r).takeWhile aln = c :: q := by rw [List.takeWhile_cons, if_pos ha]; exact ⟨_, rfl⟩
      obtain ⟨q, hq⟩ := hcons
      have key : ∀ rest, Ends rest → ((c :: r).takeWhile aln ++ rest).takeWhile aln = (c :: r).takeWhile aln ∧ ((c :: r).takeWhile aln ++ rest).dropWhile aln = rest := fun rest hr => takeWhile_app (all_takeWhile aln _) hr
      rw [word_cons] at h
      rw [if_pos ha] at h
      by_cases hd : dgt c = true
      · rw [if_pos hd] at h
        cases hn : number ((c :: r).takeWhile aln) with
        | none => rw [hn] at h; cases h
        | some y =>
          rw [hn] at h
          cases h
          obtain ⟨h1, h2⟩ := number_good hn
          have again : ∀ rest, Ends rest → word (told x ++ rest) = some (x, rest) := fun rest hr => by
            obtain ⟨k1, k2⟩ := key rest hr
            rw [h1]
            rw [hq] at k1 k2 ⊢
            rw [List.cons_append] at k1 k2 ⊢
            rw [word_cons]
            rw [if_pos ha, if_pos hd, k1, k2, ← hq, hn]
          refine ⟨by rw [h1]; exact List.takeWhile_append_dropWhile, h2, ⟨c, q, by rw [h1, hq], aln_blank ha⟩, fun rest hr => again rest hr.ends, fun _ => ⟨by rw [h1]; exact all_takeWhile aln _, again⟩⟩
      · rw [if_neg hd] at h
        split at h
        · rename_i hlen
          cases h
          have h1 : told ⟨1, (c :: r).takeWhile aln, 0, 0, 0, 0⟩ = (c :: r).takeWhile aln := rfl
          have again : ∀ rest, Ends rest → word (told ⟨1, (c :: r).takeWhile aln, 0, 0, 0, 0⟩ ++ rest) = some (⟨1, (c :: r).takeWhile aln, 0, 0, 0, 0⟩, rest) := fun rest hr => by
            obtain ⟨k1, k2⟩ := key rest hr
            rw [h1]
            rw [hq] at k1 k2 hlen ⊢
            rw [List.cons_append] at k1 k2 ⊢
            rw [word_cons]
            rw [if_pos ha, if_neg hd, k1, k2, if_pos hlen]
          refine ⟨by rw [h1]; exact List.takeWhile_append_dropWhile, ⟨rfl, .inl ⟨rfl, rfl, rfl, rfl, hlen⟩⟩, ⟨c, q, by rw [h1, hq], aln_blank ha⟩, fun rest hr => again rest hr.ends, fun _ => ⟨by rw [h1]; exact all_takeWhile aln _, again⟩⟩
        · cases h
    · rw [word_cons] at h
      rw [if_neg ha] at h
      split at h
      · rename_i s hs
        cases h
        have hm := List.mem_of_find?_eq_some hs
        have hp := List.find?_some hs
        have h1 : told ⟨4, s, 0, 0, 0, 0⟩ = s := rfl
        obtain ⟨c', r', e, h2, h3, h4⟩ := sgn_heads s hm
        refine ⟨?_, ⟨rfl, .inr (.inr (.inr ⟨rfl, rfl, rfl, rfl, sgns_small s hm⟩))⟩, ⟨c', r', by rw [h1, e], h3, h4⟩, fun rest hr => ?_, fun h => absurd rfl h⟩
        · rw [h1]
          obtain ⟨z, hz⟩ := List.isPrefixOf_iff_prefix.mp hp
          rw [← hz, List.drop_left]
        · rw [h1]
          have hf := sgn_again s hm rest hr
          subst e
          rw [List.cons_append] at hf ⊢
          rw [word_cons]
          rw [if_neg (by rw [h2]; decide), hf]
          simp only
          rw [← List.cons_append, List.drop_left]
      · cases h
theorem W_eq (s : List UInt8) (n : Nat) : W s n = match (skip false s n).1 with
    | [] => .inr []
    | c :: r => match word (c :: r) with
      | none => .inl (skip false s n).2
      | some (x, t) => match W t (skip false s n).2 with
        | .inl e => .inl e
        | .inr l => .inr ({ x with ln := (skip false s n).2 } :: l) := by
  split
  · rename_i h; exact W_nil h
  · rename_i c r h
    have h' : skip false s n = (c :: r, (skip false s n).2) := by rw [← h]
    split
    · rename_i hw; exact W_none h' (by simp) hw
    · rename_i x t hw; exact W_some h' hw
theorem W_skip {s s' : List UInt8} {n n' : Nat} (h : skip false s n = skip false s' n') : W s n = W s' n' := by rw [W_eq s, W_eq s', h]
theorem W_blank (r : List UInt8) (n : Nat) : W (32 :: r) n = W r n := W_skip (by rw [skip, if_neg (by decide), if_pos (by decide)])
theorem W_word {a rest : List UInt8} {x : Wd} (n : Nat) (hs : ∃ c r, a = c :: r ∧ blank c = false ∧ c ≠ 47) (hw : word (a ++ rest) = some (x, rest)) :
    W (a ++ rest) n = match W rest n with | .inl e => .inl e | .inr l => .inr ({ x with ln := n } :: l) := by
  obtain ⟨c, r, rfl, h1, h2⟩ := hs
  exact W_some (skip_stop n ⟨h1, fun h => h2 h.1⟩) hw
inductive Row : List Wd → Prop
  | nil : Row []
  | cons {x : Wd} {t t' : List UInt8} {k : Nat} {l : List Wd} : word t = some (x, t') → Row l → Row ({ x with ln := k } :: l)
theorem W_row : ∀ (f : Nat) (s : List UInt8) (n : Nat) (l : List Wd), s.length < f → W s n = .inr l → Row l
  | f + 1, s, n, l, hf, h => by
    have hl := skip_le false s n
    rw [W_eq] at h
    split at h
    · cases h; exact .nil
    · rename_i c r hs
      rw [hs] at hl
      split at h
      · cases h
      · rename_i x t hw
        have hlt := word_lt hw
        split at h
        · cases h
        · rename_i l' hl'
          cases h
          exact .cons hw (W_row f t _ l' (by omega) hl')
theorem told_ln (x : Wd) (k : Nat) : told { x with ln := k } = told x := rfl
theorem row_good {l : List Wd} (h : Row l) : ∀ x ∈ l, Good { x with ln := 0 } ∧ told x ≠ [] := by
  induction h with
  | nil => simp
  | cons hw hr ih =>
    intro y hy
    rcases List.mem_cons.mp hy with rfl | hy
    · obtain ⟨_, h2, ⟨c, r, h3, _⟩, _⟩ := word_told hw
      refine ⟨?_, by rw [told_ln, h3]; simp⟩
      have e := h2.1
      exact ⟨rfl, h2.2⟩
    · exact ih y hy
theorem W_lines : ∀ (f : Nat) (s : List UInt8) (n : Nat) (l : List Wd), s.length < f → W s n = .inr l → l.length ≤ s.length ∧ (∀ x ∈ l, n ≤ x.ln ∧ x.ln ≤ n + s.count 10) ∧ ∀ (i : Nat) x y, l[i]? = some x → l[i + 1]? = some y → x.ln ≤ y.ln
  | f + 1, s, n, l, hf, h => by
    have hl := skip_le false s n
    have hcnt := skip_count false s n
    have hmono := skip_mono false s n
    rw [W_eq] at h
    split at h
    · cases h; simp
    · rename_i c r hs
      rw [hs] at hl hcnt
      split at h
      · cases h
      · rename_i x t hw
        have hlt := word_lt hw
        obtain ⟨ht, _, _⟩ := word_told hw
        have hct : t.count 10 ≤ (c :: r).count 10 := by rw [← ht, List.count_append]; omega
        split at h
        · cases h
        · rename_i l' hl'
          cases h
          obtain ⟨h1, h2, h3⟩ := W_lines f t _ l' (by omega) hl'
          refine ⟨by simp only [List.length_cons] at *; omega, ?_, ?_⟩
          · intro y hy
            rcases List.mem_cons.mp hy with rfl | hy
            · simp only; omega
            · have := h2 y hy; omega
          · intro i y z hy hz
            cases i with
            | zero =>
              simp at hy hz
              subst hy
              have := (h2 z (List.mem_of_getElem? hz)).1
              exact this
            | succ i => exact h3 i y z (by simpa using hy) (by simpa using hz)
end Go.Proofs.YtbgeejmhkmjfdaaGreatDoor.Ln
