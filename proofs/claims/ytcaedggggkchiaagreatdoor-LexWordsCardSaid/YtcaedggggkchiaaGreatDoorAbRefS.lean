/- The reference's Words over data. -/
import Derived.Test.YtcaedggggkchiaaGreatDoorAbRefW
import Derived.Test.YtcaedggggkchiaaGreatDoorAbWords
namespace Go.Proofs.YtcaedggggkchiaaGreatDoor.Ln
open Go Go.RowKit Go.Ab Go.Proofs 
set_option linter.unusedVariables false
set_option linter.unusedSimpArgs false
theorem en204 : enters Tryz.prog 204 = true := by kernel_rfl
theorem en206 : enters Tryz.prog 206 = true := by kernel_rfl
theorem en208 : enters Tryz.prog 208 = true := by kernel_rfl
theorem en126 : enters Tryz.prog 126 = true := by kernel_rfl

theorem f_sliceI {P : Program} {E : Env} {st : St} {d : Nat} {x : Operand} {ty : TypeId} {pos : String} {af : Array Edge} {g : Option (Nat × Bool)} {t : TypeId} {s r : ByteArray} {lo hi : Option Operand} {i j : Int} (hx : ev st x = some (.d (.sc (.string s)))) (hlo : bnd st 0 lo = some i) (hhi : bnd st s.size hi = some j) (ht : P.underlying t = some .string)
    (h0 : 0 ≤ i) (h1 : i ≤ j) (h2 : j ≤ (s.size : Int)) (hr : s.extract i.toNat j.toNat = r) (hd : d < E.N) :
    FOk P E ⟨some d, .slice t x lo hi none, ty, pos, af, g⟩ st (evL x ++ (bndL lo ++ bndL hi)) [] [(.slot d, some (.d (.sc (.string r))))] := by subst hr; exact f_sliceStr hx hlo hhi ht h0 h1 h2 hd
/-! ### Signs at a place -/
def sg2 : List (List UInt8) := [[61, 61], [33, 61], [60, 61], [60, 60], [62, 62], [43, 43], [38, 38], [124, 124]]
def sg1 : List UInt8 := [123, 125, 40, 41, 91, 93, 59, 58, 44, 46, 61, 60, 43, 45, 42, 38, 124, 94, 126]
theorem sgns_parts : sgns = sg2 ++ sg1.map fun c => [c] := rfl
/-- The sign that a text begins with; nothing: it begins with none. -/
def sgL (t : List UInt8) : List UInt8 := (sgns.find? fun s => s.isPrefixOf t).getD []
theorem sg2_no {c d : UInt8} (r : List UInt8) (h : [c, d] ∉ sg2) : sg2.find? (fun s => s.isPrefixOf (c :: d :: r)) = none := by
  rw [List.find?_eq_none]
  intro s hs hp
  have hl : s.length = 2 := (by decide : ∀ s ∈ sg2, s.length = 2) s hs
  match s, hl with
  | [a, b], _ =>
    simp only [List.isPrefixOf, Bool.and_true, Bool.and_eq_true, beq_iff_eq] at hp
    obtain ⟨rfl, rfl⟩ := hp
    exact h hs
theorem sg2_one (c : UInt8) : sg2.find? (fun s => s.isPrefixOf [c]) = none := by
  rw [List.find?_eq_none]
  intro s hs hp
  have hl : s.length = 2 := (by decide : ∀ s ∈ sg2, s.length = 2) s hs
  match s, hl with
  | [a, b], _ => simp [List.isPrefixOf] at hp
theorem sg1_find (c : UInt8) (r : List UInt8) : (sg1.map fun c => [c]).find? (fun s => s.isPrefixOf (c :: r)) = if c ∈ sg1 then some [c] else none := by
  rw [List.find?_map]
  have e : ((fun s => s.isPrefixOf (c :: r)) ∘ fun c => [c] : UInt8 → Bool) = fun d => d == c := by funext d; simp [List.isPrefixOf]
  rw [e]
  split
  · rename_i h
    cases hf : sg1.find? (fun d => d == c) with
    | none => exact absurd (beq_self_eq_true c) (List.find?_eq_none.mp hf c h)
    | some d => have := List.find?_some hf; simp only [beq_iff_eq] at this; rw [this]; rfl
  · rename_i h
    rw [List.find?_eq_none.mpr]; rfl
    intro d hd hc; simp only [beq_iff_eq] at hc; subst hc; exact h hd
theorem sg_two {s : List UInt8} {i : Nat} {c d : UInt8} (h : s[i]? = some c) (h' : s[i + 1]? = some d) (hm : [c, d] ∈ sg2) : sgL (s.drop i) = [c, d] := by
  rw [drop_at h, drop_at h']
  simp only [sg2, List.mem_cons, List.cons.injEq, and_true, List.not_mem_nil, or_false] at hm
  rcases hm with ⟨rfl, rfl⟩ | ⟨rfl, rfl⟩ | ⟨rfl, rfl⟩ | ⟨rfl, rfl⟩ | ⟨rfl, rfl⟩ | ⟨rfl, rfl⟩ | ⟨rfl, rfl⟩ | ⟨rfl, rfl⟩ <;> rfl
theorem sg_rest {s : List UInt8} {i : Nat} {c : UInt8} (h : s[i]? = some c) (h2 : ∀ d, s[i + 1]? = some d → [c, d] ∉ sg2) : sgL (s.drop i) = if c ∈ sg1 then [c] else [] := by
  have e : sg2.find? (fun t => t.isPrefixOf (s.drop i)) = none := by
    rw [drop_at h]
    cases hd : s[i + 1]? with
    | none => rw [List.drop_eq_nil_of_le (List.getElem?_eq_none_iff.mp hd)]; exact sg2_one c
    | some d => rw [drop_at hd]; exact sg2_no _ (h2 d hd)
  have e1 := sg1_find c (s.drop (i + 1))
  rw [← drop_at h] at e1
  unfold sgL
  rw [sgns_parts, List.find?_append, e, Option.none_or, e1]
  split <;> rfl
theorem sg_one {s : List UInt8} {i : Nat} {c : UInt8} (h : s[i]? = some c) (h2 : ∀ d, s[i + 1]? = some d → [c, d] ∉ sg2) (hm : c ∈ sg1) : sgL (s.drop i) = [c] := by rw [sg_rest h h2, if_pos hm]
theorem sg_none {s : List UInt8} {i : Nat} {c : UInt8} (h : s[i]? = some c) (h2 : ∀ d, s[i + 1]? = some d → [c, d] ∉ sg2) (hm : c ∉ sg1) : sgL (s.drop i) = [] := by rw [sg_rest h h2, if_neg hm]
theorem sg_end {s : List UInt8} {i : Nat} (c : UInt8) (h : ¬ i + 1 < s.length) : ∀ d, s[i + 1]? = some d → [c, d] ∉ sg2 := fun d hd => absurd (List.getElem?_eq_some_iff.mp hd).1 h
theorem sg_not {s : List UInt8} {i : Nat} {c d : UInt8} (h : s[i + 1]? = some d) (hn : [c, d] ∉ sg2) : ∀ e, s[i + 1]? = some e → [c, e] ∉ sg2 := fun e he => by rw [h] at he; cases he; exact hn
theorem ext_two {s : List UInt8} {i : Nat} {c d : UInt8} (h : s[i]? = some c) (h' : s[i + 1]? = some d) : (B s).extract ((i : Nat) : Int).toNat (((i + 2 : Nat) : Int)).toNat = B [c, d] := by
  rw [B_ext, Int.toNat_natCast, Int.toNat_natCast, drop_at h, drop_at h', show i + 2 - i = 2 from by omega]; rfl
theorem ext_one {s : List UInt8} {i : Nat} {c : UInt8} (h : s[i]? = some c) : (B s).extract ((i : Nat) : Int).toNat (((i + 1 : Nat) : Int)).toNat = B [c] := by
  rw [B_ext, Int.toNat_natCast, Int.toNat_natCast, drop_at h, show i + 1 - i = 1 from by omega]; rfl
theorem byte_neq {c : UInt8} {n : Nat} (hn : n < 256) (h : ¬ c = UInt8.ofNat n) : ¬ ((c.toNat : Int) = (n : Int)) := fun e => h (by rw [← Int.ofNat.inj e, UInt8.ofNat_toNat])
/-! ### Words at a place -/
theorem ext_rr {s : List UInt8} {i : Nat} (hi : i ≤ s.length) : (B s).extract ((i : Nat) : Int).toNat ((runL s i : Nat) : Int).toNat = B ((s.drop i).takeWhile aln) := by
  rw [B_ext, Int.toNat_natCast, Int.toNat_natCast, show runL s i - i = ((s.drop i).takeWhile aln).length from by unfold runL; omega]
  congr 1
  have h := List.takeWhile_prefix (l := s.drop i) aln
  exact (List.prefix_iff_eq_take.mp h).symm
theorem run_le {s : List UInt8} {i : Nat} (hi : i ≤ s.length) : i ≤ runL s i ∧ runL s i ≤ s.length := by
  have h := (List.takeWhile_sublist (p := aln) (l := s.drop i)).length_le
  rw [List.length_drop] at h
  unfold runL
  omega
theorem drop_tw (p : UInt8 → Bool) : ∀ t : List UInt8, t.drop (t.takeWhile p).length = t.dropWhile p
  | [] => rfl
  | c :: r => by
    rw [List.takeWhile_cons, List.dropWhile_cons]
    split
    · rw [List.length_cons, List.drop_succ_cons, drop_tw p r]
    · rfl
theorem run_drop (s : List UInt8) (i : Nat) : (s.drop i).dropWhile aln = s.drop (runL s i) := by
  unfold runL; rw [← List.drop_drop, drop_tw]
theorem wn_num {s : List UInt8} {i : Nat} {c : UInt8} (hat : s[i]? = some c) (hd : dgt c = true) : word (s.drop i) = if numOk ((s.drop i).takeWhile aln) = true then some (numW ((s.drop i).takeWhile aln), s.drop (runL s i)) else none := by
  have ha : aln c = true := by rw [aln, hd]; rfl
  obtain ⟨h1, h2⟩ := word_num (r := s.drop (i + 1)) ha hd
  rw [word_is, ← run_drop, drop_at hat, h1, h2, word_nameT ha]
theorem wn_name {s : List UInt8} {i : Nat} {c : UInt8} (hat : s[i]? = some c) (hd : dgt c = false) (hl : ltr c = true) : word (s.drop i) = if ((s.drop i).takeWhile aln).length ≤ 255 then some (⟨1, (s.drop i).takeWhile aln, 0, 0, 0, 0⟩, s.drop (runL s i)) else none := by
  have ha : aln c = true := by rw [aln, hd, hl]; rfl
  obtain ⟨h1, h2⟩ := word_name (r := s.drop (i + 1)) ha hd
  rw [word_is, ← run_drop, drop_at hat, h1, h2, word_nameT ha]
  by_cases h : ((c :: s.drop (i + 1)).takeWhile aln).length ≤ 255
  · rw [decide_eq_true h, if_pos rfl, if_pos h]
  · rw [decide_eq_false h, if_neg (by simp), if_neg h]
theorem wn_sign {s : List UInt8} {i : Nat} {c : UInt8} (hat : s[i]? = some c) (ha : ¬ aln c = true) : word (s.drop i) = if sgL (s.drop i) = [] then none else some (⟨4, sgL (s.drop i), 0, 0, 0, 0⟩, s.drop (i + (sgL (s.drop i)).length)) := by
  rw [← List.drop_drop, drop_at hat, word_cons, if_neg ha]
  unfold sgL
  cases hf : sgns.find? fun t => t.isPrefixOf (c :: s.drop (i + 1)) with
  | none => rfl
  | some t =>
    have : t ≠ [] := (by decide : ∀ t ∈ sgns, t ≠ []) t (List.mem_of_find?_eq_some hf)
    simp only [Option.getD_some, if_neg this]
theorem sgL_len (t : List UInt8) : (sgL t).length ≤ 2 ∧ (sgL t).length ≤ t.length := by
  unfold sgL
  cases hf : sgns.find? fun s => s.isPrefixOf t with
  | none => exact ⟨Nat.zero_le _, Nat.zero_le _⟩
  | some p =>
    have h1 : p.length ≤ 2 := (by decide : ∀ t ∈ sgns, t.length ≤ 2) p (List.mem_of_find?_eq_some hf)
    have h0 := List.find?_some hf
    have h2 := List.isPrefixOf_iff_prefix.mp (show p.isPrefixOf t = true from h0)
    exact ⟨h1, h2.length_le⟩
/-! ### From word to word -/
theorem rw_line {s : List UInt8} {i : Nat} (m : Nat) (hat : s[i]? = some 10) : W (s.drop i) m = W (s.drop (i + 1)) (m + 1) := by
  rw [drop_at hat]; exact W_skip (by rw [skip_f, if_pos rfl])
theorem rw_blank {s : List UInt8} {i : Nat} {c : UInt8} (m : Nat) (hat : s[i]? = some c) (h10 : c ≠ 10) (hb : blank c = true) : W (s.drop i) m = W (s.drop (i + 1)) m := by
  rw [drop_at hat]; exact W_skip (by rw [skip_f, if_neg h10, if_pos hb])
theorem rw_com {s : List UInt8} {i : Nat} (m : Nat) (h1 : s[i]? = some 47) (h2 : s[i + 1]? = some 47) : W (s.drop i) m = W ((s.drop i).dropWhile noline) m := by
  rw [drop_at h1, drop_at h2]; exact W_skip (skip_com _ _)
theorem dw_more {s t : List UInt8} {j : Nat} {c : UInt8} (hat : s[j]? = some c) (hc : c ≠ 10) (hJ : (s.drop j).dropWhile noline = t) : (s.drop (j + 1)).dropWhile noline = t := by
  rw [drop_at hat, List.dropWhile_cons, if_pos ((noline_iff c).mpr hc)] at hJ; exact hJ
theorem dw_end {s : List UInt8} {j : Nat} (h : s.length ≤ j ∨ s[j]? = some 10) : (s.drop j).dropWhile noline = s.drop j := by
  rcases h with h | h
  · rw [List.drop_eq_nil_of_le h]; rfl
  · rw [drop_at h]; rfl
theorem stops_at {s : List UInt8} {i : Nat} {c : UInt8} (hat : s[i]? = some c) (hb : blank c = false) (hc : ¬ (c = 47 ∧ s[i + 1]? = some 47)) : Stops (s.drop i) := by
  rw [drop_at hat]; exact ⟨hb, by rwa [List.head?_drop]⟩
theorem rstep {s t t' : List UInt8} {l : List Wd} {m : Nat} {x : Wd} (hst : Stops t) (hw : word t = some (x, t')) (hJ : W s 0 = words_app l (W t m)) : W s 0 = words_app (l ++ [{ x with ln := m }]) (W t' m) := by
  rw [hJ, W_some (skip_stop m hst) hw]; cases W t' m <;> simp [words_app]
theorem rfail {s : List UInt8} {i : Nat} {c : UInt8} {l : List Wd} {m : Nat} (hat : s[i]? = some c) (hst : Stops (s.drop i)) (hw : word (s.drop i) = none) (hJ : W s 0 = words_app l (W (s.drop i) m)) : W s 0 = .inl m := by
  rw [hJ, W_none (skip_stop m hst) (by rw [drop_at hat]; simp) hw]; rfl
theorem rlast {s : List UInt8} {i : Nat} {l : List Wd} {m : Nat} (h : s.length ≤ i) (hJ : W s 0 = words_app l (W (s.drop i) m)) : W s 0 = .inr l := by
  rw [hJ, List.drop_eq_nil_of_le h, W_nil rfl]; simp [words_app]
theorem blank_is (c : UInt8) : blank c = true ↔ c = 10 ∨ c = 32 ∨ c = 9 := by
  unfold blank
  rw [decide_eq_true_iff]
  constructor
  · rintro (h | h | h)
    · exact .inr (.inl (UInt8.toNat_inj.mp h))
    · exact .inr (.inr (UInt8.toNat_inj.mp h))
    · exact .inl (UInt8.toNat_inj.mp h)
  · rintro (rfl | rfl | rfl) <;> decide
theorem two_eq {c d a b : UInt8} (h : [c, d] = [a, b]) : ((B [c, d]).toList == (⟨#[a, b]⟩ : ByteArray).toList) = true := by
  rw [show (⟨#[a, b]⟩ : ByteArray) = B [a, b] from rfl, B_beq, decide_eq_true h]
theorem two_ne {c d a b : UInt8} (h : ¬ [c, d] = [a, b]) : ((B [c, d]).toList == (⟨#[a, b]⟩ : ByteArray).toList) = false := by
  rw [show (⟨#[a, b]⟩ : ByteArray) = B [a, b] from rfl, B_beq, decide_eq_false h]
theorem none_ne (l : List UInt8) : ((B l).toList != (⟨#[]⟩ : ByteArray).toList) = !decide (l = []) := by
  rw [show (⟨#[]⟩ : ByteArray) = B [] from rfl, bne, B_beq]
theorem run_sub {s : List UInt8} {i : Nat} (h : runL s i ≤ 65536) : ((runL s i : Nat) : Int) - ((i : Nat) : Int) = (((s.drop i).takeWhile aln).length : Int) := by unfold runL; omega

set_option maxHeartbeats 4000000 in
set_option maxRecDepth 100000 in
theorem rsign_c (s : List UInt8) {i : Nat} {c : UInt8} (hs : s.length ≤ 65536) (hat0 : s[i]? = some c) : CallsP Tryz.prog Lw 208 [.sc (.string (B s)), .sc (.int .i64 ((i : Nat) : Int))] (.sc (.string (B (sgL (s.drop i))))) := by
  have hat : (B s).data.toList[i]? = some c := hat0
  have hi := (List.getElem?_eq_some_iff.mp hat0).1
  refine callsP_of gs_lw Tryz.func208 rfl Tryz.ntmps208 rfl fun w0 S0 stab => ?_
  refine hits_seq ?_
  refine hits_region ?_
  refine sq (f_assign rfl (lt rfl)) rfl rfl ?_
  refine hits_nil ?_
  refine to_next ?_
  refine hits_seq ?_
  refine hits_seq ?_
  by_cases hi1 : i + 1 < s.length
  · obtain ⟨d, hat1⟩ : ∃ d, s[i + 1]? = some d := ⟨_, List.getElem?_eq_getElem hi1⟩
    refine hits_region ?_
    refine sq (f_move rfl (lt rfl)) rfl rfl ?_
    refine sq (f_bin rfl rfl (iT (((IntWalk.i64_in _ (by omega)).trans (by omega) : _ = ((i + 1 : Nat) : Int)))) (lt rfl)) rfl rfl ?_
    refine sq (f_move rfl (lt rfl)) rfl rfl ?_
    refine sq (f_lenStr rfl un9 (lt rfl)) rfl rfl ?_
    refine sq (f_bin rfl rfl (bT (decide_eq_true (by rw [B_size]; omega))) (lt rfl)) rfl rfl ?_
    refine hits_nil ?_
    refine to_next ?_
    refine hits_cond rfl (fun c0 => ?_) (fun c0 => absurd c0 Bool.false_ne_true.symm)
    refine hits_seq ?_
    refine hits_region ?_
    refine sq (f_move rfl (lt rfl)) rfl rfl ?_
    refine sq (f_move rfl (lt rfl)) rfl rfl ?_
    refine sq (f_move rfl (lt rfl)) rfl rfl ?_
    refine sq (f_bin rfl rfl (iT (((IntWalk.i64_in _ (by omega)).trans (by omega) : _ = ((i + 2 : Nat) : Int)))) (lt rfl)) rfl rfl ?_
    refine sq (f_sliceI rfl rfl rfl un9 (by omega) (by omega) (by rw [B_size]; omega) (ext_two hat0 hat1) (lt rfl)) rfl rfl ?_
    refine sq (f_assign rfl (lt rfl)) rfl rfl ?_
    refine hits_nil ?_
    refine to_next ?_
    refine hits_seq ?_
    refine hits_region ?_
    refine sq (f_move rfl (lt rfl)) rfl rfl ?_
    refine hits_nil ?_
    refine to_next ?_
    refine hits_block ?_
    refine hits_seq ?_
    refine hits_seq ?_
    by_cases f0 : [c, d] = [61, 61]
    · refine hits_region ?_
      refine sq (f_bin rfl rfl (bT ((two_eq f0))) (lt rfl)) rfl rfl ?_
      refine sq (f_assign rfl (lt rfl)) rfl rfl ?_
      refine hits_nil ?_
      refine to_next ?_
      refine hits_cond rfl (fun c1 => ?_) (fun c1 => absurd c1 Bool.false_ne_true.symm)
      refine hits_skip ?_
      refine to_next ?_
      refine hits_cond rfl (fun c8 => ?_) (fun c8 => absurd c8 Bool.false_ne_true.symm)
      refine hits_seq ?_
      refine hits_region ?_
      refine sq (f_move rfl (lt rfl)) rfl rfl ?_
      refine sq (f_assign rfl (lt rfl)) rfl rfl ?_
      refine hits_nil ?_
      refine to_next ?_
      refine hits_ret ?_
      refine in_ret ?_
      refine to_ret ?_
      exact hits_done (.inl rfl) rfl rfl (by rw [sg_two hat0 hat1 (by rw [f0]; decide)]; rfl)
    · refine hits_region ?_
      refine sq (f_bin rfl rfl (bT ((two_ne f0))) (lt rfl)) rfl rfl ?_
      refine sq (f_assign rfl (lt rfl)) rfl rfl ?_
      refine hits_nil ?_
      refine to_next ?_
      refine hits_cond rfl (fun c1 => absurd c1 Bool.false_ne_true) (fun c1 => ?_)
      refine hits_seq ?_
      by_cases f1 : [c, d] = [33, 61]
      · refine hits_region ?_
        refine sq (f_bin rfl rfl (bT ((two_eq f1))) (lt rfl)) rfl rfl ?_
        refine sq (f_assign rfl (lt rfl)) rfl rfl ?_
        refine hits_nil ?_
        refine to_next ?_
        refine hits_cond rfl (fun c2 => ?_) (fun c2 => absurd c2 Bool.false_ne_true.symm)
        refine hits_skip ?_
        refine to_next ?_
        refine hits_cond rfl (fun c8 => ?_) (fun c8 => absurd c8 Bool.false_ne_true.symm)
        refine hits_seq ?_
        refine hits_region ?_
        refine sq (f_move rfl (lt rfl)) rfl rfl ?_
        refine sq (f_assign rfl (lt rfl)) rfl rfl ?_
        refine hits_nil ?_
        refine to_next ?_
        refine hits_ret ?_
        refine in_ret ?_
        refine to_ret ?_
        exact hits_done (.inl rfl) rfl rfl (by rw [sg_two hat0 hat1 (by rw [f1]; decide)]; rfl)
      · refine hits_region ?_
        refine sq (f_bin rfl rfl (bT ((two_ne f1))) (lt rfl)) rfl rfl ?_
        refine sq (f_assign rfl (lt rfl)) rfl rfl ?_
        refine hits_nil ?_
        refine to_next ?_
        refine hits_cond rfl (fun c2 => absurd c2 Bool.false_ne_true) (fun c2 => ?_)
        refine hits_seq ?_
        by_cases f2 : [c, d] = [60, 61]
        · refine hits_region ?_
          refine sq (f_bin rfl rfl (bT ((two_eq f2))) (lt rfl)) rfl rfl ?_
          refine sq (f_assign rfl (lt rfl)) rfl rfl ?_
          refine hits_nil ?_
          refine to_next ?_
          refine hits_cond rfl (fun c3 => ?_) (fun c3 => absurd c3 Bool.false_ne_true.symm)
          refine hits_skip ?_
          refine to_next ?_
          refine hits_cond rfl (fun c8 => ?_) (fun c8 => absurd c8 Bool.false_ne_true.symm)
          refine hits_seq ?_
          refine hits_region ?_
          refine sq (f_move rfl (lt rfl)) rfl rfl ?_
          refine sq (f_assign rfl (lt rfl)) rfl rfl ?_
          refine hits_nil ?_
          refine to_next ?_
          refine hits_ret ?_
          refine in_ret ?_
          refine to_ret ?_
          exact hits_done (.inl rfl) rfl rfl (by rw [sg_two hat0 hat1 (by rw [f2]; decide)]; rfl)
        · refine hits_region ?_
          refine sq (f_bin rfl rfl (bT ((two_ne f2))) (lt rfl)) rfl rfl ?_
          refine sq (f_assign rfl (lt rfl)) rfl rfl ?_
          refine hits_nil ?_
          refine to_next ?_
          refine hits_cond rfl (fun c3 => absurd c3 Bool.false_ne_true) (fun c3 => ?_)
          refine hits_seq ?_
          by_cases f3 : [c, d] = [60, 60]
          · refine hits_region ?_
            refine sq (f_bin rfl rfl (bT ((two_eq f3))) (lt rfl)) rfl rfl ?_
            refine sq (f_assign rfl (lt rfl)) rfl rfl ?_
            refine hits_nil ?_
            refine to_next ?_
            refine hits_cond rfl (fun c4 => ?_) (fun c4 => absurd c4 Bool.false_ne_true.symm)
            refine hits_skip ?_
            refine to_next ?_
            refine hits_cond rfl (fun c8 => ?_) (fun c8 => absurd c8 Bool.false_ne_true.symm)
            refine hits_seq ?_
            refine hits_region ?_
            refine sq (f_move rfl (lt rfl)) rfl rfl ?_
            refine sq (f_assign rfl (lt rfl)) rfl rfl ?_
            refine hits_nil ?_
            refine to_next ?_
            refine hits_ret ?_
            refine in_ret ?_
            refine to_ret ?_
            exact hits_done (.inl rfl) rfl rfl (by rw [sg_two hat0 hat1 (by rw [f3]; decide)]; rfl)
          · refine hits_region ?_
            refine sq (f_bin rfl rfl (bT ((two_ne f3))) (lt rfl)) rfl rfl ?_
            refine sq (f_assign rfl (lt rfl)) rfl rfl ?_
            refine hits_nil ?_
            refine to_next ?_
            refine hits_cond rfl (fun c4 => absurd c4 Bool.false_ne_true) (fun c4 => ?_)
            refine hits_seq ?_
            by_cases f4 : [c, d] = [62, 62]
            · refine hits_region ?_
              refine sq (f_bin rfl rfl (bT ((two_eq f4))) (lt rfl)) rfl rfl ?_
              refine sq (f_assign rfl (lt rfl)) rfl rfl ?_
              refine hits_nil ?_
              refine to_next ?_
              refine hits_cond rfl (fun c5 => ?_) (fun c5 => absurd c5 Bool.false_ne_true.symm)
              refine hits_skip ?_
              refine to_next ?_
              refine hits_cond rfl (fun c8 => ?_) (fun c8 => absurd c8 Bool.false_ne_true.symm)
              refine hits_seq ?_
              refine hits_region ?_
              refine sq (f_move rfl (lt rfl)) rfl rfl ?_
              refine sq (f_assign rfl (lt rfl)) rfl rfl ?_
              refine hits_nil ?_
              refine to_next ?_
              refine hits_ret ?_
              refine in_ret ?_
              refine to_ret ?_
              exact hits_done (.inl rfl) rfl rfl (by rw [sg_two hat0 hat1 (by rw [f4]; decide)]; rfl)
            · refine hits_region ?_
              refine sq (f_bin rfl rfl (bT ((two_ne f4))) (lt rfl)) rfl rfl ?_
              refine sq (f_assign rfl (lt rfl)) rfl rfl ?_
              refine hits_nil ?_
              refine to_next ?_
              refine hits_cond rfl (fun c5 => absurd c5 Bool.false_ne_true) (fun c5 => ?_)
              refine hits_seq ?_
              by_cases f5 : [c, d] = [43, 43]
              · refine hits_region ?_
                refine sq (f_bin rfl rfl (bT ((two_eq f5))) (lt rfl)) rfl rfl ?_
                refine sq (f_assign rfl (lt rfl)) rfl rfl ?_
                refine hits_nil ?_
                refine to_next ?_
                refine hits_cond rfl (fun c6 => ?_) (fun c6 => absurd c6 Bool.false_ne_true.symm)
                refine hits_skip ?_
                refine to_next ?_
                refine hits_cond rfl (fun c8 => ?_) (fun c8 => absurd c8 Bool.false_ne_true.symm)
                refine hits_seq ?_
                refine hits_region ?_
                refine sq (f_move rfl (lt rfl)) rfl rfl ?_
                refine sq (f_assign rfl (lt rfl)) rfl rfl ?_
                refine hits_nil ?_
                refine to_next ?_
                refine hits_ret ?_
                refine in_ret ?_
                refine to_ret ?_
                exact hits_done (.inl rfl) rfl rfl (by rw [sg_two hat0 hat1 (by rw [f5]; decide)]; rfl)
              · refine hits_region ?_
                refine sq (f_bin rfl rfl (bT ((two_ne f5))) (lt rfl)) rfl rfl ?_
                refine sq (f_assign rfl (lt rfl)) rfl rfl ?_
                refine hits_nil ?_
                refine to_next ?_
                refine hits_cond rfl (fun c6 => absurd c6 Bool.false_ne_true) (fun c6 => ?_)
                refine hits_seq ?_
                by_cases f6 : [c, d] = [38, 38]
                · refine hits_region ?_
                  refine sq (f_bin rfl rfl (bT ((two_eq f6))) (lt rfl)) rfl rfl ?_
                  refine sq (f_assign rfl (lt rfl)) rfl rfl ?_
                  refine hits_nil ?_
                  refine to_next ?_
                  refine hits_cond rfl (fun c7 => ?_) (fun c7 => absurd c7 Bool.false_ne_true.symm)
                  refine hits_skip ?_
                  refine to_next ?_
                  refine hits_cond rfl (fun c8 => ?_) (fun c8 => absurd c8 Bool.false_ne_true.symm)
                  refine hits_seq ?_
                  refine hits_region ?_
                  refine sq (f_move rfl (lt rfl)) rfl rfl ?_
                  refine sq (f_assign rfl (lt rfl)) rfl rfl ?_
                  refine hits_nil ?_
                  refine to_next ?_
                  refine hits_ret ?_
                  refine in_ret ?_
                  refine to_ret ?_
                  exact hits_done (.inl rfl) rfl rfl (by rw [sg_two hat0 hat1 (by rw [f6]; decide)]; rfl)
                · refine hits_region ?_
                  refine sq (f_bin rfl rfl (bT ((two_ne f6))) (lt rfl)) rfl rfl ?_
                  refine sq (f_assign rfl (lt rfl)) rfl rfl ?_
                  refine hits_nil ?_
                  refine to_next ?_
                  refine hits_cond rfl (fun c7 => absurd c7 Bool.false_ne_true) (fun c7 => ?_)
                  by_cases f7 : [c, d] = [124, 124]
                  · refine hits_region ?_
                    refine sq (f_bin rfl rfl (bT ((two_eq f7))) (lt rfl)) rfl rfl ?_
                    refine sq (f_assign rfl (lt rfl)) rfl rfl ?_
                    refine hits_nil ?_
                    refine to_next ?_
                    refine hits_cond rfl (fun c8 => ?_) (fun c8 => absurd c8 Bool.false_ne_true.symm)
                    refine hits_seq ?_
                    refine hits_region ?_
                    refine sq (f_move rfl (lt rfl)) rfl rfl ?_
                    refine sq (f_assign rfl (lt rfl)) rfl rfl ?_
                    refine hits_nil ?_
                    refine to_next ?_
                    refine hits_ret ?_
                    refine in_ret ?_
                    refine to_ret ?_
                    exact hits_done (.inl rfl) rfl rfl (by rw [sg_two hat0 hat1 (by rw [f7]; decide)]; rfl)
                  · have h2 := sg_not (c := c) hat1 (by simp only [sg2, List.mem_cons, List.not_mem_nil, or_false, not_or]; exact ⟨f0, f1, f2, f3, f4, f5, f6, f7⟩)
                    refine hits_region ?_
                    refine sq (f_bin rfl rfl (bT ((two_ne f7))) (lt rfl)) rfl rfl ?_
                    refine sq (f_assign rfl (lt rfl)) rfl rfl ?_
                    refine hits_nil ?_
                    refine to_next ?_
                    refine hits_cond rfl (fun c8 => absurd c8 Bool.false_ne_true) (fun c8 => ?_)
                    refine hits_skip ?_
                    refine in_next ?_
                    refine to_next ?_
                    refine hits_seq ?_
                    refine hits_seq ?_
                    refine hits_region ?_
                    refine sq (f_move rfl (lt rfl)) rfl rfl ?_
                    refine sq (f_move rfl (lt rfl)) rfl rfl ?_
                    refine sq (f_idxS rfl rfl un9 hat (lt rfl)) rfl rfl ?_
                    refine hits_nil ?_
                    refine to_next ?_
                    refine hits_block ?_
                    refine hits_seq ?_
                    refine hits_seq ?_
                    by_cases g0 : c = 123
                    · refine hits_region ?_
                      refine sq (f_bin rfl rfl (bT (beq_iff_eq.mpr (by rw [g0]; rfl))) (lt rfl)) rfl rfl ?_
                      refine sq (f_assign rfl (lt rfl)) rfl rfl ?_
                      refine hits_nil ?_
                      refine to_next ?_
                      refine hits_cond rfl (fun c9 => ?_) (fun c9 => absurd c9 Bool.false_ne_true.symm)
                      refine hits_skip ?_
                      refine to_next ?_
                      refine hits_cond rfl (fun c27 => ?_) (fun c27 => absurd c27 Bool.false_ne_true.symm)
                      refine hits_seq ?_
                      refine hits_region ?_
                      refine sq (f_move rfl (lt rfl)) rfl rfl ?_
                      refine sq (f_move rfl (lt rfl)) rfl rfl ?_
                      refine sq (f_move rfl (lt rfl)) rfl rfl ?_
                      refine sq (f_bin rfl rfl (iT (((IntWalk.i64_in _ (by omega)).trans (by omega) : _ = ((i + 1 : Nat) : Int)))) (lt rfl)) rfl rfl ?_
                      refine sq (f_sliceI rfl rfl rfl un9 (by omega) (by omega) (by rw [B_size]; omega) (ext_one hat0) (lt rfl)) rfl rfl ?_
                      refine sq (f_assign rfl (lt rfl)) rfl rfl ?_
                      refine hits_nil ?_
                      refine to_next ?_
                      refine hits_ret ?_
                      refine in_ret ?_
                      refine to_ret ?_
                      exact hits_done (.inl rfl) rfl rfl (by rw [sg_one hat0 h2 (by rw [g0]; decide)]; rfl)
                    · refine hits_region ?_
                      refine sq (f_bin rfl rfl (bT (beq_eq_false_iff_ne.mpr (byte_neq (n := 123) (by decide) g0))) (lt rfl)) rfl rfl ?_
                      refine sq (f_assign rfl (lt rfl)) rfl rfl ?_
                      refine hits_nil ?_
                      refine to_next ?_
                      refine hits_cond rfl (fun c9 => absurd c9 Bool.false_ne_true) (fun c9 => ?_)
                      refine hits_seq ?_
                      by_cases g1 : c = 125
                      · refine hits_region ?_
                        refine sq (f_bin rfl rfl (bT (beq_iff_eq.mpr (by rw [g1]; rfl))) (lt rfl)) rfl rfl ?_
                        refine sq (f_assign rfl (lt rfl)) rfl rfl ?_
                        refine hits_nil ?_
                        refine to_next ?_
                        refine hits_cond rfl (fun c10 => ?_) (fun c10 => absurd c10 Bool.false_ne_true.symm)
                        refine hits_skip ?_
                        refine to_next ?_
                        refine hits_cond rfl (fun c27 => ?_) (fun c27 => absurd c27 Bool.false_ne_true.symm)
                        refine hits_seq ?_
                        refine hits_region ?_
                        refine sq (f_move rfl (lt rfl)) rfl rfl ?_
                        refine sq (f_move rfl (lt rfl)) rfl rfl ?_
                        refine sq (f_move rfl (lt rfl)) rfl rfl ?_
                        refine sq (f_bin rfl rfl (iT (((IntWalk.i64_in _ (by omega)).trans (by omega) : _ = ((i + 1 : Nat) : Int)))) (lt rfl)) rfl rfl ?_
                        refine sq (f_sliceI rfl rfl rfl un9 (by omega) (by omega) (by rw [B_size]; omega) (ext_one hat0) (lt rfl)) rfl rfl ?_
                        refine sq (f_assign rfl (lt rfl)) rfl rfl ?_
                        refine hits_nil ?_
                        refine to_next ?_
                        refine hits_ret ?_
                        refine in_ret ?_
                        refine to_ret ?_
                        exact hits_done (.inl rfl) rfl rfl (by rw [sg_one hat0 h2 (by rw [g1]; decide)]; rfl)
                      · refine hits_region ?_
                        refine sq (f_bin rfl rfl (bT (beq_eq_false_iff_ne.mpr (byte_neq (n := 125) (by decide) g1))) (lt rfl)) rfl rfl ?_
                        refine sq (f_assign rfl (lt rfl)) rfl rfl ?_
                        refine hits_nil ?_
                        refine to_next ?_
                        refine hits_cond rfl (fun c10 => absurd c10 Bool.false_ne_true) (fun c10 => ?_)
                        refine hits_seq ?_
                        by_cases g2 : c = 40
                        · refine hits_region ?_
                          refine sq (f_bin rfl rfl (bT (beq_iff_eq.mpr (by rw [g2]; rfl))) (lt rfl)) rfl rfl ?_
                          refine sq (f_assign rfl (lt rfl)) rfl rfl ?_
                          refine hits_nil ?_
                          refine to_next ?_
                          refine hits_cond rfl (fun c11 => ?_) (fun c11 => absurd c11 Bool.false_ne_true.symm)
                          refine hits_skip ?_
                          refine to_next ?_
                          refine hits_cond rfl (fun c27 => ?_) (fun c27 => absurd c27 Bool.false_ne_true.symm)
                          refine hits_seq ?_
                          refine hits_region ?_
                          refine sq (f_move rfl (lt rfl)) rfl rfl ?_
                          refine sq (f_move rfl (lt rfl)) rfl rfl ?_
                          refine sq (f_move rfl (lt rfl)) rfl rfl ?_
                          refine sq (f_bin rfl rfl (iT (((IntWalk.i64_in _ (by omega)).trans (by omega) : _ = ((i + 1 : Nat) : Int)))) (lt rfl)) rfl rfl ?_
                          refine sq (f_sliceI rfl rfl rfl un9 (by omega) (by omega) (by rw [B_size]; omega) (ext_one hat0) (lt rfl)) rfl rfl ?_
                          refine sq (f_assign rfl (lt rfl)) rfl rfl ?_
                          refine hits_nil ?_
                          refine to_next ?_
                          refine hits_ret ?_
                          refine in_ret ?_
                          refine to_ret ?_
                          exact hits_done (.inl rfl) rfl rfl (by rw [sg_one hat0 h2 (by rw [g2]; decide)]; rfl)
                        · refine hits_region ?_
                          refine sq (f_bin rfl rfl (bT (beq_eq_false_iff_ne.mpr (byte_neq (n := 40) (by decide) g2))) (lt rfl)) rfl rfl ?_
                          refine sq (f_assign rfl (lt rfl)) rfl rfl ?_
                          refine hits_nil ?_
                          refine to_next ?_
                          refine hits_cond rfl (fun c11 => absurd c11 Bool.false_ne_true) (fun c11 => ?_)
                          refine hits_seq ?_
                          by_cases g3 : c = 41
                          · refine hits_region ?_
                            refine sq (f_bin rfl rfl (bT (beq_iff_eq.mpr (by rw [g3]; rfl))) (lt rfl)) rfl rfl ?_
                            refine sq (f_assign rfl (lt rfl)) rfl rfl ?_
                            refine hits_nil ?_
                            refine to_next ?_
                            refine hits_cond rfl (fun c12 => ?_) (fun c12 => absurd c12 Bool.false_ne_true.symm)
                            refine hits_skip ?_
                            refine to_next ?_
                            refine hits_cond rfl (fun c27 => ?_) (fun c27 => absurd c27 Bool.false_ne_true.symm)
                            refine hits_seq ?_
                            refine hits_region ?_
                            refine sq (f_move rfl (lt rfl)) rfl rfl ?_
                            refine sq (f_move rfl (lt rfl)) rfl rfl ?_
                            refine sq (f_move rfl (lt rfl)) rfl rfl ?_
                            refine sq (f_bin rfl rfl (iT (((IntWalk.i64_in _ (by omega)).trans (by omega) : _ = ((i + 1 : Nat) : Int)))) (lt rfl)) rfl rfl ?_
                            refine sq (f_sliceI rfl rfl rfl un9 (by omega) (by omega) (by rw [B_size]; omega) (ext_one hat0) (lt rfl)) rfl rfl ?_
                            refine sq (f_assign rfl (lt rfl)) rfl rfl ?_
                            refine hits_nil ?_
                            refine to_next ?_
                            refine hits_ret ?_
                            refine in_ret ?_
                            refine to_ret ?_
                            exact hits_done (.inl rfl) rfl rfl (by rw [sg_one hat0 h2 (by rw [g3]; decide)]; rfl)
                          · refine hits_region ?_
                            refine sq (f_bin rfl rfl (bT (beq_eq_false_iff_ne.mpr (byte_neq (n := 41) (by decide) g3))) (lt rfl)) rfl rfl ?_
                            refine sq (f_assign rfl (lt rfl)) rfl rfl ?_
                            refine hits_nil ?_
                            refine to_next ?_
                            refine hits_cond rfl (fun c12 => absurd c12 Bool.false_ne_true) (fun c12 => ?_)
                            refine hits_seq ?_
                            by_cases g4 : c = 91
                            · refine hits_region ?_
                              refine sq (f_bin rfl rfl (bT (beq_iff_eq.mpr (by rw [g4]; rfl))) (lt rfl)) rfl rfl ?_
                              refine sq (f_assign rfl (lt rfl)) rfl rfl ?_
                              refine hits_nil ?_
                              refine to_next ?_
                              refine hits_cond rfl (fun c13 => ?_) (fun c13 => absurd c13 Bool.false_ne_true.symm)
                              refine hits_skip ?_
                              refine to_next ?_
                              refine hits_cond rfl (fun c27 => ?_) (fun c27 => absurd c27 Bool.false_ne_true.symm)
                              refine hits_seq ?_
                              refine hits_region ?_
                              refine sq (f_move rfl (lt rfl)) rfl rfl ?_
                              refine sq (f_move rfl (lt rfl)) rfl rfl ?_
                              refine sq (f_move rfl (lt rfl)) rfl rfl ?_
                              refine sq (f_bin rfl rfl (iT (((IntWalk.i64_in _ (by omega)).trans (by omega) : _ = ((i + 1 : Nat) : Int)))) (lt rfl)) rfl rfl ?_
                              refine sq (f_sliceI rfl rfl rfl un9 (by omega) (by omega) (by rw [B_size]; omega) (ext_one hat0) (lt rfl)) rfl rfl ?_
                              refine sq (f_assign rfl (lt rfl)) rfl rfl ?_
                              refine hits_nil ?_
                              refine to_next ?_
                              refine hits_ret ?_
                              refine in_ret ?_
                              refine to_ret ?_
                              exact hits_done (.inl rfl) rfl rfl (by rw [sg_one hat0 h2 (by rw [g4]; decide)]; rfl)
                            · refine hits_region ?_
                              refine sq (f_bin rfl rfl (bT (beq_eq_false_iff_ne.mpr (byte_neq (n := 91) (by decide) g4))) (lt rfl)) rfl rfl ?_
                              refine sq (f_assign rfl (lt rfl)) rfl rfl ?_
                              refine hits_nil ?_
                              refine to_next ?_
                              refine hits_cond rfl (fun c13 => absurd c13 Bool.false_ne_true) (fun c13 => ?_)
                              refine hits_seq ?_
                              by_cases g5 : c = 93
                              · refine hits_region ?_
                                refine sq (f_bin rfl rfl (bT (beq_iff_eq.mpr (by rw [g5]; rfl))) (lt rfl)) rfl rfl ?_
                                refine sq (f_assign rfl (lt rfl)) rfl rfl ?_
                                refine hits_nil ?_
                                refine to_next ?_
                                refine hits_cond rfl (fun c14 => ?_) (fun c14 => absurd c14 Bool.false_ne_true.symm)
                                refine hits_skip ?_
                                refine to_next ?_
                                refine hits_cond rfl (fun c27 => ?_) (fun c27 => absurd c27 Bool.false_ne_true.symm)
                                refine hits_seq ?_
                                refine hits_region ?_
                                refine sq (f_move rfl (lt rfl)) rfl rfl ?_
                                refine sq (f_move rfl (lt rfl)) rfl rfl ?_
                                refine sq (f_move rfl (lt rfl)) rfl rfl ?_
                                refine sq (f_bin rfl rfl (iT (((IntWalk.i64_in _ (by omega)).trans (by omega) : _ = ((i + 1 : Nat) : Int)))) (lt rfl)) rfl rfl ?_
                                refine sq (f_sliceI rfl rfl rfl un9 (by omega) (by omega) (by rw [B_size]; omega) (ext_one hat0) (lt rfl)) rfl rfl ?_
                                refine sq (f_assign rfl (lt rfl)) rfl rfl ?_
                                refine hits_nil ?_
                                refine to_next ?_
                                refine hits_ret ?_
                                refine in_ret ?_
                                refine to_ret ?_
                                exact hits_done (.inl rfl) rfl rfl (by rw [sg_one hat0 h2 (by rw [g5]; decide)]; rfl)
                              · refine hits_region ?_
                                refine sq (f_bin rfl rfl (bT (beq_eq_false_iff_ne.mpr (byte_neq (n := 93) (by decide) g5))) (lt rfl)) rfl rfl ?_
                                refine sq (f_assign rfl (lt rfl)) rfl rfl ?_
                                refine hits_nil ?_
                                refine to_next ?_
                                refine hits_cond rfl (fun c14 => absurd c14 Bool.false_ne_true) (fun c14 => ?_)
                                refine hits_seq ?_
                                by_cases g6 : c = 59
                                · refine hits_region ?_
                                  refine sq (f_bin rfl rfl (bT (beq_iff_eq.mpr (by rw [g6]; rfl))) (lt rfl)) rfl rfl ?_
                                  refine sq (f_assign rfl (lt rfl)) rfl rfl ?_
                                  refine hits_nil ?_
                                  refine to_next ?_
                                  refine hits_cond rfl (fun c15 => ?_) (fun c15 => absurd c15 Bool.false_ne_true.symm)
                                  refine hits_skip ?_
                                  refine to_next ?_
                                  refine hits_cond rfl (fun c27 => ?_) (fun c27 => absurd c27 Bool.false_ne_true.symm)
                                  refine hits_seq ?_
                                  refine hits_region ?_
                                  refine sq (f_move rfl (lt rfl)) rfl rfl ?_
                                  refine sq (f_move rfl (lt rfl)) rfl rfl ?_
                                  refine sq (f_move rfl (lt rfl)) rfl rfl ?_
                                  refine sq (f_bin rfl rfl (iT (((IntWalk.i64_in _ (by omega)).trans (by omega) : _ = ((i + 1 : Nat) : Int)))) (lt rfl)) rfl rfl ?_
                                  refine sq (f_sliceI rfl rfl rfl un9 (by omega) (by omega) (by rw [B_size]; omega) (ext_one hat0) (lt rfl)) rfl rfl ?_
                                  refine sq (f_assign rfl (lt rfl)) rfl rfl ?_
                                  refine hits_nil ?_
                                  refine to_next ?_
                                  refine hits_ret ?_
                                  refine in_ret ?_
                                  refine to_ret ?_
                                  exact hits_done (.inl rfl) rfl rfl (by rw [sg_one hat0 h2 (by rw [g6]; decide)]; rfl)
                                · refine hits_region ?_
                                  refine sq (f_bin rfl rfl (bT (beq_eq_false_iff_ne.mpr (byte_neq (n := 59) (by decide) g6))) (lt rfl)) rfl rfl ?_
                                  refine sq (f_assign rfl (lt rfl)) rfl rfl ?_
                                  refine hits_nil ?_
                                  refine to_next ?_
                                  refine hits_cond rfl (fun c15 => absurd c15 Bool.false_ne_true) (fun c15 => ?_)
                                  refine hits_seq ?_
                                  by_cases g7 : c = 58
                                  · refine hits_region ?_
                                    refine sq (f_bin rfl rfl (bT (beq_iff_eq.mpr (by rw [g7]; rfl))) (lt rfl)) rfl rfl ?_
                                    refine sq (f_assign rfl (lt rfl)) rfl rfl ?_
                                    refine hits_nil ?_
                                    refine to_next ?_
                                    refine hits_cond rfl (fun c16 => ?_) (fun c16 => absurd c16 Bool.false_ne_true.symm)
                                    refine hits_skip ?_
                                    refine to_next ?_
                                    refine hits_cond rfl (fun c27 => ?_) (fun c27 => absurd c27 Bool.false_ne_true.symm)
                                    refine hits_seq ?_
                                    refine hits_region ?_
                                    refine sq (f_move rfl (lt rfl)) rfl rfl ?_
                                    refine sq (f_move rfl (lt rfl)) rfl rfl ?_
                                    refine sq (f_move rfl (lt rfl)) rfl rfl ?_
                                    refine sq (f_bin rfl rfl (iT (((IntWalk.i64_in _ (by omega)).trans (by omega) : _ = ((i + 1 : Nat) : Int)))) (lt rfl)) rfl rfl ?_
                                    refine sq (f_sliceI rfl rfl rfl un9 (by omega) (by omega) (by rw [B_size]; omega) (ext_one hat0) (lt rfl)) rfl rfl ?_
                                    refine sq (f_assign rfl (lt rfl)) rfl rfl ?_
                                    refine hits_nil ?_
                                    refine to_next ?_
                                    refine hits_ret ?_
                                    refine in_ret ?_
                                    refine to_ret ?_
                                    exact hits_done (.inl rfl) rfl rfl (by rw [sg_one hat0 h2 (by rw [g7]; decide)]; rfl)
                                  · refine hits_region ?_
                                    refine sq (f_bin rfl rfl (bT (beq_eq_false_iff_ne.mpr (byte_neq (n := 58) (by decide) g7))) (lt rfl)) rfl rfl ?_
                                    refine sq (f_assign rfl (lt rfl)) rfl rfl ?_
                                    refine hits_nil ?_
                                    refine to_next ?_
                                    refine hits_cond rfl (fun c16 => absurd c16 Bool.false_ne_true) (fun c16 => ?_)
                                    refine hits_seq ?_
                                    by_cases g8 : c = 44
                                    · refine hits_region ?_
                                      refine sq (f_bin rfl rfl (bT (beq_iff_eq.mpr (by rw [g8]; rfl))) (lt rfl)) rfl rfl ?_
                                      refine sq (f_assign rfl (lt rfl)) rfl rfl ?_
                                      refine hits_nil ?_
                                      refine to_next ?_
                                      refine hits_cond rfl (fun c17 => ?_) (fun c17 => absurd c17 Bool.false_ne_true.symm)
                                      refine hits_skip ?_
                                      refine to_next ?_
                                      refine hits_cond rfl (fun c27 => ?_) (fun c27 => absurd c27 Bool.false_ne_true.symm)
                                      refine hits_seq ?_
                                      refine hits_region ?_
                                      refine sq (f_move rfl (lt rfl)) rfl rfl ?_
                                      refine sq (f_move rfl (lt rfl)) rfl rfl ?_
                                      refine sq (f_move rfl (lt rfl)) rfl rfl ?_
                                      refine sq (f_bin rfl rfl (iT (((IntWalk.i64_in _ (by omega)).trans (by omega) : _ = ((i + 1 : Nat) : Int)))) (lt rfl)) rfl rfl ?_
                                      refine sq (f_sliceI rfl rfl rfl un9 (by omega) (by omega) (by rw [B_size]; omega) (ext_one hat0) (lt rfl)) rfl rfl ?_
                                      refine sq (f_assign rfl (lt rfl)) rfl rfl ?_
                                      refine hits_nil ?_
                                      refine to_next ?_
                                      refine hits_ret ?_
                                      refine in_ret ?_
                                      refine to_ret ?_
                                      exact hits_done (.inl rfl) rfl rfl (by rw [sg_one hat0 h2 (by rw [g8]; decide)]; rfl)
                                    · refine hits_region ?_
                                      refine sq (f_bin rfl rfl (bT (beq_eq_false_iff_ne.mpr (byte_neq (n := 44) (by decide) g8))) (lt rfl)) rfl rfl ?_
                                      refine sq (f_assign rfl (lt rfl)) rfl rfl ?_
                                      refine hits_nil ?_
                                      refine to_next ?_
                                      refine hits_cond rfl (fun c17 => absurd c17 Bool.false_ne_true) (fun c17 => ?_)
                                      refine hits_seq ?_
                                      by_cases g9 : c = 46
                                      · refine hits_region ?_
                                        refine sq (f_bin rfl rfl (bT (beq_iff_eq.mpr (by rw [g9]; rfl))) (lt rfl)) rfl rfl ?_
                                        refine sq (f_assign rfl (lt rfl)) rfl rfl ?_
                                        refine hits_nil ?_
                                        refine to_next ?_
                                        refine hits_cond rfl (fun c18 => ?_) (fun c18 => absurd c18 Bool.false_ne_true.symm)
                                        refine hits_skip ?_
                                        refine to_next ?_
                                        refine hits_cond rfl (fun c27 => ?_) (fun c27 => absurd c27 Bool.false_ne_true.symm)
                                        refine hits_seq ?_
                                        refine hits_region ?_
                                        refine sq (f_move rfl (lt rfl)) rfl rfl ?_
                                        refine sq (f_move rfl (lt rfl)) rfl rfl ?_
                                        refine sq (f_move rfl (lt rfl)) rfl rfl ?_
                                        refine sq (f_bin rfl rfl (iT (((IntWalk.i64_in _ (by omega)).trans (by omega) : _ = ((i + 1 : Nat) : Int)))) (lt rfl)) rfl rfl ?_
                                        refine sq (f_sliceI rfl rfl rfl un9 (by omega) (by omega) (by rw [B_size]; omega) (ext_one hat0) (lt rfl)) rfl rfl ?_
                                        refine sq (f_assign rfl (lt rfl)) rfl rfl ?_
                                        refine hits_nil ?_
                                        refine to_next ?_
                                        refine hits_ret ?_
                                        refine in_ret ?_
                                        refine to_ret ?_
                                        exact hits_done (.inl rfl) rfl rfl (by rw [sg_one hat0 h2 (by rw [g9]; decide)]; rfl)
                                      · refine hits_region ?_
                                        refine sq (f_bin rfl rfl (bT (beq_eq_false_iff_ne.mpr (byte_neq (n := 46) (by decide) g9))) (lt rfl)) rfl rfl ?_
                                        refine sq (f_assign rfl (lt rfl)) rfl rfl ?_
                                        refine hits_nil ?_
                                        refine to_next ?_
                                        refine hits_cond rfl (fun c18 => absurd c18 Bool.false_ne_true) (fun c18 => ?_)
                                        refine hits_seq ?_
                                        by_cases g10 : c = 61
                                        · refine hits_region ?_
                                          refine sq (f_bin rfl rfl (bT (beq_iff_eq.mpr (by rw [g10]; rfl))) (lt rfl)) rfl rfl ?_
                                          refine sq (f_assign rfl (lt rfl)) rfl rfl ?_
                                          refine hits_nil ?_
                                          refine to_next ?_
                                          refine hits_cond rfl (fun c19 => ?_) (fun c19 => absurd c19 Bool.false_ne_true.symm)
                                          refine hits_skip ?_
                                          refine to_next ?_
                                          refine hits_cond rfl (fun c27 => ?_) (fun c27 => absurd c27 Bool.false_ne_true.symm)
                                          refine hits_seq ?_
                                          refine hits_region ?_
                                          refine sq (f_move rfl (lt rfl)) rfl rfl ?_
                                          refine sq (f_move rfl (lt rfl)) rfl rfl ?_
                                          refine sq (f_move rfl (lt rfl)) rfl rfl ?_
                                          refine sq (f_bin rfl rfl (iT (((IntWalk.i64_in _ (by omega)).trans (by omega) : _ = ((i + 1 : Nat) : Int)))) (lt rfl)) rfl rfl ?_
                                          refine sq (f_sliceI rfl rfl rfl un9 (by omega) (by omega) (by rw [B_size]; omega) (ext_one hat0) (lt rfl)) rfl rfl ?_
                                          refine sq (f_assign rfl (lt rfl)) rfl rfl ?_
                                          refine hits_nil ?_
                                          refine to_next ?_
                                          refine hits_ret ?_
                                          refine in_ret ?_
                                          refine to_ret ?_
                                          exact hits_done (.inl rfl) rfl rfl (by rw [sg_one hat0 h2 (by rw [g10]; decide)]; rfl)
                                        · refine hits_region ?_
                                          refine sq (f_bin rfl rfl (bT (beq_eq_false_iff_ne.mpr (byte_neq (n := 61) (by decide) g10))) (lt rfl)) rfl rfl ?_
                                          refine sq (f_assign rfl (lt rfl)) rfl rfl ?_
                                          refine hits_nil ?_
                                          refine to_next ?_
                                          refine hits_cond rfl (fun c19 => absurd c19 Bool.false_ne_true) (fun c19 => ?_)
                                          refine hits_seq ?_
                                          by_cases g11 : c = 60
                                          · refine hits_region ?_
                                            refine sq (f_bin rfl rfl (bT (beq_iff_eq.mpr (by rw [g11]; rfl))) (lt rfl)) rfl rfl ?_
                                            refine sq (f_assign rfl (lt rfl)) rfl rfl ?_
                                            refine hits_nil ?_
                                            refine to_next ?_
                                            refine hits_cond rfl (fun c20 => ?_) (fun c20 => absurd c20 Bool.false_ne_true.symm)
                                            refine hits_skip ?_
                                            refine to_next ?_
                                            refine hits_cond rfl (fun c27 => ?_) (fun c27 => absurd c27 Bool.false_ne_true.symm)
                                            refine hits_seq ?_
                                            refine hits_region ?_
                                            refine sq (f_move rfl (lt rfl)) rfl rfl ?_
                                            refine sq (f_move rfl (lt rfl)) rfl rfl ?_
                                            refine sq (f_move rfl (lt rfl)) rfl rfl ?_
                                            refine sq (f_bin rfl rfl (iT (((IntWalk.i64_in _ (by omega)).trans (by omega) : _ = ((i + 1 : Nat) : Int)))) (lt rfl)) rfl rfl ?_
                                            refine sq (f_sliceI rfl rfl rfl un9 (by omega) (by omega) (by rw [B_size]; omega) (ext_one hat0) (lt rfl)) rfl rfl ?_
                                            refine sq (f_assign rfl (lt rfl)) rfl rfl ?_
                                            refine hits_nil ?_
                                            refine to_next ?_
                                            refine hits_ret ?_
                                            refine in_ret ?_
                                            refine to_ret ?_
                                            exact hits_done (.inl rfl) rfl rfl (by rw [sg_one hat0 h2 (by rw [g11]; decide)]; rfl)
                                          · refine hits_region ?_
                                            refine sq (f_bin rfl rfl (bT (beq_eq_false_iff_ne.mpr (byte_neq (n := 60) (by decide) g11))) (lt rfl)) rfl rfl ?_
                                            refine sq (f_assign rfl (lt rfl)) rfl rfl ?_
                                            refine hits_nil ?_
                                            refine to_next ?_
                                            refine hits_cond rfl (fun c20 => absurd c20 Bool.false_ne_true) (fun c20 => ?_)
                                            refine hits_seq ?_
                                            by_cases g12 : c = 43
                                            · refine hits_region ?_
                                              refine sq (f_bin rfl rfl (bT (beq_iff_eq.mpr (by rw [g12]; rfl))) (lt rfl)) rfl rfl ?_
                                              refine sq (f_assign rfl (lt rfl)) rfl rfl ?_
                                              refine hits_nil ?_
                                              refine to_next ?_
                                              refine hits_cond rfl (fun c21 => ?_) (fun c21 => absurd c21 Bool.false_ne_true.symm)
                                              refine hits_skip ?_
                                              refine to_next ?_
                                              refine hits_cond rfl (fun c27 => ?_) (fun c27 => absurd c27 Bool.false_ne_true.symm)
                                              refine hits_seq ?_
                                              refine hits_region ?_
                                              refine sq (f_move rfl (lt rfl)) rfl rfl ?_
                                              refine sq (f_move rfl (lt rfl)) rfl rfl ?_
                                              refine sq (f_move rfl (lt rfl)) rfl rfl ?_
                                              refine sq (f_bin rfl rfl (iT (((IntWalk.i64_in _ (by omega)).trans (by omega) : _ = ((i + 1 : Nat) : Int)))) (lt rfl)) rfl rfl ?_
                                              refine sq (f_sliceI rfl rfl rfl un9 (by omega) (by omega) (by rw [B_size]; omega) (ext_one hat0) (lt rfl)) rfl rfl ?_
                                              refine sq (f_assign rfl (lt rfl)) rfl rfl ?_
                                              refine hits_nil ?_
                                              refine to_next ?_
                                              refine hits_ret ?_
                                              refine in_ret ?_
                                              refine to_ret ?_
                                              exact hits_done (.inl rfl) rfl rfl (by rw [sg_one hat0 h2 (by rw [g12]; decide)]; rfl)
                                            · refine hits_region ?_
                                              refine sq (f_bin rfl rfl (bT (beq_eq_false_iff_ne.mpr (byte_neq (n := 43) (by decide) g12))) (lt rfl)) rfl rfl ?_
                                              refine sq (f_assign rfl (lt rfl)) rfl rfl ?_
                                              refine hits_nil ?_
                                              refine to_next ?_
                                              refine hits_cond rfl (fun c21 => absurd c21 Bool.false_ne_true) (fun c21 => ?_)
                                              refine hits_seq ?_
                                              by_cases g13 : c = 45
                                              · refine hits_region ?_
                                                refine sq (f_bin rfl rfl (bT (beq_iff_eq.mpr (by rw [g13]; rfl))) (lt rfl)) rfl rfl ?_
                                                refine sq (f_assign rfl (lt rfl)) rfl rfl ?_
                                                refine hits_nil ?_
                                                refine to_next ?_
                                                refine hits_cond rfl (fun c22 => ?_) (fun c22 => absurd c22 Bool.false_ne_true.symm)
                                                refine hits_skip ?_
                                                refine to_next ?_
                                                refine hits_cond rfl (fun c27 => ?_) (fun c27 => absurd c27 Bool.false_ne_true.symm)
                                                refine hits_seq ?_
                                                refine hits_region ?_
                                                refine sq (f_move rfl (lt rfl)) rfl rfl ?_
                                                refine sq (f_move rfl (lt rfl)) rfl rfl ?_
                                                refine sq (f_move rfl (lt rfl)) rfl rfl ?_
                                                refine sq (f_bin rfl rfl (iT (((IntWalk.i64_in _ (by omega)).trans (by omega) : _ = ((i + 1 : Nat) : Int)))) (lt rfl)) rfl rfl ?_
                                                refine sq (f_sliceI rfl rfl rfl un9 (by omega) (by omega) (by rw [B_size]; omega) (ext_one hat0) (lt rfl)) rfl rfl ?_
                                                refine sq (f_assign rfl (lt rfl)) rfl rfl ?_
                                                refine hits_nil ?_
                                                refine to_next ?_
                                                refine hits_ret ?_
                                                refine in_ret ?_
                                                refine to_ret ?_
                                                exact hits_done (.inl rfl) rfl rfl (by rw [sg_one hat0 h2 (by rw [g13]; decide)]; rfl)
                                              · refine hits_region ?_
                                                refine sq (f_bin rfl rfl (bT (beq_eq_false_iff_ne.mpr (byte_neq (n := 45) (by decide) g13))) (lt rfl)) rfl rfl ?_
                                                refine sq (f_assign rfl (lt rfl)) rfl rfl ?_
                                                refine hits_nil ?_
                                                refine to_next ?_
                                                refine hits_cond rfl (fun c22 => absurd c22 Bool.false_ne_true) (fun c22 => ?_)
                                                refine hits_seq ?_
                                                by_cases g14 : c = 42
                                                · refine hits_region ?_
                                                  refine sq (f_bin rfl rfl (bT (beq_iff_eq.mpr (by rw [g14]; rfl))) (lt rfl)) rfl rfl ?_
                                                  refine sq (f_assign rfl (lt rfl)) rfl rfl ?_
                                                  refine hits_nil ?_
                                                  refine to_next ?_
                                                  refine hits_cond rfl (fun c23 => ?_) (fun c23 => absurd c23 Bool.false_ne_true.symm)
                                                  refine hits_skip ?_
                                                  refine to_next ?_
                                                  refine hits_cond rfl (fun c27 => ?_) (fun c27 => absurd c27 Bool.false_ne_true.symm)
                                                  refine hits_seq ?_
                                                  refine hits_region ?_
                                                  refine sq (f_move rfl (lt rfl)) rfl rfl ?_
                                                  refine sq (f_move rfl (lt rfl)) rfl rfl ?_
                                                  refine sq (f_move rfl (lt rfl)) rfl rfl ?_
                                                  refine sq (f_bin rfl rfl (iT (((IntWalk.i64_in _ (by omega)).trans (by omega) : _ = ((i + 1 : Nat) : Int)))) (lt rfl)) rfl rfl ?_
                                                  refine sq (f_sliceI rfl rfl rfl un9 (by omega) (by omega) (by rw [B_size]; omega) (ext_one hat0) (lt rfl)) rfl rfl ?_
                                                  refine sq (f_assign rfl (lt rfl)) rfl rfl ?_
                                                  refine hits_nil ?_
                                                  refine to_next ?_
                                                  refine hits_ret ?_
                                                  refine in_ret ?_
                                                  refine to_ret ?_
                                                  exact hits_done (.inl rfl) rfl rfl (by rw [sg_one hat0 h2 (by rw [g14]; decide)]; rfl)
                                                · refine hits_region ?_
                                                  refine sq (f_bin rfl rfl (bT (beq_eq_false_iff_ne.mpr (byte_neq (n := 42) (by decide) g14))) (lt rfl)) rfl rfl ?_
                                                  refine sq (f_assign rfl (lt rfl)) rfl rfl ?_
                                                  refine hits_nil ?_
                                                  refine to_next ?_
                                                  refine hits_cond rfl (fun c23 => absurd c23 Bool.false_ne_true) (fun c23 => ?_)
                                                  refine hits_seq ?_
                                                  by_cases g15 : c = 38
                                                  · refine hits_region ?_
                                                    refine sq (f_bin rfl rfl (bT (beq_iff_eq.mpr (by rw [g15]; rfl))) (lt rfl)) rfl rfl ?_
                                                    refine sq (f_assign rfl (lt rfl)) rfl rfl ?_
                                                    refine hits_nil ?_
                                                    refine to_next ?_
                                                    refine hits_cond rfl (fun c24 => ?_) (fun c24 => absurd c24 Bool.false_ne_true.symm)
                                                    refine hits_skip ?_
                                                    refine to_next ?_
                                                    refine hits_cond rfl (fun c27 => ?_) (fun c27 => absurd c27 Bool.false_ne_true.symm)
                                                    refine hits_seq ?_
                                                    refine hits_region ?_
                                                    refine sq (f_move rfl (lt rfl)) rfl rfl ?_
                                                    refine sq (f_move rfl (lt rfl)) rfl rfl ?_
                                                    refine sq (f_move rfl (lt rfl)) rfl rfl ?_
                                                    refine sq (f_bin rfl rfl (iT (((IntWalk.i64_in _ (by omega)).trans (by omega) : _ = ((i + 1 : Nat) : Int)))) (lt rfl)) rfl rfl ?_
                                                    refine sq (f_sliceI rfl rfl rfl un9 (by omega) (by omega) (by rw [B_size]; omega) (ext_one hat0) (lt rfl)) rfl rfl ?_
                                                    refine sq (f_assign rfl (lt rfl)) rfl rfl ?_
                                                    refine hits_nil ?_
                                                    refine to_next ?_
                                                    refine hits_ret ?_
                                                    refine in_ret ?_
                                                    refine to_ret ?_
                                                    exact hits_done (.inl rfl) rfl rfl (by rw [sg_one hat0 h2 (by rw [g15]; decide)]; rfl)
                                                  · refine hits_region ?_
                                                    refine sq (f_bin rfl rfl (bT (beq_eq_false_iff_ne.mpr (byte_neq (n := 38) (by decide) g15))) (lt rfl)) rfl rfl ?_
                                                    refine sq (f_assign rfl (lt rfl)) rfl rfl ?_
                                                    refine hits_nil ?_
                                                    refine to_next ?_
                                                    refine hits_cond rfl (fun c24 => absurd c24 Bool.false_ne_true) (fun c24 => ?_)
                                                    refine hits_seq ?_
                                                    by_cases g16 : c = 124
                                                    · refine hits_region ?_
                                                      refine sq (f_bin rfl rfl (bT (beq_iff_eq.mpr (by rw [g16]; rfl))) (lt rfl)) rfl rfl ?_
                                                      refine sq (f_assign rfl (lt rfl)) rfl rfl ?_
                                                      refine hits_nil ?_
                                                      refine to_next ?_
                                                      refine hits_cond rfl (fun c25 => ?_) (fun c25 => absurd c25 Bool.false_ne_true.symm)
                                                      refine hits_skip ?_
                                                      refine to_next ?_
                                                      refine hits_cond rfl (fun c27 => ?_) (fun c27 => absurd c27 Bool.false_ne_true.symm)
                                                      refine hits_seq ?_
                                                      refine hits_region ?_
                                                      refine sq (f_move rfl (lt rfl)) rfl rfl ?_
                                                      refine sq (f_move rfl (lt rfl)) rfl rfl ?_
                                                      refine sq (f_move rfl (lt rfl)) rfl rfl ?_
                                                      refine sq (f_bin rfl rfl (iT (((IntWalk.i64_in _ (by omega)).trans (by omega) : _ = ((i + 1 : Nat) : Int)))) (lt rfl)) rfl rfl ?_
                                                      refine sq (f_sliceI rfl rfl rfl un9 (by omega) (by omega) (by rw [B_size]; omega) (ext_one hat0) (lt rfl)) rfl rfl ?_
                                                      refine sq (f_assign rfl (lt rfl)) rfl rfl ?_
                                                      refine hits_nil ?_
                                                      refine to_next ?_
                                                      refine hits_ret ?_
                                                      refine in_ret ?_
                                                      refine to_ret ?_
                                                      exact hits_done (.inl rfl) rfl rfl (by rw [sg_one hat0 h2 (by rw [g16]; decide)]; rfl)
                                                    · refine hits_region ?_
                                                      refine sq (f_bin rfl rfl (bT (beq_eq_false_iff_ne.mpr (byte_neq (n := 124) (by decide) g16))) (lt rfl)) rfl rfl ?_
                                                      refine sq (f_assign rfl (lt rfl)) rfl rfl ?_
                                                      refine hits_nil ?_
                                                      refine to_next ?_
                                                      refine hits_cond rfl (fun c25 => absurd c25 Bool.false_ne_true) (fun c25 => ?_)
                                                      refine hits_seq ?_
                                                      by_cases g17 : c = 94
                                                      · refine hits_region ?_
                                                        refine sq (f_bin rfl rfl (bT (beq_iff_eq.mpr (by rw [g17]; rfl))) (lt rfl)) rfl rfl ?_
                                                        refine sq (f_assign rfl (lt rfl)) rfl rfl ?_
                                                        refine hits_nil ?_
                                                        refine to_next ?_
                                                        refine hits_cond rfl (fun c26 => ?_) (fun c26 => absurd c26 Bool.false_ne_true.symm)
                                                        refine hits_skip ?_
                                                        refine to_next ?_
                                                        refine hits_cond rfl (fun c27 => ?_) (fun c27 => absurd c27 Bool.false_ne_true.symm)
                                                        refine hits_seq ?_
                                                        refine hits_region ?_
                                                        refine sq (f_move rfl (lt rfl)) rfl rfl ?_
                                                        refine sq (f_move rfl (lt rfl)) rfl rfl ?_
                                                        refine sq (f_move rfl (lt rfl)) rfl rfl ?_
                                                        refine sq (f_bin rfl rfl (iT (((IntWalk.i64_in _ (by omega)).trans (by omega) : _ = ((i + 1 : Nat) : Int)))) (lt rfl)) rfl rfl ?_
                                                        refine sq (f_sliceI rfl rfl rfl un9 (by omega) (by omega) (by rw [B_size]; omega) (ext_one hat0) (lt rfl)) rfl rfl ?_
                                                        refine sq (f_assign rfl (lt rfl)) rfl rfl ?_
                                                        refine hits_nil ?_
                                                        refine to_next ?_
                                                        refine hits_ret ?_
                                                        refine in_ret ?_
                                                        refine to_ret ?_
                                                        exact hits_done (.inl rfl) rfl rfl (by rw [sg_one hat0 h2 (by rw [g17]; decide)]; rfl)
                                                      · refine hits_region ?_
                                                        refine sq (f_bin rfl rfl (bT (beq_eq_false_iff_ne.mpr (byte_neq (n := 94) (by decide) g17))) (lt rfl)) rfl rfl ?_
                                                        refine sq (f_assign rfl (lt rfl)) rfl rfl ?_
                                                        refine hits_nil ?_
                                                        refine to_next ?_
                                                        refine hits_cond rfl (fun c26 => absurd c26 Bool.false_ne_true) (fun c26 => ?_)
                                                        by_cases g18 : c = 126
                                                        · refine hits_region ?_
                                                          refine sq (f_bin rfl rfl (bT (beq_iff_eq.mpr (by rw [g18]; rfl))) (lt rfl)) rfl rfl ?_
                                                          refine sq (f_assign rfl (lt rfl)) rfl rfl ?_
                                                          refine hits_nil ?_
                                                          refine to_next ?_
                                                          refine hits_cond rfl (fun c27 => ?_) (fun c27 => absurd c27 Bool.false_ne_true.symm)
                                                          refine hits_seq ?_
                                                          refine hits_region ?_
                                                          refine sq (f_move rfl (lt rfl)) rfl rfl ?_
                                                          refine sq (f_move rfl (lt rfl)) rfl rfl ?_
                                                          refine sq (f_move rfl (lt rfl)) rfl rfl ?_
                                                          refine sq (f_bin rfl rfl (iT (((IntWalk.i64_in _ (by omega)).trans (by omega) : _ = ((i + 1 : Nat) : Int)))) (lt rfl)) rfl rfl ?_
                                                          refine sq (f_sliceI rfl rfl rfl un9 (by omega) (by omega) (by rw [B_size]; omega) (ext_one hat0) (lt rfl)) rfl rfl ?_
                                                          refine sq (f_assign rfl (lt rfl)) rfl rfl ?_
                                                          refine hits_nil ?_
                                                          refine to_next ?_
                                                          refine hits_ret ?_
                                                          refine in_ret ?_
                                                          refine to_ret ?_
                                                          exact hits_done (.inl rfl) rfl rfl (by rw [sg_one hat0 h2 (by rw [g18]; decide)]; rfl)
                                                        · refine hits_region ?_
                                                          refine sq (f_bin rfl rfl (bT (beq_eq_false_iff_ne.mpr (byte_neq (n := 126) (by decide) g18))) (lt rfl)) rfl rfl ?_
                                                          refine sq (f_assign rfl (lt rfl)) rfl rfl ?_
                                                          refine hits_nil ?_
                                                          refine to_next ?_
                                                          refine hits_cond rfl (fun c27 => absurd c27 Bool.false_ne_true) (fun c27 => ?_)
                                                          refine hits_skip ?_
                                                          refine in_next ?_
                                                          refine to_next ?_
                                                          refine hits_seq ?_
                                                          refine hits_region ?_
                                                          refine sq (f_assign rfl (lt rfl)) rfl rfl ?_
                                                          refine hits_nil ?_
                                                          refine to_next ?_
                                                          refine hits_ret ?_
                                                          exact hits_done (.inl rfl) rfl rfl (by rw [sg_none hat0 h2 (by simp only [sg1, List.mem_cons, List.not_mem_nil, or_false, not_or]; exact ⟨g0, g1, g2, g3, g4, g5, g6, g7, g8, g9, g10, g11, g12, g13, g14, g15, g16, g17, g18⟩)]; rfl)
  · have h2 := sg_end c hi1
    refine hits_region ?_
    refine sq (f_move rfl (lt rfl)) rfl rfl ?_
    refine sq (f_bin rfl rfl (iT (((IntWalk.i64_in _ (by omega)).trans (by omega) : _ = ((i + 1 : Nat) : Int)))) (lt rfl)) rfl rfl ?_
    refine sq (f_move rfl (lt rfl)) rfl rfl ?_
    refine sq (f_lenStr rfl un9 (lt rfl)) rfl rfl ?_
    refine sq (f_bin rfl rfl (bT (decide_eq_false (by rw [B_size]; omega))) (lt rfl)) rfl rfl ?_
    refine hits_nil ?_
    refine to_next ?_
    refine hits_cond rfl (fun c0 => absurd c0 Bool.false_ne_true) (fun c0 => ?_)
    refine hits_skip ?_
    refine to_next ?_
    refine hits_seq ?_
    refine hits_seq ?_
    refine hits_region ?_
    refine sq (f_move rfl (lt rfl)) rfl rfl ?_
    refine sq (f_move rfl (lt rfl)) rfl rfl ?_
    refine sq (f_idxS rfl rfl un9 hat (lt rfl)) rfl rfl ?_
    refine hits_nil ?_
    refine to_next ?_
    refine hits_block ?_
    refine hits_seq ?_
    refine hits_seq ?_
    by_cases g0 : c = 123
    · refine hits_region ?_
      refine sq (f_bin rfl rfl (bT (beq_iff_eq.mpr (by rw [g0]; rfl))) (lt rfl)) rfl rfl ?_
      refine sq (f_assign rfl (lt rfl)) rfl rfl ?_
      refine hits_nil ?_
      refine to_next ?_
      refine hits_cond rfl (fun c9 => ?_) (fun c9 => absurd c9 Bool.false_ne_true.symm)
      refine hits_skip ?_
      refine to_next ?_
      refine hits_cond rfl (fun c27 => ?_) (fun c27 => absurd c27 Bool.false_ne_true.symm)
      refine hits_seq ?_
      refine hits_region ?_
      refine sq (f_move rfl (lt rfl)) rfl rfl ?_
      refine sq (f_move rfl (lt rfl)) rfl rfl ?_
      refine sq (f_move rfl (lt rfl)) rfl rfl ?_
      refine sq (f_bin rfl rfl (iT (((IntWalk.i64_in _ (by omega)).trans (by omega) : _ = ((i + 1 : Nat) : Int)))) (lt rfl)) rfl rfl ?_
      refine sq (f_sliceI rfl rfl rfl un9 (by omega) (by omega) (by rw [B_size]; omega) (ext_one hat0) (lt rfl)) rfl rfl ?_
      refine sq (f_assign rfl (lt rfl)) rfl rfl ?_
      refine hits_nil ?_
      refine to_next ?_
      refine hits_ret ?_
      refine in_ret ?_
      refine to_ret ?_
      exact hits_done (.inl rfl) rfl rfl (by rw [sg_one hat0 h2 (by rw [g0]; decide)]; rfl)
    · refine hits_region ?_
      refine sq (f_bin rfl rfl (bT (beq_eq_false_iff_ne.mpr (byte_neq (n := 123) (by decide) g0))) (lt rfl)) rfl rfl ?_
      refine sq (f_assign rfl (lt rfl)) rfl rfl ?_
      refine hits_nil ?_
      refine to_next ?_
      refine hits_cond rfl (fun c9 => absurd c9 Bool.false_ne_true) (fun c9 => ?_)
      refine hits_seq ?_
      by_cases g1 : c = 125
      · refine hits_region ?_
        refine sq (f_bin rfl rfl (bT (beq_iff_eq.mpr (by rw [g1]; rfl))) (lt rfl)) rfl rfl ?_
        refine sq (f_assign rfl (lt rfl)) rfl rfl ?_
        refine hits_nil ?_
        refine to_next ?_
        refine hits_cond rfl (fun c10 => ?_) (fun c10 => absurd c10 Bool.false_ne_true.symm)
        refine hits_skip ?_
        refine to_next ?_
        refine hits_cond rfl (fun c27 => ?_) (fun c27 => absurd c27 Bool.false_ne_true.symm)
        refine hits_seq ?_
        refine hits_region ?_
        refine sq (f_move rfl (lt rfl)) rfl rfl ?_
        refine sq (f_move rfl (lt rfl)) rfl rfl ?_
        refine sq (f_move rfl (lt rfl)) rfl rfl ?_
        refine sq (f_bin rfl rfl (iT (((IntWalk.i64_in _ (by omega)).trans (by omega) : _ = ((i + 1 : Nat) : Int)))) (lt rfl)) rfl rfl ?_
        refine sq (f_sliceI rfl rfl rfl un9 (by omega) (by omega) (by rw [B_size]; omega) (ext_one hat0) (lt rfl)) rfl rfl ?_
        refine sq (f_assign rfl (lt rfl)) rfl rfl ?_
        refine hits_nil ?_
        refine to_next ?_
        refine hits_ret ?_
        refine in_ret ?_
        refine to_ret ?_
        exact hits_done (.inl rfl) rfl rfl (by rw [sg_one hat0 h2 (by rw [g1]; decide)]; rfl)
      · refine hits_region ?_
        refine sq (f_bin rfl rfl (bT (beq_eq_false_iff_ne.mpr (byte_neq (n := 125) (by decide) g1))) (lt rfl)) rfl rfl ?_
        refine sq (f_assign rfl (lt rfl)) rfl rfl ?_
        refine hits_nil ?_
        refine to_next ?_
        refine hits_cond rfl (fun c10 => absurd c10 Bool.false_ne_true) (fun c10 => ?_)
        refine hits_seq ?_
        by_cases g2 : c = 40
        · refine hits_region ?_
          refine sq (f_bin rfl rfl (bT (beq_iff_eq.mpr (by rw [g2]; rfl))) (lt rfl)) rfl rfl ?_
          refine sq (f_assign rfl (lt rfl)) rfl rfl ?_
          refine hits_nil ?_
          refine to_next ?_
          refine hits_cond rfl (fun c11 => ?_) (fun c11 => absurd c11 Bool.false_ne_true.symm)
          refine hits_skip ?_
          refine to_next ?_
          refine hits_cond rfl (fun c27 => ?_) (fun c27 => absurd c27 Bool.false_ne_true.symm)
          refine hits_seq ?_
          refine hits_region ?_
          refine sq (f_move rfl (lt rfl)) rfl rfl ?_
          refine sq (f_move rfl (lt rfl)) rfl rfl ?_
          refine sq (f_move rfl (lt rfl)) rfl rfl ?_
          refine sq (f_bin rfl rfl (iT (((IntWalk.i64_in _ (by omega)).trans (by omega) : _ = ((i + 1 : Nat) : Int)))) (lt rfl)) rfl rfl ?_
          refine sq (f_sliceI rfl rfl rfl un9 (by omega) (by omega) (by rw [B_size]; omega) (ext_one hat0) (lt rfl)) rfl rfl ?_
          refine sq (f_assign rfl (lt rfl)) rfl rfl ?_
          refine hits_nil ?_
          refine to_next ?_
          refine hits_ret ?_
          refine in_ret ?_
          refine to_ret ?_
          exact hits_done (.inl rfl) rfl rfl (by rw [sg_one hat0 h2 (by rw [g2]; decide)]; rfl)
        · refine hits_region ?_
          refine sq (f_bin rfl rfl (bT (beq_eq_false_iff_ne.mpr (byte_neq (n := 40) (by decide) g2))) (lt rfl)) rfl rfl ?_
          refine sq (f_assign rfl (lt rfl)) rfl rfl ?_
          refine hits_nil ?_
          refine to_next ?_
          refine hits_cond rfl (fun c11 => absurd c11 Bool.false_ne_true) (fun c11 => ?_)
          refine hits_seq ?_
          by_cases g3 : c = 41
          · refine hits_region ?_
            refine sq (f_bin rfl rfl (bT (beq_iff_eq.mpr (by rw [g3]; rfl))) (lt rfl)) rfl rfl ?_
            refine sq (f_assign rfl (lt rfl)) rfl rfl ?_
            refine hits_nil ?_
            refine to_next ?_
            refine hits_cond rfl (fun c12 => ?_) (fun c12 => absurd c12 Bool.false_ne_true.symm)
            refine hits_skip ?_
            refine to_next ?_
            refine hits_cond rfl (fun c27 => ?_) (fun c27 => absurd c27 Bool.false_ne_true.symm)
            refine hits_seq ?_
            refine hits_region ?_
            refine sq (f_move rfl (lt rfl)) rfl rfl ?_
            refine sq (f_move rfl (lt rfl)) rfl rfl ?_
            refine sq (f_move rfl (lt rfl)) rfl rfl ?_
            refine sq (f_bin rfl rfl (iT (((IntWalk.i64_in _ (by omega)).trans (by omega) : _ = ((i + 1 : Nat) : Int)))) (lt rfl)) rfl rfl ?_
            refine sq (f_sliceI rfl rfl rfl un9 (by omega) (by omega) (by rw [B_size]; omega) (ext_one hat0) (lt rfl)) rfl rfl ?_
            refine sq (f_assign rfl (lt rfl)) rfl rfl ?_
            refine hits_nil ?_
            refine to_next ?_
            refine hits_ret ?_
            refine in_ret ?_
            refine to_ret ?_
            exact hits_done (.inl rfl) rfl rfl (by rw [sg_one hat0 h2 (by rw [g3]; decide)]; rfl)
          · refine hits_region ?_
            refine sq (f_bin rfl rfl (bT (beq_eq_false_iff_ne.mpr (byte_neq (n := 41) (by decide) g3))) (lt rfl)) rfl rfl ?_
            refine sq (f_assign rfl (lt rfl)) rfl rfl ?_
            refine hits_nil ?_
            refine to_next ?_
            refine hits_cond rfl (fun c12 => absurd c12 Bool.false_ne_true) (fun c12 => ?_)
            refine hits_seq ?_
            by_cases g4 : c = 91
            · refine hits_region ?_
              refine sq (f_bin rfl rfl (bT (beq_iff_eq.mpr (by rw [g4]; rfl))) (lt rfl)) rfl rfl ?_
              refine sq (f_assign rfl (lt rfl)) rfl rfl ?_
              refine hits_nil ?_
              refine to_next ?_
              refine hits_cond rfl (fun c13 => ?_) (fun c13 => absurd c13 Bool.false_ne_true.symm)
              refine hits_skip ?_
              refine to_next ?_
              refine hits_cond rfl (fun c27 => ?_) (fun c27 => absurd c27 Bool.false_ne_true.symm)
              refine hits_seq ?_
              refine hits_region ?_
              refine sq (f_move rfl (lt rfl)) rfl rfl ?_
              refine sq (f_move rfl (lt rfl)) rfl rfl ?_
              refine sq (f_move rfl (lt rfl)) rfl rfl ?_
              refine sq (f_bin rfl rfl (iT (((IntWalk.i64_in _ (by omega)).trans (by omega) : _ = ((i + 1 : Nat) : Int)))) (lt rfl)) rfl rfl ?_
              refine sq (f_sliceI rfl rfl rfl un9 (by omega) (by omega) (by rw [B_size]; omega) (ext_one hat0) (lt rfl)) rfl rfl ?_
              refine sq (f_assign rfl (lt rfl)) rfl rfl ?_
              refine hits_nil ?_
              refine to_next ?_
              refine hits_ret ?_
              refine in_ret ?_
              refine to_ret ?_
              exact hits_done (.inl rfl) rfl rfl (by rw [sg_one hat0 h2 (by rw [g4]; decide)]; rfl)
            · refine hits_region ?_
              refine sq (f_bin rfl rfl (bT (beq_eq_false_iff_ne.mpr (byte_neq (n := 91) (by decide) g4))) (lt rfl)) rfl rfl ?_
              refine sq (f_assign rfl (lt rfl)) rfl rfl ?_
              refine hits_nil ?_
              refine to_next ?_
              refine hits_cond rfl (fun c13 => absurd c13 Bool.false_ne_true) (fun c13 => ?_)
              refine hits_seq ?_
              by_cases g5 : c = 93
              · refine hits_region ?_
                refine sq (f_bin rfl rfl (bT (beq_iff_eq.mpr (by rw [g5]; rfl))) (lt rfl)) rfl rfl ?_
                refine sq (f_assign rfl (lt rfl)) rfl rfl ?_
                refine hits_nil ?_
                refine to_next ?_
                refine hits_cond rfl (fun c14 => ?_) (fun c14 => absurd c14 Bool.false_ne_true.symm)
                refine hits_skip ?_
                refine to_next ?_
                refine hits_cond rfl (fun c27 => ?_) (fun c27 => absurd c27 Bool.false_ne_true.symm)
                refine hits_seq ?_
                refine hits_region ?_
                refine sq (f_move rfl (lt rfl)) rfl rfl ?_
                refine sq (f_move rfl (lt rfl)) rfl rfl ?_
                refine sq (f_move rfl (lt rfl)) rfl rfl ?_
                refine sq (f_bin rfl rfl (iT (((IntWalk.i64_in _ (by omega)).trans (by omega) : _ = ((i + 1 : Nat) : Int)))) (lt rfl)) rfl rfl ?_
                refine sq (f_sliceI rfl rfl rfl un9 (by omega) (by omega) (by rw [B_size]; omega) (ext_one hat0) (lt rfl)) rfl rfl ?_
                refine sq (f_assign rfl (lt rfl)) rfl rfl ?_
                refine hits_nil ?_
                refine to_next ?_
                refine hits_ret ?_
                refine in_ret ?_
                refine to_ret ?_
                exact hits_done (.inl rfl) rfl rfl (by rw [sg_one hat0 h2 (by rw [g5]; decide)]; rfl)
              · refine hits_region ?_
                refine sq (f_bin rfl rfl (bT (beq_eq_false_iff_ne.mpr (byte_neq (n := 93) (by decide) g5))) (lt rfl)) rfl rfl ?_
                refine sq (f_assign rfl (lt rfl)) rfl rfl ?_
                refine hits_nil ?_
                refine to_next ?_
                refine hits_cond rfl (fun c14 => absurd c14 Bool.false_ne_true) (fun c14 => ?_)
                refine hits_seq ?_
                by_cases g6 : c = 59
                · refine hits_region ?_
                  refine sq (f_bin rfl rfl (bT (beq_iff_eq.mpr (by rw [g6]; rfl))) (lt rfl)) rfl rfl ?_
                  refine sq (f_assign rfl (lt rfl)) rfl rfl ?_
                  refine hits_nil ?_
                  refine to_next ?_
                  refine hits_cond rfl (fun c15 => ?_) (fun c15 => absurd c15 Bool.false_ne_true.symm)
                  refine hits_skip ?_
                  refine to_next ?_
                  refine hits_cond rfl (fun c27 => ?_) (fun c27 => absurd c27 Bool.false_ne_true.symm)
                  refine hits_seq ?_
                  refine hits_region ?_
                  refine sq (f_move rfl (lt rfl)) rfl rfl ?_
                  refine sq (f_move rfl (lt rfl)) rfl rfl ?_
                  refine sq (f_move rfl (lt rfl)) rfl rfl ?_
                  refine sq (f_bin rfl rfl (iT (((IntWalk.i64_in _ (by omega)).trans (by omega) : _ = ((i + 1 : Nat) : Int)))) (lt rfl)) rfl rfl ?_
                  refine sq (f_sliceI rfl rfl rfl un9 (by omega) (by omega) (by rw [B_size]; omega) (ext_one hat0) (lt rfl)) rfl rfl ?_
                  refine sq (f_assign rfl (lt rfl)) rfl rfl ?_
                  refine hits_nil ?_
                  refine to_next ?_
                  refine hits_ret ?_
                  refine in_ret ?_
                  refine to_ret ?_
                  exact hits_done (.inl rfl) rfl rfl (by rw [sg_one hat0 h2 (by rw [g6]; decide)]; rfl)
                · refine hits_region ?_
                  refine sq (f_bin rfl rfl (bT (beq_eq_false_iff_ne.mpr (byte_neq (n := 59) (by decide) g6))) (lt rfl)) rfl rfl ?_
                  refine sq (f_assign rfl (lt rfl)) rfl rfl ?_
                  refine hits_nil ?_
                  refine to_next ?_
                  refine hits_cond rfl (fun c15 => absurd c15 Bool.false_ne_true) (fun c15 => ?_)
                  refine hits_seq ?_
                  by_cases g7 : c = 58
                  · refine hits_region ?_
                    refine sq (f_bin rfl rfl (bT (beq_iff_eq.mpr (by rw [g7]; rfl))) (lt rfl)) rfl rfl ?_
                    refine sq (f_assign rfl (lt rfl)) rfl rfl ?_
                    refine hits_nil ?_
                    refine to_next ?_
                    refine hits_cond rfl (fun c16 => ?_) (fun c16 => absurd c16 Bool.false_ne_true.symm)
                    refine hits_skip ?_
                    refine to_next ?_
                    refine hits_cond rfl (fun c27 => ?_) (fun c27 => absurd c27 Bool.false_ne_true.symm)
                    refine hits_seq ?_
                    refine hits_region ?_
                    refine sq (f_move rfl (lt rfl)) rfl rfl ?_
                    refine sq (f_move rfl (lt rfl)) rfl rfl ?_
                    refine sq (f_move rfl (lt rfl)) rfl rfl ?_
                    refine sq (f_bin rfl rfl (iT (((IntWalk.i64_in _ (by omega)).trans (by omega) : _ = ((i + 1 : Nat) : Int)))) (lt rfl)) rfl rfl ?_
                    refine sq (f_sliceI rfl rfl rfl un9 (by omega) (by omega) (by rw [B_size]; omega) (ext_one hat0) (lt rfl)) rfl rfl ?_
                    refine sq (f_assign rfl (lt rfl)) rfl rfl ?_
                    refine hits_nil ?_
                    refine to_next ?_
                    refine hits_ret ?_
                    refine in_ret ?_
                    refine to_ret ?_
                    exact hits_done (.inl rfl) rfl rfl (by rw [sg_one hat0 h2 (by rw [g7]; decide)]; rfl)
                  · refine hits_region ?_
                    refine sq (f_bin rfl rfl (bT (beq_eq_false_iff_ne.mpr (byte_neq (n := 58) (by decide) g7))) (lt rfl)) rfl rfl ?_
                    refine sq (f_assign rfl (lt rfl)) rfl rfl ?_
                    refine hits_nil ?_
                    refine to_next ?_
                    refine hits_cond rfl (fun c16 => absurd c16 Bool.false_ne_true) (fun c16 => ?_)
                    refine hits_seq ?_
                    by_cases g8 : c = 44
                    · refine hits_region ?_
                      refine sq (f_bin rfl rfl (bT (beq_iff_eq.mpr (by rw [g8]; rfl))) (lt rfl)) rfl rfl ?_
                      refine sq (f_assign rfl (lt rfl)) rfl rfl ?_
                      refine hits_nil ?_
                      refine to_next ?_
                      refine hits_cond rfl (fun c17 => ?_) (fun c17 => absurd c17 Bool.false_ne_true.symm)
                      refine hits_skip ?_
                      refine to_next ?_
                      refine hits_cond rfl (fun c27 => ?_) (fun c27 => absurd c27 Bool.false_ne_true.symm)
                      refine hits_seq ?_
                      refine hits_region ?_
                      refine sq (f_move rfl (lt rfl)) rfl rfl ?_
                      refine sq (f_move rfl (lt rfl)) rfl rfl ?_
                      refine sq (f_move rfl (lt rfl)) rfl rfl ?_
                      refine sq (f_bin rfl rfl (iT (((IntWalk.i64_in _ (by omega)).trans (by omega) : _ = ((i + 1 : Nat) : Int)))) (lt rfl)) rfl rfl ?_
                      refine sq (f_sliceI rfl rfl rfl un9 (by omega) (by omega) (by rw [B_size]; omega) (ext_one hat0) (lt rfl)) rfl rfl ?_
                      refine sq (f_assign rfl (lt rfl)) rfl rfl ?_
                      refine hits_nil ?_
                      refine to_next ?_
                      refine hits_ret ?_
                      refine in_ret ?_
                      refine to_ret ?_
                      exact hits_done (.inl rfl) rfl rfl (by rw [sg_one hat0 h2 (by rw [g8]; decide)]; rfl)
                    · refine hits_region ?_
                      refine sq (f_bin rfl rfl (bT (beq_eq_false_iff_ne.mpr (byte_neq (n := 44) (by decide) g8))) (lt rfl)) rfl rfl ?_
                      refine sq (f_assign rfl (lt rfl)) rfl rfl ?_
                      refine hits_nil ?_
                      refine to_next ?_
                      refine hits_cond rfl (fun c17 => absurd c17 Bool.false_ne_true) (fun c17 => ?_)
                      refine hits_seq ?_
                      by_cases g9 : c = 46
                      · refine hits_region ?_
                        refine sq (f_bin rfl rfl (bT (beq_iff_eq.mpr (by rw [g9]; rfl))) (lt rfl)) rfl rfl ?_
                        refine sq (f_assign rfl (lt rfl)) rfl rfl ?_
                        refine hits_nil ?_
                        refine to_next ?_
                        refine hits_cond rfl (fun c18 => ?_) (fun c18 => absurd c18 Bool.false_ne_true.symm)
                        refine hits_skip ?_
                        refine to_next ?_
                        refine hits_cond rfl (fun c27 => ?_) (fun c27 => absurd c27 Bool.false_ne_true.symm)
                        refine hits_seq ?_
                        refine hits_region ?_
                        refine sq (f_move rfl (lt rfl)) rfl rfl ?_
                        refine sq (f_move rfl (lt rfl)) rfl rfl ?_
                        refine sq (f_move rfl (lt rfl)) rfl rfl ?_
                        refine sq (f_bin rfl rfl (iT (((IntWalk.i64_in _ (by omega)).trans (by omega) : _ = ((i + 1 : Nat) : Int)))) (lt rfl)) rfl rfl ?_
                        refine sq (f_sliceI rfl rfl rfl un9 (by omega) (by omega) (by rw [B_size]; omega) (ext_one hat0) (lt rfl)) rfl rfl ?_
                        refine sq (f_assign rfl (lt rfl)) rfl rfl ?_
                        refine hits_nil ?_
                        refine to_next ?_
                        refine hits_ret ?_
                        refine in_ret ?_
                        refine to_ret ?_
                        exact hits_done (.inl rfl) rfl rfl (by rw [sg_one hat0 h2 (by rw [g9]; decide)]; rfl)
                      · refine hits_region ?_
                        refine sq (f_bin rfl rfl (bT (beq_eq_false_iff_ne.mpr (byte_neq (n := 46) (by decide) g9))) (lt rfl)) rfl rfl ?_
                        refine sq (f_assign rfl (lt rfl)) rfl rfl ?_
                        refine hits_nil ?_
                        refine to_next ?_
                        refine hits_cond rfl (fun c18 => absurd c18 Bool.false_ne_true) (fun c18 => ?_)
                        refine hits_seq ?_
                        by_cases g10 : c = 61
                        · refine hits_region ?_
                          refine sq (f_bin rfl rfl (bT (beq_iff_eq.mpr (by rw [g10]; rfl))) (lt rfl)) rfl rfl ?_
                          refine sq (f_assign rfl (lt rfl)) rfl rfl ?_
                          refine hits_nil ?_
                          refine to_next ?_
                          refine hits_cond rfl (fun c19 => ?_) (fun c19 => absurd c19 Bool.false_ne_true.symm)
                          refine hits_skip ?_
                          refine to_next ?_
                          refine hits_cond rfl (fun c27 => ?_) (fun c27 => absurd c27 Bool.false_ne_true.symm)
                          refine hits_seq ?_
                          refine hits_region ?_
                          refine sq (f_move rfl (lt rfl)) rfl rfl ?_
                          refine sq (f_move rfl (lt rfl)) rfl rfl ?_
                          refine sq (f_move rfl (lt rfl)) rfl rfl ?_
                          refine sq (f_bin rfl rfl (iT (((IntWalk.i64_in _ (by omega)).trans (by omega) : _ = ((i + 1 : Nat) : Int)))) (lt rfl)) rfl rfl ?_
                          refine sq (f_sliceI rfl rfl rfl un9 (by omega) (by omega) (by rw [B_size]; omega) (ext_one hat0) (lt rfl)) rfl rfl ?_
                          refine sq (f_assign rfl (lt rfl)) rfl rfl ?_
                          refine hits_nil ?_
                          refine to_next ?_
                          refine hits_ret ?_
                          refine in_ret ?_
                          refine to_ret ?_
                          exact hits_done (.inl rfl) rfl rfl (by rw [sg_one hat0 h2 (by rw [g10]; decide)]; rfl)
                        · refine hits_region ?_
                          refine sq (f_bin rfl rfl (bT (beq_eq_false_iff_ne.mpr (byte_neq (n := 61) (by decide) g10))) (lt rfl)) rfl rfl ?_
                          refine sq (f_assign rfl (lt rfl)) rfl rfl ?_
                          refine hits_nil ?_
                          refine to_next ?_
                          refine hits_cond rfl (fun c19 => absurd c19 Bool.false_ne_true) (fun c19 => ?_)
                          refine hits_seq ?_
                          by_cases g11 : c = 60
                          · refine hits_region ?_
                            refine sq (f_bin rfl rfl (bT (beq_iff_eq.mpr (by rw [g11]; rfl))) (lt rfl)) rfl rfl ?_
                            refine sq (f_assign rfl (lt rfl)) rfl rfl ?_
                            refine hits_nil ?_
                            refine to_next ?_
                            refine hits_cond rfl (fun c20 => ?_) (fun c20 => absurd c20 Bool.false_ne_true.symm)
                            refine hits_skip ?_
                            refine to_next ?_
                            refine hits_cond rfl (fun c27 => ?_) (fun c27 => absurd c27 Bool.false_ne_true.symm)
                            refine hits_seq ?_
                            refine hits_region ?_
                            refine sq (f_move rfl (lt rfl)) rfl rfl ?_
                            refine sq (f_move rfl (lt rfl)) rfl rfl ?_
                            refine sq (f_move rfl (lt rfl)) rfl rfl ?_
                            refine sq (f_bin rfl rfl (iT (((IntWalk.i64_in _ (by omega)).trans (by omega) : _ = ((i + 1 : Nat) : Int)))) (lt rfl)) rfl rfl ?_
                            refine sq (f_sliceI rfl rfl rfl un9 (by omega) (by omega) (by rw [B_size]; omega) (ext_one hat0) (lt rfl)) rfl rfl ?_
                            refine sq (f_assign rfl (lt rfl)) rfl rfl ?_
                            refine hits_nil ?_
                            refine to_next ?_
                            refine hits_ret ?_
                            refine in_ret ?_
                            refine to_ret ?_
                            exact hits_done (.inl rfl) rfl rfl (by rw [sg_one hat0 h2 (by rw [g11]; decide)]; rfl)
                          · refine hits_region ?_
                            refine sq (f_bin rfl rfl (bT (beq_eq_false_iff_ne.mpr (byte_neq (n := 60) (by decide) g11))) (lt rfl)) rfl rfl ?_
                            refine sq (f_assign rfl (lt rfl)) rfl rfl ?_
                            refine hits_nil ?_
                            refine to_next ?_
                            refine hits_cond rfl (fun c20 => absurd c20 Bool.false_ne_true) (fun c20 => ?_)
                            refine hits_seq ?_
                            by_cases g12 : c = 43
                            · refine hits_region ?_
                              refine sq (f_bin rfl rfl (bT (beq_iff_eq.mpr (by rw [g12]; rfl))) (lt rfl)) rfl rfl ?_
                              refine sq (f_assign rfl (lt rfl)) rfl rfl ?_
                              refine hits_nil ?_
                              refine to_next ?_
                              refine hits_cond rfl (fun c21 => ?_) (fun c21 => absurd c21 Bool.false_ne_true.symm)
                              refine hits_skip ?_
                              refine to_next ?_
                              refine hits_cond rfl (fun c27 => ?_) (fun c27 => absurd c27 Bool.false_ne_true.symm)
                              refine hits_seq ?_
                              refine hits_region ?_
                              refine sq (f_move rfl (lt rfl)) rfl rfl ?_
                              refine sq (f_move rfl (lt rfl)) rfl rfl ?_
                              refine sq (f_move rfl (lt rfl)) rfl rfl ?_
                              refine sq (f_bin rfl rfl (iT (((IntWalk.i64_in _ (by omega)).trans (by omega) : _ = ((i + 1 : Nat) : Int)))) (lt rfl)) rfl rfl ?_
                              refine sq (f_sliceI rfl rfl rfl un9 (by omega) (by omega) (by rw [B_size]; omega) (ext_one hat0) (lt rfl)) rfl rfl ?_
                              refine sq (f_assign rfl (lt rfl)) rfl rfl ?_
                              refine hits_nil ?_
                              refine to_next ?_
                              refine hits_ret ?_
                              refine in_ret ?_
                              refine to_ret ?_
                              exact hits_done (.inl rfl) rfl rfl (by rw [sg_one hat0 h2 (by rw [g12]; decide)]; rfl)
                            · refine hits_region ?_
                              refine sq (f_bin rfl rfl (bT (beq_eq_false_iff_ne.mpr (byte_neq (n := 43) (by decide) g12))) (lt rfl)) rfl rfl ?_
                              refine sq (f_assign rfl (lt rfl)) rfl rfl ?_
                              refine hits_nil ?_
                              refine to_next ?_
                              refine hits_cond rfl (fun c21 => absurd c21 Bool.false_ne_true) (fun c21 => ?_)
                              refine hits_seq ?_
                              by_cases g13 : c = 45
                              · refine hits_region ?_
                                refine sq (f_bin rfl rfl (bT (beq_iff_eq.mpr (by rw [g13]; rfl))) (lt rfl)) rfl rfl ?_
                                refine sq (f_assign rfl (lt rfl)) rfl rfl ?_
                                refine hits_nil ?_
                                refine to_next ?_
                                refine hits_cond rfl (fun c22 => ?_) (fun c22 => absurd c22 Bool.false_ne_true.symm)
                                refine hits_skip ?_
                                refine to_next ?_
                                refine hits_cond rfl (fun c27 => ?_) (fun c27 => absurd c27 Bool.false_ne_true.symm)
                                refine hits_seq ?_
                                refine hits_region ?_
                                refine sq (f_move rfl (lt rfl)) rfl rfl ?_
                                refine sq (f_move rfl (lt rfl)) rfl rfl ?_
                                refine sq (f_move rfl (lt rfl)) rfl rfl ?_
                                refine sq (f_bin rfl rfl (iT (((IntWalk.i64_in _ (by omega)).trans (by omega) : _ = ((i + 1 : Nat) : Int)))) (lt rfl)) rfl rfl ?_
                                refine sq (f_sliceI rfl rfl rfl un9 (by omega) (by omega) (by rw [B_size]; omega) (ext_one hat0) (lt rfl)) rfl rfl ?_
                                refine sq (f_assign rfl (lt rfl)) rfl rfl ?_
                                refine hits_nil ?_
                                refine to_next ?_
                                refine hits_ret ?_
                                refine in_ret ?_
                                refine to_ret ?_
                                exact hits_done (.inl rfl) rfl rfl (by rw [sg_one hat0 h2 (by rw [g13]; decide)]; rfl)
                              · refine hits_region ?_
                                refine sq (f_bin rfl rfl (bT (beq_eq_false_iff_ne.mpr (byte_neq (n := 45) (by decide) g13))) (lt rfl)) rfl rfl ?_
                                refine sq (f_assign rfl (lt rfl)) rfl rfl ?_
                                refine hits_nil ?_
                                refine to_next ?_
                                refine hits_cond rfl (fun c22 => absurd c22 Bool.false_ne_true) (fun c22 => ?_)
                                refine hits_seq ?_
                                by_cases g14 : c = 42
                                · refine hits_region ?_
                                  refine sq (f_bin rfl rfl (bT (beq_iff_eq.mpr (by rw [g14]; rfl))) (lt rfl)) rfl rfl ?_
                                  refine sq (f_assign rfl (lt rfl)) rfl rfl ?_
                                  refine hits_nil ?_
                                  refine to_next ?_
                                  refine hits_cond rfl (fun c23 => ?_) (fun c23 => absurd c23 Bool.false_ne_true.symm)
                                  refine hits_skip ?_
                                  refine to_next ?_
                                  refine hits_cond rfl (fun c27 => ?_) (fun c27 => absurd c27 Bool.false_ne_true.symm)
                                  refine hits_seq ?_
                                  refine hits_region ?_
                                  refine sq (f_move rfl (lt rfl)) rfl rfl ?_
                                  refine sq (f_move rfl (lt rfl)) rfl rfl ?_
                                  refine sq (f_move rfl (lt rfl)) rfl rfl ?_
                                  refine sq (f_bin rfl rfl (iT (((IntWalk.i64_in _ (by omega)).trans (by omega) : _ = ((i + 1 : Nat) : Int)))) (lt rfl)) rfl rfl ?_
                                  refine sq (f_sliceI rfl rfl rfl un9 (by omega) (by omega) (by rw [B_size]; omega) (ext_one hat0) (lt rfl)) rfl rfl ?_
                                  refine sq (f_assign rfl (lt rfl)) rfl rfl ?_
                                  refine hits_nil ?_
                                  refine to_next ?_
                                  refine hits_ret ?_
                                  refine in_ret ?_
                                  refine to_ret ?_
                                  exact hits_done (.inl rfl) rfl rfl (by rw [sg_one hat0 h2 (by rw [g14]; decide)]; rfl)
                                · refine hits_region ?_
                                  refine sq (f_bin rfl rfl (bT (beq_eq_false_iff_ne.mpr (byte_neq (n := 42) (by decide) g14))) (lt rfl)) rfl rfl ?_
                                  refine sq (f_assign rfl (lt rfl)) rfl rfl ?_
                                  refine hits_nil ?_
                                  refine to_next ?_
                                  refine hits_cond rfl (fun c23 => absurd c23 Bool.false_ne_true) (fun c23 => ?_)
                                  refine hits_seq ?_
                                  by_cases g15 : c = 38
                                  · refine hits_region ?_
                                    refine sq (f_bin rfl rfl (bT (beq_iff_eq.mpr (by rw [g15]; rfl))) (lt rfl)) rfl rfl ?_
                                    refine sq (f_assign rfl (lt rfl)) rfl rfl ?_
                                    refine hits_nil ?_
                                    refine to_next ?_
                                    refine hits_cond rfl (fun c24 => ?_) (fun c24 => absurd c24 Bool.false_ne_true.symm)
                                    refine hits_skip ?_
                                    refine to_next ?_
                                    refine hits_cond rfl (fun c27 => ?_) (fun c27 => absurd c27 Bool.false_ne_true.symm)
                                    refine hits_seq ?_
                                    refine hits_region ?_
                                    refine sq (f_move rfl (lt rfl)) rfl rfl ?_
                                    refine sq (f_move rfl (lt rfl)) rfl rfl ?_
                                    refine sq (f_move rfl (lt rfl)) rfl rfl ?_
                                    refine sq (f_bin rfl rfl (iT (((IntWalk.i64_in _ (by omega)).trans (by omega) : _ = ((i + 1 : Nat) : Int)))) (lt rfl)) rfl rfl ?_
                                    refine sq (f_sliceI rfl rfl rfl un9 (by omega) (by omega) (by rw [B_size]; omega) (ext_one hat0) (lt rfl)) rfl rfl ?_
                                    refine sq (f_assign rfl (lt rfl)) rfl rfl ?_
                                    refine hits_nil ?_
                                    refine to_next ?_
                                    refine hits_ret ?_
                                    refine in_ret ?_
                                    refine to_ret ?_
                                    exact hits_done (.inl rfl) rfl rfl (by rw [sg_one hat0 h2 (by rw [g15]; decide)]; rfl)
                                  · refine hits_region ?_
                                    refine sq (f_bin rfl rfl (bT (beq_eq_false_iff_ne.mpr (byte_neq (n := 38) (by decide) g15))) (lt rfl)) rfl rfl ?_
                                    refine sq (f_assign rfl (lt rfl)) rfl rfl ?_
                                    refine hits_nil ?_
                                    refine to_next ?_
                                    refine hits_cond rfl (fun c24 => absurd c24 Bool.false_ne_true) (fun c24 => ?_)
                                    refine hits_seq ?_
                                    by_cases g16 : c = 124
                                    · refine hits_region ?_
                                      refine sq (f_bin rfl rfl (bT (beq_iff_eq.mpr (by rw [g16]; rfl))) (lt rfl)) rfl rfl ?_
                                      refine sq (f_assign rfl (lt rfl)) rfl rfl ?_
                                      refine hits_nil ?_
                                      refine to_next ?_
                                      refine hits_cond rfl (fun c25 => ?_) (fun c25 => absurd c25 Bool.false_ne_true.symm)
                                      refine hits_skip ?_
                                      refine to_next ?_
                                      refine hits_cond rfl (fun c27 => ?_) (fun c27 => absurd c27 Bool.false_ne_true.symm)
                                      refine hits_seq ?_
                                      refine hits_region ?_
                                      refine sq (f_move rfl (lt rfl)) rfl rfl ?_
                                      refine sq (f_move rfl (lt rfl)) rfl rfl ?_
                                      refine sq (f_move rfl (lt rfl)) rfl rfl ?_
                                      refine sq (f_bin rfl rfl (iT (((IntWalk.i64_in _ (by omega)).trans (by omega) : _ = ((i + 1 : Nat) : Int)))) (lt rfl)) rfl rfl ?_
                                      refine sq (f_sliceI rfl rfl rfl un9 (by omega) (by omega) (by rw [B_size]; omega) (ext_one hat0) (lt rfl)) rfl rfl ?_
                                      refine sq (f_assign rfl (lt rfl)) rfl rfl ?_
                                      refine hits_nil ?_
                                      refine to_next ?_
                                      refine hits_ret ?_
                                      refine in_ret ?_
                                      refine to_ret ?_
                                      exact hits_done (.inl rfl) rfl rfl (by rw [sg_one hat0 h2 (by rw [g16]; decide)]; rfl)
                                    · refine hits_region ?_
                                      refine sq (f_bin rfl rfl (bT (beq_eq_false_iff_ne.mpr (byte_neq (n := 124) (by decide) g16))) (lt rfl)) rfl rfl ?_
                                      refine sq (f_assign rfl (lt rfl)) rfl rfl ?_
                                      refine hits_nil ?_
                                      refine to_next ?_
                                      refine hits_cond rfl (fun c25 => absurd c25 Bool.false_ne_true) (fun c25 => ?_)
                                      refine hits_seq ?_
                                      by_cases g17 : c = 94
                                      · refine hits_region ?_
                                        refine sq (f_bin rfl rfl (bT (beq_iff_eq.mpr (by rw [g17]; rfl))) (lt rfl)) rfl rfl ?_
                                        refine sq (f_assign rfl (lt rfl)) rfl rfl ?_
                                        refine hits_nil ?_
                                        refine to_next ?_
                                        refine hits_cond rfl (fun c26 => ?_) (fun c26 => absurd c26 Bool.false_ne_true.symm)
                                        refine hits_skip ?_
                                        refine to_next ?_
                                        refine hits_cond rfl (fun c27 => ?_) (fun c27 => absurd c27 Bool.false_ne_true.symm)
                                        refine hits_seq ?_
                                        refine hits_region ?_
                                        refine sq (f_move rfl (lt rfl)) rfl rfl ?_
                                        refine sq (f_move rfl (lt rfl)) rfl rfl ?_
                                        refine sq (f_move rfl (lt rfl)) rfl rfl ?_
                                        refine sq (f_bin rfl rfl (iT (((IntWalk.i64_in _ (by omega)).trans (by omega) : _ = ((i + 1 : Nat) : Int)))) (lt rfl)) rfl rfl ?_
                                        refine sq (f_sliceI rfl rfl rfl un9 (by omega) (by omega) (by rw [B_size]; omega) (ext_one hat0) (lt rfl)) rfl rfl ?_
                                        refine sq (f_assign rfl (lt rfl)) rfl rfl ?_
                                        refine hits_nil ?_
                                        refine to_next ?_
                                        refine hits_ret ?_
                                        refine in_ret ?_
                                        refine to_ret ?_
                                        exact hits_done (.inl rfl) rfl rfl (by rw [sg_one hat0 h2 (by rw [g17]; decide)]; rfl)
                                      · refine hits_region ?_
                                        refine sq (f_bin rfl rfl (bT (beq_eq_false_iff_ne.mpr (byte_neq (n := 94) (by decide) g17))) (lt rfl)) rfl rfl ?_
                                        refine sq (f_assign rfl (lt rfl)) rfl rfl ?_
                                        refine hits_nil ?_
                                        refine to_next ?_
                                        refine hits_cond rfl (fun c26 => absurd c26 Bool.false_ne_true) (fun c26 => ?_)
                                        by_cases g18 : c = 126
                                        · refine hits_region ?_
                                          refine sq (f_bin rfl rfl (bT (beq_iff_eq.mpr (by rw [g18]; rfl))) (lt rfl)) rfl rfl ?_
                                          refine sq (f_assign rfl (lt rfl)) rfl rfl ?_
                                          refine hits_nil ?_
                                          refine to_next ?_
                                          refine hits_cond rfl (fun c27 => ?_) (fun c27 => absurd c27 Bool.false_ne_true.symm)
                                          refine hits_seq ?_
                                          refine hits_region ?_
                                          refine sq (f_move rfl (lt rfl)) rfl rfl ?_
                                          refine sq (f_move rfl (lt rfl)) rfl rfl ?_
                                          refine sq (f_move rfl (lt rfl)) rfl rfl ?_
                                          refine sq (f_bin rfl rfl (iT (((IntWalk.i64_in _ (by omega)).trans (by omega) : _ = ((i + 1 : Nat) : Int)))) (lt rfl)) rfl rfl ?_
                                          refine sq (f_sliceI rfl rfl rfl un9 (by omega) (by omega) (by rw [B_size]; omega) (ext_one hat0) (lt rfl)) rfl rfl ?_
                                          refine sq (f_assign rfl (lt rfl)) rfl rfl ?_
                                          refine hits_nil ?_
                                          refine to_next ?_
                                          refine hits_ret ?_
                                          refine in_ret ?_
                                          refine to_ret ?_
                                          exact hits_done (.inl rfl) rfl rfl (by rw [sg_one hat0 h2 (by rw [g18]; decide)]; rfl)
                                        · refine hits_region ?_
                                          refine sq (f_bin rfl rfl (bT (beq_eq_false_iff_ne.mpr (byte_neq (n := 126) (by decide) g18))) (lt rfl)) rfl rfl ?_
                                          refine sq (f_assign rfl (lt rfl)) rfl rfl ?_
                                          refine hits_nil ?_
                                          refine to_next ?_
                                          refine hits_cond rfl (fun c27 => absurd c27 Bool.false_ne_true) (fun c27 => ?_)
                                          refine hits_skip ?_
                                          refine in_next ?_
                                          refine to_next ?_
                                          refine hits_seq ?_
                                          refine hits_region ?_
                                          refine sq (f_assign rfl (lt rfl)) rfl rfl ?_
                                          refine hits_nil ?_
                                          refine to_next ?_
                                          refine hits_ret ?_
                                          exact hits_done (.inl rfl) rfl rfl (by rw [sg_none hat0 h2 (by simp only [sg1, List.mem_cons, List.not_mem_nil, or_false, not_or]; exact ⟨g0, g1, g2, g3, g4, g5, g6, g7, g8, g9, g10, g11, g12, g13, g14, g15, g16, g17, g18⟩)]; rfl)

set_option maxRecDepth 100000 in
theorem rword_dig (s : List UInt8) {i : Nat} {c : UInt8} (hs : s.length ≤ 65536) (hat0 : s[i]? = some c) (hd : dgt c = true) {x : Wd} {ok : Bool} (hn : CallsP Tryz.prog Lw 206 [.sc (.string (B ((s.drop i).takeWhile aln)))] (.tup [wordD x, .sc (.bool ok)])) : CallsP Tryz.prog Lw 126 [.sc (.string (B s)), .sc (.int .i64 ((i : Nat) : Int))] (.tup [wordD x, .sc (.int .i64 ((runL s i : Nat) : Int)), .sc (.bool ok)]) := by
  have hat : (B s).data.toList[i]? = some c := hat0
  have hi := (List.getElem?_eq_some_iff.mp hat0).1
  have hrun := rrun_c s hs (Nat.le_of_lt hi)
  obtain ⟨hr1, hr2⟩ := run_le (Nat.le_of_lt hi)
  have hdd := rdigit7_c c
  have hld := rletter7_c c
  rw [hd] at hdd
  refine callsP_of gs_lw Tryz.func126 rfl Tryz.ntmps126 rfl fun w0 S0 stab => ?_
  refine hits_seq ?_
  refine hits_region ?_
  refine sq (f_alloc zc77 (lt rfl)) rfl rfl ?_
  refine sq (f_assign rfl (lt rfl)) rfl rfl ?_
  refine sq (f_assign rfl (lt rfl)) rfl rfl ?_
  refine hits_nil ?_
  refine to_next ?_
  refine hits_seq ?_
  refine hits_region ?_
  refine sq (f_move rfl (lt rfl)) rfl rfl ?_
  refine sq (f_move rfl (lt rfl)) rfl rfl ?_
  refine sq (f_call en204 rfl hrun (lt rfl)) rfl rfl ?_
  refine sq (f_assign rfl (lt rfl)) rfl rfl ?_
  refine hits_nil ?_
  refine to_next ?_
  refine hits_seq ?_
  refine hits_block ?_
  refine hits_seq ?_
  refine hits_region ?_
  refine sq (f_move rfl (lt rfl)) rfl rfl ?_
  refine sq (f_move rfl (lt rfl)) rfl rfl ?_
  refine sq (f_idxS rfl rfl un9 hat (lt rfl)) rfl rfl ?_
  refine sq (f_call en205 rfl hdd (lt rfl)) rfl rfl ?_
  refine sq (f_assign rfl (lt rfl)) rfl rfl ?_
  refine hits_nil ?_
  refine to_next ?_
  refine hits_cond rfl (fun c0 => ?_) (fun c0 => absurd c0 Bool.false_ne_true.symm)
  refine hits_seq ?_
  refine hits_region ?_
  refine sq (f_move rfl (lt rfl)) rfl rfl ?_
  refine sq (f_move rfl (lt rfl)) rfl rfl ?_
  refine sq (f_move rfl (lt rfl)) rfl rfl ?_
  refine sq (f_sliceI rfl rfl rfl un9 (by omega) (by omega) (by rw [B_size]; omega) (ext_rr (Nat.le_of_lt hi)) (lt rfl)) rfl rfl ?_
  refine sq (f_call en206 rfl hn (lt rfl)) rfl rfl ?_
  refine sq (f_move rfl (lt rfl)) rfl rfl ?_
  refine sq (f_extract rfl rfl (lt rfl)) rfl rfl ?_
  refine sq (f_extract rfl rfl (lt rfl)) rfl rfl ?_
  refine sq (f_alloc zc77 (lt rfl)) rfl rfl ?_
  refine sq (f_store kd77 rfl rfl rfl rfl rfl) rfl rfl ?_
  refine sq (f_assign rfl (lt rfl)) rfl rfl ?_
  refine hits_nil ?_
  refine to_next ?_
  refine hits_seq ?_
  refine hits_region ?_
  refine sq (f_load kd77 rfl rfl (lt rfl)) rfl rfl ?_
  refine sq (f_move rfl (lt rfl)) rfl rfl ?_
  refine sq (f_move rfl (lt rfl)) rfl rfl ?_
  refine sq (f_store kd77 rfl rfl rfl rfl rfl) rfl rfl ?_
  refine sq (f_assign rfl (lt rfl)) rfl rfl ?_
  refine sq (f_assign rfl (lt rfl)) rfl rfl ?_
  refine hits_nil ?_
  refine to_next ?_
  refine hits_ret ?_
  refine in_ret ?_
  refine to_ret ?_
  exact hits_done (.inl rfl) rfl rfl rfl

set_option maxRecDepth 100000 in
theorem rword_name (s : List UInt8) {i : Nat} {c : UInt8} (hs : s.length ≤ 65536) (hat0 : s[i]? = some c) (hd : dgt c = false) (hl : ltr c = true) : CallsP Tryz.prog Lw 126 [.sc (.string (B s)), .sc (.int .i64 ((i : Nat) : Int))] (.tup [wordD ⟨1, ((s.drop i).takeWhile aln), 0, 0, 0, 0⟩, .sc (.int .i64 ((runL s i : Nat) : Int)), .sc (.bool (decide (((s.drop i).takeWhile aln).length ≤ 255)))]) := by
  have hat : (B s).data.toList[i]? = some c := hat0
  have hi := (List.getElem?_eq_some_iff.mp hat0).1
  have hrun := rrun_c s hs (Nat.le_of_lt hi)
  obtain ⟨hr1, hr2⟩ := run_le (Nat.le_of_lt hi)
  have hdd := rdigit7_c c
  have hld := rletter7_c c
  rw [hd] at hdd
  rw [hl] at hld
  have hsub := run_sub (s := s) (i := i) (by omega)
  have htl := (List.takeWhile_sublist (p := aln) (l := s.drop i)).length_le
  rw [List.length_drop] at htl
  refine callsP_of gs_lw Tryz.func126 rfl Tryz.ntmps126 rfl fun w0 S0 stab => ?_
  refine hits_seq ?_
  refine hits_region ?_
  refine sq (f_alloc zc77 (lt rfl)) rfl rfl ?_
  refine sq (f_assign rfl (lt rfl)) rfl rfl ?_
  refine sq (f_assign rfl (lt rfl)) rfl rfl ?_
  refine hits_nil ?_
  refine to_next ?_
  refine hits_seq ?_
  refine hits_region ?_
  refine sq (f_move rfl (lt rfl)) rfl rfl ?_
  refine sq (f_move rfl (lt rfl)) rfl rfl ?_
  refine sq (f_call en204 rfl hrun (lt rfl)) rfl rfl ?_
  refine sq (f_assign rfl (lt rfl)) rfl rfl ?_
  refine hits_nil ?_
  refine to_next ?_
  refine hits_seq ?_
  refine hits_block ?_
  refine hits_seq ?_
  refine hits_region ?_
  refine sq (f_move rfl (lt rfl)) rfl rfl ?_
  refine sq (f_move rfl (lt rfl)) rfl rfl ?_
  refine sq (f_idxS rfl rfl un9 hat (lt rfl)) rfl rfl ?_
  refine sq (f_call en205 rfl hdd (lt rfl)) rfl rfl ?_
  refine sq (f_assign rfl (lt rfl)) rfl rfl ?_
  refine hits_nil ?_
  refine to_next ?_
  refine hits_cond rfl (fun c0 => absurd c0 Bool.false_ne_true) (fun c0 => ?_)
  refine hits_seq ?_
  refine hits_region ?_
  refine sq (f_move rfl (lt rfl)) rfl rfl ?_
  refine sq (f_move rfl (lt rfl)) rfl rfl ?_
  refine sq (f_idxS rfl rfl un9 hat (lt rfl)) rfl rfl ?_
  refine sq (f_call en207 rfl hld (lt rfl)) rfl rfl ?_
  refine sq (f_assign rfl (lt rfl)) rfl rfl ?_
  refine hits_nil ?_
  refine to_next ?_
  refine hits_cond rfl (fun c1 => ?_) (fun c1 => absurd c1 Bool.false_ne_true.symm)
  refine hits_seq ?_
  refine hits_region ?_
  refine sq (f_move rfl (lt rfl)) rfl rfl ?_
  refine sq (f_move rfl (lt rfl)) rfl rfl ?_
  refine sq (f_move rfl (lt rfl)) rfl rfl ?_
  refine sq (f_sliceI rfl rfl rfl un9 (by omega) (by omega) (by rw [B_size]; omega) (ext_rr (Nat.le_of_lt hi)) (lt rfl)) rfl rfl ?_
  refine sq (f_build bu77 rfl (l := [.sc (.int .u8 1), .sc (.string (B ((s.drop i).takeWhile aln))), .sc (.int .i64 0), .sc (.int .u64 0), .sc (.int .u64 0), .sc (.int .i64 0)]) rfl (lt rfl)) rfl rfl ?_
  refine sq (f_move rfl (lt rfl)) rfl rfl ?_
  refine sq (f_move rfl (lt rfl)) rfl rfl ?_
  refine sq (f_move rfl (lt rfl)) rfl rfl ?_
  refine sq (f_bin rfl rfl (iT (((IntWalk.i64_in _ (by omega)).trans hsub))) (lt rfl)) rfl rfl ?_
  refine sq (f_bin rfl rfl (bT ((len_dec _))) (lt rfl)) rfl rfl ?_
  refine sq (f_store kd77 rfl rfl rfl rfl rfl) rfl rfl ?_
  refine sq (f_assign rfl (lt rfl)) rfl rfl ?_
  refine sq (f_assign rfl (lt rfl)) rfl rfl ?_
  refine hits_nil ?_
  refine to_next ?_
  refine hits_ret ?_
  refine in_ret ?_
  refine to_ret ?_
  exact hits_done (.inl rfl) rfl rfl rfl

set_option maxRecDepth 100000 in
theorem rword_sign (s : List UInt8) {i : Nat} {c : UInt8} (hs : s.length ≤ 65536) (hat0 : s[i]? = some c) (hd : dgt c = false) (hl : ltr c = false) : CallsP Tryz.prog Lw 126 [.sc (.string (B s)), .sc (.int .i64 ((i : Nat) : Int))] (.tup [wordD ⟨4, sgL (s.drop i), 0, 0, 0, 0⟩, .sc (.int .i64 ((i + (sgL (s.drop i)).length : Nat) : Int)), .sc (.bool (!decide (sgL (s.drop i) = [])))]) := by
  have hat : (B s).data.toList[i]? = some c := hat0
  have hi := (List.getElem?_eq_some_iff.mp hat0).1
  have hrun := rrun_c s hs (Nat.le_of_lt hi)
  obtain ⟨hr1, hr2⟩ := run_le (Nat.le_of_lt hi)
  have hdd := rdigit7_c c
  have hld := rletter7_c c
  rw [hd] at hdd
  rw [hl] at hld
  obtain ⟨hs2, _⟩ := sgL_len (s.drop i)
  refine callsP_of gs_lw Tryz.func126 rfl Tryz.ntmps126 rfl fun w0 S0 stab => ?_
  refine hits_seq ?_
  refine hits_region ?_
  refine sq (f_alloc zc77 (lt rfl)) rfl rfl ?_
  refine sq (f_assign rfl (lt rfl)) rfl rfl ?_
  refine sq (f_assign rfl (lt rfl)) rfl rfl ?_
  refine hits_nil ?_
  refine to_next ?_
  refine hits_seq ?_
  refine hits_region ?_
  refine sq (f_move rfl (lt rfl)) rfl rfl ?_
  refine sq (f_move rfl (lt rfl)) rfl rfl ?_
  refine sq (f_call en204 rfl hrun (lt rfl)) rfl rfl ?_
  refine sq (f_assign rfl (lt rfl)) rfl rfl ?_
  refine hits_nil ?_
  refine to_next ?_
  refine hits_seq ?_
  refine hits_block ?_
  refine hits_seq ?_
  refine hits_region ?_
  refine sq (f_move rfl (lt rfl)) rfl rfl ?_
  refine sq (f_move rfl (lt rfl)) rfl rfl ?_
  refine sq (f_idxS rfl rfl un9 hat (lt rfl)) rfl rfl ?_
  refine sq (f_call en205 rfl hdd (lt rfl)) rfl rfl ?_
  refine sq (f_assign rfl (lt rfl)) rfl rfl ?_
  refine hits_nil ?_
  refine to_next ?_
  refine hits_cond rfl (fun c0 => absurd c0 Bool.false_ne_true) (fun c0 => ?_)
  refine hits_seq ?_
  refine hits_region ?_
  refine sq (f_move rfl (lt rfl)) rfl rfl ?_
  refine sq (f_move rfl (lt rfl)) rfl rfl ?_
  refine sq (f_idxS rfl rfl un9 hat (lt rfl)) rfl rfl ?_
  refine sq (f_call en207 rfl hld (lt rfl)) rfl rfl ?_
  refine sq (f_assign rfl (lt rfl)) rfl rfl ?_
  refine hits_nil ?_
  refine to_next ?_
  refine hits_cond rfl (fun c1 => absurd c1 Bool.false_ne_true) (fun c1 => ?_)
  refine hits_skip ?_
  refine in_next ?_
  refine to_next ?_
  refine hits_seq ?_
  refine hits_region ?_
  refine sq (f_move rfl (lt rfl)) rfl rfl ?_
  refine sq (f_move rfl (lt rfl)) rfl rfl ?_
  refine sq (f_call en208 rfl (rsign_c s hs hat0) (lt rfl)) rfl rfl ?_
  refine sq (f_assign rfl (lt rfl)) rfl rfl ?_
  refine hits_nil ?_
  refine to_next ?_
  refine hits_seq ?_
  refine hits_region ?_
  refine sq (f_move rfl (lt rfl)) rfl rfl ?_
  refine sq (f_build bu77 rfl (l := [.sc (.int .u8 4), .sc (.string (B (sgL (s.drop i)))), .sc (.int .i64 0), .sc (.int .u64 0), .sc (.int .u64 0), .sc (.int .i64 0)]) rfl (lt rfl)) rfl rfl ?_
  refine sq (f_move rfl (lt rfl)) rfl rfl ?_
  refine sq (f_move rfl (lt rfl)) rfl rfl ?_
  refine sq (f_lenStr rfl un9 (lt rfl)) rfl rfl ?_
  refine sq (f_bin rfl rfl (iT ((by rw [B_size]; exact (IntWalk.i64_in _ (by omega)).trans (by omega) : _ = ((i + (sgL (s.drop i)).length : Nat) : Int)))) (lt rfl)) rfl rfl ?_
  refine sq (f_move rfl (lt rfl)) rfl rfl ?_
  refine sq (f_bin rfl rfl (bT ((none_ne _))) (lt rfl)) rfl rfl ?_
  refine sq (f_store kd77 rfl rfl rfl rfl rfl) rfl rfl ?_
  refine sq (f_assign rfl (lt rfl)) rfl rfl ?_
  refine sq (f_assign rfl (lt rfl)) rfl rfl ?_
  refine hits_nil ?_
  refine to_next ?_
  refine hits_ret ?_
  exact hits_done (.inl rfl) rfl rfl rfl

/-- The word at a place, as the reference tells it. -/
theorem rword_c (s : List UInt8) {i : Nat} {c : UInt8} (hs : s.length ≤ 65536) (hat0 : s[i]? = some c) : ∃ (x : Wd) (e : Nat), CallsP Tryz.prog Lw 126 [.sc (.string (B s)), .sc (.int .i64 ((i : Nat) : Int))] (.tup [wordD x, .sc (.int .i64 ((e : Nat) : Int)), .sc (.bool (word (s.drop i)).isSome)]) ∧ e ≤ s.length ∧ ∀ p, word (s.drop i) = some p → p = (x, s.drop e) := by
  have hi := (List.getElem?_eq_some_iff.mp hat0).1
  obtain ⟨hr1, hr2⟩ := run_le (Nat.le_of_lt hi)
  have hlt : ((s.drop i).takeWhile aln).length ≤ 65536 := by
    have htl := (List.takeWhile_sublist (p := aln) (l := s.drop i)).length_le
    rw [List.length_drop] at htl
    omega
  cases hd : dgt c with
  | true =>
    have hne : ((s.drop i).takeWhile aln) ≠ [] := by rw [drop_at hat0, List.takeWhile_cons_of_pos (by rw [aln, hd]; rfl)]; simp
    have hw := wn_num hat0 hd
    by_cases ha : ((s.drop i).takeWhile aln).all dgt = true
    · have hn := rnumber_dig _ hlt ha
      rw [whole_num ha] at hn
      refine ⟨_, _, (by rw [hw]; cases ho : numOk ((s.drop i).takeWhile aln) with
        | true => rw [ho] at hn; exact rword_dig s hs hat0 hd (x := ⟨2, [], 64, 0, wholeV ((s.drop i).takeWhile aln), 0⟩) hn
        | false => rw [ho] at hn; exact rword_dig s hs hat0 hd (x := ⟨2, [], 64, 0, wholeV ((s.drop i).takeWhile aln), 0⟩) hn), hr2, fun p hp => ?_⟩
      rw [hw] at hp
      split at hp
      · rename_i ho; cases hp; rw [whole_val ha hne ho]
      · cases hp
    · rw [Bool.not_eq_true] at ha
      cases hl : litOf (B ((s.drop i).takeWhile aln)) with
      | none =>
        have hn := rnumber_no _ hlt ha hl
        have ho : numOk ((s.drop i).takeWhile aln) = false := by unfold numOk; rw [ha, if_neg (by simp), hl]; rfl
        rw [hw, ho]
        exact ⟨⟨3, [], 0, 0, 0, 0⟩, _, rword_dig s hs hat0 hd hn, hr2, fun p hp => by cases hp⟩
      | some q =>
        obtain ⟨w, v⟩ := q
        have hn := rnumber_yes _ hlt ha hl
        have ho : numOk ((s.drop i).takeWhile aln) = true := by unfold numOk; rw [ha, if_neg (by simp), hl]; rfl
        have he : numW ((s.drop i).takeWhile aln) = ⟨3, [], w, v / 18446744073709551616, v % 18446744073709551616, 0⟩ := by unfold numW; rw [ha, if_neg (by simp), hl]
        rw [hw, ho, he]
        exact ⟨⟨3, [], w, v / 18446744073709551616, v % 18446744073709551616, 0⟩, _, rword_dig s hs hat0 hd hn, hr2, fun p hp => by cases hp; rfl⟩
  | false =>
    cases hl : ltr c with
    | true =>
      have hw := wn_name hat0 hd hl
      have hn := rword_name s hs hat0 hd hl
      by_cases h : ((s.drop i).takeWhile aln).length ≤ 255
      · rw [hw, if_pos h]; rw [decide_eq_true h] at hn; exact ⟨_, _, hn, hr2, fun p hp => by cases hp; rfl⟩
      · rw [hw, if_neg h]; rw [decide_eq_false h] at hn; exact ⟨_, _, hn, hr2, fun p hp => by cases hp⟩
    | false =>
      have hw := wn_sign hat0 (show ¬ aln c = true by rw [aln, hd, hl]; decide)
      have hn := rword_sign s hs hat0 hd hl
      have hsl := (sgL_len (s.drop i)).2
      rw [List.length_drop] at hsl
      by_cases h : sgL (s.drop i) = []
      · rw [hw, if_pos h]; rw [decide_eq_true h] at hn; exact ⟨_, _, hn, by omega, fun p hp => by cases hp⟩
      · rw [hw, if_neg h]; rw [decide_eq_false h] at hn; exact ⟨_, _, hn, by omega, fun p hp => by cases hp; rfl⟩

set_option maxRecDepth 100000 in
theorem rwords_big (s : ByteArray) (hs : 65536 < s.size) : CallsP Tryz.prog Lw 19 [.sc (.string s)] (.tup [.list 6 [], .sc (.int .i64 0), .sc (.int .i64 3)]) := by
  refine callsP_of gs_lw Tryz.func19 rfl Tryz.ntmps19 rfl fun w0 S0 stab => ?_
  refine hits_seq ?_
  refine hits_region ?_
  refine sq (f_assign rfl (lt rfl)) rfl rfl ?_
  refine sq (f_assign rfl (lt rfl)) rfl rfl ?_
  refine sq (f_assign rfl (lt rfl)) rfl rfl ?_
  refine hits_nil ?_
  refine to_next ?_
  refine hits_seq ?_
  refine hits_seq ?_
  refine hits_region ?_
  refine sq (f_move rfl (lt rfl)) rfl rfl ?_
  refine sq (f_lenStr rfl un9 (lt rfl)) rfl rfl ?_
  refine sq (f_bin rfl rfl (bT (decide_eq_true (by omega))) (lt rfl)) rfl rfl ?_
  refine hits_nil ?_
  refine to_next ?_
  refine hits_cond rfl (fun c0 => ?_) (fun c0 => absurd c0 Bool.false_ne_true.symm)
  refine hits_seq ?_
  refine hits_region ?_
  refine sq (f_assign rfl (lt rfl)) rfl rfl ?_
  refine sq (f_assign rfl (lt rfl)) rfl rfl ?_
  refine sq (f_assign rfl (lt rfl)) rfl rfl ?_
  refine hits_nil ?_
  refine to_next ?_
  refine hits_ret ?_
  refine to_ret ?_
  refine hits_own 2 2 6 rfl ?_
  exact hits_done (.inl rfl) rfl rfl rfl

set_option maxHeartbeats 4000000 in
set_option maxRecDepth 100000 in
theorem rwords_c (s : List UInt8) (hs : s.length ≤ 65536) : CallsP Tryz.prog Lw 19 [.sc (.string (B s))] (wordsD (W s 0)) := by
  refine callsP_of gs_lw Tryz.func19 rfl Tryz.ntmps19 rfl fun w0 S0 stab => ?_
  refine hits_seq ?_
  refine hits_region ?_
  refine sq (f_assign rfl (lt rfl)) rfl rfl ?_
  refine sq (f_assign rfl (lt rfl)) rfl rfl ?_
  refine sq (f_assign rfl (lt rfl)) rfl rfl ?_
  refine hits_nil ?_
  refine to_next ?_
  refine hits_seq ?_
  refine hits_seq ?_
  refine hits_region ?_
  refine sq (f_move rfl (lt rfl)) rfl rfl ?_
  refine sq (f_lenStr rfl un9 (lt rfl)) rfl rfl ?_
  refine sq (f_bin rfl rfl (bT (decide_eq_false (by rw [B_size]; omega))) (lt rfl)) rfl rfl ?_
  refine hits_nil ?_
  refine to_next ?_
  refine hits_cond rfl (fun c0 => absurd c0 Bool.false_ne_true) (fun c0 => ?_)
  refine hits_skip ?_
  refine to_next ?_
  refine hits_seq ?_
  refine hits_region ?_
  refine sq (f_assign rfl (lt rfl)) rfl rfl ?_
  refine hits_nil ?_
  refine to_next ?_
  refine hits_seq ?_
  refine hits_region ?_
  refine sq (f_assign rfl (lt rfl)) rfl rfl ?_
  refine hits_nil ?_
  refine to_next ?_
  refine hits_seq ?_
  refine hits_seq ?_
  refine hits_region ?_
  refine sq (f_assign rfl (lt rfl)) rfl rfl ?_
  refine hits_nil ?_
  refine to_next ?_
  refine hits_block ?_
  refine hits_own 5 5 6 rfl ?_
  refine hits_loop (fun x : List Wd × Nat × Nat => [(.slot 0, some (.d (.sc (.string (B s))))), (.slot 5, some (.own 5 6 (x.1.map wordD))), (.tip 5, some (.ptr 5 0)), (.slot 6, some (.d (.sc (.int .i64 ((x.2.2 : Nat) : Int))))), (.slot 7, some (.d (.sc (.int .i64 ((x.2.1 : Nat) : Int)))))]) (fun x : List Wd × Nat × Nat => x.2.2 ≤ x.2.1 ∧ x.2.1 ≤ s.length ∧ x.1.length ≤ x.2.1 ∧ W s 0 = words_app x.1 (W (s.drop x.2.1) x.2.2)) (fun x : List Wd × Nat × Nat => s.length - x.2.1) ([], 0, 0) ⟨Nat.le_refl _, Nat.zero_le _, Nat.le_refl _, by show W s 0 = words_app [] (W (s.drop 0) 0); rw [List.drop_zero]; cases W s 0 <;> simp [words_app]⟩ ⟨rfl, rfl, rfl, rfl, rfl, trivial⟩ rfl ?_
  intro x hx
  obtain ⟨l, i, m⟩ := x
  obtain ⟨hmi, hi2, hli, hJ⟩ := hx
  change m ≤ i at hmi
  change i ≤ s.length at hi2
  change l.length ≤ i at hli
  change W s 0 = words_app l (W (s.drop i) m) at hJ
  change Hits _ [(.slot 0, some (.d (.sc (.string (B s))))), (.slot 5, some (.own 5 6 (l.map wordD))), (.tip 5, some (.ptr 5 0)), (.slot 6, some (.d (.sc (.int .i64 ((m : Nat) : Int))))), (.slot 7, some (.d (.sc (.int .i64 ((i : Nat) : Int)))))] _
  have hll : (l.map wordD).length = l.length := List.length_map _
  refine hits_seq ?_
  refine hits_seq ?_
  by_cases hi : i < s.length
  · obtain ⟨c, hat0⟩ : ∃ c, s[i]? = some c := ⟨_, List.getElem?_eq_getElem hi⟩
    have hat : (B s).data.toList[i]? = some c := hat0
    refine hits_region ?_
    refine sq (f_move rfl (lt rfl)) rfl rfl ?_
    refine sq (f_move rfl (lt rfl)) rfl rfl ?_
    refine sq (f_lenStr rfl un9 (lt rfl)) rfl rfl ?_
    refine sq (f_bin rfl rfl (bT (decide_eq_true (by rw [B_size]; omega))) (lt rfl)) rfl rfl ?_
    refine hits_nil ?_
    refine to_next ?_
    refine hits_cond rfl (fun c1 => ?_) (fun c1 => absurd c1 Bool.false_ne_true.symm)
    refine hits_skip ?_
    refine to_next ?_
    refine hits_block ?_
    refine hits_seq ?_
    refine hits_region ?_
    refine sq (f_move rfl (lt rfl)) rfl rfl ?_
    refine sq (f_move rfl (lt rfl)) rfl rfl ?_
    refine sq (f_idxS rfl rfl un9 hat (lt rfl)) rfl rfl ?_
    refine sq (f_assign rfl (lt rfl)) rfl rfl ?_
    refine hits_nil ?_
    refine to_next ?_
    refine hits_seq ?_
    refine hits_seq ?_
    by_cases hc10 : c = 10
    · refine hits_region ?_
      refine sq (f_move rfl (lt rfl)) rfl rfl ?_
      refine sq (f_bin rfl rfl (bT (beq_iff_eq.mpr (by rw [hc10]; rfl))) (lt rfl)) rfl rfl ?_
      refine hits_nil ?_
      refine to_next ?_
      refine hits_cond rfl (fun c2 => ?_) (fun c2 => absurd c2 Bool.false_ne_true.symm)
      refine hits_region ?_
      refine sq (f_move rfl (lt rfl)) rfl rfl ?_
      refine sq (f_bin rfl rfl (iT (((IntWalk.i64_in _ (by omega)).trans (by omega) : _ = ((m + 1 : Nat) : Int)))) (lt rfl)) rfl rfl ?_
      refine sq (f_assign rfl (lt rfl)) rfl rfl ?_
      refine hits_nil ?_
      refine to_next ?_
      refine hits_seq ?_
      refine hits_seq ?_
      refine hits_region ?_
      refine sq (f_move rfl (lt rfl)) rfl rfl ?_
      refine sq (f_bin rfl rfl (bT (beq_iff_eq.mpr (by rw [hc10]; rfl))) (lt rfl)) rfl rfl ?_
      refine sq (f_move rfl (lt rfl)) rfl rfl ?_
      refine sq_no rfl rfl rfl rfl rfl (lt rfl) (lt rfl) ?_
      refine sq_no rfl rfl rfl rfl rfl (lt rfl) (lt rfl) ?_
      refine sq (f_pick rfl rfl (lt rfl)) rfl rfl ?_
      refine sq (f_move rfl (lt rfl)) rfl rfl ?_
      refine sq_no rfl rfl rfl rfl rfl (lt rfl) (lt rfl) ?_
      refine sq_no rfl rfl rfl rfl rfl (lt rfl) (lt rfl) ?_
      refine sq (f_pick rfl rfl (lt rfl)) rfl rfl ?_
      refine hits_nil ?_
      refine to_next ?_
      refine hits_cond rfl (fun c3 => ?_) (fun c3 => absurd c3 Bool.false_ne_true.symm)
      refine hits_seq ?_
      refine hits_region ?_
      refine sq (f_move rfl (lt rfl)) rfl rfl ?_
      refine sq (f_bin rfl rfl (iT (((IntWalk.i64_in _ (by omega)).trans (by omega) : _ = ((i + 1 : Nat) : Int)))) (lt rfl)) rfl rfl ?_
      refine sq (f_assign rfl (lt rfl)) rfl rfl ?_
      refine hits_nil ?_
      refine to_next ?_
      refine hits_exit ?_
      refine to_exit ?_
      refine in_hit rfl ?_
      refine to_next ?_
      refine round_end (l, i + 1, m + 1) ⟨by simp only; omega, by simp only; omega, by simp only; omega, by rw [hJ, rw_line m (by rw [hat0, hc10])]⟩ (by simp only; omega) ⟨rfl, rfl, rfl, rfl, rfl, trivial⟩ rfl
    · by_cases h32 : c = 32
      · refine hits_region ?_
        refine sq (f_move rfl (lt rfl)) rfl rfl ?_
        refine sq (f_bin rfl rfl (bT (beq_eq_false_iff_ne.mpr (byte_neq (n := 10) (by decide) hc10))) (lt rfl)) rfl rfl ?_
        refine hits_nil ?_
        refine to_next ?_
        refine hits_cond rfl (fun c2 => absurd c2 Bool.false_ne_true) (fun c2 => ?_)
        refine hits_skip ?_
        refine to_next ?_
        refine hits_seq ?_
        refine hits_seq ?_
        refine hits_region ?_
        refine sq (f_move rfl (lt rfl)) rfl rfl ?_
        refine sq (f_bin rfl rfl (bT (beq_eq_false_iff_ne.mpr (byte_neq (n := 10) (by decide) hc10))) (lt rfl)) rfl rfl ?_
        refine sq (f_move rfl (lt rfl)) rfl rfl ?_
        refine sq_yes (f_move rfl (lt rfl)) rfl rfl rfl rfl (lt rfl) ?_
        refine sq_yes (f_bin rfl rfl (bT (beq_iff_eq.mpr (by rw [h32]; rfl))) (lt rfl)) rfl rfl rfl rfl (lt rfl) ?_
        refine sq (f_pick rfl rfl (lt rfl)) rfl rfl ?_
        refine sq (f_move rfl (lt rfl)) rfl rfl ?_
        refine sq_no rfl rfl rfl rfl rfl (lt rfl) (lt rfl) ?_
        refine sq_no rfl rfl rfl rfl rfl (lt rfl) (lt rfl) ?_
        refine sq (f_pick rfl rfl (lt rfl)) rfl rfl ?_
        refine hits_nil ?_
        refine to_next ?_
        refine hits_cond rfl (fun c3 => ?_) (fun c3 => absurd c3 Bool.false_ne_true.symm)
        refine hits_seq ?_
        refine hits_region ?_
        refine sq (f_move rfl (lt rfl)) rfl rfl ?_
        refine sq (f_bin rfl rfl (iT (((IntWalk.i64_in _ (by omega)).trans (by omega) : _ = ((i + 1 : Nat) : Int)))) (lt rfl)) rfl rfl ?_
        refine sq (f_assign rfl (lt rfl)) rfl rfl ?_
        refine hits_nil ?_
        refine to_next ?_
        refine hits_exit ?_
        refine to_exit ?_
        refine in_hit rfl ?_
        refine to_next ?_
        refine round_end (l, i + 1, m) ⟨by simp only; omega, by simp only; omega, by simp only; omega, by rw [hJ, rw_blank m hat0 hc10 ((blank_is c).mpr (.inr (.inl h32)))]⟩ (by simp only; omega) ⟨rfl, rfl, rfl, rfl, rfl, trivial⟩ rfl
      · by_cases h9 : c = 9
        · refine hits_region ?_
          refine sq (f_move rfl (lt rfl)) rfl rfl ?_
          refine sq (f_bin rfl rfl (bT (beq_eq_false_iff_ne.mpr (byte_neq (n := 10) (by decide) hc10))) (lt rfl)) rfl rfl ?_
          refine hits_nil ?_
          refine to_next ?_
          refine hits_cond rfl (fun c2 => absurd c2 Bool.false_ne_true) (fun c2 => ?_)
          refine hits_skip ?_
          refine to_next ?_
          refine hits_seq ?_
          refine hits_seq ?_
          refine hits_region ?_
          refine sq (f_move rfl (lt rfl)) rfl rfl ?_
          refine sq (f_bin rfl rfl (bT (beq_eq_false_iff_ne.mpr (byte_neq (n := 10) (by decide) hc10))) (lt rfl)) rfl rfl ?_
          refine sq (f_move rfl (lt rfl)) rfl rfl ?_
          refine sq_yes (f_move rfl (lt rfl)) rfl rfl rfl rfl (lt rfl) ?_
          refine sq_yes (f_bin rfl rfl (bT (beq_eq_false_iff_ne.mpr (byte_neq (n := 32) (by decide) h32))) (lt rfl)) rfl rfl rfl rfl (lt rfl) ?_
          refine sq (f_pick rfl rfl (lt rfl)) rfl rfl ?_
          refine sq (f_move rfl (lt rfl)) rfl rfl ?_
          refine sq_yes (f_move rfl (lt rfl)) rfl rfl rfl rfl (lt rfl) ?_
          refine sq_yes (f_bin rfl rfl (bT (beq_iff_eq.mpr (by rw [h9]; rfl))) (lt rfl)) rfl rfl rfl rfl (lt rfl) ?_
          refine sq (f_pick rfl rfl (lt rfl)) rfl rfl ?_
          refine hits_nil ?_
          refine to_next ?_
          refine hits_cond rfl (fun c3 => ?_) (fun c3 => absurd c3 Bool.false_ne_true.symm)
          refine hits_seq ?_
          refine hits_region ?_
          refine sq (f_move rfl (lt rfl)) rfl rfl ?_
          refine sq (f_bin rfl rfl (iT (((IntWalk.i64_in _ (by omega)).trans (by omega) : _ = ((i + 1 : Nat) : Int)))) (lt rfl)) rfl rfl ?_
          refine sq (f_assign rfl (lt rfl)) rfl rfl ?_
          refine hits_nil ?_
          refine to_next ?_
          refine hits_exit ?_
          refine to_exit ?_
          refine in_hit rfl ?_
          refine to_next ?_
          refine round_end (l, i + 1, m) ⟨by simp only; omega, by simp only; omega, by simp only; omega, by rw [hJ, rw_blank m hat0 hc10 ((blank_is c).mpr (.inr (.inr h9)))]⟩ (by simp only; omega) ⟨rfl, rfl, rfl, rfl, rfl, trivial⟩ rfl
        · have hnb : blank c = false := by rw [← Bool.not_eq_true, blank_is]; intro h; rcases h with h | h | h; exact hc10 h; exact h32 h; exact h9 h
          refine hits_region ?_
          refine sq (f_move rfl (lt rfl)) rfl rfl ?_
          refine sq (f_bin rfl rfl (bT (beq_eq_false_iff_ne.mpr (byte_neq (n := 10) (by decide) hc10))) (lt rfl)) rfl rfl ?_
          refine hits_nil ?_
          refine to_next ?_
          refine hits_cond rfl (fun c2 => absurd c2 Bool.false_ne_true) (fun c2 => ?_)
          refine hits_skip ?_
          refine to_next ?_
          refine hits_seq ?_
          refine hits_seq ?_
          refine hits_region ?_
          refine sq (f_move rfl (lt rfl)) rfl rfl ?_
          refine sq (f_bin rfl rfl (bT (beq_eq_false_iff_ne.mpr (byte_neq (n := 10) (by decide) hc10))) (lt rfl)) rfl rfl ?_
          refine sq (f_move rfl (lt rfl)) rfl rfl ?_
          refine sq_yes (f_move rfl (lt rfl)) rfl rfl rfl rfl (lt rfl) ?_
          refine sq_yes (f_bin rfl rfl (bT (beq_eq_false_iff_ne.mpr (byte_neq (n := 32) (by decide) h32))) (lt rfl)) rfl rfl rfl rfl (lt rfl) ?_
          refine sq (f_pick rfl rfl (lt rfl)) rfl rfl ?_
          refine sq (f_move rfl (lt rfl)) rfl rfl ?_
          refine sq_yes (f_move rfl (lt rfl)) rfl rfl rfl rfl (lt rfl) ?_
          refine sq_yes (f_bin rfl rfl (bT (beq_eq_false_iff_ne.mpr (byte_neq (n := 9) (by decide) h9))) (lt rfl)) rfl rfl rfl rfl (lt rfl) ?_
          refine sq (f_pick rfl rfl (lt rfl)) rfl rfl ?_
          refine hits_nil ?_
          refine to_next ?_
          refine hits_cond rfl (fun c3 => absurd c3 Bool.false_ne_true) (fun c3 => ?_)
          refine hits_skip ?_
          refine to_next ?_
          refine hits_seq ?_
          refine hits_seq ?_
          by_cases h47 : c = 47
          · by_cases hi1 : i + 1 < s.length
            · obtain ⟨d, hat1⟩ : ∃ d, s[i + 1]? = some d := ⟨_, List.getElem?_eq_getElem hi1⟩
              have hatd : (B s).data.toList[i + 1]? = some d := hat1
              by_cases hd47 : d = 47
              · have hcom := rw_com m (by rw [hat0, h47]) (by rw [hat1, hd47])
                refine hits_region ?_
                refine sq (f_move rfl (lt rfl)) rfl rfl ?_
                refine sq (f_bin rfl rfl (bT (beq_iff_eq.mpr (by rw [h47]; rfl))) (lt rfl)) rfl rfl ?_
                refine sq (f_move rfl (lt rfl)) rfl rfl ?_
                refine sq_yes (f_move rfl (lt rfl)) rfl rfl rfl rfl (lt rfl) ?_
                refine sq_yes (f_bin rfl rfl (iT (((IntWalk.i64_in _ (by omega)).trans (by omega) : _ = ((i + 1 : Nat) : Int)))) (lt rfl)) rfl rfl rfl rfl (lt rfl) ?_
                refine sq_yes (f_move rfl (lt rfl)) rfl rfl rfl rfl (lt rfl) ?_
                refine sq_yes (f_lenStr rfl un9 (lt rfl)) rfl rfl rfl rfl (lt rfl) ?_
                refine sq_yes (f_bin rfl rfl (bT (decide_eq_true (by rw [B_size]; omega))) (lt rfl)) rfl rfl rfl rfl (lt rfl) ?_
                refine sq (f_pick rfl rfl (lt rfl)) rfl rfl ?_
                refine sq (f_move rfl (lt rfl)) rfl rfl ?_
                refine sq_yes (f_move rfl (lt rfl)) rfl rfl rfl rfl (lt rfl) ?_
                refine sq_yes (f_move rfl (lt rfl)) rfl rfl rfl rfl (lt rfl) ?_
                refine sq_yes (f_bin rfl rfl (iT (((IntWalk.i64_in _ (by omega)).trans (by omega) : _ = ((i + 1 : Nat) : Int)))) (lt rfl)) rfl rfl rfl rfl (lt rfl) ?_
                refine sq_yes (f_idxS rfl rfl un9 hatd (lt rfl)) rfl rfl rfl rfl (lt rfl) ?_
                refine sq_yes (f_bin rfl rfl (bT (beq_iff_eq.mpr (by rw [hd47]; rfl))) (lt rfl)) rfl rfl rfl rfl (lt rfl) ?_
                refine sq (f_pick rfl rfl (lt rfl)) rfl rfl ?_
                refine hits_nil ?_
                refine to_next ?_
                refine hits_cond rfl (fun c4 => ?_) (fun c4 => absurd c4 Bool.false_ne_true.symm)
                refine hits_seq ?_
                refine hits_block ?_
                refine hits_loop (fun j : Nat => [(.slot 0, some (.d (.sc (.string (B s))))), (.slot 5, some (.own 5 6 (l.map wordD))), (.tip 5, some (.ptr 5 0)), (.slot 6, some (.d (.sc (.int .i64 ((m : Nat) : Int))))), (.slot 7, some (.d (.sc (.int .i64 ((j : Nat) : Int)))))]) (fun j : Nat => i ≤ j ∧ j ≤ s.length ∧ (s.drop j).dropWhile noline = (s.drop i).dropWhile noline) (fun j : Nat => s.length - j) i ⟨Nat.le_refl _, hi2, rfl⟩ ⟨rfl, rfl, rfl, rfl, rfl, trivial⟩ rfl ?_
                intro j hx2
                obtain ⟨hij, hj0, hdw⟩ := hx2
                refine hits_seq ?_
                refine hits_seq ?_
                by_cases hj : j < s.length
                · obtain ⟨e, hat2⟩ : ∃ e, s[j]? = some e := ⟨_, List.getElem?_eq_getElem hj⟩
                  have hate : (B s).data.toList[j]? = some e := hat2
                  by_cases he10 : e = 10
                  · have hde := dw_end (s := s) (j := j) (.inr (by rw [hat2, he10]))
                    have hlt : i < j := by rcases Nat.lt_or_eq_of_le hij with h | h; exact h; exfalso; subst h; rw [hat0] at hat2; cases hat2; rw [h47] at he10; exact absurd he10 (by decide)
                    refine hits_region ?_
                    refine sq (f_move rfl (lt rfl)) rfl rfl ?_
                    refine sq (f_move rfl (lt rfl)) rfl rfl ?_
                    refine sq (f_lenStr rfl un9 (lt rfl)) rfl rfl ?_
                    refine sq (f_bin rfl rfl (bT (decide_eq_true (by rw [B_size]; omega))) (lt rfl)) rfl rfl ?_
                    refine sq (f_move rfl (lt rfl)) rfl rfl ?_
                    refine sq_yes (f_move rfl (lt rfl)) rfl rfl rfl rfl (lt rfl) ?_
                    refine sq_yes (f_move rfl (lt rfl)) rfl rfl rfl rfl (lt rfl) ?_
                    refine sq_yes (f_idxS rfl rfl un9 hate (lt rfl)) rfl rfl rfl rfl (lt rfl) ?_
                    refine sq_yes (f_bin rfl rfl (bT ((by rw [he10]; rfl : _ = false))) (lt rfl)) rfl rfl rfl rfl (lt rfl) ?_
                    refine sq (f_pick rfl rfl (lt rfl)) rfl rfl ?_
                    refine hits_nil ?_
                    refine to_next ?_
                    refine hits_cond rfl (fun c5 => absurd c5 Bool.false_ne_true) (fun c5 => ?_)
                    refine hits_exit ?_
                    refine to_exit ?_
                    refine to_exit ?_
                    refine in_hit rfl ?_
                    refine to_next ?_
                    refine hits_exit ?_
                    refine to_exit ?_
                    refine in_hit rfl ?_
                    refine to_next ?_
                    refine round_end (l, j, m) ⟨by simp only; omega, hj0, by simp only; omega, by rw [hJ, hcom, ← hdw, hde]⟩ (by simp only; omega) ⟨rfl, rfl, rfl, rfl, rfl, trivial⟩ rfl
                  · refine hits_region ?_
                    refine sq (f_move rfl (lt rfl)) rfl rfl ?_
                    refine sq (f_move rfl (lt rfl)) rfl rfl ?_
                    refine sq (f_lenStr rfl un9 (lt rfl)) rfl rfl ?_
                    refine sq (f_bin rfl rfl (bT (decide_eq_true (by rw [B_size]; omega))) (lt rfl)) rfl rfl ?_
                    refine sq (f_move rfl (lt rfl)) rfl rfl ?_
                    refine sq_yes (f_move rfl (lt rfl)) rfl rfl rfl rfl (lt rfl) ?_
                    refine sq_yes (f_move rfl (lt rfl)) rfl rfl rfl rfl (lt rfl) ?_
                    refine sq_yes (f_idxS rfl rfl un9 hate (lt rfl)) rfl rfl rfl rfl (lt rfl) ?_
                    refine sq_yes (f_bin rfl rfl (bT ((bne_iff_ne.mpr (byte_neq (n := 10) (by decide) he10)))) (lt rfl)) rfl rfl rfl rfl (lt rfl) ?_
                    refine sq (f_pick rfl rfl (lt rfl)) rfl rfl ?_
                    refine hits_nil ?_
                    refine to_next ?_
                    refine hits_cond rfl (fun c5 => ?_) (fun c5 => absurd c5 Bool.false_ne_true.symm)
                    refine hits_skip ?_
                    refine to_next ?_
                    refine hits_block ?_
                    refine hits_region ?_
                    refine sq (f_move rfl (lt rfl)) rfl rfl ?_
                    refine sq (f_bin rfl rfl (iT (((IntWalk.i64_in _ (by omega)).trans (by omega) : _ = ((j + 1 : Nat) : Int)))) (lt rfl)) rfl rfl ?_
                    refine sq (f_assign rfl (lt rfl)) rfl rfl ?_
                    refine hits_nil ?_
                    refine in_next ?_
                    refine to_next ?_
                    refine round_end (j + 1) ⟨by omega, by omega, dw_more hat2 he10 hdw⟩ (by omega) ⟨rfl, rfl, rfl, rfl, rfl, trivial⟩ rfl
                · have hde := dw_end (s := s) (j := j) (.inl (by omega))
                  refine hits_region ?_
                  refine sq (f_move rfl (lt rfl)) rfl rfl ?_
                  refine sq (f_move rfl (lt rfl)) rfl rfl ?_
                  refine sq (f_lenStr rfl un9 (lt rfl)) rfl rfl ?_
                  refine sq (f_bin rfl rfl (bT (decide_eq_false (by rw [B_size]; omega))) (lt rfl)) rfl rfl ?_
                  refine sq (f_move rfl (lt rfl)) rfl rfl ?_
                  refine sq_no rfl rfl rfl rfl rfl (lt rfl) (lt rfl) ?_
                  refine sq_no rfl rfl rfl rfl rfl (lt rfl) (lt rfl) ?_
                  refine sq_no rfl rfl rfl rfl rfl (lt rfl) (lt rfl) ?_
                  refine sq_no rfl rfl rfl rfl rfl (lt rfl) (lt rfl) ?_
                  refine sq (f_pick rfl rfl (lt rfl)) rfl rfl ?_
                  refine hits_nil ?_
                  refine to_next ?_
                  refine hits_cond rfl (fun c5 => absurd c5 Bool.false_ne_true) (fun c5 => ?_)
                  refine hits_exit ?_
                  refine to_exit ?_
                  refine to_exit ?_
                  refine in_hit rfl ?_
                  refine to_next ?_
                  refine hits_exit ?_
                  refine to_exit ?_
                  refine in_hit rfl ?_
                  refine to_next ?_
                  refine round_end (l, j, m) ⟨by simp only; omega, hj0, by simp only; omega, by rw [hJ, hcom, ← hdw, hde]⟩ (by simp only; omega) ⟨rfl, rfl, rfl, rfl, rfl, trivial⟩ rfl
              · have hst := stops_at hat0 hnb (fun q => hd47 (by have := q.2; rw [hat1] at this; exact Option.some.inj this))
                obtain ⟨x, e, hw, he, hp⟩ := rword_c s hs hat0
                refine hits_region ?_
                refine sq (f_move rfl (lt rfl)) rfl rfl ?_
                refine sq (f_bin rfl rfl (bT (beq_iff_eq.mpr (by rw [h47]; rfl))) (lt rfl)) rfl rfl ?_
                refine sq (f_move rfl (lt rfl)) rfl rfl ?_
                refine sq_yes (f_move rfl (lt rfl)) rfl rfl rfl rfl (lt rfl) ?_
                refine sq_yes (f_bin rfl rfl (iT (((IntWalk.i64_in _ (by omega)).trans (by omega) : _ = ((i + 1 : Nat) : Int)))) (lt rfl)) rfl rfl rfl rfl (lt rfl) ?_
                refine sq_yes (f_move rfl (lt rfl)) rfl rfl rfl rfl (lt rfl) ?_
                refine sq_yes (f_lenStr rfl un9 (lt rfl)) rfl rfl rfl rfl (lt rfl) ?_
                refine sq_yes (f_bin rfl rfl (bT (decide_eq_true (by rw [B_size]; omega))) (lt rfl)) rfl rfl rfl rfl (lt rfl) ?_
                refine sq (f_pick rfl rfl (lt rfl)) rfl rfl ?_
                refine sq (f_move rfl (lt rfl)) rfl rfl ?_
                refine sq_yes (f_move rfl (lt rfl)) rfl rfl rfl rfl (lt rfl) ?_
                refine sq_yes (f_move rfl (lt rfl)) rfl rfl rfl rfl (lt rfl) ?_
                refine sq_yes (f_bin rfl rfl (iT (((IntWalk.i64_in _ (by omega)).trans (by omega) : _ = ((i + 1 : Nat) : Int)))) (lt rfl)) rfl rfl rfl rfl (lt rfl) ?_
                refine sq_yes (f_idxS rfl rfl un9 hatd (lt rfl)) rfl rfl rfl rfl (lt rfl) ?_
                refine sq_yes (f_bin rfl rfl (bT (beq_eq_false_iff_ne.mpr (byte_neq (n := 47) (by decide) hd47))) (lt rfl)) rfl rfl rfl rfl (lt rfl) ?_
                refine sq (f_pick rfl rfl (lt rfl)) rfl rfl ?_
                refine hits_nil ?_
                refine to_next ?_
                refine hits_cond rfl (fun c4 => absurd c4 Bool.false_ne_true) (fun c4 => ?_)
                refine hits_skip ?_
                refine to_next ?_
                refine hits_seq ?_
                cases hk : word (s.drop i)
                · have hfin := rfail hat0 hst hk hJ
                  rw [hk] at hw
                  refine hits_region ?_
                  refine sq (f_move rfl (lt rfl)) rfl rfl ?_
                  refine sq (f_move rfl (lt rfl)) rfl rfl ?_
                  refine sq (f_call en126 rfl hw (lt rfl)) rfl rfl ?_
                  refine sq (f_move rfl (lt rfl)) rfl rfl ?_
                  refine sq (f_extract rfl rfl (lt rfl)) rfl rfl ?_
                  refine sq (f_extract rfl rfl (lt rfl)) rfl rfl ?_
                  refine sq (f_extract rfl rfl (lt rfl)) rfl rfl ?_
                  refine sq (f_alloc zc77 (lt rfl)) rfl rfl ?_
                  refine sq (f_store kd77 rfl rfl rfl rfl rfl) rfl rfl ?_
                  refine sq (f_assign rfl (lt rfl)) rfl rfl ?_
                  refine sq (f_assign rfl (lt rfl)) rfl rfl ?_
                  refine hits_nil ?_
                  refine to_next ?_
                  refine hits_seq ?_
                  refine hits_seq ?_
                  refine hits_region ?_
                  refine sq (f_move rfl (lt rfl)) rfl rfl ?_
                  refine sq (f_un rfl rfl (lt rfl)) rfl rfl ?_
                  refine hits_nil ?_
                  refine to_next ?_
                  refine hits_cond rfl (fun c6 => ?_) (fun c6 => absurd c6 Bool.false_ne_true.symm)
                  refine hits_seq ?_
                  refine hits_region ?_
                  refine sq (f_move rfl (lt rfl)) rfl rfl ?_
                  refine sq (f_assign rfl (lt rfl)) rfl rfl ?_
                  refine sq (f_assign rfl (lt rfl)) rfl rfl ?_
                  refine sq (f_assign rfl (lt rfl)) rfl rfl ?_
                  refine hits_nil ?_
                  refine to_next ?_
                  refine hits_ret ?_
                  refine to_ret ?_
                  refine in_ret ?_
                  refine to_ret ?_
                  refine in_ret ?_
                  refine to_ret ?_
                  refine hits_own 2 2 6 rfl ?_
                  exact hits_done (.inl rfl) rfl rfl (by rw [hfin]; rfl)
                · obtain rfl := hp _ hk
                  have hlt := word_lt hk
                  rw [List.length_drop, List.length_drop] at hlt
                  have hJ2 := rstep hst hk hJ
                  rw [hk] at hw
                  refine hits_region ?_
                  refine sq (f_move rfl (lt rfl)) rfl rfl ?_
                  refine sq (f_move rfl (lt rfl)) rfl rfl ?_
                  refine sq (f_call en126 rfl hw (lt rfl)) rfl rfl ?_
                  refine sq (f_move rfl (lt rfl)) rfl rfl ?_
                  refine sq (f_extract rfl rfl (lt rfl)) rfl rfl ?_
                  refine sq (f_extract rfl rfl (lt rfl)) rfl rfl ?_
                  refine sq (f_extract rfl rfl (lt rfl)) rfl rfl ?_
                  refine sq (f_alloc zc77 (lt rfl)) rfl rfl ?_
                  refine sq (f_store kd77 rfl rfl rfl rfl rfl) rfl rfl ?_
                  refine sq (f_assign rfl (lt rfl)) rfl rfl ?_
                  refine sq (f_assign rfl (lt rfl)) rfl rfl ?_
                  refine hits_nil ?_
                  refine to_next ?_
                  refine hits_seq ?_
                  refine hits_seq ?_
                  refine hits_region ?_
                  refine sq (f_move rfl (lt rfl)) rfl rfl ?_
                  refine sq (f_un rfl rfl (lt rfl)) rfl rfl ?_
                  refine hits_nil ?_
                  refine to_next ?_
                  refine hits_cond rfl (fun c6 => absurd c6 Bool.false_ne_true) (fun c6 => ?_)
                  refine hits_skip ?_
                  refine to_next ?_
                  refine hits_seq ?_
                  refine hits_region ?_
                  refine sq (f_move rfl (lt rfl)) rfl rfl ?_
                  refine sq (f_fieldAddr rfl kf77_3 rfl (lt rfl)) rfl rfl ?_
                  refine sq (f_store kd3 rfl rfl rfl rfl rfl) rfl rfl ?_
                  refine hits_nil ?_
                  refine to_next ?_
                  refine hits_seq ?_
                  refine hits_region ?_
                  refine sq (f_move rfl (lt rfl)) rfl rfl ?_
                  refine sq (f_load kd77 rfl rfl (lt rfl)) rfl rfl ?_
                  refine sq (f_buildSlice sk69 rfl rfl rfl rfl rfl rfl (by decide) (by decide) (lt rfl)) rfl rfl ?_
                  refine sq_append rfl rfl rfl rfl apk69 (by rw [List.length_map]; simp only [snds, List.length_cons, List.length_nil]; omega) (by rw [List.length_map]; simp only [snds, List.length_cons, List.length_nil]; omega) rfl (lt rfl) ?_
                  refine sq (f_assign rfl (lt rfl)) rfl rfl ?_
                  refine hits_nil ?_
                  refine to_next ?_
                  refine hits_region ?_
                  refine sq (f_move rfl (lt rfl)) rfl rfl ?_
                  refine sq (f_assign rfl (lt rfl)) rfl rfl ?_
                  refine hits_nil ?_
                  refine in_next ?_
                  refine to_next ?_
                  refine round_end (l ++ [({ x with ln := m } : Wd)], e, m) ⟨by simp only; omega, he, by simp only [List.length_append, List.length_cons, List.length_nil]; omega, hJ2⟩ (by simp only; omega) ⟨rfl, (by show _ = some (V.own 5 6 (List.map wordD (l ++ [({ x with ln := m } : Wd)]))); rw [List.map_append]; rfl), rfl, rfl, rfl, trivial⟩ rfl
            · have hst := stops_at hat0 hnb (fun q => hi1 (List.getElem?_eq_some_iff.mp q.2).1)
              obtain ⟨x, e, hw, he, hp⟩ := rword_c s hs hat0
              refine hits_region ?_
              refine sq (f_move rfl (lt rfl)) rfl rfl ?_
              refine sq (f_bin rfl rfl (bT (beq_iff_eq.mpr (by rw [h47]; rfl))) (lt rfl)) rfl rfl ?_
              refine sq (f_move rfl (lt rfl)) rfl rfl ?_
              refine sq_yes (f_move rfl (lt rfl)) rfl rfl rfl rfl (lt rfl) ?_
              refine sq_yes (f_bin rfl rfl (iT (((IntWalk.i64_in _ (by omega)).trans (by omega) : _ = ((i + 1 : Nat) : Int)))) (lt rfl)) rfl rfl rfl rfl (lt rfl) ?_
              refine sq_yes (f_move rfl (lt rfl)) rfl rfl rfl rfl (lt rfl) ?_
              refine sq_yes (f_lenStr rfl un9 (lt rfl)) rfl rfl rfl rfl (lt rfl) ?_
              refine sq_yes (f_bin rfl rfl (bT (decide_eq_false (by rw [B_size]; omega))) (lt rfl)) rfl rfl rfl rfl (lt rfl) ?_
              refine sq (f_pick rfl rfl (lt rfl)) rfl rfl ?_
              refine sq (f_move rfl (lt rfl)) rfl rfl ?_
              refine sq_no rfl rfl rfl rfl rfl (lt rfl) (lt rfl) ?_
              refine sq_no rfl rfl rfl rfl rfl (lt rfl) (lt rfl) ?_
              refine sq_no rfl rfl rfl rfl rfl (lt rfl) (lt rfl) ?_
              refine sq_no rfl rfl rfl rfl rfl (lt rfl) (lt rfl) ?_
              refine sq_no rfl rfl rfl rfl rfl (lt rfl) (lt rfl) ?_
              refine sq (f_pick rfl rfl (lt rfl)) rfl rfl ?_
              refine hits_nil ?_
              refine to_next ?_
              refine hits_cond rfl (fun c4 => absurd c4 Bool.false_ne_true) (fun c4 => ?_)
              refine hits_skip ?_
              refine to_next ?_
              refine hits_seq ?_
              cases hk : word (s.drop i)
              · have hfin := rfail hat0 hst hk hJ
                rw [hk] at hw
                refine hits_region ?_
                refine sq (f_move rfl (lt rfl)) rfl rfl ?_
                refine sq (f_move rfl (lt rfl)) rfl rfl ?_
                refine sq (f_call en126 rfl hw (lt rfl)) rfl rfl ?_
                refine sq (f_move rfl (lt rfl)) rfl rfl ?_
                refine sq (f_extract rfl rfl (lt rfl)) rfl rfl ?_
                refine sq (f_extract rfl rfl (lt rfl)) rfl rfl ?_
                refine sq (f_extract rfl rfl (lt rfl)) rfl rfl ?_
                refine sq (f_alloc zc77 (lt rfl)) rfl rfl ?_
                refine sq (f_store kd77 rfl rfl rfl rfl rfl) rfl rfl ?_
                refine sq (f_assign rfl (lt rfl)) rfl rfl ?_
                refine sq (f_assign rfl (lt rfl)) rfl rfl ?_
                refine hits_nil ?_
                refine to_next ?_
                refine hits_seq ?_
                refine hits_seq ?_
                refine hits_region ?_
                refine sq (f_move rfl (lt rfl)) rfl rfl ?_
                refine sq (f_un rfl rfl (lt rfl)) rfl rfl ?_
                refine hits_nil ?_
                refine to_next ?_
                refine hits_cond rfl (fun c6 => ?_) (fun c6 => absurd c6 Bool.false_ne_true.symm)
                refine hits_seq ?_
                refine hits_region ?_
                refine sq (f_move rfl (lt rfl)) rfl rfl ?_
                refine sq (f_assign rfl (lt rfl)) rfl rfl ?_
                refine sq (f_assign rfl (lt rfl)) rfl rfl ?_
                refine sq (f_assign rfl (lt rfl)) rfl rfl ?_
                refine hits_nil ?_
                refine to_next ?_
                refine hits_ret ?_
                refine to_ret ?_
                refine in_ret ?_
                refine to_ret ?_
                refine in_ret ?_
                refine to_ret ?_
                refine hits_own 2 2 6 rfl ?_
                exact hits_done (.inl rfl) rfl rfl (by rw [hfin]; rfl)
              · obtain rfl := hp _ hk
                have hlt := word_lt hk
                rw [List.length_drop, List.length_drop] at hlt
                have hJ2 := rstep hst hk hJ
                rw [hk] at hw
                refine hits_region ?_
                refine sq (f_move rfl (lt rfl)) rfl rfl ?_
                refine sq (f_move rfl (lt rfl)) rfl rfl ?_
                refine sq (f_call en126 rfl hw (lt rfl)) rfl rfl ?_
                refine sq (f_move rfl (lt rfl)) rfl rfl ?_
                refine sq (f_extract rfl rfl (lt rfl)) rfl rfl ?_
                refine sq (f_extract rfl rfl (lt rfl)) rfl rfl ?_
                refine sq (f_extract rfl rfl (lt rfl)) rfl rfl ?_
                refine sq (f_alloc zc77 (lt rfl)) rfl rfl ?_
                refine sq (f_store kd77 rfl rfl rfl rfl rfl) rfl rfl ?_
                refine sq (f_assign rfl (lt rfl)) rfl rfl ?_
                refine sq (f_assign rfl (lt rfl)) rfl rfl ?_
                refine hits_nil ?_
                refine to_next ?_
                refine hits_seq ?_
                refine hits_seq ?_
                refine hits_region ?_
                refine sq (f_move rfl (lt rfl)) rfl rfl ?_
                refine sq (f_un rfl rfl (lt rfl)) rfl rfl ?_
                refine hits_nil ?_
                refine to_next ?_
                refine hits_cond rfl (fun c6 => absurd c6 Bool.false_ne_true) (fun c6 => ?_)
                refine hits_skip ?_
                refine to_next ?_
                refine hits_seq ?_
                refine hits_region ?_
                refine sq (f_move rfl (lt rfl)) rfl rfl ?_
                refine sq (f_fieldAddr rfl kf77_3 rfl (lt rfl)) rfl rfl ?_
                refine sq (f_store kd3 rfl rfl rfl rfl rfl) rfl rfl ?_
                refine hits_nil ?_
                refine to_next ?_
                refine hits_seq ?_
                refine hits_region ?_
                refine sq (f_move rfl (lt rfl)) rfl rfl ?_
                refine sq (f_load kd77 rfl rfl (lt rfl)) rfl rfl ?_
                refine sq (f_buildSlice sk69 rfl rfl rfl rfl rfl rfl (by decide) (by decide) (lt rfl)) rfl rfl ?_
                refine sq_append rfl rfl rfl rfl apk69 (by rw [List.length_map]; simp only [snds, List.length_cons, List.length_nil]; omega) (by rw [List.length_map]; simp only [snds, List.length_cons, List.length_nil]; omega) rfl (lt rfl) ?_
                refine sq (f_assign rfl (lt rfl)) rfl rfl ?_
                refine hits_nil ?_
                refine to_next ?_
                refine hits_region ?_
                refine sq (f_move rfl (lt rfl)) rfl rfl ?_
                refine sq (f_assign rfl (lt rfl)) rfl rfl ?_
                refine hits_nil ?_
                refine in_next ?_
                refine to_next ?_
                refine round_end (l ++ [({ x with ln := m } : Wd)], e, m) ⟨by simp only; omega, he, by simp only [List.length_append, List.length_cons, List.length_nil]; omega, hJ2⟩ (by simp only; omega) ⟨rfl, (by show _ = some (V.own 5 6 (List.map wordD (l ++ [({ x with ln := m } : Wd)]))); rw [List.map_append]; rfl), rfl, rfl, rfl, trivial⟩ rfl
          · have hst := stops_at hat0 hnb (fun q => h47 q.1)
            obtain ⟨x, e, hw, he, hp⟩ := rword_c s hs hat0
            refine hits_region ?_
            refine sq (f_move rfl (lt rfl)) rfl rfl ?_
            refine sq (f_bin rfl rfl (bT (beq_eq_false_iff_ne.mpr (byte_neq (n := 47) (by decide) h47))) (lt rfl)) rfl rfl ?_
            refine sq (f_move rfl (lt rfl)) rfl rfl ?_
            refine sq_no rfl rfl rfl rfl rfl (lt rfl) (lt rfl) ?_
            refine sq_no rfl rfl rfl rfl rfl (lt rfl) (lt rfl) ?_
            refine sq_no rfl rfl rfl rfl rfl (lt rfl) (lt rfl) ?_
            refine sq_no rfl rfl rfl rfl rfl (lt rfl) (lt rfl) ?_
            refine sq_no rfl rfl rfl rfl rfl (lt rfl) (lt rfl) ?_
            refine sq (f_pick rfl rfl (lt rfl)) rfl rfl ?_
            refine sq (f_move rfl (lt rfl)) rfl rfl ?_
            refine sq_no rfl rfl rfl rfl rfl (lt rfl) (lt rfl) ?_
            refine sq_no rfl rfl rfl rfl rfl (lt rfl) (lt rfl) ?_
            refine sq_no rfl rfl rfl rfl rfl (lt rfl) (lt rfl) ?_
            refine sq_no rfl rfl rfl rfl rfl (lt rfl) (lt rfl) ?_
            refine sq_no rfl rfl rfl rfl rfl (lt rfl) (lt rfl) ?_
            refine sq (f_pick rfl rfl (lt rfl)) rfl rfl ?_
            refine hits_nil ?_
            refine to_next ?_
            refine hits_cond rfl (fun c4 => absurd c4 Bool.false_ne_true) (fun c4 => ?_)
            refine hits_skip ?_
            refine to_next ?_
            refine hits_seq ?_
            cases hk : word (s.drop i)
            · have hfin := rfail hat0 hst hk hJ
              rw [hk] at hw
              refine hits_region ?_
              refine sq (f_move rfl (lt rfl)) rfl rfl ?_
              refine sq (f_move rfl (lt rfl)) rfl rfl ?_
              refine sq (f_call en126 rfl hw (lt rfl)) rfl rfl ?_
              refine sq (f_move rfl (lt rfl)) rfl rfl ?_
              refine sq (f_extract rfl rfl (lt rfl)) rfl rfl ?_
              refine sq (f_extract rfl rfl (lt rfl)) rfl rfl ?_
              refine sq (f_extract rfl rfl (lt rfl)) rfl rfl ?_
              refine sq (f_alloc zc77 (lt rfl)) rfl rfl ?_
              refine sq (f_store kd77 rfl rfl rfl rfl rfl) rfl rfl ?_
              refine sq (f_assign rfl (lt rfl)) rfl rfl ?_
              refine sq (f_assign rfl (lt rfl)) rfl rfl ?_
              refine hits_nil ?_
              refine to_next ?_
              refine hits_seq ?_
              refine hits_seq ?_
              refine hits_region ?_
              refine sq (f_move rfl (lt rfl)) rfl rfl ?_
              refine sq (f_un rfl rfl (lt rfl)) rfl rfl ?_
              refine hits_nil ?_
              refine to_next ?_
              refine hits_cond rfl (fun c6 => ?_) (fun c6 => absurd c6 Bool.false_ne_true.symm)
              refine hits_seq ?_
              refine hits_region ?_
              refine sq (f_move rfl (lt rfl)) rfl rfl ?_
              refine sq (f_assign rfl (lt rfl)) rfl rfl ?_
              refine sq (f_assign rfl (lt rfl)) rfl rfl ?_
              refine sq (f_assign rfl (lt rfl)) rfl rfl ?_
              refine hits_nil ?_
              refine to_next ?_
              refine hits_ret ?_
              refine to_ret ?_
              refine in_ret ?_
              refine to_ret ?_
              refine in_ret ?_
              refine to_ret ?_
              refine hits_own 2 2 6 rfl ?_
              exact hits_done (.inl rfl) rfl rfl (by rw [hfin]; rfl)
            · obtain rfl := hp _ hk
              have hlt := word_lt hk
              rw [List.length_drop, List.length_drop] at hlt
              have hJ2 := rstep hst hk hJ
              rw [hk] at hw
              refine hits_region ?_
              refine sq (f_move rfl (lt rfl)) rfl rfl ?_
              refine sq (f_move rfl (lt rfl)) rfl rfl ?_
              refine sq (f_call en126 rfl hw (lt rfl)) rfl rfl ?_
              refine sq (f_move rfl (lt rfl)) rfl rfl ?_
              refine sq (f_extract rfl rfl (lt rfl)) rfl rfl ?_
              refine sq (f_extract rfl rfl (lt rfl)) rfl rfl ?_
              refine sq (f_extract rfl rfl (lt rfl)) rfl rfl ?_
              refine sq (f_alloc zc77 (lt rfl)) rfl rfl ?_
              refine sq (f_store kd77 rfl rfl rfl rfl rfl) rfl rfl ?_
              refine sq (f_assign rfl (lt rfl)) rfl rfl ?_
              refine sq (f_assign rfl (lt rfl)) rfl rfl ?_
              refine hits_nil ?_
              refine to_next ?_
              refine hits_seq ?_
              refine hits_seq ?_
              refine hits_region ?_
              refine sq (f_move rfl (lt rfl)) rfl rfl ?_
              refine sq (f_un rfl rfl (lt rfl)) rfl rfl ?_
              refine hits_nil ?_
              refine to_next ?_
              refine hits_cond rfl (fun c6 => absurd c6 Bool.false_ne_true) (fun c6 => ?_)
              refine hits_skip ?_
              refine to_next ?_
              refine hits_seq ?_
              refine hits_region ?_
              refine sq (f_move rfl (lt rfl)) rfl rfl ?_
              refine sq (f_fieldAddr rfl kf77_3 rfl (lt rfl)) rfl rfl ?_
              refine sq (f_store kd3 rfl rfl rfl rfl rfl) rfl rfl ?_
              refine hits_nil ?_
              refine to_next ?_
              refine hits_seq ?_
              refine hits_region ?_
              refine sq (f_move rfl (lt rfl)) rfl rfl ?_
              refine sq (f_load kd77 rfl rfl (lt rfl)) rfl rfl ?_
              refine sq (f_buildSlice sk69 rfl rfl rfl rfl rfl rfl (by decide) (by decide) (lt rfl)) rfl rfl ?_
              refine sq_append rfl rfl rfl rfl apk69 (by rw [List.length_map]; simp only [snds, List.length_cons, List.length_nil]; omega) (by rw [List.length_map]; simp only [snds, List.length_cons, List.length_nil]; omega) rfl (lt rfl) ?_
              refine sq (f_assign rfl (lt rfl)) rfl rfl ?_
              refine hits_nil ?_
              refine to_next ?_
              refine hits_region ?_
              refine sq (f_move rfl (lt rfl)) rfl rfl ?_
              refine sq (f_assign rfl (lt rfl)) rfl rfl ?_
              refine hits_nil ?_
              refine in_next ?_
              refine to_next ?_
              refine round_end (l ++ [({ x with ln := m } : Wd)], e, m) ⟨by simp only; omega, he, by simp only [List.length_append, List.length_cons, List.length_nil]; omega, hJ2⟩ (by simp only; omega) ⟨rfl, (by show _ = some (V.own 5 6 (List.map wordD (l ++ [({ x with ln := m } : Wd)]))); rw [List.map_append]; rfl), rfl, rfl, rfl, trivial⟩ rfl
  · have hfin := rlast (by omega) hJ
    refine hits_region ?_
    refine sq (f_move rfl (lt rfl)) rfl rfl ?_
    refine sq (f_move rfl (lt rfl)) rfl rfl ?_
    refine sq (f_lenStr rfl un9 (lt rfl)) rfl rfl ?_
    refine sq (f_bin rfl rfl (bT (decide_eq_false (by rw [B_size]; omega))) (lt rfl)) rfl rfl ?_
    refine hits_nil ?_
    refine to_next ?_
    refine hits_cond rfl (fun c1 => absurd c1 Bool.false_ne_true) (fun c1 => ?_)
    refine hits_exit ?_
    refine to_exit ?_
    refine to_exit ?_
    refine in_hit rfl ?_
    refine to_next ?_
    refine hits_seq ?_
    refine hits_region ?_
    refine sq (f_move rfl (lt rfl)) rfl rfl ?_
    refine sq (f_assign rfl (lt rfl)) rfl rfl ?_
    refine sq (f_assign rfl (lt rfl)) rfl rfl ?_
    refine sq (f_assign rfl (lt rfl)) rfl rfl ?_
    refine hits_nil ?_
    refine to_next ?_
    refine hits_ret ?_
    exact hits_done (.inl rfl) rfl rfl (by rw [hfin]; rfl)

end Go.Proofs.YtcaedggggkchiaaGreatDoor.Ln
