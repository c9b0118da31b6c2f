/- lex.number, lex.signs over data. -/
import Derived.Test.YtbgeejmhkmjfdaaGreatDoorAbSpec
import Derived.Shelf.Strings.SlTrimAscii
import Derived.Lib.ParseIntBCases
namespace Go.Proofs.YtbgeejmhkmjfdaaGreatDoor.Ln
open Go Go.RowKit Go.Ab Go.Proofs 
set_option linter.unusedVariables false
set_option linter.unusedSimpArgs false
theorem en47 : enters Tryz.prog 47 = true := by kernel_rfl
theorem en46 : enters Tryz.prog 46 = true := by kernel_rfl
theorem en42 : enters Tryz.prog 42 = true := by kernel_rfl
theorem en43 : enters Tryz.prog 43 = true := by kernel_rfl
theorem zc37 : zc Tryz.prog 37 = some [.int .u8 0, .string ByteArray.empty, .int .i64 0, .int .u64 0, .int .u64 0, .int .i64 0] := by kernel_rfl
theorem bu37 : bk Tryz.prog 37 = some ([(0, 1), (1, 1), (2, 3), (5, 1)], [.int .u8 0, .string ByteArray.empty, .int .i64 0, .int .u64 0, .int .u64 0, .int .i64 0]) := by kernel_rfl
theorem kd37 : kd Tryz.prog 37 = some (true, 6) := by kernel_rfl
theorem en45 : enters Tryz.prog 45 = true := by kernel_rfl
def wordD (x : Wd) : D := .agg [.sc (.int .u8 (x.k : Int)), .sc (.string (B x.s)), .sc (.int .i64 (x.w : Int)), .sc (.int .u64 (x.hi : Int)), .sc (.int .u64 (x.lo : Int)), .sc (.int .i64 (x.ln : Int))]
theorem newlist {S : Stab} {w : World} (hS : ∀ b o v, S b o = some v → w.cell? ⟨b, o, none⟩ = some v) (cs : List Value) (t : TypeId) :
    ∃ S', Rel S' (.list 1 (cs.map .sc)) (.slice (some ⟨w.heap.size, 0, none⟩) cs.length cs.length) ∧ S.le S' ∧ Below w.heap.size w (w.alloc (.cells cs.toArray t)) ∧
      ∀ b o v, S' b o = some v → S b o = some v ∨ (w.heap.size ≤ b ∧ (w.alloc (.cells cs.toArray t)).cell? ⟨b, o, none⟩ = some v) := by
  have hno : ∀ o, S w.heap.size o = none := fun o => by
    cases hv : S w.heap.size o with
    | none => rfl
    | some v => exact absurd (lt_of_cell (hS _ _ _ hv)) (by omega)
  refine ⟨S.row w.heap.size cs.length cs.toArray, ?_, fun b o v hv => ?_, (Below.refl _ _).alloc (Nat.le_refl _) _, fun b o v hv => ?_⟩
  · have hl : (cs.map D.sc).length = cs.length := List.length_map _
    rw [← hl]
    refine .list (by rw [hl]; exact Nat.le_refl _) (relE_of (fun q hq => ?_) ?_)
    · obtain ⟨c, _, rfl⟩ := List.mem_map.mp hq; rfl
    · have hf : flat (cs.map D.sc) = cs.map D.sc := by
        unfold flat
        induction cs with
        | nil => rfl
        | cons c l ih => simp only [List.map_cons, List.flatMap_cons] at ih ⊢; rw [ih (by simp)]; rfl
      rw [hf]
      refine relP_of (relL_scs _ cs) fun k u hk => ?_
      rw [Nat.zero_add, hl, row_get (List.getElem?_eq_some_iff.mp hk).1, List.getElem?_toArray]
      exact hk
  · unfold Stab.row
    rw [if_neg]
    · exact hv
    · rintro rfl; rw [hno] at hv; cases hv
  · unfold Stab.row at hv
    split at hv
    · rename_i hb
      subst hb
      split at hv
      · refine .inr ⟨Nat.le_refl _, ?_⟩
        rw [cell_of_block (cs := cs.toArray) (ty := t) (fr := (0, 0)) (by show (w.heap.push _)[w.heap.size]? = _; rw [Array.getElem?_push, if_pos rfl])]
        exact hv
      · cases hv
    · exact .inl hv
def sgD : List D := sgns.map fun t => .sc (.string (B t))
theorem sgD_at {i : Nat} {s : List UInt8} (h : sgns[i]? = some s) : sgD[((i : Int)).toNat]? = some (.sc (.string (B s))) := by
  unfold sgD; rw [Int.toNat_natCast, List.getElem?_map, h]; rfl
theorem fields_c : CallsP Tryz.prog Lw 47 [.sc (.string ⟨#[61, 61, 32, 33, 61, 32, 60, 61, 32, 60, 60, 32, 62, 62, 32, 43, 43, 32, 38, 38, 32, 124, 124, 32, 123, 32, 125, 32, 40, 32, 41, 32, 91, 32, 93, 32, 59, 32, 58, 32, 44, 32, 46, 32, 61, 32, 60, 32, 43, 32, 45, 32, 42, 32, 38, 32, 124, 32, 94, 32, 126]⟩)] (.list 1 sgD) := by
  intro S w us hg hS hus
  obtain rfl := rels_plain (vs := [.string ⟨#[61, 61, 32, 33, 61, 32, 60, 61, 32, 60, 60, 32, 62, 62, 32, 43, 43, 32, 38, 38, 32, 124, 124, 32, 123, 32, 125, 32, 40, 32, 41, 32, 91, 32, 93, 32, 59, 32, 58, 32, 44, 32, 46, 32, 61, 32, 60, 32, 43, 32, 45, 32, 42, 32, 38, 32, 124, 32, 94, 32, 126]⟩]) rfl hus
  have hf : Lib.fields (⟨#[61, 61, 32, 33, 61, 32, 60, 61, 32, 60, 60, 32, 62, 62, 32, 43, 43, 32, 38, 38, 32, 124, 124, 32, 123, 32, 125, 32, 40, 32, 41, 32, 91, 32, 93, 32, 59, 32, 58, 32, 44, 32, 46, 32, 61, 32, 60, 32, 43, 32, 45, 32, 42, 32, 38, 32, 124, 32, 94, 32, 126]⟩ : ByteArray).data.toList = sgns := by decide +kernel
  refine (Tryz.strings_Fields _ w (by decide) (fun j b hb => ?_) hg.space).mono ?_
  · have h2 := List.mem_of_getElem? hb
    have h3 : ((⟨#[61, 61, 32, 33, 61, 32, 60, 61, 32, 60, 60, 32, 62, 62, 32, 43, 43, 32, 38, 38, 32, 124, 124, 32, 123, 32, 125, 32, 40, 32, 41, 32, 91, 32, 93, 32, 59, 32, 58, 32, 44, 32, 46, 32, 61, 32, 60, 32, 43, 32, 45, 32, 42, 32, 38, 32, 124, 32, 94, 32, 126]⟩ : ByteArray).data.toList.all fun b => decide (b.toNat < 128)) = true := by decide +kernel
    have := List.all_eq_true.mp h3 b h2
    exact of_decide_eq_true this
  · rintro e w' ⟨rfl, rfl⟩
    rw [hf]
    obtain ⟨S', h1, h2, h3, h4⟩ := newlist hS (sgns.map fun l => Value.string ⟨l.toArray⟩) 9
    refine ⟨_, S', rfl, ?_, h2, h3, h4⟩
    rw [List.map_map, List.length_map] at h1
    exact h1
theorem cutp_c {Γ : World → Prop} (t p : List UInt8) : CallsP Tryz.prog Γ 29 [.sc (.string (B t)), .sc (.string (B p))] (.tup [.sc (.string (B (if p.isPrefixOf t = true then t.drop p.length else t))), .sc (.bool (p.isPrefixOf t))]) :=
  lift rfl rfl fun w _ => (Tryz.strings_CutPrefix (B t) (B p) w).mono fun e w' q => ⟨by rw [q.1, B_toList, B_toList]; rfl, by rw [q.2]; exact Below.refl _ _⟩
theorem clone_c {Γ : World → Prop} (s : ByteArray) (hs : s.size ≤ 281474976710656) : CallsP Tryz.prog Γ 46 [.sc (.string s)] (.sc (.string s)) :=
  lift rfl rfl fun w _ => Tryz.stringslite_Clone s w hs
def digs10 : List UInt8 := [48, 49, 50, 51, 52, 53, 54, 55, 56, 57]
theorem dig_in : ∀ c : UInt8, digs10.contains c = dgt c := by
  intro c
  have h : ∀ n : Nat, n < 256 → digs10.contains (UInt8.ofNat n) = dgt (UInt8.ofNat n) := by decide +kernel
  have := h c.toNat c.toNat_lt
  simpa using this
theorem trim_is (l : List UInt8) : (Lib.trimS l digs10 = []) ↔ l.all dgt = true := by
  have hf : (fun x => digs10.contains x) = dgt := funext dig_in
  unfold Lib.trimS Lib.trimLeftS Lib.trimRightS
  rw [hf]
  have all_drop : ∀ m : List UInt8, m.dropWhile dgt = [] ↔ m.all dgt = true := by
    intro m
    induction m with
    | nil => simp
    | cons c m ih =>
      rw [List.dropWhile_cons]
      split
      · rename_i h; rw [ih]; simp [h]
      · rename_i h; simp [h]
  rw [all_drop]
  constructor
  · intro h
    -- what is behind the last one that is none is empty
    cases hd : l.reverse.dropWhile dgt with
    | nil =>
      have := (all_drop _).mp hd
      simpa using this
    | cons c r =>
      rw [hd] at h
      have hc : dgt c = false := by
        have : ∀ (m : List UInt8) (c : UInt8) (r : List UInt8), m.dropWhile dgt = c :: r → dgt c = false := fun m c r hm => drop_head hm
        exact this _ _ _ hd
      simp only [List.all_reverse, List.all_cons, Bool.and_eq_true] at h
      rw [hc] at h; cases h.1
  · intro h
    have : l.reverse.dropWhile dgt = [] := (all_drop _).mpr (by simpa using h)
    rw [this]; rfl
theorem trim_c {Γ : World → Prop} (l : List UInt8) (hl : l.length ≤ 281474976710656) : CallsP Tryz.prog Γ 42 [.sc (.string (B l)), .sc (.string (B digs10))] (.sc (.string (B (Lib.trimS l digs10)))) :=
  lift rfl rfl fun w _ => (Any.strings_Trim_laid Tryz.lays160 (by kernel_rfl) (B l) (B digs10) w (by rw [B_size]; omega) (by decide) (fun j b hb => by
    have h2 := List.mem_of_getElem? hb
    have h3 : ((B digs10).data.toList.all fun b => decide (b.toNat < 128)) = true := by decide +kernel
    exact of_decide_eq_true (List.all_eq_true.mp h3 b h2))).mono fun e w' q => ⟨by rw [q.1, B_toList, B_toList]; rfl, q.2⟩
theorem pu10_ok (l : List UInt8) (hl : l.length ≤ 281474976710656) {u : Nat} (h : Lib.parseUintB 64 l = .ok u) : CallsP Tryz.prog Lw 44 [.sc (.string (B l)), .sc (.int .i64 10), .sc (.int .i64 64)] (.tup [.sc (.int .u64 (u : Int)), .sc .nilIface]) :=
  lift rfl rfl fun w hg => (Tryz.strconv_ParseUint_10_at64_ok (B l) (by rw [B_size]; omega) u (by rw [B_toList]; exact h) w).mono fun e w' q => ⟨q.1, by
    rcases q.2 with rfl | rfl
    · exact Below.refl _ _
    · exact Lib.bytesWorld_below _ _ _⟩
theorem pu10_rng (l : List UInt8) (hl : l.length ≤ 281474976710656) (h : Lib.parseUintB 64 l = .range) : CallsP Tryz.prog Lw 44 [.sc (.string (B l)), .sc (.int .i64 10), .sc (.int .i64 64)] (.tup [.sc (.int .u64 18446744073709551615), .ifc 180 .any]) :=
  lift_ifc rfl fun w hg => by
    obtain ⟨ev, h1, h2⟩ := hg.rng
    exact (Tryz.strconv_ParseUint_10_at64_range (B l) (by rw [B_size]; omega) (by rw [B_toList]; exact h) ev w h1 h2).mono fun e w' ⟨M, q1, _, _, q2⟩ => ⟨_, q1, rfl, q2⟩
theorem hi_small {u : Nat} (h : u < 18446744073709551616) : hiOf u = 0 := by unfold hiOf; rw [Nat.div_eq_of_lt (by simpa using h)]; rfl
theorem lo_small {u : Nat} (h : u < 18446744073709551616) : loOf u = (u : Int) := by unfold loOf; rw [Nat.mod_eq_of_lt (by simpa using h)]
theorem of64 {Γ : World → Prop} (hΓ : GS Γ) {u : Nat} (h : u < 18446744073709551616) : CallsP Tryz.prog Γ 45 [.sc (.int .i64 64), .sc (.int .u64 0), .sc (.int .u64 (u : Int))] (.tup [.agg [.sc (.int .i64 64), .sc (.int .u64 0), .sc (.int .u64 (u : Int))], .sc (.int .i64 0)]) := by
  have := of_c (Γ := Γ) (w := 64) (v := u) hΓ (by decide) (by decide) (by omega)
  rw [Nat.mod_eq_of_lt (by omega : u < 2 ^ 64)] at this
  unfold bitD at this
  rw [hi_small h, lo_small h] at this
  exact this
theorem val_lt {l : List UInt8} {u : Nat} (h : Lib.parseUintB 64 l = .ok u) : u < 18446744073709551616 := by have := Lib.parseUintB_le h; omega
set_option maxRecDepth 100000 in
theorem signs_c : CallsP Tryz.prog Lw 28 [] (.list 1 sgD) := by
  refine callsP_of gs_lw Tryz.func28 rfl Tryz.ntmps28 rfl fun w0 S0 stab => ?_
  refine hits_seq ?_
  refine hits_region ?_
  refine sq (f_assign rfl (lt rfl)) rfl rfl ?_
  refine hits_nil ?_
  refine to_next ?_
  refine hits_seq ?_
  refine hits_region ?_
  refine sq (f_call en47 rfl fields_c (lt rfl)) rfl rfl ?_
  refine sq (f_assign rfl (lt rfl)) rfl rfl ?_
  refine hits_nil ?_
  refine to_next ?_
  refine hits_ret ?_
  exact hits_done (.inl rfl) rfl rfl rfl
set_option maxRecDepth 100000 in
theorem sclone_c (s : ByteArray) (hs : s.size ≤ 281474976710656) : CallsP Tryz.prog Lw 27 [.sc (.string s)] (.sc (.string s)) := by
  refine callsP_of gs_lw Tryz.func27 rfl Tryz.ntmps27 rfl fun w0 S0 stab => ?_
  refine hits_seq ?_
  refine hits_region ?_
  refine sq (f_assign rfl (lt rfl)) rfl rfl ?_
  refine hits_nil ?_
  refine to_next ?_
  refine hits_seq ?_
  refine hits_region ?_
  refine sq (f_move rfl (lt rfl)) rfl rfl ?_
  refine sq (f_call en46 rfl (clone_c s hs) (lt rfl)) rfl rfl ?_
  refine sq (f_assign rfl (lt rfl)) rfl rfl ?_
  refine hits_nil ?_
  refine to_next ?_
  refine hits_ret ?_
  exact hits_done (.inl rfl) rfl rfl rfl
set_option maxRecDepth 100000 in
theorem number_lit (l : List UInt8) (hl : l.length ≤ 281474976710656) (h : ¬ l.all dgt = true) : CallsP Tryz.prog Lw 26 [.sc (.string (B l))] (.tup [wordD (numW l), .sc (.bool (numOk l))]) := by
  have htr := trim_c (Γ := Lw) l hl
  have hne : Lib.trimS l digs10 ≠ [] := fun e => h ((trim_is l).mp e)
  have hB : (B l).size ≤ 281474976710656 := by rw [B_size]; exact hl
  refine callsP_of gs_lw Tryz.func26 rfl Tryz.ntmps26 rfl fun w0 S0 stab => ?_
  refine hits_seq ?_
  refine hits_region ?_
  refine sq (f_alloc zc37 (lt rfl)) rfl rfl ?_
  refine sq (f_assign rfl (lt rfl)) rfl rfl ?_
  refine hits_nil ?_
  refine to_next ?_
  refine hits_seq ?_
  refine hits_seq ?_
  refine hits_region ?_
  refine sq (f_move rfl (lt rfl)) rfl rfl ?_
  refine sq (f_call en42 rfl htr (lt rfl)) rfl rfl ?_
  refine sq (f_bin rfl rfl (bT ((by rw [show ((⟨#[]⟩ : ByteArray).toList) = (B []).toList from rfl, B_beq, decide_eq_false hne]; rfl : _ = true))) (lt rfl)) rfl rfl ?_
  refine hits_nil ?_
  refine to_next ?_
  refine hits_cond rfl (fun c0 => ?_) (fun c0 => absurd c0 Bool.false_ne_true.symm)
  refine hits_seq ?_
  cases hm : litOf (B l)
  · have hp := parse_no (B l) hB (lit_no hm)
    refine hits_region ?_
    refine sq (f_move rfl (lt rfl)) rfl rfl ?_
    refine sq (f_call en43 rfl hp (lt rfl)) rfl rfl ?_
    refine sq (f_move rfl (lt rfl)) rfl rfl ?_
    refine sq (f_extract rfl rfl (lt rfl)) rfl rfl ?_
    refine sq (f_extract rfl rfl (lt rfl)) rfl rfl ?_
    refine sq (f_alloc zc35 (lt rfl)) rfl rfl ?_
    refine sq (f_store kd35 rfl rfl rfl rfl rfl) rfl rfl ?_
    refine sq (f_assign rfl (lt rfl)) rfl rfl ?_
    refine hits_nil ?_
    refine to_next ?_
    refine hits_seq ?_
    refine hits_region ?_
    refine sq (f_load kd35 rfl rfl (lt rfl)) rfl rfl ?_
    refine sq (f_build bu37 rfl rfl (lt rfl)) rfl rfl ?_
    refine sq (f_move rfl (lt rfl)) rfl rfl ?_
    refine sq (f_bin rfl rfl (bT (b' := false) rfl) (lt rfl)) rfl rfl ?_
    refine sq (f_store kd37 rfl rfl rfl rfl rfl) rfl rfl ?_
    refine sq (f_assign rfl (lt rfl)) rfl rfl ?_
    refine hits_nil ?_
    refine to_next ?_
    refine hits_ret ?_
    refine to_ret ?_
    exact hits_done (.inl rfl) rfl rfl (by rw [numW, if_neg h, hm, numOk, if_neg h, hm]; rfl)
  · obtain ⟨hy, e1, e2, e3⟩ := lit_yes (w := (‹Nat × Nat›).1) (v := (‹Nat × Nat›).2) hm
    have hp := parse_yes (B l) hB hy
    rw [e1, e2, e3] at hp
    refine hits_region ?_
    refine sq (f_move rfl (lt rfl)) rfl rfl ?_
    refine sq (f_call en43 rfl hp (lt rfl)) rfl rfl ?_
    refine sq (f_move rfl (lt rfl)) rfl rfl ?_
    refine sq (f_extract rfl rfl (lt rfl)) rfl rfl ?_
    refine sq (f_extract rfl rfl (lt rfl)) rfl rfl ?_
    refine sq (f_alloc zc35 (lt rfl)) rfl rfl ?_
    refine sq (f_store kd35 rfl rfl rfl rfl rfl) rfl rfl ?_
    refine sq (f_assign rfl (lt rfl)) rfl rfl ?_
    refine hits_nil ?_
    refine to_next ?_
    refine hits_seq ?_
    refine hits_region ?_
    refine sq (f_load kd35 rfl rfl (lt rfl)) rfl rfl ?_
    refine sq (f_build bu37 rfl rfl (lt rfl)) rfl rfl ?_
    refine sq (f_move rfl (lt rfl)) rfl rfl ?_
    refine sq (f_bin rfl rfl (bT (b' := true) rfl) (lt rfl)) rfl rfl ?_
    refine sq (f_store kd37 rfl rfl rfl rfl rfl) rfl rfl ?_
    refine sq (f_assign rfl (lt rfl)) rfl rfl ?_
    refine hits_nil ?_
    refine to_next ?_
    refine hits_ret ?_
    refine to_ret ?_
    exact hits_done (.inl rfl) rfl rfl (by rw [numW, if_neg h, hm, numOk, if_neg h, hm]; rfl)
set_option maxRecDepth 100000 in
theorem number_dig (l : List UInt8) (hl : l.length ≤ 281474976710656) (h0 : l ≠ []) (h : l.all dgt = true) : CallsP Tryz.prog Lw 26 [.sc (.string (B l))] (.tup [wordD (numW l), .sc (.bool (numOk l))]) := by
  have htr := trim_c (Γ := Lw) l hl
  have hne : Lib.trimS l digs10 = [] := (trim_is l).mpr h
  obtain ⟨hv1, hv2⟩ := puB h0 h
  refine callsP_of gs_lw Tryz.func26 rfl Tryz.ntmps26 rfl fun w0 S0 stab => ?_
  refine hits_seq ?_
  refine hits_region ?_
  refine sq (f_alloc zc37 (lt rfl)) rfl rfl ?_
  refine sq (f_assign rfl (lt rfl)) rfl rfl ?_
  refine hits_nil ?_
  refine to_next ?_
  refine hits_seq ?_
  refine hits_seq ?_
  refine hits_region ?_
  refine sq (f_move rfl (lt rfl)) rfl rfl ?_
  refine sq (f_call en42 rfl htr (lt rfl)) rfl rfl ?_
  refine sq (f_bin rfl rfl (bT ((by rw [show ((⟨#[]⟩ : ByteArray).toList) = (B []).toList from rfl, B_beq, decide_eq_true hne]; rfl : _ = false))) (lt rfl)) rfl rfl ?_
  refine hits_nil ?_
  refine to_next ?_
  refine hits_cond rfl (fun c0 => absurd c0 Bool.false_ne_true) (fun c0 => ?_)
  refine hits_skip ?_
  refine to_next ?_
  refine hits_seq ?_
  rcases hv1 with hv | hv
  · have hp := pu10_ok l hl hv
    have hlt := val_lt hv
    have ho := of64 gs_lw hlt
    by_cases hle : valL l ≤ 2147483647
    · have hf := fmt10_c hlt
      by_cases heq : Lib.decDigits (valL l) = l
      · refine hits_region ?_
        refine sq (f_move rfl (lt rfl)) rfl rfl ?_
        refine sq (f_call en44 rfl hp (lt rfl)) rfl rfl ?_
        refine sq (f_move rfl (lt rfl)) rfl rfl ?_
        refine sq (f_extract rfl rfl (lt rfl)) rfl rfl ?_
        refine sq (f_extract rfl rfl (lt rfl)) rfl rfl ?_
        refine sq (f_assign rfl (lt rfl)) rfl rfl ?_
        refine sq (f_assign rfl (lt rfl)) rfl rfl ?_
        refine hits_nil ?_
        refine to_next ?_
        refine hits_seq ?_
        refine hits_region ?_
        refine sq (f_move rfl (lt rfl)) rfl rfl ?_
        refine sq (f_call en45 rfl ho (lt rfl)) rfl rfl ?_
        refine sq (f_move rfl (lt rfl)) rfl rfl ?_
        refine sq (f_extract rfl rfl (lt rfl)) rfl rfl ?_
        refine sq (f_extract rfl rfl (lt rfl)) rfl rfl ?_
        refine sq (f_alloc zc35 (lt rfl)) rfl rfl ?_
        refine sq (f_store kd35 rfl rfl rfl rfl rfl) rfl rfl ?_
        refine sq (f_assign rfl (lt rfl)) rfl rfl ?_
        refine hits_nil ?_
        refine to_next ?_
        refine hits_seq ?_
        refine hits_drawn mixed ?_
        refine dq (f_load kd35 rfl rfl (lt rfl)) rfl rfl ?_
        refine dq (f_build bu37 rfl rfl (lt rfl)) rfl rfl ?_
        refine dq (f_move rfl (lt rfl)) rfl rfl ?_
        refine dq (f_ifEq0 rfl isf114 (lt rfl)) rfl rfl ?_
        refine dq (f_move rfl (lt rfl)) rfl rfl ?_
        refine dq_yes (f_move rfl (lt rfl)) rfl rfl rfl rfl (lt rfl) ?_
        refine dq_yes (f_bin rfl rfl (bT (decide_eq_true (by omega))) (lt rfl)) rfl rfl rfl rfl (lt rfl) ?_
        refine dq (f_pick rfl rfl (lt rfl)) rfl rfl ?_
        refine dq (f_move rfl (lt rfl)) rfl rfl ?_
        refine dq_yes (f_move rfl (lt rfl)) rfl rfl rfl rfl (lt rfl) ?_
        refine dq_yes (f_call en38 rfl hf (lt rfl)) rfl rfl rfl rfl (lt rfl) ?_
        refine dq_yes (f_move rfl (lt rfl)) rfl rfl rfl rfl (lt rfl) ?_
        refine dq_yes (f_bin rfl rfl (bT ((by rw [B_beq]; exact decide_eq_true heq : _ = true))) (lt rfl)) rfl rfl rfl rfl (lt rfl) ?_
        refine dq (f_pick rfl rfl (lt rfl)) rfl rfl ?_
        refine dq (f_store kd37 rfl rfl rfl rfl rfl) rfl rfl ?_
        refine dq (f_assign rfl (lt rfl)) rfl rfl ?_
        refine dq_nil rfl ?_
        refine to_next ?_
        refine hits_ret ?_
        exact hits_done (.inl rfl) rfl rfl (by rw [numW, if_pos h, puN, hv, numOk, if_pos h, decide_eq_true ⟨hle, heq⟩]; rfl)
      · refine hits_region ?_
        refine sq (f_move rfl (lt rfl)) rfl rfl ?_
        refine sq (f_call en44 rfl hp (lt rfl)) rfl rfl ?_
        refine sq (f_move rfl (lt rfl)) rfl rfl ?_
        refine sq (f_extract rfl rfl (lt rfl)) rfl rfl ?_
        refine sq (f_extract rfl rfl (lt rfl)) rfl rfl ?_
        refine sq (f_assign rfl (lt rfl)) rfl rfl ?_
        refine sq (f_assign rfl (lt rfl)) rfl rfl ?_
        refine hits_nil ?_
        refine to_next ?_
        refine hits_seq ?_
        refine hits_region ?_
        refine sq (f_move rfl (lt rfl)) rfl rfl ?_
        refine sq (f_call en45 rfl ho (lt rfl)) rfl rfl ?_
        refine sq (f_move rfl (lt rfl)) rfl rfl ?_
        refine sq (f_extract rfl rfl (lt rfl)) rfl rfl ?_
        refine sq (f_extract rfl rfl (lt rfl)) rfl rfl ?_
        refine sq (f_alloc zc35 (lt rfl)) rfl rfl ?_
        refine sq (f_store kd35 rfl rfl rfl rfl rfl) rfl rfl ?_
        refine sq (f_assign rfl (lt rfl)) rfl rfl ?_
        refine hits_nil ?_
        refine to_next ?_
        refine hits_seq ?_
        refine hits_drawn mixed ?_
        refine dq (f_load kd35 rfl rfl (lt rfl)) rfl rfl ?_
        refine dq (f_build bu37 rfl rfl (lt rfl)) rfl rfl ?_
        refine dq (f_move rfl (lt rfl)) rfl rfl ?_
        refine dq (f_ifEq0 rfl isf114 (lt rfl)) rfl rfl ?_
        refine dq (f_move rfl (lt rfl)) rfl rfl ?_
        refine dq_yes (f_move rfl (lt rfl)) rfl rfl rfl rfl (lt rfl) ?_
        refine dq_yes (f_bin rfl rfl (bT (decide_eq_true (by omega))) (lt rfl)) rfl rfl rfl rfl (lt rfl) ?_
        refine dq (f_pick rfl rfl (lt rfl)) rfl rfl ?_
        refine dq (f_move rfl (lt rfl)) rfl rfl ?_
        refine dq_yes (f_move rfl (lt rfl)) rfl rfl rfl rfl (lt rfl) ?_
        refine dq_yes (f_call en38 rfl hf (lt rfl)) rfl rfl rfl rfl (lt rfl) ?_
        refine dq_yes (f_move rfl (lt rfl)) rfl rfl rfl rfl (lt rfl) ?_
        refine dq_yes (f_bin rfl rfl (bT ((by rw [B_beq]; exact decide_eq_false heq : _ = false))) (lt rfl)) rfl rfl rfl rfl (lt rfl) ?_
        refine dq (f_pick rfl rfl (lt rfl)) rfl rfl ?_
        refine dq (f_store kd37 rfl rfl rfl rfl rfl) rfl rfl ?_
        refine dq (f_assign rfl (lt rfl)) rfl rfl ?_
        refine dq_nil rfl ?_
        refine to_next ?_
        refine hits_ret ?_
        exact hits_done (.inl rfl) rfl rfl (by rw [numW, if_pos h, puN, hv, numOk, if_pos h, decide_eq_false fun c => heq c.2]; rfl)
    · refine hits_region ?_
      refine sq (f_move rfl (lt rfl)) rfl rfl ?_
      refine sq (f_call en44 rfl hp (lt rfl)) rfl rfl ?_
      refine sq (f_move rfl (lt rfl)) rfl rfl ?_
      refine sq (f_extract rfl rfl (lt rfl)) rfl rfl ?_
      refine sq (f_extract rfl rfl (lt rfl)) rfl rfl ?_
      refine sq (f_assign rfl (lt rfl)) rfl rfl ?_
      refine sq (f_assign rfl (lt rfl)) rfl rfl ?_
      refine hits_nil ?_
      refine to_next ?_
      refine hits_seq ?_
      refine hits_region ?_
      refine sq (f_move rfl (lt rfl)) rfl rfl ?_
      refine sq (f_call en45 rfl ho (lt rfl)) rfl rfl ?_
      refine sq (f_move rfl (lt rfl)) rfl rfl ?_
      refine sq (f_extract rfl rfl (lt rfl)) rfl rfl ?_
      refine sq (f_extract rfl rfl (lt rfl)) rfl rfl ?_
      refine sq (f_alloc zc35 (lt rfl)) rfl rfl ?_
      refine sq (f_store kd35 rfl rfl rfl rfl rfl) rfl rfl ?_
      refine sq (f_assign rfl (lt rfl)) rfl rfl ?_
      refine hits_nil ?_
      refine to_next ?_
      refine hits_seq ?_
      refine hits_drawn mixed ?_
      refine dq (f_load kd35 rfl rfl (lt rfl)) rfl rfl ?_
      refine dq (f_build bu37 rfl rfl (lt rfl)) rfl rfl ?_
      refine dq (f_move rfl (lt rfl)) rfl rfl ?_
      refine dq (f_ifEq0 rfl isf114 (lt rfl)) rfl rfl ?_
      refine dq (f_move rfl (lt rfl)) rfl rfl ?_
      refine dq_yes (f_move rfl (lt rfl)) rfl rfl rfl rfl (lt rfl) ?_
      refine dq_yes (f_bin rfl rfl (bT (decide_eq_false (by omega))) (lt rfl)) rfl rfl rfl rfl (lt rfl) ?_
      refine dq (f_pick rfl rfl (lt rfl)) rfl rfl ?_
      refine dq (f_move rfl (lt rfl)) rfl rfl ?_
      refine dq_no rfl rfl rfl rfl rfl (lt rfl) (lt rfl) ?_
      refine dq_no rfl rfl rfl rfl rfl (lt rfl) (lt rfl) ?_
      refine dq_no rfl rfl rfl rfl rfl (lt rfl) (lt rfl) ?_
      refine dq_no rfl rfl rfl rfl rfl (lt rfl) (lt rfl) ?_
      refine dq (f_pick rfl rfl (lt rfl)) rfl rfl ?_
      refine dq (f_store kd37 rfl rfl rfl rfl rfl) rfl rfl ?_
      refine dq (f_assign rfl (lt rfl)) rfl rfl ?_
      refine dq_nil rfl ?_
      refine to_next ?_
      refine hits_ret ?_
      exact hits_done (.inl rfl) rfl rfl (by rw [numW, if_pos h, puN, hv, numOk, if_pos h, decide_eq_false fun c => hle c.1]; rfl)
  · have hp := pu10_rng l hl hv
    have ho := of64 gs_lw (u := 18446744073709551615) (by decide)
    have hle : ¬ valL l ≤ 2147483647 := fun c => by rw [hv2 c] at hv; cases hv
    refine hits_region ?_
    refine sq (f_move rfl (lt rfl)) rfl rfl ?_
    refine sq (f_call en44 rfl hp (lt rfl)) rfl rfl ?_
    refine sq (f_move rfl (lt rfl)) rfl rfl ?_
    refine sq (f_extract rfl rfl (lt rfl)) rfl rfl ?_
    refine sq (f_extract rfl rfl (lt rfl)) rfl rfl ?_
    refine sq (f_assign rfl (lt rfl)) rfl rfl ?_
    refine sq (f_assign rfl (lt rfl)) rfl rfl ?_
    refine hits_nil ?_
    refine to_next ?_
    refine hits_seq ?_
    refine hits_region ?_
    refine sq (f_move rfl (lt rfl)) rfl rfl ?_
    refine sq (f_call en45 rfl ho (lt rfl)) rfl rfl ?_
    refine sq (f_move rfl (lt rfl)) rfl rfl ?_
    refine sq (f_extract rfl rfl (lt rfl)) rfl rfl ?_
    refine sq (f_extract rfl rfl (lt rfl)) rfl rfl ?_
    refine sq (f_alloc zc35 (lt rfl)) rfl rfl ?_
    refine sq (f_store kd35 rfl rfl rfl rfl rfl) rfl rfl ?_
    refine sq (f_assign rfl (lt rfl)) rfl rfl ?_
    refine hits_nil ?_
    refine to_next ?_
    refine hits_seq ?_
    refine hits_drawn mixed ?_
    refine dq (f_load kd35 rfl rfl (lt rfl)) rfl rfl ?_
    refine dq (f_build bu37 rfl rfl (lt rfl)) rfl rfl ?_
    refine dq (f_move rfl (lt rfl)) rfl rfl ?_
    refine dq (f_ifEqN rfl isf114 (lt rfl)) rfl rfl ?_
    refine dq (f_move rfl (lt rfl)) rfl rfl ?_
    refine dq_no rfl rfl rfl rfl rfl (lt rfl) (lt rfl) ?_
    refine dq_no rfl rfl rfl rfl rfl (lt rfl) (lt rfl) ?_
    refine dq (f_pick rfl rfl (lt rfl)) rfl rfl ?_
    refine dq (f_move rfl (lt rfl)) rfl rfl ?_
    refine dq_no rfl rfl rfl rfl rfl (lt rfl) (lt rfl) ?_
    refine dq_no rfl rfl rfl rfl rfl (lt rfl) (lt rfl) ?_
    refine dq_no rfl rfl rfl rfl rfl (lt rfl) (lt rfl) ?_
    refine dq_no rfl rfl rfl rfl rfl (lt rfl) (lt rfl) ?_
    refine dq (f_pick rfl rfl (lt rfl)) rfl rfl ?_
    refine dq (f_store kd37 rfl rfl rfl rfl rfl) rfl rfl ?_
    refine dq (f_assign rfl (lt rfl)) rfl rfl ?_
    refine dq_nil rfl ?_
    refine to_next ?_
    refine hits_ret ?_
    exact hits_done (.inl rfl) rfl rfl (by rw [numW, if_pos h, puN, hv, numOk, if_pos h, decide_eq_false fun c => hle c.1]; rfl)
theorem number_c (l : List UInt8) (hl : l.length ≤ 281474976710656) (h0 : l ≠ []) : CallsP Tryz.prog Lw 26 [.sc (.string (B l))] (.tup [wordD (numW l), .sc (.bool (numOk l))]) := by
  by_cases h : l.all dgt = true
  · exact number_dig l hl h0 h
  · exact number_lit l hl h
end Go.Proofs.YtbgeejmhkmjfdaaGreatDoor.Ln
