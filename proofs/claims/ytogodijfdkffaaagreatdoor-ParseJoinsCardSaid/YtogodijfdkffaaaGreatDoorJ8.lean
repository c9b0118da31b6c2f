/- Parts of the walk, joined. -/
import Derived.Test.YtogodijfdkffaaaGreatDoorJ7
import Derived.Test.YtogodijfdkffaaaGreatDoorJ4
set_option linter.unusedVariables false
set_option linter.unusedSimpArgs false
set_option maxRecDepth 100000
/- Appends where the order is drawn: a list of its own gets a new number; and back. No program. -/
namespace Go.Ab
open Go Go.RowKit
variable {P : Program} {E : Env} {st : St} {G : Gh} {a : Act} {w : World} {Q : Exit → Act → World → Prop}
variable {d : Nat} {ty : TypeId} {pos : String} {af : Array Edge} {g : Option (Nat × Bool)} {x y z : Operand}
mutual
theorem dullV_free {id : Nat} : ∀ v : V, v.free id = true → dullV id v = v
  | .own i es l, h => by simp only [V.free, Bool.not_eq_true', beq_eq_false_iff_ne] at h; simp only [dullV, show (i == id) = false from by simpa using h, cond_false]
  | .mo i es l, h => by simp only [V.free, Bool.not_eq_true', beq_eq_false_iff_ne] at h; simp only [dullV, show (i == id) = false from by simpa using h, cond_false]
  | .mptr i es l, h => by simp only [V.free, Bool.not_eq_true', beq_eq_false_iff_ne] at h; simp only [dullV, show (i == id) = false from by simpa using h, cond_false]
  | .agg l, h => by simp only [V.free] at h; simp only [dullV, dullVs_free l h]
  | .tup l, h => by simp only [V.free] at h; simp only [dullV, dullVs_free l h]
  | .cont l, h => by simp only [V.free] at h; simp only [dullV, dullVs_free l h]
  | .contD l, h => by simp only [dullV]
  | .d x, h => by simp only [dullV]
  | .ptr i o, h => by simp only [dullV]
  | .mapp i, h => by simp only [dullV]
  | .fn f l, h => by simp only [dullV]
theorem dullVs_free {id : Nat} : ∀ l : List V, V.frees id l = true → dullVs id l = l
  | [], _ => by simp only [dullVs]
  | v :: l, h => by
    simp only [V.frees, Bool.and_eq_true] at h
    simp only [dullVs, dullV_free v h.1, dullVs_free l h.2]
end
theorem unused_look {st : St} {id : Nat} {k : Loc} {v : V} (h : st.unused id = true) (hl : look st k = some v) : v.free id = true := by
  induction st with
  | nil => cases hl
  | cons e r ih =>
    simp only [St.unused, List.all_cons, Bool.and_eq_true] at h
    rw [look_cons] at hl
    split at hl
    · rw [hl] at h; exact h.1.2
    · exact ih h.2 hl
theorem look_dull_unused {st : St} {id : Nat} (h : st.unused id = true) (k : Loc) : look (dull id st) k = look st k := by
  rw [look_dull]
  cases hl : look st k with
  | none => rfl
  | some v => show some _ = _; rw [dullV_free v (unused_look h hl)]
theorem Sim.dropTip (s : Sim E st G a w) (id : Nat) : Sim E ((.tip id, none) :: st) G a w := by
  have es : ∀ l, l ≠ .tip id → look ((Loc.tip id, none) :: st) l = look st l := fun l hl => look_ne _ _ (fun c => hl c.symm)
  have et : ∀ i v, look ((Loc.tip id, none) :: st) (.tip i) = some v → look st (.tip i) = some v := fun i v hh => by
    rw [look_cons] at hh
    split at hh
    · cases hh
    · exact hh
  have et' : ∀ i, look ((Loc.tip id, none) :: st) (.tip i) ≠ none → look st (.tip i) ≠ none := fun i hh => by
    cases hv : look ((Loc.tip id, none) :: st) (.tip i) with
    | none => exact absurd hv hh
    | some v => rw [et i v hv]; simp
  refine ⟨s.kw, s.s0, s.snew, s.tmps, s.defers, fun t v hv => s.slots t v (by rw [es _ (by simp)] at hv; exact hv), fun i o v hv => by rw [es _ (by simp)] at hv ⊢; exact s.cells i o v hv, fun i hi => s.boxes i (by rw [es _ (by simp)] at hi; exact hi), fun i j hi hj => s.inj i j (by rw [es _ (by simp)] at hi; exact hi) (by rw [es _ (by simp)] at hj; exact hj), s.stable, fun i hi ht => ?_, fun i j hi hj => s.tinj i j (et' i hi) (et' j hj), fun p hp => ⟨(s.rcv p hp).1, fun hi => (s.rcv p hp).2 (by rw [es _ (by simp)] at hi; exact hi)⟩, fun i qv l hv => s.conts i qv l (et i _ hv), fun i v hv => by rw [es _ (by simp)] at hv ⊢; exact s.iters i v hv, fun j v hv => s.olds j v (by rw [es _ (by simp)] at hv; exact hv)⟩
  obtain ⟨h1, h2, h3, h4⟩ := s.tips i (et' i hi) ht
  exact ⟨h1, h2, h3, fun j hj => h4 j (by rw [es _ (by simp)] at hj; exact hj)⟩
theorem hits_ownC {K : Act → World → Prop} (c k id es : Nat) (hl : look st (.cell c k) = some (.d (.sc (.slice none 0 0)))) (h : Hits E ((.cell c k, some (.own id es [])) :: (.tip id, some (.ptr id 0)) :: dull id st) K) : Hits E st K := by
  intro G a w s
  have s1 := s.retip (id := id) (b := 0) (n := 0) (z := 0) (k := false) (fun c => by cases c)
  refine h _ a w (s1.recell (v0 := .d (.sc (.slice none 0 0))) (v := .own id es []) (by rw [look_ne _ _ (by simp), look_dull, hl]; rfl) fun u hu => ?_)
  exact .inl ⟨by simp [upd], rfl, rel_sc hu⟩
theorem hits_renumC {K : Act → World → Prop} (c k j id es : Nat) {l : List D} {vt : V} (hc : look st (.cell c k) = some (.own j es l)) (ht : look st (.tip j) = some vt) (hne : id ≠ j) (h : Hits E ((.cell c k, some (.own id es l)) :: (.tip id, some (.ptr id 0)) :: dull id ((.tip j, none) :: st)) K) : Hits E st K := by
  intro G a w s
  have htj : look st (.tip j) ≠ none := by rw [ht]; simp
  have hcv : look ((Loc.tip j, none) :: st) (.cell c k) = some (.own j es l) := by rw [look_ne _ _ (by simp)]; exact hc
  have s1 := (s.dropTip j).retip (id := id) (b := G.tb j) (n := G.te j) (z := G.tz j) (k := G.tk j) (fun hk => by
    obtain ⟨t1, t2, t3, t4⟩ := s.tips j htj hk
    refine ⟨t1, t2, t3, fun i hi => t4 i (by rw [look_ne _ _ (by simp)] at hi; exact hi), fun i hi hl hki hcc => ?_⟩
    rw [look_cons] at hl
    split at hl
    · exact absurd rfl hl
    · rename_i hji
      exact hji (by rw [s.tinj j i htj hl hk hki hcc.symm]))
  refine h _ a w (s1.recell (v0 := .own j es l) (v := .own id es l) ?_ fun u hu => ?_)
  · rw [look_ne _ _ (by simp), look_dull, hcv]
    show some (dullV id (.own j es l)) = _
    simp only [dullV, show (j == id) = false from by simpa using fun c => hne c.symm, cond_false]
  · simp only [RelV, upd, if_true, show ¬ (j = id) from fun c => hne c.symm, if_false] at hu ⊢
    exact hu
theorem f_appendO (id' : Nat) {t tx e : TypeId} {id es nb : Nat} {xs ys : List D} {v vt : V} (hx : ev st x = some (.own id es xs)) (htip : look st (.tip id) = some vt) (hy : ev st y = some v) (ha : asList v = some (es, ys))
    (hp : apk P t tx = some (e, es, nb)) (hroom : (xs.length + ys.length) * nb ≤ 140737488355328) (hbig : xs.length + ys.length ≤ 9223372036854775807) (hone0 : ((flat ys).all fun q => (V.d q).one) = true) (hne : id ≠ id') (hd : d < E.N) :
    FOk P E ⟨some d, .call ⟨.builtin .append, #[x, y], #[t, tx]⟩, ty, pos, af, g⟩ st (evL x ++ (evL y ++ [.tip id])) [id'] [(.slot d, some (.own id' es (xs ++ ys))), (.tip id', some (.ptr id' 0)), (.tip id, none)] := by
  intro Q K st' hL hfr hK G a w s
  have hu := hfr id' (by simp)
  have hone : ∀ q ∈ flat ys, (V.d q).one = true := fun q hq => List.all_eq_true.1 hone0 q hq
  obtain ⟨ht, ⟨e', htx⟩, i, z, hi, hz, hzs, his, hib, hes⟩ := apk_spec hp
  have hvx := s.ev ((ev_same hL fun l h => mem_l h).trans hx)
  have hvy := relV_list (s.ev ((ev_same hL fun l h => mem_r (mem_l h)).trans hy)) ha
  have htip' : look st' (.tip id) = some vt := (hL _ (mem_r (mem_r (by simp)))).trans htip
  obtain ⟨us, hsrc, hrus, hlus, hcells⟩ := src_of (tx := tx) s htx hvy hone
  subst his
  have hu1 : St.unused id' ((Loc.tip id, none) :: st') = true := by
    show (((!(id == id')) && true) && St.unused id' st') = true
    rw [hu, show (id == id') = false from by simpa using hne]; rfl
  have tidy : ∀ {G' : Gh} {w' : World}, Sim E ((.tip id', some (.ptr id' 0)) :: dull id' ((Loc.tip id, none) :: st')) G' a w' → Sim E ((.tip id', some (.ptr id' 0)) :: (Loc.tip id, none) :: st') G' a w' := fun h => h.same fun q => by
    by_cases hq : Loc.tip id' = q
    · rw [← hq, look_same, look_same]
    · rw [look_ne _ _ hq, look_ne _ _ hq, look_dull_unused hu1]
  suffices hh : ∃ u w' G', (Builtin.append_ #[t, tx] ty #[a.eval x, a.eval y]).run P w = .ok u w' ∧ Sim E ((.tip id', some (.ptr id' 0)) :: (Loc.tip id, none) :: st') G' a w' ∧ RelV G' (.own id' i.size (xs ++ ys)) u by
    obtain ⟨u, w', G', h1, h2, h3⟩ := hh
    show Oper.upon P _ a _ Q ((execOp a.eval _).run P w)
    have hrun : (execOp a.eval (⟨some d, .call ⟨.builtin .append, #[x, y], #[t, tx]⟩, ty, pos, af, g⟩ : Oper)).run P w = .ok (.value u) w' := by
      simp [execOp, resolve, invoke, builtin, h1]
    rw [hrun]
    exact hK _ _ _ (h2.put hd h3)
  -- a new row for both
  have grow : ∀ (base : Option Addr) (cap : Nat) (olds : List Value), a.eval x = .slice base xs.length cap → (Builtin.firstCells i.size xs.length (.slice base xs.length cap)).run P w.drew = .ok olds.toArray w.drew → RelL G.S (flat xs) olds → olds.length = xs.length * i.size →
      (∀ q ∈ xs, q.cells.length = i.size) → cap < xs.length + ys.length → ∃ u w' G', (Builtin.append_ #[t, tx] ty #[a.eval x, a.eval y]).run P w = .ok u w' ∧ Sim E ((.tip id', some (.ptr id' 0)) :: (Loc.tip id, none) :: st') G' a w' ∧ RelV G' (.own id' i.size (xs ++ ys)) u := by
    intro base cap olds hex hold hro hlo hcx hlt
    have hr := run_append_grow_src (P := P) w t tx ty e i z ht hi hz base xs.length cap olds hold (a.eval y) ys.length us hsrc hlt (by omega) (growslice_fits hlt (by rw [hib]; exact hroom))
    have hge := grownCap_ge w (xs.length + ys.length) cap e
    have hb : Below w.heap.size w w.drew := ⟨rfl, rfl, rfl, Nat.le_refl _, fun _ _ => rfl⟩
    have s1 := s.later0 hb
    have hlen : (olds ++ us).length = (xs.length + ys.length) * i.size := by rw [List.length_append, hlo, hlus, Nat.add_mul]
    generalize hcs : (olds ++ us).toArray ++ Builtin.zeroCells z.cells (grownCap w (xs.length + ys.length) cap e - (xs.length + ys.length)) = cs at hr
    have hsize : cs.size = grownCap w (xs.length + ys.length) cap e * i.size := by
      rw [← hcs, Array.size_append, List.size_toArray, hlen, size_zeroCells, hzs, ← Nat.add_mul]
      congr 1
      omega
    have hn : (xs.length + ys.length) * i.size ≤ cs.size := by rw [hsize]; exact Nat.mul_le_mul_right _ hge
    have s2 := (s1.row ((xs.length + ys.length) * i.size) cs e (0, 0) hn).dropTip id
    have hget : ∀ k u, (olds ++ us)[k]? = some u → cs[k]? = some u := fun k u hk => by
      rw [← hcs, Array.getElem?_append_left (by rw [List.size_toArray]; exact (List.getElem?_eq_some_iff.1 hk).1), List.getElem?_toArray]; exact hk
    have s3 := s2.retip (id := id') (b := w.heap.size) (n := (xs.length + ys.length) * i.size) (z := cs.size) (k := true) (fun _ => by
      refine ⟨.inl s.size, ⟨cs, e, by show (w.heap.push _)[w.heap.size]? = _; rw [Array.getElem?_push, if_pos rfl], Nat.le_refl _⟩, fun o ho => ?_, fun j hj hc => ?_, fun j hj hl hk hc => ?_⟩
      · show Stab.row _ _ _ _ _ _ = none
        unfold Stab.row
        rw [if_pos (show w.heap.size = w.drew.heap.size from rfl), if_neg (by omega)]
      · rw [look_ne _ _ (by simp)] at hj
        have := (s.boxes j hj).2.1
        have hc' : G.μ j = w.heap.size := hc
        omega
      · have hl' : look st' (.tip j) ≠ none := by
          rw [look_cons] at hl
          split at hl
          · exact absurd rfl hl
          · exact hl
        obtain ⟨_, ⟨cs', ty', q2, _⟩, _⟩ := s.tips j hl' hk
        have := lt_of_block q2
        have hc' : G.tb j = w.heap.size := hc
        omega)
    refine ⟨_, _, _, (by rw [hex]; exact hr), tidy s3, .inr ⟨by simp [upd], 0, grownCap w (xs.length + ys.length) cap e, ?_, ?_, ?_, ?_, ?_⟩⟩
    · simp [upd, List.length_append]
    · rw [List.length_append]; exact hge
    · show RelE (Stab.row G.S w.heap.size _ cs) i.size (xs ++ ys) ((upd G.tb id' w.heap.size) id') 0
      simp only [upd, if_true]
      refine relE_of (fun q hq => (List.mem_append.1 hq).elim (hcx q) (hcells q)) ?_
      rw [flat_append]
      have hle := s1.row_le ((xs.length + ys.length) * i.size) cs
      refine relP_of (RelL.mono hle (relL_append hro hrus)) fun k u hk => ?_
      rw [Nat.zero_add]
      show Stab.row _ w.heap.size _ cs w.heap.size k = some u
      rw [row_get (by rw [← hlen]; exact (List.getElem?_eq_some_iff.1 hk).1)]
      exact hget k u hk
    · simp [upd, List.length_append]
    · simp [upd, hsize]
  rcases hvx with ⟨hk, rfl, hu2⟩ | ⟨hk, o, cap, hu2, hcap, he, hte, htz⟩
  · by_cases hz0 : ys.length = 0
    · have hys : ys = [] := List.length_eq_zero_iff.1 hz0
      subst hys
      have hus : us = [] := List.length_eq_zero_iff.1 (by simpa using hlus)
      subst hus
      have s1 := (s.dropTip id).retip (id := id') (b := 0) (n := 0) (z := 0) (k := false) (fun c => by cases c)
      refine ⟨.slice none 0 0, w, _, ?_, tidy s1, .inl ⟨by simp [upd], rfl, rfl⟩⟩
      have h2 := hsrc.cells
      simp only [List.length_nil] at h2
      rw [hu2]
      simp [Builtin.append_, run_underlying ht, run_underlying htx, sizeOf, run_typeInfo w hi, hsrc.len, h2]
    · exact grow none 0 [] hu2 (run_firstCells_none w.drew i.size 0 0 0) .nil (by simp) (by simp) (by simp; omega)
  · obtain ⟨hpx, hlx, hcx⟩ := relE_flat he
    obtain ⟨olds, ho1, ho2, ho3⟩ := relP_vals hpx
    by_cases hr : xs.length + ys.length ≤ cap
    · obtain ⟨t1, ⟨old, oty, t2, t3⟩, t4, t5⟩ := s.tips id (by rw [htip']; simp) hk
      have hfit : G.te id + us.length ≤ G.tz id := by rw [hte, htz, hlus, Nat.add_assoc, ← Nat.add_mul]; exact Nat.add_le_add_left (Nat.mul_le_mul_right _ hr) _
      have s1 := s.extend (us := us) (by rw [htip']; simp) hk t2 (by omega)
      have s2 := s1.retip (id := id') (b := G.tb id) (n := G.te id + us.length) (z := G.tz id) (k := true) (fun _ => by
        refine ⟨t1, ⟨_, oty, heap_setRow_same _ t2, by rw [splice_size (by omega)]; exact t3⟩, fun p hp => ?_, fun j hj => ?_, fun j hj hl hk' hc => ?_⟩
        · show Stab.more _ _ _ _ _ _ = none
          unfold Stab.more
          rw [if_neg (by omega)]; exact t4 p (by omega)
        · rw [look_ne _ _ (by simp)] at hj; exact t5 j hj
        · rw [look_cons] at hl
          split at hl
          · exact absurd rfl hl
          · rename_i hji
            exact hji (by rw [s.tinj j id hl (by rw [htip']; simp) hk' hk hc]))
      have hone' : ∀ u ∈ us, u.oneCell' = true := relL_one hrus hone
      have hst := run_storeCells_at P (G.tb id) (o + xs.length * i.size) oty us 0 old w t2 (by rw [hte] at hfit; omega) hone'
      refine ⟨.slice (some ⟨G.tb id, o, none⟩) (xs.length + ys.length) cap, _, _, ?_, tidy s2, .inr ⟨by simp [upd], o, cap, ?_, ?_, ?_, ?_, ?_⟩⟩
      · have e1 : (Builtin.append_ #[t, tx] ty #[a.eval x, a.eval y]).run P w = .ok (.slice (some ⟨G.tb id, o, none⟩) (xs.length + ys.length) cap) (w.setRow (G.tb id) (splice old (G.te id) us)) := by
          rw [hu2]
          have h2 := hsrc.cells
          simp [Builtin.append_, run_underlying ht, run_underlying htx, sizeOf, run_typeInfo w hi, hsrc.len, hr, h2, add_at, hst, splice, hte]
        exact e1
      · simp [upd, List.length_append]
      · rw [List.length_append]; exact hr
      · show RelE (Stab.more G.S (G.tb id) (G.te id) us) i.size (xs ++ ys) ((upd G.tb id' (G.tb id)) id') o
        simp only [upd, if_true]
        have hle : G.S.le (G.S.more (G.tb id) (G.te id) us) := fun b p v hv => by
          unfold Stab.more
          rw [if_neg]
          · exact hv
          · rintro ⟨rfl, h1, _⟩; rw [t4 p h1] at hv; cases hv
        refine relE_append (RelE.mono hle he) (relE_of hcells (relP_of (RelL.mono hle hrus) fun k u hku => ?_))
        show Stab.more G.S (G.tb id) (G.te id) us (G.tb id) _ = some u
        have hklt := (List.getElem?_eq_some_iff.1 hku).1
        unfold Stab.more
        rw [if_pos ⟨rfl, by omega, by omega⟩, hte, show o + xs.length * i.size + k - (o + xs.length * i.size) = k from by omega]
        exact hku
      · simp [upd, List.length_append, hte, hlus, Nat.add_mul, Nat.add_assoc]
      · simp [upd, htz]
    · refine grow _ cap olds hu2 ?_ ho2 (by rw [ho1, hlx]) hcx (by omega)
      have h3 := run_loadCells_list (P := P) w.drew ⟨G.tb id, o, none⟩ olds (fun j u hj => by rw [add_at]; exact s.stable _ _ _ (ho3 j u hj))
      have h4 : olds.length = xs.length * i.size := by rw [ho1, hlx]
      rw [h4] at h3
      simpa [Builtin.firstCells] using h3
end Go.Ab

/- The parser's generic lists over data. -/
namespace Go.Proofs.YtogodijfdkffaaaGreatDoor.Ln
open Go Go.RowKit Go.Ab Go.Proofs 
theorem sk49 : sk Tryz.prog 49 = some (132, 2, [.string ByteArray.empty, .int .i64 0]) := by kernel_rfl
theorem apk49 : apk Tryz.prog 49 49 = some (132, 2, 24) := by kernel_rfl
theorem sk51 : sk Tryz.prog 51 = some (82, 11, [.int .u8 0, .int .i64 0, .int .u64 0, .int .u64 0, .string ByteArray.empty, .string ByteArray.empty, .int .i64 0, .int .i64 0, .slice none 0 0, .int .i64 0, .int .u8 0]) := by kernel_rfl
theorem apk51 : apk Tryz.prog 51 51 = some (82, 11, 120) := by kernel_rfl
theorem sk53 : sk Tryz.prog 53 = some (35, 3, [.int .i64 0, .int .u64 0, .int .u64 0]) := by kernel_rfl
theorem apk53 : apk Tryz.prog 53 53 = some (35, 3, 24) := by kernel_rfl
theorem sk52 : sk Tryz.prog 52 = some (9, 1, [.string ByteArray.empty]) := by kernel_rfl
theorem apk52 : apk Tryz.prog 52 52 = some (9, 1, 16) := by kernel_rfl
theorem sk50 : sk Tryz.prog 50 = some (76, 6, [.string ByteArray.empty, .slice none 0 0, .slice none 0 0, .slice none 0 0, .string ByteArray.empty, .int .i64 0]) := by kernel_rfl
theorem apk50 : apk Tryz.prog 50 50 = some (76, 6, 112) := by kernel_rfl
theorem kd179 : kd Tryz.prog 179 = some (false, 1) := by kernel_rfl
theorem kd44 : kd Tryz.prog 44 = some (false, 1) := by kernel_rfl
theorem kd94 : kd Tryz.prog 94 = some (false, 1) := by kernel_rfl
theorem zc82 : zc Tryz.prog 82 = some [.int .u8 0, .int .i64 0, .int .u64 0, .int .u64 0, .string ByteArray.empty, .string ByteArray.empty, .int .i64 0, .int .i64 0, .slice none 0 0, .int .i64 0, .int .u8 0] := by kernel_rfl
theorem kd186 : kd Tryz.prog 186 = some (false, 1) := by kernel_rfl
theorem kd82 : kd Tryz.prog 82 = some (true, 11) := by kernel_rfl
theorem en178 : enters Tryz.prog 178 = true := by kernel_rfl
theorem en187 : enters Tryz.prog 187 = true := by kernel_rfl
theorem en184 : enters Tryz.prog 184 = true := by kernel_rfl
theorem en181 : enters Tryz.prog 181 = true := by kernel_rfl
theorem en186 : enters Tryz.prog 186 = true := by kernel_rfl
theorem ended_eq {α : Type} (p : PW α) : endedP p = p.bind fun x => (needP [[59]]).bind fun _ => .ret x := rfl
theorem eager_typed : Eager typedP := eager_bind eager_name fun a => tame_bind eager_whole.tame fun n => tame_ret _
theorem eager_ended {α : Type} {p : PW α} (hp : Eager p) : Eager (endedP p) := eager_bind hp fun x => tame_bind (tame_need _) fun _ => tame_ret _
theorem tame_each {α : Type} {p : PW α} (hp : Tame p) : ∀ (f : Nat) (acc : List α), Tame (eachP p f acc)
  | 0, acc => tame_oof
  | f + 1, acc => tame_bind (tame_may _) fun b => tame_ite (tame_ret _) (tame_bind hp fun x => tame_each hp f _)
theorem tame_some {α : Type} {p : PW α} (hp : Tame p) (e : Tx) : ∀ (f : Nat) (acc : List α), Tame (someP p e f acc)
  | 0, acc => tame_oof
  | f + 1, acc => tame_bind hp fun x => tame_bind (tame_may _) fun b => tame_ite (tame_some hp e f _) (tame_bind (tame_need _) fun _ => tame_ret _)
theorem tame_row {α : Type} {p : PW α} (hp : Tame p) (e : Tx) (f : Nat) : Tame (rowP p e f) := tame_bind (tame_may _) fun b => tame_ite (tame_ret _) (tame_some hp e f [])
def kdD (x : Ex × Nat) : D := .agg (exCs x.1 ++ [.sc (.int .u8 (x.2 : Int))])
def csD (c : Cs) : D := .agg [nD c.v.1, .sc (.int .u64 (c.v.2.1 : Int)), .sc (.int .u64 (c.v.2.2 : Int)), nD c.m.1, .sc (.int .u64 (c.m.2.1 : Int)), .sc (.int .u64 (c.m.2.2 : Int)), txD c.dest]
def stD (s : Stt) : D := .agg [txD s.name, .list 1 (s.headers.map txD), .list 10 (s.sel.map exD), .list 7 (s.cases.map csD), txD s.dest, nD s.line]
def dcD (d : Dc) : D := .agg [.sc (.int .u8 (d.kind : Int)), txD d.name, .list 2 (d.fields.map fdD), nD d.w, nD d.n, nD d.rate, nD d.burst, .list 6 (d.states.map stD), .list 11 (d.keys.map kdD), .list 1 (d.actions.map txD), txD d.default, .list 3 (d.args.map n3D), .list 9 (d.body.map smD), .list 1 (d.emits.map txD), nD d.line]
theorem endedf_c (b : Nat) : CallsP Tryz.prog Lw 124 [.sc (.pointer (some ⟨b, 0, none⟩)), .sc (.func (.func 125) #[.pointer (some ⟨b, 0, none⟩)] #[])] (.clo 178 [.eptr [.sc (.func (.func 125) #[.pointer (some ⟨b, 0, none⟩)] #[])], .eptr [.sc (.pointer (some ⟨b, 0, none⟩))]]) := by
  refine callsP_of gs_lw Tryz.func124 rfl Tryz.ntmps124 rfl fun w0 S0 stab => ?_
  refine sqq <| rgq <| sq (f_box rfl rfl (lt rfl)) rfl rfl <| sq (f_box rfl rfl (lt rfl)) rfl rfl <| asq rfl rfl <| nxq <| sqq <| rgq ?_
  refine sq (f_makeClo rfl (lt rfl)) rfl rfl <| asq rfl rfl <| nxq <| rtq <| hits_to [(.slot 4, some (.fn 178 [3, 2])), (.box 3, some (.ptr 3 0)), (.cell 3 0, some (.d (.sc (.func (.func 125) #[.pointer (some ⟨b, 0, none⟩)] #[])))), (.box 2, some (.ptr 2 0)), (.cell 2 0, some (.d (.sc (.pointer (some ⟨b, 0, none⟩)))))] ⟨rfl, rfl, rfl, rfl, rfl, trivial⟩ rfl <| hits_fn2 4 178 3 2 (by decide) ?_
  exact hits_done (.inl rfl) rfl rfl rfl
theorem endedk_c (b : Nat) : CallsP Tryz.prog Lw 132 [.sc (.pointer (some ⟨b, 0, none⟩)), .sc (.func (.func 133) #[.pointer (some ⟨b, 0, none⟩)] #[])] (.clo 184 [.eptr [.sc (.func (.func 133) #[.pointer (some ⟨b, 0, none⟩)] #[])], .eptr [.sc (.pointer (some ⟨b, 0, none⟩))]]) := by
  refine callsP_of gs_lw Tryz.func132 rfl Tryz.ntmps132 rfl fun w0 S0 stab => ?_
  refine sqq <| rgq <| sq (f_box rfl rfl (lt rfl)) rfl rfl <| sq (f_box rfl rfl (lt rfl)) rfl rfl <| asq rfl rfl <| nxq <| sqq <| rgq ?_
  refine sq (f_makeClo rfl (lt rfl)) rfl rfl <| asq rfl rfl <| nxq <| rtq <| hits_to [(.slot 4, some (.fn 184 [3, 2])), (.box 3, some (.ptr 3 0)), (.cell 3 0, some (.d (.sc (.func (.func 133) #[.pointer (some ⟨b, 0, none⟩)] #[])))), (.box 2, some (.ptr 2 0)), (.cell 2 0, some (.d (.sc (.pointer (some ⟨b, 0, none⟩)))))] ⟨rfl, rfl, rfl, rfl, rfl, trivial⟩ rfl <| hits_fn2 4 184 3 2 (by decide) ?_
  exact hits_done (.inl rfl) rfl rfl rfl
theorem endedt_c (b : Nat) : CallsP Tryz.prog Lw 138 [.sc (.pointer (some ⟨b, 0, none⟩)), .sc (.func (.func 121) #[.pointer (some ⟨b, 0, none⟩)] #[])] (.clo 187 [.eptr [.sc (.func (.func 121) #[.pointer (some ⟨b, 0, none⟩)] #[])], .eptr [.sc (.pointer (some ⟨b, 0, none⟩))]]) := by
  refine callsP_of gs_lw Tryz.func138 rfl Tryz.ntmps138 rfl fun w0 S0 stab => ?_
  refine sqq <| rgq <| sq (f_box rfl rfl (lt rfl)) rfl rfl <| sq (f_box rfl rfl (lt rfl)) rfl rfl <| asq rfl rfl <| nxq <| sqq <| rgq ?_
  refine sq (f_makeClo rfl (lt rfl)) rfl rfl <| asq rfl rfl <| nxq <| rtq <| hits_to [(.slot 4, some (.fn 187 [3, 2])), (.box 3, some (.ptr 3 0)), (.cell 3 0, some (.d (.sc (.func (.func 121) #[.pointer (some ⟨b, 0, none⟩)] #[])))), (.box 2, some (.ptr 2 0)), (.cell 2 0, some (.d (.sc (.pointer (some ⟨b, 0, none⟩)))))] ⟨rfl, rfl, rfl, rfl, rfl, trivial⟩ rfl <| hits_fn2 4 187 3 2 (by decide) ?_
  exact hits_done (.inl rfl) rfl rfl rfl
theorem clof_c {L : List Wd} {i : Nat} (hL : L.length ≤ 65536) (hi : i ≤ L.length) {p : PW (Tx × Nat)} (hp : Eager p) (hE : ∀ {i : Nat}, i ≤ L.length → CallsX Tryz.prog Lw pvN 125 [LDw L, .sc (.int .i64 (i : Int))] (fun _ => []) (ocOf (LDw L) (fdD) ((p).run wEnd L i))) : CallsW Tryz.prog Lw pvN 178 [LDw L, .sc (.int .i64 (i : Int))] (fun b => [.eptr [.sc (.func (.func 125) #[.pointer (some ⟨b, 0, none⟩)] #[])], .eptr [.sc (.pointer (some ⟨b, 0, none⟩))]]) (ocOf (LDw L) (fdD) ((endedP p).run wEnd L i)) := by
  refine callsW_of (m := 2) Tryz.func178 rfl Tryz.ntmps178 (fun _ => rfl) rfl rfl fun hne w0 S0 b stab => ?_
  obtain ⟨o, hO⟩ : ∃ o, o = ocOf (LDw L) (fdD) ((endedP p).run wEnd L i) := ⟨_, rfl⟩
  rw [← hO] at hne ⊢
  rw [ended_eq] at hO
  refine sqq <| rgq <| sq (f_alloc zc132 (lt rfl)) rfl rfl <| nxq <| sqq <| rgq <| ldq kd179 rfl rfl rfl ?_
  refine sq_prV hO hne (hE hi) rfl rfl rfl rfl ⟨rfl, rfl, trivial⟩ rfl rfl (lt rfl) (fun _ _ hd h => And.intro hd (h)) (fun q j hq hO2 => ?_)
  replace hO := hO2
  clear hO2
  have hj := (hp hq hi).2
  refine sq (f_alloc zc132 (lt rfl)) rfl rfl <| soq kd132 rfl rfl rfl rfl rfl <| nxq <| sqq <| rgq <| ldq kd44 rfl rfl rfl <| hits_ptrOf 6 rfl rfl rfl ?_
  refine sq_pr hO hne (need_c (l := [59]) (ts := [[59]]) hL hj (by decide) (fields_g (l := [59]) (ts := [[59]]) (by decide +kernel) (by decide +kernel) (by decide +kernel))) rfl en122 rfl rfl rfl rfl ⟨rfl, rfl, trivial⟩ rfl rfl (lt rfl) (fun _ _ hd h => And.intro hd (h)) (fun u j2 hq2 hO2 => ?_)
  replace hO := hO2
  clear hO2
  refine nxq <| sqq <| rgq <| ldq kd132 rfl rfl rfl <| soq kd132 rfl rfl rfl rfl rfl <| nxq <| rtq ?_
  exact hits_doneX hO (.inl rfl) rfl rfl rfl rfl rfl ⟨rfl, rfl, trivial⟩ rfl
theorem clot_c {L : List Wd} {i : Nat} (hL : L.length ≤ 65536) (hi : i ≤ L.length) {p : PW (Tx)} (hp : Eager p) (hE : ∀ {i : Nat}, i ≤ L.length → CallsX Tryz.prog Lw pvN 121 [LDw L, .sc (.int .i64 (i : Int))] (fun _ => []) (ocOf (LDw L) (txD) ((p).run wEnd L i))) : CallsW Tryz.prog Lw pvN 187 [LDw L, .sc (.int .i64 (i : Int))] (fun b => [.eptr [.sc (.func (.func 121) #[.pointer (some ⟨b, 0, none⟩)] #[])], .eptr [.sc (.pointer (some ⟨b, 0, none⟩))]]) (ocOf (LDw L) (txD) ((endedP p).run wEnd L i)) := by
  refine callsW_of (m := 2) Tryz.func187 rfl Tryz.ntmps187 (fun _ => rfl) rfl rfl fun hne w0 S0 b stab => ?_
  obtain ⟨o, hO⟩ : ∃ o, o = ocOf (LDw L) (txD) ((endedP p).run wEnd L i) := ⟨_, rfl⟩
  rw [← hO] at hne ⊢
  rw [ended_eq] at hO
  refine sqq <| rgq <| asq rfl rfl <| nxq <| sqq <| rgq <| ldq kd94 rfl rfl rfl ?_
  refine sq_prV hO hne (hE hi) rfl rfl rfl rfl ⟨rfl, rfl, trivial⟩ rfl rfl (lt rfl) (fun _ _ hd h => And.intro hd (h)) (fun q j hq hO2 => ?_)
  replace hO := hO2
  clear hO2
  have hj := (hp hq hi).2
  refine asq rfl rfl <| nxq <| sqq <| rgq <| ldq kd44 rfl rfl rfl <| hits_ptrOf 6 rfl rfl rfl ?_
  refine sq_pr hO hne (need_c (l := [59]) (ts := [[59]]) hL hj (by decide) (fields_g (l := [59]) (ts := [[59]]) (by decide +kernel) (by decide +kernel) (by decide +kernel))) rfl en122 rfl rfl rfl rfl ⟨rfl, rfl, trivial⟩ rfl rfl (lt rfl) (fun _ _ hd h => And.intro hd (h)) (fun u j2 hq2 hO2 => ?_)
  replace hO := hO2
  clear hO2
  refine nxq <| sqq <| rgq <| mvq rfl rfl <| asq rfl rfl <| nxq <| rtq ?_
  exact hits_doneX hO (.inl rfl) rfl rfl rfl rfl rfl ⟨rfl, rfl, trivial⟩ rfl
theorem clok_c {L : List Wd} {i : Nat} (hL : L.length ≤ 65536) (hi : i ≤ L.length) {p : PW (Ex × Nat)} (hp : Eager p) (hE : ∀ {i : Nat}, i ≤ L.length → CallsX Tryz.prog Lw pvN 133 [LDw L, .sc (.int .i64 (i : Int))] (fun _ => []) (ocOf (LDw L) (kdD) ((p).run wEnd L i))) : CallsW Tryz.prog Lw pvN 184 [LDw L, .sc (.int .i64 (i : Int))] (fun b => [.eptr [.sc (.func (.func 133) #[.pointer (some ⟨b, 0, none⟩)] #[])], .eptr [.sc (.pointer (some ⟨b, 0, none⟩))]]) (ocOf (LDw L) (kdD) ((endedP p).run wEnd L i)) := by
  refine callsW_of (m := 2) Tryz.func184 rfl Tryz.ntmps184 (fun _ => rfl) rfl rfl fun hne w0 S0 b stab => ?_
  obtain ⟨o, hO⟩ : ∃ o, o = ocOf (LDw L) (kdD) ((endedP p).run wEnd L i) := ⟨_, rfl⟩
  rw [← hO] at hne ⊢
  rw [ended_eq] at hO
  refine sqq <| rgq <| sq (f_alloc zc82 (lt rfl)) rfl rfl <| nxq <| sqq <| rgq <| ldq kd186 rfl rfl rfl ?_
  refine sq_prV hO hne (hE hi) rfl rfl rfl rfl ⟨rfl, rfl, trivial⟩ rfl rfl (lt rfl) (fun _ _ hd h => And.intro hd (h)) (fun q j hq hO2 => ?_)
  replace hO := hO2
  clear hO2
  have hj := (hp hq hi).2
  obtain ⟨⟨qop, qlw, qlh, qll, qnm, qfl, qn, qm, qar, qln⟩, kk⟩ := q
  refine sq (f_alloc zc82 (lt rfl)) rfl rfl <| soq kd82 rfl rfl rfl rfl rfl <| nxq <| sqq <| rgq <| ldq kd44 rfl rfl rfl <| hits_ptrOf 6 rfl rfl rfl ?_
  refine sq_pr hO hne (need_c (l := [59]) (ts := [[59]]) hL hj (by decide) (fields_g (l := [59]) (ts := [[59]]) (by decide +kernel) (by decide +kernel) (by decide +kernel))) rfl en122 rfl rfl rfl rfl ⟨rfl, rfl, trivial⟩ rfl rfl (lt rfl) (fun _ _ hd h => And.intro hd (h)) (fun u j2 hq2 hO2 => ?_)
  replace hO := hO2
  clear hO2
  refine nxq <| sqq <| rgq <| ldq kd82 rfl rfl rfl <| soq kd82 rfl rfl rfl rfl rfl <| nxq <| rtq ?_
  exact hits_doneX hO (.inl rfl) rfl rfl rfl rfl rfl ⟨rfl, rfl, trivial⟩ rfl
set_option maxHeartbeats 1000000 in
theorem eachf_c {L : List Wd} {i : Nat} (hL : L.length ≤ 65536) (hi : i ≤ L.length) {p : PW (Tx × Nat)} (hp : Eager p) (hE : ∀ {i : Nat}, i ≤ L.length → CallsX Tryz.prog Lw pvN 125 [LDw L, .sc (.int .i64 (i : Int))] (fun _ => []) (ocOf (LDw L) (fdD) ((p).run wEnd L i))) (f : Nat) : CallsX Tryz.prog Lw pvN 123 [LDw L, .sc (.int .i64 (i : Int))] (fun b => [.clo 178 [.eptr [.sc (.func (.func 125) #[.pointer (some ⟨b, 0, none⟩)] #[])], .eptr [.sc (.pointer (some ⟨b, 0, none⟩))]]]) (ocOf (LDw L) (fun l => D.list 2 (l.map fdD)) ((eachP (endedP p) f []).run wEnd L i)) := by
  refine callsX_of (m := 1) Tryz.func123 rfl Tryz.ntmps123 (fun _ => rfl) rfl rfl fun hne w0 S0 b stab => ?_
  obtain ⟨o, hO⟩ : ∃ o, o = ocOf (LDw L) (fun l => D.list 2 (l.map fdD)) ((eachP (endedP p) f []).run wEnd L i) := ⟨_, rfl⟩
  rw [← hO] at hne ⊢
  refine sqq <| rgq <| asq rfl rfl <| nxq <| sqq <| hits_block <| hits_own 4 4 2 rfl <| hits_loop (fun x : Nat × List (Tx × Nat) × Nat => [(.slot 0, some (.ptr 1000000 0)), (.box 1000000, some (.ptr 1000000 0)), (.cell 1000000 0, some (.d (LDw L))), (.cell 1000000 1, some (.d (.sc (.int .i64 (x.2.2 : Int))))), (.slot 1, some (.d (.clo 178 [.eptr [.sc (.func (.func 125) #[.pointer (some ⟨b, 0, none⟩)] #[])], .eptr [.sc (.pointer (some ⟨b, 0, none⟩))]]))), (.slot 4, some (.own 4 2 (x.2.1.map fdD))), (.tip 4, some (.ptr 4 0))]) (fun x : Nat × List (Tx × Nat) × Nat => x.1 ≤ f ∧ x.2.1.length ≤ x.2.2 ∧ x.2.2 ≤ L.length ∧ o = ocOf (LDw L) (fun l => D.list 2 (l.map fdD)) ((eachP (endedP p) x.1 x.2.1).run wEnd L x.2.2)) (fun x : Nat × List (Tx × Nat) × Nat => x.1) (f, [], i) ⟨Nat.le_refl _, Nat.zero_le _, hi, hO⟩ ⟨rfl, rfl, rfl, rfl, rfl, rfl, rfl, trivial⟩ rfl ?_
  intro x hx0
  obtain ⟨g, acc, i'⟩ := x
  obtain ⟨hg, ha, hi', hO⟩ := hx0
  change g ≤ f at hg
  change acc.length ≤ i' at ha
  change i' ≤ L.length at hi'
  change o = ocOf (LDw L) (fun l => D.list 2 (l.map fdD)) ((eachP (endedP p) g acc).run wEnd L i') at hO
  change Hits _ [(.slot 0, some (.ptr 1000000 0)), (.box 1000000, some (.ptr 1000000 0)), (.cell 1000000 0, some (.d (LDw L))), (.cell 1000000 1, some (.d (.sc (.int .i64 (i' : Int))))), (.slot 1, some (.d (.clo 178 [.eptr [.sc (.func (.func 125) #[.pointer (some ⟨b, 0, none⟩)] #[])], .eptr [.sc (.pointer (some ⟨b, 0, none⟩))]]))), (.slot 4, some (.own 4 2 (acc.map fdD))), (.tip 4, some (.ptr 4 0))] _
  cases g with
  | zero => exact absurd hO hne
  | succ g =>
  rw [eachP] at hO
  refine sqq <| sqq <| rgq <| mvq rfl rfl ?_
  refine sq_pr hO hne (may_c hL hi' [125]) rfl en134 rfl rfl rfl rfl ⟨rfl, rfl, trivial⟩ rfl rfl (lt rfl) (fun _ _ hd h => And.intro hd (h)) (fun b2 j hq hO2 => ?_)
  replace hO := hO2
  clear hO2
  have hj := may_le hq hi'
  have hjj := may_at hq
  cases b2
  · rw [if_neg Bool.false_ne_true] at hO
    have hji : j = i' := by rcases hjj with ⟨h, _⟩ | ⟨_, h⟩; cases h; exact h
    refine sq (f_un rfl rfl (lt rfl)) rfl rfl <| nxq <| cnT rfl <| skq <| toq <| hits_block <| rgq <| mvq rfl rfl ?_
    refine mvq rfl rfl ?_
    refine sq_prC hO hne (clof_c hL hj hp hE) rfl en178 rfl rfl rfl ⟨rfl, rfl, trivial⟩ rfl rfl (lt rfl) (fun _ _ hd h => And.intro hd (h)) (fun q j2 hq2 hO2 => ?_)
    replace hO := hO2
    clear hO2
    have hj2 := (eager_ended hp) hq2 hj
    refine sq (f_buildSlice sk49 rfl rfl rfl rfl rfl rfl (by decide) (by decide) (lt rfl)) rfl rfl <| sq_append rfl rfl rfl rfl apk49 (by simp only [snds, List.length_map, List.length_cons, List.length_nil]; omega) (by simp only [snds, List.length_map, List.length_cons, List.length_nil]; omega) rfl (lt rfl) ?_
    refine asq rfl rfl <| nlq <| inq <| toq ?_
    refine round_end (g, acc ++ [q], j2) ⟨by simp only; omega, by simp only [List.length_append, List.length_cons, List.length_nil]; omega, hj2.2, hO⟩ (by simp only; omega) ⟨rfl, rfl, rfl, rfl, rfl, (by show _ = some (V.own 4 2 ((acc ++ [q]).map fdD)); rw [List.map_append, List.map_cons, List.map_nil]; rfl), rfl, trivial⟩ rfl
  · rw [if_pos rfl] at hO
    refine sq (f_un rfl rfl (lt rfl)) rfl rfl <| nxq <| cnF rfl <| hits_exit <| to_exit <| to_exit <| in_hit rfl <| toq ?_
    refine sqq <| rgq <| mvq rfl rfl <| asq rfl rfl <| nxq <| rtq ?_
    exact hits_doneX hO (.inl rfl) rfl rfl rfl rfl rfl ⟨rfl, rfl, trivial⟩ rfl
set_option maxHeartbeats 1000000 in
theorem eacht_c {L : List Wd} {i : Nat} (hL : L.length ≤ 65536) (hi : i ≤ L.length) {p : PW (Tx)} (hp : Eager p) (hE : ∀ {i : Nat}, i ≤ L.length → CallsX Tryz.prog Lw pvN 121 [LDw L, .sc (.int .i64 (i : Int))] (fun _ => []) (ocOf (LDw L) (txD) ((p).run wEnd L i))) (f : Nat) : CallsX Tryz.prog Lw pvN 137 [LDw L, .sc (.int .i64 (i : Int))] (fun b => [.clo 187 [.eptr [.sc (.func (.func 121) #[.pointer (some ⟨b, 0, none⟩)] #[])], .eptr [.sc (.pointer (some ⟨b, 0, none⟩))]]]) (ocOf (LDw L) (fun l => D.list 1 (l.map txD)) ((eachP (endedP p) f []).run wEnd L i)) := by
  refine callsX_of (m := 1) Tryz.func137 rfl Tryz.ntmps137 (fun _ => rfl) rfl rfl fun hne w0 S0 b stab => ?_
  obtain ⟨o, hO⟩ : ∃ o, o = ocOf (LDw L) (fun l => D.list 1 (l.map txD)) ((eachP (endedP p) f []).run wEnd L i) := ⟨_, rfl⟩
  rw [← hO] at hne ⊢
  refine sqq <| rgq <| asq rfl rfl <| nxq <| sqq <| hits_block <| hits_own 4 4 1 rfl <| hits_loop (fun x : Nat × List (Tx) × Nat => [(.slot 0, some (.ptr 1000000 0)), (.box 1000000, some (.ptr 1000000 0)), (.cell 1000000 0, some (.d (LDw L))), (.cell 1000000 1, some (.d (.sc (.int .i64 (x.2.2 : Int))))), (.slot 1, some (.d (.clo 187 [.eptr [.sc (.func (.func 121) #[.pointer (some ⟨b, 0, none⟩)] #[])], .eptr [.sc (.pointer (some ⟨b, 0, none⟩))]]))), (.slot 4, some (.own 4 1 (x.2.1.map txD))), (.tip 4, some (.ptr 4 0))]) (fun x : Nat × List (Tx) × Nat => x.1 ≤ f ∧ x.2.1.length ≤ x.2.2 ∧ x.2.2 ≤ L.length ∧ o = ocOf (LDw L) (fun l => D.list 1 (l.map txD)) ((eachP (endedP p) x.1 x.2.1).run wEnd L x.2.2)) (fun x : Nat × List (Tx) × Nat => x.1) (f, [], i) ⟨Nat.le_refl _, Nat.zero_le _, hi, hO⟩ ⟨rfl, rfl, rfl, rfl, rfl, rfl, rfl, trivial⟩ rfl ?_
  intro x hx0
  obtain ⟨g, acc, i'⟩ := x
  obtain ⟨hg, ha, hi', hO⟩ := hx0
  change g ≤ f at hg
  change acc.length ≤ i' at ha
  change i' ≤ L.length at hi'
  change o = ocOf (LDw L) (fun l => D.list 1 (l.map txD)) ((eachP (endedP p) g acc).run wEnd L i') at hO
  change Hits _ [(.slot 0, some (.ptr 1000000 0)), (.box 1000000, some (.ptr 1000000 0)), (.cell 1000000 0, some (.d (LDw L))), (.cell 1000000 1, some (.d (.sc (.int .i64 (i' : Int))))), (.slot 1, some (.d (.clo 187 [.eptr [.sc (.func (.func 121) #[.pointer (some ⟨b, 0, none⟩)] #[])], .eptr [.sc (.pointer (some ⟨b, 0, none⟩))]]))), (.slot 4, some (.own 4 1 (acc.map txD))), (.tip 4, some (.ptr 4 0))] _
  cases g with
  | zero => exact absurd hO hne
  | succ g =>
  rw [eachP] at hO
  refine sqq <| sqq <| rgq <| mvq rfl rfl ?_
  refine sq_pr hO hne (may_c hL hi' [125]) rfl en134 rfl rfl rfl rfl ⟨rfl, rfl, trivial⟩ rfl rfl (lt rfl) (fun _ _ hd h => And.intro hd (h)) (fun b2 j hq hO2 => ?_)
  replace hO := hO2
  clear hO2
  have hj := may_le hq hi'
  have hjj := may_at hq
  cases b2
  · rw [if_neg Bool.false_ne_true] at hO
    have hji : j = i' := by rcases hjj with ⟨h, _⟩ | ⟨_, h⟩; cases h; exact h
    refine sq (f_un rfl rfl (lt rfl)) rfl rfl <| nxq <| cnT rfl <| skq <| toq <| hits_block <| rgq <| mvq rfl rfl ?_
    refine mvq rfl rfl ?_
    refine sq_prC hO hne (clot_c hL hj hp hE) rfl en187 rfl rfl rfl ⟨rfl, rfl, trivial⟩ rfl rfl (lt rfl) (fun _ _ hd h => And.intro hd (h)) (fun q j2 hq2 hO2 => ?_)
    replace hO := hO2
    clear hO2
    have hj2 := (eager_ended hp) hq2 hj
    refine sq (f_buildSlice sk52 rfl rfl rfl rfl rfl rfl (by decide) (by decide) (lt rfl)) rfl rfl <| sq_append rfl rfl rfl rfl apk52 (by simp only [snds, List.length_map, List.length_cons, List.length_nil]; omega) (by simp only [snds, List.length_map, List.length_cons, List.length_nil]; omega) rfl (lt rfl) ?_
    refine asq rfl rfl <| nlq <| inq <| toq ?_
    refine round_end (g, acc ++ [q], j2) ⟨by simp only; omega, by simp only [List.length_append, List.length_cons, List.length_nil]; omega, hj2.2, hO⟩ (by simp only; omega) ⟨rfl, rfl, rfl, rfl, rfl, (by show _ = some (V.own 4 1 ((acc ++ [q]).map txD)); rw [List.map_append, List.map_cons, List.map_nil]; rfl), rfl, trivial⟩ rfl
  · rw [if_pos rfl] at hO
    refine sq (f_un rfl rfl (lt rfl)) rfl rfl <| nxq <| cnF rfl <| hits_exit <| to_exit <| to_exit <| in_hit rfl <| toq ?_
    refine sqq <| rgq <| mvq rfl rfl <| asq rfl rfl <| nxq <| rtq ?_
    exact hits_doneX hO (.inl rfl) rfl rfl rfl rfl rfl ⟨rfl, rfl, trivial⟩ rfl
set_option maxHeartbeats 1000000 in
theorem eachk_c {L : List Wd} {i : Nat} (hL : L.length ≤ 65536) (hi : i ≤ L.length) {p : PW (Ex × Nat)} (hp : Eager p) (hE : ∀ {i : Nat}, i ≤ L.length → CallsX Tryz.prog Lw pvN 133 [LDw L, .sc (.int .i64 (i : Int))] (fun _ => []) (ocOf (LDw L) (kdD) ((p).run wEnd L i))) (f : Nat) : CallsX Tryz.prog Lw pvN 131 [LDw L, .sc (.int .i64 (i : Int))] (fun b => [.clo 184 [.eptr [.sc (.func (.func 133) #[.pointer (some ⟨b, 0, none⟩)] #[])], .eptr [.sc (.pointer (some ⟨b, 0, none⟩))]]]) (ocOf (LDw L) (fun l => D.list 11 (l.map kdD)) ((eachP (endedP p) f []).run wEnd L i)) := by
  refine callsX_of (m := 1) Tryz.func131 rfl Tryz.ntmps131 (fun _ => rfl) rfl rfl fun hne w0 S0 b stab => ?_
  obtain ⟨o, hO⟩ : ∃ o, o = ocOf (LDw L) (fun l => D.list 11 (l.map kdD)) ((eachP (endedP p) f []).run wEnd L i) := ⟨_, rfl⟩
  rw [← hO] at hne ⊢
  refine sqq <| rgq <| asq rfl rfl <| nxq <| sqq <| hits_block <| hits_own 4 4 11 rfl <| hits_loop (fun x : Nat × List (Ex × Nat) × Nat => [(.slot 0, some (.ptr 1000000 0)), (.box 1000000, some (.ptr 1000000 0)), (.cell 1000000 0, some (.d (LDw L))), (.cell 1000000 1, some (.d (.sc (.int .i64 (x.2.2 : Int))))), (.slot 1, some (.d (.clo 184 [.eptr [.sc (.func (.func 133) #[.pointer (some ⟨b, 0, none⟩)] #[])], .eptr [.sc (.pointer (some ⟨b, 0, none⟩))]]))), (.slot 4, some (.own 4 11 (x.2.1.map kdD))), (.tip 4, some (.ptr 4 0))]) (fun x : Nat × List (Ex × Nat) × Nat => x.1 ≤ f ∧ x.2.1.length ≤ x.2.2 ∧ x.2.2 ≤ L.length ∧ o = ocOf (LDw L) (fun l => D.list 11 (l.map kdD)) ((eachP (endedP p) x.1 x.2.1).run wEnd L x.2.2)) (fun x : Nat × List (Ex × Nat) × Nat => x.1) (f, [], i) ⟨Nat.le_refl _, Nat.zero_le _, hi, hO⟩ ⟨rfl, rfl, rfl, rfl, rfl, rfl, rfl, trivial⟩ rfl ?_
  intro x hx0
  obtain ⟨g, acc, i'⟩ := x
  obtain ⟨hg, ha, hi', hO⟩ := hx0
  change g ≤ f at hg
  change acc.length ≤ i' at ha
  change i' ≤ L.length at hi'
  change o = ocOf (LDw L) (fun l => D.list 11 (l.map kdD)) ((eachP (endedP p) g acc).run wEnd L i') at hO
  change Hits _ [(.slot 0, some (.ptr 1000000 0)), (.box 1000000, some (.ptr 1000000 0)), (.cell 1000000 0, some (.d (LDw L))), (.cell 1000000 1, some (.d (.sc (.int .i64 (i' : Int))))), (.slot 1, some (.d (.clo 184 [.eptr [.sc (.func (.func 133) #[.pointer (some ⟨b, 0, none⟩)] #[])], .eptr [.sc (.pointer (some ⟨b, 0, none⟩))]]))), (.slot 4, some (.own 4 11 (acc.map kdD))), (.tip 4, some (.ptr 4 0))] _
  cases g with
  | zero => exact absurd hO hne
  | succ g =>
  rw [eachP] at hO
  refine sqq <| sqq <| rgq <| mvq rfl rfl ?_
  refine sq_pr hO hne (may_c hL hi' [125]) rfl en134 rfl rfl rfl rfl ⟨rfl, rfl, trivial⟩ rfl rfl (lt rfl) (fun _ _ hd h => And.intro hd (h)) (fun b2 j hq hO2 => ?_)
  replace hO := hO2
  clear hO2
  have hj := may_le hq hi'
  have hjj := may_at hq
  cases b2
  · rw [if_neg Bool.false_ne_true] at hO
    have hji : j = i' := by rcases hjj with ⟨h, _⟩ | ⟨_, h⟩; cases h; exact h
    refine sq (f_un rfl rfl (lt rfl)) rfl rfl <| nxq <| cnT rfl <| skq <| toq <| hits_block <| rgq <| mvq rfl rfl ?_
    refine mvq rfl rfl ?_
    refine sq_prC hO hne (clok_c hL hj hp hE) rfl en184 rfl rfl rfl ⟨rfl, rfl, trivial⟩ rfl rfl (lt rfl) (fun _ _ hd h => And.intro hd (h)) (fun q j2 hq2 hO2 => ?_)
    replace hO := hO2
    clear hO2
    have hj2 := (eager_ended hp) hq2 hj
    obtain ⟨⟨qop, qlw, qlh, qll, qnm, qfl, qn, qm, qar, qln⟩, kk⟩ := q
    refine sq (f_buildSlice sk51 rfl rfl rfl rfl rfl rfl (by decide) (by decide) (lt rfl)) rfl rfl <| sq_append rfl rfl rfl rfl apk51 (by simp only [snds, List.length_map, List.length_cons, List.length_nil]; omega) (by simp only [snds, List.length_map, List.length_cons, List.length_nil]; omega) rfl (lt rfl) ?_
    refine asq rfl rfl <| nlq <| inq <| toq ?_
    refine round_end (g, acc ++ [(Ex.mk qop qlw qlh qll qnm qfl qn qm qar qln, kk)], j2) ⟨by simp only; omega, by simp only [List.length_append, List.length_cons, List.length_nil]; omega, hj2.2, hO⟩ (by simp only; omega) ⟨rfl, rfl, rfl, rfl, rfl, (by show _ = some (V.own 4 11 ((acc ++ [(Ex.mk qop qlw qlh qll qnm qfl qn qm qar qln, kk)]).map kdD)); rw [List.map_append, List.map_cons, List.map_nil]; rfl), rfl, trivial⟩ rfl
  · rw [if_pos rfl] at hO
    refine sq (f_un rfl rfl (lt rfl)) rfl rfl <| nxq <| cnF rfl <| hits_exit <| to_exit <| to_exit <| in_hit rfl <| toq ?_
    refine sqq <| rgq <| mvq rfl rfl <| asq rfl rfl <| nxq <| rtq ?_
    exact hits_doneX hO (.inl rfl) rfl rfl rfl rfl rfl ⟨rfl, rfl, trivial⟩ rfl
set_option maxHeartbeats 1000000 in
theorem eachst_c {L : List Wd} {i : Nat} (hL : L.length ≤ 65536) (hi : i ≤ L.length) {p : PW (Stt)} (hp : Eager p) (hE : ∀ {i : Nat}, i ≤ L.length → CallsX Tryz.prog Lw pvN 128 [LDw L, .sc (.int .i64 (i : Int))] (fun _ => []) (ocOf (LDw L) (stD) ((p).run wEnd L i))) (f : Nat) : CallsX Tryz.prog Lw pvN 127 [LDw L, .sc (.int .i64 (i : Int))] (fun b => [.sc (.func (.func 128) #[.pointer (some ⟨b, 0, none⟩)] #[])]) (ocOf (LDw L) (fun l => D.list 6 (l.map stD)) ((eachP (p) f []).run wEnd L i)) := by
  refine callsX_of (m := 1) Tryz.func127 rfl Tryz.ntmps127 (fun _ => rfl) rfl rfl fun hne w0 S0 b stab => ?_
  obtain ⟨o, hO⟩ : ∃ o, o = ocOf (LDw L) (fun l => D.list 6 (l.map stD)) ((eachP (p) f []).run wEnd L i) := ⟨_, rfl⟩
  rw [← hO] at hne ⊢
  refine sqq <| rgq <| asq rfl rfl <| nxq <| sqq <| hits_block <| hits_own 4 4 6 rfl <| hits_loop (fun x : Nat × List (Stt) × Nat => [(.slot 0, some (.ptr 1000000 0)), (.box 1000000, some (.ptr 1000000 0)), (.cell 1000000 0, some (.d (LDw L))), (.cell 1000000 1, some (.d (.sc (.int .i64 (x.2.2 : Int))))), (.slot 1, some (.d (.sc (.func (.func 128) #[.pointer (some ⟨b, 0, none⟩)] #[])))), (.slot 4, some (.own 4 6 (x.2.1.map stD))), (.tip 4, some (.ptr 4 0))]) (fun x : Nat × List (Stt) × Nat => x.1 ≤ f ∧ x.2.1.length ≤ x.2.2 ∧ x.2.2 ≤ L.length ∧ o = ocOf (LDw L) (fun l => D.list 6 (l.map stD)) ((eachP (p) x.1 x.2.1).run wEnd L x.2.2)) (fun x : Nat × List (Stt) × Nat => x.1) (f, [], i) ⟨Nat.le_refl _, Nat.zero_le _, hi, hO⟩ ⟨rfl, rfl, rfl, rfl, rfl, rfl, rfl, trivial⟩ rfl ?_
  intro x hx0
  obtain ⟨g, acc, i'⟩ := x
  obtain ⟨hg, ha, hi', hO⟩ := hx0
  change g ≤ f at hg
  change acc.length ≤ i' at ha
  change i' ≤ L.length at hi'
  change o = ocOf (LDw L) (fun l => D.list 6 (l.map stD)) ((eachP (p) g acc).run wEnd L i') at hO
  change Hits _ [(.slot 0, some (.ptr 1000000 0)), (.box 1000000, some (.ptr 1000000 0)), (.cell 1000000 0, some (.d (LDw L))), (.cell 1000000 1, some (.d (.sc (.int .i64 (i' : Int))))), (.slot 1, some (.d (.sc (.func (.func 128) #[.pointer (some ⟨b, 0, none⟩)] #[])))), (.slot 4, some (.own 4 6 (acc.map stD))), (.tip 4, some (.ptr 4 0))] _
  cases g with
  | zero => exact absurd hO hne
  | succ g =>
  rw [eachP] at hO
  refine sqq <| sqq <| rgq <| mvq rfl rfl ?_
  refine sq_pr hO hne (may_c hL hi' [125]) rfl en134 rfl rfl rfl rfl ⟨rfl, rfl, trivial⟩ rfl rfl (lt rfl) (fun _ _ hd h => And.intro hd (h)) (fun b2 j hq hO2 => ?_)
  replace hO := hO2
  clear hO2
  have hj := may_le hq hi'
  have hjj := may_at hq
  cases b2
  · rw [if_neg Bool.false_ne_true] at hO
    have hji : j = i' := by rcases hjj with ⟨h, _⟩ | ⟨_, h⟩; cases h; exact h
    refine sq (f_un rfl rfl (lt rfl)) rfl rfl <| nxq <| cnT rfl <| skq <| toq <| hits_block <| rgq <| mvq rfl rfl ?_
    refine mvq rfl rfl ?_
    refine sq_prV hO hne (hE hj) rfl rfl rfl rfl ⟨rfl, rfl, trivial⟩ rfl rfl (lt rfl) (fun _ _ hd h => And.intro hd (h)) (fun q j2 hq2 hO2 => ?_)
    replace hO := hO2
    clear hO2
    have hj2 := hp hq2 hj
    refine sq (f_buildSlice sk50 rfl rfl rfl rfl rfl rfl (by decide) (by decide) (lt rfl)) rfl rfl <| sq_append rfl rfl rfl rfl apk50 (by simp only [snds, List.length_map, List.length_cons, List.length_nil]; omega) (by simp only [snds, List.length_map, List.length_cons, List.length_nil]; omega) rfl (lt rfl) ?_
    refine asq rfl rfl <| nlq <| inq <| toq ?_
    refine round_end (g, acc ++ [q], j2) ⟨by simp only; omega, by simp only [List.length_append, List.length_cons, List.length_nil]; omega, hj2.2, hO⟩ (by simp only; omega) ⟨rfl, rfl, rfl, rfl, rfl, (by show _ = some (V.own 4 6 ((acc ++ [q]).map stD)); rw [List.map_append, List.map_cons, List.map_nil]; rfl), rfl, trivial⟩ rfl
  · rw [if_pos rfl] at hO
    refine sq (f_un rfl rfl (lt rfl)) rfl rfl <| nxq <| cnF rfl <| hits_exit <| to_exit <| to_exit <| in_hit rfl <| toq ?_
    refine sqq <| rgq <| mvq rfl rfl <| asq rfl rfl <| nxq <| rtq ?_
    exact hits_doneX hO (.inl rfl) rfl rfl rfl rfl rfl ⟨rfl, rfl, trivial⟩ rfl
set_option maxHeartbeats 1000000 in
theorem somef_c {L : List Wd} {i : Nat} (hL : L.length ≤ 65536) (hi : i ≤ L.length) (hS : Small L) (e : Tx) (he : CallsP Tryz.prog Lw 93 [txD e] (.list 1 ([e].map txD))) (f : Nat) : CallsX Tryz.prog Lw pvN 181 [LDw L, .sc (.int .i64 (i : Int))] (fun b => [txD e, .sc (.func (.func 125) #[.pointer (some ⟨b, 0, none⟩)] #[])]) (ocOf (LDw L) (fun l => D.list 2 (l.map fdD)) ((someP typedP e f []).run wEnd L i)) := by
  refine callsX_of (m := 2) Tryz.func181 rfl Tryz.ntmps181 (fun _ => rfl) rfl rfl fun hne w0 S0 b stab => ?_
  obtain ⟨o, hO⟩ : ∃ o, o = ocOf (LDw L) (fun l => D.list 2 (l.map fdD)) ((someP typedP e f []).run wEnd L i) := ⟨_, rfl⟩
  rw [← hO] at hne ⊢
  refine sqq <| rgq <| asq rfl rfl <| nxq <| hits_block <| hits_own 6 6 2 rfl <| hits_loop (fun x : Nat × List (Tx × Nat) × Nat => [(.slot 0, some (.ptr 1000000 0)), (.box 1000000, some (.ptr 1000000 0)), (.cell 1000000 0, some (.d (LDw L))), (.cell 1000000 1, some (.d (.sc (.int .i64 (x.2.2 : Int))))), (.slot 1, some (.d (txD e))), (.slot 2, some (.d (.sc (.func (.func 125) #[.pointer (some ⟨b, 0, none⟩)] #[])))), (.slot 6, some (.own 6 2 (x.2.1.map fdD))), (.tip 6, some (.ptr 6 0))]) (fun x : Nat × List (Tx × Nat) × Nat => x.1 ≤ f ∧ x.2.1.length ≤ x.2.2 ∧ x.2.2 ≤ L.length ∧ o = ocOf (LDw L) (fun l => D.list 2 (l.map fdD)) ((someP typedP e x.1 x.2.1).run wEnd L x.2.2)) (fun x : Nat × List (Tx × Nat) × Nat => x.1) (f, [], i) ⟨Nat.le_refl _, Nat.zero_le _, hi, hO⟩ ⟨rfl, rfl, rfl, rfl, rfl, rfl, rfl, rfl, trivial⟩ rfl ?_
  intro x hx0
  obtain ⟨g, acc, i'⟩ := x
  obtain ⟨hg, ha, hi', hO⟩ := hx0
  change g ≤ f at hg
  change acc.length ≤ i' at ha
  change i' ≤ L.length at hi'
  change o = ocOf (LDw L) (fun l => D.list 2 (l.map fdD)) ((someP typedP e g acc).run wEnd L i') at hO
  change Hits _ [(.slot 0, some (.ptr 1000000 0)), (.box 1000000, some (.ptr 1000000 0)), (.cell 1000000 0, some (.d (LDw L))), (.cell 1000000 1, some (.d (.sc (.int .i64 (i' : Int))))), (.slot 1, some (.d (txD e))), (.slot 2, some (.d (.sc (.func (.func 125) #[.pointer (some ⟨b, 0, none⟩)] #[])))), (.slot 6, some (.own 6 2 (acc.map fdD))), (.tip 6, some (.ptr 6 0))] _
  cases g with
  | zero => exact absurd hO hne
  | succ g =>
  rw [someP] at hO
  refine hits_block <| sqq <| rgq <| mvq rfl rfl <| mvq rfl rfl ?_
  refine sq_prV hO hne (typed_c hL hi' hS) rfl rfl rfl rfl ⟨rfl, rfl, trivial⟩ rfl rfl (lt rfl) (fun _ _ hd h => And.intro hd (h)) (fun q j hq hO2 => ?_)
  replace hO := hO2
  clear hO2
  have hj := eager_typed hq hi'
  refine sq (f_buildSlice sk49 rfl rfl rfl rfl rfl rfl (by decide) (by decide) (lt rfl)) rfl rfl <| sq_append rfl rfl rfl rfl apk49 (by simp only [snds, List.length_map, List.length_cons, List.length_nil]; omega) (by simp only [snds, List.length_map, List.length_cons, List.length_nil]; omega) rfl (lt rfl) ?_
  refine asq rfl rfl <| nxq <| sqq <| rgq <| mvq rfl rfl ?_
  refine sq_pr hO hne (may_c hL hj.2 [44]) rfl en134 rfl rfl rfl rfl ⟨rfl, rfl, trivial⟩ rfl rfl (lt rfl) (fun _ _ hd h => And.intro hd (h)) (fun b2 j2 hq2 hO2 => ?_)
  replace hO := hO2
  clear hO2
  have hj2 := may_at hq2
  cases b2
  · rw [if_neg Bool.false_ne_true] at hO
    have hj3 : j2 = j := by rcases hj2 with ⟨h, _⟩ | ⟨_, h⟩; cases h; exact h
    subst hj3
    have hnd := need_c (l := e) (ts := [e]) hL hj.2 (by simp) he
    refine sq (f_un rfl rfl (lt rfl)) rfl rfl <| nxq <| cnT rfl <| sqq <| rgq <| mvq rfl rfl <| mvq rfl rfl ?_
    refine sq_pr hO hne (hnd) rfl en122 rfl rfl rfl rfl ⟨rfl, rfl, trivial⟩ rfl rfl (lt rfl) (fun _ _ hd h => And.intro hd (h)) (fun u j3 hq3 hO2 => ?_)
    replace hO := hO2
    clear hO2
    refine nxq <| sqq <| rgq <| mvq rfl rfl <| asq rfl rfl <| nxq <| rtq <| in_ret ?_
    refine to_ret <| in_ret ?_
    have hO' : o = .ret [LDw L, .sc (.int .i64 (j3 : Int))] (.list 2 (acc.map fdD ++ [fdD q])) := by rw [hO]; show Oc.ret _ (D.list 2 ((acc ++ [q]).map fdD)) = _; rw [List.map_append, List.map_cons, List.map_nil]
    exact hits_doneX hO' (.inl rfl) rfl rfl rfl rfl rfl ⟨rfl, rfl, trivial⟩ rfl
  · rw [if_pos rfl] at hO
    have hj3 : j2 = j + 1 ∧ j < L.length := by rcases hj2 with ⟨_, h⟩ | ⟨h, _⟩; exact h; cases h
    refine sq (f_un rfl rfl (lt rfl)) rfl rfl <| nxq <| cnF rfl <| skq <| inq <| toq ?_
    refine round_end (g, acc ++ [q], j2) ⟨by simp only; omega, by simp only [List.length_append, List.length_cons, List.length_nil]; omega, by simp only; omega, hO⟩ (by simp only; omega) ⟨rfl, rfl, rfl, rfl, rfl, rfl, (by show _ = some (V.own 6 2 ((acc ++ [q]).map fdD)); rw [List.map_append, List.map_cons, List.map_nil]; rfl), rfl, trivial⟩ rfl
theorem rowf_c {L : List Wd} {i : Nat} (hL : L.length ≤ 65536) (hi : i ≤ L.length) (hS : Small L) (e : Tx) (he : CallsP Tryz.prog Lw 93 [txD e] (.list 1 ([e].map txD))) (f : Nat) : CallsX Tryz.prog Lw pvN 129 [LDw L, .sc (.int .i64 (i : Int))] (fun b => [txD e, .sc (.func (.func 125) #[.pointer (some ⟨b, 0, none⟩)] #[])]) (ocOf (LDw L) (fun l => D.list 2 (l.map fdD)) ((rowP typedP e f).run wEnd L i)) := by
  refine callsX_of (m := 2) Tryz.func129 rfl Tryz.ntmps129 (fun _ => rfl) rfl rfl fun hne w0 S0 b stab => ?_
  obtain ⟨o, hO⟩ : ∃ o, o = ocOf (LDw L) (fun l => D.list 2 (l.map fdD)) ((rowP typedP e f).run wEnd L i) := ⟨_, rfl⟩
  rw [← hO] at hne ⊢
  rw [rowP] at hO
  refine sqq <| rgq <| asq rfl rfl <| nxq <| sqq <| sqq <| rgq <| mvq rfl rfl ?_
  refine mvq rfl rfl ?_
  refine sq_pr hO hne (may_c hL hi e) rfl en134 rfl rfl rfl rfl ⟨rfl, rfl, trivial⟩ rfl rfl (lt rfl) (fun _ _ hd h => And.intro hd (h)) (fun b1 j hq hO2 => ?_)
  replace hO := hO2
  clear hO2
  cases b1
  · rw [if_neg Bool.false_ne_true] at hO
    have hj := may_le hq hi
    have hO : o = ocOf (LDw L) (fun l => D.list 2 (l.map fdD)) (((someP typedP e f []).bind .ret).run wEnd L j) := by rw [bind_ret]; exact hO
    refine nxq <| cnF rfl <| skq <| toq <| sqq <| rgq <| mvq rfl rfl <| mvq rfl rfl ?_
    refine mvq rfl rfl ?_
    refine sq_pr hO hne (somef_c hL hj hS e he f) rfl en181 rfl rfl rfl rfl ⟨rfl, rfl, trivial⟩ rfl rfl (lt rfl) (fun _ _ hd h => And.intro hd (h)) (fun l j2 hq2 hO2 => ?_)
    replace hO := hO2
    clear hO2
    refine asq rfl rfl <| nxq <| rtq ?_
    exact hits_doneX hO (.inl rfl) rfl rfl rfl rfl rfl ⟨rfl, rfl, trivial⟩ rfl
  · rw [if_pos rfl] at hO
    refine nxq <| cnT rfl <| sqq <| rgq <| asq rfl rfl <| nxq <| rtq <| to_ret ?_
    refine hits_slotD 6 (q' := .list 2 []) rfl nil_list ?_
    exact hits_doneX hO (.inl rfl) rfl rfl rfl rfl rfl ⟨rfl, rfl, trivial⟩ rfl
set_option maxHeartbeats 1000000 in
theorem someb_c {L : List Wd} {i : Nat} (hL : L.length ≤ 65536) (hi : i ≤ L.length) (hS : Small L) (e : Tx) (he : CallsP Tryz.prog Lw 93 [txD e] (.list 1 ([e].map txD))) (f : Nat) : CallsX Tryz.prog Lw pvN 186 [LDw L, .sc (.int .i64 (i : Int))] (fun b => [txD e, .sc (.func (.func 136) #[.pointer (some ⟨b, 0, none⟩)] #[])]) (ocOf (LDw L) (fun l => D.list 3 (l.map n3D)) ((someP litP e f []).run wEnd L i)) := by
  refine callsX_of (m := 2) Tryz.func186 rfl Tryz.ntmps186 (fun _ => rfl) rfl rfl fun hne w0 S0 b stab => ?_
  obtain ⟨o, hO⟩ : ∃ o, o = ocOf (LDw L) (fun l => D.list 3 (l.map n3D)) ((someP litP e f []).run wEnd L i) := ⟨_, rfl⟩
  rw [← hO] at hne ⊢
  refine sqq <| rgq <| asq rfl rfl <| nxq <| hits_block <| hits_own 6 6 3 rfl <| hits_loop (fun x : Nat × List (N3) × Nat => [(.slot 0, some (.ptr 1000000 0)), (.box 1000000, some (.ptr 1000000 0)), (.cell 1000000 0, some (.d (LDw L))), (.cell 1000000 1, some (.d (.sc (.int .i64 (x.2.2 : Int))))), (.slot 1, some (.d (txD e))), (.slot 2, some (.d (.sc (.func (.func 136) #[.pointer (some ⟨b, 0, none⟩)] #[])))), (.slot 6, some (.own 6 3 (x.2.1.map n3D))), (.tip 6, some (.ptr 6 0))]) (fun x : Nat × List (N3) × Nat => x.1 ≤ f ∧ x.2.1.length ≤ x.2.2 ∧ x.2.2 ≤ L.length ∧ o = ocOf (LDw L) (fun l => D.list 3 (l.map n3D)) ((someP litP e x.1 x.2.1).run wEnd L x.2.2)) (fun x : Nat × List (N3) × Nat => x.1) (f, [], i) ⟨Nat.le_refl _, Nat.zero_le _, hi, hO⟩ ⟨rfl, rfl, rfl, rfl, rfl, rfl, rfl, rfl, trivial⟩ rfl ?_
  intro x hx0
  obtain ⟨g, acc, i'⟩ := x
  obtain ⟨hg, ha, hi', hO⟩ := hx0
  change g ≤ f at hg
  change acc.length ≤ i' at ha
  change i' ≤ L.length at hi'
  change o = ocOf (LDw L) (fun l => D.list 3 (l.map n3D)) ((someP litP e g acc).run wEnd L i') at hO
  change Hits _ [(.slot 0, some (.ptr 1000000 0)), (.box 1000000, some (.ptr 1000000 0)), (.cell 1000000 0, some (.d (LDw L))), (.cell 1000000 1, some (.d (.sc (.int .i64 (i' : Int))))), (.slot 1, some (.d (txD e))), (.slot 2, some (.d (.sc (.func (.func 136) #[.pointer (some ⟨b, 0, none⟩)] #[])))), (.slot 6, some (.own 6 3 (acc.map n3D))), (.tip 6, some (.ptr 6 0))] _
  cases g with
  | zero => exact absurd hO hne
  | succ g =>
  rw [someP] at hO
  refine hits_block <| sqq <| rgq <| mvq rfl rfl <| mvq rfl rfl ?_
  refine sq_prV hO hne (lit_c hL hi') rfl rfl rfl rfl ⟨rfl, rfl, trivial⟩ rfl rfl (lt rfl) (fun _ _ hd h => And.intro hd (h)) (fun q j hq hO2 => ?_)
  replace hO := hO2
  clear hO2
  have hj := eager_lit hq hi'
  refine sq (f_buildSlice sk53 rfl rfl rfl rfl rfl rfl (by decide) (by decide) (lt rfl)) rfl rfl <| sq_append rfl rfl rfl rfl apk53 (by simp only [snds, List.length_map, List.length_cons, List.length_nil]; omega) (by simp only [snds, List.length_map, List.length_cons, List.length_nil]; omega) rfl (lt rfl) ?_
  refine asq rfl rfl <| nxq <| sqq <| rgq <| mvq rfl rfl ?_
  refine sq_pr hO hne (may_c hL hj.2 [44]) rfl en134 rfl rfl rfl rfl ⟨rfl, rfl, trivial⟩ rfl rfl (lt rfl) (fun _ _ hd h => And.intro hd (h)) (fun b2 j2 hq2 hO2 => ?_)
  replace hO := hO2
  clear hO2
  have hj2 := may_at hq2
  cases b2
  · rw [if_neg Bool.false_ne_true] at hO
    have hj3 : j2 = j := by rcases hj2 with ⟨h, _⟩ | ⟨_, h⟩; cases h; exact h
    subst hj3
    have hnd := need_c (l := e) (ts := [e]) hL hj.2 (by simp) he
    refine sq (f_un rfl rfl (lt rfl)) rfl rfl <| nxq <| cnT rfl <| sqq <| rgq <| mvq rfl rfl <| mvq rfl rfl ?_
    refine sq_pr hO hne (hnd) rfl en122 rfl rfl rfl rfl ⟨rfl, rfl, trivial⟩ rfl rfl (lt rfl) (fun _ _ hd h => And.intro hd (h)) (fun u j3 hq3 hO2 => ?_)
    replace hO := hO2
    clear hO2
    refine nxq <| sqq <| rgq <| mvq rfl rfl <| asq rfl rfl <| nxq <| rtq <| in_ret ?_
    refine to_ret <| in_ret ?_
    have hO' : o = .ret [LDw L, .sc (.int .i64 (j3 : Int))] (.list 3 (acc.map n3D ++ [n3D q])) := by rw [hO]; show Oc.ret _ (D.list 3 ((acc ++ [q]).map n3D)) = _; rw [List.map_append, List.map_cons, List.map_nil]
    exact hits_doneX hO' (.inl rfl) rfl rfl rfl rfl rfl ⟨rfl, rfl, trivial⟩ rfl
  · rw [if_pos rfl] at hO
    have hj3 : j2 = j + 1 ∧ j < L.length := by rcases hj2 with ⟨_, h⟩ | ⟨h, _⟩; exact h; cases h
    refine sq (f_un rfl rfl (lt rfl)) rfl rfl <| nxq <| cnF rfl <| skq <| inq <| toq ?_
    refine round_end (g, acc ++ [q], j2) ⟨by simp only; omega, by simp only [List.length_append, List.length_cons, List.length_nil]; omega, by simp only; omega, hO⟩ (by simp only; omega) ⟨rfl, rfl, rfl, rfl, rfl, rfl, (by show _ = some (V.own 6 3 ((acc ++ [q]).map n3D)); rw [List.map_append, List.map_cons, List.map_nil]; rfl), rfl, trivial⟩ rfl
theorem rowb_c {L : List Wd} {i : Nat} (hL : L.length ≤ 65536) (hi : i ≤ L.length) (hS : Small L) (e : Tx) (he : CallsP Tryz.prog Lw 93 [txD e] (.list 1 ([e].map txD))) (f : Nat) : CallsX Tryz.prog Lw pvN 135 [LDw L, .sc (.int .i64 (i : Int))] (fun b => [txD e, .sc (.func (.func 136) #[.pointer (some ⟨b, 0, none⟩)] #[])]) (ocOf (LDw L) (fun l => D.list 3 (l.map n3D)) ((rowP litP e f).run wEnd L i)) := by
  refine callsX_of (m := 2) Tryz.func135 rfl Tryz.ntmps135 (fun _ => rfl) rfl rfl fun hne w0 S0 b stab => ?_
  obtain ⟨o, hO⟩ : ∃ o, o = ocOf (LDw L) (fun l => D.list 3 (l.map n3D)) ((rowP litP e f).run wEnd L i) := ⟨_, rfl⟩
  rw [← hO] at hne ⊢
  rw [rowP] at hO
  refine sqq <| rgq <| asq rfl rfl <| nxq <| sqq <| sqq <| rgq <| mvq rfl rfl ?_
  refine mvq rfl rfl ?_
  refine sq_pr hO hne (may_c hL hi e) rfl en134 rfl rfl rfl rfl ⟨rfl, rfl, trivial⟩ rfl rfl (lt rfl) (fun _ _ hd h => And.intro hd (h)) (fun b1 j hq hO2 => ?_)
  replace hO := hO2
  clear hO2
  cases b1
  · rw [if_neg Bool.false_ne_true] at hO
    have hj := may_le hq hi
    have hO : o = ocOf (LDw L) (fun l => D.list 3 (l.map n3D)) (((someP litP e f []).bind .ret).run wEnd L j) := by rw [bind_ret]; exact hO
    refine nxq <| cnF rfl <| skq <| toq <| sqq <| rgq <| mvq rfl rfl <| mvq rfl rfl ?_
    refine mvq rfl rfl ?_
    refine sq_pr hO hne (someb_c hL hj hS e he f) rfl en186 rfl rfl rfl rfl ⟨rfl, rfl, trivial⟩ rfl rfl (lt rfl) (fun _ _ hd h => And.intro hd (h)) (fun l j2 hq2 hO2 => ?_)
    replace hO := hO2
    clear hO2
    refine asq rfl rfl <| nxq <| rtq ?_
    exact hits_doneX hO (.inl rfl) rfl rfl rfl rfl rfl ⟨rfl, rfl, trivial⟩ rfl
  · rw [if_pos rfl] at hO
    refine nxq <| cnT rfl <| sqq <| rgq <| asq rfl rfl <| nxq <| rtq <| to_ret ?_
    refine hits_slotD 6 (q' := .list 3 []) rfl nil_list ?_
    exact hits_doneX hO (.inl rfl) rfl rfl rfl rfl rfl ⟨rfl, rfl, trivial⟩ rfl
end Go.Proofs.YtogodijfdkffaaaGreatDoor.Ln

