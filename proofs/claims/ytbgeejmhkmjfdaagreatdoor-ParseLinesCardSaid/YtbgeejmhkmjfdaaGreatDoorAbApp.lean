/- Appends where the order is drawn: a list of its own gets a new number; and back. No program. -/
import Derived.Test.YtbgeejmhkmjfdaaGreatDoorAbClo
import Derived.Test.YtbgeejmhkmjfdaaGreatDoorAbHeap
namespace Go.Ab
open Go Go.RowKit
set_option linter.unusedVariables false
set_option linter.unusedSimpArgs false
variable {P : Program} {E : Env} {st : St} {G : Gh} {a : Act} {w : World} {Q : Exit → Act → World → Prop}
variable {d : Nat} {ty : TypeId} {pos : String} {af : Array Edge} {g : Option (Nat × Bool)} {x y z : Operand}
mutual
theorem dullV_free {id : Nat} : ∀ v : V, v.free id = true → dullV id v = v
  | .own i es l, h => by simp only [V.free, Bool.not_eq_true', beq_eq_false_iff_ne] at h; simp only [dullV, show (i == id) = false from by simpa using h, cond_false]
  | .mo i es l, h => by simp only [V.free, Bool.not_eq_true', beq_eq_false_iff_ne] at h; simp only [dullV, show (i == id) = false from by simpa using h, cond_false]
  | .mptr i es l, h => by simp only [V.free, Bool.not_eq_true', beq_eq_false_iff_ne] at h; simp only [dullV, show (i == id) = false from by simpa using h, cond_false]
  | .agg l, h => by simp only [V.free] at h; simp only [dullV, dullVs_free l h]
  | .tup l, h => by simp only [V.free] at h; simp only [dullV, dullVs_free l h]
  | .cont l, h => by simp only [V.free] at h; simp only [dullV, dullVs_free l h]
  | .contD l, h => by simp only [dullV]
  | .d x, h => by simp only [dullV]
  | .ptr i o, h => by simp only [dullV]
  | .mapp i, h => by simp only [dullV]
  | .fn f l, h => by simp only [dullV]
theorem dullVs_free {id : Nat} : ∀ l : List V, V.frees id l = true → dullVs id l = l
  | [], _ => by simp only [dullVs]
  | v :: l, h => by
    simp only [V.frees, Bool.and_eq_true] at h
    simp only [dullVs, dullV_free v h.1, dullVs_free l h.2]
end
theorem unused_look {st : St} {id : Nat} {k : Loc} {v : V} (h : st.unused id = true) (hl : look st k = some v) : v.free id = true := by
  induction st with
  | nil => cases hl
  | cons e r ih =>
    simp only [St.unused, List.all_cons, Bool.and_eq_true] at h
    rw [look_cons] at hl
    split at hl
    · rw [hl] at h; exact h.1.2
    · exact ih h.2 hl
theorem look_dull_unused {st : St} {id : Nat} (h : st.unused id = true) (k : Loc) : look (dull id st) k = look st k := by
  rw [look_dull]
  cases hl : look st k with
  | none => rfl
  | some v => show some _ = _; rw [dullV_free v (unused_look h hl)]
theorem Sim.dropTip (s : Sim E st G a w) (id : Nat) : Sim E ((.tip id, none) :: st) G a w := by
  have es : ∀ l, l ≠ .tip id → look ((Loc.tip id, none) :: st) l = look st l := fun l hl => look_ne _ _ (fun c => hl c.symm)
  have et : ∀ i v, look ((Loc.tip id, none) :: st) (.tip i) = some v → look st (.tip i) = some v := fun i v hh => by
    rw [look_cons] at hh
    split at hh
    · cases hh
    · exact hh
  have et' : ∀ i, look ((Loc.tip id, none) :: st) (.tip i) ≠ none → look st (.tip i) ≠ none := fun i hh => by
    cases hv : look ((Loc.tip id, none) :: st) (.tip i) with
    | none => exact absurd hv hh
    | some v => rw [et i v hv]; simp
  refine ⟨s.kw, s.s0, s.snew, s.tmps, s.defers, fun t v hv => s.slots t v (by rw [es _ (by simp)] at hv; exact hv), fun i o v hv => by rw [es _ (by simp)] at hv ⊢; exact s.cells i o v hv, fun i hi => s.boxes i (by rw [es _ (by simp)] at hi; exact hi), fun i j hi hj => s.inj i j (by rw [es _ (by simp)] at hi; exact hi) (by rw [es _ (by simp)] at hj; exact hj), s.stable, fun i hi ht => ?_, fun i j hi hj => s.tinj i j (et' i hi) (et' j hj), fun p hp => ⟨(s.rcv p hp).1, fun hi => (s.rcv p hp).2 (by rw [es _ (by simp)] at hi; exact hi)⟩, fun i qv l hv => s.conts i qv l (et i _ hv), fun i v hv => by rw [es _ (by simp)] at hv ⊢; exact s.iters i v hv, fun j v hv => s.olds j v (by rw [es _ (by simp)] at hv; exact hv)⟩
  obtain ⟨h1, h2, h3, h4⟩ := s.tips i (et' i hi) ht
  exact ⟨h1, h2, h3, fun j hj => h4 j (by rw [es _ (by simp)] at hj; exact hj)⟩
theorem hits_ownC {K : Act → World → Prop} (c k id es : Nat) (hl : look st (.cell c k) = some (.d (.sc (.slice none 0 0)))) (h : Hits E ((.cell c k, some (.own id es [])) :: (.tip id, some (.ptr id 0)) :: dull id st) K) : Hits E st K := by
  intro G a w s
  have s1 := s.retip (id := id) (b := 0) (n := 0) (z := 0) (k := false) (fun c => by cases c)
  refine h _ a w (s1.recell (v0 := .d (.sc (.slice none 0 0))) (v := .own id es []) (by rw [look_ne _ _ (by simp), look_dull, hl]; rfl) fun u hu => ?_)
  exact .inl ⟨by simp [upd], rfl, rel_sc hu⟩
theorem hits_renumC {K : Act → World → Prop} (c k j id es : Nat) {l : List D} {vt : V} (hc : look st (.cell c k) = some (.own j es l)) (ht : look st (.tip j) = some vt) (hne : id ≠ j) (h : Hits E ((.cell c k, some (.own id es l)) :: (.tip id, some (.ptr id 0)) :: dull id ((.tip j, none) :: st)) K) : Hits E st K := by
  intro G a w s
  have htj : look st (.tip j) ≠ none := by rw [ht]; simp
  have hcv : look ((Loc.tip j, none) :: st) (.cell c k) = some (.own j es l) := by rw [look_ne _ _ (by simp)]; exact hc
  have s1 := (s.dropTip j).retip (id := id) (b := G.tb j) (n := G.te j) (z := G.tz j) (k := G.tk j) (fun hk => by
    obtain ⟨t1, t2, t3, t4⟩ := s.tips j htj hk
    refine ⟨t1, t2, t3, fun i hi => t4 i (by rw [look_ne _ _ (by simp)] at hi; exact hi), fun i hi hl hki hcc => ?_⟩
    rw [look_cons] at hl
    split at hl
    · exact absurd rfl hl
    · rename_i hji
      exact hji (by rw [s.tinj j i htj hl hk hki hcc.symm]))
  refine h _ a w (s1.recell (v0 := .own j es l) (v := .own id es l) ?_ fun u hu => ?_)
  · rw [look_ne _ _ (by simp), look_dull, hcv]
    show some (dullV id (.own j es l)) = _
    simp only [dullV, show (j == id) = false from by simpa using fun c => hne c.symm, cond_false]
  · simp only [RelV, upd, if_true, show ¬ (j = id) from fun c => hne c.symm, if_false] at hu ⊢
    exact hu
theorem f_appendO (id' : Nat) {t tx e : TypeId} {id es nb : Nat} {xs ys : List D} {v vt : V} (hx : ev st x = some (.own id es xs)) (htip : look st (.tip id) = some vt) (hy : ev st y = some v) (ha : asList v = some (es, ys))
    (hp : apk P t tx = some (e, es, nb)) (hroom : (xs.length + ys.length) * nb ≤ 140737488355328) (hbig : xs.length + ys.length ≤ 9223372036854775807) (hone0 : ((flat ys).all fun q => (V.d q).one) = true) (hne : id ≠ id') (hd : d < E.N) :
    FOk P E ⟨some d, .call ⟨.builtin .append, #[x, y], #[t, tx]⟩, ty, pos, af, g⟩ st (evL x ++ (evL y ++ [.tip id])) [id'] [(.slot d, some (.own id' es (xs ++ ys))), (.tip id', some (.ptr id' 0)), (.tip id, none)] := by
  intro Q K st' hL hfr hK G a w s
  have hu := hfr id' (by simp)
  have hone : ∀ q ∈ flat ys, (V.d q).one = true := fun q hq => List.all_eq_true.1 hone0 q hq
  obtain ⟨ht, ⟨e', htx⟩, i, z, hi, hz, hzs, his, hib, hes⟩ := apk_spec hp
  have hvx := s.ev ((ev_same hL fun l h => mem_l h).trans hx)
  have hvy := relV_list (s.ev ((ev_same hL fun l h => mem_r (mem_l h)).trans hy)) ha
  have htip' : look st' (.tip id) = some vt := (hL _ (mem_r (mem_r (by simp)))).trans htip
  obtain ⟨us, hsrc, hrus, hlus, hcells⟩ := src_of (tx := tx) s htx hvy hone
  subst his
  have hu1 : St.unused id' ((Loc.tip id, none) :: st') = true := by
    show (((!(id == id')) && true) && St.unused id' st') = true
    rw [hu, show (id == id') = false from by simpa using hne]; rfl
  have tidy : ∀ {G' : Gh} {w' : World}, Sim E ((.tip id', some (.ptr id' 0)) :: dull id' ((Loc.tip id, none) :: st')) G' a w' → Sim E ((.tip id', some (.ptr id' 0)) :: (Loc.tip id, none) :: st') G' a w' := fun h => h.same fun q => by
    by_cases hq : Loc.tip id' = q
    · rw [← hq, look_same, look_same]
    · rw [look_ne _ _ hq, look_ne _ _ hq, look_dull_unused hu1]
  suffices hh : ∃ u w' G', (Builtin.append_ #[t, tx] ty #[a.eval x, a.eval y]).run P w = .ok u w' ∧ Sim E ((.tip id', some (.ptr id' 0)) :: (Loc.tip id, none) :: st') G' a w' ∧ RelV G' (.own id' i.size (xs ++ ys)) u by
    obtain ⟨u, w', G', h1, h2, h3⟩ := hh
    show Oper.upon P _ a _ Q ((execOp a.eval _).run P w)
    have hrun : (execOp a.eval (⟨some d, .call ⟨.builtin .append, #[x, y], #[t, tx]⟩, ty, pos, af, g⟩ : Oper)).run P w = .ok (.value u) w' := by
      simp [execOp, resolve, invoke, builtin, h1]
    rw [hrun]
    exact hK _ _ _ (h2.put hd h3)
  -- a new row for both
  have grow : ∀ (base : Option Addr) (cap : Nat) (olds : List Value), a.eval x = .slice base xs.length cap → (Builtin.firstCells i.size xs.length (.slice base xs.length cap)).run P w.drew = .ok olds.toArray w.drew → RelL G.S (flat xs) olds → olds.length = xs.length * i.size →
      (∀ q ∈ xs, q.cells.length = i.size) → cap < xs.length + ys.length → ∃ u w' G', (Builtin.append_ #[t, tx] ty #[a.eval x, a.eval y]).run P w = .ok u w' ∧ Sim E ((.tip id', some (.ptr id' 0)) :: (Loc.tip id, none) :: st') G' a w' ∧ RelV G' (.own id' i.size (xs ++ ys)) u := by
    intro base cap olds hex hold hro hlo hcx hlt
    have hr := run_append_grow_src (P := P) w t tx ty e i z ht hi hz base xs.length cap olds hold (a.eval y) ys.length us hsrc hlt (by omega) (growslice_fits hlt (by rw [hib]; exact hroom))
    have hge := grownCap_ge w (xs.length + ys.length) cap e
    have hb : Below w.heap.size w w.drew := ⟨rfl, rfl, rfl, Nat.le_refl _, fun _ _ => rfl⟩
    have s1 := s.later0 hb
    have hlen : (olds ++ us).length = (xs.length + ys.length) * i.size := by rw [List.length_append, hlo, hlus, Nat.add_mul]
    generalize hcs : (olds ++ us).toArray ++ Builtin.zeroCells z.cells (grownCap w (xs.length + ys.length) cap e - (xs.length + ys.length)) = cs at hr
    have hsize : cs.size = grownCap w (xs.length + ys.length) cap e * i.size := by
      rw [← hcs, Array.size_append, List.size_toArray, hlen, size_zeroCells, hzs, ← Nat.add_mul]
      congr 1
      omega
    have hn : (xs.length + ys.length) * i.size ≤ cs.size := by rw [hsize]; exact Nat.mul_le_mul_right _ hge
    have s2 := (s1.row ((xs.length + ys.length) * i.size) cs e (0, 0) hn).dropTip id
    have hget : ∀ k u, (olds ++ us)[k]? = some u → cs[k]? = some u := fun k u hk => by
      rw [← hcs, Array.getElem?_append_left (by rw [List.size_toArray]; exact (List.getElem?_eq_some_iff.1 hk).1), List.getElem?_toArray]; exact hk
    have s3 := s2.retip (id := id') (b := w.heap.size) (n := (xs.length + ys.length) * i.size) (z := cs.size) (k := true) (fun _ => by
      refine ⟨.inl s.size, ⟨cs, e, by show (w.heap.push _)[w.heap.size]? = _; rw [Array.getElem?_push, if_pos rfl], Nat.le_refl _⟩, fun o ho => ?_, fun j hj hc => ?_, fun j hj hl hk hc => ?_⟩
      · show Stab.row _ _ _ _ _ _ = none
        unfold Stab.row
        rw [if_pos (show w.heap.size = w.drew.heap.size from rfl), if_neg (by omega)]
      · rw [look_ne _ _ (by simp)] at hj
        have := (s.boxes j hj).2.1
        have hc' : G.μ j = w.heap.size := hc
        omega
      · have hl' : look st' (.tip j) ≠ none := by
          rw [look_cons] at hl
          split at hl
          · exact absurd rfl hl
          · exact hl
        obtain ⟨_, ⟨cs', ty', q2, _⟩, _⟩ := s.tips j hl' hk
        have := lt_of_block q2
        have hc' : G.tb j = w.heap.size := hc
        omega)
    refine ⟨_, _, _, (by rw [hex]; exact hr), tidy s3, .inr ⟨by simp [upd], 0, grownCap w (xs.length + ys.length) cap e, ?_, ?_, ?_, ?_, ?_⟩⟩
    · simp [upd, List.length_append]
    · rw [List.length_append]; exact hge
    · show RelE (Stab.row G.S w.heap.size _ cs) i.size (xs ++ ys) ((upd G.tb id' w.heap.size) id') 0
      simp only [upd, if_true]
      refine relE_of (fun q hq => (List.mem_append.1 hq).elim (hcx q) (hcells q)) ?_
      rw [flat_append]
      have hle := s1.row_le ((xs.length + ys.length) * i.size) cs
      refine relP_of (RelL.mono hle (relL_append hro hrus)) fun k u hk => ?_
      rw [Nat.zero_add]
      show Stab.row _ w.heap.size _ cs w.heap.size k = some u
      rw [row_get (by rw [← hlen]; exact (List.getElem?_eq_some_iff.1 hk).1)]
      exact hget k u hk
    · simp [upd, List.length_append]
    · simp [upd, hsize]
  rcases hvx with ⟨hk, rfl, hu2⟩ | ⟨hk, o, cap, hu2, hcap, he, hte, htz⟩
  · by_cases hz0 : ys.length = 0
    · have hys : ys = [] := List.length_eq_zero_iff.1 hz0
      subst hys
      have hus : us = [] := List.length_eq_zero_iff.1 (by simpa using hlus)
      subst hus
      have s1 := (s.dropTip id).retip (id := id') (b := 0) (n := 0) (z := 0) (k := false) (fun c => by cases c)
      refine ⟨.slice none 0 0, w, _, ?_, tidy s1, .inl ⟨by simp [upd], rfl, rfl⟩⟩
      have h2 := hsrc.cells
      simp only [List.length_nil] at h2
      rw [hu2]
      simp [Builtin.append_, run_underlying ht, run_underlying htx, sizeOf, run_typeInfo w hi, hsrc.len, h2]
    · exact grow none 0 [] hu2 (run_firstCells_none w.drew i.size 0 0 0) .nil (by simp) (by simp) (by simp; omega)
  · obtain ⟨hpx, hlx, hcx⟩ := relE_flat he
    obtain ⟨olds, ho1, ho2, ho3⟩ := relP_vals hpx
    by_cases hr : xs.length + ys.length ≤ cap
    · obtain ⟨t1, ⟨old, oty, t2, t3⟩, t4, t5⟩ := s.tips id (by rw [htip']; simp) hk
      have hfit : G.te id + us.length ≤ G.tz id := by rw [hte, htz, hlus, Nat.add_assoc, ← Nat.add_mul]; exact Nat.add_le_add_left (Nat.mul_le_mul_right _ hr) _
      have s1 := s.extend (us := us) (by rw [htip']; simp) hk t2 (by omega)
      have s2 := s1.retip (id := id') (b := G.tb id) (n := G.te id + us.length) (z := G.tz id) (k := true) (fun _ => by
        refine ⟨t1, ⟨_, oty, heap_setRow_same _ t2, by rw [splice_size (by omega)]; exact t3⟩, fun p hp => ?_, fun j hj => ?_, fun j hj hl hk' hc => ?_⟩
        · show Stab.more _ _ _ _ _ _ = none
          unfold Stab.more
          rw [if_neg (by omega)]; exact t4 p (by omega)
        · rw [look_ne _ _ (by simp)] at hj; exact t5 j hj
        · rw [look_cons] at hl
          split at hl
          · exact absurd rfl hl
          · rename_i hji
            exact hji (by rw [s.tinj j id hl (by rw [htip']; simp) hk' hk hc]))
      have hone' : ∀ u ∈ us, u.oneCell' = true := relL_one hrus hone
      have hst := run_storeCells_at P (G.tb id) (o + xs.length * i.size) oty us 0 old w t2 (by rw [hte] at hfit; omega) hone'
      refine ⟨.slice (some ⟨G.tb id, o, none⟩) (xs.length + ys.length) cap, _, _, ?_, tidy s2, .inr ⟨by simp [upd], o, cap, ?_, ?_, ?_, ?_, ?_⟩⟩
      · have e1 : (Builtin.append_ #[t, tx] ty #[a.eval x, a.eval y]).run P w = .ok (.slice (some ⟨G.tb id, o, none⟩) (xs.length + ys.length) cap) (w.setRow (G.tb id) (splice old (G.te id) us)) := by
          rw [hu2]
          have h2 := hsrc.cells
          simp [Builtin.append_, run_underlying ht, run_underlying htx, sizeOf, run_typeInfo w hi, hsrc.len, hr, h2, add_at, hst, splice, hte]
        exact e1
      · simp [upd, List.length_append]
      · rw [List.length_append]; exact hr
      · show RelE (Stab.more G.S (G.tb id) (G.te id) us) i.size (xs ++ ys) ((upd G.tb id' (G.tb id)) id') o
        simp only [upd, if_true]
        have hle : G.S.le (G.S.more (G.tb id) (G.te id) us) := fun b p v hv => by
          unfold Stab.more
          rw [if_neg]
          · exact hv
          · rintro ⟨rfl, h1, _⟩; rw [t4 p h1] at hv; cases hv
        refine relE_append (RelE.mono hle he) (relE_of hcells (relP_of (RelL.mono hle hrus) fun k u hku => ?_))
        show Stab.more G.S (G.tb id) (G.te id) us (G.tb id) _ = some u
        have hklt := (List.getElem?_eq_some_iff.1 hku).1
        unfold Stab.more
        rw [if_pos ⟨rfl, by omega, by omega⟩, hte, show o + xs.length * i.size + k - (o + xs.length * i.size) = k from by omega]
        exact hku
      · simp [upd, List.length_append, hte, hlus, Nat.add_mul, Nat.add_assoc]
      · simp [upd, htz]
    · refine grow _ cap olds hu2 ?_ ho2 (by rw [ho1, hlx]) hcx (by omega)
      have h3 := run_loadCells_list (P := P) w.drew ⟨G.tb id, o, none⟩ olds (fun j u hj => by rw [add_at]; exact s.stable _ _ _ (ho3 j u hj))
      have h4 : olds.length = xs.length * i.size := by rw [ho1, hlx]
      rw [h4] at h3
      simpa [Builtin.firstCells] using h3
end Go.Ab
