/- Ranging over a string: the iterator. No program. -/
import Derived.Test.YtbgeejmhkmjfdaaGreatDoorAbBox
import Derived.RangeFuncRecord
namespace Go.Ab
open Go Go.RowKit
set_option linter.unusedVariables false
set_option linter.unusedSimpArgs false
variable {P : Program} {E : Env} {st : St} {G : Gh} {a : Act} {w : World} {Q : Exit → Act → World → Prop} {d : Nat} {ty : TypeId} {pos : String} {af : Array Edge} {g : Option (Nat × Bool)} {x y : Operand}
theorem Sim.adopt {id r : Nat} {w' : World} (sx : OS) (n : Nat) (h : Sim E st G a w) (hid : id < E.N) (hu : st.unused id = true) (hbl : Below w.heap.size w w') (hr0 : w.heap.size ≤ r) (hr1 : r < w'.heap.size) (hob : w'.heap[r]? = some (itO sx n)) :
    Sim E ((.iter id, some (itV sx n)) :: (.box id, some (.ptr id 0)) :: st) { G with μ := upd G.μ id r } a w' := by
  have hx := ext_upd G id r
  have self : (upd G.μ id r) id = r := by simp [upd]
  have oth : ∀ i, i ≠ id → (upd G.μ id r) i = G.μ i := fun i hi => by simp [upd, hi]
  have es : ∀ t, look ((Loc.iter id, some (itV sx n)) :: (Loc.box id, some (V.ptr id 0)) :: st) (.slot t) = look st (.slot t) := fun t => by rw [look_ne _ _ (by simp), look_ne _ _ (by simp)]
  have et : ∀ t, look ((Loc.iter id, some (itV sx n)) :: (Loc.box id, some (V.ptr id 0)) :: st) (.tip t) = look st (.tip t) := fun t => by rw [look_ne _ _ (by simp), look_ne _ _ (by simp)]
  have ec : ∀ i o, look ((Loc.iter id, some (itV sx n)) :: (Loc.box id, some (V.ptr id 0)) :: st) (.cell i o) = look st (.cell i o) := fun i o => by rw [look_ne _ _ (by simp), look_ne _ _ (by simp)]
  have eb : ∀ i, i ≠ id → look ((Loc.iter id, some (itV sx n)) :: (Loc.box id, some (V.ptr id 0)) :: st) (.box i) = look st (.box i) := fun i hi => by rw [look_ne _ _ (by simp), look_ne _ _ (by simp; exact fun c => hi c.symm)]
  have inB : ∀ i, i ≠ id → look ((Loc.iter id, some (itV sx n)) :: (Loc.box id, some (V.ptr id 0)) :: st) (.box i) ≠ none → look st (.box i) ≠ none := fun i hi hl => by rw [eb i hi] at hl; exact hl
  refine ⟨h.kw.below hbl, h.s0, h.snew, h.tmps, h.defers, fun t v hl => ?_, fun i o v hl => ?_, fun i hi => ?_, fun i j hi hj => ?_, fun b o v hv => ?_, fun i hi ht => ?_, fun i j hi hj => ?_, fun p hp => ?_, fun i qv l hl hcl ht => ?_, fun i v hl => ?_, fun k v hl => (h.olds k v (by rw [look_ne _ _ (by simp), look_ne _ _ (by simp)] at hl; exact hl)).ext hx (unused_old hu (by rw [look_ne _ _ (by simp), look_ne _ _ (by simp)] at hl; exact hl))⟩
  · rw [es] at hl; exact (h.slots t v hl).ext hx (unused_slot hu hl)
  · rw [ec] at hl
    obtain ⟨hx1, cs', ty', cv, h1, h2, h3⟩ := h.cells i o v hl
    have hi := (unused_cell hu hl).2
    refine ⟨by rw [eb i hi]; exact hx1, cs', ty', cv, ?_, h2, h3.ext hx (unused_cell hu hl).1⟩
    show w'.heap[(upd G.μ id r) i]? = _
    rw [oth i hi]
    exact (hbl.block _ (lt_of_block h1)).trans h1
  · by_cases hi' : i = id
    · subst hi'
      refine ⟨.inl ?_, ?_, fun o => ?_⟩
      · show E.w0.heap.size ≤ (upd G.μ i r) i
        rw [self]; exact Nat.le_trans h.size hr0
      · show (upd G.μ i r) i < w'.heap.size
        rw [self]; exact hr1
      · show G.S ((upd G.μ i r) i) o = none
        rw [self]
        cases hv : G.S r o with
        | none => rfl
        | some v => exact absurd (lt_of_cell (h.stable _ _ _ hv)) (by omega)
    · obtain ⟨h1, h2, h3⟩ := h.boxes i (inB i hi' hi)
      show (_ ≤ (upd G.μ id r) i ∨ (upd G.μ id r) i ∈ E.outs) ∧ (upd G.μ id r) i < w'.heap.size ∧ ∀ o, G.S ((upd G.μ id r) i) o = none
      rw [oth i hi']
      exact ⟨h1, Nat.lt_of_lt_of_le h2 hbl.size, h3⟩
  · have hj' : ∀ k, k ≠ id → look ((Loc.iter id, some (itV sx n)) :: (Loc.box id, some (V.ptr id 0)) :: st) (.box k) ≠ none → G.μ k < w.heap.size := fun k hk hl => (h.boxes k (inB k hk hl)).2.1
    show (upd G.μ id r) i = (upd G.μ id r) j → i = j
    by_cases hi' : i = id <;> by_cases hjj : j = id
    · intro _; rw [hi', hjj]
    · subst hi'; rw [self, oth j hjj]; intro c; have := hj' j hjj hj; omega
    · subst hjj; rw [self, oth i hi']; intro c; have := hj' i hi' hi; omega
    · rw [oth i hi', oth j hjj]; exact h.inj i j (inB i hi' hi) (inB j hjj hj)
  · have h2 := h.stable b o v hv
    rw [← h2]
    exact hbl.cell (lt_of_cell h2)
  · rw [et] at hi
    obtain ⟨h1, ⟨cs', ty', h2, h3⟩, h4, h5⟩ := h.tips i hi ht
    have hlt := lt_of_block h2
    refine ⟨h1, ⟨cs', ty', (hbl.block _ hlt).trans h2, h3⟩, h4, fun j hj => ?_⟩
    show (upd G.μ id r) j ≠ G.tb i
    by_cases hjj : j = id
    · subst hjj; rw [self]; omega
    · rw [oth j hjj]; exact h5 j (inB j hjj hj)
  · rw [et] at hi hj; exact h.tinj i j hi hj
  · have hn := (h.rcv p hp).1
    have hne : p.1 ≠ id := by omega
    refine ⟨hn, fun hi => ?_⟩
    show (upd G.μ id r) p.1 = p.2
    rw [oth p.1 hne]
    exact (h.rcv p hp).2 (inB p.1 hne hi)
  · rw [et] at hl
    obtain ⟨q1, o, us, cs', ty', q2, q3, q4, q5, q6⟩ := h.conts i qv l hl hcl ht
    have hff : V.frees id l = true := free_contL (unused_tip hu hl) hcl
    exact ⟨q1, o, us, cs', ty', (hbl.block _ (lt_of_block q2)).trans q2, q3, q4, q5.ext hx hff, q6⟩
  · by_cases hi' : i = id
    · subst hi'
      rw [look_same] at hl
      obtain rfl := Option.some.inj hl
      refine ⟨by rw [look_ne _ _ (by simp), look_same]; simp, sx, n, rfl, ?_⟩
      show w'.heap[(upd G.μ i r) i]? = _
      rw [self]; exact hob
    · rw [look_ne _ _ (by simp; exact fun c => hi' c.symm), look_ne _ _ (by simp)] at hl
      obtain ⟨q1, s, p, q2, q3⟩ := h.iters i v hl
      refine ⟨by rw [eb i hi']; exact q1, s, p, q2, ?_⟩
      show w'.heap[(upd G.μ id r) i]? = _
      rw [oth i hi']
      exact (hbl.block _ (lt_of_block q3)).trans q3
theorem Sim.allocIter {id : Nat} (sx : OS) (n : Nat) (h : Sim E st G a w) (hid : id < E.N) (hu : st.unused id = true) :
    Sim E ((.iter id, some (itV sx n)) :: (.box id, some (.ptr id 0)) :: st) { G with μ := upd G.μ id w.heap.size } a (w.alloc (itO sx n)) :=
  h.adopt sx n hid hu ((Below.refl _ _).alloc (Nat.le_refl _) _) (Nat.le_refl _) (by show _ < (w.heap.push _).size; rw [Array.size_push]; omega) (by show (w.heap.push _)[w.heap.size]? = _; rw [Array.getElem?_push, if_pos rfl])
theorem f_range {t : TypeId} {sx : ByteArray} (hx : ev st x = some (.d (.sc (.string sx)))) (ht : P.underlying t = some .string) (hd : d < E.N) :
    FOk P E ⟨some d, .range t x, ty, pos, af, g⟩ st (evL x) [d] [(.slot d, some (.ptr d 0)), (.iter d, some (itV (.inl sx) 0)), (.box d, some (.ptr d 0))] := by
  intro Q K st' hL hf hK G a w hs
  have hu := hf d (by simp)
  have e1 := hs.sc ((ev_same hL fun l h => h).trans hx)
  have hr : (execOp a.eval (⟨some d, .range t x, ty, pos, af, g⟩ : Oper)).run P w = .ok (.value (.pointer (some ⟨w.heap.size, 0, none⟩))) (w.alloc (.stringIter sx 0)) := by
    simp [execOp, e1, Instr.range, run_underlying ht]
  show Oper.upon P _ a K Q ((execOp a.eval _).run P w)
  rw [hr]
  have h1 := hs.allocIter (.inl sx) 0 hd hu
  exact hK _ _ _ (h1.put (d := d) (v := .ptr d 0) (u := .pointer (some ⟨w.heap.size, 0, none⟩)) hd (by show _ = _; simp [upd]))
theorem f_nextEnd {id p : Nat} {sx : ByteArray} (hx : ev st x = some (.ptr id 0)) (hit : look st (.iter id) = some (itV (.inl sx) p)) (hp : sx.size ≤ p) (hd : d < E.N) :
    FOk P E ⟨some d, .next x true, ty, pos, af, g⟩ st (evL x ++ [.iter id]) [] [(.slot d, some (.d (.tup [.sc (.bool false)])))] :=
  fok_val rfl hd fun st' G a w hL hs => by
    have e1 : a.eval x = .pointer (some ⟨G.μ id, 0, none⟩) := hs.ev ((ev_same hL fun l h => mem_l h).trans hx)
    have hit' : look st' (.iter id) = some (itV (.inl sx) p) := (hL _ (by simp)).trans hit
    obtain ⟨_, s, q, h1, h2⟩ := hs.iters id _ hit'
    obtain ⟨rfl, rfl⟩ := itV_str h1
    change w.heap[G.μ id]? = some (.stringIter sx p) at h2
    refine ⟨.tuple #[.bool false], ?_, .tup (.cons (.sc _) .nil)⟩
    have e2 : (getObj (G.μ id)).run P w = .ok (.stringIter sx p) w := by simp [getObj, Sem.run, h2]
    simp [execOp, e1, Instr.next, e2, show ¬ p < sx.size from by omega]
theorem putObj_same {w : World} {r : Nat} {o o' : Obj} (h : w.heap[r]? = some o) : (w.putObj r o').heap[r]? = some o' := by
  have hlt := lt_of_block h
  simp [World.putObj, hlt]
theorem putObj_ne {w : World} {r k : Nat} {o' : Obj} (h : k ≠ r) : (w.putObj r o').heap[k]? = w.heap[k]? := by
  simp [World.putObj, Array.getElem?_setIfInBounds_ne (Ne.symm h)]
theorem putObj_size {w : World} {r : Nat} {o' : Obj} : (w.putObj r o').heap.size = w.heap.size := by simp [World.putObj]
theorem Sim.setIter {id p : Nat} {sx : OS} (sy : OS) (p' : Nat) (h : Sim E st G a w) (hit : look st (.iter id) = some (itV sx p)) :
    Sim E ((.iter id, some (itV sy p')) :: st) G a (w.putObj (G.μ id) (itO sy p')) := by
  obtain ⟨hb, s0, q0, _, hold⟩ := h.iters id _ hit
  obtain ⟨hb1, hb2, hb3⟩ := h.boxes id hb
  have el : ∀ l, l ≠ .iter id → look ((Loc.iter id, some (itV sy p')) :: st) l = look st l := fun l hl => look_ne _ _ (fun c => hl c.symm)
  refine ⟨⟨h.kw.os, h.kw.tape, h.kw.output, by rw [putObj_size]; exact h.size, fun k hk ho => ?_⟩, h.s0, h.snew, h.tmps, h.defers, fun t v hl => ?_, fun i o v hl => ?_, fun i hi => ?_, fun i j hi hj => ?_, fun b o v hS => ?_, fun i hi ht => ?_, fun i j hi hj => ?_, fun p hp => ?_, fun i qv l hl hcl ht => ?_, fun i v hl => ?_, fun k v hl => h.olds k v (by rw [el _ (by simp)] at hl; exact hl)⟩
  · rw [putObj_ne (by rintro rfl; rcases hb1 with h1 | h1; omega; exact ho h1)]; exact h.kw.frame k hk ho
  · rw [el _ (by simp)] at hl; exact h.slots t v hl
  · rw [el _ (by simp)] at hl
    obtain ⟨hx, cs, ty', cv, h1, h2, h3⟩ := h.cells i o v hl
    refine ⟨by rw [el _ (by simp)]; exact hx, cs, ty', cv, ?_, h2, h3⟩
    rw [putObj_ne (fun c => by rw [c, hold] at h1; exact (itO_ne h1).elim)]; exact h1
  · rw [el _ (by simp)] at hi
    obtain ⟨h1, h2, h3⟩ := h.boxes i hi
    exact ⟨h1, by rw [putObj_size]; exact h2, h3⟩
  · rw [el _ (by simp)] at hi hj; exact h.inj i j hi hj
  · have h2 := h.stable b o v hS
    obtain ⟨cs, ty2, fz, q3, q4⟩ := block_of_cell h2
    rw [← putObj_ne (w := w) (o' := itO sy p') (show b ≠ G.μ id from fun c => by rw [c, hold] at q3; exact (itO_ne q3).elim)] at q3
    rw [cell_of_block q3]; exact q4
  · rw [el _ (by simp)] at hi
    obtain ⟨h1, ⟨cs, ty', h2, h3⟩, h4, h5⟩ := h.tips i hi ht
    exact ⟨h1, ⟨cs, ty', by rw [putObj_ne (fun c => h5 id hb c.symm)]; exact h2, h3⟩, h4, fun j hj => h5 j (by rw [el _ (by simp)] at hj; exact hj)⟩
  · rw [el _ (by simp)] at hi hj; exact h.tinj i j hi hj
  · exact ⟨(h.rcv p hp).1, fun hi => (h.rcv p hp).2 (by rw [el _ (by simp)] at hi; exact hi)⟩
  · rw [el _ (by simp)] at hl
    obtain ⟨q1, o, us, cs', ty', q2, q3, q4, q5, q6⟩ := h.conts i qv l hl hcl ht
    obtain ⟨_, _, _, h5⟩ := h.tips i (by rw [hl]; simp) ht
    exact ⟨q1, o, us, cs', ty', by rw [putObj_ne (fun c => h5 id hb c.symm)]; exact q2, q3, q4, q5, q6⟩
  · by_cases hi' : i = id
    · subst hi'
      rw [look_same] at hl
      obtain rfl := Option.some.inj hl
      exact ⟨by rw [el _ (by simp)]; exact hb, sy, p', rfl, putObj_same hold⟩
    · rw [el _ (by simp; exact hi')] at hl
      obtain ⟨q1, s, q, q2, q3⟩ := h.iters i v hl
      exact ⟨by rw [el _ (by simp)]; exact q1, s, q, q2, by rw [putObj_ne (fun c => hi' (h.inj i id q1 hb c))]; exact q3⟩
theorem f_nextMore {id p c : Nat} {sx : ByteArray} (hx : ev st x = some (.ptr id 0)) (hit : look st (.iter id) = some (itV (.inl sx) p)) (hp : p < sx.size) (hc : Utf8.decode sx p = (c, 1)) (hd : d < E.N) :
    FOk P E ⟨some d, .next x true, ty, pos, af, g⟩ st (evL x ++ [.iter id]) [] [(.slot d, some (.d (.tup [.sc (.bool true), .sc (.int .i64 (p : Int)), .sc (.int .i32 (c : Int))]))), (.iter id, some (itV (.inl sx) (p + 1)))] := by
  intro Q K st' hL hf hK G a w hs
  have e1 : a.eval x = .pointer (some ⟨G.μ id, 0, none⟩) := hs.ev ((ev_same hL fun l h => mem_l h).trans hx)
  have hit' : look st' (.iter id) = some (itV (.inl sx) p) := (hL _ (by simp)).trans hit
  obtain ⟨_, s, q, h1, h2⟩ := hs.iters id _ hit'
  obtain ⟨rfl, rfl⟩ := itV_str h1
  change w.heap[G.μ id]? = some (.stringIter sx p) at h2
  have e2 : (getObj (G.μ id)).run P w = .ok (.stringIter sx p) w := by simp [getObj, Sem.run, h2]
  have e3 : (setObj (G.μ id) (.stringIter sx (p + 1))).run P w = .ok () (w.putObj (G.μ id) (.stringIter sx (p + 1))) := by simp [setObj, Sem.run, h2, World.putObj]
  have hr : (execOp a.eval (⟨some d, .next x true, ty, pos, af, g⟩ : Oper)).run P w = .ok (.value (.tuple #[.bool true, .int .i64 (p : Int), .int .i32 (c : Int)])) (w.putObj (G.μ id) (.stringIter sx (p + 1))) := by
    simp [execOp, e1, Instr.next, e2, hp, hc, e3, goInt]
  show Oper.upon P _ a K Q ((execOp a.eval _).run P w)
  rw [hr]
  exact hK _ _ _ ((hs.setIter (.inl sx) (p + 1) hit').put hd (.tup (.cons (.sc _) (.cons (.sc _) (.cons (.sc _) .nil)))))
end Go.Ab
