/- Maps whose keys are texts: made, told other keys each time, looked up; functions that hand one back. No program. -/
import Derived.Test.YtbgeejmhkmjfdaaGreatDoorAbRoom
import Derived.MapKept
namespace Go.Ab
open Go Go.RowKit
set_option linter.unusedVariables false
set_option linter.unusedSimpArgs false
variable {P : Program} {E : Env} {st : St} {G : Gh} {a : Act} {w : World} {Q : Exit → Act → World → Prop}
variable {d : Nat} {ty : TypeId} {pos : String} {af : Array Edge} {g : Option (Nat × Bool)} {x y z : Operand}
def findE (k : ByteArray) : List (ByteArray × Value) → Option Value
  | [] => none
  | e :: r => if k == e.1 then some e.2 else findE k r
theorem find_ents (k : ByteArray) : ∀ (es : List (ByteArray × Value)) (b i : Nat), ∃ r, Instr.findNow .string (.string k) (entsOf es b) i = some r ∧ r.map (·.2) = findE k es
  | [], b, i => ⟨none, rfl, rfl⟩
  | e :: es, b, i => by
    obtain ⟨r, h1, h2⟩ := find_ents k es (b + 1) (i + 1)
    cases hk : (k == e.1) with
    | true => exact ⟨some (i, e.2), by simp [entsOf, Instr.findNow, Instr.sameNow, hk], by simp [findE, hk]⟩
    | false => exact ⟨r, by simp [entsOf, Instr.findNow, Instr.sameNow, hk, h1], by simp [findE, hk, h2]⟩
theorem ents_snoc (k : ByteArray) (v : Value) : ∀ (es : List (ByteArray × Value)) (b : Nat), entsOf (es ++ [(k, v)]) b = entsOf es b ++ [{ key := .string k, val := v, born := b + es.length }]
  | [], _ => rfl
  | e :: es, b => by
    rw [List.cons_append, entsOf, entsOf, ents_snoc k v es (b + 1), List.length_cons, show b + 1 + es.length = b + (es.length + 1) from by omega]; rfl
def mpk (P : Program) (t : TypeId) : Option (TypeId × TypeId × Value) :=
  match P.underlying t with
  | some (.map k e) => match P.underlying k, (P.info? e).bind (·.zero) with
    | some .string, some z => some (k, e, z)
    | _, _ => none
  | _ => none
theorem mpk_spec {t k e : TypeId} {z : Value} (h : mpk P t = some (k, e, z)) : P.underlying t = some (.map k e) ∧ P.underlying k = some .string ∧ ∀ w, (zeroValue e).run P w = .ok z w := by
  unfold mpk at h
  split at h
  · rename_i k' e' hu
    split at h
    · rename_i z' h1 h2
      simp only [Option.some.injEq, Prod.mk.injEq] at h
      obtain ⟨rfl, rfl, rfl⟩ := h
      refine ⟨hu, h1, fun w => ?_⟩
      cases hi : P.info? e' with
      | none => simp [hi] at h2
      | some i =>
        simp only [hi, Option.bind_some] at h2
        simp [zeroValue, run_typeInfo w hi, h2]
    · cases h
  · cases h
theorem run_checkKey {k : TypeId} {s : ByteArray} {b : Bool} (h : P.underlying k = some .string) (w : World) : (Instr.checkKey b 10000 k (.string s)).run P w = .ok () w := by
  show (Instr.checkKey b (9999 + 1) k (.string s)).run P w = _
  rw [Instr.checkKey]
  simp only [Sem.run_bind, run_underlying h, Result.andThen_ok, Sem.run_pure]
def aggD : Value → D
  | .agg cs => .agg (cs.toList.map .sc)
  | v => .sc v
theorem relL_scsA {S : Stab} : ∀ l : List Value, RelL S (l.map .sc) l
  | [] => .nil
  | v :: l => .cons (.sc v) (relL_scsA l)
theorem rel_aggD (S : Stab) (v : Value) : Rel S (aggD v) v := by
  cases v with
  | agg cs => exact .agg (relL_scsA cs.toList)
  | _ => exact .sc _
theorem f_makeMap {t : TypeId} (hd : d < E.N) :
    FOk P E ⟨some d, .makeMap t none, ty, pos, af, g⟩ st [] [d] [(.slot d, some (.mapp d)), (.iter d, some (itV (.inr []) 0)), (.box d, some (.ptr d 0))] := by
  intro Q K st' hL hf hK G a w hs
  have hu := hf d (by simp)
  have h1 := hs.allocIter (.inr []) 0 hd hu
  have hr : (execOp a.eval (⟨some d, .makeMap t none, ty, pos, af, g⟩ : Oper)).run P w = .ok (.value (.map (some w.heap.size))) (w.alloc (itO (.inr []) 0)) := by
    simp [execOp, Instr.makeMap, newObj]; rfl
  show Oper.upon P _ a _ Q _
  rw [hr]
  exact hK _ _ _ (h1.put hd (by show _ = _; simp [upd]))
theorem run_mapPut {t k e : TypeId} {r n : Nat} {s : ByteArray} {es : List (ByteArray × Value)} {zr v : Value} (hm : mpk P t = some (k, e, zr)) (hb : w.heap[r]? = some (itO (.inr es) n)) (hn : n = es.length) (hno : findE s es = none) :
    (Instr.mapUpdate t (.map (some r)) (.string s) v).run P w = .ok () (w.putObj r (itO (.inr (es ++ [(s, v)])) (n + 1))) := by
  obtain ⟨h1, h2, _⟩ := mpk_spec hm
  obtain ⟨q, hq1, hq2⟩ := find_ents s es 0 0
  rw [hno] at hq2
  obtain rfl : q = none := by cases q <;> simp at hq2 ⊢
  change w.heap[r]? = some (.map (entsOf es 0).toArray n) at hb
  have hg : (getObj r).run P w = .ok (.map (entsOf es 0).toArray n) w := by simp [getObj, Sem.run, hb]
  have hs : ∀ o, (setObj r o).run P w = .ok () (w.putObj r o) := fun o => by simp [setObj, Sem.run, hb, World.putObj]
  have hf : (Instr.findKey k (.string s) (entsOf es 0)).run P w = .ok none w := by simp [Instr.findKey, run_underlying h2, hq1]
  have hc := run_checkKey (s := s) (b := false) h2 w
  have he : itO (.inr (es ++ [(s, v)])) (n + 1) = .map ((entsOf es 0).toArray.push { key := .string s, val := v, born := n }) (n + 1) := by
    show Obj.map _ _ = _
    rw [ents_snoc, Nat.zero_add, ← hn]
    simp
  rw [he]
  simp [Instr.mapUpdate, run_underlying h1, hg, hc, hf, hs]
theorem sim_mapPut {t k e : TypeId} {id n : Nat} {s : ByteArray} {es : List (ByteArray × Value)} {zr v : Value} {z : Operand} {q : D} (hs : Sim E st G a w) (hm : mpk P t = some (k, e, zr)) (hx : ev st x = some (.mapp id)) (hit : look st (.iter id) = some (itV (.inr es) n)) (hn : n = es.length)
    (hy : ev st y = some (.d (.sc (.string s)))) (hz : ev st z = some (.d q)) (hq : plainV q = some v) (hno : findE s es = none) :
    ∃ w', (Instr.mapUpdate t (a.eval x) (a.eval y) (a.eval z)).run P w = .ok () w' ∧ Sim E ((.iter id, some (itV (.inr (es ++ [(s, v)])) (n + 1))) :: st) G a w' := by
  have e1 : a.eval x = .map (some (G.μ id)) := hs.ev hx
  have e2 := hs.sc hy
  have e3 : a.eval z = v := rel_plain hq (hs.ev hz)
  obtain ⟨_, s0, q0, h1, h2⟩ := hs.iters id _ hit
  obtain ⟨rfl, rfl⟩ := itV_map h1
  rw [e1, e2, e3]
  exact ⟨_, run_mapPut hm h2 hn hno, hs.setIter _ _ hit⟩
theorem f_mapIns {t k e : TypeId} {id n : Nat} {s : ByteArray} {es : List (ByteArray × Value)} {zr v : Value} {z : Operand} {q : D} (hm : mpk P t = some (k, e, zr)) (hx : ev st x = some (.mapp id)) (hit : look st (.iter id) = some (itV (.inr es) n)) (hn : n = es.length)
    (hy : ev st y = some (.d (.sc (.string s)))) (hz : ev st z = some (.d q)) (hq : plainV q = some v) (hno0 : (findE s es).isNone = true) :
    FOk P E ⟨none, .insert t x y z, ty, pos, af, g⟩ st (evL x ++ (evL y ++ (evL z ++ [.iter id]))) [] [(.iter id, some (itV (.inr (es ++ [(s, v)])) (n + 1)))] := by
  have hno : findE s es = none := Option.isNone_iff_eq_none.mp hno0
  intro Q K st' hL _ hK G a w hs
  obtain ⟨w', h1, h2⟩ := sim_mapPut hs hm ((ev_same hL fun l h => mem_l h).trans hx) ((hL (.iter id) (mem_r (mem_r (mem_r (by simp))))).trans hit) hn ((ev_same hL fun l h => mem_r (mem_l h)).trans hy) ((ev_same hL fun l h => mem_r (mem_r (mem_l h))).trans hz) hq hno
  have hr : (execOp a.eval (⟨none, .insert t x y z, ty, pos, af, g⟩ : Oper)).run P w = .ok .skip w' := by simp [execOp, h1]
  show Oper.upon P _ a _ Q _
  rw [hr]
  exact hK _ _ _ h2
theorem f_lookup {t k e : TypeId} {id n : Nat} {s : ByteArray} {es : List (ByteArray × Value)} {zr : Value} {r : D} {ok : Bool} (hm : mpk P t = some (k, e, zr)) (hx : ev st x = some (.mapp id)) (hit : look st (.iter id) = some (itV (.inr es) n))
    (hy : ev st y = some (.d (.sc (.string s)))) (hr : aggD ((findE s es).getD zr) = r) (hok : (findE s es).isSome = ok) (hd : d < E.N) :
    FOk P E ⟨some d, .lookup t x y true, ty, pos, af, g⟩ st (evL x ++ (evL y ++ [.iter id])) [] [(.slot d, some (.d (.tup [r, .sc (.bool ok)])))] :=
  fok_val rfl hd fun st' G a w hL hs => by
    have e1 : a.eval x = .map (some (G.μ id)) := hs.ev ((ev_same hL fun l h => mem_l h).trans hx)
    have e2 := hs.sc ((ev_same hL fun l h => mem_r (mem_l h)).trans hy)
    obtain ⟨_, s0, q0, h1, h2⟩ := hs.iters id _ ((hL (.iter id) (mem_r (mem_r (by simp)))).trans hit)
    obtain ⟨rfl, rfl⟩ := itV_map h1
    change w.heap[G.μ id]? = some (.map (entsOf es 0).toArray n) at h2
    obtain ⟨m1, m2, m3⟩ := mpk_spec hm
    obtain ⟨q, hq1, hq2⟩ := find_ents s es 0 0
    have hg : (getObj (G.μ id)).run P w = .ok (.map (entsOf es 0).toArray n) w := by simp [getObj, Sem.run, h2]
    have hf : (Instr.findKey k (.string s) (entsOf es 0)).run P w = .ok q w := by simp [Instr.findKey, run_underlying m2, hq1]
    have hc : ∀ b, (Instr.checkKey b 10000 k (.string s)).run P w = .ok () w := fun b => run_checkKey m2 w
    subst hr hok
    refine ⟨.tuple ⟨[(findE s es).getD zr, .bool (findE s es).isSome]⟩, ?_, .tup (.cons (rel_aggD _ _) (.cons (.sc _) .nil))⟩
    rw [← hq2]
    cases q with
    | none => simp [execOp, e1, e2, Instr.lookup, run_underlying m1, hg, hc, hf, m3]
    | some p => simp [execOp, e1, e2, Instr.lookup, run_underlying m1, hg, hc, hf]
def PostM (w0 : World) (es : List (ByteArray × Value)) (e : Ending) (w' : World) : Prop :=
  ∃ r, e = .returned (.map (some r)) ∧ w0.heap.size ≤ r ∧ r < w'.heap.size ∧ w'.heap[r]? = some (itO (.inr es) es.length) ∧ Below w0.heap.size w0 w'
def CallsM (P : Program) (Γ : World → Prop) (f : FuncId) (args : List D) (es : List (ByteArray × Value)) : Prop :=
  ∀ (S : Stab) (w : World) (us : List Value), Γ w → (∀ b o v, S b o = some v → w.cell? ⟨b, o, none⟩ = some v) → RelL S args us → Calls P f ⟨us⟩ w (PostM w es)
theorem hits_doneM {fn : Func} {e : Exit} {t0 id : Nat} {es : List (ByteArray × Value)} {n : Nat} (he : e = .ret ∨ e = .normal) (ho : E.outs = []) (hfr : fn.results.toList = [.tmp t0]) (hl : look st (.slot t0) = some (.mapp id)) (hit : look st (.iter id) = some (itV (.inr es) n)) (hn : n = es.length) :
    Hits E st (bodyPost P fn (PostM E.w0 es) e) := by
  intro G a w s
  have hb : Below E.w0.heap.size E.w0 w := by have := s.kw; rw [ho] at this; exact this.toBelow
  have e1 : a.tmps.getD t0 undef = .map (some (G.μ id)) := s.slots t0 _ hl
  obtain ⟨hb0, s0, q0, h1, h2⟩ := s.iters id _ hit
  obtain ⟨rfl, rfl⟩ := itV_map h1
  obtain ⟨b1, b2, _⟩ := s.boxes id hb0
  have hu : (results fn a.tmps).run P w = .ok (.map (some (G.μ id))) w := by
    rw [results_eq, Array.mapM_eq_mapM_toList, hfr]
    have : a.tmps[t0]?.getD undef = .map (some (G.μ id)) := by rw [← Array.getD_eq_getD_getElem?]; exact e1
    simp [resS, this]
  have key : PostM E.w0 es (.returned (.map (some (G.μ id)))) w := ⟨_, rfl, b1.elim (fun q => q) (fun q => by rw [ho] at q; cases q), b2, by rw [← hn]; exact h2, hb⟩
  rcases he with rfl | rfl
  · exact ⟨s.defers, _, hu, key⟩
  · exact ⟨s.defers, _, hu, key⟩
theorem sq_callM {ops : Array Oper} {l : List Oper} {f : FuncId} {xs : List Operand} {ats : Array TypeId} {ds : List D} {es : List (ByteArray × Value)} (hen : enters P f = true) (ha : evs st xs = some ds) (hc : CallsM P E.Γ f ds es) (hfree : st.unused d = true) (hd : d < E.N)
    (h : Hits E ((.slot d, some (.mapp d)) :: (.iter d, some (itV (.inr es) es.length)) :: (.box d, some (.ptr d 0)) :: st) (wpList P ops Q l)) :
    Hits E st (wpList P ops Q (⟨some d, .call ⟨.value (.func f), xs.toArray, ats⟩, ty, pos, af, none⟩ :: l)) := by
  intro G a w s
  unfold wpList
  rw [if_pos (by simp [Region.wanted])]
  refine .inl ?_
  show Oper.upon P _ a _ Q ((execOp a.eval _).run P w)
  have hrun : (execOp a.eval (⟨some d, .call ⟨.value (.func f), xs.toArray, ats⟩, ty, pos, af, none⟩ : Oper)).run P w = .ok (.enter f ⟨xs.map a.eval⟩) w := by
    have ef : a.eval (.func f) = .func (.func f) #[] #[] := rfl
    simp [execOp, resolve, ef, Deferred.ofValue, invoke, run_callFunc hen]
  rw [hrun]
  refine (hc G.S w (xs.map a.eval) (E.stab w s.kw) s.stable (s.evs ha)).mono ?_
  rintro e w' ⟨r, rfl, h1, h2, h3, h4⟩
  exact h _ _ _ ((s.adopt (.inr es) es.length hd hfree h4 h1 h2 h3).put hd (by show _ = _; simp [upd]))
end Go.Ab
