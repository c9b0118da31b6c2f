/- Closures over variables that stay as they are, told as data; functions that reach the parser through such a variable. No program. -/
import Derived.Test.YtbgeejmhkmjfdaaGreatDoorAbPan
namespace Go.Ab
open Go Go.RowKit
set_option linter.unusedVariables false
set_option linter.unusedSimpArgs false
variable {P : Program} {E : Env} {st : St} {G : Gh} {a : Act} {w : World} {Q : Exit → Act → World → Prop}
variable {d : Nat} {ty : TypeId} {pos : String} {af : Array Edge} {g : Option (Nat × Bool)} {x y z : Operand}
def CallsW (P : Program) (Γ : World → Prop) (pv : Value) (f : FuncId) (ins : List D) (args : Nat → List D) (o : Oc) : Prop :=
  o ≠ .any → ∀ (S : Stab) (w : World) (b : Nat) (us : List Value), (∀ w', KW w [b] w' → Γ w') → (∀ b o v, S b o = some v → w.cell? ⟨b, o, none⟩ = some v) → (∀ o, S b o = none) → RelL S (args b) us →
    (∃ cs ty, w.heap[b]? = some (.cells cs ty (0, 0)) ∧ Cells S ins cs) →
    Calls P f ⟨us⟩ w fun e w' => EndsX pv S w b e w' o
def cloRows (ins args : List D) : St := (.box 1000000, some (.ptr 1000000 0)) :: (cellRows 1000000 0 (ins.map .d) ++ argRows 0 args)
theorem look_clo_box {ins args : List D} (i : Nat) : look (cloRows ins args) (.box i) = if i = 1000000 then some (.ptr 1000000 0) else none := by
  unfold cloRows
  rw [look_cons]
  by_cases h : i = 1000000
  · subst h; simp
  · rw [if_neg (by simp; exact fun c => h c.symm), if_neg h, look_cellRows_ne _ (fun o => by simp), look_argRows_ne args 0 _ (by simp)]
theorem callsW_at {Γ : World → Prop} {f : FuncId} {fn : Func} {c : Code} {ins args : List D} {R : World → Stab → Nat → Ending → World → Prop} {n : Nat} (hf : P.funcs[f]? = some fn) (hb : fn.body = some c) (hn : fn.ntmps = n) (hl : Nat.ble args.length n = true) (hbig : Nat.ble n 1000000 = true)
    (S : Stab) (w : World) (b : Nat) (us : List Value) (hΓ : ∀ w', KW w [b] w' → Γ w') (hS : ∀ b o v, S b o = some v → w.cell? ⟨b, o, none⟩ = some v) (hSb : ∀ o, S b o = none) (hr : RelL S args us)
    (hc : ∃ cs ty, w.heap[b]? = some (.cells cs ty (0, 0)) ∧ Cells S ins cs)
    (h1 : Hits ⟨w, [b], [(1000000, b)], S, n, Γ, hΓ, #[]⟩ (cloRows ins args) (c.wp P (bodyPost P fn (R w S b)))) : Calls P f ⟨us⟩ w (R w S b) := by
  obtain ⟨cs0, ty0, hcs, hcells⟩ := hc
  let E : Env := ⟨w, [b], [(1000000, b)], S, n, Γ, hΓ, #[]⟩
  have hlen := relL_length hr
  have hle : args.length ≤ n := Nat.le_of_ble_eq_true hl
  have hs : Sim E (cloRows ins args) ⟨S, fun _ => b, fun _ => 0, fun _ => false, fun _ => 0, fun _ => 0⟩ { tmps := (⟨us⟩ : Array Value) ++ Array.replicate (fn.ntmps - (⟨us⟩ : Array Value).size) undef, defers := [] } w := by
    have nt : ∀ i, look (cloRows ins args) (.tip i) = none := fun i => by
      unfold cloRows
      rw [look_ne _ _ (by simp), look_cellRows_ne _ (fun o => by simp), look_argRows_ne args 0 _ (by simp)]
    have only : ∀ i, look (cloRows ins args) (.box i) ≠ none → i = 1000000 := fun i hi => by
      rw [look_clo_box] at hi
      by_cases h : i = 1000000
      · exact h
      · rw [if_neg h] at hi; exact absurd rfl hi
    refine ⟨⟨rfl, rfl, rfl, Nat.le_refl _, fun _ _ _ => rfl⟩, Stab.le.refl _, fun _ _ _ e => .inl e, ?_, rfl, fun t v hv => ?_, fun i o v hv => ?_, fun i hi => ?_, fun i j hi hj _ => (only i hi).trans (only j hj).symm, hS, fun i hi => absurd (nt i) hi, fun i j hi => absurd (nt i) hi, fun p hp => ?_, fun i qv l hl _ _ => (by rw [nt i] at hl; cases hl), fun i v hl => (by
      unfold cloRows at hl
      rw [look_ne _ _ (by simp), look_cellRows_ne _ (fun o => by simp), look_argRows_ne args 0 _ (by simp)] at hl
      cases hl), fun k v hl => (by
      unfold cloRows at hl
      rw [look_ne _ _ (by simp), look_cellRows_ne _ (fun o => by simp), look_argRows_ne args 0 _ (by simp)] at hl
      cases hl)⟩
    · show _ = n
      simp [hn]; omega
    · unfold cloRows at hv
      rw [look_ne _ _ (by simp), look_cellRows_ne _ (fun o => by simp), look_argRows, if_pos (Nat.zero_le _)] at hv
      simp only [Option.map_eq_some_iff, Nat.sub_zero] at hv
      obtain ⟨x, hx, rfl⟩ := hv
      obtain ⟨u, hu, hrel⟩ := relL_getElem hr hx
      show Rel S x _
      have e : ((⟨us⟩ : Array Value) ++ Array.replicate (fn.ntmps - (⟨us⟩ : Array Value).size) undef).getD t undef = u := by
        have ht : t < us.length := (List.getElem?_eq_some_iff.1 hu).1
        rw [Array.getD_eq_getD_getElem?, Array.getElem?_append_left (by simpa using ht)]
        simp [hu]
      rw [e]; exact hrel
    · unfold cloRows at hv
      rw [look_ne _ _ (by simp)] at hv
      by_cases hi : i = 1000000
      · subst hi
        rw [look_cellRows] at hv
        split at hv
        · rw [Nat.sub_zero, List.getElem?_map] at hv
          cases hq : ins[o]? with
          | none => rw [hq] at hv; cases hv
          | some q =>
            rw [hq] at hv
            obtain rfl := Option.some.inj hv
            obtain ⟨cv, q1, q2⟩ := hcells o q hq
            exact ⟨by rw [look_clo_box]; simp, cs0, ty0, cv, hcs, q1, q2⟩
        · rw [look_argRows_ne args 0 _ (by simp)] at hv; cases hv
      · rw [look_cellRows_ne _ (fun o' => by simp; intro c; exact absurd c hi), look_argRows_ne args 0 _ (by simp)] at hv; cases hv
    · exact ⟨.inr (by simp [E]), lt_of_block hcs, hSb⟩
    · obtain rfl := List.mem_singleton.mp hp
      exact ⟨Nat.le_of_ble_eq_true hbig, fun _ => rfl⟩
  exact calls_of_wp hf hb (h1 _ _ _ hs)
theorem callsW_of {Γ : World → Prop} {pv : Value} {f : FuncId} {fn : Func} {c : Code} {ins : List D} {args : Nat → List D} {o : Oc} {n m : Nat} (hf : P.funcs[f]? = some fn) (hb : fn.body = some c) (hn : fn.ntmps = n) (hm : ∀ b, (args b).length = m) (hl : Nat.ble m n = true) (hbig : Nat.ble n 1000000 = true)
    (h : o ≠ .any → ∀ (w0 : World) (S0 : Stab) (b : Nat) (stab : ∀ w, KW w0 [b] w → Γ w), Hits ⟨w0, [b], [(1000000, b)], S0, n, Γ, stab, #[]⟩ (cloRows ins (args b)) (c.wp P (bodyPost P fn fun e w' => EndsX pv S0 w0 b e w' o))) : CallsW P Γ pv f ins args o := by
  intro ho S w b us hΓ hS hSb hr hc
  exact callsW_at (R := fun w0 S0 b e w' => EndsX pv S0 w0 b e w' o) hf hb hn (by rw [hm]; exact hl) hbig S w b us hΓ hS hSb hr hc (h ho w S b hΓ)
theorem hits_ptrOf {K : Act → World → Prop} (t : Nat) {b : Nat} (hl : look st (.slot t) = some (.d (.sc (.pointer (some ⟨b, 0, none⟩))))) (hf : E.fix = [(1000000, b)]) (hbox : (look st (.box 1000000)).isSome = true) (h : Hits E ((.slot t, some (.ptr 1000000 0)) :: st) K) : Hits E st K := by
  intro G a w s
  have hm : G.μ 1000000 = b := (s.rcv (1000000, b) (by rw [hf]; simp)).2 (by intro c; rw [c] at hbox; cases hbox)
  exact h G a w (s.retell (t := t) (v := .ptr 1000000 0) (by show _ = _; rw [hm]; exact rel_sc (s.slots t _ hl)))
theorem hits_fn2 {K : Act → World → Prop} (t : Nat) (f : FuncId) (i j : Nat) {q0 q1 : D} (hij : i ≠ j) (h : Hits E [(.slot t, some (.d (.clo f [.eptr [q0], .eptr [q1]])))] K) :
    Hits E [(.slot t, some (.fn f [i, j])), (.box i, some (.ptr i 0)), (.cell i 0, some (.d q0)), (.box j, some (.ptr j 0)), (.cell j 0, some (.d q1))] K := by
  intro G a w s
  have bi : look [(Loc.slot t, some (V.fn f [i, j])), (.box i, some (.ptr i 0)), (.cell i 0, some (.d q0)), (.box j, some (.ptr j 0)), (.cell j 0, some (.d q1))] (.box i) ≠ none := by
    rw [look_ne _ _ (by simp), look_same]; simp
  have bj : look [(Loc.slot t, some (V.fn f [i, j])), (.box i, some (.ptr i 0)), (.cell i 0, some (.d q0)), (.box j, some (.ptr j 0)), (.cell j 0, some (.d q1))] (.box j) ≠ none := by
    rw [look_ne _ _ (by simp), look_ne _ _ (by simpa using hij), look_ne _ _ (by simp), look_same]; simp
  obtain ⟨i1, i2, i3⟩ := s.boxes i bi
  obtain ⟨j1, j2, j3⟩ := s.boxes j bj
  have hne : G.μ i ≠ G.μ j := fun c => hij (s.inj i j bi bj c)
  obtain ⟨_, ci, tyi, vi, i4, i5, i6⟩ := s.cells i 0 (.d q0) (by rw [look_ne _ _ (by simp), look_ne _ _ (by simp), look_same])
  obtain ⟨_, cj, tyj, vj, j4, j5, j6⟩ := s.cells j 0 (.d q1) (by rw [look_ne _ _ (by simp), look_ne _ _ (by simp), look_ne _ _ (by simpa using hij), look_ne _ _ (by simp), look_same])
  let S' : Stab := fun b o => if b = G.μ i ∧ o = 0 then some vi else if b = G.μ j ∧ o = 0 then some vj else G.S b o
  have hle : G.S.le S' := fun b o v hv => by
    show (if _ then _ else _) = _
    rw [if_neg (by rintro ⟨rfl, _⟩; rw [i3 o] at hv; cases hv), if_neg (by rintro ⟨rfl, _⟩; rw [j3 o] at hv; cases hv)]; exact hv
  have si : S' (G.μ i) 0 = some vi := if_pos ⟨rfl, rfl⟩
  have sj : S' (G.μ j) 0 = some vj := (if_neg (by rintro ⟨c, _⟩; exact hne c.symm)).trans (if_pos ⟨rfl, rfl⟩)
  have wi : w.cell? ⟨G.μ i, 0, none⟩ = some vi := by rw [cell_of_block i4]; exact i5
  have wj : w.cell? ⟨G.μ j, 0, none⟩ = some vj := by rw [cell_of_block j4]; exact j5
  have nb : ∀ k : Loc, (∀ u, k ≠ .slot u) → look [(Loc.slot t, some (V.d (.clo f [.eptr [q0], .eptr [q1]])))] k = none := fun k hk => by rw [look_ne _ _ (fun c => hk t c.symm)]; rfl
  refine h { G with S := S' } a w ⟨s.kw, s.s0.trans hle, fun b o v hv => ?_, s.tmps, s.defers, fun u v hv => ?_, fun k o v hv => (by rw [nb _ (by simp)] at hv; cases hv), fun k hk => absurd (nb _ (by simp)) hk, fun k l hk => absurd (nb _ (by simp)) hk, fun b o v hv => ?_, fun k hk => absurd (nb _ (by simp)) hk, fun k l hk => absurd (nb _ (by simp)) hk, fun p hp => ⟨(s.rcv p hp).1, fun hk => absurd (nb _ (by simp)) hk⟩, fun k qv l hv => (by rw [nb _ (by simp)] at hv; cases hv), fun k v hv => (by rw [nb _ (by simp)] at hv; cases hv), fun k v hv => (by rw [nb _ (by simp)] at hv; cases hv)⟩
  · change (if _ then _ else _) = _ at hv
    split at hv
    · rename_i hc; rw [hc.1]; exact .inr i1
    · split at hv
      · rename_i hc; rw [hc.1]; exact .inr j1
      · exact s.snew b o v hv
  · rw [look_cons] at hv
    split at hv
    · rename_i he
      obtain rfl : t = u := by simpa using he
      obtain rfl := Option.some.inj hv
      have hs : RelV G (.fn f [i, j]) (a.tmps.getD t undef) := s.slots t _ (look_same ..)
      simp only [RelV, List.map_cons, List.map_nil] at hs
      show Rel S' _ _
      rw [hs]
      exact .clo (.cons (.eptr (.cons si (Rel.mono hle i6) .nil)) (.cons (.eptr (.cons sj (Rel.mono hle j6) .nil)) .nil))
    · cases hv
  · change (if _ then _ else _) = _ at hv
    split at hv
    · rename_i hc; obtain ⟨rfl, rfl⟩ := hc; cases hv; exact wi
    · split at hv
      · rename_i hc; obtain ⟨rfl, rfl⟩ := hc; cases hv; exact wj
      · exact s.stable b o v hv
def evIds (st : St) : List Operand → Option (List Nat)
  | [] => some []
  | x :: r => match ev st x, evIds st r with
    | some (.ptr i 0), some l => some (i :: l)
    | _, _ => none
theorem evIds_spec : ∀ {xs : List Operand} {ids : List Nat}, evIds st xs = some ids → evVs st xs = some (ids.map fun i => V.ptr i 0)
  | [], ids, h => by obtain rfl := Option.some.inj h; rfl
  | x :: r, ids, h => by
    unfold evIds at h
    split at h
    · rename_i i l h1 h2
      obtain rfl := Option.some.inj h
      unfold evVs
      rw [h1, evIds_spec h2]; rfl
    · cases h
theorem Sim.cellsOf {ins : List D} {id : Nat} (s : Sim E st G a w) (hin : insAt st id 0 ins) (hpos : Nat.blt 0 ins.length = true) : ∃ cs ty, w.heap[G.μ id]? = some (.cells cs ty (0, 0)) ∧ Cells G.S ins cs := by
  obtain ⟨q0, hq0⟩ : ∃ q, ins[0]? = some q := ⟨_, List.getElem?_eq_getElem (Nat.le_of_ble_eq_true hpos)⟩
  obtain ⟨_, cs, ty', cv, h1, _, _⟩ := s.cells id _ _ (insAt_get hin hq0)
  refine ⟨cs, ty', h1, fun k q hk => ?_⟩
  have hl := insAt_get hin hk
  rw [Nat.zero_add] at hl
  obtain ⟨_, cs2, ty2, cv2, h2, h3, h4⟩ := s.cells id _ _ hl
  rw [h1] at h2
  cases h2
  exact ⟨cv2, h3, h4⟩
theorem Sim.recell (s : Sim E st G a w) {id k : Nat} {v0 v : V} (hl : look st (.cell id k) = some v0) (hR : ∀ u, RelV G v0 u → RelV G v u) : Sim E ((.cell id k, some v) :: st) G a w := by
  have e1 : ∀ i, look ((Loc.cell id k, some v) :: st) (.box i) = look st (.box i) := fun i => look_ne _ _ (by simp)
  have e2 : ∀ i, look ((Loc.cell id k, some v) :: st) (.tip i) = look st (.tip i) := fun i => look_ne _ _ (by simp)
  refine ⟨s.kw, s.s0, s.snew, s.tmps, s.defers, fun t v hv => s.slots t v (by rw [look_ne _ _ (by simp)] at hv; exact hv), fun i o v hv => ?_, fun i hi => s.boxes i (by rw [e1] at hi; exact hi), fun i j hi hj => s.inj i j (by rw [e1] at hi; exact hi) (by rw [e1] at hj; exact hj), s.stable, fun i hi ht => ?_, fun i j hi hj => s.tinj i j (by rw [e2] at hi; exact hi) (by rw [e2] at hj; exact hj), fun p hp => ⟨(s.rcv p hp).1, fun hi => (s.rcv p hp).2 (by rw [e1] at hi; exact hi)⟩, fun i qv l hv hcl ht => s.conts i qv l (by rw [e2] at hv; exact hv) hcl ht, fun i v hv => ?_, fun j v hv => s.olds j v (by rw [look_ne _ _ (by simp)] at hv; exact hv)⟩
  · rw [look_cons] at hv
    split at hv
    · rename_i he
      obtain ⟨rfl, rfl⟩ : id = i ∧ k = o := by simpa using he
      obtain rfl := Option.some.inj hv
      obtain ⟨h1, cs, ty, cv, h2, h3, h4⟩ := s.cells id k _ hl
      exact ⟨by rw [e1]; exact h1, cs, ty, cv, h2, h3, hR _ h4⟩
    · obtain ⟨h1, h2⟩ := s.cells i o v hv
      exact ⟨by rw [e1]; exact h1, h2⟩
  · rw [e2] at hi
    obtain ⟨h1, h2, h3, h4⟩ := s.tips i hi ht
    exact ⟨h1, h2, h3, fun j hj => h4 j (by rw [e1] at hj; exact hj)⟩
  · rw [look_ne _ _ (by simp)] at hv
    obtain ⟨h1, h2⟩ := s.iters i v hv
    exact ⟨by rw [e1]; exact h1, h2⟩
theorem f_makeClo {f : FuncId} {xs : List Operand} {ids : List Nat} (hx : evIds st xs = some ids) (hd : d < E.N) :
    FOk P E ⟨some d, .makeFunc (.func f) #[] xs.toArray, ty, pos, af, g⟩ st (evsL xs) [] [(.slot d, some (.fn f ids))] :=
  fok_val rfl hd fun st' G a w hL hs => by
    have e1 := hs.evVs ((evVs_same hL).trans (evIds_spec hx))
    refine ⟨.func (.func f) #[] (xs.map a.eval).toArray, by simp [execOp, Instr.makeFunc], ?_⟩
    show _ = _
    congr 1
    have key : ∀ (ids : List Nat) (us : List Value), RelVL G (ids.map fun i => V.ptr i 0) us → us = ids.map fun i => Value.pointer (some ⟨G.μ i, 0, none⟩) := by
      intro ids
      induction ids with
      | nil => intro us h; simp only [List.map_nil, RelVL] at h; rw [h]; rfl
      | cons i r ih =>
        intro us h
        simp only [List.map_cons, RelVL] at h
        obtain ⟨u, l, rfl, h1, h2⟩ := h
        rw [ih l h2, List.map_cons]
        congr 1
    rw [key ids _ e1]
theorem f_lenListN {t e : TypeId} {v : V} {es n : Nat} {l : List D} (hx : ev st x = some v) (ha : asList v = some (es, l)) (ht : P.underlying t = some (.slice e)) (hn : l.length = n) (hd : d < E.N) :
    FOk P E ⟨some d, .call ⟨.builtin .len, #[x], #[t]⟩, ty, pos, af, g⟩ st (evL x) [] [(.slot d, some (.d (.sc (.int .i64 (n : Int)))))] := by subst hn; exact f_lenList hx ha ht hd
theorem hits_cellL {K : Act → World → Prop} (c k : Nat) {es : Nat} {l : List D} {v : V} (hl : look st (.cell c k) = some v) (ha : asList v = some (es, l)) (h : Hits E ((.cell c k, some (.d (.list es l))) :: st) K) : Hits E st K :=
  fun G a w s => h G a w (s.recell hl fun u hu => relV_list hu ha)
theorem hits_dataOf {K : Act → World → Prop} (t : Nat) {b : Nat} (hl : look st (.slot t) = some (.ptr 1000000 0)) (hf : E.fix = [(1000000, b)]) (hbox : (look st (.box 1000000)).isSome = true) (h : Hits E ((.slot t, some (.d (.sc (.pointer (some ⟨b, 0, none⟩))))) :: st) K) : Hits E st K := by
  intro G a w s
  have hm : G.μ 1000000 = b := (s.rcv (1000000, b) (by rw [hf]; simp)).2 (by intro c; rw [c] at hbox; cases hbox)
  refine h G a w (s.retell (t := t) (v := .d (.sc (.pointer (some ⟨b, 0, none⟩)))) ?_)
  have e : a.tmps.getD t undef = .pointer (some ⟨G.μ 1000000, 0, none⟩) := s.slots t _ hl
  rw [e, hm]
  exact .sc _
theorem sq_callG0 {ops : Array Oper} {l : List Oper} {op : Oper} {f : FuncId} {ins : List D} {id : Nat} {pv : Value} {o1 : Oc} (hdst : op.dst = some d) (hgd : op.guard = none)
    (hrun : ∀ G a w, Sim E st G a w → ∃ us, (execOp a.eval op).run P w = .ok (.enter f us) w ∧ Calls P f us w fun e w' => EndsX pv G.S w (G.μ id) e w' o1)
    (ho1 : o1 ≠ .any) (hfit : o1.fits ins.length) (hin : insAt st id 0 ins) (hbox : (look st (.box id)).isSome = true) (htop : st.topOk id ins.length = true) (hpos : Nat.blt 0 ins.length = true) (hd : d < E.N)
    (hret : ∀ outs r, o1 = .ret outs r → Hits E ((.slot d, some (.d r)) :: (cellRows id 0 (outs.map .d) ++ st)) (wpList P ops Q l))
    (hpan : ∀ outs, o1 = .pan outs → Hits E (cellRows id 0 (outs.map .d) ++ st) fun a w => Q (.panic (ch0 pv)) a w) :
    Hits E st (wpList P ops Q (op :: l)) := by
  intro G a w s
  obtain ⟨us, hr, hcall⟩ := hrun G a w s
  unfold wpList
  rw [if_pos (by simp [Region.wanted, hgd])]
  refine .inl ?_
  show Oper.upon P op a _ Q ((execOp a.eval op).run P w)
  rw [hr]
  have hb0 : look st (.box id) ≠ none := by intro c; rw [c] at hbox; cases hbox
  obtain ⟨hb1, hb2, hb3⟩ := s.boxes id hb0
  have hcells := s.cellsOf hin hpos
  refine hcall.mono ?_
  intro e w' h2
  cases o1 with
  | any => exact absurd rfl ho1
  | ret outs r =>
    obtain ⟨u, S', rfl, hr, hT⟩ := h2
    have := hret outs r rfl _ _ _ ((s.afterB hb0 htop hfit hcells hT).put hd hr)
    rw [← hdst] at this
    exact this
  | pan outs =>
    obtain ⟨S', rfl, hT⟩ := h2
    exact hpan outs rfl _ _ _ (s.afterB hb0 htop hfit hcells hT)
theorem sq_prC {ω α β : Type} {w0 : ω} {L : List ω} {p1 : Pr ω α} {k : α → Pr ω β} {i : Nat} {hdD : D} {tD : β → D} {tD1 : α → D} {o : Oc} {ops : Array Oper} {l : List Oper} {f : FuncId} {ats : Array TypeId} {args : Nat → List D} {ds : List D} {pv : Value} {b : Nat}
    (hO : o = ocOf hdD tD ((p1.bind k).run w0 L i)) (hne : o ≠ .any) (hc : CallsW P E.Γ pv f [hdD, .sc (.int .i64 (i : Int))] args (ocOf hdD tD1 (p1.run w0 L i))) (hargs : args b = ds) (hen : enters P f = true) (hx : ev st x = some (.d (.clo f ds)))
    (ho : E.outs = [b]) (hf : E.fix = [(1000000, b)]) (hin : insAt st 1000000 0 [hdD, .sc (.int .i64 (i : Int))]) (hbox : (look st (.box 1000000)).isSome = true) (htop : st.topOk 1000000 2 = true) (hd : d < E.N)
    (hpan : ∀ a w, a.defers = [] → EndsX pv E.S0 E.w0 b (.panicked (ch0 pv)) w o → Q (.panic (ch0 pv)) a w)
    (h : ∀ q j, p1.run w0 L i = .ok q j → o = ocOf hdD tD ((k q).run w0 L j) → Hits E ((.slot d, some (.d (tD1 q))) :: (.cell 1000000 0, some (.d hdD)) :: (.cell 1000000 1, some (.d (.sc (.int .i64 (j : Int))))) :: st) (wpList P ops Q l)) :
    Hits E st (wpList P ops Q (⟨some d, .call ⟨.value x, #[], ats⟩, ty, pos, af, none⟩ :: l)) := by
  have hb0 : look st (.box 1000000) ≠ none := by intro c; rw [c] at hbox; cases hbox
  have hrun : ocOf hdD tD1 (p1.run w0 L i) ≠ .any → ∀ G a w, Sim E st G a w → ∃ us, (execOp a.eval (⟨some d, .call ⟨.value x, #[], ats⟩, ty, pos, af, none⟩ : Oper)).run P w = .ok (.enter f us) w ∧ Calls P f us w fun e w' => EndsX pv G.S w (G.μ 1000000) e w' (ocOf hdD tD1 (p1.run w0 L i)) := fun hany G a w s => by
    have hm : G.μ 1000000 = b := (s.rcv (1000000, b) (by rw [hf]; simp)).2 hb0
    have e1 : Rel G.S (.clo f ds) (a.eval x) := s.ev hx
    obtain ⟨cs, hv, hl⟩ : ∃ cs : List Value, a.eval x = .func (.func f) #[] ⟨cs⟩ ∧ RelL G.S ds cs := by
      cases hv : a.eval x with
      | func fv bnd cap =>
        rw [hv] at e1
        cases e1 with
        | clo hl => exact ⟨_, rfl, hl⟩
      | _ => rw [hv] at e1; cases e1
    refine ⟨⟨cs⟩, by simp [execOp, resolve, hv, Deferred.ofValue, invoke, run_callFunc hen], ?_⟩
    rw [← hargs, ← hm] at hl
    exact hc hany G.S w (G.μ 1000000) cs (fun w' k => E.stab w' (s.kw.trans k (s.boxes 1000000 hb0).1)) s.stable (s.boxes 1000000 hb0).2.2 hl (s.cellsOf hin rfl)
  rw [run_bind] at hO
  cases hr : p1.run w0 L i with
  | oof => rw [hr] at hO; exact absurd hO hne
  | ok q j =>
    rw [hr] at hO hrun
    refine sq_callG0 (ins := [hdD, .sc (.int .i64 (i : Int))]) rfl rfl (hrun (fun c => by cases c)) (fun c => by cases c) rfl hin hbox htop rfl hd (fun outs r e => ?_) (fun outs e => by cases e)
    cases e
    exact h q j hr hO
  | bad j =>
    rw [hr] at hO hrun
    refine sq_callG0 (ins := [hdD, .sc (.int .i64 (i : Int))]) rfl rfl (hrun (fun c => by cases c)) (fun c => by cases c) rfl hin hbox htop rfl hd (fun outs r e => by cases e) (fun outs e => ?_)
    cases e
    intro G a w s
    refine hpan a w s.defers ?_
    rw [hO]
    exact ⟨G.S, rfl, sim_tail s ho hf (by rw [look_cellRows_ne 1000000 (fun o => by simp)]; exact hbox) ⟨look_same .., by show look ((Loc.cell 1000000 0, some (V.d hdD)) :: (Loc.cell 1000000 1, some (V.d (D.sc (Value.int IntKind.i64 (j : Int))))) :: st) (.cell 1000000 1) = _; rw [look_ne _ _ (by simp)]; exact look_same .., trivial⟩ rfl⟩
end Go.Ab
