/- Parts of the walk, joined. -/
import Derived.Test.YtogodijfdkffaaaGreatDoorJ4
set_option linter.unusedVariables false
set_option linter.unusedSimpArgs false
set_option maxRecDepth 100000
/- Functions that may give up: a call that returns or panics, by what a plain parser does. No program. -/
namespace Go.Ab
open Go Go.RowKit
variable {P : Program} {E : Env} {st : St} {G : Gh} {a : Act} {w : World} {Q : Exit → Act → World → Prop}
variable {d : Nat} {ty : TypeId} {pos : String} {af : Array Edge} {g : Option (Nat × Bool)} {x y z : Operand}
inductive Pr (ω α : Type) where
  | ret (a : α)
  | bad
  | oof
  | look (k : ω → Pr ω α)
  | take (p : Pr ω α)
inductive Rs (α : Type) where
  | ok (a : α) (j : Nat)
  | bad (j : Nat)
  | oof
def Pr.bind {ω α β : Type} : Pr ω α → (α → Pr ω β) → Pr ω β
  | .ret a, k => k a
  | .bad, _ => .bad
  | .oof, _ => .oof
  | .look f, k => .look fun x => (f x).bind k
  | .take p, k => .take (p.bind k)
def wordAt {ω : Type} (w0 : ω) (L : List ω) (i : Nat) : ω := (L[i]?).getD w0
def Pr.run {ω α : Type} (w0 : ω) (L : List ω) : Pr ω α → Nat → Rs α
  | .ret a, i => .ok a i
  | .bad, i => .bad i
  | .oof, _ => .oof
  | .look f, i => (f (wordAt w0 L i)).run w0 L i
  | .take p, i => p.run w0 L (i + 1)
theorem run_bind {ω α β : Type} (w0 : ω) (L : List ω) (k : α → Pr ω β) : ∀ (p : Pr ω α) (i : Nat), (p.bind k).run w0 L i = match p.run w0 L i with
    | .ok a j => (k a).run w0 L j
    | .bad j => .bad j
    | .oof => .oof
  | .ret a, i => rfl
  | .bad, i => rfl
  | .oof, i => rfl
  | .look f, i => run_bind w0 L k (f (wordAt w0 L i)) i
  | .take p, i => run_bind w0 L k p (i + 1)
inductive Oc where
  | ret (outs : List D) (r : D)
  | pan (outs : List D)
  | any
def ch0 (v : Value) : List PanicEntry := [{ v := v, recovered := false }]
def Tail (S : Stab) (w : World) (b : Nat) (outs : List D) (S' : Stab) (w' : World) : Prop :=
  S.le S' ∧ KW w [b] w' ∧ (∃ cs ty, w'.heap[b]? = some (.cells cs ty (0, 0)) ∧ Cells S' outs cs) ∧ (∀ o, S' b o = none) ∧
    ∀ b' o v, S' b' o = some v → S b' o = some v ∨ (w.heap.size ≤ b' ∧ w'.cell? ⟨b', o, none⟩ = some v)
def EndsX (pv : Value) (S : Stab) (w : World) (b : Nat) (e : Ending) (w' : World) : Oc → Prop
  | .ret outs r => ∃ u S', e = .returned u ∧ Rel S' r u ∧ Tail S w b outs S' w'
  | .pan outs => ∃ S', e = .panicked (ch0 pv) ∧ Tail S w b outs S' w'
  | .any => True
def CallsX (P : Program) (Γ : World → Prop) (pv : Value) (f : FuncId) (ins : List D) (args : Nat → List D) (o : Oc) : Prop :=
  o ≠ .any → ∀ (S : Stab) (w : World) (b : Nat) (us : List Value), (∀ w', KW w [b] w' → Γ w') → (∀ b o v, S b o = some v → w.cell? ⟨b, o, none⟩ = some v) → (∀ o, S b o = none) → RelL S (args b) us →
    (∃ cs ty, w.heap[b]? = some (.cells cs ty (0, 0)) ∧ Cells S ins cs) →
    Calls P f ⟨.pointer (some ⟨b, 0, none⟩) :: us⟩ w fun e w' => EndsX pv S w b e w' o
theorem callsX_of {Γ : World → Prop} {pv : Value} {f : FuncId} {fn : Func} {c : Code} {ins : List D} {args : Nat → List D} {o : Oc} {n m : Nat} (hf : P.funcs[f]? = some fn) (hb : fn.body = some c) (hn : fn.ntmps = n) (hm : ∀ b, (args b).length = m) (hl : Nat.ble (m + 1) n = true) (hbig : Nat.ble n 1000000 = true)
    (h : o ≠ .any → ∀ (w0 : World) (S0 : Stab) (b : Nat) (stab : ∀ w, KW w0 [b] w → Γ w), Hits ⟨w0, [b], [(1000000, b)], S0, n, Γ, stab, #[]⟩ (recvRows ins (args b)) (c.wp P (bodyPost P fn fun e w' => EndsX pv S0 w0 b e w' o))) : CallsX P Γ pv f ins args o := by
  intro ho S w b us hΓ hS hSb hr hc
  exact callsR_at (R := fun w0 S0 b e w' => EndsX pv S0 w0 b e w' o) hf hb hn (by rw [hm]; exact hl) hbig S w b us hΓ hS hSb hr hc (h ho w S b hΓ)
theorem sim_tail {outs : List D} {b : Nat} (s : Sim E st G a w) (ho : E.outs = [b]) (hf : E.fix = [(1000000, b)]) (hbox : (look st (.box 1000000)).isSome = true) (hout : insAt st 1000000 0 outs) (hpos : Nat.blt 0 outs.length = true) : Tail E.S0 E.w0 b outs G.S w := by
  have hb0 : look st (.box 1000000) ≠ none := by intro c; rw [c] at hbox; cases hbox
  have hμ : G.μ 1000000 = b := by
    exact (s.rcv (1000000, b) (by rw [hf]; simp)).2 hb0
  have hk : KW E.w0 [b] w := by have := s.kw; rw [ho] at this; exact this
  have hn : ∀ b o v, G.S b o = some v → E.S0 b o = some v ∨ (E.w0.heap.size ≤ b ∧ w.cell? ⟨b, o, none⟩ = some v) := fun b' o v hv => (s.snew b' o v hv).imp id fun q => ⟨q.elim id (fun q => by
    rw [ho] at q
    obtain rfl := List.mem_singleton.mp q
    rw [← hμ, (s.boxes 1000000 hb0).2.2 o] at hv; cases hv), s.stable b' o v hv⟩
  have hc : ∃ cs ty, w.heap[b]? = some (.cells cs ty (0, 0)) ∧ Cells G.S outs cs := by
    obtain ⟨q0, hq0⟩ : ∃ q, outs[0]? = some q := ⟨_, List.getElem?_eq_getElem (Nat.le_of_ble_eq_true hpos)⟩
    obtain ⟨_, cs, ty', cv, q1, _, _⟩ := s.cells 1000000 _ _ (insAt_get hout hq0)
    rw [hμ] at q1
    refine ⟨cs, ty', q1, fun k q hk => ?_⟩
    have hl := insAt_get hout hk
    rw [Nat.zero_add] at hl
    obtain ⟨_, cs2, ty2, cv2, q2, q3, q4⟩ := s.cells 1000000 _ _ hl
    rw [hμ, q1] at q2
    cases q2
    exact ⟨cv2, q3, q4⟩
  have hS : ∀ o, G.S b o = none := fun o => by rw [← hμ]; exact (s.boxes 1000000 hb0).2.2 o
  exact ⟨s.s0, hk, hc, hS, hn⟩
theorem hits_doneX {fn : Func} {pv : Value} {ds : List D} {r : D} {e : Exit} {outs : List D} {b : Nat} {o : Oc} (hO : o = .ret outs r) (he : e = .ret ∨ e = .normal) (ho : E.outs = [b]) (hf : E.fix = [(1000000, b)]) (hr : resDs P st fn.results.toList = some ds) (hp : packD ds = r)
    (hbox : (look st (.box 1000000)).isSome = true) (hout : insAt st 1000000 0 outs) (hpos : Nat.blt 0 outs.length = true) : Hits E st (bodyPost P fn (fun e w' => EndsX pv E.S0 E.w0 b e w' o) e) := by
  subst hO
  exact hits_doneB he ho hf hr hp hbox hout hpos
theorem Sim.afterB {id : Nat} {ins outs : List D} {S' : Stab} {w' : World} (s : Sim E st G a w) (hb0 : look st (.box id) ≠ none) (htop : st.topOk id ins.length = true) (hlen : outs.length = ins.length)
    (hcells : ∃ cs ty, w.heap[G.μ id]? = some (.cells cs ty (0, 0)) ∧ Cells G.S ins cs) (hT : Tail G.S w (G.μ id) outs S' w') : Sim E (cellRows id 0 (outs.map V.d) ++ st) { G with S := S' } a w' := by
  obtain ⟨hS, hk, ⟨cs', ty', h3, h4⟩, h5, hn⟩ := hT
  obtain ⟨hb1, hb2, hb3⟩ := s.boxes id hb0
  have fr : ∀ k, k < w.heap.size → k ≠ G.μ id → w'.heap[k]? = w.heap[k]? := fun k hk' hne => hk.frame k hk' (by simpa using hne)
  have none' : ∀ {b o}, b < w.heap.size → G.S b o = none → S' b o = none := fun {b o} hlt hno => by
    cases hv : S' b o with
    | none => rfl
    | some v =>
      rcases hn b o v hv with q | ⟨q, _⟩
      · rw [hno] at q; cases q
      · omega
  have es : ∀ t, look (cellRows id 0 (outs.map V.d) ++ st) (.slot t) = look st (.slot t) := fun t => look_cellRows_ne id (fun o => by simp) _ _ _
  have eb : ∀ i, look (cellRows id 0 (outs.map V.d) ++ st) (.box i) = look st (.box i) := fun i => look_cellRows_ne id (fun o => by simp) _ _ _
  have et : ∀ i, look (cellRows id 0 (outs.map V.d) ++ st) (.tip i) = look st (.tip i) := fun i => look_cellRows_ne id (fun o => by simp) _ _ _
  have ec : ∀ i o, i ≠ id → look (cellRows id 0 (outs.map V.d) ++ st) (.cell i o) = look st (.cell i o) := fun i o hi => look_cellRows_ne id (fun o' => by simp; intro c; exact absurd c hi) _ _ _
  refine ⟨s.kw.trans hk hb1, s.s0.trans hS, fun b o v hv => (hn b o v hv).elim (s.snew b o v) (fun q => .inr (.inl (Nat.le_trans s.size q.1))), s.tmps, s.defers,
    fun t v hl => ?_, fun i o v hl => ?_, fun i hi => ?_, fun i j hi hj => ?_, fun b o v hv => ?_, fun i hi ht => ?_, fun i j hi hj => ?_, fun p hp => ⟨(s.rcv p hp).1, fun hi => (s.rcv p hp).2 (by rw [eb] at hi; exact hi)⟩, fun i qv l hl hcl ht => ?_, fun i v hl => ?_, fun k v hl => (s.olds k v (by rw [look_cellRows_ne id (fun o => by simp)] at hl; exact hl)).monoS hS⟩
  · rw [es] at hl; exact (s.slots t v hl).monoS hS
  · by_cases hi : i = id
    · subst hi
      refine ⟨by rw [eb]; exact hb0, cs', ty', ?_⟩
      rw [look_cellRows] at hl
      split at hl
      · rename_i ho
        rw [Nat.sub_zero, List.getElem?_map] at hl
        cases hq : outs[o]? with
        | none => rw [hq] at hl; cases hl
        | some q =>
          rw [hq] at hl
          obtain rfl := Option.some.inj hl
          obtain ⟨cv, q1, q2⟩ := h4 o q hq
          exact ⟨cv, h3, q1, q2⟩
      · rename_i ho
        have := top_look htop hl
        exact absurd ⟨Nat.zero_le _, by simp; omega⟩ ho
    · rw [ec i o hi] at hl
      obtain ⟨hx', cs, ty2, cv, q1, q2, q3⟩ := s.cells i o v hl
      refine ⟨by rw [eb]; exact hx', cs, ty2, cv, ?_, q2, q3.monoS hS⟩
      show w'.heap[G.μ i]? = _
      rw [fr _ (lt_of_block q1) (fun c => hi (s.inj i id hx' hb0 c))]
      exact q1
  · rw [eb] at hi
    obtain ⟨q1, q2, q3⟩ := s.boxes i hi
    exact ⟨q1, Nat.lt_of_lt_of_le q2 hk.size, fun o => none' q2 (q3 o)⟩
  · rw [eb] at hi hj; exact s.inj i j hi hj
  · rcases hn b o v hv with q | ⟨_, q⟩
    · have q2 := s.stable b o v q
      have hne : b ≠ G.μ id := fun c => by subst c; rw [hb3] at q; cases q
      obtain ⟨cs, ty2, fz, q3, q4⟩ := block_of_cell q2
      rw [← fr b (lt_of_block q3) hne] at q3
      rw [cell_of_block q3]; exact q4
    · exact q
  · rw [et] at hi
    obtain ⟨q1, ⟨cs, ty2, q2, q3⟩, q4, q5⟩ := s.tips i hi ht
    have hlt := lt_of_block q2
    exact ⟨q1, ⟨cs, ty2, (fr _ hlt (fun c => q5 id hb0 c.symm)).trans q2, q3⟩, fun o ho => none' hlt (q4 o ho), fun j hj => q5 j (by rw [eb] at hj; exact hj)⟩
  · rw [et] at hi hj; exact s.tinj i j hi hj
  · rw [et] at hl
    obtain ⟨q1, o, us', cs, ty2, q2, q3, q4, q5, q6⟩ := s.conts i qv l hl hcl ht
    have hlt := lt_of_block q2
    exact ⟨fun o => none' hlt (q1 o), o, us', cs, ty2, (fr _ hlt (fun c => (s.tips i (by rw [hl]; simp) ht).2.2.2 id hb0 c.symm)).trans q2, q3, q4, q5.monoS hS, q6⟩
  · rw [look_cellRows_ne id (fun o => by simp)] at hl
    obtain ⟨q1, sx, pos, q2, q3⟩ := s.iters i v hl
    have hi : i ≠ id := fun c => by
      subst c
      obtain ⟨cs, ty2, q4, _⟩ := hcells
      rw [q4] at q3; exact (itO_ne q3.symm).elim
    exact ⟨by rw [eb]; exact q1, sx, pos, q2, (fr _ (lt_of_block q3) (fun c => hi (s.inj i id q1 hb0 c))).trans q3⟩
def Oc.fits (n : Nat) : Oc → Prop
  | .ret outs _ => outs.length = n
  | .pan outs => outs.length = n
  | .any => True
theorem sq_callX0 {ops : Array Oper} {l : List Oper} {op : Oper} {f : FuncId} {ins : List D} {args : Nat → List D} {id : Nat} {pv : Value} {o1 : Oc} (hdst : op.dst = some d) (hgd : op.guard = none)
    (hrun : ∀ G a w, Sim E st G a w → ∃ us, (execOp a.eval op).run P w = .ok (.enter f ⟨.pointer (some ⟨G.μ id, 0, none⟩) :: us⟩) w ∧ RelL G.S (args (G.μ id)) us)
    (hc : CallsX P E.Γ pv f ins args o1) (ho1 : o1 ≠ .any) (hfit : o1.fits ins.length) (hin : insAt st id 0 ins) (hbox : (look st (.box id)).isSome = true) (htop : st.topOk id ins.length = true) (hpos : Nat.blt 0 ins.length = true) (hd : d < E.N)
    (hret : ∀ outs r, o1 = .ret outs r → Hits E ((.slot d, some (.d r)) :: (cellRows id 0 (outs.map .d) ++ st)) (wpList P ops Q l))
    (hpan : ∀ outs, o1 = .pan outs → Hits E (cellRows id 0 (outs.map .d) ++ st) fun a w => Q (.panic (ch0 pv)) a w) :
    Hits E st (wpList P ops Q (op :: l)) := by
  intro G a w s
  obtain ⟨us, hr, hus⟩ := hrun G a w s
  unfold wpList
  rw [if_pos (by simp [Region.wanted, hgd])]
  refine .inl ?_
  show Oper.upon P op a _ Q ((execOp a.eval op).run P w)
  rw [hr]
  have hb0 : look st (.box id) ≠ none := by intro c; rw [c] at hbox; cases hbox
  obtain ⟨hb1, hb2, hb3⟩ := s.boxes id hb0
  have hcells : ∃ cs ty, w.heap[G.μ id]? = some (.cells cs ty (0, 0)) ∧ Cells G.S ins cs := by
    obtain ⟨q0, hq0⟩ : ∃ q, ins[0]? = some q := ⟨_, List.getElem?_eq_getElem (Nat.le_of_ble_eq_true hpos)⟩
    obtain ⟨_, cs, ty', cv, h1, _, _⟩ := s.cells id _ _ (insAt_get hin hq0)
    refine ⟨cs, ty', h1, fun k q hk => ?_⟩
    have hl := insAt_get hin hk
    rw [Nat.zero_add] at hl
    obtain ⟨_, cs2, ty2, cv2, h2, h3, h4⟩ := s.cells id _ _ hl
    rw [h1] at h2
    cases h2
    exact ⟨cv2, h3, h4⟩
  refine (hc ho1 G.S w (G.μ id) us (fun w' k => E.stab w' (s.kw.trans k hb1)) s.stable hb3 hus hcells).mono ?_
  intro e w' h2
  cases o1 with
  | any => exact absurd rfl ho1
  | ret outs r =>
    obtain ⟨u, S', rfl, hr, hT⟩ := h2
    have := hret outs r rfl _ _ _ ((s.afterB hb0 htop hfit hcells hT).put hd hr)
    rw [← hdst] at this
    exact this
  | pan outs =>
    obtain ⟨S', rfl, hT⟩ := h2
    exact hpan outs rfl _ _ _ (s.afterB hb0 htop hfit hcells hT)
theorem sq_guard {ops : Array Oper} {o : Oper} {l : List Oper} {j t : Nat} {b : Bool} (hg : o.guard = some (j, b)) (hj : (ops[j]?).bind (·.dst) = some t) (hl : look st (.slot t) = some (.d (.sc (.bool b)))) (ht : t < E.N)
    (h : Hits E st (wpList P ops Q ({ o with guard := none } :: l))) : Hits E st (wpList P ops Q (o :: l)) := by
  intro G a w s
  have h1 := h G a w s
  unfold wpList at h1 ⊢
  rw [if_pos (by simp [Region.wanted])] at h1
  rw [if_pos (by simp [Region.wanted, hg, yielded_of s hj hl ht])]
  cases o
  exact h1
def ocOf {α : Type} (hd : D) (tD : α → D) : Rs α → Oc
  | .ok a j => .ret [hd, .sc (.int .i64 (j : Int))] (tD a)
  | .bad j => .pan [hd, .sc (.int .i64 (j : Int))]
  | .oof => .any
theorem fits_ocOf {α : Type} (hd : D) (tD : α → D) (r : Rs α) : (ocOf hd tD r).fits 2 := by cases r <;> first | rfl | trivial
theorem sq_pr0 {ω α β : Type} {w0 : ω} {L : List ω} {p1 : Pr ω α} {k : α → Pr ω β} {i : Nat} {hdD : D} {tD : β → D} {tD1 : α → D} {o : Oc} {ops : Array Oper} {l : List Oper} {op : Oper} {f : FuncId} {args : Nat → List D} {pv : Value} {b : Nat}
    (hO : o = ocOf hdD tD ((p1.bind k).run w0 L i)) (hne : o ≠ .any) (hc : CallsX P E.Γ pv f [hdD, .sc (.int .i64 (i : Int))] args (ocOf hdD tD1 (p1.run w0 L i))) (hdst : op.dst = some d) (hgd : op.guard = none)
    (hrun : ∀ G a w, Sim E st G a w → ∃ us, (execOp a.eval op).run P w = .ok (.enter f ⟨.pointer (some ⟨G.μ 1000000, 0, none⟩) :: us⟩) w ∧ RelL G.S (args (G.μ 1000000)) us)
    (ho : E.outs = [b]) (hf : E.fix = [(1000000, b)]) (hin : insAt st 1000000 0 [hdD, .sc (.int .i64 (i : Int))]) (hbox : (look st (.box 1000000)).isSome = true) (htop : st.topOk 1000000 2 = true) (hd : d < E.N)
    (hpan : ∀ a w, a.defers = [] → EndsX pv E.S0 E.w0 b (.panicked (ch0 pv)) w o → Q (.panic (ch0 pv)) a w)
    (h : ∀ q j, p1.run w0 L i = .ok q j → o = ocOf hdD tD ((k q).run w0 L j) → Hits E ((.slot d, some (.d (tD1 q))) :: (.cell 1000000 0, some (.d hdD)) :: (.cell 1000000 1, some (.d (.sc (.int .i64 (j : Int))))) :: st) (wpList P ops Q l)) :
    Hits E st (wpList P ops Q (op :: l)) := by
  rw [run_bind] at hO
  cases hr : p1.run w0 L i with
  | oof => rw [hr] at hO; exact absurd hO hne
  | ok q j =>
    rw [hr] at hO hc
    refine sq_callX0 hdst hgd hrun hc (fun c => by cases c) rfl hin hbox htop rfl hd (fun outs r e => ?_) (fun outs e => by cases e)
    cases e
    exact h q j hr hO
  | bad j =>
    rw [hr] at hO hc
    refine sq_callX0 hdst hgd hrun hc (fun c => by cases c) rfl hin hbox htop rfl hd (fun outs r e => by cases e) (fun outs e => ?_)
    cases e
    intro G a w s
    refine hpan a w s.defers ?_
    rw [hO]
    exact ⟨G.S, rfl, sim_tail s ho hf (by rw [look_cellRows_ne 1000000 (fun o => by simp)]; exact hbox) ⟨look_same .., by show look ((Loc.cell 1000000 0, some (V.d hdD)) :: (Loc.cell 1000000 1, some (V.d (D.sc (Value.int IntKind.i64 (j : Int))))) :: st) (.cell 1000000 1) = _; rw [look_ne _ _ (by simp)]; exact look_same .., trivial⟩ rfl⟩
theorem sq_pr {ω α β : Type} {w0 : ω} {L : List ω} {p1 : Pr ω α} {k : α → Pr ω β} {i : Nat} {hdD : D} {tD : β → D} {tD1 : α → D} {o : Oc} {ops : Array Oper} {l : List Oper} {f : FuncId} {xs : List Operand} {ats : Array TypeId} {ds : List D} {args : Nat → List D} {pv : Value} {b : Nat}
    (hO : o = ocOf hdD tD ((p1.bind k).run w0 L i)) (hne : o ≠ .any) (hc : CallsX P E.Γ pv f [hdD, .sc (.int .i64 (i : Int))] args (ocOf hdD tD1 (p1.run w0 L i))) (hargs : args b = ds) (hen : enters P f = true) (hx : ev st x = some (.ptr 1000000 0)) (ha : evs st xs = some ds)
    (ho : E.outs = [b]) (hf : E.fix = [(1000000, b)]) (hin : insAt st 1000000 0 [hdD, .sc (.int .i64 (i : Int))]) (hbox : (look st (.box 1000000)).isSome = true) (htop : st.topOk 1000000 2 = true) (hd : d < E.N)
    (hpan : ∀ a w, a.defers = [] → EndsX pv E.S0 E.w0 b (.panicked (ch0 pv)) w o → Q (.panic (ch0 pv)) a w)
    (h : ∀ q j, p1.run w0 L i = .ok q j → o = ocOf hdD tD ((k q).run w0 L j) → Hits E ((.slot d, some (.d (tD1 q))) :: (.cell 1000000 0, some (.d hdD)) :: (.cell 1000000 1, some (.d (.sc (.int .i64 (j : Int))))) :: st) (wpList P ops Q l)) :
    Hits E st (wpList P ops Q (⟨some d, .call ⟨.value (.func f), (x :: xs).toArray, ats⟩, ty, pos, af, none⟩ :: l)) :=
  sq_pr0 hO hne hc rfl rfl (fun G a w s => by
    have e1 : a.eval x = .pointer (some ⟨G.μ 1000000, 0, none⟩) := s.ev hx
    have ef : a.eval (.func f) = .func (.func f) #[] #[] := rfl
    refine ⟨xs.map a.eval, by simp [execOp, resolve, ef, Deferred.ofValue, invoke, run_callFunc hen, e1], ?_⟩
    rw [(s.rcv (1000000, b) (by rw [hf]; simp)).2 (by intro c; rw [c] at hbox; cases hbox), hargs]
    exact s.evs ha) ho hf hin hbox htop hd hpan h
theorem sq_prV {ω α β : Type} {w0 : ω} {L : List ω} {p1 : Pr ω α} {k : α → Pr ω β} {i : Nat} {hdD : D} {tD : β → D} {tD1 : α → D} {o : Oc} {ops : Array Oper} {l : List Oper} {f : FuncId} {ats : Array TypeId} {pv : Value} {b : Nat}
    (hO : o = ocOf hdD tD ((p1.bind k).run w0 L i)) (hne : o ≠ .any) (hc : CallsX P E.Γ pv f [hdD, .sc (.int .i64 (i : Int))] (fun _ => []) (ocOf hdD tD1 (p1.run w0 L i))) (hen : enters P f = true) (hx : ev st x = some (.d (.sc (.func (.func f) #[.pointer (some ⟨b, 0, none⟩)] #[]))))
    (ho : E.outs = [b]) (hf : E.fix = [(1000000, b)]) (hin : insAt st 1000000 0 [hdD, .sc (.int .i64 (i : Int))]) (hbox : (look st (.box 1000000)).isSome = true) (htop : st.topOk 1000000 2 = true) (hd : d < E.N)
    (hpan : ∀ a w, a.defers = [] → EndsX pv E.S0 E.w0 b (.panicked (ch0 pv)) w o → Q (.panic (ch0 pv)) a w)
    (h : ∀ q j, p1.run w0 L i = .ok q j → o = ocOf hdD tD ((k q).run w0 L j) → Hits E ((.slot d, some (.d (tD1 q))) :: (.cell 1000000 0, some (.d hdD)) :: (.cell 1000000 1, some (.d (.sc (.int .i64 (j : Int))))) :: st) (wpList P ops Q l)) :
    Hits E st (wpList P ops Q (⟨some d, .call ⟨.value x, #[], ats⟩, ty, pos, af, none⟩ :: l)) :=
  sq_pr0 (args := fun _ => []) hO hne hc rfl rfl (fun G a w s => by
    have e1 := s.sc hx
    have hm : G.μ 1000000 = b := (s.rcv (1000000, b) (by rw [hf]; simp)).2 (by intro c; rw [c] at hbox; cases hbox)
    refine ⟨[], ?_, .nil⟩
    rw [hm]
    simp [execOp, resolve, e1, Deferred.ofValue, invoke, run_callFunc hen]) ho hf hin hbox htop hd hpan h
theorem f_methodVal {f : FuncId} {b : Nat} (hx : ev st x = some (.ptr 1000000 0)) (hf : E.fix = [(1000000, b)]) (hbox : (look st (.box 1000000)).isSome = true) (hd : d < E.N) :
    FOk P E ⟨some d, .makeFunc (.func f) #[x] #[], ty, pos, af, g⟩ st (evL x ++ [.box 1000000]) [] [(.slot d, some (.d (.sc (.func (.func f) #[.pointer (some ⟨b, 0, none⟩)] #[]))))] :=
  fok_val rfl hd fun st' G a w hL hs => by
    have e1 : a.eval x = .pointer (some ⟨G.μ 1000000, 0, none⟩) := hs.ev ((ev_same hL fun l h => mem_l h).trans hx)
    have hm : G.μ 1000000 = b := (hs.rcv (1000000, b) (by rw [hf]; simp)).2 (by rw [hL (.box 1000000) (mem_r (by simp))]; intro c; rw [c] at hbox; cases hbox)
    exact ⟨_, by simp [execOp, Instr.makeFunc, e1, hm], .sc _⟩
theorem f_mkIfaceD {t : TypeId} {q : D} (hx : ev st x = some (.d q)) (ht : nif P t = true) (hd : d < E.N) :
    FOk P E ⟨some d, .makeInterface t x, ty, pos, af, g⟩ st (evL x) [] [(.slot d, some (.d (.ifc t q)))] :=
  fok_val rfl hd fun st' G a w hL hs => by
    have e1 : Rel G.S q (a.eval x) := hs.ev ((ev_same hL fun l h => h).trans hx)
    unfold nif at ht
    refine ⟨.iface t (a.eval x), ?_, .ifc e1⟩
    split at ht
    · cases ht
    · rename_i u hu hne
      simp only [execOp, Instr.makeInterface, Sem.run_bind, run_underlying hne, Result.andThen_ok]
      cases u <;> first | rfl | (exact absurd rfl (hu _))
    · cases ht
theorem sq_panic {ops : Array Oper} {l : List Oper} {t : TypeId} {pv : Value} {b : Nat} {o : Oc} {outs : List D} (hx : ev st x = some (.d (.ifc t (.agg [])))) (hpv : pv = .iface t (.agg ⟨[]⟩)) (hO : o = .pan outs)
    (ho : E.outs = [b]) (hf : E.fix = [(1000000, b)]) (hin : insAt st 1000000 0 outs) (hbox : (look st (.box 1000000)).isSome = true) (hpos : Nat.blt 0 outs.length = true)
    (hpan : ∀ a w, a.defers = [] → EndsX pv E.S0 E.w0 b (.panicked (ch0 pv)) w o → Q (.panic (ch0 pv)) a w) {dd : Option Nat} :
    Hits E st (wpList P ops Q (⟨dd, .panic x, ty, pos, af, none⟩ :: l)) := by
  intro G a w s
  unfold wpList
  rw [if_pos (by simp [Region.wanted])]
  refine .inl ?_
  show Oper.upon P _ a _ Q ((execOp a.eval _).run P w)
  have e1 : a.eval x = pv := by
    have e1 : Rel G.S (.ifc t (.agg [])) (a.eval x) := s.ev hx
    rw [hpv]
    cases hc : a.eval x <;> rw [hc] at e1 <;> cases e1
    rename_i h1
    cases h1
    rename_i h2
    cases h2
    rfl
  have hrun : (execOp a.eval (⟨dd, .panic x, ty, pos, af, none⟩ : Oper)).run P w = .halt (.panic pv) w := by
    subst hpv
    simp [execOp, e1, Instr.panic]
  rw [hrun]
  refine hpan a w s.defers ?_
  rw [hO]
  exact ⟨G.S, rfl, sim_tail s ho hf hbox hin hpos⟩
theorem callX_wp {op : Oper} {f : FuncId} {ins : List D} {args : Nat → List D} {id : Nat} {pv : Value} {o1 : Oc} {K : Act → World → Prop} (hdst : op.dst = some d)
    (hrun : ∀ G a w, Sim E st G a w → ∃ us, (execOp a.eval op).run P w = .ok (.enter f ⟨.pointer (some ⟨G.μ id, 0, none⟩) :: us⟩) w ∧ RelL G.S (args (G.μ id)) us)
    (hc : CallsX P E.Γ pv f ins args o1) (ho1 : o1 ≠ .any) (hfit : o1.fits ins.length) (hin : insAt st id 0 ins) (hbox : (look st (.box id)).isSome = true) (htop : st.topOk id ins.length = true) (hpos : Nat.blt 0 ins.length = true) (hd : d < E.N)
    (hret : ∀ outs r, o1 = .ret outs r → Hits E ((.slot d, some (.d r)) :: (cellRows id 0 (outs.map .d) ++ st)) K)
    (hpan : ∀ outs, o1 = .pan outs → Hits E (cellRows id 0 (outs.map .d) ++ st) fun a w => Q (.panic (ch0 pv)) a w) :
    Hits E st (fun a w => op.wp P a w K Q) := by
  intro G a w s
  obtain ⟨us, hr, hus⟩ := hrun G a w s
  show Oper.upon P op a _ Q ((execOp a.eval op).run P w)
  rw [hr]
  have hb0 : look st (.box id) ≠ none := by intro c; rw [c] at hbox; cases hbox
  obtain ⟨hb1, hb2, hb3⟩ := s.boxes id hb0
  have hcells : ∃ cs ty, w.heap[G.μ id]? = some (.cells cs ty (0, 0)) ∧ Cells G.S ins cs := by
    obtain ⟨q0, hq0⟩ : ∃ q, ins[0]? = some q := ⟨_, List.getElem?_eq_getElem (Nat.le_of_ble_eq_true hpos)⟩
    obtain ⟨_, cs, ty', cv, h1, _, _⟩ := s.cells id _ _ (insAt_get hin hq0)
    refine ⟨cs, ty', h1, fun k q hk => ?_⟩
    have hl := insAt_get hin hk
    rw [Nat.zero_add] at hl
    obtain ⟨_, cs2, ty2, cv2, h2, h3, h4⟩ := s.cells id _ _ hl
    rw [h1] at h2
    cases h2
    exact ⟨cv2, h3, h4⟩
  refine (hc ho1 G.S w (G.μ id) us (fun w' k => E.stab w' (s.kw.trans k hb1)) s.stable hb3 hus hcells).mono ?_
  intro e w' h2
  cases o1 with
  | any => exact absurd rfl ho1
  | ret outs r =>
    obtain ⟨u, S', rfl, hr, hT⟩ := h2
    have := hret outs r rfl _ _ _ ((s.afterB hb0 htop hfit hcells hT).put hd hr)
    rw [← hdst] at this
    exact this
  | pan outs =>
    obtain ⟨S', rfl, hT⟩ := h2
    exact hpan outs rfl _ _ _ (s.afterB hb0 htop hfit hcells hT)
def badD : D := .list 1 [.agg []]
theorem badD_none {S : Stab} {u : Value} : ¬ Rel S badD u := fun h => by
  cases h with
  | list hc he => cases he with | cons hn _ _ => cases hn
theorem drawn_end {A : Prop} {X hdD : D} {id : Nat} {K : Act → World → Prop} (hX : A ∧ X = hdD ∨ X = badD) (hl : look st (.cell id 0) = some (.d X)) (h : A → X = hdD → Hits E st K) : Hits E st K := by
  rcases hX with ⟨h1, h2⟩ | h1
  · exact h h1 h2
  · intro G a w s
    obtain ⟨_, cs, ty, cv, _, _, hr⟩ := s.cells id 0 _ hl
    rw [h1] at hr
    exact absurd hr badD_none
def prRows (id d : Nat) (r X : D) (j : Nat) : St := [(.slot d, some (.d r)), (.cell id 0, some (.d X)), (.cell id 1, some (.d (.sc (.int .i64 (j : Int)))))]
theorem dq_pr0 {ω α : Type} {w0 : ω} {L : List ω} {p1 : Pr ω α} {i : Nat} {hdD : D} {tD1 : α → D} {lf l : List Oper} {acc : List Cert} {op : Oper} {f : FuncId} {args : Nat → List D} {pv : Value} {id : Nat} {Lx : List Loc} (q0 : α)
    (hne : p1.run w0 L i ≠ .oof) (hc : CallsX P E.Γ pv f [hdD, .sc (.int .i64 (i : Int))] args (ocOf hdD tD1 (p1.run w0 L i))) (hdst : op.dst = some d) (hgd : op.guard = none)
    (hrun : ∀ st', (∀ k ∈ Lx ++ [.box id, .cell id 0, .cell id 1], look st' k = look st k) → ∀ G a w, Sim E st' G a w → ∃ us, (execOp a.eval op).run P w = .ok (.enter f ⟨.pointer (some ⟨G.μ id, 0, none⟩) :: us⟩) w ∧ RelL G.S (args (G.μ id)) us)
    (hin : insAt st id 0 [hdD, .sc (.int .i64 (i : Int))]) (hbox : (look st (.box id)).isSome = true) (hd : d < E.N)
    (hpan : ∀ j, p1.run w0 L i = .bad j → ∀ st', (∀ k ∈ Lx ++ [.box id, .cell id 0, .cell id 1], look st' k = look st k) → Hits E ((.cell id 0, some (.d hdD)) :: (.cell id 1, some (.d (.sc (.int .i64 (j : Int))))) :: st') fun a w => Q (.panic (ch0 pv)) a w)
    (h : ∀ q j X, (p1.run w0 L i = .ok q j ∧ X = hdD ∨ X = badD) → Drawn P E lf Q (some (id, 2)) l (prRows id d (tD1 q) X j ++ st) (⟨Lx ++ [.box id, .cell id 0, .cell id 1], [], prRows id d (tD1 q) X j⟩ :: acc)) :
    Drawn P E lf Q (some (id, 2)) (op :: l) st acc := by
  have key : ∀ (r X : D) (j' : Nat) (hok : ∀ q j, p1.run w0 L i = .ok q j → r = tD1 q ∧ X = hdD ∧ j' = j), GOk P E Q (some (id, 2)) lf.toArray op st ⟨Lx ++ [.box id, .cell id 0, .cell id 1], [], prRows id d r X j'⟩ := by
    intro r X j' hok K st' hL _ ht hK G a w s
    have hin' : insAt st' id 0 [hdD, .sc (.int .i64 (i : Int))] := by
      obtain ⟨h1, h2, _⟩ := hin
      exact ⟨(hL _ (by simp)).trans h1, (hL _ (by simp)).trans h2, trivial⟩
    have hbox' : (look st' (.box id)).isSome = true := by rw [hL _ (by simp)]; exact hbox
    rw [if_pos (by simp [Region.wanted, hgd])]
    refine .inl (callX_wp (st := st') hdst (hrun st' hL) hc (by intro c; cases hr : p1.run w0 L i with
      | oof => exact hne hr
      | ok q j => rw [hr] at c; cases c
      | bad j => rw [hr] at c; cases c) (fits_ocOf _ _ _) hin' hbox' ht rfl hd (fun outs r' e => ?_) (fun outs e => ?_) G a w s)
    · cases hr : p1.run w0 L i with
      | oof => exact absurd hr hne
      | bad j => rw [hr] at e; cases e
      | ok q j =>
        rw [hr] at e; cases e
        obtain ⟨rfl, rfl, rfl⟩ := hok q j hr
        exact hK
    · cases hr : p1.run w0 L i with
      | oof => exact absurd hr hne
      | ok q j => rw [hr] at e; cases e
      | bad j =>
        rw [hr] at e; cases e
        exact hpan j hr st' hL
  cases hr : p1.run w0 L i with
  | oof => exact absurd hr hne
  | ok q j => exact dq_of (key (tD1 q) hdD j (fun q' j' h' => by rw [hr] at h'; cases h'; exact ⟨rfl, rfl, rfl⟩)) rfl (h q j hdD (.inl ⟨hr, rfl⟩))
  | bad j => exact dq_of (key (tD1 q0) badD j (fun q' j' h' => by rw [hr] at h'; cases h')) rfl (h q0 j badD (.inr rfl))
theorem dq_pr {ω α β : Type} {w0 : ω} {L : List ω} {p1 : Pr ω α} {k : α → Pr ω β} {i : Nat} {hdD : D} {tD : β → D} {tD1 : α → D} {o : Oc} {lf l : List Oper} {acc : List Cert} {f : FuncId} {xs : List Operand} {ats : Array TypeId} {ds : List D} {args : Nat → List D} {pv : Value} {b : Nat} (q0 : α)
    (hO : o = ocOf hdD tD ((p1.bind k).run w0 L i)) (hne : o ≠ .any) (hc : CallsX P E.Γ pv f [hdD, .sc (.int .i64 (i : Int))] args (ocOf hdD tD1 (p1.run w0 L i))) (hargs : args b = ds) (hen : enters P f = true) (hx : ev st x = some (.ptr 1000000 0)) (ha : evs st xs = some ds)
    (ho : E.outs = [b]) (hf : E.fix = [(1000000, b)]) (hin : insAt st 1000000 0 [hdD, .sc (.int .i64 (i : Int))]) (hbox : (look st (.box 1000000)).isSome = true) (hd : d < E.N)
    (hpan : ∀ a w, a.defers = [] → EndsX pv E.S0 E.w0 b (.panicked (ch0 pv)) w o → Q (.panic (ch0 pv)) a w)
    (h : ∀ q j X, ((p1.run w0 L i = .ok q j ∧ o = ocOf hdD tD ((k q).run w0 L j)) ∧ X = hdD ∨ X = badD) → Drawn P E lf Q (some (1000000, 2)) l ([(.slot d, some (.d (tD1 q))), (.cell 1000000 0, some (.d X)), (.cell 1000000 1, some (.d (.sc (.int .i64 (j : Int)))))] ++ st) (⟨(evL x ++ evsL xs) ++ [.box 1000000, .cell 1000000 0, .cell 1000000 1], [], [(.slot d, some (.d (tD1 q))), (.cell 1000000 0, some (.d X)), (.cell 1000000 1, some (.d (.sc (.int .i64 (j : Int)))))]⟩ :: acc)) :
    Drawn P E lf Q (some (1000000, 2)) (⟨some d, .call ⟨.value (.func f), (x :: xs).toArray, ats⟩, ty, pos, af, none⟩ :: l) st acc := by
  rw [run_bind] at hO
  refine dq_pr0 (Lx := evL x ++ evsL xs) q0 (fun c => by rw [c] at hO; exact hne hO) hc rfl rfl (fun st' hL G a w s => ?_) hin hbox hd (fun j hr st' hL => ?_) (fun q j X hX => h q j X (hX.imp (fun ⟨h1, h2⟩ => ⟨⟨h1, by rw [h1] at hO; exact hO⟩, h2⟩) id))
  · have e1 : a.eval x = .pointer (some ⟨G.μ 1000000, 0, none⟩) := s.ev ((ev_same hL fun l h => mem_l (mem_l h)).trans hx)
    have ef : a.eval (.func f) = .func (.func f) #[] #[] := rfl
    refine ⟨xs.map a.eval, by simp [execOp, resolve, ef, Deferred.ofValue, invoke, run_callFunc hen, e1], ?_⟩
    have hb0 : look st' (.box 1000000) ≠ none := by rw [hL _ (by simp)]; intro c; rw [c] at hbox; cases hbox
    rw [(s.rcv (1000000, b) (by rw [hf]; simp)).2 hb0, hargs]
    exact s.evs ((evs_same hL fun l h => mem_l (mem_r h)).trans ha)
  · intro G a w s
    refine hpan a w s.defers ?_
    rw [hr] at hO
    rw [hO]
    exact ⟨G.S, rfl, sim_tail s ho hf (by rw [look_ne _ _ (by simp), look_ne _ _ (by simp), hL _ (by simp)]; exact hbox) ⟨look_same .., by show look ((Loc.cell 1000000 0, some (V.d hdD)) :: (Loc.cell 1000000 1, some (V.d (D.sc (Value.int IntKind.i64 (j : Int))))) :: st') (.cell 1000000 1) = _; rw [look_ne _ _ (by simp)]; exact look_same .., trivial⟩ rfl⟩
theorem hits_cellD {K : Act → World → Prop} (id k : Nat) {q q' : D} (hl : look st (.cell id k) = some (.d q)) (hR : ∀ S v, Rel S q v → Rel S q' v) (h : Hits E ((.cell id k, some (.d q')) :: st) K) : Hits E st K := by
  intro G a w s
  have e1 : ∀ i, look ((Loc.cell id k, some (V.d q')) :: st) (.box i) = look st (.box i) := fun i => look_ne _ _ (by simp)
  have e2 : ∀ i, look ((Loc.cell id k, some (V.d q')) :: st) (.tip i) = look st (.tip i) := fun i => look_ne _ _ (by simp)
  refine h G a w ⟨s.kw, s.s0, s.snew, s.tmps, s.defers, fun t v hv => s.slots t v (by rw [look_ne _ _ (by simp)] at hv; exact hv), fun i o v hv => ?_, fun i hi => s.boxes i (by rw [e1] at hi; exact hi), fun i j hi hj => s.inj i j (by rw [e1] at hi; exact hi) (by rw [e1] at hj; exact hj), s.stable, fun i hi ht => ?_, fun i j hi hj => s.tinj i j (by rw [e2] at hi; exact hi) (by rw [e2] at hj; exact hj), fun p hp => ⟨(s.rcv p hp).1, fun hi => (s.rcv p hp).2 (by rw [e1] at hi; exact hi)⟩, fun i qv l hv hcl ht => s.conts i qv l (by rw [e2] at hv; exact hv) hcl ht, fun i v hv => ?_, fun j v hv => s.olds j v (by rw [look_ne _ _ (by simp)] at hv; exact hv)⟩
  · rw [look_cons] at hv
    split at hv
    · rename_i he
      obtain ⟨rfl, rfl⟩ : id = i ∧ k = o := by simpa using he
      obtain rfl := Option.some.inj hv
      obtain ⟨h1, cs, ty, cv, h2, h3, h4⟩ := s.cells id k _ hl
      exact ⟨by rw [e1]; exact h1, cs, ty, cv, h2, h3, hR _ _ h4⟩
    · obtain ⟨h1, h2⟩ := s.cells i o v hv
      exact ⟨by rw [e1]; exact h1, h2⟩
  · rw [e2] at hi
    obtain ⟨h1, h2, h3, h4⟩ := s.tips i hi ht
    exact ⟨h1, h2, h3, fun j hj => h4 j (by rw [e1] at hj; exact hj)⟩
  · rw [look_ne _ _ (by simp)] at hv
    obtain ⟨h1, h2⟩ := s.iters i v hv
    exact ⟨by rw [e1]; exact h1, h2⟩
theorem nil_list {es : Nat} : ∀ S v, Rel S (.sc (.slice none 0 0)) v → Rel S (.list es []) v := fun _ _ h => by cases h; exact .lnil
theorem hits_slotD {K : Act → World → Prop} (t : Nat) {q q' : D} (hl : look st (.slot t) = some (.d q)) (hR : ∀ S v, Rel S q v → Rel S q' v) (h : Hits E ((.slot t, some (.d q')) :: st) K) : Hits E st K := by
  intro G a w s
  have e0 : ∀ k : Loc, (∀ t, k ≠ .slot t) → look ((Loc.slot t, some (V.d q')) :: st) k = look st k := fun k hk => look_ne _ _ (fun c => hk t c.symm)
  refine h G a w ⟨s.kw, s.s0, s.snew, s.tmps, s.defers, fun u v hv => ?_, fun i o v hv => ?_, fun i hi => s.boxes i (by rw [e0 _ (by simp)] at hi; exact hi), fun i j hi hj => s.inj i j (by rw [e0 _ (by simp)] at hi; exact hi) (by rw [e0 _ (by simp)] at hj; exact hj), s.stable, fun i hi ht => ?_, fun i j hi hj => s.tinj i j (by rw [e0 _ (by simp)] at hi; exact hi) (by rw [e0 _ (by simp)] at hj; exact hj), fun p hp => ⟨(s.rcv p hp).1, fun hi => (s.rcv p hp).2 (by rw [e0 _ (by simp)] at hi; exact hi)⟩, fun i qv l hv hcl ht => s.conts i qv l (by rw [e0 _ (by simp)] at hv; exact hv) hcl ht, fun i v hv => ?_, fun j v hv => s.olds j v (by rw [e0 _ (by simp)] at hv; exact hv)⟩
  · rw [look_cons] at hv
    split at hv
    · rename_i he
      obtain rfl : t = u := by simpa using he
      obtain rfl := Option.some.inj hv
      exact hR _ _ (s.slots t _ hl)
    · exact s.slots u v hv
  · rw [e0 _ (by simp)] at hv ⊢; exact s.cells i o v hv
  · rw [e0 _ (by simp)] at hi
    obtain ⟨h1, h2, h3, h4⟩ := s.tips i hi ht
    exact ⟨h1, h2, h3, fun j hj => h4 j (by rw [e0 _ (by simp)] at hj; exact hj)⟩
  · rw [e0 _ (by simp)] at hv ⊢; exact s.iters i v hv
theorem hits_to {K : Act → World → Prop} (st' : St) (hk : st'.kept st) (hb : st'.boxed = true) (h : Hits E st' K) : Hits E st K := fun G a w s => h G a w (s.keep hk hb)
theorem f_methodValD {f : FuncId} {v : Value} (hx : ev st x = some (.d (.sc v))) (hd : d < E.N) :
    FOk P E ⟨some d, .makeFunc (.func f) #[x] #[], ty, pos, af, g⟩ st (evL x) [] [(.slot d, some (.d (.sc (.func (.func f) #[v] #[]))))] :=
  fok_val rfl hd fun st' G a w hL hs => by
    have e1 := hs.sc ((ev_same hL fun l h => h).trans hx)
    exact ⟨_, by simp [execOp, Instr.makeFunc, e1], .sc _⟩
theorem f_callMP {f : FuncId} {ats : Array TypeId} {es : List (ByteArray × Value)} {b : Nat} (hen : enters P f = true) (hx : ev st x = some (.ptr 1000000 0)) (hc : CallsM P E.Γ f [.sc (.pointer (some ⟨b, 0, none⟩))] es) (hf : E.fix = [(1000000, b)]) (hbox : (look st (.box 1000000)).isSome = true) (hd : d < E.N) :
    FOk P E ⟨some d, .call ⟨.value (.func f), #[x], ats⟩, ty, pos, af, g⟩ st (evL x ++ [.box 1000000]) [d] [(.slot d, some (.mapp d)), (.iter d, some (itV (.inr es) es.length)), (.box d, some (.ptr d 0))] := by
  intro Q K st' hL hfr hK G a w s
  have e1 : a.eval x = .pointer (some ⟨G.μ 1000000, 0, none⟩) := s.ev ((ev_same hL fun l h => mem_l h).trans hx)
  have hm : G.μ 1000000 = b := (s.rcv (1000000, b) (by rw [hf]; simp)).2 (by rw [hL (.box 1000000) (mem_r (by simp))]; intro c; rw [c] at hbox; cases hbox)
  have ef : a.eval (.func f) = .func (.func f) #[] #[] := rfl
  have hrun : (execOp a.eval (⟨some d, .call ⟨.value (.func f), #[x], ats⟩, ty, pos, af, g⟩ : Oper)).run P w = .ok (.enter f ⟨[.pointer (some ⟨b, 0, none⟩)]⟩) w := by
    simp [execOp, resolve, ef, Deferred.ofValue, invoke, run_callFunc hen, e1, hm]
  show Oper.upon P _ a _ Q _
  rw [hrun]
  refine (hc G.S w [.pointer (some ⟨b, 0, none⟩)] (E.stab w s.kw) s.stable (.cons (.sc _) .nil)).mono ?_
  rintro e w' ⟨r, rfl, h1, h2, h3, h4⟩
  exact hK _ _ _ ((s.adopt (.inr es) es.length hd (hfr d (by simp)) h4 h1 h2 h3).put hd (by show _ = _; simp [upd]))
end Go.Ab

/- The parser's small methods over data. -/
namespace Go.Proofs.YtogodijfdkffaaaGreatDoor.Ln
open Go Go.RowKit Go.Ab Go.Proofs 
theorem nif96 : nif Tryz.prog 96 = true := by kernel_rfl
theorem un27 : Tryz.prog.underlying 27 = some (.slice 37) := by kernel_rfl
theorem kf46_1 : kf Tryz.prog 46 1 = some 1 := by kernel_rfl
theorem kf46_0 : kf Tryz.prog 46 0 = some 0 := by kernel_rfl
theorem kd27 : kd Tryz.prog 27 = some (false, 1) := by kernel_rfl
theorem en33 : enters Tryz.prog 33 = true := by kernel_rfl
theorem bu96 : bk Tryz.prog 96 = some ([], []) := by kernel_rfl
theorem en86 : enters Tryz.prog 86 = true := by kernel_rfl
theorem en185 : enters Tryz.prog 185 = true := by kernel_rfl
theorem en214 : enters Tryz.prog 214 = true := by kernel_rfl
theorem en170 : enters Tryz.prog 170 = true := by kernel_rfl
theorem en134 : enters Tryz.prog 134 = true := by kernel_rfl
theorem en109 : enters Tryz.prog 109 = true := by kernel_rfl
theorem fp37_1 : fp Tryz.prog 37 1 = some (1, false, 1) := by kernel_rfl
theorem en35 : enters Tryz.prog 35 = true := by kernel_rfl
theorem fp37_0 : fp Tryz.prog 37 0 = some (0, false, 1) := by kernel_rfl
theorem fp37_2 : fp Tryz.prog 37 2 = some (2, true, 3) := by kernel_rfl
theorem fp35_2 : fp Tryz.prog 35 2 = some (2, false, 1) := by kernel_rfl
theorem us33 : (Tryz.prog.underlying 33).isSome = true := by kernel_rfl
theorem un3 : Tryz.prog.underlying 3 = some (.int .i64) := by kernel_rfl
theorem en121 : enters Tryz.prog 121 = true := by kernel_rfl
theorem en219 : enters Tryz.prog 219 = true := by kernel_rfl
theorem en122 : enters Tryz.prog 122 = true := by kernel_rfl
theorem zc132 : zc Tryz.prog 132 = some [.string ByteArray.empty, .int .i64 0] := by kernel_rfl
theorem kf132_0 : kf Tryz.prog 132 0 = some 0 := by kernel_rfl
theorem en126 : enters Tryz.prog 126 = true := by kernel_rfl
theorem kf132_1 : kf Tryz.prog 132 1 = some 1 := by kernel_rfl
theorem kd132 : kd Tryz.prog 132 = some (true, 2) := by kernel_rfl
abbrev Tx := List UInt8
abbrev PW (α : Type) := Pr Wd α
def wEnd : Wd := ⟨0, [], 0, 0, 0, 0⟩
def keyWords : List Tx := [[104, 101, 97, 100, 101, 114], [109, 101, 116, 97], [114, 101, 103, 105, 115, 116, 101, 114], [99, 111, 117, 110, 116, 101, 114], [109, 101, 116, 101, 114], [112, 97, 114, 115, 101, 114], [97, 99, 116, 105, 111, 110], [116, 97, 98, 108, 101], [99, 111, 110, 116, 114, 111, 108], [100, 101, 112, 97, 114, 115, 101, 114], [107, 101, 121], [97, 99, 116, 105, 111, 110, 115], [100, 101, 102, 97, 117, 108, 116], [115, 105, 122, 101], [116, 97, 107, 101], [103, 111], [115, 101, 108, 101, 99, 116], [101, 108, 115, 101], [101, 120, 97, 99, 116], [112, 114, 101, 102, 105, 120], [109, 97, 115, 107], [114, 97, 110, 103, 101], [105, 102], [97, 112, 112, 108, 121], [109, 97, 107, 101], [103, 111, 110, 101], [99, 111, 117, 110, 116], [114, 101, 97, 100], [119, 114, 105, 116, 101], [114, 97, 110, 100, 111, 109], [100, 114, 111, 112], [100, 105, 103, 101, 115, 116], [99, 108, 111, 110, 101], [97, 103, 97, 105, 110], [114, 111, 117, 110, 100], [118, 97, 108, 105, 100], [99, 97, 115, 116], [104, 97, 115, 104]]
def keyB (s : Tx) : Bool := keyWords.contains s
def mayP (s : Tx) : PW Bool := .look fun w => if (w.k = 4 ∨ w.k = 1) ∧ w.s = s then .take (.ret true) else .ret false
def needP : List Tx → PW Unit
  | [] => .ret ()
  | s :: r => (mayP s).bind fun b => if b = true then needP r else .bad
def mustP (c : Bool) : PW Wd := if c = true then .look fun w => .take (.ret w) else .bad
def nameP : PW Tx := .look fun w => (mustP (decide (w.k = 1) && !keyB w.s)).bind fun x => .ret x.s
def wholeP : PW Nat := .look fun w => (mustP (decide (w.k = 2))).bind fun x => .ret x.lo
def litP : PW (Nat × Nat × Nat) := .look fun w => (mustP (decide (w.k = 3))).bind fun x => .ret (x.w, x.hi, x.lo)
def txMeta : Tx := [109, 101, 116, 97]
def ownerP : PW Tx := (mayP txMeta).bind fun b => if b = true then .ret txMeta else nameP
def fieldP : PW (Tx × Tx) := ownerP.bind fun a => (needP [[46]]).bind fun _ => nameP.bind fun b => .ret (a, b)
def typedP : PW (Tx × Nat) := nameP.bind fun a => wholeP.bind fun n => .ret (a, n)
def someP {α : Type} (p : PW α) (e : Tx) : Nat → List α → PW (List α)
  | 0, _ => .oof
  | f + 1, acc => p.bind fun x => (mayP [44]).bind fun b => if b = true then someP p e f (acc ++ [x]) else (needP [e]).bind fun _ => .ret (acc ++ [x])
def rowP {α : Type} (p : PW α) (e : Tx) (f : Nat) : PW (List α) := (mayP e).bind fun b => if b = true then .ret [] else someP p e f []
def eachP {α : Type} (p : PW α) : Nat → List α → PW (List α)
  | 0, _ => .oof
  | f + 1, acc => (mayP [125]).bind fun b => if b = true then .ret acc else p.bind fun x => eachP p f (acc ++ [x])
def endedP {α : Type} (p : PW α) : PW α := p.bind fun x => (needP [[59]]).bind fun _ => .ret x
inductive Ex where
  | mk (op : Nat) (lw lh ll : Nat) (name field : Tx) (n m : Nat) (args : List Ex) (line : Nat)
inductive Sm where
  | mk (kind : Nat) (name field array : Tx) (n : Nat) (args : List Ex) (body els : List Sm) (line : Nat)
def twoOf (s : Tx) : Option (Nat × Nat) := [([124, 124], 22, 0), ([38, 38], 21, 1), ([61, 61], 17, 2), ([33, 61], 18, 2), ([60], 19, 2), ([60, 61], 20, 2), ([38], 8, 3), ([124], 9, 3), ([94], 10, 3), ([43], 5, 4), ([45], 6, 4), ([43, 43], 14, 5), ([42], 7, 6), ([60, 60], 12, 7), ([62, 62], 13, 7)].findSome? fun p => if p.1 = s then some p.2 else none
def exUn (op : Nat) (args : List Ex) (line : Nat) : Ex := .mk op 0 0 0 [] [] 0 0 args line
mutual
/-- So tightly at least (0 to 7); 8: behind ~; 9: without signs. -/
def exP : Nat → Nat → PW Ex
  | 0, _ => .oof
  | f + 1, lv => if lv ≤ 7 then .look fun w => (exP f (lv + 1)).bind fun x => exL f lv w.ln x
    else if lv = 8 then .look fun w => (mayP [126]).bind fun b => if b = true then (exP f 8).bind fun x => .ret (exUn 11 [x] w.ln) else (exP f 9).bind fun x => exS f w.ln x
    else .look fun w => if w.k = 3 then litP.bind fun l => .ret (.mk 1 l.1 l.2.1 l.2.2 [] [] 0 0 [] w.ln)
      else (mayP [118, 97, 108, 105, 100]).bind fun b => if b = true then nameP.bind fun s => .ret (.mk 4 0 0 0 s [] 0 0 [] w.ln)
      else (mayP [99, 97, 115, 116]).bind fun b => if b = true then wholeP.bind fun n => (needP [[40]]).bind fun _ => (exP f 0).bind fun x => (needP [[41]]).bind fun _ => .ret (.mk 16 0 0 0 [] [] n 0 [x] w.ln)
      else (mayP [104, 97, 115, 104]).bind fun b => if b = true then nameP.bind fun s => (needP [[40]]).bind fun _ => (exR f [41] []).bind fun l => .ret (.mk 23 0 0 0 s [] 0 0 l w.ln)
      else (mayP [40]).bind fun b => if b = true then (exP f 0).bind fun x => (needP [[41]]).bind fun _ => .ret x
      else ownerP.bind fun s => if s = txMeta then (needP [[46]]).bind fun _ => nameP.bind fun t => .ret (.mk 2 0 0 0 s t 0 0 [] w.ln)
        else (mayP [46]).bind fun b => if b = true then nameP.bind fun t => .ret (.mk 2 0 0 0 s t 0 0 [] w.ln) else .ret (.mk 3 0 0 0 s [] 0 0 [] w.ln)
/-- Signs that bind so tightly, one behind the other. -/
def exL : Nat → Nat → Nat → Ex → PW Ex
  | 0, _, _, _ => .oof
  | f + 1, lv, line, x => .look fun w => match twoOf w.s with
    | none => .ret x
    | some (op, b) => if w.k = 4 ∧ b = lv then .take ((exP f (lv + 1)).bind fun y => if lv = 2 then .ret (exUn op [x, y] line) else exL f lv line (exUn op [x, y] line)) else .ret x
/-- Slices behind an expression. -/
def exS : Nat → Nat → Ex → PW Ex
  | 0, _, _ => .oof
  | f + 1, line, x => (mayP [91]).bind fun b => if b = true then wholeP.bind fun n => (needP [[58]]).bind fun _ => wholeP.bind fun m => (needP [[93]]).bind fun _ => exS f line (.mk 15 0 0 0 [] [] n m [x] line) else .ret x
/-- Expressions with commas between them, up to a sign. -/
def exR : Nat → Tx → List Ex → PW (List Ex)
  | 0, _, _ => .oof
  | f + 1, e, acc => (exP f 0).bind fun x => (mayP [44]).bind fun b => if b = true then exR f e (acc ++ [x]) else (needP [e]).bind fun _ => .ret (acc ++ [x])
end
def indexP (f : Nat) : PW Ex := (needP [[91]]).bind fun _ => (exP f 0).bind fun x => (needP [[93]]).bind fun _ => .ret x
def simples : List (Tx × Nat × Nat) := [([97, 112, 112, 108, 121], 3, 0), ([109, 97, 107, 101], 5, 0), ([103, 111, 110, 101], 6, 0), ([99, 111, 117, 110, 116], 7, 1), ([114, 101, 97, 100], 8, 2), ([119, 114, 105, 116, 101], 9, 3), ([109, 101, 116, 101, 114], 10, 2), ([114, 97, 110, 100, 111, 109], 11, 4), ([100, 114, 111, 112], 12, 5), ([97, 103, 97, 105, 110], 15, 5), ([114, 111, 117, 110, 100], 16, 5), ([99, 108, 111, 110, 101], 14, 6)]
def simpleOf (s : Tx) : Option (Nat × Nat) := simples.findSome? fun p => if p.1 = s then some p.2 else none
def formP (f kind line : Nat) : Nat → PW Sm
  | 0 => nameP.bind fun s => .ret (.mk kind s [] [] 0 [] [] [] line)
  | 1 => nameP.bind fun s => (indexP f).bind fun x => .ret (.mk kind s [] [] 0 [x] [] [] line)
  | 2 => fieldP.bind fun p => (needP [[61]]).bind fun _ => nameP.bind fun a => (indexP f).bind fun x => .ret (.mk kind p.1 p.2 a 0 [x] [] [] line)
  | 3 => nameP.bind fun a => (indexP f).bind fun x => (needP [[61]]).bind fun _ => (exP f 0).bind fun y => .ret (.mk kind [] [] a 0 [x, y] [] [] line)
  | 4 => fieldP.bind fun p => .ret (.mk kind p.1 p.2 [] 0 [] [] [] line)
  | 5 => .ret (.mk kind [] [] [] 0 [] [] [] line)
  | _ => wholeP.bind fun n => .ret (.mk kind [] [] [] n [] [] [] line)
mutual
/-- A statement. -/
def smP : Nat → PW Sm
  | 0 => .oof
  | f + 1 => .look fun w => match (if w.k = 1 then simpleOf w.s else none) with
    | some (kind, form) => .take ((formP f kind w.ln form).bind fun x => (needP [[59]]).bind fun _ => .ret x)
    | none => (mayP [105, 102]).bind fun b => if b = true then (exP f 0).bind fun x => (blP f).bind fun l => (mayP [101, 108, 115, 101]).bind fun c => if c = true then (blP f).bind fun m => .ret (.mk 2 [] [] [] 0 [x] l m w.ln) else .ret (.mk 2 [] [] [] 0 [x] l [] w.ln)
      else (mayP [100, 105, 103, 101, 115, 116]).bind fun b => if b = true then (exR f [59] []).bind fun l => .ret (.mk 13 [] [] [] 0 l [] [] w.ln)
      else ownerP.bind fun s => (if s = txMeta then .ret false else mayP [40]).bind fun b => if b = true then (mayP [41]).bind fun c => (if c = true then .ret [] else exR f [41] []).bind fun l => (needP [[59]]).bind fun _ => .ret (.mk 4 s [] [] 0 l [] [] w.ln)
        else (needP [[46]]).bind fun _ => nameP.bind fun t => (needP [[61]]).bind fun _ => (exP f 0).bind fun x => (needP [[59]]).bind fun _ => .ret (.mk 1 s t [] 0 [x] [] [] w.ln)
/-- Statements in { }. -/
def blP : Nat → PW (List Sm)
  | 0 => .oof
  | f + 1 => (needP [[123]]).bind fun _ => smsP f []
def smsP : Nat → List Sm → PW (List Sm)
  | 0, _ => .oof
  | f + 1, acc => (mayP [125]).bind fun b => if b = true then .ret acc else (smP f).bind fun x => smsP f (acc ++ [x])
end
abbrev N3 := Nat × Nat × Nat
structure Cs where
  v : N3
  m : N3
  dest : Tx
structure Stt where
  name : Tx
  headers : List Tx
  sel : List Ex
  cases : List Cs
  dest : Tx
  line : Nat
structure Dc where
  kind : Nat
  name : Tx
  fields : List (Tx × Nat)
  w : Nat
  n : Nat
  rate : Nat
  burst : Nat
  states : List Stt
  keys : List (Ex × Nat)
  actions : List Tx
  default : Tx
  args : List N3
  body : List Sm
  emits : List Tx
  line : Nat
def onesV (w : Nat) : N3 := if w ≤ 64 then (w, 0, 2 ^ w - 1) else (w, 2 ^ (w - 64) - 1, 18446744073709551615)
def kaseP : PW Cs := litP.bind fun v => (mayP [38]).bind fun b => (if b = true then litP else .ret (onesV v.1)).bind fun m => (needP [[58]]).bind fun _ => nameP.bind fun t => (needP [[59]]).bind fun _ => .ret ⟨v, m, t⟩
def casesP : Nat → List Cs → PW (List Cs)
  | 0, _ => .oof
  | f + 1, acc => .look fun w => if w.k = 3 then kaseP.bind fun c => casesP f (acc ++ [c]) else .ret acc
def takesP : Nat → List Tx → PW (List Tx)
  | 0, _ => .oof
  | f + 1, acc => (mayP [116, 97, 107, 101]).bind fun b => if b = true then nameP.bind fun s => (needP [[59]]).bind fun _ => takesP f (acc ++ [s]) else .ret acc
def stateP (f : Nat) : PW Stt := .look fun w => nameP.bind fun s => (needP [[123]]).bind fun _ => (takesP f []).bind fun hs => (mayP [115, 101, 108, 101, 99, 116]).bind fun b =>
  if b = true then (exP f 0).bind fun x => (needP [[123]]).bind fun _ => (casesP f []).bind fun cs => (needP [[101, 108, 115, 101]]).bind fun _ => nameP.bind fun t => (needP [[59], [125], [125]]).bind fun _ => .ret ⟨s, hs, [x], cs, t, w.ln⟩
  else (needP [[103, 111]]).bind fun _ => nameP.bind fun t => (needP [[59], [125]]).bind fun _ => .ret ⟨s, hs, [], [], t, w.ln⟩
def kindP : List (Tx × Nat) → PW Nat
  | [] => .bad
  | p :: r => (mayP p.1).bind fun b => if b = true then .ret p.2 else kindP r
def keyP (f : Nat) : PW (Ex × Nat) := (exP f 0).bind fun x => (kindP [([101, 120, 97, 99, 116], 1), ([112, 114, 101, 102, 105, 120], 2), ([109, 97, 115, 107], 3), ([114, 97, 110, 103, 101], 4)]).bind fun k => .ret (x, k)
def namesP : Nat → List Tx → PW (List Tx)
  | 0, _ => .oof
  | f + 1, acc => (mayP [59]).bind fun b => if b = true then .ret acc else nameP.bind fun s => namesP f (acc ++ [s])
def dc0 (kind line : Nat) : Dc := ⟨kind, [], [], 0, 0, 0, 0, [], [], [], [], [], [], [], line⟩
def fieldsP (f : Nat) : PW (List (Tx × Nat)) := (needP [[123]]).bind fun _ => eachP (endedP typedP) f []
def onP (f line : Nat) : Nat → PW Dc
  | 1 => nameP.bind fun s => (fieldsP f).bind fun l => .ret { dc0 1 line with name := s, fields := l }
  | 2 => (fieldsP f).bind fun l => .ret { dc0 2 line with fields := l }
  | 3 => nameP.bind fun s => wholeP.bind fun w => wholeP.bind fun n => (needP [[59]]).bind fun _ => .ret { dc0 3 line with name := s, w := w, n := n }
  | 4 => nameP.bind fun s => wholeP.bind fun n => (needP [[59]]).bind fun _ => .ret { dc0 4 line with name := s, n := n }
  | 5 => nameP.bind fun s => wholeP.bind fun n => wholeP.bind fun r => wholeP.bind fun u => (needP [[59]]).bind fun _ => .ret { dc0 5 line with name := s, n := n, rate := r, burst := u }
  | 6 => (needP [[123]]).bind fun _ => (eachP (stateP f) f []).bind fun l => .ret { dc0 6 line with states := l }
  | 7 => nameP.bind fun s => (needP [[40]]).bind fun _ => (rowP typedP [41] f).bind fun l => (blP f).bind fun m => .ret { dc0 7 line with name := s, fields := l, body := m }
  | 8 => nameP.bind fun s => (needP [[123], [107, 101, 121], [123]]).bind fun _ => (eachP (endedP (keyP f)) f []).bind fun ks => (needP [[97, 99, 116, 105, 111, 110, 115]]).bind fun _ => nameP.bind fun a => (namesP f [a]).bind fun al => (needP [[100, 101, 102, 97, 117, 108, 116]]).bind fun _ => nameP.bind fun d => (needP [[40]]).bind fun _ => (rowP litP [41] f).bind fun l => (needP [[59], [115, 105, 122, 101]]).bind fun _ => wholeP.bind fun n => (needP [[59], [125]]).bind fun _ => .ret { dc0 8 line with name := s, keys := ks, actions := al, default := d, args := l, n := n }
  | 9 => (blP f).bind fun m => .ret { dc0 9 line with body := m }
  | 10 => (needP [[123]]).bind fun _ => (eachP (endedP nameP) f []).bind fun l => .ret { dc0 10 line with emits := l }
  | _ => .bad
def declsT : List (Tx × Nat) := [([104, 101, 97, 100, 101, 114], 1), ([109, 101, 116, 97], 2), ([114, 101, 103, 105, 115, 116, 101, 114], 3), ([99, 111, 117, 110, 116, 101, 114], 4), ([109, 101, 116, 101, 114], 5), ([112, 97, 114, 115, 101, 114], 6), ([97, 99, 116, 105, 111, 110], 7), ([116, 97, 98, 108, 101], 8), ([99, 111, 110, 116, 114, 111, 108], 9), ([100, 101, 112, 97, 114, 115, 101, 114], 10)]
def declOf (s : Tx) : Option Nat := declsT.findSome? fun p => if p.1 = s then some p.2 else none
def declP (f : Nat) : PW Dc := .look fun w => (mustP (decide (w.k = 1) && (declOf w.s).isSome)).bind fun _ => onP f w.ln ((declOf w.s).getD 0)
def progP : Nat → List Dc → PW (List Dc)
  | 0, _ => .oof
  | f + 1, acc => .look fun w => if w.k = 0 then .ret acc else (declP f).bind fun d => progP f (acc ++ [d])
def txD (s : Tx) : D := .sc (.string (B s))
def nD (n : Nat) : D := .sc (.int .i64 (n : Int))
mutual
def exD : Ex → D
  | .mk op lw lh ll name field n m args line => .agg [.sc (.int .u8 (op : Int)), nD lw, .sc (.int .u64 (lh : Int)), .sc (.int .u64 (ll : Int)), txD name, txD field, nD n, nD m, .list 10 (exDs args), nD line]
def exDs : List Ex → List D
  | [] => []
  | x :: l => exD x :: exDs l
end
mutual
def smD : Sm → D
  | .mk kind name field array n args body els line => .agg [.sc (.int .u8 (kind : Int)), txD name, txD field, txD array, nD n, .list 10 (exDs args), .list 9 (smDs body), .list 9 (smDs els), nD line]
def smDs : List Sm → List D
  | [] => []
  | x :: l => smD x :: smDs l
end
def LDw (L : List Wd) : D := .list 6 (L.map wordD)
def pvN : Value := .iface 96 (.agg ⟨[]⟩)
theorem mayP_yes {L : List Wd} {i : Nat} {s : Tx} (hk : (wordAt wEnd L i).k = 4 ∨ (wordAt wEnd L i).k = 1) (hs : (wordAt wEnd L i).s = s) : (mayP s).run wEnd L i = .ok true (i + 1) := by
  unfold mayP
  simp only [Pr.run]
  rw [if_pos ⟨hk, hs⟩]
  rfl
theorem mayP_no {L : List Wd} {i : Nat} {s : Tx} (h4 : ¬ ((wordAt wEnd L i).k = 4 ∧ (wordAt wEnd L i).s = s)) (h1 : ¬ ((wordAt wEnd L i).k = 1 ∧ (wordAt wEnd L i).s = s)) : (mayP s).run wEnd L i = .ok false i := by
  unfold mayP
  simp only [Pr.run]
  rw [if_neg (by rintro ⟨h | h, hs⟩; exact h4 ⟨h, hs⟩; exact h1 ⟨h, hs⟩)]
  rfl
theorem word_in {L : List Wd} {i : Nat} (h : (wordAt wEnd L i).k ≠ 0) : i < L.length := by
  rcases Nat.lt_or_ge i L.length with h' | h'
  · exact h'
  · exact absurd (by unfold wordAt; rw [List.getElem?_eq_none h']; rfl) h
theorem may_le {L : List Wd} {i j : Nat} {s : Tx} {b : Bool} (h : (mayP s).run wEnd L i = .ok b j) (hi : i ≤ L.length) : j ≤ L.length := by
  by_cases h4 : (wordAt wEnd L i).k = 4 ∧ (wordAt wEnd L i).s = s
  · rw [mayP_yes (.inl h4.1) h4.2] at h; cases h; exact word_in (by rw [h4.1]; decide)
  by_cases h1 : (wordAt wEnd L i).k = 1 ∧ (wordAt wEnd L i).s = s
  · rw [mayP_yes (.inr h1.1) h1.2] at h; cases h; exact word_in (by rw [h1.1]; decide)
  rw [mayP_no h4 h1] at h; cases h; exact hi
theorem list_at {α : Type} {l : List α} {i : Nat} {c : α} (h : l[i]? = some c) : l.drop i = c :: l.drop (i + 1) := by
  obtain ⟨h1, h2⟩ := List.getElem?_eq_some_iff.mp h
  rw [List.drop_eq_getElem_cons h1, h2]
theorem txs_at {ts : List Tx} {i : Nat} {s : Tx} (h : ts[i]? = some s) : (ts.map txD)[((i : Int)).toNat]? = some (txD s) := by
  rw [Int.toNat_natCast, List.getElem?_map, h]; rfl
theorem fields_g {l : List UInt8} {ts : List Tx} (hl : l.length ≤ 4096) (ha : (l.all fun b => decide (b.toNat < 128)) = true) (hf : Lib.fields l = ts) : CallsP Tryz.prog Lw 93 [.sc (.string (B l))] (.list 1 (ts.map txD)) := by
  intro S w us hg hS hus
  obtain rfl := rels_plain (vs := [.string (B l)]) rfl hus
  refine (Tryz.strings_Fields (B l) w (by rw [B_size]; omega) (fun j b hb => ?_) hg.space).mono ?_
  · rw [B_toList] at hb
    exact of_decide_eq_true (List.all_eq_true.mp ha b (List.mem_of_getElem? hb))
  · rintro e w' ⟨rfl, rfl⟩
    rw [B_toList, hf]
    obtain ⟨S', h1, h2, h3, h4⟩ := newlist hS (ts.map fun l => Value.string ⟨l.toArray⟩) 9
    refine ⟨_, S', rfl, ?_, h2, h3, h4⟩
    rw [List.map_map, List.length_map] at h1
    exact h1
def ixG : List Tx → Tx → Nat → Int
  | [], _, _ => -1
  | t :: r, s, k => if s = t then (k : Int) else ixG r s (k + 1)
theorem ixG_ge : ∀ (ts : List Tx) (s : Tx) (k : Nat), decide (ixG ts s k ≥ 0) = ts.contains s
  | [], s, k => rfl
  | t :: r, s, k => by
    rw [ixG]
    by_cases h : s = t
    · subst h; rw [if_pos rfl, decide_eq_true (by omega)]; simp
    · rw [if_neg h, ixG_ge r s (k + 1)]
      simp only [List.contains_cons]
      rw [show (s == t) = false from by simpa using h, Bool.false_or]
def Tame {α : Type} (p : PW α) : Prop := ∀ {L : List Wd} {i j : Nat} {a : α}, p.run wEnd L i = .ok a j → i ≤ L.length → i ≤ j ∧ j ≤ L.length
def Eager {α : Type} (p : PW α) : Prop := ∀ {L : List Wd} {i j : Nat} {a : α}, p.run wEnd L i = .ok a j → i ≤ L.length → i < j ∧ j ≤ L.length
theorem Eager.tame {α : Type} {p : PW α} (h : Eager p) : Tame p := fun hr hi => ⟨Nat.le_of_lt (h hr hi).1, (h hr hi).2⟩
theorem run_ok {α β : Type} {p : PW α} {k : α → PW β} {L : List Wd} {i j : Nat} {b : β} (h : (p.bind k).run wEnd L i = .ok b j) : ∃ a m, p.run wEnd L i = .ok a m ∧ (k a).run wEnd L m = .ok b j := by
  rw [run_bind] at h
  cases hp : p.run wEnd L i with
  | ok a m => rw [hp] at h; exact ⟨a, m, rfl, h⟩
  | bad m => rw [hp] at h; cases h
  | oof => rw [hp] at h; cases h
theorem tame_ret {α : Type} (a : α) : Tame (.ret a : PW α) := fun h hi => by cases h; exact ⟨Nat.le_refl _, hi⟩
theorem tame_bad {α : Type} : Tame (.bad : PW α) := fun h hi => by cases h
theorem tame_bind {α β : Type} {p : PW α} {k : α → PW β} (hp : Tame p) (hk : ∀ a, Tame (k a)) : Tame (p.bind k) := fun h hi => by
  obtain ⟨a, m, h1, h2⟩ := run_ok h
  obtain ⟨q1, q2⟩ := hp h1 hi
  obtain ⟨q3, q4⟩ := hk a h2 q2
  exact ⟨Nat.le_trans q1 q3, q4⟩
theorem eager_bind {α β : Type} {p : PW α} {k : α → PW β} (hp : Eager p) (hk : ∀ a, Tame (k a)) : Eager (p.bind k) := fun h hi => by
  obtain ⟨a, m, h1, h2⟩ := run_ok h
  obtain ⟨q1, q2⟩ := hp h1 hi
  obtain ⟨q3, q4⟩ := hk a h2 q2
  exact ⟨Nat.lt_of_lt_of_le q1 q3, q4⟩
theorem tame_look {α : Type} {k : Wd → PW α} (h : ∀ w, Tame (k w)) : Tame (.look k) := fun hr hi => h _ hr hi
theorem tame_ite {α : Type} {c : Prop} [Decidable c] {p q : PW α} (hp : Tame p) (hq : Tame q) : Tame (if c then p else q) := by split; exact hp; exact hq
theorem may_at {L : List Wd} {i j : Nat} {s : Tx} {b : Bool} (h : (mayP s).run wEnd L i = .ok b j) : (b = true ∧ j = i + 1 ∧ i < L.length) ∨ (b = false ∧ j = i) := by
  by_cases h4 : (wordAt wEnd L i).k = 4 ∧ (wordAt wEnd L i).s = s
  · rw [mayP_yes (.inl h4.1) h4.2] at h; cases h; exact .inl ⟨rfl, rfl, word_in (by rw [h4.1]; decide)⟩
  by_cases h1 : (wordAt wEnd L i).k = 1 ∧ (wordAt wEnd L i).s = s
  · rw [mayP_yes (.inr h1.1) h1.2] at h; cases h; exact .inl ⟨rfl, rfl, word_in (by rw [h1.1]; decide)⟩
  rw [mayP_no h4 h1] at h; cases h; exact .inr ⟨rfl, rfl⟩
theorem tame_may (s : Tx) : Tame (mayP s) := fun h hi => by
  rcases may_at h with ⟨_, rfl, q⟩ | ⟨_, rfl⟩
  · exact ⟨by omega, q⟩
  · exact ⟨Nat.le_refl _, hi⟩
theorem tame_need : ∀ ts : List Tx, Tame (needP ts)
  | [] => tame_ret ()
  | s :: r => tame_bind (tame_may s) fun b => tame_ite (tame_need r) tame_bad
theorem must_ok {L : List Wd} {c : Bool} {i j : Nat} {q : Wd} (h : (mustP c).run wEnd L i = .ok q j) : c = true ∧ q = wordAt wEnd L i ∧ j = i + 1 := by
  cases c with
  | false => cases h
  | true => cases h; exact ⟨rfl, rfl, rfl⟩
theorem eager_must {α : Type} {c : Wd → Bool} {k : Wd → Wd → α} (hc : ∀ w, c w = true → w.k ≠ 0) : Eager (.look fun w => (mustP (c w)).bind fun x => .ret (k w x) : PW α) := fun h hi => by
  obtain ⟨a, m, h1, h2⟩ := run_ok (p := mustP (c (wordAt wEnd _ _))) h
  obtain ⟨q1, _, rfl⟩ := must_ok h1
  cases h2
  exact ⟨Nat.lt_succ_self _, word_in (hc _ q1)⟩
theorem eager_name : Eager nameP := eager_must (c := fun w => decide (w.k = 1) && !keyB w.s) (k := fun _ x => x.s) fun w h => by
  have := (Bool.and_eq_true _ _ ▸ h : decide (w.k = 1) = true ∧ _).1
  rw [of_decide_eq_true this]; decide
theorem eager_whole : Eager wholeP := eager_must (c := fun w => decide (w.k = 2)) (k := fun _ x => x.lo) fun w h => by rw [of_decide_eq_true h]; decide
theorem eager_lit : Eager litP := eager_must (c := fun w => decide (w.k = 3)) (k := fun _ x => (x.w, x.hi, x.lo)) fun w h => by rw [of_decide_eq_true h]; decide
theorem tame_owner : Tame ownerP := tame_bind (tame_may _) fun b => tame_ite (tame_ret _) eager_name.tame
theorem bind_ret {ω α : Type} : ∀ p : Pr ω α, p.bind .ret = p
  | .ret a => rfl
  | .bad => rfl
  | .oof => rfl
  | .look f => by show Pr.look _ = _; congr 1; funext x; exact bind_ret (f x)
  | .take p => by show Pr.take _ = _; rw [bind_ret p]
def n3D (q : Nat × Nat × Nat) : D := .agg [nD q.1, .sc (.int .u64 (q.2.1 : Int)), .sc (.int .u64 (q.2.2 : Int))]
def fdD (q : Tx × Nat) : D := .agg [txD q.1, nD q.2]
def Small (L : List Wd) : Prop := ∀ x ∈ L, x.k = 2 → x.lo ≤ 2147483647
theorem small_at {L : List Wd} (h : Small L) {i : Nat} (hk : (wordAt wEnd L i).k = 2) : (wordAt wEnd L i).lo ≤ 2147483647 := by
  have hi := word_in (L := L) (i := i) (by rw [hk]; decide)
  obtain ⟨x, hx⟩ : ∃ x, L[i]? = some x := ⟨_, List.getElem?_eq_getElem hi⟩
  have e : wordAt wEnd L i = x := by unfold wordAt; rw [hx]; rfl
  rw [e] at hk ⊢
  exact h x (List.mem_of_getElem? hx) hk
theorem next_c {L : List Wd} {i : Nat} (hL : L.length ≤ 65536) (hi : i ≤ L.length)  : CallsB Tryz.prog Lw 33 [LDw L, .sc (.int .i64 (i : Int))] [] [LDw L, .sc (.int .i64 (i : Int))] (wordD (wordAt wEnd L i)) := by
  have hll : (L.map wordD).length = L.length := List.length_map _
  refine callsB_of Tryz.func33 rfl Tryz.ntmps33 rfl rfl fun w0 S0 b stab => ?_
  refine sqq <| rgq <| sq (f_alloc zc37 (lt rfl)) rfl rfl <| nxq <| sqq <| sqq ?_
  by_cases he : i = L.length
  · have hw : wordAt wEnd L i = wEnd := by unfold wordAt; rw [List.getElem?_eq_none (by omega)]; rfl
    refine hits_drawn mixed <| dq (f_move rfl (lt rfl)) rfl rfl <| dq (f_nil rfl rfl (lt rfl)) rfl rfl <| dq (f_fieldAddr rfl kf46_1 rfl (lt rfl)) rfl rfl <| dq (f_load kd3 rfl rfl (lt rfl)) rfl rfl <| dq (f_move rfl (lt rfl)) rfl rfl <| dq (f_nil rfl rfl (lt rfl)) rfl rfl <| dq (f_fieldAddr rfl kf46_0 rfl (lt rfl)) rfl rfl ?_
    refine dq (f_load kd27 rfl rfl (lt rfl)) rfl rfl <| dq (f_lenList rfl rfl un27 (lt rfl)) rfl rfl <| dq (f_bin rfl rfl (bT (beq_iff_eq.mpr (by rw [hll, he]))) (lt rfl)) rfl rfl ?_
    refine dq_nil rfl <| toq <| cnT rfl <| sqq <| rgq <| sq (f_build bu37 rfl rfl (lt rfl)) rfl rfl <| soq kd37 rfl rfl rfl rfl rfl <| nxq ?_
    refine rtq <| to_ret ?_
    exact hits_doneB (.inl rfl) rfl rfl rfl (by rw [hw]; rfl) rfl ⟨rfl, rfl, trivial⟩ rfl
  · obtain ⟨x, hx⟩ : ∃ x, L[i]? = some x := ⟨_, List.getElem?_eq_getElem (by omega)⟩
    have hw : wordAt wEnd L i = x := by unfold wordAt; rw [hx]; rfl
    have hat : (L.map wordD)[((i : Int)).toNat]? = some (wordD x) := by rw [Int.toNat_natCast, List.getElem?_map, hx]; rfl
    refine hits_drawn mixed <| dq (f_move rfl (lt rfl)) rfl rfl <| dq (f_nil rfl rfl (lt rfl)) rfl rfl <| dq (f_fieldAddr rfl kf46_1 rfl (lt rfl)) rfl rfl <| dq (f_load kd3 rfl rfl (lt rfl)) rfl rfl <| dq (f_move rfl (lt rfl)) rfl rfl <| dq (f_nil rfl rfl (lt rfl)) rfl rfl <| dq (f_fieldAddr rfl kf46_0 rfl (lt rfl)) rfl rfl ?_
    refine dq (f_load kd27 rfl rfl (lt rfl)) rfl rfl <| dq (f_lenList rfl rfl un27 (lt rfl)) rfl rfl <| dq (f_bin rfl rfl (bT (beq_eq_false_iff_ne.mpr (by rw [hll]; omega))) (lt rfl)) rfl rfl ?_
    refine dq_nil rfl <| toq <| cnF rfl <| skq <| toq <| sqq <| hits_drawn mixed <| dq (f_move rfl (lt rfl)) rfl rfl ?_
    refine dq (f_nil rfl rfl (lt rfl)) rfl rfl <| dq (f_fieldAddr rfl kf46_0 rfl (lt rfl)) rfl rfl <| dq (f_load kd27 rfl rfl (lt rfl)) rfl rfl <| dq (f_move rfl (lt rfl)) rfl rfl <| dq (f_nil rfl rfl (lt rfl)) rfl rfl <| dq (f_fieldAddr rfl kf46_1 rfl (lt rfl)) rfl rfl <| dq (f_load kd3 rfl rfl (lt rfl)) rfl rfl <| dq (f_idxList rfl rfl rfl un27 kd37 (Int.natCast_nonneg _) hat (lt rfl)) rfl rfl ?_
    refine dq (f_load kd37 rfl rfl (lt rfl)) rfl rfl <| dq (f_store kd37 rfl rfl rfl rfl rfl) rfl rfl <| dq_nil rfl <| toq <| rtq ?_
    exact hits_doneB (.inl rfl) rfl rfl rfl (by rw [hw]; rfl) rfl ⟨rfl, rfl, trivial⟩ rfl
theorem is_c {L : List Wd} {i : Nat} (hL : L.length ≤ 65536) (hi : i ≤ L.length) (k : Nat) (s : Tx) : CallsB Tryz.prog Lw 185 [LDw L, .sc (.int .i64 (i : Int))] [.sc (.int .u8 (k : Int)), txD s] [LDw L, .sc (.int .i64 (i : Int))] (.sc (.bool (decide ((wordAt wEnd L i).k = k ∧ (wordAt wEnd L i).s = s)))) := by
  refine callsB_of Tryz.func185 rfl Tryz.ntmps185 rfl rfl fun w0 S0 b stab => ?_
  refine sqq <| rgq <| asq rfl rfl <| nxq <| sqq <| rgq <| mvq rfl rfl <| sq_callB en33 rfl rfl (next_c hL hi) ⟨rfl, rfl, trivial⟩ rfl rfl rfl rfl (lt rfl) ?_
  refine sq (f_alloc zc37 (lt rfl)) rfl rfl <| soq kd37 rfl rfl rfl rfl rfl <| nxq <| sqq ?_
  by_cases hk : (wordAt wEnd L i).k = k
  · refine rgq <| faq rfl kf37_0 rfl rfl <| ldq kd32 rfl rfl rfl <| mvq rfl rfl <| sq (f_bin rfl rfl (bT (beq_iff_eq.mpr (by rw [hk]))) (lt rfl)) rfl rfl ?_
    refine mvq rfl rfl <| sq_yes (f_fieldAddr rfl kf37_1 rfl (lt rfl)) rfl rfl rfl rfl (lt rfl) <| sq_yes (f_load kd9 rfl rfl (lt rfl)) rfl rfl rfl rfl (lt rfl) <| sq_yes (f_move rfl (lt rfl)) rfl rfl rfl rfl (lt rfl) <| sq_yes (f_bin rfl rfl (bT ((B_beq _ _))) (lt rfl)) rfl rfl rfl rfl (lt rfl) <| pkq rfl rfl rfl <| asq rfl rfl <| nxq ?_
    refine rtq ?_
    exact hits_doneB (.inl rfl) rfl rfl rfl (by rw [show decide ((wordAt wEnd L i).k = k ∧ (wordAt wEnd L i).s = s) = decide ((wordAt wEnd L i).s = s) from by simp [hk]]; rfl) rfl ⟨rfl, rfl, trivial⟩ rfl
  · refine rgq <| faq rfl kf37_0 rfl rfl <| ldq kd32 rfl rfl rfl <| mvq rfl rfl <| sq (f_bin rfl rfl (bT (beq_eq_false_iff_ne.mpr (by omega))) (lt rfl)) rfl rfl <| mvq rfl rfl <| noq rfl rfl rfl rfl rfl rfl rfl <| noq rfl rfl rfl rfl rfl rfl rfl ?_
    refine noq rfl rfl rfl rfl rfl rfl rfl <| noq rfl rfl rfl rfl rfl rfl rfl <| pkq rfl rfl rfl <| asq rfl rfl <| nxq <| rtq ?_
    exact hits_doneB (.inl rfl) rfl rfl rfl (by rw [show decide ((wordAt wEnd L i).k = k ∧ (wordAt wEnd L i).s = s) = false from by simp [hk]]; rfl) rfl ⟨rfl, rfl, trivial⟩ rfl
theorem take_c {L : List Wd} {i : Nat} (hL : L.length ≤ 65536) (hi : i ≤ L.length)  : CallsB Tryz.prog Lw 86 [LDw L, .sc (.int .i64 (i : Int))] [] [LDw L, .sc (.int .i64 ((i + 1 : Nat) : Int))] (wordD (wordAt wEnd L i)) := by
  refine callsB_of Tryz.func86 rfl Tryz.ntmps86 rfl rfl fun w0 S0 b stab => ?_
  refine sqq <| rgq <| sq (f_alloc zc37 (lt rfl)) rfl rfl <| nxq <| sqq <| rgq <| mvq rfl rfl <| sq_callB en33 rfl rfl (next_c hL hi) ⟨rfl, rfl, trivial⟩ rfl rfl rfl rfl (lt rfl) ?_
  refine sq (f_alloc zc37 (lt rfl)) rfl rfl <| soq kd37 rfl rfl rfl rfl rfl <| nxq <| sqq <| rgq <| mvq rfl rfl <| sq (f_nil rfl rfl (lt rfl)) rfl rfl <| faq rfl kf46_1 rfl rfl ?_
  refine ldq kd3 rfl rfl rfl <| sq (f_bin rfl rfl (iT (((IntWalk.i64_in _ (by omega)).trans (by omega) : _ = ((i + 1 : Nat) : Int)))) (lt rfl)) rfl rfl <| sq (f_nil rfl rfl (lt rfl)) rfl rfl <| faq rfl kf46_1 rfl rfl <| soq kd3 rfl rfl rfl rfl rfl <| nxq <| sqq <| rgq ?_
  refine ldq kd37 rfl rfl rfl <| soq kd37 rfl rfl rfl rfl rfl <| nxq <| rtq ?_
  exact hits_doneB (.inl rfl) rfl rfl rfl rfl rfl ⟨rfl, rfl, trivial⟩ rfl
theorem must_c {L : List Wd} {i : Nat} (hL : L.length ≤ 65536) (hi : i ≤ L.length) (c : Bool) : CallsX Tryz.prog Lw pvN 35 [LDw L, .sc (.int .i64 (i : Int))] (fun b => [.sc (.bool c)]) (ocOf (LDw L) (wordD) ((mustP c).run wEnd L i)) := by
  refine callsX_of (m := 1) Tryz.func35 rfl Tryz.ntmps35 (fun _ => rfl) rfl rfl fun hne w0 S0 b stab => ?_
  obtain ⟨o, hO⟩ : ∃ o, o = ocOf (LDw L) (wordD) ((mustP c).run wEnd L i) := ⟨_, rfl⟩
  rw [← hO] at hne ⊢
  refine sqq <| rgq <| sq (f_alloc zc37 (lt rfl)) rfl rfl <| nxq <| sqq <| sqq ?_
  cases c
  · refine rgq <| mvq rfl rfl <| sq (f_un rfl rfl (lt rfl)) rfl rfl <| nxq <| cnT rfl <| rgq <| sq (f_build bu96 rfl rfl (lt rfl)) rfl rfl <| sq (f_mkIfaceD rfl nif96 (lt rfl)) rfl rfl ?_
    exact sq_panic rfl rfl hO rfl rfl ⟨rfl, rfl, trivial⟩ rfl rfl (fun _ _ hd h => And.intro hd h)
  · refine rgq <| mvq rfl rfl <| sq (f_un rfl rfl (lt rfl)) rfl rfl <| nxq <| cnF rfl <| skq <| toq <| sqq ?_
    refine rgq <| mvq rfl rfl <| sq_callB en86 rfl rfl (take_c hL hi) ⟨rfl, rfl, trivial⟩ rfl rfl rfl rfl (lt rfl) <| soq kd37 rfl rfl rfl rfl rfl <| nxq <| rtq ?_
    exact hits_doneX hO (.inl rfl) rfl rfl rfl rfl rfl ⟨rfl, rfl, trivial⟩ rfl
theorem may_c {L : List Wd} {i : Nat} (hL : L.length ≤ 65536) (hi : i ≤ L.length) (s : Tx) : CallsX Tryz.prog Lw pvN 134 [LDw L, .sc (.int .i64 (i : Int))] (fun b => [txD s]) (ocOf (LDw L) (fun q : Bool => D.sc (.bool q)) ((mayP s).run wEnd L i)) := by
  refine callsX_of (m := 1) Tryz.func134 rfl Tryz.ntmps134 (fun _ => rfl) rfl rfl fun hne w0 S0 b stab => ?_
  obtain ⟨o, hO⟩ : ∃ o, o = ocOf (LDw L) (fun q : Bool => D.sc (.bool q)) ((mayP s).run wEnd L i) := ⟨_, rfl⟩
  rw [← hO] at hne ⊢
  refine sqq <| rgq <| asq rfl rfl <| nxq <| sqq ?_
  by_cases h4 : (wordAt wEnd L i).k = 4 ∧ (wordAt wEnd L i).s = s
  · have h1 := is_c hL hi 4 s
    rw [decide_eq_true h4] at h1
    have hm : (mayP s).run wEnd L i = .ok true (i + 1) := mayP_yes (.inl h4.1) h4.2
    rw [hm] at hO
    refine rgq <| mvq rfl rfl <| mvq rfl rfl <| sq_callB en185 rfl rfl (h1) ⟨rfl, rfl, trivial⟩ rfl rfl rfl rfl (lt rfl) <| mvq rfl rfl <| noq rfl rfl rfl rfl rfl rfl rfl <| noq rfl rfl rfl rfl rfl rfl rfl <| noq rfl rfl rfl rfl rfl rfl rfl ?_
    refine pkq rfl rfl rfl <| asq rfl rfl <| nxq <| sqq <| sqq <| rgq <| mvq rfl rfl <| nxq ?_
    refine cnT rfl <| rgq <| mvq rfl rfl <| sq_callB en86 rfl rfl (take_c hL hi) ⟨rfl, rfl, trivial⟩ rfl rfl rfl rfl (lt rfl) <| nxq <| sqq <| rgq <| mvq rfl rfl ?_
    refine asq rfl rfl <| nxq <| rtq ?_
    exact hits_doneX hO (.inl rfl) rfl rfl rfl rfl rfl ⟨rfl, rfl, trivial⟩ rfl
  · have h1 := is_c hL hi 4 s
    rw [decide_eq_false h4] at h1
    have h2 := is_c hL hi 1 s
    by_cases h5 : (wordAt wEnd L i).k = 1 ∧ (wordAt wEnd L i).s = s
    · rw [decide_eq_true h5] at h2
      have hm : (mayP s).run wEnd L i = .ok true (i + 1) := mayP_yes (.inr h5.1) h5.2
      rw [hm] at hO
      refine rgq <| mvq rfl rfl <| mvq rfl rfl <| sq_callB en185 rfl rfl (h1) ⟨rfl, rfl, trivial⟩ rfl rfl rfl rfl (lt rfl) <| mvq rfl rfl <| sq_yes (f_move rfl (lt rfl)) rfl rfl rfl rfl (lt rfl) <| sq_yes (f_move rfl (lt rfl)) rfl rfl rfl rfl (lt rfl) <| sq_guard rfl rfl rfl (lt rfl) ?_
      refine sq_callB en185 rfl rfl (h2) ⟨rfl, rfl, trivial⟩ rfl rfl rfl rfl (lt rfl) <| pkq rfl rfl rfl <| asq rfl rfl <| nxq <| sqq <| sqq <| rgq <| mvq rfl rfl ?_
      refine nxq <| cnT rfl <| rgq <| mvq rfl rfl <| sq_callB en86 rfl rfl (take_c hL hi) ⟨rfl, rfl, trivial⟩ rfl rfl rfl rfl (lt rfl) <| nxq <| sqq <| rgq ?_
      refine mvq rfl rfl <| asq rfl rfl <| nxq <| rtq ?_
      exact hits_doneX hO (.inl rfl) rfl rfl rfl rfl rfl ⟨rfl, rfl, trivial⟩ rfl
    · rw [decide_eq_false h5] at h2
      have hm : (mayP s).run wEnd L i = .ok false i := mayP_no h4 h5
      rw [hm] at hO
      refine rgq <| mvq rfl rfl <| mvq rfl rfl <| sq_callB en185 rfl rfl (h1) ⟨rfl, rfl, trivial⟩ rfl rfl rfl rfl (lt rfl) <| mvq rfl rfl <| sq_yes (f_move rfl (lt rfl)) rfl rfl rfl rfl (lt rfl) <| sq_yes (f_move rfl (lt rfl)) rfl rfl rfl rfl (lt rfl) <| sq_guard rfl rfl rfl (lt rfl) ?_
      refine sq_callB en185 rfl rfl (h2) ⟨rfl, rfl, trivial⟩ rfl rfl rfl rfl (lt rfl) <| pkq rfl rfl rfl <| asq rfl rfl <| nxq <| sqq <| sqq <| rgq <| mvq rfl rfl ?_
      refine nxq <| cnF rfl <| skq <| toq <| sqq <| rgq <| mvq rfl rfl <| asq rfl rfl ?_
      refine nxq <| rtq ?_
      exact hits_doneX hO (.inl rfl) rfl rfl rfl rfl rfl ⟨rfl, rfl, trivial⟩ rfl
theorem six_c (ts : List Tx) (s : Tx) (hts : ts.length ≤ 65536) : CallsP Tryz.prog Lw 214 [.list 1 (ts.map txD), txD s] (.sc (.int .i64 (ixG ts s 0))) := by
  have hll : (ts.map txD).length = ts.length := List.length_map _
  refine callsP_of gs_lw Tryz.func214 rfl Tryz.ntmps214 rfl fun w0 S0 stab => ?_
  refine sqq <| rgq <| asq rfl rfl <| nxq <| sqq <| sqq <| rgq <| mvq rfl rfl ?_
  refine sq (f_lenList rfl rfl un52 (lt rfl)) rfl rfl <| mvq rfl rfl <| nxq <| hits_block <| hits_loop (fun k : Nat => [(.slot 0, some (.d (.list 1 (ts.map txD)))), (.slot 1, some (.d (txD s))), (.slot 7, some (.d (.sc (.int .i64 (ts.length : Int))))), (.slot 8, some (.d (.sc (.int .i64 (k : Int)))))]) (fun k : Nat => k ≤ ts.length ∧ ixG (ts.drop k) s k = ixG ts s 0) (fun k : Nat => ts.length - k) 0 ⟨Nat.zero_le _, by rw [List.drop_zero]⟩ ⟨rfl, rfl, (by rw [← hll]; rfl), rfl, trivial⟩ rfl ?_
  intro k hx0
  obtain ⟨hk0, hJ⟩ := hx0
  refine sqq ?_
  by_cases hk : k < ts.length
  · obtain ⟨t, hx⟩ : ∃ t, ts[k]? = some t := ⟨_, List.getElem?_eq_getElem hk⟩
    rw [list_at hx, ixG] at hJ
    refine rgq <| sq (f_bin rfl rfl (bT (decide_eq_true (by omega))) (lt rfl)) rfl rfl <| nxq <| sqq <| cnT rfl <| skq <| toq <| sqq ?_
    refine hits_block <| sqq <| rgq <| mvq rfl rfl <| asq rfl rfl <| nxq <| sqq ?_
    by_cases hs : s = t
    · rw [if_pos hs] at hJ
      refine rgq <| mvq rfl rfl <| mvq rfl rfl <| mvq rfl rfl <| sq (f_idxList rfl rfl rfl un52 kd9 (Int.natCast_nonneg _) (txs_at hx) (lt rfl)) rfl rfl <| ldq kd9 rfl rfl rfl <| sq (f_bin rfl rfl (bT (((B_beq _ _).trans (decide_eq_true hs)))) (lt rfl)) rfl rfl <| nxq ?_
      refine cnT rfl <| sqq <| rgq <| mvq rfl rfl <| asq rfl rfl <| nxq <| rtq <| in_ret ?_
      refine to_ret <| to_ret <| in_ret <| to_ret ?_
      exact hits_done (.inl rfl) rfl rfl (by rw [← hJ]; rfl)
    · rw [if_neg hs] at hJ
      refine rgq <| mvq rfl rfl <| mvq rfl rfl <| mvq rfl rfl <| sq (f_idxList rfl rfl rfl un52 kd9 (Int.natCast_nonneg _) (txs_at hx) (lt rfl)) rfl rfl <| ldq kd9 rfl rfl rfl <| sq (f_bin rfl rfl (bT (((B_beq _ _).trans (decide_eq_false hs)))) (lt rfl)) rfl rfl <| nxq ?_
      refine cnF rfl <| skq <| inq <| toq <| rgq <| sq (f_bin rfl rfl (iT (((IntWalk.i64_in _ (by omega)).trans (by omega) : _ = ((k + 1 : Nat) : Int)))) (lt rfl)) rfl rfl <| mvq rfl rfl <| nxq ?_
      refine round_end (k + 1) ⟨by omega, hJ⟩ (by omega) ⟨rfl, rfl, rfl, rfl, trivial⟩ rfl
  · obtain rfl : k = ts.length := by omega
    rw [List.drop_length, ixG] at hJ
    refine rgq <| sq (f_bin rfl rfl (bT (decide_eq_false (by omega))) (lt rfl)) rfl rfl <| nxq <| sqq <| cnF rfl <| hits_exit <| to_exit <| to_exit ?_
    refine in_hit rfl <| toq <| sqq <| rgq <| asq rfl rfl <| nxq <| rtq ?_
    exact hits_done (.inl rfl) rfl rfl (by rw [← hJ]; rfl)
theorem sco_c (ts : List Tx) (s : Tx) (hts : ts.length ≤ 65536) : CallsP Tryz.prog Lw 170 [.list 1 (ts.map txD), txD s] (.sc (.bool (ts.contains s))) := by
  refine callsP_of gs_lw Tryz.func170 rfl Tryz.ntmps170 rfl fun w0 S0 stab => ?_
  refine sqq <| rgq <| asq rfl rfl <| nxq <| sqq <| rgq <| mvq rfl rfl <| mvq rfl rfl ?_
  refine sq (f_call en214 rfl (six_c ts s hts) (lt rfl)) rfl rfl <| sq (f_bin rfl rfl (bT ((ixG_ge ts s 0))) (lt rfl)) rfl rfl <| asq rfl rfl <| nxq <| rtq ?_
  exact hits_done (.inl rfl) rfl rfl rfl
theorem keys_c : CallsP Tryz.prog Lw 93 [.sc (.string (B [104, 101, 97, 100, 101, 114, 32, 109, 101, 116, 97, 32, 114, 101, 103, 105, 115, 116, 101, 114, 32, 99, 111, 117, 110, 116, 101, 114, 32, 109, 101, 116, 101, 114, 32, 112, 97, 114, 115, 101, 114, 32, 97, 99, 116, 105, 111, 110, 32, 116, 97, 98, 108, 101, 32, 99, 111, 110, 116, 114, 111, 108, 32, 100, 101, 112, 97, 114, 115, 101, 114, 32, 107, 101, 121, 32, 97, 99, 116, 105, 111, 110, 115, 32, 100, 101, 102, 97, 117, 108, 116, 32, 115, 105, 122, 101, 32, 116, 97, 107, 101, 32, 103, 111, 32, 115, 101, 108, 101, 99, 116, 32, 101, 108, 115, 101, 32, 101, 120, 97, 99, 116, 32, 112, 114, 101, 102, 105, 120, 32, 109, 97, 115, 107, 32, 114, 97, 110, 103, 101, 32, 105, 102, 32, 97, 112, 112, 108, 121, 32, 109, 97, 107, 101, 32, 103, 111, 110, 101, 32, 99, 111, 117, 110, 116, 32, 114, 101, 97, 100, 32, 119, 114, 105, 116, 101, 32, 114, 97, 110, 100, 111, 109, 32, 100, 114, 111, 112, 32, 100, 105, 103, 101, 115, 116, 32, 99, 108, 111, 110, 101, 32, 97, 103, 97, 105, 110, 32, 114, 111, 117, 110, 100, 32, 118, 97, 108, 105, 100, 32, 99, 97, 115, 116, 32, 104, 97, 115, 104]))] (.list 1 (keyWords.map txD)) := fields_g (by decide +kernel) (by decide +kernel) (by decide +kernel)
theorem key_c (s : Tx) : CallsP Tryz.prog Lw 109 [txD s] (.sc (.bool (keyB s))) := by
  refine callsP_of gs_lw Tryz.func109 rfl Tryz.ntmps109 rfl fun w0 S0 stab => ?_
  refine sqq <| rgq <| asq rfl rfl <| nxq <| sqq <| rgq <| sq (f_call en93 rfl keys_c (lt rfl)) rfl rfl <| mvq rfl rfl ?_
  refine sq (f_call en170 rfl (sco_c keyWords s (by decide +kernel)) (lt rfl)) rfl rfl <| asq rfl rfl <| nxq <| rtq ?_
  exact hits_done (.inl rfl) rfl rfl rfl
theorem need_c {L : List Wd} {i : Nat} (hL : L.length ≤ 65536) (hi : i ≤ L.length) {l : Tx} {ts : List Tx} (hts : ts.length ≤ 65536) (hf : CallsP Tryz.prog Lw 93 [txD l] (.list 1 (ts.map txD))) : CallsX Tryz.prog Lw pvN 122 [LDw L, .sc (.int .i64 (i : Int))] (fun b => [txD l]) (ocOf (LDw L) (fun _ : Unit => D.tup []) ((needP ts).run wEnd L i)) := by
  refine callsX_of (m := 1) Tryz.func122 rfl Tryz.ntmps122 (fun _ => rfl) rfl rfl fun hne w0 S0 b stab => ?_
  obtain ⟨o, hO⟩ : ∃ o, o = ocOf (LDw L) (fun _ : Unit => D.tup []) ((needP ts).run wEnd L i) := ⟨_, rfl⟩
  rw [← hO] at hne ⊢
  have hll : (ts.map txD).length = ts.length := List.length_map _
  refine sqq <| rgq <| mvq rfl rfl <| sq (f_call en93 rfl hf (lt rfl)) rfl rfl <| sq (f_lenList rfl rfl un52 (lt rfl)) rfl rfl <| mvq rfl rfl <| nxq <| hits_block ?_
  refine hits_loop (fun x : Nat × Nat => [(.slot 0, some (.ptr 1000000 0)), (.box 1000000, some (.ptr 1000000 0)), (.cell 1000000 0, some (.d (LDw L))), (.cell 1000000 1, some (.d (.sc (.int .i64 (x.2 : Int))))), (.slot 7, some (.d (.list 1 (ts.map txD)))), (.slot 8, some (.d (.sc (.int .i64 (ts.length : Int))))), (.slot 9, some (.d (.sc (.int .i64 (x.1 : Int)))))]) (fun x : Nat × Nat => x.1 ≤ ts.length ∧ x.2 ≤ L.length ∧ o = ocOf (LDw L) (fun _ : Unit => D.tup []) ((needP (ts.drop x.1)).run wEnd L x.2)) (fun x : Nat × Nat => ts.length - x.1) (0, i) ⟨Nat.zero_le _, hi, by rw [List.drop_zero]; exact hO⟩ ⟨rfl, rfl, rfl, rfl, rfl, (by rw [← hll]; rfl), rfl, trivial⟩ rfl ?_
  intro x hx0
  obtain ⟨k, i'⟩ := x
  obtain ⟨hk0, hi', hO⟩ := hx0
  change k ≤ ts.length at hk0
  change i' ≤ L.length at hi'
  change Hits _ [(.slot 0, some (.ptr 1000000 0)), (.box 1000000, some (.ptr 1000000 0)), (.cell 1000000 0, some (.d (LDw L))), (.cell 1000000 1, some (.d (.sc (.int .i64 (i' : Int))))), (.slot 7, some (.d (.list 1 (ts.map txD)))), (.slot 8, some (.d (.sc (.int .i64 (ts.length : Int))))), (.slot 9, some (.d (.sc (.int .i64 (k : Int)))))] _
  refine sqq ?_
  by_cases hk : k < ts.length
  · obtain ⟨t, hx⟩ : ∃ t, ts[k]? = some t := ⟨_, List.getElem?_eq_getElem hk⟩
    rw [list_at hx] at hO
    change o = ocOf (LDw L) (fun _ : Unit => D.tup []) (((mayP t).bind fun b => if b = true then needP (ts.drop (k + 1)) else .bad).run wEnd L i') at hO
    refine rgq <| sq (f_bin rfl rfl (bT (decide_eq_true (by omega))) (lt rfl)) rfl rfl <| nxq <| sqq <| cnT rfl <| skq <| toq <| sqq ?_
    refine hits_block <| sqq <| rgq <| sq (f_idxList rfl rfl rfl un52 kd9 (Int.natCast_nonneg _) (txs_at hx) (lt rfl)) rfl rfl <| ldq kd9 rfl rfl rfl <| asq rfl rfl <| nxq <| sqq ?_
    refine rgq <| mvq rfl rfl <| mvq rfl rfl ?_
    refine sq_pr hO hne (may_c hL hi' t) rfl en134 rfl rfl rfl rfl ⟨rfl, rfl, trivial⟩ rfl rfl (lt rfl) (fun _ _ hd h => And.intro hd (h)) (fun q j hq hO2 => ?_)
    replace hO := hO2
    clear hO2
    cases q
    · refine sq (f_un rfl rfl (lt rfl)) rfl rfl <| nxq <| cnT rfl <| rgq <| sq (f_build bu96 rfl rfl (lt rfl)) rfl rfl <| sq (f_mkIfaceD rfl nif96 (lt rfl)) rfl rfl ?_
      exact sq_panic rfl rfl hO rfl rfl ⟨rfl, rfl, trivial⟩ rfl rfl (fun _ _ hd h => And.intro hd h)
    · refine sq (f_un rfl rfl (lt rfl)) rfl rfl <| nxq <| cnF rfl <| skq <| inq <| toq <| rgq <| sq (f_bin rfl rfl (iT (((IntWalk.i64_in _ (by omega)).trans (by omega) : _ = ((k + 1 : Nat) : Int)))) (lt rfl)) rfl rfl ?_
      refine mvq rfl rfl <| nxq ?_
      refine round_end (k + 1, j) ⟨by simp only; omega, may_le hq hi', hO⟩ (by simp only; omega) ⟨rfl, rfl, rfl, rfl, rfl, rfl, rfl, trivial⟩ rfl
  · obtain rfl : k = ts.length := by omega
    rw [List.drop_length] at hO
    refine rgq <| sq (f_bin rfl rfl (bT (decide_eq_false (by omega))) (lt rfl)) rfl rfl <| nxq <| sqq <| cnF rfl <| hits_exit <| to_exit <| to_exit ?_
    refine in_hit rfl ?_
    exact hits_doneX hO (.inr rfl) rfl rfl rfl rfl rfl ⟨rfl, rfl, trivial⟩ rfl
theorem name_c {L : List Wd} {i : Nat} (hL : L.length ≤ 65536) (hi : i ≤ L.length)  : CallsX Tryz.prog Lw pvN 121 [LDw L, .sc (.int .i64 (i : Int))] (fun b => []) (ocOf (LDw L) (txD) ((nameP).run wEnd L i)) := by
  refine callsX_of (m := 0) Tryz.func121 rfl Tryz.ntmps121 (fun _ => rfl) rfl rfl fun hne w0 S0 b stab => ?_
  obtain ⟨o, hO⟩ : ∃ o, o = ocOf (LDw L) (txD) ((nameP).run wEnd L i) := ⟨_, rfl⟩
  rw [← hO] at hne ⊢
  change o = ocOf (LDw L) txD (((mustP (decide ((wordAt wEnd L i).k = 1) && !keyB (wordAt wEnd L i).s)).bind fun x => .ret x.s).run wEnd L i) at hO
  refine sqq <| rgq <| asq rfl rfl <| nxq <| sqq <| rgq <| mvq rfl rfl <| sq_callB en33 rfl rfl (next_c hL hi) ⟨rfl, rfl, trivial⟩ rfl rfl rfl rfl (lt rfl) ?_
  refine sq (f_alloc zc37 (lt rfl)) rfl rfl <| soq kd37 rfl rfl rfl rfl rfl <| nxq <| sqq ?_
  by_cases hk : (wordAt wEnd L i).k = 1
  · rw [decide_eq_true hk, Bool.true_and] at hO
    refine rgq <| mvq rfl rfl <| faq rfl kf37_0 rfl rfl <| ldq kd32 rfl rfl rfl <| sq (f_bin rfl rfl (bT (beq_iff_eq.mpr (by rw [hk]; rfl))) (lt rfl)) rfl rfl ?_
    refine mvq rfl rfl <| sq_yes (f_fieldAddr rfl kf37_1 rfl (lt rfl)) rfl rfl rfl rfl (lt rfl) <| sq_yes (f_load kd9 rfl rfl (lt rfl)) rfl rfl rfl rfl (lt rfl) <| sq_yes (f_call en109 rfl (key_c _) (lt rfl)) rfl rfl rfl rfl (lt rfl) <| sq_yes (f_un rfl rfl (lt rfl)) rfl rfl rfl rfl (lt rfl) <| pkq rfl rfl rfl ?_
    refine sq_pr hO hne (must_c hL hi (!keyB (wordAt wEnd L i).s)) rfl en35 rfl rfl rfl rfl ⟨rfl, rfl, trivial⟩ rfl rfl (lt rfl) (fun _ _ hd h => And.intro hd (h)) (fun q j hq hO2 => ?_)
    replace hO := hO2
    clear hO2
    refine sq (f_field rfl fp37_1 rfl (lt rfl)) rfl rfl <| asq rfl rfl <| nxq <| rtq ?_
    exact hits_doneX hO (.inl rfl) rfl rfl rfl rfl rfl ⟨rfl, rfl, trivial⟩ rfl
  · rw [decide_eq_false hk, Bool.false_and] at hO
    refine rgq <| mvq rfl rfl <| faq rfl kf37_0 rfl rfl <| ldq kd32 rfl rfl rfl <| sq (f_bin rfl rfl (bT (beq_eq_false_iff_ne.mpr (by omega))) (lt rfl)) rfl rfl <| mvq rfl rfl <| noq rfl rfl rfl rfl rfl rfl rfl <| noq rfl rfl rfl rfl rfl rfl rfl ?_
    refine noq rfl rfl rfl rfl rfl rfl rfl <| noq rfl rfl rfl rfl rfl rfl rfl <| pkq rfl rfl rfl ?_
    refine sq_pr hO hne (must_c hL hi (false)) rfl en35 rfl rfl rfl rfl ⟨rfl, rfl, trivial⟩ rfl rfl (lt rfl) (fun _ _ hd h => And.intro hd (h)) (fun q j hq hO2 => ?_)
    replace hO := hO2
    clear hO2
    refine sq (f_field rfl fp37_1 rfl (lt rfl)) rfl rfl <| asq rfl rfl <| nxq <| rtq ?_
    exact hits_doneX hO (.inl rfl) rfl rfl rfl rfl rfl ⟨rfl, rfl, trivial⟩ rfl
theorem whole_c {L : List Wd} {i : Nat} (hL : L.length ≤ 65536) (hi : i ≤ L.length) (hS : Small L)  : CallsX Tryz.prog Lw pvN 126 [LDw L, .sc (.int .i64 (i : Int))] (fun b => []) (ocOf (LDw L) (nD) ((wholeP).run wEnd L i)) := by
  refine callsX_of (m := 0) Tryz.func126 rfl Tryz.ntmps126 (fun _ => rfl) rfl rfl fun hne w0 S0 b stab => ?_
  obtain ⟨o, hO⟩ : ∃ o, o = ocOf (LDw L) (nD) ((wholeP).run wEnd L i) := ⟨_, rfl⟩
  rw [← hO] at hne ⊢
  change o = ocOf (LDw L) nD (((mustP (decide ((wordAt wEnd L i).k = 2))).bind fun x => .ret x.lo).run wEnd L i) at hO
  refine sqq <| rgq <| asq rfl rfl <| nxq <| sqq <| rgq <| mvq rfl rfl <| mvq rfl rfl ?_
  refine sq_callB en33 rfl rfl (next_c hL hi) ⟨rfl, rfl, trivial⟩ rfl rfl rfl rfl (lt rfl) <| sq (f_field rfl fp37_0 rfl (lt rfl)) rfl rfl ?_
  by_cases hk : (wordAt wEnd L i).k = 2
  · have hsm := small_at hS hk
    rw [decide_eq_true hk] at hO
    refine sq (f_bin rfl rfl (bT (beq_iff_eq.mpr (by rw [hk]; rfl))) (lt rfl)) rfl rfl ?_
    refine sq_pr hO hne (must_c hL hi true) rfl en35 rfl rfl rfl rfl ⟨rfl, rfl, trivial⟩ rfl rfl (lt rfl) (fun _ _ hd h => And.intro hd (h)) (fun q j hq hO2 => ?_)
    replace hO := hO2
    clear hO2
    obtain ⟨_, hqe, _⟩ := must_ok hq
    rw [← hqe] at hsm
    refine sq (f_field rfl fp37_2 rfl (lt rfl)) rfl rfl <| sq (f_field rfl fp35_2 rfl (lt rfl)) rfl rfl <| sq (f_convI rfl us33 un3 (IntWalk.i64_in _ (by omega)) (lt rfl)) rfl rfl <| asq rfl rfl <| nxq <| rtq ?_
    exact hits_doneX hO (.inl rfl) rfl rfl rfl rfl rfl ⟨rfl, rfl, trivial⟩ rfl
  · rw [decide_eq_false hk] at hO
    refine sq (f_bin rfl rfl (bT (beq_eq_false_iff_ne.mpr (by omega))) (lt rfl)) rfl rfl ?_
    refine sq_pr hO hne (must_c hL hi false) rfl en35 rfl rfl rfl rfl ⟨rfl, rfl, trivial⟩ rfl rfl (lt rfl) (fun _ _ hd h => And.intro hd (h)) (fun q j hq hO2 => ?_)
    replace hO := hO2
    clear hO2
    exact absurd (must_ok hq).1 Bool.false_ne_true
theorem lit_c {L : List Wd} {i : Nat} (hL : L.length ≤ 65536) (hi : i ≤ L.length)  : CallsX Tryz.prog Lw pvN 136 [LDw L, .sc (.int .i64 (i : Int))] (fun b => []) (ocOf (LDw L) (n3D) ((litP).run wEnd L i)) := by
  refine callsX_of (m := 0) Tryz.func136 rfl Tryz.ntmps136 (fun _ => rfl) rfl rfl fun hne w0 S0 b stab => ?_
  obtain ⟨o, hO⟩ : ∃ o, o = ocOf (LDw L) (n3D) ((litP).run wEnd L i) := ⟨_, rfl⟩
  rw [← hO] at hne ⊢
  change o = ocOf (LDw L) n3D (((mustP (decide ((wordAt wEnd L i).k = 3))).bind fun x => .ret (x.w, x.hi, x.lo)).run wEnd L i) at hO
  refine sqq <| rgq <| sq (f_alloc zc35 (lt rfl)) rfl rfl <| nxq <| sqq <| rgq <| mvq rfl rfl <| mvq rfl rfl ?_
  refine sq_callB en33 rfl rfl (next_c hL hi) ⟨rfl, rfl, trivial⟩ rfl rfl rfl rfl (lt rfl) <| sq (f_field rfl fp37_0 rfl (lt rfl)) rfl rfl ?_
  by_cases hk : (wordAt wEnd L i).k = 3
  · rw [decide_eq_true hk] at hO
    refine sq (f_bin rfl rfl (bT (beq_iff_eq.mpr (by rw [hk]; rfl))) (lt rfl)) rfl rfl ?_
    refine sq_pr hO hne (must_c hL hi true) rfl en35 rfl rfl rfl rfl ⟨rfl, rfl, trivial⟩ rfl rfl (lt rfl) (fun _ _ hd h => And.intro hd (h)) (fun q j hq hO2 => ?_)
    replace hO := hO2
    clear hO2
    refine sq (f_field rfl fp37_2 rfl (lt rfl)) rfl rfl <| soq kd35 rfl rfl rfl rfl rfl <| nxq <| rtq ?_
    exact hits_doneX hO (.inl rfl) rfl rfl rfl rfl rfl ⟨rfl, rfl, trivial⟩ rfl
  · rw [decide_eq_false hk] at hO
    refine sq (f_bin rfl rfl (bT (beq_eq_false_iff_ne.mpr (by omega))) (lt rfl)) rfl rfl ?_
    refine sq_pr hO hne (must_c hL hi false) rfl en35 rfl rfl rfl rfl ⟨rfl, rfl, trivial⟩ rfl rfl (lt rfl) (fun _ _ hd h => And.intro hd (h)) (fun q j hq hO2 => ?_)
    replace hO := hO2
    clear hO2
    exact absurd (must_ok hq).1 Bool.false_ne_true
theorem owner_c {L : List Wd} {i : Nat} (hL : L.length ≤ 65536) (hi : i ≤ L.length)  : CallsX Tryz.prog Lw pvN 219 [LDw L, .sc (.int .i64 (i : Int))] (fun b => []) (ocOf (LDw L) (txD) ((ownerP).run wEnd L i)) := by
  refine callsX_of (m := 0) Tryz.func219 rfl Tryz.ntmps219 (fun _ => rfl) rfl rfl fun hne w0 S0 b stab => ?_
  obtain ⟨o, hO⟩ : ∃ o, o = ocOf (LDw L) (txD) ((ownerP).run wEnd L i) := ⟨_, rfl⟩
  rw [← hO] at hne ⊢
  refine sqq <| rgq <| asq rfl rfl <| nxq <| sqq <| sqq <| rgq <| mvq rfl rfl ?_
  refine sq_pr hO hne (may_c hL hi txMeta) rfl en134 rfl rfl rfl rfl ⟨rfl, rfl, trivial⟩ rfl rfl (lt rfl) (fun _ _ hd h => And.intro hd (h)) (fun q j hq hO2 => ?_)
  replace hO := hO2
  clear hO2
  cases q
  · have hO : o = ocOf (LDw L) txD (((nameP).bind .ret).run wEnd L j) := by rw [bind_ret]; exact hO
    refine nxq <| cnF rfl <| skq <| toq <| sqq <| rgq <| mvq rfl rfl ?_
    refine sq_pr hO hne (name_c hL (may_le hq hi)) rfl en121 rfl rfl rfl rfl ⟨rfl, rfl, trivial⟩ rfl rfl (lt rfl) (fun _ _ hd h => And.intro hd (h)) (fun q2 j2 hq2 hO2 => ?_)
    replace hO := hO2
    clear hO2
    refine asq rfl rfl <| nxq <| rtq ?_
    exact hits_doneX hO (.inl rfl) rfl rfl rfl rfl rfl ⟨rfl, rfl, trivial⟩ rfl
  · refine nxq <| cnT rfl <| sqq <| rgq <| asq rfl rfl <| nxq <| rtq <| to_ret ?_
    exact hits_doneX hO (.inl rfl) rfl rfl rfl rfl rfl ⟨rfl, rfl, trivial⟩ rfl
theorem field_c {L : List Wd} {i : Nat} (hL : L.length ≤ 65536) (hi : i ≤ L.length)  : CallsX Tryz.prog Lw pvN 251 [LDw L, .sc (.int .i64 (i : Int))] (fun b => []) (ocOf (LDw L) (fun p => .tup [txD p.1, txD p.2]) ((fieldP).run wEnd L i)) := by
  refine callsX_of (m := 0) Tryz.func251 rfl Tryz.ntmps251 (fun _ => rfl) rfl rfl fun hne w0 S0 b stab => ?_
  obtain ⟨o, hO⟩ : ∃ o, o = ocOf (LDw L) (fun p => .tup [txD p.1, txD p.2]) ((fieldP).run wEnd L i) := ⟨_, rfl⟩
  rw [← hO] at hne ⊢
  refine sqq <| rgq <| asq rfl rfl <| asq rfl rfl <| nxq <| sqq <| rgq <| mvq rfl rfl ?_
  refine sq_pr hO hne (owner_c hL hi) rfl en219 rfl rfl rfl rfl ⟨rfl, rfl, trivial⟩ rfl rfl (lt rfl) (fun _ _ hd h => And.intro hd (h)) (fun a j hq hO2 => ?_)
  replace hO := hO2
  clear hO2
  have hj := (tame_owner hq hi).2
  refine asq rfl rfl <| nxq <| sqq <| rgq <| mvq rfl rfl ?_
  refine sq_pr hO hne (need_c (l := [46]) (ts := [[46]]) hL hj (by decide) (fields_g (l := [46]) (ts := [[46]]) (by decide +kernel) (by decide +kernel) (by decide +kernel))) rfl en122 rfl rfl rfl rfl ⟨rfl, rfl, trivial⟩ rfl rfl (lt rfl) (fun _ _ hd h => And.intro hd (h)) (fun u j2 hq2 hO2 => ?_)
  replace hO := hO2
  clear hO2
  refine nxq <| sqq <| rgq ?_
  have hj2 := (tame_need _ hq2 hj).2
  refine mvq rfl rfl <| mvq rfl rfl ?_
  refine sq_pr hO hne (name_c hL hj2) rfl en121 rfl rfl rfl rfl ⟨rfl, rfl, trivial⟩ rfl rfl (lt rfl) (fun _ _ hd h => And.intro hd (h)) (fun c j3 hq3 hO2 => ?_)
  replace hO := hO2
  clear hO2
  refine asq rfl rfl <| asq rfl rfl <| nxq <| rtq ?_
  exact hits_doneX hO (.inl rfl) rfl rfl rfl rfl rfl ⟨rfl, rfl, trivial⟩ rfl
theorem typed_c {L : List Wd} {i : Nat} (hL : L.length ≤ 65536) (hi : i ≤ L.length) (hS : Small L)  : CallsX Tryz.prog Lw pvN 125 [LDw L, .sc (.int .i64 (i : Int))] (fun b => []) (ocOf (LDw L) (fdD) ((typedP).run wEnd L i)) := by
  refine callsX_of (m := 0) Tryz.func125 rfl Tryz.ntmps125 (fun _ => rfl) rfl rfl fun hne w0 S0 b stab => ?_
  obtain ⟨o, hO⟩ : ∃ o, o = ocOf (LDw L) (fdD) ((typedP).run wEnd L i) := ⟨_, rfl⟩
  rw [← hO] at hne ⊢
  refine sqq <| rgq <| sq (f_alloc zc132 (lt rfl)) rfl rfl <| nxq <| sqq <| rgq <| mvq rfl rfl ?_
  refine sq_pr hO hne (name_c hL hi) rfl en121 rfl rfl rfl rfl ⟨rfl, rfl, trivial⟩ rfl rfl (lt rfl) (fun _ _ hd h => And.intro hd (h)) (fun a j hq hO2 => ?_)
  replace hO := hO2
  clear hO2
  have hj := (eager_name hq hi).2
  refine faq rfl kf132_0 rfl rfl <| soq kd9 rfl rfl rfl rfl rfl <| nxq <| sqq <| rgq <| mvq rfl rfl ?_
  refine sq_pr hO hne (whole_c hL hj hS) rfl en126 rfl rfl rfl rfl ⟨rfl, rfl, trivial⟩ rfl rfl (lt rfl) (fun _ _ hd h => And.intro hd (h)) (fun n j2 hq2 hO2 => ?_)
  replace hO := hO2
  clear hO2
  refine faq rfl kf132_1 rfl rfl <| soq kd3 rfl rfl rfl rfl rfl <| nxq <| sqq <| rgq <| ldq kd132 rfl rfl rfl <| soq kd132 rfl rfl rfl rfl rfl <| nxq ?_
  refine rtq ?_
  exact hits_doneX hO (.inl rfl) rfl rfl rfl rfl rfl ⟨rfl, rfl, trivial⟩ rfl
end Go.Proofs.YtogodijfdkffaaaGreatDoor.Ln

/- The parser's expressions over data. -/
namespace Go.Proofs.YtogodijfdkffaaaGreatDoor.Ln
open Go Go.RowKit Go.Ab Go.Proofs 
theorem bu268 : bk Tryz.prog 268 = some ([(0, 1), (1, 1)], [.int .u8 0, .int .i64 0]) := by kernel_rfl
theorem mpk265 : mpk Tryz.prog 265 = some (9, 268, .agg ⟨[.int .u8 0, .int .i64 0]⟩) := by kernel_rfl
theorem zc268 : zc Tryz.prog 268 = some [.int .u8 0, .int .i64 0] := by kernel_rfl
theorem en215 : enters Tryz.prog 215 = true := by kernel_rfl
theorem kd268 : kd Tryz.prog 268 = some (true, 2) := by kernel_rfl
theorem sk65 : sk Tryz.prog 65 = some (67, 10, [.int .u8 0, .int .i64 0, .int .u64 0, .int .u64 0, .string ByteArray.empty, .string ByteArray.empty, .int .i64 0, .int .i64 0, .slice none 0 0, .int .i64 0]) := by kernel_rfl
theorem apk65 : apk Tryz.prog 65 65 = some (67, 10, 112) := by kernel_rfl
theorem B_eqb (s t : Tx) : (B s == B t) = decide (s = t) := by
  show (s.toArray == t.toArray) = decide (s = t)
  by_cases h : s = t
  · subst h; simp
  · rw [decide_eq_false h]; simp [h]
theorem find_map {α : Type} (s : Tx) (g : α → Value) : ∀ l : List (Tx × α), findE (B s) (l.map fun p => (B p.1, g p.2)) = (l.findSome? fun p => if p.1 = s then some p.2 else none).map g
  | [] => rfl
  | p :: l => by
    rw [List.map_cons, findE, B_eqb, List.findSome?_cons]
    by_cases h : p.1 = s
    · rw [if_pos h, decide_eq_true h.symm, if_pos rfl]; rfl
    · rw [if_neg h, decide_eq_false fun c => h c.symm, if_neg Bool.false_ne_true, find_map s g l]
def twosL : List (Tx × Nat × Nat) := [([124, 124], 22, 0), ([38, 38], 21, 1), ([61, 61], 17, 2), ([33, 61], 18, 2), ([60], 19, 2), ([60, 61], 20, 2), ([38], 8, 3), ([124], 9, 3), ([94], 10, 3), ([43], 5, 4), ([45], 6, 4), ([43, 43], 14, 5), ([42], 7, 6), ([60, 60], 12, 7), ([62, 62], 13, 7)]
theorem twoOf_is (s : Tx) : twoOf s = twosL.findSome? fun p => if p.1 = s then some p.2 else none := rfl
def signV (p : Nat × Nat) : Value := .agg ⟨[.int .u8 (p.1 : Int), .int .i64 (p.2 : Int)]⟩
def twosE : List (ByteArray × Value) := twosL.map fun p => (B p.1, signV p.2)
def signD (s : Tx) : D := .agg [.sc (.int .u8 (((twoOf s).getD (0, 0)).1 : Int)), .sc (.int .i64 (((twoOf s).getD (0, 0)).2 : Int))]
theorem find_two (s : Tx) : findE (B s) twosE = (twoOf s).map signV := by rw [twoOf_is]; exact find_map s signV twosL
theorem look_two (s : Tx) : aggD ((findE (B s) twosE).getD (.agg ⟨[.int .u8 0, .int .i64 0]⟩)) = signD s ∧ (findE (B s) twosE).isSome = (twoOf s).isSome := by
  rw [find_two]; unfold signD; cases twoOf s <;> exact ⟨rfl, rfl⟩
theorem exDs_map : ∀ l : List Ex, exDs l = l.map exD
  | [] => rfl
  | x :: l => by rw [exDs, List.map_cons, exDs_map l]
abbrev oX (L : List Wd) (f lv i : Nat) : Oc := ocOf (LDw L) exD ((exP f lv).run wEnd L i)
def exLD (l : List Ex) : D := .list 10 (l.map exD)
def exCs : Ex → List D
  | .mk op lw lh ll name field n m args line => [.sc (.int .u8 (op : Int)), nD lw, .sc (.int .u64 (lh : Int)), .sc (.int .u64 (ll : Int)), txD name, txD field, nD n, nD m, .list 10 (exDs args), nD line]
theorem exD_cs (x : Ex) : exD x = .agg (exCs x) := by cases x; rw [exD]; rfl
theorem call_any {P : Program} {Γ : World → Prop} {pv : Value} {f : FuncId} {ins : List D} {args : Nat → List D} : CallsX P Γ pv f ins args .any := fun h => absurd rfl h
theorem tame_oof {α : Type} : Tame (.oof : PW α) := fun h hi => by cases h
mutual
theorem tame_ex : ∀ (f lv : Nat), Tame (exP f lv)
  | 0, lv => by rw [exP]; exact tame_oof
  | f + 1, lv => by
    rw [exP]
    refine tame_ite (tame_look fun w => tame_bind (tame_ex f _) fun x => tame_exL f _ _ _) (tame_ite (tame_look fun w => tame_bind (tame_may _) fun b => tame_ite (tame_bind (tame_ex f _) fun x => tame_ret _) (tame_bind (tame_ex f _) fun x => tame_exS f _ _)) (tame_look fun w => tame_ite (tame_bind eager_lit.tame fun l => tame_ret _) ?_))
    refine tame_bind (tame_may _) fun b => tame_ite (tame_bind eager_name.tame fun s => tame_ret _) ?_
    refine tame_bind (tame_may _) fun b => tame_ite (tame_bind eager_whole.tame fun n => tame_bind (tame_need _) fun _ => tame_bind (tame_ex f _) fun x => tame_bind (tame_need _) fun _ => tame_ret _) ?_
    refine tame_bind (tame_may _) fun b => tame_ite (tame_bind eager_name.tame fun s => tame_bind (tame_need _) fun _ => tame_bind (tame_exR f _ _) fun l => tame_ret _) ?_
    refine tame_bind (tame_may _) fun b => tame_ite (tame_bind (tame_ex f _) fun x => tame_bind (tame_need _) fun _ => tame_ret _) ?_
    refine tame_bind tame_owner fun s => tame_ite (tame_bind (tame_need _) fun _ => tame_bind eager_name.tame fun t => tame_ret _) ?_
    exact tame_bind (tame_may _) fun b => tame_ite (tame_bind eager_name.tame fun t => tame_ret _) (tame_ret _)
theorem tame_exL : ∀ (f lv line : Nat) (x : Ex), Tame (exL f lv line x)
  | 0, _, _, _ => by rw [exL]; exact tame_oof
  | f + 1, lv, line, x => by
    rw [exL]
    rename_i L i j a
    intro hr hi
    change (match twoOf (wordAt wEnd L i).s with | none => Pr.ret x | some (op, b) => if (wordAt wEnd L i).k = 4 ∧ b = lv then .take ((exP f (lv + 1)).bind fun y => if lv = 2 then .ret (exUn op [x, y] line) else exL f lv line (exUn op [x, y] line)) else .ret x).run wEnd L i = _ at hr
    split at hr
    · cases hr; exact ⟨Nat.le_refl _, hi⟩
    · rename_i op b _
      split at hr
      · rename_i h
        have h1 := word_in (L := L) (i := i) (by rw [h.1]; decide)
        have := tame_bind (tame_ex f (lv + 1)) (k := fun y => if lv = 2 then .ret (exUn op [x, y] line) else exL f lv line (exUn op [x, y] line)) (fun y => tame_ite (tame_ret _) (tame_exL f _ _ _)) hr h1
        exact ⟨by omega, this.2⟩
      · cases hr; exact ⟨Nat.le_refl _, hi⟩
theorem tame_exS : ∀ (f line : Nat) (x : Ex), Tame (exS f line x)
  | 0, _, _ => by rw [exS]; exact tame_oof
  | f + 1, line, x => by
    rw [exS]
    exact tame_bind (tame_may _) fun b => tame_ite (tame_bind eager_whole.tame fun n => tame_bind (tame_need _) fun _ => tame_bind eager_whole.tame fun m => tame_bind (tame_need _) fun _ => tame_exS f _ _) (tame_ret _)
theorem tame_exR : ∀ (f : Nat) (e : Tx) (acc : List Ex), Tame (exR f e acc)
  | 0, _, _ => by rw [exR]; exact tame_oof
  | f + 1, e, acc => by
    rw [exR]
    exact tame_bind (tame_ex f _) fun x => tame_bind (tame_may _) fun b => tame_ite (tame_exR f _ _) (tame_bind (tame_need _) fun _ => tame_ret _)
end
set_option maxHeartbeats 4000000 in
theorem twos_c : CallsM Tryz.prog Lw 215 [] twosE := by
  refine callsG_of (R := fun w0 S0 => PostM w0 twosE) gs_lw Tryz.func215 rfl Tryz.ntmps215 rfl fun w0 S0 stab => ?_
  refine sqq <| rgq <| asq rfl rfl <| nxq <| sqq <| rgq <| sq (f_makeMap (lt rfl)) rfl rfl <| sq (f_build bu268 rfl rfl (lt rfl)) rfl rfl ?_
  refine sq (f_mapIns mpk265 rfl rfl rfl rfl rfl rfl (by kernel_rfl)) rfl rfl <| sq (f_build bu268 rfl rfl (lt rfl)) rfl rfl <| sq (f_mapIns mpk265 rfl rfl rfl rfl rfl rfl (by kernel_rfl)) rfl rfl <| sq (f_build bu268 rfl rfl (lt rfl)) rfl rfl <| sq (f_mapIns mpk265 rfl rfl rfl rfl rfl rfl (by kernel_rfl)) rfl rfl <| sq (f_build bu268 rfl rfl (lt rfl)) rfl rfl <| sq (f_mapIns mpk265 rfl rfl rfl rfl rfl rfl (by kernel_rfl)) rfl rfl <| sq (f_build bu268 rfl rfl (lt rfl)) rfl rfl ?_
  refine sq (f_mapIns mpk265 rfl rfl rfl rfl rfl rfl (by kernel_rfl)) rfl rfl <| sq (f_build bu268 rfl rfl (lt rfl)) rfl rfl <| sq (f_mapIns mpk265 rfl rfl rfl rfl rfl rfl (by kernel_rfl)) rfl rfl <| sq (f_build bu268 rfl rfl (lt rfl)) rfl rfl <| sq (f_mapIns mpk265 rfl rfl rfl rfl rfl rfl (by kernel_rfl)) rfl rfl <| sq (f_build bu268 rfl rfl (lt rfl)) rfl rfl <| sq (f_mapIns mpk265 rfl rfl rfl rfl rfl rfl (by kernel_rfl)) rfl rfl <| sq (f_build bu268 rfl rfl (lt rfl)) rfl rfl ?_
  refine sq (f_mapIns mpk265 rfl rfl rfl rfl rfl rfl (by kernel_rfl)) rfl rfl <| sq (f_build bu268 rfl rfl (lt rfl)) rfl rfl <| sq (f_mapIns mpk265 rfl rfl rfl rfl rfl rfl (by kernel_rfl)) rfl rfl <| sq (f_build bu268 rfl rfl (lt rfl)) rfl rfl <| sq (f_mapIns mpk265 rfl rfl rfl rfl rfl rfl (by kernel_rfl)) rfl rfl <| sq (f_build bu268 rfl rfl (lt rfl)) rfl rfl <| sq (f_mapIns mpk265 rfl rfl rfl rfl rfl rfl (by kernel_rfl)) rfl rfl <| sq (f_build bu268 rfl rfl (lt rfl)) rfl rfl ?_
  refine sq (f_mapIns mpk265 rfl rfl rfl rfl rfl rfl (by kernel_rfl)) rfl rfl <| sq (f_build bu268 rfl rfl (lt rfl)) rfl rfl <| sq (f_mapIns mpk265 rfl rfl rfl rfl rfl rfl (by kernel_rfl)) rfl rfl <| sq (f_build bu268 rfl rfl (lt rfl)) rfl rfl <| sq (f_mapIns mpk265 rfl rfl rfl rfl rfl rfl (by kernel_rfl)) rfl rfl <| mvq rfl rfl <| asq rfl rfl <| nxq ?_
  refine rtq ?_
  exact hits_doneM (.inl rfl) rfl rfl rfl rfl rfl
theorem two_c (s : Tx) : CallsP Tryz.prog Lw 235 [txD s] (.tup [signD s, .sc (.bool (twoOf s).isSome)]) := by
  refine callsP_of gs_lw Tryz.func235 rfl Tryz.ntmps235 rfl fun w0 S0 stab => ?_
  refine sqq <| rgq <| sq (f_alloc zc268 (lt rfl)) rfl rfl <| asq rfl rfl <| nxq <| sqq <| rgq <| sq_callM en215 rfl (twos_c) rfl (lt rfl) ?_
  refine mvq rfl rfl <| sq (f_lookup mpk265 rfl rfl rfl (look_two s).1 (look_two s).2 (lt rfl)) rfl rfl <| mvq rfl rfl <| exq rfl rfl rfl <| exq rfl rfl rfl <| sq (f_alloc zc268 (lt rfl)) rfl rfl <| soq kd268 rfl rfl rfl rfl rfl <| asq rfl rfl ?_
  refine nxq <| sqq <| rgq <| ldq kd268 rfl rfl rfl <| mvq rfl rfl <| soq kd268 rfl rfl rfl rfl rfl <| asq rfl rfl <| nxq ?_
  refine rtq ?_
  exact hits_done (.inl rfl) rfl rfl rfl
set_option maxHeartbeats 1000000 in
theorem somex_c {L : List Wd} {i : Nat} (hL : L.length ≤ 65536) (hi : i ≤ L.length) (e : Tx) (he : CallsP Tryz.prog Lw 93 [txD e] (.list 1 ([e].map txD))) (f : Nat) (IH : ∀ g, g ≤ f → ∀ {i : Nat}, i ≤ L.length → CallsX Tryz.prog Lw pvN 179 [LDw L, .sc (.int .i64 (i : Int))] (fun _ => []) (oX L g 0 i)) : CallsX Tryz.prog Lw pvN 218 [LDw L, .sc (.int .i64 (i : Int))] (fun b => [txD e, .sc (.func (.func 179) #[.pointer (some ⟨b, 0, none⟩)] #[])]) (ocOf (LDw L) (exLD) ((exR f e []).run wEnd L i)) := by
  refine callsX_of (m := 2) Tryz.func218 rfl Tryz.ntmps218 (fun _ => rfl) rfl rfl fun hne w0 S0 b stab => ?_
  obtain ⟨o, hO⟩ : ∃ o, o = ocOf (LDw L) (exLD) ((exR f e []).run wEnd L i) := ⟨_, rfl⟩
  rw [← hO] at hne ⊢
  refine sqq <| rgq <| asq rfl rfl <| nxq <| hits_block <| hits_own 6 6 10 rfl <| hits_loop (fun x : Nat × List Ex × Nat => [(.slot 0, some (.ptr 1000000 0)), (.box 1000000, some (.ptr 1000000 0)), (.cell 1000000 0, some (.d (LDw L))), (.cell 1000000 1, some (.d (.sc (.int .i64 (x.2.2 : Int))))), (.slot 1, some (.d (txD e))), (.slot 2, some (.d (.sc (.func (.func 179) #[.pointer (some ⟨b, 0, none⟩)] #[])))), (.slot 6, some (.own 6 10 (x.2.1.map exD))), (.tip 6, some (.ptr 6 0))]) (fun x : Nat × List Ex × Nat => x.1 ≤ f ∧ x.2.1.length ≤ x.2.2 ∧ x.2.2 ≤ L.length ∧ o = ocOf (LDw L) exLD ((exR x.1 e x.2.1).run wEnd L x.2.2)) (fun x : Nat × List Ex × Nat => x.1) (f, [], i) ⟨Nat.le_refl _, Nat.zero_le _, hi, hO⟩ ⟨rfl, rfl, rfl, rfl, rfl, rfl, rfl, rfl, trivial⟩ rfl ?_
  intro x hx0
  obtain ⟨g, acc, i'⟩ := x
  obtain ⟨hg, ha, hi', hO⟩ := hx0
  change g ≤ f at hg
  change acc.length ≤ i' at ha
  change i' ≤ L.length at hi'
  change o = ocOf (LDw L) exLD ((exR g e acc).run wEnd L i') at hO
  change Hits _ [(.slot 0, some (.ptr 1000000 0)), (.box 1000000, some (.ptr 1000000 0)), (.cell 1000000 0, some (.d (LDw L))), (.cell 1000000 1, some (.d (.sc (.int .i64 (i' : Int))))), (.slot 1, some (.d (txD e))), (.slot 2, some (.d (.sc (.func (.func 179) #[.pointer (some ⟨b, 0, none⟩)] #[])))), (.slot 6, some (.own 6 10 (acc.map exD))), (.tip 6, some (.ptr 6 0))] _
  cases g with
  | zero => rw [exR] at hO; exact absurd hO hne
  | succ g =>
  rw [exR] at hO
  change o = ocOf (LDw L) exLD (((exP g 0).bind fun x : Ex => (mayP [44]).bind fun b => if b = true then exR g e (acc ++ [x]) else (needP [e]).bind fun _ => .ret (acc ++ [x])).run wEnd L i') at hO
  refine hits_block <| sqq <| rgq <| mvq rfl rfl <| mvq rfl rfl ?_
  refine sq_prV hO hne (IH g (by omega) hi') rfl rfl rfl rfl ⟨rfl, rfl, trivial⟩ rfl rfl (lt rfl) (fun _ _ hd h => And.intro hd (h)) (fun q j hq hO2 => ?_)
  replace hO := hO2
  clear hO2
  have hj := tame_ex _ _ hq hi'
  obtain ⟨op, lw, lh, ll, nm, fl, n, m, ar, ln⟩ := q
  rw [exD_cs]
  refine sq (f_buildSlice sk65 rfl rfl rfl rfl rfl rfl (by decide) (by decide) (lt rfl)) rfl rfl <| sq_append rfl rfl rfl rfl apk65 (by simp only [snds, List.length_map, List.length_cons, List.length_nil]; omega) (by simp only [snds, List.length_map, List.length_cons, List.length_nil]; omega) rfl (lt rfl) ?_
  refine asq rfl rfl <| nxq <| sqq <| rgq <| mvq rfl rfl ?_
  refine sq_pr hO hne (may_c hL hj.2 [44]) rfl en134 rfl rfl rfl rfl ⟨rfl, rfl, trivial⟩ rfl rfl (lt rfl) (fun _ _ hd h => And.intro hd (h)) (fun b2 j2 hq2 hO2 => ?_)
  replace hO := hO2
  clear hO2
  have hj2 := may_at hq2
  cases b2
  · rw [if_neg Bool.false_ne_true] at hO
    have hj3 : j2 = j := by rcases hj2 with ⟨h, _⟩ | ⟨_, h⟩; cases h; exact h
    subst hj3
    have hnd := need_c (l := e) (ts := [e]) hL hj.2 (by simp) he
    refine sq (f_un rfl rfl (lt rfl)) rfl rfl <| nxq <| cnT rfl <| sqq <| rgq <| mvq rfl rfl <| mvq rfl rfl ?_
    refine sq_pr hO hne (hnd) rfl en122 rfl rfl rfl rfl ⟨rfl, rfl, trivial⟩ rfl rfl (lt rfl) (fun _ _ hd h => And.intro hd (h)) (fun u j3 hq3 hO2 => ?_)
    replace hO := hO2
    clear hO2
    refine nxq <| sqq <| rgq <| mvq rfl rfl <| asq rfl rfl <| nxq <| rtq <| in_ret ?_
    refine to_ret <| in_ret ?_
    have hO' : o = .ret [LDw L, .sc (.int .i64 (j3 : Int))] (.list 10 (acc.map exD ++ [.agg (exCs (Ex.mk op lw lh ll nm fl n m ar ln))])) := by rw [hO]; show Oc.ret _ (exLD _) = _; rw [exLD, List.map_append, List.map_cons, List.map_nil, exD_cs]
    exact hits_doneX hO' (.inl rfl) rfl rfl rfl rfl rfl ⟨rfl, rfl, trivial⟩ rfl
  · rw [if_pos rfl] at hO
    have hj3 : j2 = j + 1 ∧ j < L.length := by rcases hj2 with ⟨_, h⟩ | ⟨h, _⟩; exact h; cases h
    refine sq (f_un rfl rfl (lt rfl)) rfl rfl <| nxq <| cnF rfl <| skq <| inq <| toq ?_
    refine round_end (g, acc ++ [Ex.mk op lw lh ll nm fl n m ar ln], j2) ⟨by simp only; omega, by simp only [List.length_append, List.length_cons, List.length_nil]; omega, by simp only; omega, hO⟩ (by simp only; omega) ⟨rfl, rfl, rfl, rfl, rfl, rfl, (by show _ = some (V.own 6 10 ((acc ++ [Ex.mk op lw lh ll nm fl n m ar ln]).map exD)); rw [List.map_append, List.map_cons, List.map_nil, exD_cs]; rfl), rfl, trivial⟩ rfl
end Go.Proofs.YtogodijfdkffaaaGreatDoor.Ln

