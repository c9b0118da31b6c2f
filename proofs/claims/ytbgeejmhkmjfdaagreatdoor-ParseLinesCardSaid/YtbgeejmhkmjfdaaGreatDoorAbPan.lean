/- Functions that may give up: a call that returns or panics, by what a plain parser does. No program. -/
import Derived.Test.YtbgeejmhkmjfdaaGreatDoorAbMap
import Derived.Test.YtbgeejmhkmjfdaaGreatDoorAbIn
namespace Go.Ab
open Go Go.RowKit
set_option linter.unusedVariables false
set_option linter.unusedSimpArgs false
variable {P : Program} {E : Env} {st : St} {G : Gh} {a : Act} {w : World} {Q : Exit → Act → World → Prop}
variable {d : Nat} {ty : TypeId} {pos : String} {af : Array Edge} {g : Option (Nat × Bool)} {x y z : Operand}
inductive Pr (ω α : Type) where
  | ret (a : α)
  | bad
  | oof
  | look (k : ω → Pr ω α)
  | take (p : Pr ω α)
inductive Rs (α : Type) where
  | ok (a : α) (j : Nat)
  | bad (j : Nat)
  | oof
def Pr.bind {ω α β : Type} : Pr ω α → (α → Pr ω β) → Pr ω β
  | .ret a, k => k a
  | .bad, _ => .bad
  | .oof, _ => .oof
  | .look f, k => .look fun x => (f x).bind k
  | .take p, k => .take (p.bind k)
def wordAt {ω : Type} (w0 : ω) (L : List ω) (i : Nat) : ω := (L[i]?).getD w0
def Pr.run {ω α : Type} (w0 : ω) (L : List ω) : Pr ω α → Nat → Rs α
  | .ret a, i => .ok a i
  | .bad, i => .bad i
  | .oof, _ => .oof
  | .look f, i => (f (wordAt w0 L i)).run w0 L i
  | .take p, i => p.run w0 L (i + 1)
theorem run_bind {ω α β : Type} (w0 : ω) (L : List ω) (k : α → Pr ω β) : ∀ (p : Pr ω α) (i : Nat), (p.bind k).run w0 L i = match p.run w0 L i with
    | .ok a j => (k a).run w0 L j
    | .bad j => .bad j
    | .oof => .oof
  | .ret a, i => rfl
  | .bad, i => rfl
  | .oof, i => rfl
  | .look f, i => run_bind w0 L k (f (wordAt w0 L i)) i
  | .take p, i => run_bind w0 L k p (i + 1)
inductive Oc where
  | ret (outs : List D) (r : D)
  | pan (outs : List D)
  | any
def ch0 (v : Value) : List PanicEntry := [{ v := v, recovered := false }]
def Tail (S : Stab) (w : World) (b : Nat) (outs : List D) (S' : Stab) (w' : World) : Prop :=
  S.le S' ∧ KW w [b] w' ∧ (∃ cs ty, w'.heap[b]? = some (.cells cs ty (0, 0)) ∧ Cells S' outs cs) ∧ (∀ o, S' b o = none) ∧
    ∀ b' o v, S' b' o = some v → S b' o = some v ∨ (w.heap.size ≤ b' ∧ w'.cell? ⟨b', o, none⟩ = some v)
def EndsX (pv : Value) (S : Stab) (w : World) (b : Nat) (e : Ending) (w' : World) : Oc → Prop
  | .ret outs r => ∃ u S', e = .returned u ∧ Rel S' r u ∧ Tail S w b outs S' w'
  | .pan outs => ∃ S', e = .panicked (ch0 pv) ∧ Tail S w b outs S' w'
  | .any => True
def CallsX (P : Program) (Γ : World → Prop) (pv : Value) (f : FuncId) (ins : List D) (args : Nat → List D) (o : Oc) : Prop :=
  o ≠ .any → ∀ (S : Stab) (w : World) (b : Nat) (us : List Value), (∀ w', KW w [b] w' → Γ w') → (∀ b o v, S b o = some v → w.cell? ⟨b, o, none⟩ = some v) → (∀ o, S b o = none) → RelL S (args b) us →
    (∃ cs ty, w.heap[b]? = some (.cells cs ty (0, 0)) ∧ Cells S ins cs) →
    Calls P f ⟨.pointer (some ⟨b, 0, none⟩) :: us⟩ w fun e w' => EndsX pv S w b e w' o
theorem callsX_of {Γ : World → Prop} {pv : Value} {f : FuncId} {fn : Func} {c : Code} {ins : List D} {args : Nat → List D} {o : Oc} {n m : Nat} (hf : P.funcs[f]? = some fn) (hb : fn.body = some c) (hn : fn.ntmps = n) (hm : ∀ b, (args b).length = m) (hl : Nat.ble (m + 1) n = true) (hbig : Nat.ble n 1000000 = true)
    (h : o ≠ .any → ∀ (w0 : World) (S0 : Stab) (b : Nat) (stab : ∀ w, KW w0 [b] w → Γ w), Hits ⟨w0, [b], [(1000000, b)], S0, n, Γ, stab, #[]⟩ (recvRows ins (args b)) (c.wp P (bodyPost P fn fun e w' => EndsX pv S0 w0 b e w' o))) : CallsX P Γ pv f ins args o := by
  intro ho S w b us hΓ hS hSb hr hc
  exact callsR_at (R := fun w0 S0 b e w' => EndsX pv S0 w0 b e w' o) hf hb hn (by rw [hm]; exact hl) hbig S w b us hΓ hS hSb hr hc (h ho w S b hΓ)
theorem sim_tail {outs : List D} {b : Nat} (s : Sim E st G a w) (ho : E.outs = [b]) (hf : E.fix = [(1000000, b)]) (hbox : (look st (.box 1000000)).isSome = true) (hout : insAt st 1000000 0 outs) (hpos : Nat.blt 0 outs.length = true) : Tail E.S0 E.w0 b outs G.S w := by
  have hb0 : look st (.box 1000000) ≠ none := by intro c; rw [c] at hbox; cases hbox
  have hμ : G.μ 1000000 = b := by
    exact (s.rcv (1000000, b) (by rw [hf]; simp)).2 hb0
  have hk : KW E.w0 [b] w := by have := s.kw; rw [ho] at this; exact this
  have hn : ∀ b o v, G.S b o = some v → E.S0 b o = some v ∨ (E.w0.heap.size ≤ b ∧ w.cell? ⟨b, o, none⟩ = some v) := fun b' o v hv => (s.snew b' o v hv).imp id fun q => ⟨q.elim id (fun q => by
    rw [ho] at q
    obtain rfl := List.mem_singleton.mp q
    rw [← hμ, (s.boxes 1000000 hb0).2.2 o] at hv; cases hv), s.stable b' o v hv⟩
  have hc : ∃ cs ty, w.heap[b]? = some (.cells cs ty (0, 0)) ∧ Cells G.S outs cs := by
    obtain ⟨q0, hq0⟩ : ∃ q, outs[0]? = some q := ⟨_, List.getElem?_eq_getElem (Nat.le_of_ble_eq_true hpos)⟩
    obtain ⟨_, cs, ty', cv, q1, _, _⟩ := s.cells 1000000 _ _ (insAt_get hout hq0)
    rw [hμ] at q1
    refine ⟨cs, ty', q1, fun k q hk => ?_⟩
    have hl := insAt_get hout hk
    rw [Nat.zero_add] at hl
    obtain ⟨_, cs2, ty2, cv2, q2, q3, q4⟩ := s.cells 1000000 _ _ hl
    rw [hμ, q1] at q2
    cases q2
    exact ⟨cv2, q3, q4⟩
  have hS : ∀ o, G.S b o = none := fun o => by rw [← hμ]; exact (s.boxes 1000000 hb0).2.2 o
  exact ⟨s.s0, hk, hc, hS, hn⟩
theorem hits_doneX {fn : Func} {pv : Value} {ds : List D} {r : D} {e : Exit} {outs : List D} {b : Nat} {o : Oc} (hO : o = .ret outs r) (he : e = .ret ∨ e = .normal) (ho : E.outs = [b]) (hf : E.fix = [(1000000, b)]) (hr : resDs P st fn.results.toList = some ds) (hp : packD ds = r)
    (hbox : (look st (.box 1000000)).isSome = true) (hout : insAt st 1000000 0 outs) (hpos : Nat.blt 0 outs.length = true) : Hits E st (bodyPost P fn (fun e w' => EndsX pv E.S0 E.w0 b e w' o) e) := by
  subst hO
  exact hits_doneB he ho hf hr hp hbox hout hpos
theorem Sim.afterB {id : Nat} {ins outs : List D} {S' : Stab} {w' : World} (s : Sim E st G a w) (hb0 : look st (.box id) ≠ none) (htop : st.topOk id ins.length = true) (hlen : outs.length = ins.length)
    (hcells : ∃ cs ty, w.heap[G.μ id]? = some (.cells cs ty (0, 0)) ∧ Cells G.S ins cs) (hT : Tail G.S w (G.μ id) outs S' w') : Sim E (cellRows id 0 (outs.map V.d) ++ st) { G with S := S' } a w' := by
  obtain ⟨hS, hk, ⟨cs', ty', h3, h4⟩, h5, hn⟩ := hT
  obtain ⟨hb1, hb2, hb3⟩ := s.boxes id hb0
  have fr : ∀ k, k < w.heap.size → k ≠ G.μ id → w'.heap[k]? = w.heap[k]? := fun k hk' hne => hk.frame k hk' (by simpa using hne)
  have none' : ∀ {b o}, b < w.heap.size → G.S b o = none → S' b o = none := fun {b o} hlt hno => by
    cases hv : S' b o with
    | none => rfl
    | some v =>
      rcases hn b o v hv with q | ⟨q, _⟩
      · rw [hno] at q; cases q
      · omega
  have es : ∀ t, look (cellRows id 0 (outs.map V.d) ++ st) (.slot t) = look st (.slot t) := fun t => look_cellRows_ne id (fun o => by simp) _ _ _
  have eb : ∀ i, look (cellRows id 0 (outs.map V.d) ++ st) (.box i) = look st (.box i) := fun i => look_cellRows_ne id (fun o => by simp) _ _ _
  have et : ∀ i, look (cellRows id 0 (outs.map V.d) ++ st) (.tip i) = look st (.tip i) := fun i => look_cellRows_ne id (fun o => by simp) _ _ _
  have ec : ∀ i o, i ≠ id → look (cellRows id 0 (outs.map V.d) ++ st) (.cell i o) = look st (.cell i o) := fun i o hi => look_cellRows_ne id (fun o' => by simp; intro c; exact absurd c hi) _ _ _
  refine ⟨s.kw.trans hk hb1, s.s0.trans hS, fun b o v hv => (hn b o v hv).elim (s.snew b o v) (fun q => .inr (.inl (Nat.le_trans s.size q.1))), s.tmps, s.defers,
    fun t v hl => ?_, fun i o v hl => ?_, fun i hi => ?_, fun i j hi hj => ?_, fun b o v hv => ?_, fun i hi ht => ?_, fun i j hi hj => ?_, fun p hp => ⟨(s.rcv p hp).1, fun hi => (s.rcv p hp).2 (by rw [eb] at hi; exact hi)⟩, fun i qv l hl hcl ht => ?_, fun i v hl => ?_, fun k v hl => (s.olds k v (by rw [look_cellRows_ne id (fun o => by simp)] at hl; exact hl)).monoS hS⟩
  · rw [es] at hl; exact (s.slots t v hl).monoS hS
  · by_cases hi : i = id
    · subst hi
      refine ⟨by rw [eb]; exact hb0, cs', ty', ?_⟩
      rw [look_cellRows] at hl
      split at hl
      · rename_i ho
        rw [Nat.sub_zero, List.getElem?_map] at hl
        cases hq : outs[o]? with
        | none => rw [hq] at hl; cases hl
        | some q =>
          rw [hq] at hl
          obtain rfl := Option.some.inj hl
          obtain ⟨cv, q1, q2⟩ := h4 o q hq
          exact ⟨cv, h3, q1, q2⟩
      · rename_i ho
        have := top_look htop hl
        exact absurd ⟨Nat.zero_le _, by simp; omega⟩ ho
    · rw [ec i o hi] at hl
      obtain ⟨hx', cs, ty2, cv, q1, q2, q3⟩ := s.cells i o v hl
      refine ⟨by rw [eb]; exact hx', cs, ty2, cv, ?_, q2, q3.monoS hS⟩
      show w'.heap[G.μ i]? = _
      rw [fr _ (lt_of_block q1) (fun c => hi (s.inj i id hx' hb0 c))]
      exact q1
  · rw [eb] at hi
    obtain ⟨q1, q2, q3⟩ := s.boxes i hi
    exact ⟨q1, Nat.lt_of_lt_of_le q2 hk.size, fun o => none' q2 (q3 o)⟩
  · rw [eb] at hi hj; exact s.inj i j hi hj
  · rcases hn b o v hv with q | ⟨_, q⟩
    · have q2 := s.stable b o v q
      have hne : b ≠ G.μ id := fun c => by subst c; rw [hb3] at q; cases q
      obtain ⟨cs, ty2, fz, q3, q4⟩ := block_of_cell q2
      rw [← fr b (lt_of_block q3) hne] at q3
      rw [cell_of_block q3]; exact q4
    · exact q
  · rw [et] at hi
    obtain ⟨q1, ⟨cs, ty2, q2, q3⟩, q4, q5⟩ := s.tips i hi ht
    have hlt := lt_of_block q2
    exact ⟨q1, ⟨cs, ty2, (fr _ hlt (fun c => q5 id hb0 c.symm)).trans q2, q3⟩, fun o ho => none' hlt (q4 o ho), fun j hj => q5 j (by rw [eb] at hj; exact hj)⟩
  · rw [et] at hi hj; exact s.tinj i j hi hj
  · rw [et] at hl
    obtain ⟨q1, o, us', cs, ty2, q2, q3, q4, q5, q6⟩ := s.conts i qv l hl hcl ht
    have hlt := lt_of_block q2
    exact ⟨fun o => none' hlt (q1 o), o, us', cs, ty2, (fr _ hlt (fun c => (s.tips i (by rw [hl]; simp) ht).2.2.2 id hb0 c.symm)).trans q2, q3, q4, q5.monoS hS, q6⟩
  · rw [look_cellRows_ne id (fun o => by simp)] at hl
    obtain ⟨q1, sx, pos, q2, q3⟩ := s.iters i v hl
    have hi : i ≠ id := fun c => by
      subst c
      obtain ⟨cs, ty2, q4, _⟩ := hcells
      rw [q4] at q3; exact (itO_ne q3.symm).elim
    exact ⟨by rw [eb]; exact q1, sx, pos, q2, (fr _ (lt_of_block q3) (fun c => hi (s.inj i id q1 hb0 c))).trans q3⟩
def Oc.fits (n : Nat) : Oc → Prop
  | .ret outs _ => outs.length = n
  | .pan outs => outs.length = n
  | .any => True
theorem sq_callX0 {ops : Array Oper} {l : List Oper} {op : Oper} {f : FuncId} {ins : List D} {args : Nat → List D} {id : Nat} {pv : Value} {o1 : Oc} (hdst : op.dst = some d) (hgd : op.guard = none)
    (hrun : ∀ G a w, Sim E st G a w → ∃ us, (execOp a.eval op).run P w = .ok (.enter f ⟨.pointer (some ⟨G.μ id, 0, none⟩) :: us⟩) w ∧ RelL G.S (args (G.μ id)) us)
    (hc : CallsX P E.Γ pv f ins args o1) (ho1 : o1 ≠ .any) (hfit : o1.fits ins.length) (hin : insAt st id 0 ins) (hbox : (look st (.box id)).isSome = true) (htop : st.topOk id ins.length = true) (hpos : Nat.blt 0 ins.length = true) (hd : d < E.N)
    (hret : ∀ outs r, o1 = .ret outs r → Hits E ((.slot d, some (.d r)) :: (cellRows id 0 (outs.map .d) ++ st)) (wpList P ops Q l))
    (hpan : ∀ outs, o1 = .pan outs → Hits E (cellRows id 0 (outs.map .d) ++ st) fun a w => Q (.panic (ch0 pv)) a w) :
    Hits E st (wpList P ops Q (op :: l)) := by
  intro G a w s
  obtain ⟨us, hr, hus⟩ := hrun G a w s
  unfold wpList
  rw [if_pos (by simp [Region.wanted, hgd])]
  refine .inl ?_
  show Oper.upon P op a _ Q ((execOp a.eval op).run P w)
  rw [hr]
  have hb0 : look st (.box id) ≠ none := by intro c; rw [c] at hbox; cases hbox
  obtain ⟨hb1, hb2, hb3⟩ := s.boxes id hb0
  have hcells : ∃ cs ty, w.heap[G.μ id]? = some (.cells cs ty (0, 0)) ∧ Cells G.S ins cs := by
    obtain ⟨q0, hq0⟩ : ∃ q, ins[0]? = some q := ⟨_, List.getElem?_eq_getElem (Nat.le_of_ble_eq_true hpos)⟩
    obtain ⟨_, cs, ty', cv, h1, _, _⟩ := s.cells id _ _ (insAt_get hin hq0)
    refine ⟨cs, ty', h1, fun k q hk => ?_⟩
    have hl := insAt_get hin hk
    rw [Nat.zero_add] at hl
    obtain ⟨_, cs2, ty2, cv2, h2, h3, h4⟩ := s.cells id _ _ hl
    rw [h1] at h2
    cases h2
    exact ⟨cv2, h3, h4⟩
  refine (hc ho1 G.S w (G.μ id) us (fun w' k => E.stab w' (s.kw.trans k hb1)) s.stable hb3 hus hcells).mono ?_
  intro e w' h2
  cases o1 with
  | any => exact absurd rfl ho1
  | ret outs r =>
    obtain ⟨u, S', rfl, hr, hT⟩ := h2
    have := hret outs r rfl _ _ _ ((s.afterB hb0 htop hfit hcells hT).put hd hr)
    rw [← hdst] at this
    exact this
  | pan outs =>
    obtain ⟨S', rfl, hT⟩ := h2
    exact hpan outs rfl _ _ _ (s.afterB hb0 htop hfit hcells hT)
theorem sq_guard {ops : Array Oper} {o : Oper} {l : List Oper} {j t : Nat} {b : Bool} (hg : o.guard = some (j, b)) (hj : (ops[j]?).bind (·.dst) = some t) (hl : look st (.slot t) = some (.d (.sc (.bool b)))) (ht : t < E.N)
    (h : Hits E st (wpList P ops Q ({ o with guard := none } :: l))) : Hits E st (wpList P ops Q (o :: l)) := by
  intro G a w s
  have h1 := h G a w s
  unfold wpList at h1 ⊢
  rw [if_pos (by simp [Region.wanted])] at h1
  rw [if_pos (by simp [Region.wanted, hg, yielded_of s hj hl ht])]
  cases o
  exact h1
def ocOf {α : Type} (hd : D) (tD : α → D) : Rs α → Oc
  | .ok a j => .ret [hd, .sc (.int .i64 (j : Int))] (tD a)
  | .bad j => .pan [hd, .sc (.int .i64 (j : Int))]
  | .oof => .any
theorem fits_ocOf {α : Type} (hd : D) (tD : α → D) (r : Rs α) : (ocOf hd tD r).fits 2 := by cases r <;> first | rfl | trivial
theorem sq_pr0 {ω α β : Type} {w0 : ω} {L : List ω} {p1 : Pr ω α} {k : α → Pr ω β} {i : Nat} {hdD : D} {tD : β → D} {tD1 : α → D} {o : Oc} {ops : Array Oper} {l : List Oper} {op : Oper} {f : FuncId} {args : Nat → List D} {pv : Value} {b : Nat}
    (hO : o = ocOf hdD tD ((p1.bind k).run w0 L i)) (hne : o ≠ .any) (hc : CallsX P E.Γ pv f [hdD, .sc (.int .i64 (i : Int))] args (ocOf hdD tD1 (p1.run w0 L i))) (hdst : op.dst = some d) (hgd : op.guard = none)
    (hrun : ∀ G a w, Sim E st G a w → ∃ us, (execOp a.eval op).run P w = .ok (.enter f ⟨.pointer (some ⟨G.μ 1000000, 0, none⟩) :: us⟩) w ∧ RelL G.S (args (G.μ 1000000)) us)
    (ho : E.outs = [b]) (hf : E.fix = [(1000000, b)]) (hin : insAt st 1000000 0 [hdD, .sc (.int .i64 (i : Int))]) (hbox : (look st (.box 1000000)).isSome = true) (htop : st.topOk 1000000 2 = true) (hd : d < E.N)
    (hpan : ∀ a w, a.defers = [] → EndsX pv E.S0 E.w0 b (.panicked (ch0 pv)) w o → Q (.panic (ch0 pv)) a w)
    (h : ∀ q j, p1.run w0 L i = .ok q j → o = ocOf hdD tD ((k q).run w0 L j) → Hits E ((.slot d, some (.d (tD1 q))) :: (.cell 1000000 0, some (.d hdD)) :: (.cell 1000000 1, some (.d (.sc (.int .i64 (j : Int))))) :: st) (wpList P ops Q l)) :
    Hits E st (wpList P ops Q (op :: l)) := by
  rw [run_bind] at hO
  cases hr : p1.run w0 L i with
  | oof => rw [hr] at hO; exact absurd hO hne
  | ok q j =>
    rw [hr] at hO hc
    refine sq_callX0 hdst hgd hrun hc (fun c => by cases c) rfl hin hbox htop rfl hd (fun outs r e => ?_) (fun outs e => by cases e)
    cases e
    exact h q j hr hO
  | bad j =>
    rw [hr] at hO hc
    refine sq_callX0 hdst hgd hrun hc (fun c => by cases c) rfl hin hbox htop rfl hd (fun outs r e => by cases e) (fun outs e => ?_)
    cases e
    intro G a w s
    refine hpan a w s.defers ?_
    rw [hO]
    exact ⟨G.S, rfl, sim_tail s ho hf (by rw [look_cellRows_ne 1000000 (fun o => by simp)]; exact hbox) ⟨look_same .., by show look ((Loc.cell 1000000 0, some (V.d hdD)) :: (Loc.cell 1000000 1, some (V.d (D.sc (Value.int IntKind.i64 (j : Int))))) :: st) (.cell 1000000 1) = _; rw [look_ne _ _ (by simp)]; exact look_same .., trivial⟩ rfl⟩
theorem sq_pr {ω α β : Type} {w0 : ω} {L : List ω} {p1 : Pr ω α} {k : α → Pr ω β} {i : Nat} {hdD : D} {tD : β → D} {tD1 : α → D} {o : Oc} {ops : Array Oper} {l : List Oper} {f : FuncId} {xs : List Operand} {ats : Array TypeId} {ds : List D} {args : Nat → List D} {pv : Value} {b : Nat}
    (hO : o = ocOf hdD tD ((p1.bind k).run w0 L i)) (hne : o ≠ .any) (hc : CallsX P E.Γ pv f [hdD, .sc (.int .i64 (i : Int))] args (ocOf hdD tD1 (p1.run w0 L i))) (hargs : args b = ds) (hen : enters P f = true) (hx : ev st x = some (.ptr 1000000 0)) (ha : evs st xs = some ds)
    (ho : E.outs = [b]) (hf : E.fix = [(1000000, b)]) (hin : insAt st 1000000 0 [hdD, .sc (.int .i64 (i : Int))]) (hbox : (look st (.box 1000000)).isSome = true) (htop : st.topOk 1000000 2 = true) (hd : d < E.N)
    (hpan : ∀ a w, a.defers = [] → EndsX pv E.S0 E.w0 b (.panicked (ch0 pv)) w o → Q (.panic (ch0 pv)) a w)
    (h : ∀ q j, p1.run w0 L i = .ok q j → o = ocOf hdD tD ((k q).run w0 L j) → Hits E ((.slot d, some (.d (tD1 q))) :: (.cell 1000000 0, some (.d hdD)) :: (.cell 1000000 1, some (.d (.sc (.int .i64 (j : Int))))) :: st) (wpList P ops Q l)) :
    Hits E st (wpList P ops Q (⟨some d, .call ⟨.value (.func f), (x :: xs).toArray, ats⟩, ty, pos, af, none⟩ :: l)) :=
  sq_pr0 hO hne hc rfl rfl (fun G a w s => by
    have e1 : a.eval x = .pointer (some ⟨G.μ 1000000, 0, none⟩) := s.ev hx
    have ef : a.eval (.func f) = .func (.func f) #[] #[] := rfl
    refine ⟨xs.map a.eval, by simp [execOp, resolve, ef, Deferred.ofValue, invoke, run_callFunc hen, e1], ?_⟩
    rw [(s.rcv (1000000, b) (by rw [hf]; simp)).2 (by intro c; rw [c] at hbox; cases hbox), hargs]
    exact s.evs ha) ho hf hin hbox htop hd hpan h
theorem sq_prV {ω α β : Type} {w0 : ω} {L : List ω} {p1 : Pr ω α} {k : α → Pr ω β} {i : Nat} {hdD : D} {tD : β → D} {tD1 : α → D} {o : Oc} {ops : Array Oper} {l : List Oper} {f : FuncId} {ats : Array TypeId} {pv : Value} {b : Nat}
    (hO : o = ocOf hdD tD ((p1.bind k).run w0 L i)) (hne : o ≠ .any) (hc : CallsX P E.Γ pv f [hdD, .sc (.int .i64 (i : Int))] (fun _ => []) (ocOf hdD tD1 (p1.run w0 L i))) (hen : enters P f = true) (hx : ev st x = some (.d (.sc (.func (.func f) #[.pointer (some ⟨b, 0, none⟩)] #[]))))
    (ho : E.outs = [b]) (hf : E.fix = [(1000000, b)]) (hin : insAt st 1000000 0 [hdD, .sc (.int .i64 (i : Int))]) (hbox : (look st (.box 1000000)).isSome = true) (htop : st.topOk 1000000 2 = true) (hd : d < E.N)
    (hpan : ∀ a w, a.defers = [] → EndsX pv E.S0 E.w0 b (.panicked (ch0 pv)) w o → Q (.panic (ch0 pv)) a w)
    (h : ∀ q j, p1.run w0 L i = .ok q j → o = ocOf hdD tD ((k q).run w0 L j) → Hits E ((.slot d, some (.d (tD1 q))) :: (.cell 1000000 0, some (.d hdD)) :: (.cell 1000000 1, some (.d (.sc (.int .i64 (j : Int))))) :: st) (wpList P ops Q l)) :
    Hits E st (wpList P ops Q (⟨some d, .call ⟨.value x, #[], ats⟩, ty, pos, af, none⟩ :: l)) :=
  sq_pr0 (args := fun _ => []) hO hne hc rfl rfl (fun G a w s => by
    have e1 := s.sc hx
    have hm : G.μ 1000000 = b := (s.rcv (1000000, b) (by rw [hf]; simp)).2 (by intro c; rw [c] at hbox; cases hbox)
    refine ⟨[], ?_, .nil⟩
    rw [hm]
    simp [execOp, resolve, e1, Deferred.ofValue, invoke, run_callFunc hen]) ho hf hin hbox htop hd hpan h
theorem f_methodVal {f : FuncId} {b : Nat} (hx : ev st x = some (.ptr 1000000 0)) (hf : E.fix = [(1000000, b)]) (hbox : (look st (.box 1000000)).isSome = true) (hd : d < E.N) :
    FOk P E ⟨some d, .makeFunc (.func f) #[x] #[], ty, pos, af, g⟩ st (evL x ++ [.box 1000000]) [] [(.slot d, some (.d (.sc (.func (.func f) #[.pointer (some ⟨b, 0, none⟩)] #[]))))] :=
  fok_val rfl hd fun st' G a w hL hs => by
    have e1 : a.eval x = .pointer (some ⟨G.μ 1000000, 0, none⟩) := hs.ev ((ev_same hL fun l h => mem_l h).trans hx)
    have hm : G.μ 1000000 = b := (hs.rcv (1000000, b) (by rw [hf]; simp)).2 (by rw [hL (.box 1000000) (mem_r (by simp))]; intro c; rw [c] at hbox; cases hbox)
    exact ⟨_, by simp [execOp, Instr.makeFunc, e1, hm], .sc _⟩
theorem f_mkIfaceD {t : TypeId} {q : D} (hx : ev st x = some (.d q)) (ht : nif P t = true) (hd : d < E.N) :
    FOk P E ⟨some d, .makeInterface t x, ty, pos, af, g⟩ st (evL x) [] [(.slot d, some (.d (.ifc t q)))] :=
  fok_val rfl hd fun st' G a w hL hs => by
    have e1 : Rel G.S q (a.eval x) := hs.ev ((ev_same hL fun l h => h).trans hx)
    unfold nif at ht
    refine ⟨.iface t (a.eval x), ?_, .ifc e1⟩
    split at ht
    · cases ht
    · rename_i u hu hne
      simp only [execOp, Instr.makeInterface, Sem.run_bind, run_underlying hne, Result.andThen_ok]
      cases u <;> first | rfl | (exact absurd rfl (hu _))
    · cases ht
theorem sq_panic {ops : Array Oper} {l : List Oper} {t : TypeId} {pv : Value} {b : Nat} {o : Oc} {outs : List D} (hx : ev st x = some (.d (.ifc t (.agg [])))) (hpv : pv = .iface t (.agg ⟨[]⟩)) (hO : o = .pan outs)
    (ho : E.outs = [b]) (hf : E.fix = [(1000000, b)]) (hin : insAt st 1000000 0 outs) (hbox : (look st (.box 1000000)).isSome = true) (hpos : Nat.blt 0 outs.length = true)
    (hpan : ∀ a w, a.defers = [] → EndsX pv E.S0 E.w0 b (.panicked (ch0 pv)) w o → Q (.panic (ch0 pv)) a w) {dd : Option Nat} :
    Hits E st (wpList P ops Q (⟨dd, .panic x, ty, pos, af, none⟩ :: l)) := by
  intro G a w s
  unfold wpList
  rw [if_pos (by simp [Region.wanted])]
  refine .inl ?_
  show Oper.upon P _ a _ Q ((execOp a.eval _).run P w)
  have e1 : a.eval x = pv := by
    have e1 : Rel G.S (.ifc t (.agg [])) (a.eval x) := s.ev hx
    rw [hpv]
    cases hc : a.eval x <;> rw [hc] at e1 <;> cases e1
    rename_i h1
    cases h1
    rename_i h2
    cases h2
    rfl
  have hrun : (execOp a.eval (⟨dd, .panic x, ty, pos, af, none⟩ : Oper)).run P w = .halt (.panic pv) w := by
    subst hpv
    simp [execOp, e1, Instr.panic]
  rw [hrun]
  refine hpan a w s.defers ?_
  rw [hO]
  exact ⟨G.S, rfl, sim_tail s ho hf hbox hin hpos⟩
theorem callX_wp {op : Oper} {f : FuncId} {ins : List D} {args : Nat → List D} {id : Nat} {pv : Value} {o1 : Oc} {K : Act → World → Prop} (hdst : op.dst = some d)
    (hrun : ∀ G a w, Sim E st G a w → ∃ us, (execOp a.eval op).run P w = .ok (.enter f ⟨.pointer (some ⟨G.μ id, 0, none⟩) :: us⟩) w ∧ RelL G.S (args (G.μ id)) us)
    (hc : CallsX P E.Γ pv f ins args o1) (ho1 : o1 ≠ .any) (hfit : o1.fits ins.length) (hin : insAt st id 0 ins) (hbox : (look st (.box id)).isSome = true) (htop : st.topOk id ins.length = true) (hpos : Nat.blt 0 ins.length = true) (hd : d < E.N)
    (hret : ∀ outs r, o1 = .ret outs r → Hits E ((.slot d, some (.d r)) :: (cellRows id 0 (outs.map .d) ++ st)) K)
    (hpan : ∀ outs, o1 = .pan outs → Hits E (cellRows id 0 (outs.map .d) ++ st) fun a w => Q (.panic (ch0 pv)) a w) :
    Hits E st (fun a w => op.wp P a w K Q) := by
  intro G a w s
  obtain ⟨us, hr, hus⟩ := hrun G a w s
  show Oper.upon P op a _ Q ((execOp a.eval op).run P w)
  rw [hr]
  have hb0 : look st (.box id) ≠ none := by intro c; rw [c] at hbox; cases hbox
  obtain ⟨hb1, hb2, hb3⟩ := s.boxes id hb0
  have hcells : ∃ cs ty, w.heap[G.μ id]? = some (.cells cs ty (0, 0)) ∧ Cells G.S ins cs := by
    obtain ⟨q0, hq0⟩ : ∃ q, ins[0]? = some q := ⟨_, List.getElem?_eq_getElem (Nat.le_of_ble_eq_true hpos)⟩
    obtain ⟨_, cs, ty', cv, h1, _, _⟩ := s.cells id _ _ (insAt_get hin hq0)
    refine ⟨cs, ty', h1, fun k q hk => ?_⟩
    have hl := insAt_get hin hk
    rw [Nat.zero_add] at hl
    obtain ⟨_, cs2, ty2, cv2, h2, h3, h4⟩ := s.cells id _ _ hl
    rw [h1] at h2
    cases h2
    exact ⟨cv2, h3, h4⟩
  refine (hc ho1 G.S w (G.μ id) us (fun w' k => E.stab w' (s.kw.trans k hb1)) s.stable hb3 hus hcells).mono ?_
  intro e w' h2
  cases o1 with
  | any => exact absurd rfl ho1
  | ret outs r =>
    obtain ⟨u, S', rfl, hr, hT⟩ := h2
    have := hret outs r rfl _ _ _ ((s.afterB hb0 htop hfit hcells hT).put hd hr)
    rw [← hdst] at this
    exact this
  | pan outs =>
    obtain ⟨S', rfl, hT⟩ := h2
    exact hpan outs rfl _ _ _ (s.afterB hb0 htop hfit hcells hT)
def badD : D := .list 1 [.agg []]
theorem badD_none {S : Stab} {u : Value} : ¬ Rel S badD u := fun h => by
  cases h with
  | list hc he => cases he with | cons hn _ _ => cases hn
theorem drawn_end {A : Prop} {X hdD : D} {id : Nat} {K : Act → World → Prop} (hX : A ∧ X = hdD ∨ X = badD) (hl : look st (.cell id 0) = some (.d X)) (h : A → X = hdD → Hits E st K) : Hits E st K := by
  rcases hX with ⟨h1, h2⟩ | h1
  · exact h h1 h2
  · intro G a w s
    obtain ⟨_, cs, ty, cv, _, _, hr⟩ := s.cells id 0 _ hl
    rw [h1] at hr
    exact absurd hr badD_none
def prRows (id d : Nat) (r X : D) (j : Nat) : St := [(.slot d, some (.d r)), (.cell id 0, some (.d X)), (.cell id 1, some (.d (.sc (.int .i64 (j : Int)))))]
theorem dq_pr0 {ω α : Type} {w0 : ω} {L : List ω} {p1 : Pr ω α} {i : Nat} {hdD : D} {tD1 : α → D} {lf l : List Oper} {acc : List Cert} {op : Oper} {f : FuncId} {args : Nat → List D} {pv : Value} {id : Nat} {Lx : List Loc} (q0 : α)
    (hne : p1.run w0 L i ≠ .oof) (hc : CallsX P E.Γ pv f [hdD, .sc (.int .i64 (i : Int))] args (ocOf hdD tD1 (p1.run w0 L i))) (hdst : op.dst = some d) (hgd : op.guard = none)
    (hrun : ∀ st', (∀ k ∈ Lx ++ [.box id, .cell id 0, .cell id 1], look st' k = look st k) → ∀ G a w, Sim E st' G a w → ∃ us, (execOp a.eval op).run P w = .ok (.enter f ⟨.pointer (some ⟨G.μ id, 0, none⟩) :: us⟩) w ∧ RelL G.S (args (G.μ id)) us)
    (hin : insAt st id 0 [hdD, .sc (.int .i64 (i : Int))]) (hbox : (look st (.box id)).isSome = true) (hd : d < E.N)
    (hpan : ∀ j, p1.run w0 L i = .bad j → ∀ st', (∀ k ∈ Lx ++ [.box id, .cell id 0, .cell id 1], look st' k = look st k) → Hits E ((.cell id 0, some (.d hdD)) :: (.cell id 1, some (.d (.sc (.int .i64 (j : Int))))) :: st') fun a w => Q (.panic (ch0 pv)) a w)
    (h : ∀ q j X, (p1.run w0 L i = .ok q j ∧ X = hdD ∨ X = badD) → Drawn P E lf Q (some (id, 2)) l (prRows id d (tD1 q) X j ++ st) (⟨Lx ++ [.box id, .cell id 0, .cell id 1], [], prRows id d (tD1 q) X j⟩ :: acc)) :
    Drawn P E lf Q (some (id, 2)) (op :: l) st acc := by
  have key : ∀ (r X : D) (j' : Nat) (hok : ∀ q j, p1.run w0 L i = .ok q j → r = tD1 q ∧ X = hdD ∧ j' = j), GOk P E Q (some (id, 2)) lf.toArray op st ⟨Lx ++ [.box id, .cell id 0, .cell id 1], [], prRows id d r X j'⟩ := by
    intro r X j' hok K st' hL _ ht hK G a w s
    have hin' : insAt st' id 0 [hdD, .sc (.int .i64 (i : Int))] := by
      obtain ⟨h1, h2, _⟩ := hin
      exact ⟨(hL _ (by simp)).trans h1, (hL _ (by simp)).trans h2, trivial⟩
    have hbox' : (look st' (.box id)).isSome = true := by rw [hL _ (by simp)]; exact hbox
    rw [if_pos (by simp [Region.wanted, hgd])]
    refine .inl (callX_wp (st := st') hdst (hrun st' hL) hc (by intro c; cases hr : p1.run w0 L i with
      | oof => exact hne hr
      | ok q j => rw [hr] at c; cases c
      | bad j => rw [hr] at c; cases c) (fits_ocOf _ _ _) hin' hbox' ht rfl hd (fun outs r' e => ?_) (fun outs e => ?_) G a w s)
    · cases hr : p1.run w0 L i with
      | oof => exact absurd hr hne
      | bad j => rw [hr] at e; cases e
      | ok q j =>
        rw [hr] at e; cases e
        obtain ⟨rfl, rfl, rfl⟩ := hok q j hr
        exact hK
    · cases hr : p1.run w0 L i with
      | oof => exact absurd hr hne
      | ok q j => rw [hr] at e; cases e
      | bad j =>
        rw [hr] at e; cases e
        exact hpan j hr st' hL
  cases hr : p1.run w0 L i with
  | oof => exact absurd hr hne
  | ok q j => exact dq_of (key (tD1 q) hdD j (fun q' j' h' => by rw [hr] at h'; cases h'; exact ⟨rfl, rfl, rfl⟩)) rfl (h q j hdD (.inl ⟨hr, rfl⟩))
  | bad j => exact dq_of (key (tD1 q0) badD j (fun q' j' h' => by rw [hr] at h'; cases h')) rfl (h q0 j badD (.inr rfl))
theorem dq_pr {ω α β : Type} {w0 : ω} {L : List ω} {p1 : Pr ω α} {k : α → Pr ω β} {i : Nat} {hdD : D} {tD : β → D} {tD1 : α → D} {o : Oc} {lf l : List Oper} {acc : List Cert} {f : FuncId} {xs : List Operand} {ats : Array TypeId} {ds : List D} {args : Nat → List D} {pv : Value} {b : Nat} (q0 : α)
    (hO : o = ocOf hdD tD ((p1.bind k).run w0 L i)) (hne : o ≠ .any) (hc : CallsX P E.Γ pv f [hdD, .sc (.int .i64 (i : Int))] args (ocOf hdD tD1 (p1.run w0 L i))) (hargs : args b = ds) (hen : enters P f = true) (hx : ev st x = some (.ptr 1000000 0)) (ha : evs st xs = some ds)
    (ho : E.outs = [b]) (hf : E.fix = [(1000000, b)]) (hin : insAt st 1000000 0 [hdD, .sc (.int .i64 (i : Int))]) (hbox : (look st (.box 1000000)).isSome = true) (hd : d < E.N)
    (hpan : ∀ a w, a.defers = [] → EndsX pv E.S0 E.w0 b (.panicked (ch0 pv)) w o → Q (.panic (ch0 pv)) a w)
    (h : ∀ q j X, ((p1.run w0 L i = .ok q j ∧ o = ocOf hdD tD ((k q).run w0 L j)) ∧ X = hdD ∨ X = badD) → Drawn P E lf Q (some (1000000, 2)) l ([(.slot d, some (.d (tD1 q))), (.cell 1000000 0, some (.d X)), (.cell 1000000 1, some (.d (.sc (.int .i64 (j : Int)))))] ++ st) (⟨(evL x ++ evsL xs) ++ [.box 1000000, .cell 1000000 0, .cell 1000000 1], [], [(.slot d, some (.d (tD1 q))), (.cell 1000000 0, some (.d X)), (.cell 1000000 1, some (.d (.sc (.int .i64 (j : Int)))))]⟩ :: acc)) :
    Drawn P E lf Q (some (1000000, 2)) (⟨some d, .call ⟨.value (.func f), (x :: xs).toArray, ats⟩, ty, pos, af, none⟩ :: l) st acc := by
  rw [run_bind] at hO
  refine dq_pr0 (Lx := evL x ++ evsL xs) q0 (fun c => by rw [c] at hO; exact hne hO) hc rfl rfl (fun st' hL G a w s => ?_) hin hbox hd (fun j hr st' hL => ?_) (fun q j X hX => h q j X (hX.imp (fun ⟨h1, h2⟩ => ⟨⟨h1, by rw [h1] at hO; exact hO⟩, h2⟩) id))
  · have e1 : a.eval x = .pointer (some ⟨G.μ 1000000, 0, none⟩) := s.ev ((ev_same hL fun l h => mem_l (mem_l h)).trans hx)
    have ef : a.eval (.func f) = .func (.func f) #[] #[] := rfl
    refine ⟨xs.map a.eval, by simp [execOp, resolve, ef, Deferred.ofValue, invoke, run_callFunc hen, e1], ?_⟩
    have hb0 : look st' (.box 1000000) ≠ none := by rw [hL _ (by simp)]; intro c; rw [c] at hbox; cases hbox
    rw [(s.rcv (1000000, b) (by rw [hf]; simp)).2 hb0, hargs]
    exact s.evs ((evs_same hL fun l h => mem_l (mem_r h)).trans ha)
  · intro G a w s
    refine hpan a w s.defers ?_
    rw [hr] at hO
    rw [hO]
    exact ⟨G.S, rfl, sim_tail s ho hf (by rw [look_ne _ _ (by simp), look_ne _ _ (by simp), hL _ (by simp)]; exact hbox) ⟨look_same .., by show look ((Loc.cell 1000000 0, some (V.d hdD)) :: (Loc.cell 1000000 1, some (V.d (D.sc (Value.int IntKind.i64 (j : Int))))) :: st') (.cell 1000000 1) = _; rw [look_ne _ _ (by simp)]; exact look_same .., trivial⟩ rfl⟩
theorem hits_cellD {K : Act → World → Prop} (id k : Nat) {q q' : D} (hl : look st (.cell id k) = some (.d q)) (hR : ∀ S v, Rel S q v → Rel S q' v) (h : Hits E ((.cell id k, some (.d q')) :: st) K) : Hits E st K := by
  intro G a w s
  have e1 : ∀ i, look ((Loc.cell id k, some (V.d q')) :: st) (.box i) = look st (.box i) := fun i => look_ne _ _ (by simp)
  have e2 : ∀ i, look ((Loc.cell id k, some (V.d q')) :: st) (.tip i) = look st (.tip i) := fun i => look_ne _ _ (by simp)
  refine h G a w ⟨s.kw, s.s0, s.snew, s.tmps, s.defers, fun t v hv => s.slots t v (by rw [look_ne _ _ (by simp)] at hv; exact hv), fun i o v hv => ?_, fun i hi => s.boxes i (by rw [e1] at hi; exact hi), fun i j hi hj => s.inj i j (by rw [e1] at hi; exact hi) (by rw [e1] at hj; exact hj), s.stable, fun i hi ht => ?_, fun i j hi hj => s.tinj i j (by rw [e2] at hi; exact hi) (by rw [e2] at hj; exact hj), fun p hp => ⟨(s.rcv p hp).1, fun hi => (s.rcv p hp).2 (by rw [e1] at hi; exact hi)⟩, fun i qv l hv hcl ht => s.conts i qv l (by rw [e2] at hv; exact hv) hcl ht, fun i v hv => ?_, fun j v hv => s.olds j v (by rw [look_ne _ _ (by simp)] at hv; exact hv)⟩
  · rw [look_cons] at hv
    split at hv
    · rename_i he
      obtain ⟨rfl, rfl⟩ : id = i ∧ k = o := by simpa using he
      obtain rfl := Option.some.inj hv
      obtain ⟨h1, cs, ty, cv, h2, h3, h4⟩ := s.cells id k _ hl
      exact ⟨by rw [e1]; exact h1, cs, ty, cv, h2, h3, hR _ _ h4⟩
    · obtain ⟨h1, h2⟩ := s.cells i o v hv
      exact ⟨by rw [e1]; exact h1, h2⟩
  · rw [e2] at hi
    obtain ⟨h1, h2, h3, h4⟩ := s.tips i hi ht
    exact ⟨h1, h2, h3, fun j hj => h4 j (by rw [e1] at hj; exact hj)⟩
  · rw [look_ne _ _ (by simp)] at hv
    obtain ⟨h1, h2⟩ := s.iters i v hv
    exact ⟨by rw [e1]; exact h1, h2⟩
theorem nil_list {es : Nat} : ∀ S v, Rel S (.sc (.slice none 0 0)) v → Rel S (.list es []) v := fun _ _ h => by cases h; exact .lnil
theorem hits_slotD {K : Act → World → Prop} (t : Nat) {q q' : D} (hl : look st (.slot t) = some (.d q)) (hR : ∀ S v, Rel S q v → Rel S q' v) (h : Hits E ((.slot t, some (.d q')) :: st) K) : Hits E st K := by
  intro G a w s
  have e0 : ∀ k : Loc, (∀ t, k ≠ .slot t) → look ((Loc.slot t, some (V.d q')) :: st) k = look st k := fun k hk => look_ne _ _ (fun c => hk t c.symm)
  refine h G a w ⟨s.kw, s.s0, s.snew, s.tmps, s.defers, fun u v hv => ?_, fun i o v hv => ?_, fun i hi => s.boxes i (by rw [e0 _ (by simp)] at hi; exact hi), fun i j hi hj => s.inj i j (by rw [e0 _ (by simp)] at hi; exact hi) (by rw [e0 _ (by simp)] at hj; exact hj), s.stable, fun i hi ht => ?_, fun i j hi hj => s.tinj i j (by rw [e0 _ (by simp)] at hi; exact hi) (by rw [e0 _ (by simp)] at hj; exact hj), fun p hp => ⟨(s.rcv p hp).1, fun hi => (s.rcv p hp).2 (by rw [e0 _ (by simp)] at hi; exact hi)⟩, fun i qv l hv hcl ht => s.conts i qv l (by rw [e0 _ (by simp)] at hv; exact hv) hcl ht, fun i v hv => ?_, fun j v hv => s.olds j v (by rw [e0 _ (by simp)] at hv; exact hv)⟩
  · rw [look_cons] at hv
    split at hv
    · rename_i he
      obtain rfl : t = u := by simpa using he
      obtain rfl := Option.some.inj hv
      exact hR _ _ (s.slots t _ hl)
    · exact s.slots u v hv
  · rw [e0 _ (by simp)] at hv ⊢; exact s.cells i o v hv
  · rw [e0 _ (by simp)] at hi
    obtain ⟨h1, h2, h3, h4⟩ := s.tips i hi ht
    exact ⟨h1, h2, h3, fun j hj => h4 j (by rw [e0 _ (by simp)] at hj; exact hj)⟩
  · rw [e0 _ (by simp)] at hv ⊢; exact s.iters i v hv
theorem hits_to {K : Act → World → Prop} (st' : St) (hk : st'.kept st) (hb : st'.boxed = true) (h : Hits E st' K) : Hits E st K := fun G a w s => h G a w (s.keep hk hb)
theorem f_methodValD {f : FuncId} {v : Value} (hx : ev st x = some (.d (.sc v))) (hd : d < E.N) :
    FOk P E ⟨some d, .makeFunc (.func f) #[x] #[], ty, pos, af, g⟩ st (evL x) [] [(.slot d, some (.d (.sc (.func (.func f) #[v] #[]))))] :=
  fok_val rfl hd fun st' G a w hL hs => by
    have e1 := hs.sc ((ev_same hL fun l h => h).trans hx)
    exact ⟨_, by simp [execOp, Instr.makeFunc, e1], .sc _⟩
theorem f_callMP {f : FuncId} {ats : Array TypeId} {es : List (ByteArray × Value)} {b : Nat} (hen : enters P f = true) (hx : ev st x = some (.ptr 1000000 0)) (hc : CallsM P E.Γ f [.sc (.pointer (some ⟨b, 0, none⟩))] es) (hf : E.fix = [(1000000, b)]) (hbox : (look st (.box 1000000)).isSome = true) (hd : d < E.N) :
    FOk P E ⟨some d, .call ⟨.value (.func f), #[x], ats⟩, ty, pos, af, g⟩ st (evL x ++ [.box 1000000]) [d] [(.slot d, some (.mapp d)), (.iter d, some (itV (.inr es) es.length)), (.box d, some (.ptr d 0))] := by
  intro Q K st' hL hfr hK G a w s
  have e1 : a.eval x = .pointer (some ⟨G.μ 1000000, 0, none⟩) := s.ev ((ev_same hL fun l h => mem_l h).trans hx)
  have hm : G.μ 1000000 = b := (s.rcv (1000000, b) (by rw [hf]; simp)).2 (by rw [hL (.box 1000000) (mem_r (by simp))]; intro c; rw [c] at hbox; cases hbox)
  have ef : a.eval (.func f) = .func (.func f) #[] #[] := rfl
  have hrun : (execOp a.eval (⟨some d, .call ⟨.value (.func f), #[x], ats⟩, ty, pos, af, g⟩ : Oper)).run P w = .ok (.enter f ⟨[.pointer (some ⟨b, 0, none⟩)]⟩) w := by
    simp [execOp, resolve, ef, Deferred.ofValue, invoke, run_callFunc hen, e1, hm]
  show Oper.upon P _ a _ Q _
  rw [hrun]
  refine (hc G.S w [.pointer (some ⟨b, 0, none⟩)] (E.stab w s.kw) s.stable (.cons (.sc _) .nil)).mono ?_
  rintro e w' ⟨r, rfl, h1, h2, h3, h4⟩
  exact hK _ _ _ ((s.adopt (.inr es) es.length hd (hfr d (by simp)) h4 h1 h2 h3).put hd (by show _ = _; simp [upd]))
end Go.Ab
