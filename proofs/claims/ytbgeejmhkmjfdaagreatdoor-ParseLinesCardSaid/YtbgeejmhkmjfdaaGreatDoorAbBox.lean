/- Methods through a pointer: calls that read and write the cells of one variable of the caller's frame. No program. -/
import Derived.Test.YtbgeejmhkmjfdaaGreatDoorAbIfc
namespace Go.Ab
open Go Go.RowKit
set_option linter.unusedVariables false
set_option linter.unusedSimpArgs false
variable {P : Program} {E : Env} {st : St} {Q : Exit → Act → World → Prop} {d : Nat} {ty : TypeId} {pos : String} {af : Array Edge} {x y : Operand}
def Cells (S : Stab) (l : List D) (cs : Array Value) : Prop := ∀ (k : Nat) (q : D), l[k]? = some q → ∃ cv, cs[k]? = some cv ∧ Rel S q cv
def CallsB (P : Program) (Γ : World → Prop) (f : FuncId) (ins args outs : List D) (r : D) : Prop :=
  ∀ (S : Stab) (w : World) (b : Nat) (us : List Value), (∀ w', KW w [b] w' → Γ w') → (∀ b o v, S b o = some v → w.cell? ⟨b, o, none⟩ = some v) → (∀ o, S b o = none) → RelL S args us →
    (∃ cs ty, w.heap[b]? = some (.cells cs ty (0, 0)) ∧ Cells S ins cs) →
    Calls P f ⟨.pointer (some ⟨b, 0, none⟩) :: us⟩ w fun e w' => ∃ u S', e = .returned u ∧ Rel S' r u ∧ S.le S' ∧ KW w [b] w' ∧ (∃ cs ty, w'.heap[b]? = some (.cells cs ty (0, 0)) ∧ Cells S' outs cs) ∧ (∀ o, S' b o = none) ∧
      ∀ b' o v, S' b' o = some v → S b' o = some v ∨ (w.heap.size ≤ b' ∧ w'.cell? ⟨b', o, none⟩ = some v)
theorem KW.trans {w0 w w' : World} {outs : List Nat} {b : Nat} (h : KW w0 outs w) (h' : KW w [b] w') (hb : w0.heap.size ≤ b ∨ b ∈ outs) : KW w0 outs w' :=
  ⟨h'.os.trans h.os, h'.tape.trans h.tape, h'.output.trans h.output, Nat.le_trans h.size h'.size, fun k hk ho => by
    rw [h'.frame k (Nat.lt_of_lt_of_le hk h.size) (fun c => by
      obtain rfl := List.mem_singleton.mp c
      rcases hb with hb | hb
      · omega
      · exact ho hb)]
    exact h.frame k hk ho⟩
theorem look_cellRows {id : Nat} (l : List V) : ∀ (k0 off : Nat) (st : St), look (cellRows id k0 l ++ st) (.cell id off) = if k0 ≤ off ∧ off < k0 + l.length then l[off - k0]? else look st (.cell id off) := by
  induction l with
  | nil => intro k0 off st; rw [if_neg (by simp <;> omega)]; rfl
  | cons v l ih =>
    intro k0 off st
    show look ((.cell id k0, some v) :: (cellRows id (k0 + 1) l ++ st)) _ = _
    rw [look_cons, ih]
    by_cases h : k0 = off
    · subst h; simp
    · rw [if_neg (by simpa using h)]
      by_cases h2 : k0 + 1 ≤ off ∧ off < k0 + 1 + l.length
      · rw [if_pos h2, if_pos (by simp; omega), show off - k0 = (off - (k0 + 1)) + 1 from by omega]; rfl
      · rw [if_neg h2, if_neg (by simp; omega)]
def St.topOk (id n : Nat) (st : St) : Bool := st.all fun e => match e.1 with
  | .cell i o => !(i == id) || Nat.blt o n
  | _ => true
theorem top_look {id n : Nat} {st : St} (h : st.topOk id n = true) {o : Nat} {v : V} (hl : look st (.cell id o) = some v) : o < n := by
  induction st with
  | nil => cases hl
  | cons e r ih =>
    simp only [St.topOk, List.all_cons, Bool.and_eq_true] at h
    rw [look_cons] at hl
    split at hl
    · rename_i he
      have h1 := h.1
      rw [he] at h1
      simp at h1
      exact h1
    · exact ih h.2 hl
def insAt (st : St) (id : Nat) : Nat → List D → Prop
  | _, [] => True
  | k, q :: l => look st (.cell id k) = some (.d q) ∧ insAt st id (k + 1) l
theorem insAt_get {st : St} {id : Nat} : ∀ {l : List D} {k0 k : Nat} {q : D}, insAt st id k0 l → l[k]? = some q → look st (.cell id (k0 + k)) = some (.d q)
  | _ :: _, k0, 0, q, h, hk => by simp at hk; subst hk; exact h.1
  | _ :: l, k0, k + 1, q, h, hk => by
    have := insAt_get h.2 (by simpa using hk)
    rwa [show k0 + 1 + k = k0 + (k + 1) from by omega] at this
theorem sq_callB {ops : Array Oper} {l : List Oper} {f : FuncId} {xs : List Operand} {ats : Array TypeId} {ds ins outs : List D} {r : D} {id : Nat} (hen : enters P f = true) (hx : ev st x = some (.ptr id 0)) (ha : evs st xs = some ds)
    (hc : CallsB P E.Γ f ins ds outs r) (hin : insAt st id 0 ins) (hbox : (look st (.box id)).isSome = true) (htop : st.topOk id ins.length = true) (hlen : outs.length = ins.length) (hpos : Nat.blt 0 ins.length = true) (hd : d < E.N)
    (h : Hits E ((.slot d, some (.d r)) :: (cellRows id 0 (outs.map .d) ++ st)) (wpList P ops Q l)) :
    Hits E st (wpList P ops Q (⟨some d, .call ⟨.value (.func f), (x :: xs).toArray, ats⟩, ty, pos, af, none⟩ :: l)) := by
  intro G a w s
  unfold wpList
  rw [if_pos (by simp [Region.wanted])]
  refine .inl ?_
  show Oper.upon P _ a _ Q ((execOp a.eval _).run P w)
  have e1 : a.eval x = .pointer (some ⟨G.μ id, 0, none⟩) := s.ev hx
  have hrun : (execOp a.eval (⟨some d, .call ⟨.value (.func f), (x :: xs).toArray, ats⟩, ty, pos, af, none⟩ : Oper)).run P w = .ok (.enter f ⟨.pointer (some ⟨G.μ id, 0, none⟩) :: xs.map a.eval⟩) w := by
    have ef : a.eval (.func f) = .func (.func f) #[] #[] := rfl
    simp [execOp, resolve, ef, Deferred.ofValue, invoke, run_callFunc hen, e1]
  rw [hrun]
  have hb0 : look st (.box id) ≠ none := by intro c; rw [c] at hbox; cases hbox
  obtain ⟨hb1, hb2, hb3⟩ := s.boxes id hb0
  have hcells : ∃ cs ty, w.heap[G.μ id]? = some (.cells cs ty (0, 0)) ∧ Cells G.S ins cs := by
    have hp := Nat.lt_of_lt_of_le Nat.zero_lt_one (Nat.le_of_ble_eq_true hpos)
    obtain ⟨q0, hq0⟩ : ∃ q, ins[0]? = some q := ⟨_, List.getElem?_eq_getElem (Nat.le_of_ble_eq_true hpos)⟩
    obtain ⟨_, cs, ty', cv, h1, _, _⟩ := s.cells id _ _ (insAt_get hin hq0)
    refine ⟨cs, ty', h1, fun k q hk => ?_⟩
    have hl := insAt_get hin hk
    rw [Nat.zero_add] at hl
    obtain ⟨_, cs2, ty2, cv2, h2, h3, h4⟩ := s.cells id _ _ hl
    rw [h1] at h2
    cases h2
    exact ⟨cv2, h3, h4⟩
  have h2 := hc G.S w (G.μ id) (xs.map a.eval) (fun w' k => E.stab w' (s.kw.trans k hb1)) s.stable hb3 (s.evs ha) hcells
  refine h2.mono ?_
  rintro e w' ⟨u, S', rfl, hr, hS, hk, ⟨cs', ty', h3, h4⟩, h5, hn⟩
  have fr : ∀ k, k < w.heap.size → k ≠ G.μ id → w'.heap[k]? = w.heap[k]? := fun k hk' hne => hk.frame k hk' (by simpa using hne)
  have none' : ∀ {b o}, b < w.heap.size → G.S b o = none → S' b o = none := fun {b o} hlt hno => by
    cases hv : S' b o with
    | none => rfl
    | some v =>
      rcases hn b o v hv with q | ⟨q, _⟩
      · rw [hno] at q; cases q
      · omega
  have es : ∀ t, look (cellRows id 0 (outs.map V.d) ++ st) (.slot t) = look st (.slot t) := fun t => look_cellRows_ne id (fun o => by simp) _ _ _
  have eb : ∀ i, look (cellRows id 0 (outs.map V.d) ++ st) (.box i) = look st (.box i) := fun i => look_cellRows_ne id (fun o => by simp) _ _ _
  have et : ∀ i, look (cellRows id 0 (outs.map V.d) ++ st) (.tip i) = look st (.tip i) := fun i => look_cellRows_ne id (fun o => by simp) _ _ _
  have ec : ∀ i o, i ≠ id → look (cellRows id 0 (outs.map V.d) ++ st) (.cell i o) = look st (.cell i o) := fun i o hi => look_cellRows_ne id (fun o' => by simp; intro c; exact absurd c hi) _ _ _
  have sim : Sim E (cellRows id 0 (outs.map V.d) ++ st) { G with S := S' } a w' := by
    refine ⟨s.kw.trans hk hb1, s.s0.trans hS, fun b o v hv => (hn b o v hv).elim (s.snew b o v) (fun q => .inr (.inl (Nat.le_trans s.size q.1))), s.tmps, s.defers,
      fun t v hl => ?_, fun i o v hl => ?_, fun i hi => ?_, fun i j hi hj => ?_, fun b o v hv => ?_, fun i hi ht => ?_, fun i j hi hj => ?_, fun p hp => ⟨(s.rcv p hp).1, fun hi => (s.rcv p hp).2 (by rw [eb] at hi; exact hi)⟩, fun i qv l hl hcl ht => ?_, fun i v hl => ?_, fun k v hl => (s.olds k v (by rw [look_cellRows_ne id (fun o => by simp)] at hl; exact hl)).monoS hS⟩
    · rw [es] at hl; exact (s.slots t v hl).monoS hS
    · by_cases hi : i = id
      · subst hi
        refine ⟨by rw [eb]; exact hb0, cs', ty', ?_⟩
        rw [look_cellRows] at hl
        split at hl
        · rename_i ho
          rw [Nat.sub_zero, List.getElem?_map] at hl
          cases hq : outs[o]? with
          | none => rw [hq] at hl; cases hl
          | some q =>
            rw [hq] at hl
            obtain rfl := Option.some.inj hl
            obtain ⟨cv, q1, q2⟩ := h4 o q hq
            exact ⟨cv, h3, q1, q2⟩
        · rename_i ho
          have := top_look htop hl
          exact absurd ⟨Nat.zero_le _, by simp; omega⟩ ho
      · rw [ec i o hi] at hl
        obtain ⟨hx', cs, ty2, cv, q1, q2, q3⟩ := s.cells i o v hl
        refine ⟨by rw [eb]; exact hx', cs, ty2, cv, ?_, q2, q3.monoS hS⟩
        show w'.heap[G.μ i]? = _
        rw [fr _ (lt_of_block q1) (fun c => hi (s.inj i id hx' hb0 c))]
        exact q1
    · rw [eb] at hi
      obtain ⟨q1, q2, q3⟩ := s.boxes i hi
      exact ⟨q1, Nat.lt_of_lt_of_le q2 hk.size, fun o => none' q2 (q3 o)⟩
    · rw [eb] at hi hj; exact s.inj i j hi hj
    · rcases hn b o v hv with q | ⟨_, q⟩
      · have q2 := s.stable b o v q
        have hne : b ≠ G.μ id := fun c => by subst c; rw [hb3] at q; cases q
        obtain ⟨cs, ty2, fz, q3, q4⟩ := block_of_cell q2
        rw [← fr b (lt_of_block q3) hne] at q3
        rw [cell_of_block q3]; exact q4
      · exact q
    · rw [et] at hi
      obtain ⟨q1, ⟨cs, ty2, q2, q3⟩, q4, q5⟩ := s.tips i hi ht
      have hlt := lt_of_block q2
      exact ⟨q1, ⟨cs, ty2, (fr _ hlt (fun c => q5 id hb0 c.symm)).trans q2, q3⟩, fun o ho => none' hlt (q4 o ho), fun j hj => q5 j (by rw [eb] at hj; exact hj)⟩
    · rw [et] at hi hj; exact s.tinj i j hi hj
    · rw [et] at hl
      obtain ⟨q1, o, us', cs, ty2, q2, q3, q4, q5, q6⟩ := s.conts i qv l hl hcl ht
      have hlt := lt_of_block q2
      exact ⟨fun o => none' hlt (q1 o), o, us', cs, ty2, (fr _ hlt (fun c => (s.tips i (by rw [hl]; simp) ht).2.2.2 id hb0 c.symm)).trans q2, q3, q4, q5.monoS hS, q6⟩
    · rw [look_cellRows_ne id (fun o => by simp)] at hl
      obtain ⟨q1, sx, pos, q2, q3⟩ := s.iters i v hl
      have hi : i ≠ id := fun c => by
        subst c
        obtain ⟨cs, ty2, q4, _⟩ := hcells
        rw [q4] at q3; exact (itO_ne q3.symm).elim
      exact ⟨by rw [eb]; exact q1, sx, pos, q2, (fr _ (lt_of_block q3) (fun c => hi (s.inj i id q1 hb0 c))).trans q3⟩
  exact h _ _ _ (sim.put hd hr)
def recvRows (ins args : List D) : St := (.slot 0, some (.ptr 1000000 0)) :: (.box 1000000, some (.ptr 1000000 0)) :: (cellRows 1000000 0 (ins.map .d) ++ argRows 1 args)
def PostB (E : Env) (b : Nat) (outs : List D) (r : D) (e : Ending) (w' : World) : Prop :=
  ∃ u S', e = .returned u ∧ Rel S' r u ∧ E.S0.le S' ∧ KW E.w0 [b] w' ∧ (∃ cs ty, w'.heap[b]? = some (.cells cs ty (0, 0)) ∧ Cells S' outs cs) ∧ (∀ o, S' b o = none) ∧
    ∀ b' o v, S' b' o = some v → E.S0 b' o = some v ∨ (E.w0.heap.size ≤ b' ∧ w'.cell? ⟨b', o, none⟩ = some v)
theorem look_recv_box {ins args : List D} (i : Nat) : look (recvRows ins args) (.box i) = if i = 1000000 then some (.ptr 1000000 0) else none := by
  unfold recvRows
  rw [look_ne _ _ (by simp), look_cons]
  by_cases h : i = 1000000
  · subst h; simp
  · rw [if_neg (by simp; exact fun c => h c.symm), if_neg h, look_cellRows_ne _ (fun o => by simp), look_argRows_ne args 1 _ (by simp)]
theorem callsR_at {Γ : World → Prop} {f : FuncId} {fn : Func} {c : Code} {ins args : List D} {R : World → Stab → Nat → Ending → World → Prop} {n : Nat} (hf : P.funcs[f]? = some fn) (hb : fn.body = some c) (hn : fn.ntmps = n) (hl : Nat.ble (args.length + 1) n = true) (hbig : Nat.ble n 1000000 = true)
    (S : Stab) (w : World) (b : Nat) (us : List Value) (hΓ : ∀ w', KW w [b] w' → Γ w') (hS : ∀ b o v, S b o = some v → w.cell? ⟨b, o, none⟩ = some v) (hSb : ∀ o, S b o = none) (hr : RelL S args us)
    (hc : ∃ cs ty, w.heap[b]? = some (.cells cs ty (0, 0)) ∧ Cells S ins cs)
    (h1 : Hits ⟨w, [b], [(1000000, b)], S, n, Γ, hΓ, #[]⟩ (recvRows ins args) (c.wp P (bodyPost P fn (R w S b)))) : Calls P f ⟨.pointer (some ⟨b, 0, none⟩) :: us⟩ w (R w S b) := by
  obtain ⟨cs0, ty0, hcs, hcells⟩ := hc
  let E : Env := ⟨w, [b], [(1000000, b)], S, n, Γ, hΓ, #[]⟩
  have hlen := relL_length hr
  have hle : args.length + 1 ≤ n := Nat.le_of_ble_eq_true hl
  have hs : Sim E (recvRows ins args) ⟨S, fun _ => b, fun _ => 0, fun _ => false, fun _ => 0, fun _ => 0⟩ { tmps := (⟨.pointer (some ⟨b, 0, none⟩) :: us⟩ : Array Value) ++ Array.replicate (fn.ntmps - (⟨.pointer (some ⟨b, 0, none⟩) :: us⟩ : Array Value).size) undef, defers := [] } w := by
    have nt : ∀ i, look (recvRows ins args) (.tip i) = none := fun i => by
      unfold recvRows
      rw [look_ne _ _ (by simp), look_ne _ _ (by simp), look_cellRows_ne _ (fun o => by simp), look_argRows_ne args 1 _ (by simp)]
    have only : ∀ i, look (recvRows ins args) (.box i) ≠ none → i = 1000000 := fun i hi => by
      rw [look_recv_box] at hi
      by_cases h : i = 1000000
      · exact h
      · rw [if_neg h] at hi; exact absurd rfl hi
    refine ⟨⟨rfl, rfl, rfl, Nat.le_refl _, fun _ _ _ => rfl⟩, Stab.le.refl _, fun _ _ _ e => .inl e, ?_, rfl, fun t v hv => ?_, fun i o v hv => ?_, fun i hi => ?_, fun i j hi hj _ => (only i hi).trans (only j hj).symm, hS, fun i hi => absurd (nt i) hi, fun i j hi => absurd (nt i) hi, fun p hp => ?_, fun i qv l hl _ _ => (by rw [nt i] at hl; cases hl), fun i v hl => (by
      unfold recvRows at hl
      rw [look_ne _ _ (by simp), look_ne _ _ (by simp), look_cellRows_ne _ (fun o => by simp), look_argRows_ne args 1 _ (by simp)] at hl
      cases hl), fun k v hl => (by
      unfold recvRows at hl
      rw [look_ne _ _ (by simp), look_ne _ _ (by simp), look_cellRows_ne _ (fun o => by simp), look_argRows_ne args 1 _ (by simp)] at hl
      cases hl)⟩
    · show _ = n
      simp [hn]; omega
    · unfold recvRows at hv
      rw [look_cons] at hv
      split at hv
      · rename_i ht
        obtain rfl : 0 = t := by simpa using ht
        obtain rfl := Option.some.inj hv
        show _ = _
        rw [Array.getD_eq_getD_getElem?, Array.getElem?_append_left (by simp)]
        simp
      · rename_i ht
        have ht0 : t ≠ 0 := fun c => ht (by rw [c])
        rw [look_ne _ _ (by simp), look_cellRows_ne _ (fun o => by simp), look_argRows, if_pos (by omega)] at hv
        simp only [Option.map_eq_some_iff] at hv
        obtain ⟨x, hx, rfl⟩ := hv
        obtain ⟨u, hu, hrel⟩ := relL_getElem hr hx
        show Rel S x _
        have e : ((⟨.pointer (some ⟨b, 0, none⟩) :: us⟩ : Array Value) ++ Array.replicate (fn.ntmps - (⟨.pointer (some ⟨b, 0, none⟩) :: us⟩ : Array Value).size) undef).getD t undef = u := by
          have ht : t - 1 < us.length := (List.getElem?_eq_some_iff.1 hu).1
          rw [Array.getD_eq_getD_getElem?, Array.getElem?_append_left (by simp; omega)]
          obtain ⟨q, rfl⟩ : ∃ q, t = q + 1 := ⟨t - 1, by omega⟩
          simp only [Nat.add_sub_cancel] at hu
          simp [hu]
        rw [e]; exact hrel
    · unfold recvRows at hv
      rw [look_ne _ _ (by simp), look_ne _ _ (by simp)] at hv
      by_cases hi : i = 1000000
      · subst hi
        rw [look_cellRows] at hv
        split at hv
        · rw [Nat.sub_zero, List.getElem?_map] at hv
          cases hq : ins[o]? with
          | none => rw [hq] at hv; cases hv
          | some q =>
            rw [hq] at hv
            obtain rfl := Option.some.inj hv
            obtain ⟨cv, q1, q2⟩ := hcells o q hq
            exact ⟨by rw [look_recv_box]; simp, cs0, ty0, cv, hcs, q1, q2⟩
        · rw [look_argRows_ne args 1 _ (by simp)] at hv; cases hv
      · rw [look_cellRows_ne _ (fun o' => by simp; intro c; exact absurd c hi), look_argRows_ne args 1 _ (by simp)] at hv; cases hv
    · exact ⟨.inr (by simp [E]), lt_of_block hcs, hSb⟩
    · obtain rfl := List.mem_singleton.mp hp
      exact ⟨Nat.le_of_ble_eq_true hbig, fun _ => rfl⟩
  exact calls_of_wp hf hb (h1 _ _ _ hs)
theorem callsR_of {Γ : World → Prop} {f : FuncId} {fn : Func} {c : Code} {ins args : List D} {R : World → Stab → Nat → Ending → World → Prop} {n : Nat} (hf : P.funcs[f]? = some fn) (hb : fn.body = some c) (hn : fn.ntmps = n) (hl : Nat.ble (args.length + 1) n = true) (hbig : Nat.ble n 1000000 = true)
    (h : ∀ (w0 : World) (S0 : Stab) (b : Nat) (stab : ∀ w, KW w0 [b] w → Γ w), Hits ⟨w0, [b], [(1000000, b)], S0, n, Γ, stab, #[]⟩ (recvRows ins args) (c.wp P (bodyPost P fn (R w0 S0 b)))) :
    ∀ (S : Stab) (w : World) (b : Nat) (us : List Value), (∀ w', KW w [b] w' → Γ w') → (∀ b o v, S b o = some v → w.cell? ⟨b, o, none⟩ = some v) → (∀ o, S b o = none) → RelL S args us →
    (∃ cs ty, w.heap[b]? = some (.cells cs ty (0, 0)) ∧ Cells S ins cs) → Calls P f ⟨.pointer (some ⟨b, 0, none⟩) :: us⟩ w (R w S b) :=
  fun S w b us hΓ hS hSb hr hc => callsR_at hf hb hn hl hbig S w b us hΓ hS hSb hr hc (h w S b hΓ)
theorem callsB_of {Γ : World → Prop} {f : FuncId} {fn : Func} {c : Code} {ins args outs : List D} {r : D} {n : Nat} (hf : P.funcs[f]? = some fn) (hb : fn.body = some c) (hn : fn.ntmps = n) (hl : Nat.ble (args.length + 1) n = true) (hbig : Nat.ble n 1000000 = true)
    (h : ∀ (w0 : World) (S0 : Stab) (b : Nat) (stab : ∀ w, KW w0 [b] w → Γ w), Hits ⟨w0, [b], [(1000000, b)], S0, n, Γ, stab, #[]⟩ (recvRows ins args) (c.wp P (bodyPost P fn (PostB ⟨w0, [b], [(1000000, b)], S0, n, Γ, stab, #[]⟩ b outs r)))) : CallsB P Γ f ins args outs r := by
  intro S w b us hΓ hS hSb hr hc
  refine (callsR_of (R := fun w0 S0 b => PostB ⟨w0, [b], [(1000000, b)], S0, n, fun _ => True, fun _ _ => trivial, #[]⟩ b outs r) hf hb hn hl hbig h S w b us hΓ hS hSb hr hc).mono ?_
  rintro e w' ⟨u, S', h2, h3, h4, h5, h6, h7, h8⟩
  exact ⟨u, S', h2, h3, h4, h5, h6, h7, h8⟩
theorem hits_doneB {fn : Func} {ds : List D} {r : D} {e : Exit} {outs : List D} {b : Nat} (he : e = .ret ∨ e = .normal) (ho : E.outs = [b]) (hf : E.fix = [(1000000, b)]) (hr : resDs P st fn.results.toList = some ds) (hp : packD ds = r)
    (hbox : (look st (.box 1000000)).isSome = true) (hout : insAt st 1000000 0 outs) (hpos : Nat.blt 0 outs.length = true) : Hits E st (bodyPost P fn (PostB E b outs r) e) := by
  intro G a w s
  obtain ⟨us, h1, h2⟩ := s.resDs hr
  have hb0 : look st (.box 1000000) ≠ none := by intro c; rw [c] at hbox; cases hbox
  have hμ : G.μ 1000000 = b := by
    exact (s.rcv (1000000, b) (by rw [hf]; simp)).2 hb0
  have hk : KW E.w0 [b] w := by have := s.kw; rw [ho] at this; exact this
  have hn : ∀ b o v, G.S b o = some v → E.S0 b o = some v ∨ (E.w0.heap.size ≤ b ∧ w.cell? ⟨b, o, none⟩ = some v) := fun b' o v hv => (s.snew b' o v hv).imp id fun q => ⟨q.elim id (fun q => by
    rw [ho] at q
    obtain rfl := List.mem_singleton.mp q
    rw [← hμ, (s.boxes 1000000 hb0).2.2 o] at hv; cases hv), s.stable b' o v hv⟩
  have hc : ∃ cs ty, w.heap[b]? = some (.cells cs ty (0, 0)) ∧ Cells G.S outs cs := by
    obtain ⟨q0, hq0⟩ : ∃ q, outs[0]? = some q := ⟨_, List.getElem?_eq_getElem (Nat.le_of_ble_eq_true hpos)⟩
    obtain ⟨_, cs, ty', cv, q1, _, _⟩ := s.cells 1000000 _ _ (insAt_get hout hq0)
    rw [hμ] at q1
    refine ⟨cs, ty', q1, fun k q hk => ?_⟩
    have hl := insAt_get hout hk
    rw [Nat.zero_add] at hl
    obtain ⟨_, cs2, ty2, cv2, q2, q3, q4⟩ := s.cells 1000000 _ _ hl
    rw [hμ, q1] at q2
    cases q2
    exact ⟨cv2, q3, q4⟩
  have hS : ∀ o, G.S b o = none := fun o => by rw [← hμ]; exact (s.boxes 1000000 hb0).2.2 o
  have key : ∃ u, (results fn a.tmps).run P w = .ok u w ∧ Rel G.S r u := by
    rw [results_eq, Array.mapM_eq_mapM_toList]
    simp only [Sem.run_bind, Sem.run_map, h1, Result.andThen_ok, Sem.run_pure]
    subst hp
    cases h2 with
    | nil => exact ⟨_, rfl, .tup .nil⟩
    | cons h3 h4 =>
      cases h4 with
      | nil => exact ⟨_, rfl, h3⟩
      | cons h5 h6 => exact ⟨_, by simp, .tup (.cons h3 (.cons h5 h6))⟩
  obtain ⟨u, hu, hrel⟩ := key
  rcases he with rfl | rfl
  · exact ⟨s.defers, u, hu, u, G.S, rfl, hrel, s.s0, hk, hc, hS, hn⟩
  · exact ⟨s.defers, u, hu, u, G.S, rfl, hrel, s.s0, hk, hc, hS, hn⟩
end Go.Ab
