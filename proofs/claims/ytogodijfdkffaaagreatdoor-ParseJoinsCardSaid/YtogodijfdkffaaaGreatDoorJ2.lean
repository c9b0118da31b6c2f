/- Parts of the walk, joined. -/
import Derived.Test.YtogodijfdkffaaaGreatDoorJ1
import Derived.RangeFuncRecord
import Derived.Laws.StructEq
import Derived.Laws.IdiomStrings
import Derived.IntWalk
import Derived.Scope
import Derived.Test.YtogodijfdkffaaaGreatDoorProg
import Derived.Laws.BitsLemmas
import Derived.Shelf.Strings.Builder1
import Derived.Shelf.Strings.Builder2
import Derived.Shelf.Strings.Trim
import Derived.Shelf.Small.Utf8
import Derived.Shelf.Small.Strs
import Derived.Shelf.Small.Wraps
import Derived.Shelf.Strings.BuilderF
import Derived.Shelf.Strings.BuilderK
import Derived.Shelf.Strings.Builder2Cap
import Derived.Shelf.Strconv.Atoi
import Derived.Shelf.Strconv.Itoa0
import Derived.Shelf.Strconv.Itoa1
import Derived.Shelf.LaysM
import Derived.Shelf.Strconv.Itoa2
import Derived.Shelf.Strconv.Itoa3
import Derived.Shelf.Strconv.AtoiErrFast
import Derived.Shelf.Strconv.ParseIntEmpty
import Derived.Shelf.Strconv.AtoiFail
import Derived.Shelf.Strconv.Clone
import Derived.Shelf.Strconv.SyntaxError
import Derived.Shelf.LaysC
import Derived.Shelf.Strconv.ToError
import Derived.Shelf.Strconv.Lower
import Derived.Shelf.Strconv.ParseUint10
import Derived.Shelf.Strconv.ParseUint10Empty
import Derived.Shelf.Strconv.ParseUint10Any
import Derived.Shelf.Strconv.ParseInt10
import Derived.Shelf.Strconv.AtoiLong
import Derived.Shelf.Strconv.AtoiInnerAll
import Derived.Shelf.Strconv.RangeError
import Derived.Shelf.Strconv.ToErrorRange
import Derived.Shelf.Strconv.AtoiAll
import Derived.Shelf.Strconv.ParseUintEmpty
import Derived.Shelf.Strconv.ParseUint10b64
import Derived.Shelf.Strconv.ParseUint10b32
import Derived.Shelf.Strconv.ParseUint10b16
import Derived.Shelf.Strconv.ParseUint10b8
import Derived.Shelf.Strconv.ParseUint10At
import Derived.Ground.MpProg
import Derived.Shelf.Pu.ParseUintPublic10
import Derived.Shelf.Pu.ErrVarParseUint
import Derived.Shelf.Strings.Search1
import Derived.Shelf.Strings.Search2
import Derived.Shelf.Strings.Cut
import Derived.Shelf.Strings.Shaped
import Derived.Shelf.Strings.Prefix
import Derived.Shelf.Strings.Fields
import Derived.Shelf.Strings.SplitShaped
import Derived.Shelf.Unicode.Latin
import Derived.Shelf.Unicode.Decode
import Derived.Shelf.Strings.Runes
import Derived.Shelf.Strings.AsciiSet
import Derived.Shelf.Bits.Mul64
import Derived.Shelf.Strings.Repeat
import Derived.Shelf.Unicode.DecodeSlow
import Derived.Shelf.Unicode.DecodeAny
import Derived.Shelf.Unicode.Is16White
import Derived.Shelf.Unicode.IsSpaceAny
import Derived.Shelf.Unicode.DecodeLast
import Derived.Shelf.Strings.FieldsFuncAny
import Derived.Shelf.Unicode.Is16Any
import Derived.Shelf.Unicode.Is32Any
import Derived.Shelf.Unicode.ExclAny
import Derived.Shelf.Strings.FieldsFuncGrows
import Derived.Shelf.Strings.BuilderCap
import Derived.Shelf.Slices.Turned
set_option linter.unusedVariables false
set_option linter.unusedSimpArgs false
set_option maxRecDepth 100000
/- Methods through a pointer: calls that read and write the cells of one variable of the caller's frame. No program. -/
namespace Go.Ab
open Go Go.RowKit
variable {P : Program} {E : Env} {st : St} {Q : Exit → Act → World → Prop} {d : Nat} {ty : TypeId} {pos : String} {af : Array Edge} {x y : Operand}
def Cells (S : Stab) (l : List D) (cs : Array Value) : Prop := ∀ (k : Nat) (q : D), l[k]? = some q → ∃ cv, cs[k]? = some cv ∧ Rel S q cv
def CallsB (P : Program) (Γ : World → Prop) (f : FuncId) (ins args outs : List D) (r : D) : Prop :=
  ∀ (S : Stab) (w : World) (b : Nat) (us : List Value), (∀ w', KW w [b] w' → Γ w') → (∀ b o v, S b o = some v → w.cell? ⟨b, o, none⟩ = some v) → (∀ o, S b o = none) → RelL S args us →
    (∃ cs ty, w.heap[b]? = some (.cells cs ty (0, 0)) ∧ Cells S ins cs) →
    Calls P f ⟨.pointer (some ⟨b, 0, none⟩) :: us⟩ w fun e w' => ∃ u S', e = .returned u ∧ Rel S' r u ∧ S.le S' ∧ KW w [b] w' ∧ (∃ cs ty, w'.heap[b]? = some (.cells cs ty (0, 0)) ∧ Cells S' outs cs) ∧ (∀ o, S' b o = none) ∧
      ∀ b' o v, S' b' o = some v → S b' o = some v ∨ (w.heap.size ≤ b' ∧ w'.cell? ⟨b', o, none⟩ = some v)
theorem KW.trans {w0 w w' : World} {outs : List Nat} {b : Nat} (h : KW w0 outs w) (h' : KW w [b] w') (hb : w0.heap.size ≤ b ∨ b ∈ outs) : KW w0 outs w' :=
  ⟨h'.os.trans h.os, h'.tape.trans h.tape, h'.output.trans h.output, Nat.le_trans h.size h'.size, fun k hk ho => by
    rw [h'.frame k (Nat.lt_of_lt_of_le hk h.size) (fun c => by
      obtain rfl := List.mem_singleton.mp c
      rcases hb with hb | hb
      · omega
      · exact ho hb)]
    exact h.frame k hk ho⟩
theorem look_cellRows {id : Nat} (l : List V) : ∀ (k0 off : Nat) (st : St), look (cellRows id k0 l ++ st) (.cell id off) = if k0 ≤ off ∧ off < k0 + l.length then l[off - k0]? else look st (.cell id off) := by
  induction l with
  | nil => intro k0 off st; rw [if_neg (by simp <;> omega)]; rfl
  | cons v l ih =>
    intro k0 off st
    show look ((.cell id k0, some v) :: (cellRows id (k0 + 1) l ++ st)) _ = _
    rw [look_cons, ih]
    by_cases h : k0 = off
    · subst h; simp
    · rw [if_neg (by simpa using h)]
      by_cases h2 : k0 + 1 ≤ off ∧ off < k0 + 1 + l.length
      · rw [if_pos h2, if_pos (by simp; omega), show off - k0 = (off - (k0 + 1)) + 1 from by omega]; rfl
      · rw [if_neg h2, if_neg (by simp; omega)]
def St.topOk (id n : Nat) (st : St) : Bool := st.all fun e => match e.1 with
  | .cell i o => !(i == id) || Nat.blt o n
  | _ => true
theorem top_look {id n : Nat} {st : St} (h : st.topOk id n = true) {o : Nat} {v : V} (hl : look st (.cell id o) = some v) : o < n := by
  induction st with
  | nil => cases hl
  | cons e r ih =>
    simp only [St.topOk, List.all_cons, Bool.and_eq_true] at h
    rw [look_cons] at hl
    split at hl
    · rename_i he
      have h1 := h.1
      rw [he] at h1
      simp at h1
      exact h1
    · exact ih h.2 hl
def insAt (st : St) (id : Nat) : Nat → List D → Prop
  | _, [] => True
  | k, q :: l => look st (.cell id k) = some (.d q) ∧ insAt st id (k + 1) l
theorem insAt_get {st : St} {id : Nat} : ∀ {l : List D} {k0 k : Nat} {q : D}, insAt st id k0 l → l[k]? = some q → look st (.cell id (k0 + k)) = some (.d q)
  | _ :: _, k0, 0, q, h, hk => by simp at hk; subst hk; exact h.1
  | _ :: l, k0, k + 1, q, h, hk => by
    have := insAt_get h.2 (by simpa using hk)
    rwa [show k0 + 1 + k = k0 + (k + 1) from by omega] at this
theorem sq_callB {ops : Array Oper} {l : List Oper} {f : FuncId} {xs : List Operand} {ats : Array TypeId} {ds ins outs : List D} {r : D} {id : Nat} (hen : enters P f = true) (hx : ev st x = some (.ptr id 0)) (ha : evs st xs = some ds)
    (hc : CallsB P E.Γ f ins ds outs r) (hin : insAt st id 0 ins) (hbox : (look st (.box id)).isSome = true) (htop : st.topOk id ins.length = true) (hlen : outs.length = ins.length) (hpos : Nat.blt 0 ins.length = true) (hd : d < E.N)
    (h : Hits E ((.slot d, some (.d r)) :: (cellRows id 0 (outs.map .d) ++ st)) (wpList P ops Q l)) :
    Hits E st (wpList P ops Q (⟨some d, .call ⟨.value (.func f), (x :: xs).toArray, ats⟩, ty, pos, af, none⟩ :: l)) := by
  intro G a w s
  unfold wpList
  rw [if_pos (by simp [Region.wanted])]
  refine .inl ?_
  show Oper.upon P _ a _ Q ((execOp a.eval _).run P w)
  have e1 : a.eval x = .pointer (some ⟨G.μ id, 0, none⟩) := s.ev hx
  have hrun : (execOp a.eval (⟨some d, .call ⟨.value (.func f), (x :: xs).toArray, ats⟩, ty, pos, af, none⟩ : Oper)).run P w = .ok (.enter f ⟨.pointer (some ⟨G.μ id, 0, none⟩) :: xs.map a.eval⟩) w := by
    have ef : a.eval (.func f) = .func (.func f) #[] #[] := rfl
    simp [execOp, resolve, ef, Deferred.ofValue, invoke, run_callFunc hen, e1]
  rw [hrun]
  have hb0 : look st (.box id) ≠ none := by intro c; rw [c] at hbox; cases hbox
  obtain ⟨hb1, hb2, hb3⟩ := s.boxes id hb0
  have hcells : ∃ cs ty, w.heap[G.μ id]? = some (.cells cs ty (0, 0)) ∧ Cells G.S ins cs := by
    have hp := Nat.lt_of_lt_of_le Nat.zero_lt_one (Nat.le_of_ble_eq_true hpos)
    obtain ⟨q0, hq0⟩ : ∃ q, ins[0]? = some q := ⟨_, List.getElem?_eq_getElem (Nat.le_of_ble_eq_true hpos)⟩
    obtain ⟨_, cs, ty', cv, h1, _, _⟩ := s.cells id _ _ (insAt_get hin hq0)
    refine ⟨cs, ty', h1, fun k q hk => ?_⟩
    have hl := insAt_get hin hk
    rw [Nat.zero_add] at hl
    obtain ⟨_, cs2, ty2, cv2, h2, h3, h4⟩ := s.cells id _ _ hl
    rw [h1] at h2
    cases h2
    exact ⟨cv2, h3, h4⟩
  have h2 := hc G.S w (G.μ id) (xs.map a.eval) (fun w' k => E.stab w' (s.kw.trans k hb1)) s.stable hb3 (s.evs ha) hcells
  refine h2.mono ?_
  rintro e w' ⟨u, S', rfl, hr, hS, hk, ⟨cs', ty', h3, h4⟩, h5, hn⟩
  have fr : ∀ k, k < w.heap.size → k ≠ G.μ id → w'.heap[k]? = w.heap[k]? := fun k hk' hne => hk.frame k hk' (by simpa using hne)
  have none' : ∀ {b o}, b < w.heap.size → G.S b o = none → S' b o = none := fun {b o} hlt hno => by
    cases hv : S' b o with
    | none => rfl
    | some v =>
      rcases hn b o v hv with q | ⟨q, _⟩
      · rw [hno] at q; cases q
      · omega
  have es : ∀ t, look (cellRows id 0 (outs.map V.d) ++ st) (.slot t) = look st (.slot t) := fun t => look_cellRows_ne id (fun o => by simp) _ _ _
  have eb : ∀ i, look (cellRows id 0 (outs.map V.d) ++ st) (.box i) = look st (.box i) := fun i => look_cellRows_ne id (fun o => by simp) _ _ _
  have et : ∀ i, look (cellRows id 0 (outs.map V.d) ++ st) (.tip i) = look st (.tip i) := fun i => look_cellRows_ne id (fun o => by simp) _ _ _
  have ec : ∀ i o, i ≠ id → look (cellRows id 0 (outs.map V.d) ++ st) (.cell i o) = look st (.cell i o) := fun i o hi => look_cellRows_ne id (fun o' => by simp; intro c; exact absurd c hi) _ _ _
  have sim : Sim E (cellRows id 0 (outs.map V.d) ++ st) { G with S := S' } a w' := by
    refine ⟨s.kw.trans hk hb1, s.s0.trans hS, fun b o v hv => (hn b o v hv).elim (s.snew b o v) (fun q => .inr (.inl (Nat.le_trans s.size q.1))), s.tmps, s.defers,
      fun t v hl => ?_, fun i o v hl => ?_, fun i hi => ?_, fun i j hi hj => ?_, fun b o v hv => ?_, fun i hi ht => ?_, fun i j hi hj => ?_, fun p hp => ⟨(s.rcv p hp).1, fun hi => (s.rcv p hp).2 (by rw [eb] at hi; exact hi)⟩, fun i qv l hl hcl ht => ?_, fun i v hl => ?_, fun k v hl => (s.olds k v (by rw [look_cellRows_ne id (fun o => by simp)] at hl; exact hl)).monoS hS⟩
    · rw [es] at hl; exact (s.slots t v hl).monoS hS
    · by_cases hi : i = id
      · subst hi
        refine ⟨by rw [eb]; exact hb0, cs', ty', ?_⟩
        rw [look_cellRows] at hl
        split at hl
        · rename_i ho
          rw [Nat.sub_zero, List.getElem?_map] at hl
          cases hq : outs[o]? with
          | none => rw [hq] at hl; cases hl
          | some q =>
            rw [hq] at hl
            obtain rfl := Option.some.inj hl
            obtain ⟨cv, q1, q2⟩ := h4 o q hq
            exact ⟨cv, h3, q1, q2⟩
        · rename_i ho
          have := top_look htop hl
          exact absurd ⟨Nat.zero_le _, by simp; omega⟩ ho
      · rw [ec i o hi] at hl
        obtain ⟨hx', cs, ty2, cv, q1, q2, q3⟩ := s.cells i o v hl
        refine ⟨by rw [eb]; exact hx', cs, ty2, cv, ?_, q2, q3.monoS hS⟩
        show w'.heap[G.μ i]? = _
        rw [fr _ (lt_of_block q1) (fun c => hi (s.inj i id hx' hb0 c))]
        exact q1
    · rw [eb] at hi
      obtain ⟨q1, q2, q3⟩ := s.boxes i hi
      exact ⟨q1, Nat.lt_of_lt_of_le q2 hk.size, fun o => none' q2 (q3 o)⟩
    · rw [eb] at hi hj; exact s.inj i j hi hj
    · rcases hn b o v hv with q | ⟨_, q⟩
      · have q2 := s.stable b o v q
        have hne : b ≠ G.μ id := fun c => by subst c; rw [hb3] at q; cases q
        obtain ⟨cs, ty2, fz, q3, q4⟩ := block_of_cell q2
        rw [← fr b (lt_of_block q3) hne] at q3
        rw [cell_of_block q3]; exact q4
      · exact q
    · rw [et] at hi
      obtain ⟨q1, ⟨cs, ty2, q2, q3⟩, q4, q5⟩ := s.tips i hi ht
      have hlt := lt_of_block q2
      exact ⟨q1, ⟨cs, ty2, (fr _ hlt (fun c => q5 id hb0 c.symm)).trans q2, q3⟩, fun o ho => none' hlt (q4 o ho), fun j hj => q5 j (by rw [eb] at hj; exact hj)⟩
    · rw [et] at hi hj; exact s.tinj i j hi hj
    · rw [et] at hl
      obtain ⟨q1, o, us', cs, ty2, q2, q3, q4, q5, q6⟩ := s.conts i qv l hl hcl ht
      have hlt := lt_of_block q2
      exact ⟨fun o => none' hlt (q1 o), o, us', cs, ty2, (fr _ hlt (fun c => (s.tips i (by rw [hl]; simp) ht).2.2.2 id hb0 c.symm)).trans q2, q3, q4, q5.monoS hS, q6⟩
    · rw [look_cellRows_ne id (fun o => by simp)] at hl
      obtain ⟨q1, sx, pos, q2, q3⟩ := s.iters i v hl
      have hi : i ≠ id := fun c => by
        subst c
        obtain ⟨cs, ty2, q4, _⟩ := hcells
        rw [q4] at q3; exact (itO_ne q3.symm).elim
      exact ⟨by rw [eb]; exact q1, sx, pos, q2, (fr _ (lt_of_block q3) (fun c => hi (s.inj i id q1 hb0 c))).trans q3⟩
  exact h _ _ _ (sim.put hd hr)
def recvRows (ins args : List D) : St := (.slot 0, some (.ptr 1000000 0)) :: (.box 1000000, some (.ptr 1000000 0)) :: (cellRows 1000000 0 (ins.map .d) ++ argRows 1 args)
def PostB (E : Env) (b : Nat) (outs : List D) (r : D) (e : Ending) (w' : World) : Prop :=
  ∃ u S', e = .returned u ∧ Rel S' r u ∧ E.S0.le S' ∧ KW E.w0 [b] w' ∧ (∃ cs ty, w'.heap[b]? = some (.cells cs ty (0, 0)) ∧ Cells S' outs cs) ∧ (∀ o, S' b o = none) ∧
    ∀ b' o v, S' b' o = some v → E.S0 b' o = some v ∨ (E.w0.heap.size ≤ b' ∧ w'.cell? ⟨b', o, none⟩ = some v)
theorem look_recv_box {ins args : List D} (i : Nat) : look (recvRows ins args) (.box i) = if i = 1000000 then some (.ptr 1000000 0) else none := by
  unfold recvRows
  rw [look_ne _ _ (by simp), look_cons]
  by_cases h : i = 1000000
  · subst h; simp
  · rw [if_neg (by simp; exact fun c => h c.symm), if_neg h, look_cellRows_ne _ (fun o => by simp), look_argRows_ne args 1 _ (by simp)]
theorem callsR_at {Γ : World → Prop} {f : FuncId} {fn : Func} {c : Code} {ins args : List D} {R : World → Stab → Nat → Ending → World → Prop} {n : Nat} (hf : P.funcs[f]? = some fn) (hb : fn.body = some c) (hn : fn.ntmps = n) (hl : Nat.ble (args.length + 1) n = true) (hbig : Nat.ble n 1000000 = true)
    (S : Stab) (w : World) (b : Nat) (us : List Value) (hΓ : ∀ w', KW w [b] w' → Γ w') (hS : ∀ b o v, S b o = some v → w.cell? ⟨b, o, none⟩ = some v) (hSb : ∀ o, S b o = none) (hr : RelL S args us)
    (hc : ∃ cs ty, w.heap[b]? = some (.cells cs ty (0, 0)) ∧ Cells S ins cs)
    (h1 : Hits ⟨w, [b], [(1000000, b)], S, n, Γ, hΓ, #[]⟩ (recvRows ins args) (c.wp P (bodyPost P fn (R w S b)))) : Calls P f ⟨.pointer (some ⟨b, 0, none⟩) :: us⟩ w (R w S b) := by
  obtain ⟨cs0, ty0, hcs, hcells⟩ := hc
  let E : Env := ⟨w, [b], [(1000000, b)], S, n, Γ, hΓ, #[]⟩
  have hlen := relL_length hr
  have hle : args.length + 1 ≤ n := Nat.le_of_ble_eq_true hl
  have hs : Sim E (recvRows ins args) ⟨S, fun _ => b, fun _ => 0, fun _ => false, fun _ => 0, fun _ => 0⟩ { tmps := (⟨.pointer (some ⟨b, 0, none⟩) :: us⟩ : Array Value) ++ Array.replicate (fn.ntmps - (⟨.pointer (some ⟨b, 0, none⟩) :: us⟩ : Array Value).size) undef, defers := [] } w := by
    have nt : ∀ i, look (recvRows ins args) (.tip i) = none := fun i => by
      unfold recvRows
      rw [look_ne _ _ (by simp), look_ne _ _ (by simp), look_cellRows_ne _ (fun o => by simp), look_argRows_ne args 1 _ (by simp)]
    have only : ∀ i, look (recvRows ins args) (.box i) ≠ none → i = 1000000 := fun i hi => by
      rw [look_recv_box] at hi
      by_cases h : i = 1000000
      · exact h
      · rw [if_neg h] at hi; exact absurd rfl hi
    refine ⟨⟨rfl, rfl, rfl, Nat.le_refl _, fun _ _ _ => rfl⟩, Stab.le.refl _, fun _ _ _ e => .inl e, ?_, rfl, fun t v hv => ?_, fun i o v hv => ?_, fun i hi => ?_, fun i j hi hj _ => (only i hi).trans (only j hj).symm, hS, fun i hi => absurd (nt i) hi, fun i j hi => absurd (nt i) hi, fun p hp => ?_, fun i qv l hl _ _ => (by rw [nt i] at hl; cases hl), fun i v hl => (by
      unfold recvRows at hl
      rw [look_ne _ _ (by simp), look_ne _ _ (by simp), look_cellRows_ne _ (fun o => by simp), look_argRows_ne args 1 _ (by simp)] at hl
      cases hl), fun k v hl => (by
      unfold recvRows at hl
      rw [look_ne _ _ (by simp), look_ne _ _ (by simp), look_cellRows_ne _ (fun o => by simp), look_argRows_ne args 1 _ (by simp)] at hl
      cases hl)⟩
    · show _ = n
      simp [hn]; omega
    · unfold recvRows at hv
      rw [look_cons] at hv
      split at hv
      · rename_i ht
        obtain rfl : 0 = t := by simpa using ht
        obtain rfl := Option.some.inj hv
        show _ = _
        rw [Array.getD_eq_getD_getElem?, Array.getElem?_append_left (by simp)]
        simp
      · rename_i ht
        have ht0 : t ≠ 0 := fun c => ht (by rw [c])
        rw [look_ne _ _ (by simp), look_cellRows_ne _ (fun o => by simp), look_argRows, if_pos (by omega)] at hv
        simp only [Option.map_eq_some_iff] at hv
        obtain ⟨x, hx, rfl⟩ := hv
        obtain ⟨u, hu, hrel⟩ := relL_getElem hr hx
        show Rel S x _
        have e : ((⟨.pointer (some ⟨b, 0, none⟩) :: us⟩ : Array Value) ++ Array.replicate (fn.ntmps - (⟨.pointer (some ⟨b, 0, none⟩) :: us⟩ : Array Value).size) undef).getD t undef = u := by
          have ht : t - 1 < us.length := (List.getElem?_eq_some_iff.1 hu).1
          rw [Array.getD_eq_getD_getElem?, Array.getElem?_append_left (by simp; omega)]
          obtain ⟨q, rfl⟩ : ∃ q, t = q + 1 := ⟨t - 1, by omega⟩
          simp only [Nat.add_sub_cancel] at hu
          simp [hu]
        rw [e]; exact hrel
    · unfold recvRows at hv
      rw [look_ne _ _ (by simp), look_ne _ _ (by simp)] at hv
      by_cases hi : i = 1000000
      · subst hi
        rw [look_cellRows] at hv
        split at hv
        · rw [Nat.sub_zero, List.getElem?_map] at hv
          cases hq : ins[o]? with
          | none => rw [hq] at hv; cases hv
          | some q =>
            rw [hq] at hv
            obtain rfl := Option.some.inj hv
            obtain ⟨cv, q1, q2⟩ := hcells o q hq
            exact ⟨by rw [look_recv_box]; simp, cs0, ty0, cv, hcs, q1, q2⟩
        · rw [look_argRows_ne args 1 _ (by simp)] at hv; cases hv
      · rw [look_cellRows_ne _ (fun o' => by simp; intro c; exact absurd c hi), look_argRows_ne args 1 _ (by simp)] at hv; cases hv
    · exact ⟨.inr (by simp [E]), lt_of_block hcs, hSb⟩
    · obtain rfl := List.mem_singleton.mp hp
      exact ⟨Nat.le_of_ble_eq_true hbig, fun _ => rfl⟩
  exact calls_of_wp hf hb (h1 _ _ _ hs)
theorem callsR_of {Γ : World → Prop} {f : FuncId} {fn : Func} {c : Code} {ins args : List D} {R : World → Stab → Nat → Ending → World → Prop} {n : Nat} (hf : P.funcs[f]? = some fn) (hb : fn.body = some c) (hn : fn.ntmps = n) (hl : Nat.ble (args.length + 1) n = true) (hbig : Nat.ble n 1000000 = true)
    (h : ∀ (w0 : World) (S0 : Stab) (b : Nat) (stab : ∀ w, KW w0 [b] w → Γ w), Hits ⟨w0, [b], [(1000000, b)], S0, n, Γ, stab, #[]⟩ (recvRows ins args) (c.wp P (bodyPost P fn (R w0 S0 b)))) :
    ∀ (S : Stab) (w : World) (b : Nat) (us : List Value), (∀ w', KW w [b] w' → Γ w') → (∀ b o v, S b o = some v → w.cell? ⟨b, o, none⟩ = some v) → (∀ o, S b o = none) → RelL S args us →
    (∃ cs ty, w.heap[b]? = some (.cells cs ty (0, 0)) ∧ Cells S ins cs) → Calls P f ⟨.pointer (some ⟨b, 0, none⟩) :: us⟩ w (R w S b) :=
  fun S w b us hΓ hS hSb hr hc => callsR_at hf hb hn hl hbig S w b us hΓ hS hSb hr hc (h w S b hΓ)
theorem callsB_of {Γ : World → Prop} {f : FuncId} {fn : Func} {c : Code} {ins args outs : List D} {r : D} {n : Nat} (hf : P.funcs[f]? = some fn) (hb : fn.body = some c) (hn : fn.ntmps = n) (hl : Nat.ble (args.length + 1) n = true) (hbig : Nat.ble n 1000000 = true)
    (h : ∀ (w0 : World) (S0 : Stab) (b : Nat) (stab : ∀ w, KW w0 [b] w → Γ w), Hits ⟨w0, [b], [(1000000, b)], S0, n, Γ, stab, #[]⟩ (recvRows ins args) (c.wp P (bodyPost P fn (PostB ⟨w0, [b], [(1000000, b)], S0, n, Γ, stab, #[]⟩ b outs r)))) : CallsB P Γ f ins args outs r := by
  intro S w b us hΓ hS hSb hr hc
  refine (callsR_of (R := fun w0 S0 b => PostB ⟨w0, [b], [(1000000, b)], S0, n, fun _ => True, fun _ _ => trivial, #[]⟩ b outs r) hf hb hn hl hbig h S w b us hΓ hS hSb hr hc).mono ?_
  rintro e w' ⟨u, S', h2, h3, h4, h5, h6, h7, h8⟩
  exact ⟨u, S', h2, h3, h4, h5, h6, h7, h8⟩
theorem hits_doneB {fn : Func} {ds : List D} {r : D} {e : Exit} {outs : List D} {b : Nat} (he : e = .ret ∨ e = .normal) (ho : E.outs = [b]) (hf : E.fix = [(1000000, b)]) (hr : resDs P st fn.results.toList = some ds) (hp : packD ds = r)
    (hbox : (look st (.box 1000000)).isSome = true) (hout : insAt st 1000000 0 outs) (hpos : Nat.blt 0 outs.length = true) : Hits E st (bodyPost P fn (PostB E b outs r) e) := by
  intro G a w s
  obtain ⟨us, h1, h2⟩ := s.resDs hr
  have hb0 : look st (.box 1000000) ≠ none := by intro c; rw [c] at hbox; cases hbox
  have hμ : G.μ 1000000 = b := by
    exact (s.rcv (1000000, b) (by rw [hf]; simp)).2 hb0
  have hk : KW E.w0 [b] w := by have := s.kw; rw [ho] at this; exact this
  have hn : ∀ b o v, G.S b o = some v → E.S0 b o = some v ∨ (E.w0.heap.size ≤ b ∧ w.cell? ⟨b, o, none⟩ = some v) := fun b' o v hv => (s.snew b' o v hv).imp id fun q => ⟨q.elim id (fun q => by
    rw [ho] at q
    obtain rfl := List.mem_singleton.mp q
    rw [← hμ, (s.boxes 1000000 hb0).2.2 o] at hv; cases hv), s.stable b' o v hv⟩
  have hc : ∃ cs ty, w.heap[b]? = some (.cells cs ty (0, 0)) ∧ Cells G.S outs cs := by
    obtain ⟨q0, hq0⟩ : ∃ q, outs[0]? = some q := ⟨_, List.getElem?_eq_getElem (Nat.le_of_ble_eq_true hpos)⟩
    obtain ⟨_, cs, ty', cv, q1, _, _⟩ := s.cells 1000000 _ _ (insAt_get hout hq0)
    rw [hμ] at q1
    refine ⟨cs, ty', q1, fun k q hk => ?_⟩
    have hl := insAt_get hout hk
    rw [Nat.zero_add] at hl
    obtain ⟨_, cs2, ty2, cv2, q2, q3, q4⟩ := s.cells 1000000 _ _ hl
    rw [hμ, q1] at q2
    cases q2
    exact ⟨cv2, q3, q4⟩
  have hS : ∀ o, G.S b o = none := fun o => by rw [← hμ]; exact (s.boxes 1000000 hb0).2.2 o
  have key : ∃ u, (results fn a.tmps).run P w = .ok u w ∧ Rel G.S r u := by
    rw [results_eq, Array.mapM_eq_mapM_toList]
    simp only [Sem.run_bind, Sem.run_map, h1, Result.andThen_ok, Sem.run_pure]
    subst hp
    cases h2 with
    | nil => exact ⟨_, rfl, .tup .nil⟩
    | cons h3 h4 =>
      cases h4 with
      | nil => exact ⟨_, rfl, h3⟩
      | cons h5 h6 => exact ⟨_, by simp, .tup (.cons h3 (.cons h5 h6))⟩
  obtain ⟨u, hu, hrel⟩ := key
  rcases he with rfl | rfl
  · exact ⟨s.defers, u, hu, u, G.S, rfl, hrel, s.s0, hk, hc, hS, hn⟩
  · exact ⟨s.defers, u, hu, u, G.S, rfl, hrel, s.s0, hk, hc, hS, hn⟩
end Go.Ab

/- Ranging over a string: the iterator. No program. -/
namespace Go.Ab
open Go Go.RowKit
variable {P : Program} {E : Env} {st : St} {G : Gh} {a : Act} {w : World} {Q : Exit → Act → World → Prop} {d : Nat} {ty : TypeId} {pos : String} {af : Array Edge} {g : Option (Nat × Bool)} {x y : Operand}
theorem Sim.adopt {id r : Nat} {w' : World} (sx : OS) (n : Nat) (h : Sim E st G a w) (hid : id < E.N) (hu : st.unused id = true) (hbl : Below w.heap.size w w') (hr0 : w.heap.size ≤ r) (hr1 : r < w'.heap.size) (hob : w'.heap[r]? = some (itO sx n)) :
    Sim E ((.iter id, some (itV sx n)) :: (.box id, some (.ptr id 0)) :: st) { G with μ := upd G.μ id r } a w' := by
  have hx := ext_upd G id r
  have self : (upd G.μ id r) id = r := by simp [upd]
  have oth : ∀ i, i ≠ id → (upd G.μ id r) i = G.μ i := fun i hi => by simp [upd, hi]
  have es : ∀ t, look ((Loc.iter id, some (itV sx n)) :: (Loc.box id, some (V.ptr id 0)) :: st) (.slot t) = look st (.slot t) := fun t => by rw [look_ne _ _ (by simp), look_ne _ _ (by simp)]
  have et : ∀ t, look ((Loc.iter id, some (itV sx n)) :: (Loc.box id, some (V.ptr id 0)) :: st) (.tip t) = look st (.tip t) := fun t => by rw [look_ne _ _ (by simp), look_ne _ _ (by simp)]
  have ec : ∀ i o, look ((Loc.iter id, some (itV sx n)) :: (Loc.box id, some (V.ptr id 0)) :: st) (.cell i o) = look st (.cell i o) := fun i o => by rw [look_ne _ _ (by simp), look_ne _ _ (by simp)]
  have eb : ∀ i, i ≠ id → look ((Loc.iter id, some (itV sx n)) :: (Loc.box id, some (V.ptr id 0)) :: st) (.box i) = look st (.box i) := fun i hi => by rw [look_ne _ _ (by simp), look_ne _ _ (by simp; exact fun c => hi c.symm)]
  have inB : ∀ i, i ≠ id → look ((Loc.iter id, some (itV sx n)) :: (Loc.box id, some (V.ptr id 0)) :: st) (.box i) ≠ none → look st (.box i) ≠ none := fun i hi hl => by rw [eb i hi] at hl; exact hl
  refine ⟨h.kw.below hbl, h.s0, h.snew, h.tmps, h.defers, fun t v hl => ?_, fun i o v hl => ?_, fun i hi => ?_, fun i j hi hj => ?_, fun b o v hv => ?_, fun i hi ht => ?_, fun i j hi hj => ?_, fun p hp => ?_, fun i qv l hl hcl ht => ?_, fun i v hl => ?_, fun k v hl => (h.olds k v (by rw [look_ne _ _ (by simp), look_ne _ _ (by simp)] at hl; exact hl)).ext hx (unused_old hu (by rw [look_ne _ _ (by simp), look_ne _ _ (by simp)] at hl; exact hl))⟩
  · rw [es] at hl; exact (h.slots t v hl).ext hx (unused_slot hu hl)
  · rw [ec] at hl
    obtain ⟨hx1, cs', ty', cv, h1, h2, h3⟩ := h.cells i o v hl
    have hi := (unused_cell hu hl).2
    refine ⟨by rw [eb i hi]; exact hx1, cs', ty', cv, ?_, h2, h3.ext hx (unused_cell hu hl).1⟩
    show w'.heap[(upd G.μ id r) i]? = _
    rw [oth i hi]
    exact (hbl.block _ (lt_of_block h1)).trans h1
  · by_cases hi' : i = id
    · subst hi'
      refine ⟨.inl ?_, ?_, fun o => ?_⟩
      · show E.w0.heap.size ≤ (upd G.μ i r) i
        rw [self]; exact Nat.le_trans h.size hr0
      · show (upd G.μ i r) i < w'.heap.size
        rw [self]; exact hr1
      · show G.S ((upd G.μ i r) i) o = none
        rw [self]
        cases hv : G.S r o with
        | none => rfl
        | some v => exact absurd (lt_of_cell (h.stable _ _ _ hv)) (by omega)
    · obtain ⟨h1, h2, h3⟩ := h.boxes i (inB i hi' hi)
      show (_ ≤ (upd G.μ id r) i ∨ (upd G.μ id r) i ∈ E.outs) ∧ (upd G.μ id r) i < w'.heap.size ∧ ∀ o, G.S ((upd G.μ id r) i) o = none
      rw [oth i hi']
      exact ⟨h1, Nat.lt_of_lt_of_le h2 hbl.size, h3⟩
  · have hj' : ∀ k, k ≠ id → look ((Loc.iter id, some (itV sx n)) :: (Loc.box id, some (V.ptr id 0)) :: st) (.box k) ≠ none → G.μ k < w.heap.size := fun k hk hl => (h.boxes k (inB k hk hl)).2.1
    show (upd G.μ id r) i = (upd G.μ id r) j → i = j
    by_cases hi' : i = id <;> by_cases hjj : j = id
    · intro _; rw [hi', hjj]
    · subst hi'; rw [self, oth j hjj]; intro c; have := hj' j hjj hj; omega
    · subst hjj; rw [self, oth i hi']; intro c; have := hj' i hi' hi; omega
    · rw [oth i hi', oth j hjj]; exact h.inj i j (inB i hi' hi) (inB j hjj hj)
  · have h2 := h.stable b o v hv
    rw [← h2]
    exact hbl.cell (lt_of_cell h2)
  · rw [et] at hi
    obtain ⟨h1, ⟨cs', ty', h2, h3⟩, h4, h5⟩ := h.tips i hi ht
    have hlt := lt_of_block h2
    refine ⟨h1, ⟨cs', ty', (hbl.block _ hlt).trans h2, h3⟩, h4, fun j hj => ?_⟩
    show (upd G.μ id r) j ≠ G.tb i
    by_cases hjj : j = id
    · subst hjj; rw [self]; omega
    · rw [oth j hjj]; exact h5 j (inB j hjj hj)
  · rw [et] at hi hj; exact h.tinj i j hi hj
  · have hn := (h.rcv p hp).1
    have hne : p.1 ≠ id := by omega
    refine ⟨hn, fun hi => ?_⟩
    show (upd G.μ id r) p.1 = p.2
    rw [oth p.1 hne]
    exact (h.rcv p hp).2 (inB p.1 hne hi)
  · rw [et] at hl
    obtain ⟨q1, o, us, cs', ty', q2, q3, q4, q5, q6⟩ := h.conts i qv l hl hcl ht
    have hff : V.frees id l = true := free_contL (unused_tip hu hl) hcl
    exact ⟨q1, o, us, cs', ty', (hbl.block _ (lt_of_block q2)).trans q2, q3, q4, q5.ext hx hff, q6⟩
  · by_cases hi' : i = id
    · subst hi'
      rw [look_same] at hl
      obtain rfl := Option.some.inj hl
      refine ⟨by rw [look_ne _ _ (by simp), look_same]; simp, sx, n, rfl, ?_⟩
      show w'.heap[(upd G.μ i r) i]? = _
      rw [self]; exact hob
    · rw [look_ne _ _ (by simp; exact fun c => hi' c.symm), look_ne _ _ (by simp)] at hl
      obtain ⟨q1, s, p, q2, q3⟩ := h.iters i v hl
      refine ⟨by rw [eb i hi']; exact q1, s, p, q2, ?_⟩
      show w'.heap[(upd G.μ id r) i]? = _
      rw [oth i hi']
      exact (hbl.block _ (lt_of_block q3)).trans q3
theorem Sim.allocIter {id : Nat} (sx : OS) (n : Nat) (h : Sim E st G a w) (hid : id < E.N) (hu : st.unused id = true) :
    Sim E ((.iter id, some (itV sx n)) :: (.box id, some (.ptr id 0)) :: st) { G with μ := upd G.μ id w.heap.size } a (w.alloc (itO sx n)) :=
  h.adopt sx n hid hu ((Below.refl _ _).alloc (Nat.le_refl _) _) (Nat.le_refl _) (by show _ < (w.heap.push _).size; rw [Array.size_push]; omega) (by show (w.heap.push _)[w.heap.size]? = _; rw [Array.getElem?_push, if_pos rfl])
theorem f_range {t : TypeId} {sx : ByteArray} (hx : ev st x = some (.d (.sc (.string sx)))) (ht : P.underlying t = some .string) (hd : d < E.N) :
    FOk P E ⟨some d, .range t x, ty, pos, af, g⟩ st (evL x) [d] [(.slot d, some (.ptr d 0)), (.iter d, some (itV (.inl sx) 0)), (.box d, some (.ptr d 0))] := by
  intro Q K st' hL hf hK G a w hs
  have hu := hf d (by simp)
  have e1 := hs.sc ((ev_same hL fun l h => h).trans hx)
  have hr : (execOp a.eval (⟨some d, .range t x, ty, pos, af, g⟩ : Oper)).run P w = .ok (.value (.pointer (some ⟨w.heap.size, 0, none⟩))) (w.alloc (.stringIter sx 0)) := by
    simp [execOp, e1, Instr.range, run_underlying ht]
  show Oper.upon P _ a K Q ((execOp a.eval _).run P w)
  rw [hr]
  have h1 := hs.allocIter (.inl sx) 0 hd hu
  exact hK _ _ _ (h1.put (d := d) (v := .ptr d 0) (u := .pointer (some ⟨w.heap.size, 0, none⟩)) hd (by show _ = _; simp [upd]))
theorem f_nextEnd {id p : Nat} {sx : ByteArray} (hx : ev st x = some (.ptr id 0)) (hit : look st (.iter id) = some (itV (.inl sx) p)) (hp : sx.size ≤ p) (hd : d < E.N) :
    FOk P E ⟨some d, .next x true, ty, pos, af, g⟩ st (evL x ++ [.iter id]) [] [(.slot d, some (.d (.tup [.sc (.bool false)])))] :=
  fok_val rfl hd fun st' G a w hL hs => by
    have e1 : a.eval x = .pointer (some ⟨G.μ id, 0, none⟩) := hs.ev ((ev_same hL fun l h => mem_l h).trans hx)
    have hit' : look st' (.iter id) = some (itV (.inl sx) p) := (hL _ (by simp)).trans hit
    obtain ⟨_, s, q, h1, h2⟩ := hs.iters id _ hit'
    obtain ⟨rfl, rfl⟩ := itV_str h1
    change w.heap[G.μ id]? = some (.stringIter sx p) at h2
    refine ⟨.tuple #[.bool false], ?_, .tup (.cons (.sc _) .nil)⟩
    have e2 : (getObj (G.μ id)).run P w = .ok (.stringIter sx p) w := by simp [getObj, Sem.run, h2]
    simp [execOp, e1, Instr.next, e2, show ¬ p < sx.size from by omega]
theorem putObj_same {w : World} {r : Nat} {o o' : Obj} (h : w.heap[r]? = some o) : (w.putObj r o').heap[r]? = some o' := by
  have hlt := lt_of_block h
  simp [World.putObj, hlt]
theorem putObj_ne {w : World} {r k : Nat} {o' : Obj} (h : k ≠ r) : (w.putObj r o').heap[k]? = w.heap[k]? := by
  simp [World.putObj, Array.getElem?_setIfInBounds_ne (Ne.symm h)]
theorem putObj_size {w : World} {r : Nat} {o' : Obj} : (w.putObj r o').heap.size = w.heap.size := by simp [World.putObj]
theorem Sim.setIter {id p : Nat} {sx : OS} (sy : OS) (p' : Nat) (h : Sim E st G a w) (hit : look st (.iter id) = some (itV sx p)) :
    Sim E ((.iter id, some (itV sy p')) :: st) G a (w.putObj (G.μ id) (itO sy p')) := by
  obtain ⟨hb, s0, q0, _, hold⟩ := h.iters id _ hit
  obtain ⟨hb1, hb2, hb3⟩ := h.boxes id hb
  have el : ∀ l, l ≠ .iter id → look ((Loc.iter id, some (itV sy p')) :: st) l = look st l := fun l hl => look_ne _ _ (fun c => hl c.symm)
  refine ⟨⟨h.kw.os, h.kw.tape, h.kw.output, by rw [putObj_size]; exact h.size, fun k hk ho => ?_⟩, h.s0, h.snew, h.tmps, h.defers, fun t v hl => ?_, fun i o v hl => ?_, fun i hi => ?_, fun i j hi hj => ?_, fun b o v hS => ?_, fun i hi ht => ?_, fun i j hi hj => ?_, fun p hp => ?_, fun i qv l hl hcl ht => ?_, fun i v hl => ?_, fun k v hl => h.olds k v (by rw [el _ (by simp)] at hl; exact hl)⟩
  · rw [putObj_ne (by rintro rfl; rcases hb1 with h1 | h1; omega; exact ho h1)]; exact h.kw.frame k hk ho
  · rw [el _ (by simp)] at hl; exact h.slots t v hl
  · rw [el _ (by simp)] at hl
    obtain ⟨hx, cs, ty', cv, h1, h2, h3⟩ := h.cells i o v hl
    refine ⟨by rw [el _ (by simp)]; exact hx, cs, ty', cv, ?_, h2, h3⟩
    rw [putObj_ne (fun c => by rw [c, hold] at h1; exact (itO_ne h1).elim)]; exact h1
  · rw [el _ (by simp)] at hi
    obtain ⟨h1, h2, h3⟩ := h.boxes i hi
    exact ⟨h1, by rw [putObj_size]; exact h2, h3⟩
  · rw [el _ (by simp)] at hi hj; exact h.inj i j hi hj
  · have h2 := h.stable b o v hS
    obtain ⟨cs, ty2, fz, q3, q4⟩ := block_of_cell h2
    rw [← putObj_ne (w := w) (o' := itO sy p') (show b ≠ G.μ id from fun c => by rw [c, hold] at q3; exact (itO_ne q3).elim)] at q3
    rw [cell_of_block q3]; exact q4
  · rw [el _ (by simp)] at hi
    obtain ⟨h1, ⟨cs, ty', h2, h3⟩, h4, h5⟩ := h.tips i hi ht
    exact ⟨h1, ⟨cs, ty', by rw [putObj_ne (fun c => h5 id hb c.symm)]; exact h2, h3⟩, h4, fun j hj => h5 j (by rw [el _ (by simp)] at hj; exact hj)⟩
  · rw [el _ (by simp)] at hi hj; exact h.tinj i j hi hj
  · exact ⟨(h.rcv p hp).1, fun hi => (h.rcv p hp).2 (by rw [el _ (by simp)] at hi; exact hi)⟩
  · rw [el _ (by simp)] at hl
    obtain ⟨q1, o, us, cs', ty', q2, q3, q4, q5, q6⟩ := h.conts i qv l hl hcl ht
    obtain ⟨_, _, _, h5⟩ := h.tips i (by rw [hl]; simp) ht
    exact ⟨q1, o, us, cs', ty', by rw [putObj_ne (fun c => h5 id hb c.symm)]; exact q2, q3, q4, q5, q6⟩
  · by_cases hi' : i = id
    · subst hi'
      rw [look_same] at hl
      obtain rfl := Option.some.inj hl
      exact ⟨by rw [el _ (by simp)]; exact hb, sy, p', rfl, putObj_same hold⟩
    · rw [el _ (by simp; exact hi')] at hl
      obtain ⟨q1, s, q, q2, q3⟩ := h.iters i v hl
      exact ⟨by rw [el _ (by simp)]; exact q1, s, q, q2, by rw [putObj_ne (fun c => hi' (h.inj i id q1 hb c))]; exact q3⟩
theorem f_nextMore {id p c : Nat} {sx : ByteArray} (hx : ev st x = some (.ptr id 0)) (hit : look st (.iter id) = some (itV (.inl sx) p)) (hp : p < sx.size) (hc : Utf8.decode sx p = (c, 1)) (hd : d < E.N) :
    FOk P E ⟨some d, .next x true, ty, pos, af, g⟩ st (evL x ++ [.iter id]) [] [(.slot d, some (.d (.tup [.sc (.bool true), .sc (.int .i64 (p : Int)), .sc (.int .i32 (c : Int))]))), (.iter id, some (itV (.inl sx) (p + 1)))] := by
  intro Q K st' hL hf hK G a w hs
  have e1 : a.eval x = .pointer (some ⟨G.μ id, 0, none⟩) := hs.ev ((ev_same hL fun l h => mem_l h).trans hx)
  have hit' : look st' (.iter id) = some (itV (.inl sx) p) := (hL _ (by simp)).trans hit
  obtain ⟨_, s, q, h1, h2⟩ := hs.iters id _ hit'
  obtain ⟨rfl, rfl⟩ := itV_str h1
  change w.heap[G.μ id]? = some (.stringIter sx p) at h2
  have e2 : (getObj (G.μ id)).run P w = .ok (.stringIter sx p) w := by simp [getObj, Sem.run, h2]
  have e3 : (setObj (G.μ id) (.stringIter sx (p + 1))).run P w = .ok () (w.putObj (G.μ id) (.stringIter sx (p + 1))) := by simp [setObj, Sem.run, h2, World.putObj]
  have hr : (execOp a.eval (⟨some d, .next x true, ty, pos, af, g⟩ : Oper)).run P w = .ok (.value (.tuple #[.bool true, .int .i64 (p : Int), .int .i32 (c : Int)])) (w.putObj (G.μ id) (.stringIter sx (p + 1))) := by
    simp [execOp, e1, Instr.next, e2, hp, hc, e3, goInt]
  show Oper.upon P _ a K Q ((execOp a.eval _).run P w)
  rw [hr]
  exact hK _ _ _ ((hs.setIter (.inl sx) (p + 1) hit').put hd (.tup (.cons (.sc _) (.cons (.sc _) (.cons (.sc _) .nil)))))
end Go.Ab

/- Rules whose result is told by an equation; structs held against one another; bytes as a string. No program. -/
namespace Go.Ab
open Go Go.RowKit
variable {P : Program} {E : Env} {st : St} {G : Gh} {a : Act} {w : World} {d : Nat} {ty : TypeId} {pos : String} {af : Array Edge} {g : Option (Nat × Bool)} {x y : Operand}
theorem bT {b b' : Bool} (h : b = b') : some (Value.bool b) = some (Value.bool b') := congrArg (fun b => some (Value.bool b)) h
theorem iT {k : IntKind} {a b : Int} (h : a = b) : some (Value.int k a) = some (Value.int k b) := congrArg (fun b => some (Value.int k b)) h
theorem f_convI {src dst : TypeId} {k k' : IntKind} {n r : Int} (hx : ev st x = some (.d (.sc (.int k n)))) (hs : (P.underlying src).isSome = true) (ht : P.underlying dst = some (.int k')) (hr : k'.wrap n = r) (hd : d < E.N) :
    FOk P E ⟨some d, .convert src dst x, ty, pos, af, g⟩ st (evL x) [] [(.slot d, some (.d (.sc (.int k' r))))] := by subst hr; exact f_conv hx hs ht hd
theorem f_shlI {t yt : TypeId} {k k' : IntKind} {p q r : Int} (hx : ev st x = some (.d (.sc (.int k p)))) (hy : ev st y = some (.d (.sc (.int k' q)))) (h0 : 0 ≤ q) (hr : k.wrap (p * 2 ^ (min q.toNat k.bits)) = r) (hd : d < E.N) :
    FOk P E ⟨some d, .binOp .shl t x y yt, ty, pos, af, g⟩ st (evL x ++ evL y) [] [(.slot d, some (.d (.sc (.int k r))))] := by subst hr; exact f_shl hx hy h0 hd
theorem f_shrI {t yt : TypeId} {k k' : IntKind} {p q r : Int} (hx : ev st x = some (.d (.sc (.int k p)))) (hy : ev st y = some (.d (.sc (.int k' q)))) (h0 : 0 ≤ q) (hr : p.fdiv (2 ^ (min q.toNat k.bits)) = r) (hd : d < E.N) :
    FOk P E ⟨some d, .binOp .shr t x y yt, ty, pos, af, g⟩ st (evL x ++ evL y) [] [(.slot d, some (.d (.sc (.int k r))))] := by subst hr; exact f_shr hx hy h0 hd
theorem f_divI {t yt : TypeId} {k : IntKind} {p q r : Int} (hx : ev st x = some (.d (.sc (.int k p)))) (hy : ev st y = some (.d (.sc (.int k q)))) (h0 : q ≠ 0) (hr : k.wrap (p.tdiv q) = r) (hd : d < E.N) :
    FOk P E ⟨some d, .binOp .quo t x y yt, ty, pos, af, g⟩ st (evL x ++ evL y) [] [(.slot d, some (.d (.sc (.int k r))))] := by subst hr; exact f_div hx hy h0 hd
theorem f_remI {t yt : TypeId} {k : IntKind} {p q r : Int} (hx : ev st x = some (.d (.sc (.int k p)))) (hy : ev st y = some (.d (.sc (.int k q)))) (h0 : q ≠ 0) (hr : p.tmod q = r) (hd : d < E.N) :
    FOk P E ⟨some d, .binOp .rem t x y yt, ty, pos, af, g⟩ st (evL x ++ evL y) [] [(.slot d, some (.d (.sc (.int k r))))] := by subst hr; exact f_rem hx hy h0 hd
theorem f_catI {t yt : TypeId} {p q r : ByteArray} (hx : ev st x = some (.d (.sc (.string p)))) (hy : ev st y = some (.d (.sc (.string q)))) (h0 : p.size + q.size ≤ 9223372036854775807) (hr : p ++ q = r) (hd : d < E.N) :
    FOk P E ⟨some d, .binOp .add t x y yt, ty, pos, af, g⟩ st (evL x ++ evL y) [] [(.slot d, some (.d (.sc (.string r))))] := by subst hr; exact f_cat hx hy h0 hd
theorem f_maxI {t1 t2 : TypeId} {k : IntKind} {p q r : Int} (hx : ev st x = some (.d (.sc (.int k p)))) (hy : ev st y = some (.d (.sc (.int k q)))) (hr : (if q > p then q else p) = r) (hd : d < E.N) :
    FOk P E ⟨some d, .call ⟨.builtin .max, #[x, y], #[t1, t2]⟩, ty, pos, af, g⟩ st (evL x ++ evL y) [] [(.slot d, some (.d (.sc (.int k r))))] := by subst hr; exact f_max hx hy hd
theorem f_idxS {t : TypeId} {s : ByteArray} {k : IntKind} {i : Nat} {c : UInt8} (hx : ev st x = some (.d (.sc (.string s)))) (hy : ev st y = some (.d (.sc (.int k (i : Int))))) (ht : P.underlying t = some .string) (hat : s.data.toList[i]? = some c) (hd : d < E.N) :
    FOk P E ⟨some d, .index t x y, ty, pos, af, g⟩ st (evL x ++ evL y) [] [(.slot d, some (.d (.sc (.int .u8 (c.toNat : Int)))))] := by
  have h1 : i < s.size := by have := (List.getElem?_eq_some_iff.mp hat).1; simpa using this
  have h2 := f_idxStr (P := P) (E := E) (ty := ty) (pos := pos) (af := af) (g := g) hx hy ht (by omega) (by omega) hd
  have e : byteAt s (i : Int) = (c.toNat : Int) := by
    unfold byteAt
    rw [Int.toNat_natCast, ← Array.getElem?_toList, hat]; rfl
  rwa [e] at h2
def B (l : List UInt8) : ByteArray := ⟨l.toArray⟩
theorem B_toList (l : List UInt8) : (B l).data.toList = l := by simp [B]
theorem B_of (s : ByteArray) : B s.data.toList = s := by cases s; simp [B]
theorem B_size (l : List UInt8) : (B l).size = l.length := by show l.toArray.size = _; simp
theorem B_app (a b : List UInt8) : B a ++ B b = B (a ++ b) := by
  rw [← B_of (B a ++ B b)]
  congr 1
theorem B_ext (l : List UInt8) (i j : Nat) : (B l).extract i j = B ((l.drop i).take (j - i)) := by
  rw [← B_of ((B l).extract i j)]
  congr 1
  rw [ByteArray.data_extract]
  simp [B, List.extract_eq_take_drop]
theorem B_beq (a b : List UInt8) : ((B a).toList == (B b).toList) = decide (a = b) := by
  rw [ByteArray.toList_eq, ByteArray.toList_eq, B_toList, B_toList]
  by_cases h : a = b
  · subst h; simp
  · simp [h]
def partV (P : Program) (t : TypeId) (xs : Array Value) (off : Nat) : Option Value :=
  match kd P t with
  | some (true, n) => some (.agg (xs.extract off (off + n)))
  | some (false, _) => xs[off]?
  | none => none
theorem run_partV {t : TypeId} {xs : Array Value} {off : Nat} {v : Value} (h : partV P t xs off = some v) (w : World) : (part t xs off).run P w = .ok v w := by
  unfold partV at h
  split at h
  · rename_i n hk
    obtain ⟨h1, h2, _⟩ := kd_spec hk
    obtain rfl := Option.some.inj h
    simp [part, h1, h2]
  · rename_i n hk
    obtain ⟨h1, h2, _⟩ := kd_spec hk
    simp [part, h1, h]
  · cases h
def asAgg : Value → Option (Array Value)
  | .agg xs => some xs
  | _ => none
theorem asAgg_spec {v : Value} {xs : Array Value} (h : asAgg v = some xs) : v = .agg xs := by
  cases v <;> simp [asAgg] at h
  subst h; rfl
def eqLeaf (u : TypeDesc) (x y : Value) : Option Bool :=
  match u, x, y with
  | .bool, .bool a, .bool b => some (a == b)
  | .int _, .int k a, .int k' b => bif k == k' then some (a == b) else none
  | .string, .string a, .string b => some (a.toList == b.toList)
  | _, _, _ => none
theorem run_eqLeaf {t : TypeId} {u : TypeDesc} {x y : Value} {b : Bool} (hu : P.underlying t = some u) (h : eqLeaf u x y = some b) (d : Nat) (w : World) : (Op.equalIn (d + 1) t x y).run P w = .ok b w := by
  unfold eqLeaf at h
  split at h
  · obtain rfl := Option.some.inj h
    exact run_equalIn_bool' w d t _ _ hu
  · rename_i k1 a k2 b'
    cases hk : (k1 == k2) with
    | false => rw [hk] at h; cases h
    | true =>
      rw [hk] at h
      obtain rfl : k1 = k2 := by cases k1 <;> cases k2 <;> first | rfl | (exact absurd hk (by decide))
      obtain rfl := Option.some.inj h
      exact run_equalIn_int w d t _ _ _ _ hu
  · obtain rfl := Option.some.inj h
    exact run_equalIn_string w d t _ _ hu
  · cases h
def asStruct : TypeDesc → Option (List Field)
  | .struct fs => some fs.toList
  | _ => none
theorem asStruct_spec {u : TypeDesc} {l : List Field} (h : asStruct u = some l) : ∃ fs : Array Field, u = .struct fs ∧ l = fs.toList := by
  cases u <;> simp [asStruct] at h
  exact ⟨_, rfl, h.symm⟩
def eqVF (P : Program) (rec : TypeId → Value → Value → Option Bool) (xs ys : Array Value) : List Field → Option Bool
  | [] => some true
  | f :: r => bif f.name == "_" then none else
    match partV P f.type xs f.offset, partV P f.type ys f.offset with
    | some a, some b => match rec f.type a b, eqVF P rec xs ys r with
      | some p, some q => some (p && q)
      | _, _ => none
    | _, _ => none
def eqV (P : Program) : Nat → TypeId → Value → Value → Option Bool
  | 0, _, _, _ => none
  | d + 1, t, x, y => match P.underlying t with
    | none => none
    | some u => match asStruct u with
      | none => eqLeaf u x y
      | some l => match asAgg x, asAgg y with
        | some xs, some ys => bif P.stoodInHeld t then none else eqVF P (eqV P d) xs ys l
        | _, _ => none
theorem run_eqVF {rec : TypeId → Value → Value → Option Bool} {m : Nat} (hrec : ∀ (t : TypeId) (x y : Value) (b : Bool) (w : World), rec t x y = some b → (Op.equalIn m t x y).run P w = .ok b w) (xs ys : Array Value) :
    ∀ (fs : List Field) (b : Bool) (w : World), eqVF P rec xs ys fs = some b → (Op.eqFields m xs ys fs).run P w = .ok b w
  | [], b, w, h => by simp [eqVF] at h; subst h; simp [Op.eqFields]
  | f :: fs, b, w, h => by
    unfold eqVF at h
    cases hn : (f.name == "_") with
    | true => rw [hn] at h; cases h
    | false =>
      rw [hn] at h
      simp only [cond_false] at h
      cases h1 : partV P f.type xs f.offset with
      | none => rw [h1] at h; cases h
      | some p =>
        cases h2 : partV P f.type ys f.offset with
        | none => rw [h1, h2] at h; cases h
        | some q =>
          rw [h1, h2] at h
          simp only at h
          cases h3 : rec f.type p q with
          | none => rw [h3] at h; cases h
          | some r =>
            cases h4 : eqVF P rec xs ys fs with
            | none => rw [h3, h4] at h; cases h
            | some r' =>
              rw [h3, h4] at h
              simp only at h
              obtain rfl := Option.some.inj h
              have e1 := run_partV h1 w
              have e2 := run_partV h2 w
              have e3 := hrec f.type p q r w h3
              have e4 := run_eqVF hrec xs ys fs r' w h4
              have hne : f.name ≠ "_" := by simpa using hn
              simp only [Op.eqFields, hne, ne_eq, not_false_eq_true, if_true, Sem.run_bind, e1, e2, e3, Result.andThen_ok]
              cases r
              · simp
              · simpa using e4
theorem run_eqV : ∀ (m : Nat) (t : TypeId) (x y : Value) (b : Bool) (k : Nat) (w : World), eqV P m t x y = some b → (Op.equalIn (k + m) t x y).run P w = .ok b w
  | 0, t, x, y, b, k, w, h => by simp [eqV] at h
  | m + 1, t, x, y, b, k, w, h => by
    unfold eqV at h
    rw [← Nat.add_assoc]
    cases hu : P.underlying t with
    | none => rw [hu] at h; simp at h
    | some u =>
      rw [hu] at h
      simp only at h
      cases hl : asStruct u with
      | none => rw [hl] at h; exact run_eqLeaf hu h (k + m) w
      | some l =>
        rw [hl] at h
        simp only at h
        cases hx : asAgg x with
        | none => rw [hx] at h; cases h
        | some xs =>
          cases hy : asAgg y with
          | none => rw [hx, hy] at h; cases h
          | some ys =>
            rw [hx, hy] at h
            simp only at h
            cases hs : P.stoodInHeld t with
            | true => rw [hs] at h; cases h
            | false =>
              rw [hs] at h
              obtain ⟨fs, rfl, rfl⟩ := asStruct_spec hl
              obtain rfl := asAgg_spec hx
              obtain rfl := asAgg_spec hy
              have hf : P.fieldsOf t = fs := by simp [Program.fieldsOf, hu]
              rw [run_equalIn_struct w (k + m) t xs ys (by rw [hf]; exact hu) hs, hf]
              exact run_eqVF (fun t x y b w h => run_eqV m t x y b k w h) xs ys fs.toList b w h
theorem run_eq_struct {m : Nat} {t : TypeId} {xs ys : Array Value} {b : Bool} (hm : m ≤ 10000) (h : eqV P m t (.agg xs) (.agg ys) = some b) (hg : P.eqGuardType P.depth t = false) (x y : Operand) (w : World) :
    ((do eqGuard .eql t x y (.agg xs) (.agg ys); binOp .eql t (.agg xs) (.agg ys)) : Sem Value).run P w = .ok (.bool b) w := by
  have h1 := run_eqV m t _ _ b (10000 - m) w h
  rw [show 10000 - m + m = 10000 from by omega] at h1
  simp only [Sem.run_bind, run_eqGuard_agg w .eql t x y xs ys hg, Result.andThen_ok, run_eql_struct, h1]
theorem run_ne_struct {m : Nat} {t : TypeId} {xs ys : Array Value} {b : Bool} (hm : m ≤ 10000) (h : eqV P m t (.agg xs) (.agg ys) = some b) (hg : P.eqGuardType P.depth t = false) (x y : Operand) (w : World) :
    ((do eqGuard .neq t x y (.agg xs) (.agg ys); binOp .neq t (.agg xs) (.agg ys)) : Sem Value).run P w = .ok (.bool (!b)) w := by
  have h1 := run_eqV m t _ _ b (10000 - m) w h
  rw [show 10000 - m + m = 10000 from by omega] at h1
  simp only [Sem.run_bind, run_eqGuard_agg w .neq t x y xs ys hg, Result.andThen_ok, run_neq_struct, h1]
theorem f_eqS {t yt : TypeId} {m : Nat} {l l' : List D} {p q : List Value} {b v : Bool} (hx : ev st x = some (.d (.agg l))) (hy : ev st y = some (.d (.agg l'))) (hp : scs l = some p) (hq : scs l' = some q) (hg : P.eqGuardType P.depth t = false)
    (he : eqV P m t (.agg ⟨p⟩) (.agg ⟨q⟩) = some b) (hm : m ≤ 10000) (hv : b = v) (hd : d < E.N) :
    FOk P E ⟨some d, .binOp .eql t x y yt, ty, pos, af, g⟩ st (evL x ++ evL y) [] [(.slot d, some (.d (.sc (.bool v))))] := by
  subst hv; exact f_eqA hx hy hp hq (fun w => run_eq_struct hm he hg x y w) hd
theorem f_neS {t yt : TypeId} {m : Nat} {l l' : List D} {p q : List Value} {b v : Bool} (hx : ev st x = some (.d (.agg l))) (hy : ev st y = some (.d (.agg l'))) (hp : scs l = some p) (hq : scs l' = some q) (hg : P.eqGuardType P.depth t = false)
    (he : eqV P m t (.agg ⟨p⟩) (.agg ⟨q⟩) = some b) (hm : m ≤ 10000) (hv : (!b) = v) (hd : d < E.N) :
    FOk P E ⟨some d, .binOp .neq t x y yt, ty, pos, af, g⟩ st (evL x ++ evL y) [] [(.slot d, some (.d (.sc (.bool v))))] := by
  subst hv; exact f_eqA hx hy hp hq (fun w => run_ne_struct hm he hg x y w) hd
variable {Q : Exit → Act → World → Prop}
theorem hits_scope {c : Code} (h : Hits E st (c.wp P (Exit.noGoto Q))) : Hits E st ((Code.scope c).wp P Q) := fun G a w s => wp_scope_straight (h G a w s)
theorem ng_ret (h : Hits E st (Q .ret)) : Hits E st (Exit.noGoto Q .ret) := h
theorem f_ifEq0 {t yt : TypeId} (hx : ev st x = some (.d (.sc .nilIface))) (ht : P.isIface t = true) (hd : d < E.N) :
    FOk P E ⟨some d, .binOp .eql t x (.const .nilIface) yt, ty, pos, af, g⟩ st (evL x) [] [(.slot d, some (.d (.sc (.bool true))))] :=
  fok_val rfl hd fun st' G a w hL hs => by
    have e1 := hs.sc ((ev_same hL fun l h => h).trans hx)
    refine ⟨_, ?_, .sc _⟩
    have e2 : a.eval (.const .nilIface) = .nilIface := rfl
    have e3 : (eqGuard .eql t x (.const .nilIface) .nilIface .nilIface).run P w = .ok () w := by cases x <;> rfl
    simp only [execOp, e1, e2, Sem.run_bind, e3, Result.andThen_ok, run_eql_nil_nil_at w t ht]
    rfl
theorem f_ifEqN {t yt : TypeId} {s : TypeId} {q : D} (hx : ev st x = some (.d (.ifc s q))) (ht : P.isIface t = true) (hd : d < E.N) :
    FOk P E ⟨some d, .binOp .eql t x (.const .nilIface) yt, ty, pos, af, g⟩ st (evL x) [] [(.slot d, some (.d (.sc (.bool false))))] :=
  fok_val rfl hd fun st' G a w hL hs => by
    have e1 := hs.ev ((ev_same hL fun l h => h).trans hx)
    refine ⟨_, ?_, .sc _⟩
    generalize hu : a.eval x = u at e1
    obtain ⟨c, rfl⟩ : ∃ c, u = .iface s c := by
      have e1' : Rel G.S (.ifc s q) u := e1
      cases e1' with
      | ifc h => exact ⟨_, rfl⟩
    have e2 : a.eval (.const .nilIface) = .nilIface := rfl
    have e3 : (eqGuard .eql t x (.const .nilIface) (.iface s c) .nilIface).run P w = .ok () w := rfl
    simp only [execOp, hu, e2, Sem.run_bind, e3, Result.andThen_ok, run_eql_iface_nil w t ht]
    rfl
theorem lift_ifc {Γ : World → Prop} {f : FuncId} {args : List D} {vs : List Value} {n : Value} {t : TypeId} (ha : plainVs args = some vs)
    (h : ∀ w, Γ w → Calls P f ⟨vs⟩ w fun e w' => ∃ u, e = .returned (.tuple #[n, .iface t u]) ∧ u.oneCell' = true ∧ Below w.heap.size w w') : CallsP P Γ f args (.tup [.sc n, .ifc t .any]) := by
  intro S w us hg hS hus
  obtain rfl := rels_plain ha hus
  refine (h w hg).mono ?_
  rintro e w' ⟨u, he, h1, hb⟩
  exact ⟨_, S, he, .tup (.cons (.sc _) (.cons (.ifc (.any h1)) .nil)), Stab.le.refl _, hb, fun _ _ _ q => .inl q⟩
end Go.Ab

/- Numbers of so many bits, over data. -/
namespace Go.Proofs.YtogodijfdkffaaaGreatDoor.Ln
open Go Go.RowKit Go.Ab Go.Proofs 
theorem zc35 : zc Tryz.prog 35 = some [.int .i64 0, .int .u64 0, .int .u64 0] := by kernel_rfl
theorem bu35 : bk Tryz.prog 35 = some ([(0, 1), (1, 1), (2, 1)], [.int .i64 0, .int .u64 0, .int .u64 0]) := by kernel_rfl
theorem kd35 : kd Tryz.prog 35 = some (true, 3) := by kernel_rfl
theorem eqg35 : Tryz.prog.eqGuardType Tryz.prog.depth 35 = false := by kernel_rfl
theorem ev35 (a0 b0 : Int) (a1 b1 : Int) (a2 b2 : Int) : eqV Tryz.prog 6 35 (.agg ⟨[.int .i64 a0, .int .u64 a1, .int .u64 a2]⟩) (.agg ⟨[.int .i64 b0, .int .u64 b1, .int .u64 b2]⟩) = some ((a0 == b0) && ((a1 == b1) && ((a2 == b2) && true))) := by kernel_rfl
theorem en95 : enters Tryz.prog 95 = true := by kernel_rfl
theorem en96 : enters Tryz.prog 96 = true := by kernel_rfl
theorem kf35_0 : kf Tryz.prog 35 0 = some 0 := by kernel_rfl
theorem kd3 : kd Tryz.prog 3 = some (false, 1) := by kernel_rfl
theorem kf35_1 : kf Tryz.prog 35 1 = some 1 := by kernel_rfl
theorem kd33 : kd Tryz.prog 33 = some (false, 1) := by kernel_rfl
theorem kf35_2 : kf Tryz.prog 35 2 = some 2 := by kernel_rfl
theorem mixed : Tryz.prog.follows .mixedOrders = true := by kernel_rfl
theorem wrap_u64 (n : Int) : IntKind.u64.wrap n = n % 18446744073709551616 := by simp [IntKind.wrap, IntKind.bits, IntKind.signed]
theorem wraps_u64 (n : Int) (h0 : 0 ≤ n) (h1 : n < 2 ^ 64) : IntKind.u64.wrap n = n := by rw [wrap_u64]; omega
theorem and_nat {a b : Nat} (ha : a < 2 ^ 64) (hb : b < 2 ^ 64) : Go.bits .and .u64 a b = ((a &&& b : Nat) : Int) := (bits_nat .u64 64 (by decide) wraps_u64 a b ha hb).1
def hiOf (v : Nat) : Int := ((v / 2 ^ 64 : Nat) : Int)
def loOf (v : Nat) : Int := ((v % 2 ^ 64 : Nat) : Int)
theorem lo_lt (v : Nat) : v % 2 ^ 64 < 2 ^ 64 := Nat.mod_lt _ (by decide)
theorem hi_lt {v : Nat} (h : v < 2 ^ 128) : v / 2 ^ 64 < 2 ^ 64 := by omega
theorem words_eq (v u : Nat) : (hiOf v == hiOf u && loOf v == loOf u) = decide (v = u) := by
  unfold hiOf loOf
  by_cases h : v = u
  · subst h; simp
  · have : ¬ (v / 2 ^ 64 = u / 2 ^ 64 ∧ v % 2 ^ 64 = u % 2 ^ 64) := by omega
    rw [decide_eq_false h, Bool.and_eq_false_iff]
    by_cases h1 : v / 2 ^ 64 = u / 2 ^ 64
    · right; rw [beq_eq_false_iff_ne]; intro c; exact this ⟨h1, by omega⟩
    · left; rw [beq_eq_false_iff_ne]; intro c; exact h1 (by omega)
theorem cut_hi {v w : Nat} (h : w < 64) : hiOf (v % 2 ^ w) = 0 := by
  unfold hiOf
  have h1 : v % 2 ^ w < 2 ^ 64 := Nat.lt_of_lt_of_le (Nat.mod_lt _ (Nat.two_pow_pos w)) (Nat.pow_le_pow_right (by decide) (by omega))
  rw [Nat.div_eq_of_lt h1]; rfl
theorem cut_lo {v w : Nat} (h : w < 64) : loOf (v % 2 ^ w) = ((v % 2 ^ 64 % 2 ^ w : Nat) : Int) := by
  unfold loOf
  have h1 : v % 2 ^ w < 2 ^ 64 := Nat.lt_of_lt_of_le (Nat.mod_lt _ (Nat.two_pow_pos w)) (Nat.pow_le_pow_right (by decide) (by omega))
  rw [Nat.mod_eq_of_lt h1, Nat.mod_mod_of_dvd v (Nat.pow_dvd_pow 2 (by omega : w ≤ 64))]
theorem cut_hi2 {v w : Nat} (h : 64 ≤ w) : hiOf (v % 2 ^ w) = ((v / 2 ^ 64 % 2 ^ (w - 64) : Nat) : Int) := by
  unfold hiOf
  congr 1
  rw [show w = 64 + (w - 64) from by omega, Nat.pow_add, Nat.mod_mul_right_div_self, Nat.add_sub_cancel_left]
theorem cut_lo2 {v w : Nat} (h : 64 ≤ w) : loOf (v % 2 ^ w) = loOf v := by
  unfold loOf
  rw [Nat.mod_mod_of_dvd v (Nat.pow_dvd_pow 2 h)]
theorem one_shl {n : Nat} (h : n < 64) : IntKind.u64.wrap (1 * 2 ^ (min ((n : Int)).toNat IntKind.u64.bits)) = ((2 ^ n : Nat) : Int) := by
  have h1 : 2 ^ n < 2 ^ 64 := Nat.pow_lt_pow_right (by decide) h
  have e : min ((n : Int)).toNat IntKind.u64.bits = n := by simp [IntKind.bits]; omega
  rw [e, Int.one_mul, wraps_u64 _ (Int.pow_nonneg (by decide)) (by exact_mod_cast h1)]; simp
theorem one_shl64 : IntKind.u64.wrap (1 * 2 ^ (min ((64 : Nat) : Int).toNat IntKind.u64.bits)) = 0 := by decide
theorem mask_of {n : Nat} (h : n < 64) : IntKind.u64.wrap (((2 ^ n : Nat) : Int) - 1) = ((2 ^ n - 1 : Nat) : Int) := by
  have h1 : 2 ^ n < 2 ^ 64 := Nat.pow_lt_pow_right (by decide) h
  have h2 := Nat.two_pow_pos n
  rw [wraps_u64 _ (by omega) (by omega)]; omega
theorem mask_64 : IntKind.u64.wrap ((0 : Int) - 1) = ((2 ^ 64 - 1 : Nat) : Int) := by decide
theorem and_mask {x n : Nat} (hx : x < 2 ^ 64) (h : n ≤ 64) : Go.bits .and .u64 (x : Int) ((2 ^ n - 1 : Nat) : Int) = ((x % 2 ^ n : Nat) : Int) := by
  have h1 : 2 ^ n ≤ 2 ^ 64 := Nat.pow_le_pow_right (by decide) h
  have h2 := Nat.two_pow_pos n
  rw [and_nat hx (by omega), Nat.and_two_pow_sub_one_eq_mod]
def bitD (w v : Nat) : D := .agg [.sc (.int .i64 (w : Int)), .sc (.int .u64 (hiOf v)), .sc (.int .u64 (loOf v))]
theorem lt128 {w v : Nat} (h : w ≤ 128) (hv : v < 2 ^ w) : v < 2 ^ 128 := Nat.lt_of_lt_of_le hv (Nat.pow_le_pow_right (by decide) h)
def chk (a : Int) (v : Nat) : Bool := decide (1 ≤ a ∧ a ≤ 128 ∧ v < 2 ^ a.toNat)
theorem chk_cut {w v : Nat} (h0 : 1 ≤ w) (h : w ≤ 128) : ((w : Int) == (w : Int) && ((hiOf v == hiOf (v % 2 ^ w)) && (loOf v == loOf (v % 2 ^ w)))) = chk (w : Int) v := by
  rw [words_eq]
  unfold chk
  simp only [BEq.rfl, Bool.true_and]
  have := Nat.mod_lt v (Nat.two_pow_pos w)
  by_cases h1 : v < 2 ^ w
  · rw [decide_eq_true (show v = v % 2 ^ w from (Nat.mod_eq_of_lt h1).symm), decide_eq_true ⟨by omega, by omega, by simpa using h1⟩]
  · rw [decide_eq_false (by omega : ¬ v = v % 2 ^ w), decide_eq_false (fun c => h1 (by simpa using c.2.2))]
theorem chk_no {a : Int} {v : Nat} (h : ¬ (1 ≤ a ∧ a ≤ 128)) : chk a v = false := decide_eq_false fun c => h ⟨c.1, c.2.1⟩
theorem chk_ok {w v : Nat} (h0 : 1 ≤ w) (h : w ≤ 128) (hv : v < 2 ^ w) : chk (w : Int) v = true := decide_eq_true ⟨by omega, by omega, by simpa using hv⟩
theorem wide_c {Γ : World → Prop} (hΓ : GS Γ) (n : Int) : CallsP Tryz.prog Γ 95 [.sc (.int .i64 n)] (.sc (.bool (decide (1 ≤ n ∧ n ≤ 128)))) := by
  refine callsP_of hΓ Tryz.func95 rfl Tryz.ntmps95 rfl fun w0 S0 stab => ?_
  refine sqq <| rgq <| asq rfl rfl <| nxq <| sqq ?_
  by_cases h1 : 1 ≤ n
  · by_cases h2 : n ≤ 128
    · refine rgq <| mvq rfl rfl <| sq (f_bin rfl rfl (bT (decide_eq_true h1)) (lt rfl)) rfl rfl <| mvq rfl rfl <| sq_yes (f_move rfl (lt rfl)) rfl rfl rfl rfl (lt rfl) <| sq_yes (f_bin rfl rfl (bT (decide_eq_true h2)) (lt rfl)) rfl rfl rfl rfl (lt rfl) <| pkq rfl rfl rfl <| asq rfl rfl ?_
      refine nxq <| rtq ?_
      exact hits_done (.inl rfl) rfl rfl (by rw [decide_eq_true ⟨h1, h2⟩]; rfl)
    · refine rgq <| mvq rfl rfl <| sq (f_bin rfl rfl (bT (decide_eq_true h1)) (lt rfl)) rfl rfl <| mvq rfl rfl <| sq_yes (f_move rfl (lt rfl)) rfl rfl rfl rfl (lt rfl) <| sq_yes (f_bin rfl rfl (bT (decide_eq_false h2)) (lt rfl)) rfl rfl rfl rfl (lt rfl) <| pkq rfl rfl rfl <| asq rfl rfl ?_
      refine nxq <| rtq ?_
      exact hits_done (.inl rfl) rfl rfl (by rw [decide_eq_false fun c => h2 c.2]; rfl)
  · refine rgq <| mvq rfl rfl <| sq (f_bin rfl rfl (bT (decide_eq_false h1)) (lt rfl)) rfl rfl <| mvq rfl rfl <| noq rfl rfl rfl rfl rfl rfl rfl <| noq rfl rfl rfl rfl rfl rfl rfl <| pkq rfl rfl rfl <| asq rfl rfl ?_
    refine nxq <| rtq ?_
    exact hits_done (.inl rfl) rfl rfl (by rw [decide_eq_false fun c => h1 c.1]; rfl)
theorem cut_c {Γ : World → Prop} (hΓ : GS Γ) {w v : Nat} (h : w ≤ 128) (hv : v < 2 ^ 128) : CallsP Tryz.prog Γ 96 [.sc (.int .i64 (w : Int)), .sc (.int .u64 (hiOf v)), .sc (.int .u64 (loOf v))] (bitD w (v % 2 ^ w)) := by
  refine callsP_of hΓ Tryz.func96 rfl Tryz.ntmps96 rfl fun w0 S0 stab => ?_
  refine sqq <| rgq <| sq (f_alloc zc35 (lt rfl)) rfl rfl <| nxq <| sqq <| sqq ?_
  by_cases h1 : w < 64
  · refine rgq <| mvq rfl rfl <| sq (f_bin rfl rfl (bT (decide_eq_true (by omega))) (lt rfl)) rfl rfl <| nxq <| cnT rfl <| sqq <| rgq <| mvq rfl rfl ?_
    refine mvq rfl rfl <| mvq rfl rfl <| sq (f_shlI rfl rfl (by omega) (one_shl h1) (lt rfl)) rfl rfl <| sq (f_bin rfl rfl (iT (mask_of h1)) (lt rfl)) rfl rfl <| sq (f_bin rfl rfl (iT (and_mask (lo_lt v) (by omega))) (lt rfl)) rfl rfl <| sq (f_build bu35 rfl rfl (lt rfl)) rfl rfl <| soq kd35 rfl rfl rfl rfl rfl <| nxq ?_
    refine rtq <| to_ret ?_
    exact hits_done (.inl rfl) rfl rfl (by rw [bitD, cut_hi h1, cut_lo h1]; rfl)
  · have h64 : 64 ≤ w := by omega
    by_cases h2 : w = 128
    · refine rgq <| mvq rfl rfl <| sq (f_bin rfl rfl (bT (decide_eq_false (by omega))) (lt rfl)) rfl rfl <| nxq <| cnF rfl <| skq <| toq <| sqq ?_
      refine rgq <| mvq rfl rfl <| mvq rfl rfl <| mvq rfl rfl <| sq (f_bin rfl rfl (iT ((IntWalk.i64_in _ (by omega)).trans (by omega : _ = ((w - 64 : Nat) : Int)))) (lt rfl)) rfl rfl <| sq (f_shlI rfl rfl (by omega) ((by rw [h2]; exact one_shl64 : _ = (0 : Int))) (lt rfl)) rfl rfl ?_
      refine sq (f_bin rfl rfl (iT (mask_64)) (lt rfl)) rfl rfl <| sq (f_bin rfl rfl (iT ((and_mask (hi_lt hv) (Nat.le_refl 64)).trans (by rw [h2] : _ = ((v / 2 ^ 64 % 2 ^ (w - 64) : Nat) : Int)))) (lt rfl)) rfl rfl ?_
      refine mvq rfl rfl <| sq (f_build bu35 rfl rfl (lt rfl)) rfl rfl <| soq kd35 rfl rfl rfl rfl rfl <| nxq <| rtq ?_
      exact hits_done (.inl rfl) rfl rfl (by rw [bitD, cut_hi2 h64, cut_lo2 h64]; rfl)
    · refine rgq <| mvq rfl rfl <| sq (f_bin rfl rfl (bT (decide_eq_false (by omega))) (lt rfl)) rfl rfl <| nxq <| cnF rfl <| skq <| toq <| sqq ?_
      refine rgq <| mvq rfl rfl <| mvq rfl rfl <| mvq rfl rfl <| sq (f_bin rfl rfl (iT ((IntWalk.i64_in _ (by omega)).trans (by omega : _ = ((w - 64 : Nat) : Int)))) (lt rfl)) rfl rfl <| sq (f_shlI rfl rfl (by omega) (one_shl (n := w - 64) (by omega)) (lt rfl)) rfl rfl <| sq (f_bin rfl rfl (iT (mask_of (n := w - 64) (by omega))) (lt rfl)) rfl rfl <| sq (f_bin rfl rfl (iT (and_mask (hi_lt hv) (by omega : w - 64 ≤ 64))) (lt rfl)) rfl rfl ?_
      refine mvq rfl rfl <| sq (f_build bu35 rfl rfl (lt rfl)) rfl rfl <| soq kd35 rfl rfl rfl rfl rfl <| nxq <| rtq ?_
      exact hits_done (.inl rfl) rfl rfl (by rw [bitD, cut_hi2 h64, cut_lo2 h64]; rfl)
theorem check_in {Γ : World → Prop} (hΓ : GS Γ) {w v : Nat} (h0 : 1 ≤ w) (h : w ≤ 128) (hv : v < 2 ^ 128) : CallsP Tryz.prog Γ 50 [(.agg [.sc (.int .i64 (w : Int)), .sc (.int .u64 (hiOf v)), .sc (.int .u64 (loOf v))])] (.sc (.bool (chk (w : Int) v))) := by
  have hw := wide_c hΓ (w : Int)
  rw [decide_eq_true (by omega : (1 : Int) ≤ w ∧ (w : Int) ≤ 128)] at hw
  refine callsP_of hΓ Tryz.func50 rfl Tryz.ntmps50 rfl fun w0 S0 stab => ?_
  refine sqq <| rgq <| sq (f_box rfl rfl (lt rfl)) rfl rfl <| asq rfl rfl <| nxq <| sqq <| hits_drawn mixed <| dq (f_fieldAddr rfl kf35_0 rfl (lt rfl)) rfl rfl ?_
  refine dq (f_load kd3 rfl rfl (lt rfl)) rfl rfl <| dq (f_call en95 rfl hw (lt rfl)) rfl rfl <| dq (f_move rfl (lt rfl)) rfl rfl <| dq_yes (f_load kd35 rfl rfl (lt rfl)) rfl rfl rfl rfl (lt rfl) <| dq_yes (f_fieldAddr rfl kf35_0 rfl (lt rfl)) rfl rfl rfl rfl (lt rfl) <| dq_yes (f_load kd3 rfl rfl (lt rfl)) rfl rfl rfl rfl (lt rfl) <| dq_yes (f_fieldAddr rfl kf35_1 rfl (lt rfl)) rfl rfl rfl rfl (lt rfl) <| dq_yes (f_load kd33 rfl rfl (lt rfl)) rfl rfl rfl rfl (lt rfl) ?_
  refine dq_yes (f_fieldAddr rfl kf35_2 rfl (lt rfl)) rfl rfl rfl rfl (lt rfl) <| dq_yes (f_load kd33 rfl rfl (lt rfl)) rfl rfl rfl rfl (lt rfl) <| dq_yes (f_call en96 rfl (cut_c hΓ h hv) (lt rfl)) rfl rfl rfl rfl (lt rfl) <| dq_yes (f_eqS rfl rfl rfl rfl eqg35 (ev35 ..) (by decide) ((by rw [Bool.and_true]; exact chk_cut h0 h : _ = chk (w : Int) v)) (lt rfl)) rfl rfl rfl rfl (lt rfl) ?_
  refine dq (f_pick rfl rfl (lt rfl)) rfl rfl <| dq (f_assign rfl (lt rfl)) rfl rfl <| dq_nil rfl <| toq <| rtq ?_
  exact hits_done (.inl rfl) rfl rfl rfl
theorem check_out {Γ : World → Prop} (hΓ : GS Γ) {a : Int} {v : Nat} (h : ¬ (1 ≤ a ∧ a ≤ 128)) : CallsP Tryz.prog Γ 50 [(.agg [.sc (.int .i64 a), .sc (.int .u64 (hiOf v)), .sc (.int .u64 (loOf v))])] (.sc (.bool (chk a v))) := by
  have hw := wide_c hΓ a
  rw [decide_eq_false h] at hw
  refine callsP_of hΓ Tryz.func50 rfl Tryz.ntmps50 rfl fun w0 S0 stab => ?_
  refine sqq <| rgq <| sq (f_box rfl rfl (lt rfl)) rfl rfl <| asq rfl rfl <| nxq <| sqq <| hits_drawn mixed <| dq (f_fieldAddr rfl kf35_0 rfl (lt rfl)) rfl rfl ?_
  refine dq (f_load kd3 rfl rfl (lt rfl)) rfl rfl <| dq (f_call en95 rfl hw (lt rfl)) rfl rfl <| dq (f_move rfl (lt rfl)) rfl rfl <| dq_no rfl rfl rfl rfl rfl (lt rfl) (lt rfl) <| dq_no rfl rfl rfl rfl rfl (lt rfl) (lt rfl) <| dq_no rfl rfl rfl rfl rfl (lt rfl) (lt rfl) <| dq_no rfl rfl rfl rfl rfl (lt rfl) (lt rfl) <| dq_no rfl rfl rfl rfl rfl (lt rfl) (lt rfl) ?_
  refine dq_no rfl rfl rfl rfl rfl (lt rfl) (lt rfl) <| dq_no rfl rfl rfl rfl rfl (lt rfl) (lt rfl) <| dq_no rfl rfl rfl rfl rfl (lt rfl) (lt rfl) <| dq_no rfl rfl rfl rfl rfl (lt rfl) (lt rfl) <| dq (f_pick rfl rfl (lt rfl)) rfl rfl <| dq (f_assign rfl (lt rfl)) rfl rfl <| dq_nil rfl <| toq ?_
  refine rtq ?_
  exact hits_done (.inl rfl) rfl rfl (by rw [chk_no h]; rfl)
theorem check_c {Γ : World → Prop} (hΓ : GS Γ) (a : Int) {v : Nat} (hv : v < 2 ^ 128) : CallsP Tryz.prog Γ 50 [.agg [.sc (.int .i64 a), .sc (.int .u64 (hiOf v)), .sc (.int .u64 (loOf v))]] (.sc (.bool (chk a v))) := by
  by_cases h : 1 ≤ a ∧ a ≤ 128
  · obtain ⟨w, rfl⟩ : ∃ w : Nat, a = (w : Int) := ⟨a.toNat, by omega⟩
    exact check_in hΓ (by omega) (by omega) hv
  · exact check_out hΓ h
theorem of_c {Γ : World → Prop} (hΓ : GS Γ) {w v : Nat} (h0 : 1 ≤ w) (h : w ≤ 128) (hv : v < 2 ^ 128) : CallsP Tryz.prog Γ 91 [.sc (.int .i64 (w : Int)), .sc (.int .u64 (hiOf v)), .sc (.int .u64 (loOf v))] (.tup [bitD w (v % 2 ^ w), .sc (.int .i64 0)]) := by
  have hw := wide_c hΓ (w : Int)
  rw [decide_eq_true (by omega : (1 : Int) ≤ w ∧ (w : Int) ≤ 128)] at hw
  refine callsP_of hΓ Tryz.func91 rfl Tryz.ntmps91 rfl fun w0 S0 stab => ?_
  refine sqq <| rgq <| sq (f_alloc zc35 (lt rfl)) rfl rfl <| asq rfl rfl <| nxq <| sqq <| sqq <| rgq ?_
  refine mvq rfl rfl <| sq (f_call en95 rfl hw (lt rfl)) rfl rfl <| sq (f_un rfl rfl (lt rfl)) rfl rfl <| nxq <| cnF rfl <| skq <| toq <| sqq ?_
  refine rgq <| mvq rfl rfl <| mvq rfl rfl <| mvq rfl rfl <| sq (f_call en96 rfl (cut_c hΓ h hv) (lt rfl)) rfl rfl <| soq kd35 rfl rfl rfl rfl rfl <| asq rfl rfl <| nxq ?_
  refine rtq ?_
  exact hits_done (.inl rfl) rfl rfl rfl
end Go.Proofs.YtogodijfdkffaaaGreatDoor.Ln

/- Part of a proof: see the law's text. -/
namespace Go.Proofs
open Go.Shelf
def Tryz.lays160_ren : Go.Shelf.Ren := ⟨fun | 160 => 88 | 232 => 140 | 231 => 139 | 227 => 141 | 234 => 143 | 233 => 142 | 236 => 145 | 235 => 144 | 228 => 188 | 271 => 191 | 151 => 190 | 197 => 189 | 120 => 223 | 152 => 222 | 260 => 221 | 137 => 243 | 119 => 244 | 224 => 245 | 225 => 246 | 217 => 247 | 266 => 252 | n => n, fun | 9 => 9 | 4 => 4 | 3 => 3 | 5 => 5 | 117 => 195 | 116 => 194 | 0 => 0 | 124 => 198 | 21 => 21 | 105 => 237 | 46 => 158 | 119 => 202 | 139 => 304 | 138 => 303 | n => n, fun | 3 => 6 | 4 => 7 | n => n⟩
theorem Tryz.lays160 : Go.Proofs.Lays.n160 Tryz.prog Tryz.lays160_ren := {
  mixed := by kernel_rfl
  f119 := Tryz.func244.trans (congrArg some (by kernel_rfl))
  f120 := Tryz.func223.trans (congrArg some (by kernel_rfl))
  f137 := Tryz.func243.trans (congrArg some (by kernel_rfl))
  f151 := Tryz.func190.trans (congrArg some (by kernel_rfl))
  f152 := Tryz.func222.trans (congrArg some (by kernel_rfl))
  f160 := Tryz.func88.trans (congrArg some (by kernel_rfl))
  f197 := Tryz.func189.trans (congrArg some (by kernel_rfl))
  f217 := Tryz.func247.trans (congrArg some (by kernel_rfl))
  f224 := Tryz.func245.trans (congrArg some (by kernel_rfl))
  f225 := Tryz.func246.trans (congrArg some (by kernel_rfl))
  f227 := Tryz.func141.trans (congrArg some (by kernel_rfl))
  f228 := Tryz.func188.trans (congrArg some (by kernel_rfl))
  f231 := Tryz.func139.trans (congrArg some (by kernel_rfl))
  f232 := Tryz.func140.trans (congrArg some (by kernel_rfl))
  f233 := Tryz.func142.trans (congrArg some (by kernel_rfl))
  f234 := Tryz.func143.trans (congrArg some (by kernel_rfl))
  f235 := Tryz.func144.trans (congrArg some (by kernel_rfl))
  f236 := Tryz.func145.trans (congrArg some (by kernel_rfl))
  f260 := Tryz.func221.trans (congrArg some (by kernel_rfl))
  f266 := Tryz.func252.trans (congrArg some (by kernel_rfl))
  f271 := Tryz.func191.trans (congrArg some (by kernel_rfl))
  t0 := Tryz.underlying0
  a0 := Tryz.isAgg0
  z0 := Tryz.sizeOf0
  v0 := Tryz.zeroValue0
  t3 := Tryz.underlying3
  a3 := Tryz.isAgg3
  z3 := Tryz.sizeOf3
  v3 := Tryz.zeroValue3
  t4 := Tryz.underlying4
  a4 := Tryz.isAgg4
  z4 := Tryz.sizeOf4
  v4 := Tryz.zeroValue4
  t5 := Tryz.underlying5
  a5 := Tryz.isAgg5
  z5 := Tryz.sizeOf5
  v5 := Tryz.zeroValue5
  t9 := Tryz.underlying9
  a9 := Tryz.isAgg9
  z9 := Tryz.sizeOf9
  v9 := Tryz.zeroValue9
  t21 := Tryz.underlying21
  a21 := Tryz.isAgg21
  z21 := Tryz.sizeOf21
  v21 := Tryz.zeroValue21
  t46 := Tryz.underlying158
  a46 := Tryz.isAgg158
  z46 := Tryz.sizeOf158
  v46 := Tryz.zeroValue158
  t105 := Tryz.underlying237
  a105 := Tryz.isAgg237
  z105 := Tryz.sizeOf237
  v105 := Tryz.zeroValue237
  t116 := Tryz.underlying194
  a116 := Tryz.isAgg194
  z116 := Tryz.sizeOf194
  t117 := Tryz.underlying195
  a117 := Tryz.isAgg195
  z117 := Tryz.sizeOf195
  v117 := Tryz.zeroValue195
  t119 := Tryz.underlying202
  a119 := Tryz.isAgg202
  z119 := Tryz.sizeOf202
  t124 := Tryz.underlying198
  a124 := Tryz.isAgg198
  z124 := Tryz.sizeOf198
  v124 := Tryz.zeroValue198
  t138 := Tryz.underlying303
  a138 := Tryz.isAgg303
  z138 := Tryz.sizeOf303
  v138 := Tryz.zeroValue303
  t139 := Tryz.underlying304
  a139 := Tryz.isAgg304
  z139 := Tryz.sizeOf304
  v139 := Tryz.zeroValue304
  g3 := by kernel_rfl
  g4 := by kernel_rfl }
def Tryz.lays103_ren : Go.Shelf.Ren := ⟨fun | 103 => 49 | 210 => 94 | 206 => 87 | n => n, fun | 9 => 9 | 4 => 4 | 24 => 117 | 3 => 3 | n => n, fun | n => n⟩
theorem Tryz.lays103 : Go.Proofs.Lays.n103 Tryz.prog Tryz.lays103_ren := {
  mixed := by kernel_rfl
  f103 := Tryz.func49.trans (congrArg some (by kernel_rfl))
  f206 := Tryz.func87.trans (congrArg some (by kernel_rfl))
  f210 := Tryz.func94.trans (congrArg some (by kernel_rfl))
  t3 := Tryz.underlying3
  a3 := Tryz.isAgg3
  z3 := Tryz.sizeOf3
  v3 := Tryz.zeroValue3
  t4 := Tryz.underlying4
  a4 := Tryz.isAgg4
  z4 := Tryz.sizeOf4
  v4 := Tryz.zeroValue4
  t9 := Tryz.underlying9
  a9 := Tryz.isAgg9
  z9 := Tryz.sizeOf9
  v9 := Tryz.zeroValue9
  t24 := Tryz.underlying117
  a24 := Tryz.isAgg117
  z24 := Tryz.sizeOf117
  v24 := Tryz.zeroValue117 }
open Go.RowKit in
theorem Tryz.strings_CutPrefix (s p : ByteArray) (w : World) :
    Calls Tryz.prog 49 #[.string s, .string p] w fun e w' => e = .returned (.tuple #[.string ⟨(Lib.trimPrefix s.data.toList p.data.toList).toArray⟩, .bool (Lib.hasPrefix s.data.toList p.data.toList)]) ∧ w' = w := Any.strings_CutPrefix Tryz.lays103 s p w
def Tryz.lays283_ren : Go.Shelf.Ren := ⟨fun | 283 => 152 | n => n, fun | 3 => 3 | 9 => 9 | 4 => 4 | n => n, fun | n => n⟩
theorem Tryz.lays283 : Go.Proofs.Lays.n283 Tryz.prog Tryz.lays283_ren := {
  mixed := by kernel_rfl
  f283 := Tryz.func152.trans (congrArg some (by kernel_rfl))
  t3 := Tryz.underlying3
  a3 := Tryz.isAgg3
  z3 := Tryz.sizeOf3
  v3 := Tryz.zeroValue3
  t4 := Tryz.underlying4
  a4 := Tryz.isAgg4
  z4 := Tryz.sizeOf4
  v4 := Tryz.zeroValue4
  t9 := Tryz.underlying9
  a9 := Tryz.isAgg9
  z9 := Tryz.sizeOf9
  v9 := Tryz.zeroValue9 }
open Go.Lib in
theorem Tryz.internal_strconv_small (i : Nat) (h : i < 100) (w : World) :
    Calls Tryz.prog 152 #[.int .i64 i] w fun e w' => e = .returned (.string ⟨(Lib.decDigits i).toArray⟩) ∧ w' = w := Any.internal_strconv_small Tryz.lays283 i h w
def Tryz.laysM284_ren : Go.Shelf.Ren := ⟨fun | 284 => 153 | 129 => 202 | 317 => 201 | 318 => 203 | n => n, fun | 53 => 33 | 3 => 3 | 212 => 252 | 0 => 0 | 4 => 4 | 46 => 158 | 5 => 5 | 9 => 9 | n => n, fun | 17 => 2 | n => n⟩
theorem Tryz.laysM284 : Go.Proofs.LaysM.n284 Tryz.prog Tryz.laysM284_ren := {
  mixed := by kernel_rfl
  f129 := Tryz.func202.trans (congrArg some (by kernel_rfl))
  f284 := Tryz.func153.trans (congrArg some (by kernel_rfl))
  f317 := Tryz.func201.trans (congrArg some (by kernel_rfl))
  f318 := Tryz.func203.trans (congrArg some (by kernel_rfl))
  t0 := Tryz.underlying0
  a0 := Tryz.isAgg0
  z0 := Tryz.sizeOf0
  v0 := Tryz.zeroValue0
  t3 := Tryz.underlying3
  a3 := Tryz.isAgg3
  z3 := Tryz.sizeOf3
  v3 := Tryz.zeroValue3
  t4 := Tryz.underlying4
  a4 := Tryz.isAgg4
  z4 := Tryz.sizeOf4
  v4 := Tryz.zeroValue4
  t5 := Tryz.underlying5
  a5 := Tryz.isAgg5
  z5 := Tryz.sizeOf5
  v5 := Tryz.zeroValue5
  t9 := Tryz.underlying9
  a9 := Tryz.isAgg9
  z9 := Tryz.sizeOf9
  v9 := Tryz.zeroValue9
  t46 := Tryz.underlying158
  a46 := Tryz.isAgg158
  z46 := Tryz.sizeOf158
  v46 := Tryz.zeroValue158
  t53 := Tryz.underlying33
  a53 := Tryz.isAgg33
  z53 := Tryz.sizeOf33
  v53 := Tryz.zeroValue33
  t212 := Tryz.underlying252
  a212 := Tryz.isAgg252
  z212 := Tryz.sizeOf252
  v212 := Tryz.zeroValue252
  g17 := by kernel_rfl
  i0 := by kernel_rfl
  i3 := by kernel_rfl
  i4 := by kernel_rfl
  i5 := by kernel_rfl
  i9 := by kernel_rfl
  i46 := by kernel_rfl
  i53 := by kernel_rfl
  i212 := by kernel_rfl
  m17 := by kernel_rfl }
open Go.Lib in
theorem Tryz.internal_strconv_numDigits (u : Nat) (h1 : 1 ≤ u) (h2 : u < 18446744073709551616) (w : World) (htab : Lib.TabIs Tryz.prog w "internal/strconv.uint64pow10" .u64 Lib.pow10Tab) :
    Calls Tryz.prog 153 #[.int .u64 u] w fun e w' => e = .returned (.int .i64 (Lib.nDigits u)) ∧ w' = w := Any.internal_strconv_numDigits Tryz.laysM284 u h1 h2 w htab
def Tryz.lays285_ren : Go.Shelf.Ren := ⟨fun | 285 => 154 | n => n, fun | 37 => 86 | 53 => 33 | 3 => 3 | 4 => 4 | 51 => 210 | 9 => 9 | 5 => 5 | 0 => 0 | n => n, fun | n => n⟩
theorem Tryz.lays285 : Go.Proofs.Lays.n285 Tryz.prog Tryz.lays285_ren := {
  mixed := by kernel_rfl
  f285 := Tryz.func154.trans (congrArg some (by kernel_rfl))
  t0 := Tryz.underlying0
  a0 := Tryz.isAgg0
  z0 := Tryz.sizeOf0
  v0 := Tryz.zeroValue0
  t3 := Tryz.underlying3
  a3 := Tryz.isAgg3
  z3 := Tryz.sizeOf3
  v3 := Tryz.zeroValue3
  t4 := Tryz.underlying4
  a4 := Tryz.isAgg4
  z4 := Tryz.sizeOf4
  v4 := Tryz.zeroValue4
  t5 := Tryz.underlying5
  a5 := Tryz.isAgg5
  z5 := Tryz.sizeOf5
  v5 := Tryz.zeroValue5
  t9 := Tryz.underlying9
  a9 := Tryz.isAgg9
  z9 := Tryz.sizeOf9
  v9 := Tryz.zeroValue9
  t37 := Tryz.underlying86
  a37 := Tryz.isAgg86
  z37 := Tryz.sizeOf86
  v37 := Tryz.zeroValue86
  t51 := Tryz.underlying210
  a51 := Tryz.isAgg210
  z51 := Tryz.sizeOf210
  v51 := Tryz.zeroValue210
  t53 := Tryz.underlying33
  a53 := Tryz.isAgg33
  z53 := Tryz.sizeOf33
  v53 := Tryz.zeroValue33 }
open Go.RowKit Go.Sort Go.Lib in
theorem Tryz.internal_strconv_formatBase10 (blk off cap : Nat) (u : Nat) (d : Array UInt8) (w : World) (hH : Holds (fun (b : UInt8) => Value.int .u8 (b.toNat : Int)) w blk off d) (hu : u < 10 ^ d.size) (hu64 : u < 18446744073709551616) (hsz : d.size < 4611686018427387904) :
    Calls Tryz.prog 154 #[.slice (some ⟨blk, off, none⟩) d.size cap, .int .u64 u] w fun e w' =>
      e = .returned (.tuple #[]) ∧ ∃ (n v' : Nat) (dk : Array UInt8), w' = (putRow (fun (b : UInt8) => Value.int .u8 (b.toNat : Int)) w blk off dk).drewN n ∧ FmtInv d.size u 0 v' dk := Any.internal_strconv_formatBase10 Tryz.lays285 blk off cap u d w hH hu hu64 hsz
def Tryz.laysM171_ren : Go.Shelf.Ren := ⟨fun | 171 => 53 | 243 => 101 | 246 => 160 | 283 => 152 | 284 => 153 | 285 => 154 | 286 => 155 | 129 => 202 | 317 => 201 | 318 => 203 | 319 => 204 | 320 => 205 | 337 => 229 | 338 => 230 | n => n, fun | 3 => 3 | 9 => 9 | 2 => 2 | 4 => 4 | 171 => 205 | 0 => 0 | 53 => 33 | 37 => 86 | 5 => 5 | 173 => 208 | 212 => 252 | 51 => 210 | 20 => 20 | 213 => 253 | 46 => 158 | 232 => 311 | 233 => 312 | n => n, fun | 17 => 2 | 18 => 8 | 19 => 9 | n => n⟩
theorem Tryz.laysM171 : Go.Proofs.LaysM.n171 Tryz.prog Tryz.laysM171_ren := {
  mixed := by kernel_rfl
  f129 := Tryz.func202.trans (congrArg some (by kernel_rfl))
  f171 := Tryz.func53.trans (congrArg some (by kernel_rfl))
  f243 := Tryz.func101.trans (congrArg some (by kernel_rfl))
  f246 := Tryz.func160.trans (congrArg some (by kernel_rfl))
  f283 := Tryz.func152.trans (congrArg some (by kernel_rfl))
  f284 := Tryz.func153.trans (congrArg some (by kernel_rfl))
  f285 := Tryz.func154.trans (congrArg some (by kernel_rfl))
  f286 := Tryz.func155.trans (congrArg some (by kernel_rfl))
  f317 := Tryz.func201.trans (congrArg some (by kernel_rfl))
  f318 := Tryz.func203.trans (congrArg some (by kernel_rfl))
  f319 := Tryz.func204.trans (congrArg some (by kernel_rfl))
  f320 := Tryz.func205.trans (congrArg some (by kernel_rfl))
  f337 := Tryz.func229.trans (congrArg some (by kernel_rfl))
  f338 := Tryz.func230.trans (congrArg some (by kernel_rfl))
  t0 := Tryz.underlying0
  a0 := Tryz.isAgg0
  z0 := Tryz.sizeOf0
  v0 := Tryz.zeroValue0
  t2 := Tryz.underlying2
  a2 := Tryz.isAgg2
  z2 := Tryz.sizeOf2
  v2 := Tryz.zeroValue2
  t3 := Tryz.underlying3
  a3 := Tryz.isAgg3
  z3 := Tryz.sizeOf3
  v3 := Tryz.zeroValue3
  t4 := Tryz.underlying4
  a4 := Tryz.isAgg4
  z4 := Tryz.sizeOf4
  v4 := Tryz.zeroValue4
  t5 := Tryz.underlying5
  a5 := Tryz.isAgg5
  z5 := Tryz.sizeOf5
  v5 := Tryz.zeroValue5
  t9 := Tryz.underlying9
  a9 := Tryz.isAgg9
  z9 := Tryz.sizeOf9
  v9 := Tryz.zeroValue9
  t20 := Tryz.underlying20
  a20 := Tryz.isAgg20
  z20 := Tryz.sizeOf20
  v20 := Tryz.zeroValue20
  t37 := Tryz.underlying86
  a37 := Tryz.isAgg86
  z37 := Tryz.sizeOf86
  v37 := Tryz.zeroValue86
  t46 := Tryz.underlying158
  a46 := Tryz.isAgg158
  z46 := Tryz.sizeOf158
  v46 := Tryz.zeroValue158
  t51 := Tryz.underlying210
  a51 := Tryz.isAgg210
  z51 := Tryz.sizeOf210
  v51 := Tryz.zeroValue210
  t53 := Tryz.underlying33
  a53 := Tryz.isAgg33
  z53 := Tryz.sizeOf33
  v53 := Tryz.zeroValue33
  t171 := Tryz.underlying205
  a171 := Tryz.isAgg205
  z171 := Tryz.sizeOf205
  v171 := Tryz.zeroValue205
  t173 := Tryz.underlying208
  a173 := Tryz.isAgg208
  z173 := Tryz.sizeOf208
  v173 := Tryz.zeroValue208
  t212 := Tryz.underlying252
  a212 := Tryz.isAgg252
  z212 := Tryz.sizeOf252
  v212 := Tryz.zeroValue252
  t213 := Tryz.underlying253
  a213 := Tryz.isAgg253
  z213 := Tryz.sizeOf253
  t232 := Tryz.underlying311
  a232 := Tryz.isAgg311
  z232 := Tryz.sizeOf311
  v232 := Tryz.zeroValue311
  t233 := Tryz.underlying312
  a233 := Tryz.isAgg312
  z233 := Tryz.sizeOf312
  v233 := Tryz.zeroValue312
  g17 := by kernel_rfl
  g18 := by kernel_rfl
  g19 := by kernel_rfl
  i0 := by kernel_rfl
  i2 := by kernel_rfl
  i3 := by kernel_rfl
  i4 := by kernel_rfl
  i5 := by kernel_rfl
  i9 := by kernel_rfl
  i20 := by kernel_rfl
  i37 := by kernel_rfl
  i46 := by kernel_rfl
  i51 := by kernel_rfl
  i53 := by kernel_rfl
  i171 := by kernel_rfl
  i173 := by kernel_rfl
  i212 := by kernel_rfl
  i232 := by kernel_rfl
  i233 := by kernel_rfl
  m17 := by kernel_rfl
  m18 := by kernel_rfl
  m19 := by kernel_rfl }
open Go.RowKit Go.Sort Go.Lib in
theorem Tryz.strconv_Itoa (n : Int) (h0 : -9223372036854775808 ≤ n) (h1 : n ≤ 9223372036854775807) (w : World) (htab : Lib.TabIs Tryz.prog w "internal/strconv.uint64pow10" .u64 Lib.pow10Tab) :
    Calls Tryz.prog 53 #[.int .i64 n] w fun e w' => e = .returned (.string ⟨(Lib.itoa n).toArray⟩) ∧ ∃ k os, w' = grow (w.drewN k) os := Any.strconv_Itoa Tryz.laysM171 n h0 h1 w htab
def Tryz.laysM316_ren : Go.Shelf.Ren := ⟨fun | 316 => 92 | n => n, fun | 9 => 9 | 3 => 3 | 4 => 4 | 37 => 86 | 0 => 0 | 127 => 146 | 5 => 5 | n => n, fun | n => n⟩
theorem Tryz.laysM316 : Go.Proofs.LaysM.n316 Tryz.prog Tryz.laysM316_ren := {
  mixed := by kernel_rfl
  f316 := Tryz.func92.trans (congrArg some (by kernel_rfl))
  t0 := Tryz.underlying0
  a0 := Tryz.isAgg0
  z0 := Tryz.sizeOf0
  v0 := Tryz.zeroValue0
  t3 := Tryz.underlying3
  a3 := Tryz.isAgg3
  z3 := Tryz.sizeOf3
  v3 := Tryz.zeroValue3
  t4 := Tryz.underlying4
  a4 := Tryz.isAgg4
  z4 := Tryz.sizeOf4
  v4 := Tryz.zeroValue4
  t9 := Tryz.underlying9
  a9 := Tryz.isAgg9
  z9 := Tryz.sizeOf9
  v9 := Tryz.zeroValue9
  t37 := Tryz.underlying86
  a37 := Tryz.isAgg86
  z37 := Tryz.sizeOf86
  v37 := Tryz.zeroValue86
  t127 := Tryz.underlying146
  a127 := Tryz.isAgg146
  z127 := Tryz.sizeOf146
  v127 := Tryz.zeroValue146
  t5 := Tryz.underlying5
  a5 := Tryz.isAgg5
  z5 := Tryz.sizeOf5
  v5 := Tryz.zeroValue5
  i0 := by kernel_rfl
  i3 := by kernel_rfl
  i4 := by kernel_rfl
  i5 := by kernel_rfl
  i9 := by kernel_rfl
  i37 := by kernel_rfl
  i127 := by kernel_rfl }
open Go.RowKit in
theorem Tryz.stringslite_Clone (s : ByteArray) (w : World) (hlim : s.size ≤ 281474976710656) :
    Calls Tryz.prog 92 #[.string s] w fun e w' => e = .returned (.string s) ∧ Below w.heap.size w w' := Any.stringslite_Clone Tryz.laysM316 s w hlim
def Tryz.laysC245_ren : Go.Shelf.Ren := ⟨fun | 245 => 149 | 279 => 196 | 280 => 197 | 281 => 198 | 282 => 199 | 316 => 92 | 171 => 53 | 205 => 226 | 243 => 101 | 246 => 160 | 283 => 152 | 284 => 153 | 285 => 154 | 286 => 155 | 129 => 202 | 317 => 201 | 318 => 203 | 319 => 204 | 320 => 205 | 337 => 229 | 338 => 230 | n => n, fun | 9 => 9 | 3 => 3 | 75 => 151 | 167 => 240 | 4 => 4 | 168 => 242 | 210 => 283 | 37 => 86 | 0 => 0 | 127 => 146 | 145 => 308 | 143 => 306 | 2 => 2 | 171 => 205 | 53 => 33 | 5 => 5 | 173 => 208 | 212 => 252 | 51 => 210 | 20 => 20 | 213 => 253 | 46 => 158 | 232 => 311 | 233 => 312 | 80 => 94 | n => n, fun | 15 => 3 | 16 => 4 | 17 => 2 | 18 => 8 | 19 => 9 | n => n⟩
theorem Tryz.laysC245 : Go.Proofs.LaysC.n245 Tryz.prog Tryz.laysC245_ren := {
  mixed := by kernel_rfl
  f129 := Tryz.func202.trans (congrArg some (by kernel_rfl))
  f171 := Tryz.func53.trans (congrArg some (by kernel_rfl))
  f205 := Tryz.func226.trans (congrArg some (by kernel_rfl))
  f243 := Tryz.func101.trans (congrArg some (by kernel_rfl))
  f245 := Tryz.func149.trans (congrArg some (by kernel_rfl))
  f246 := Tryz.func160.trans (congrArg some (by kernel_rfl))
  f279 := Tryz.func196.trans (congrArg some (by kernel_rfl))
  f280 := Tryz.func197.trans (congrArg some (by kernel_rfl))
  f281 := Tryz.func198.trans (congrArg some (by kernel_rfl))
  f282 := Tryz.func199.trans (congrArg some (by kernel_rfl))
  f283 := Tryz.func152.trans (congrArg some (by kernel_rfl))
  f284 := Tryz.func153.trans (congrArg some (by kernel_rfl))
  f285 := Tryz.func154.trans (congrArg some (by kernel_rfl))
  f286 := Tryz.func155.trans (congrArg some (by kernel_rfl))
  f316 := Tryz.func92.trans (congrArg some (by kernel_rfl))
  f317 := Tryz.func201.trans (congrArg some (by kernel_rfl))
  f318 := Tryz.func203.trans (congrArg some (by kernel_rfl))
  f319 := Tryz.func204.trans (congrArg some (by kernel_rfl))
  f320 := Tryz.func205.trans (congrArg some (by kernel_rfl))
  f337 := Tryz.func229.trans (congrArg some (by kernel_rfl))
  f338 := Tryz.func230.trans (congrArg some (by kernel_rfl))
  t0 := Tryz.underlying0
  a0 := Tryz.isAgg0
  z0 := Tryz.sizeOf0
  v0 := Tryz.zeroValue0
  t2 := Tryz.underlying2
  a2 := Tryz.isAgg2
  z2 := Tryz.sizeOf2
  v2 := Tryz.zeroValue2
  t3 := Tryz.underlying3
  a3 := Tryz.isAgg3
  z3 := Tryz.sizeOf3
  v3 := Tryz.zeroValue3
  t4 := Tryz.underlying4
  a4 := Tryz.isAgg4
  z4 := Tryz.sizeOf4
  v4 := Tryz.zeroValue4
  t5 := Tryz.underlying5
  a5 := Tryz.isAgg5
  z5 := Tryz.sizeOf5
  v5 := Tryz.zeroValue5
  t9 := Tryz.underlying9
  a9 := Tryz.isAgg9
  z9 := Tryz.sizeOf9
  v9 := Tryz.zeroValue9
  t20 := Tryz.underlying20
  a20 := Tryz.isAgg20
  z20 := Tryz.sizeOf20
  v20 := Tryz.zeroValue20
  t37 := Tryz.underlying86
  a37 := Tryz.isAgg86
  z37 := Tryz.sizeOf86
  v37 := Tryz.zeroValue86
  t46 := Tryz.underlying158
  a46 := Tryz.isAgg158
  z46 := Tryz.sizeOf158
  v46 := Tryz.zeroValue158
  t51 := Tryz.underlying210
  a51 := Tryz.isAgg210
  z51 := Tryz.sizeOf210
  v51 := Tryz.zeroValue210
  t53 := Tryz.underlying33
  a53 := Tryz.isAgg33
  z53 := Tryz.sizeOf33
  v53 := Tryz.zeroValue33
  t75 := Tryz.underlying151
  a75 := Tryz.isAgg151
  z75 := Tryz.sizeOf151
  v75 := Tryz.zeroValue151
  t127 := Tryz.underlying146
  a127 := Tryz.isAgg146
  z127 := Tryz.sizeOf146
  v127 := Tryz.zeroValue146
  t143 := Tryz.underlying306
  a143 := Tryz.isAgg306
  z143 := Tryz.sizeOf306
  v143 := Tryz.zeroValue306
  t145 := Tryz.underlying308
  a145 := Tryz.isAgg308
  z145 := Tryz.sizeOf308
  v145 := Tryz.zeroValue308
  t167 := Tryz.underlying240
  a167 := Tryz.isAgg240
  z167 := Tryz.sizeOf240
  v167 := Tryz.zeroValue240
  t168 := Tryz.underlying242
  a168 := Tryz.isAgg242
  z168 := Tryz.sizeOf242
  v168 := Tryz.zeroValue242
  t171 := Tryz.underlying205
  a171 := Tryz.isAgg205
  z171 := Tryz.sizeOf205
  v171 := Tryz.zeroValue205
  t173 := Tryz.underlying208
  a173 := Tryz.isAgg208
  z173 := Tryz.sizeOf208
  v173 := Tryz.zeroValue208
  t210 := Tryz.underlying283
  a210 := Tryz.isAgg283
  z210 := Tryz.sizeOf283
  v210 := Tryz.zeroValue283
  t212 := Tryz.underlying252
  a212 := Tryz.isAgg252
  z212 := Tryz.sizeOf252
  v212 := Tryz.zeroValue252
  t213 := Tryz.underlying253
  a213 := Tryz.isAgg253
  z213 := Tryz.sizeOf253
  t232 := Tryz.underlying311
  a232 := Tryz.isAgg311
  z232 := Tryz.sizeOf311
  v232 := Tryz.zeroValue311
  t233 := Tryz.underlying312
  a233 := Tryz.isAgg312
  z233 := Tryz.sizeOf312
  v233 := Tryz.zeroValue312
  g15 := by kernel_rfl
  g16 := by kernel_rfl
  g17 := by kernel_rfl
  g18 := by kernel_rfl
  g19 := by kernel_rfl
  t80 := Tryz.underlying94
  a80 := Tryz.isAgg94
  z80 := Tryz.sizeOf94
  v80 := Tryz.zeroValue94
  i0 := by kernel_rfl
  i2 := by kernel_rfl
  i3 := by kernel_rfl
  i4 := by kernel_rfl
  i5 := by kernel_rfl
  i9 := by kernel_rfl
  i20 := by kernel_rfl
  i37 := by kernel_rfl
  i46 := by kernel_rfl
  i51 := by kernel_rfl
  i53 := by kernel_rfl
  i75 := by kernel_rfl
  i80 := by kernel_rfl
  i127 := by kernel_rfl
  i143 := by kernel_rfl
  i145 := by kernel_rfl
  i167 := by kernel_rfl
  i168 := by kernel_rfl
  i171 := by kernel_rfl
  i173 := by kernel_rfl
  i210 := by kernel_rfl
  i212 := by kernel_rfl
  i232 := by kernel_rfl
  i233 := by kernel_rfl
  m15 := by kernel_rfl
  m16 := by kernel_rfl
  m17 := by kernel_rfl
  m18 := by kernel_rfl
  m19 := by kernel_rfl
  c0 := by kernel_rfl
  c2 := by kernel_rfl
  c3 := by kernel_rfl
  c4 := by kernel_rfl
  c5 := by kernel_rfl
  c9 := by kernel_rfl
  c20 := by kernel_rfl
  c37 := by kernel_rfl
  c46 := by kernel_rfl
  c51 := by kernel_rfl
  c53 := by kernel_rfl
  c75 := by kernel_rfl
  c80 := by kernel_rfl
  c127 := by kernel_rfl
  c143 := by kernel_rfl
  c145 := by kernel_rfl
  c167 := by kernel_rfl
  c168 := by kernel_rfl
  c171 := by kernel_rfl
  c173 := by kernel_rfl
  c210 := by kernel_rfl
  c212 := by kernel_rfl
  c213 := by kernel_rfl
  c232 := by kernel_rfl
  c233 := by kernel_rfl }
open Go.RowKit in
theorem Tryz.strconv_toError_syntax (fn s : ByteArray) (base bits : Int) (ev : Value) (w : World) (hlim : s.size ≤ 281474976710656) (hv : w.cell? ⟨3, 0, none⟩ = some ev) (hev : ev = .nilIface ∨ ∃ te pe, ev = .iface te pe) :
    Calls Tryz.prog 149 #[.string fn, .string s, .int .i64 base, .int .i64 bits, .iface 240 (.int .i64 2)] w fun e w' => ∃ N, e = .returned (.iface 242 (.pointer (some ⟨N, 0, none⟩))) ∧ w.heap.size ≤ N ∧ w'.heap[N]? = some (.cells #[.string fn, .string s, ev] 283 (0, 0)) ∧ Below w.heap.size w w' := Any.strconv_toError_syntax Tryz.laysC245 fn s base bits ev w hlim hv hev
open Go.RowKit in
theorem Tryz.strconv_toError_range (fn s : ByteArray) (base bits : Int) (ev : Value) (w : World) (hlim : s.size ≤ 281474976710656) (hv : w.cell? ⟨4, 0, none⟩ = some ev) (hev : ev = .nilIface ∨ ∃ te pe, ev = .iface te pe) :
    Calls Tryz.prog 149 #[.string fn, .string s, .int .i64 base, .int .i64 bits, .iface 240 (.int .i64 1)] w fun e w' => ∃ N, e = .returned (.iface 242 (.pointer (some ⟨N, 0, none⟩))) ∧ w.heap.size ≤ N ∧ w'.heap[N]? = some (.cells #[.string fn, .string s, ev] 283 (0, 0)) ∧ Below w.heap.size w w' := Any.strconv_toError_range Tryz.laysC245 fn s base bits ev w hlim hv hev
def Tryz.laysC172_ren : Go.Shelf.Ren := ⟨fun | 172 => 147 | 244 => 193 | 245 => 149 | 247 => 225 | 279 => 196 | 280 => 197 | 281 => 198 | 282 => 199 | 287 => 148 | 316 => 92 | 171 => 53 | 205 => 226 | 321 => 194 | 322 => 195 | 243 => 101 | 246 => 160 | 283 => 152 | 284 => 153 | 285 => 154 | 286 => 155 | 129 => 202 | 317 => 201 | 318 => 203 | 319 => 204 | 320 => 205 | 337 => 229 | 338 => 230 | n => n, fun | 9 => 9 | 3 => 3 | 75 => 151 | 76 => 161 | 4 => 4 | 5 => 5 | 167 => 240 | 37 => 86 | 0 => 0 | 85 => 280 | 2 => 2 | 168 => 242 | 53 => 33 | 175 => 152 | 46 => 158 | 210 => 283 | 127 => 146 | 145 => 308 | 143 => 306 | 21 => 21 | 171 => 205 | 173 => 208 | 212 => 252 | 51 => 210 | 20 => 20 | 213 => 253 | 232 => 311 | 233 => 312 | 80 => 94 | n => n, fun | 15 => 3 | 16 => 4 | 17 => 2 | 18 => 8 | 19 => 9 | n => n⟩
theorem Tryz.laysC172 : Go.Proofs.LaysC.n172 Tryz.prog Tryz.laysC172_ren := {
  mixed := by kernel_rfl
  f129 := Tryz.func202.trans (congrArg some (by kernel_rfl))
  f171 := Tryz.func53.trans (congrArg some (by kernel_rfl))
  f172 := Tryz.func147.trans (congrArg some (by kernel_rfl))
  f205 := Tryz.func226.trans (congrArg some (by kernel_rfl))
  f243 := Tryz.func101.trans (congrArg some (by kernel_rfl))
  f244 := Tryz.func193.trans (congrArg some (by kernel_rfl))
  f245 := Tryz.func149.trans (congrArg some (by kernel_rfl))
  f246 := Tryz.func160.trans (congrArg some (by kernel_rfl))
  f247 := Tryz.func225.trans (congrArg some (by kernel_rfl))
  f279 := Tryz.func196.trans (congrArg some (by kernel_rfl))
  f280 := Tryz.func197.trans (congrArg some (by kernel_rfl))
  f281 := Tryz.func198.trans (congrArg some (by kernel_rfl))
  f282 := Tryz.func199.trans (congrArg some (by kernel_rfl))
  f283 := Tryz.func152.trans (congrArg some (by kernel_rfl))
  f284 := Tryz.func153.trans (congrArg some (by kernel_rfl))
  f285 := Tryz.func154.trans (congrArg some (by kernel_rfl))
  f286 := Tryz.func155.trans (congrArg some (by kernel_rfl))
  f287 := Tryz.func148.trans (congrArg some (by kernel_rfl))
  f316 := Tryz.func92.trans (congrArg some (by kernel_rfl))
  f317 := Tryz.func201.trans (congrArg some (by kernel_rfl))
  f318 := Tryz.func203.trans (congrArg some (by kernel_rfl))
  f319 := Tryz.func204.trans (congrArg some (by kernel_rfl))
  f320 := Tryz.func205.trans (congrArg some (by kernel_rfl))
  f321 := Tryz.func194.trans (congrArg some (by kernel_rfl))
  f322 := Tryz.func195.trans (congrArg some (by kernel_rfl))
  f337 := Tryz.func229.trans (congrArg some (by kernel_rfl))
  f338 := Tryz.func230.trans (congrArg some (by kernel_rfl))
  t0 := Tryz.underlying0
  a0 := Tryz.isAgg0
  z0 := Tryz.sizeOf0
  v0 := Tryz.zeroValue0
  t2 := Tryz.underlying2
  a2 := Tryz.isAgg2
  z2 := Tryz.sizeOf2
  v2 := Tryz.zeroValue2
  t3 := Tryz.underlying3
  a3 := Tryz.isAgg3
  z3 := Tryz.sizeOf3
  v3 := Tryz.zeroValue3
  t4 := Tryz.underlying4
  a4 := Tryz.isAgg4
  z4 := Tryz.sizeOf4
  v4 := Tryz.zeroValue4
  t5 := Tryz.underlying5
  a5 := Tryz.isAgg5
  z5 := Tryz.sizeOf5
  v5 := Tryz.zeroValue5
  t9 := Tryz.underlying9
  a9 := Tryz.isAgg9
  z9 := Tryz.sizeOf9
  v9 := Tryz.zeroValue9
  t20 := Tryz.underlying20
  a20 := Tryz.isAgg20
  z20 := Tryz.sizeOf20
  v20 := Tryz.zeroValue20
  t21 := Tryz.underlying21
  a21 := Tryz.isAgg21
  z21 := Tryz.sizeOf21
  v21 := Tryz.zeroValue21
  t37 := Tryz.underlying86
  a37 := Tryz.isAgg86
  z37 := Tryz.sizeOf86
  v37 := Tryz.zeroValue86
  t46 := Tryz.underlying158
  a46 := Tryz.isAgg158
  z46 := Tryz.sizeOf158
  v46 := Tryz.zeroValue158
  t51 := Tryz.underlying210
  a51 := Tryz.isAgg210
  z51 := Tryz.sizeOf210
  v51 := Tryz.zeroValue210
  t53 := Tryz.underlying33
  a53 := Tryz.isAgg33
  z53 := Tryz.sizeOf33
  v53 := Tryz.zeroValue33
  t75 := Tryz.underlying151
  a75 := Tryz.isAgg151
  z75 := Tryz.sizeOf151
  v75 := Tryz.zeroValue151
  t76 := Tryz.underlying161
  a76 := Tryz.isAgg161
  z76 := Tryz.sizeOf161
  v76 := Tryz.zeroValue161
  t85 := Tryz.underlying280
  a85 := Tryz.isAgg280
  z85 := Tryz.sizeOf280
  v85 := Tryz.zeroValue280
  t127 := Tryz.underlying146
  a127 := Tryz.isAgg146
  z127 := Tryz.sizeOf146
  v127 := Tryz.zeroValue146
  t143 := Tryz.underlying306
  a143 := Tryz.isAgg306
  z143 := Tryz.sizeOf306
  v143 := Tryz.zeroValue306
  t145 := Tryz.underlying308
  a145 := Tryz.isAgg308
  z145 := Tryz.sizeOf308
  v145 := Tryz.zeroValue308
  t167 := Tryz.underlying240
  a167 := Tryz.isAgg240
  z167 := Tryz.sizeOf240
  v167 := Tryz.zeroValue240
  t168 := Tryz.underlying242
  a168 := Tryz.isAgg242
  z168 := Tryz.sizeOf242
  v168 := Tryz.zeroValue242
  t171 := Tryz.underlying205
  a171 := Tryz.isAgg205
  z171 := Tryz.sizeOf205
  v171 := Tryz.zeroValue205
  t173 := Tryz.underlying208
  a173 := Tryz.isAgg208
  z173 := Tryz.sizeOf208
  v173 := Tryz.zeroValue208
  t175 := Tryz.underlying152
  a175 := Tryz.isAgg152
  z175 := Tryz.sizeOf152
  v175 := Tryz.zeroValue152
  t210 := Tryz.underlying283
  a210 := Tryz.isAgg283
  z210 := Tryz.sizeOf283
  v210 := Tryz.zeroValue283
  t212 := Tryz.underlying252
  a212 := Tryz.isAgg252
  z212 := Tryz.sizeOf252
  v212 := Tryz.zeroValue252
  t213 := Tryz.underlying253
  a213 := Tryz.isAgg253
  z213 := Tryz.sizeOf253
  t232 := Tryz.underlying311
  a232 := Tryz.isAgg311
  z232 := Tryz.sizeOf311
  v232 := Tryz.zeroValue311
  t233 := Tryz.underlying312
  a233 := Tryz.isAgg312
  z233 := Tryz.sizeOf312
  v233 := Tryz.zeroValue312
  g15 := by kernel_rfl
  g16 := by kernel_rfl
  g17 := by kernel_rfl
  g18 := by kernel_rfl
  g19 := by kernel_rfl
  t80 := Tryz.underlying94
  a80 := Tryz.isAgg94
  z80 := Tryz.sizeOf94
  v80 := Tryz.zeroValue94
  i0 := by kernel_rfl
  i2 := by kernel_rfl
  i3 := by kernel_rfl
  i4 := by kernel_rfl
  i5 := by kernel_rfl
  i9 := by kernel_rfl
  i20 := by kernel_rfl
  i21 := by kernel_rfl
  i37 := by kernel_rfl
  i46 := by kernel_rfl
  i51 := by kernel_rfl
  i53 := by kernel_rfl
  i75 := by kernel_rfl
  i76 := by kernel_rfl
  i80 := by kernel_rfl
  i85 := by kernel_rfl
  i127 := by kernel_rfl
  i143 := by kernel_rfl
  i145 := by kernel_rfl
  i167 := by kernel_rfl
  i168 := by kernel_rfl
  i171 := by kernel_rfl
  i173 := by kernel_rfl
  i175 := by kernel_rfl
  i210 := by kernel_rfl
  i212 := by kernel_rfl
  i232 := by kernel_rfl
  i233 := by kernel_rfl
  m15 := by kernel_rfl
  m16 := by kernel_rfl
  m17 := by kernel_rfl
  m18 := by kernel_rfl
  m19 := by kernel_rfl
  c0 := by kernel_rfl
  c2 := by kernel_rfl
  c3 := by kernel_rfl
  c4 := by kernel_rfl
  c5 := by kernel_rfl
  c9 := by kernel_rfl
  c20 := by kernel_rfl
  c21 := by kernel_rfl
  c37 := by kernel_rfl
  c46 := by kernel_rfl
  c51 := by kernel_rfl
  c53 := by kernel_rfl
  c75 := by kernel_rfl
  c76 := by kernel_rfl
  c80 := by kernel_rfl
  c85 := by kernel_rfl
  c127 := by kernel_rfl
  c143 := by kernel_rfl
  c145 := by kernel_rfl
  c167 := by kernel_rfl
  c168 := by kernel_rfl
  c171 := by kernel_rfl
  c173 := by kernel_rfl
  c175 := by kernel_rfl
  c210 := by kernel_rfl
  c212 := by kernel_rfl
  c213 := by kernel_rfl
  c232 := by kernel_rfl
  c233 := by kernel_rfl }
open Go.RowKit in
theorem Tryz.strconv_Atoi_ok (s : ByteArray) (hmax : s.size ≤ 9223372036854775806) (v : Int) (h : Lib.atoiAll s.data.toList = .ok v) (w : World) :
    Calls Tryz.prog 147 #[.string s] w fun e w' => e = .returned (.tuple #[.int .i64 v, .nilIface]) ∧ (w' = w ∨ ∃ t, w' = Lib.bytesWorld w 5 t) := Any.strconv_Atoi_ok Tryz.laysC172 s hmax v h w
open Go.RowKit in
theorem Tryz.strconv_Atoi_syntax (s : ByteArray) (hlim : s.size ≤ 281474976710656) (h : Lib.atoiAll s.data.toList = Lib.atoiAll []) (ev : Value) (w : World) (hv : w.cell? ⟨3, 0, none⟩ = some ev) (hev : ev = .nilIface ∨ ∃ te pe, ev = .iface te pe) :
    Calls Tryz.prog 147 #[.string s] w fun e w' => ∃ N, e = .returned (.tuple #[.int .i64 (0), .iface 242 (.pointer (some ⟨N, 0, none⟩))]) ∧ w.heap.size ≤ N ∧ w'.heap[N]? = some (.cells #[.string ⟨#[65, 116, 111, 105]⟩, .string s, ev] 283 (0, 0)) ∧ Below w.heap.size w w' := Any.strconv_Atoi_syntax Tryz.laysC172 s hlim h ev w hv hev
open Go.RowKit in
theorem Tryz.strconv_Atoi_range (s : ByteArray) (hlim : s.size ≤ 281474976710656) (h : Lib.atoiAll s.data.toList = .range) (ev : Value) (w : World) (hv : w.cell? ⟨4, 0, none⟩ = some ev) (hev : ev = .nilIface ∨ ∃ te pe, ev = .iface te pe) :
    Calls Tryz.prog 147 #[.string s] w fun e w' => ∃ N, e = .returned (.tuple #[.int .i64 (Lib.atoiSat s.data.toList), .iface 242 (.pointer (some ⟨N, 0, none⟩))]) ∧ w.heap.size ≤ N ∧ w'.heap[N]? = some (.cells #[.string ⟨#[65, 116, 111, 105]⟩, .string s, ev] 283 (0, 0)) ∧ Below w.heap.size w w' := Any.strconv_Atoi_range Tryz.laysC172 s hlim h ev w hv hev
def Tryz.laysPu14_ren : Go.Shelf.Ren := ⟨fun | 14 => 90 | 16 => 148 | 17 => 149 | 19 => 194 | 20 => 195 | 21 => 196 | 22 => 197 | 23 => 198 | 24 => 199 | 25 => 92 | 27 => 53 | 26 => 226 | 28 => 101 | 29 => 160 | 30 => 152 | 31 => 153 | 32 => 154 | 33 => 155 | 35 => 202 | 34 => 201 | 36 => 203 | 37 => 204 | 38 => 205 | 39 => 229 | 40 => 230 | n => n, fun | 9 => 9 | 3 => 3 | 22 => 33 | 24 => 151 | 25 => 152 | 4 => 4 | 34 => 240 | 5 => 5 | 36 => 158 | 37 => 86 | 0 => 0 | 39 => 242 | 21 => 21 | 44 => 283 | 47 => 146 | 50 => 308 | 48 => 306 | 2 => 2 | 52 => 205 | 55 => 208 | 59 => 252 | 60 => 210 | 20 => 20 | 61 => 253 | 65 => 311 | 66 => 312 | 67 => 94 | n => n, fun | 0 => 3 | 1 => 4 | 2 => 2 | 3 => 8 | 4 => 9 | n => n⟩
theorem Tryz.laysPu14 : Go.Proofs.LaysPu.n14 Tryz.prog Tryz.laysPu14_ren := {
  mixed := by kernel_rfl
  f14 := Tryz.func90.trans (congrArg some (by kernel_rfl))
  f16 := Tryz.func148.trans (congrArg some (by kernel_rfl))
  f17 := Tryz.func149.trans (congrArg some (by kernel_rfl))
  f19 := Tryz.func194.trans (congrArg some (by kernel_rfl))
  f20 := Tryz.func195.trans (congrArg some (by kernel_rfl))
  f21 := Tryz.func196.trans (congrArg some (by kernel_rfl))
  f22 := Tryz.func197.trans (congrArg some (by kernel_rfl))
  f23 := Tryz.func198.trans (congrArg some (by kernel_rfl))
  f24 := Tryz.func199.trans (congrArg some (by kernel_rfl))
  f25 := Tryz.func92.trans (congrArg some (by kernel_rfl))
  f26 := Tryz.func226.trans (congrArg some (by kernel_rfl))
  f27 := Tryz.func53.trans (congrArg some (by kernel_rfl))
  f28 := Tryz.func101.trans (congrArg some (by kernel_rfl))
  f29 := Tryz.func160.trans (congrArg some (by kernel_rfl))
  f30 := Tryz.func152.trans (congrArg some (by kernel_rfl))
  f31 := Tryz.func153.trans (congrArg some (by kernel_rfl))
  f32 := Tryz.func154.trans (congrArg some (by kernel_rfl))
  f33 := Tryz.func155.trans (congrArg some (by kernel_rfl))
  f34 := Tryz.func201.trans (congrArg some (by kernel_rfl))
  f35 := Tryz.func202.trans (congrArg some (by kernel_rfl))
  f36 := Tryz.func203.trans (congrArg some (by kernel_rfl))
  f37 := Tryz.func204.trans (congrArg some (by kernel_rfl))
  f38 := Tryz.func205.trans (congrArg some (by kernel_rfl))
  f39 := Tryz.func229.trans (congrArg some (by kernel_rfl))
  f40 := Tryz.func230.trans (congrArg some (by kernel_rfl))
  t0 := Tryz.underlying0
  a0 := Tryz.isAgg0
  z0 := Tryz.sizeOf0
  v0 := Tryz.zeroValue0
  i0 := by kernel_rfl
  t2 := Tryz.underlying2
  a2 := Tryz.isAgg2
  z2 := Tryz.sizeOf2
  v2 := Tryz.zeroValue2
  i2 := by kernel_rfl
  t3 := Tryz.underlying3
  a3 := Tryz.isAgg3
  z3 := Tryz.sizeOf3
  v3 := Tryz.zeroValue3
  i3 := by kernel_rfl
  t4 := Tryz.underlying4
  a4 := Tryz.isAgg4
  z4 := Tryz.sizeOf4
  v4 := Tryz.zeroValue4
  i4 := by kernel_rfl
  t5 := Tryz.underlying5
  a5 := Tryz.isAgg5
  z5 := Tryz.sizeOf5
  v5 := Tryz.zeroValue5
  i5 := by kernel_rfl
  t9 := Tryz.underlying9
  a9 := Tryz.isAgg9
  z9 := Tryz.sizeOf9
  v9 := Tryz.zeroValue9
  i9 := by kernel_rfl
  t20 := Tryz.underlying20
  a20 := Tryz.isAgg20
  z20 := Tryz.sizeOf20
  v20 := Tryz.zeroValue20
  i20 := by kernel_rfl
  t21 := Tryz.underlying21
  a21 := Tryz.isAgg21
  z21 := Tryz.sizeOf21
  v21 := Tryz.zeroValue21
  i21 := by kernel_rfl
  t22 := Tryz.underlying33
  a22 := Tryz.isAgg33
  z22 := Tryz.sizeOf33
  v22 := Tryz.zeroValue33
  i22 := by kernel_rfl
  t24 := Tryz.underlying151
  a24 := Tryz.isAgg151
  z24 := Tryz.sizeOf151
  v24 := Tryz.zeroValue151
  i24 := by kernel_rfl
  t25 := Tryz.underlying152
  a25 := Tryz.isAgg152
  z25 := Tryz.sizeOf152
  v25 := Tryz.zeroValue152
  i25 := by kernel_rfl
  t34 := Tryz.underlying240
  a34 := Tryz.isAgg240
  z34 := Tryz.sizeOf240
  v34 := Tryz.zeroValue240
  i34 := by kernel_rfl
  c34 := by kernel_rfl
  t36 := Tryz.underlying158
  a36 := Tryz.isAgg158
  z36 := Tryz.sizeOf158
  v36 := Tryz.zeroValue158
  i36 := by kernel_rfl
  t37 := Tryz.underlying86
  a37 := Tryz.isAgg86
  z37 := Tryz.sizeOf86
  v37 := Tryz.zeroValue86
  i37 := by kernel_rfl
  t39 := Tryz.underlying242
  a39 := Tryz.isAgg242
  z39 := Tryz.sizeOf242
  v39 := Tryz.zeroValue242
  i39 := by kernel_rfl
  t44 := Tryz.underlying283
  a44 := Tryz.isAgg283
  z44 := Tryz.sizeOf283
  v44 := Tryz.zeroValue283
  i44 := by kernel_rfl
  t47 := Tryz.underlying146
  a47 := Tryz.isAgg146
  z47 := Tryz.sizeOf146
  v47 := Tryz.zeroValue146
  i47 := by kernel_rfl
  t48 := Tryz.underlying306
  a48 := Tryz.isAgg306
  z48 := Tryz.sizeOf306
  v48 := Tryz.zeroValue306
  i48 := by kernel_rfl
  t50 := Tryz.underlying308
  a50 := Tryz.isAgg308
  z50 := Tryz.sizeOf308
  v50 := Tryz.zeroValue308
  i50 := by kernel_rfl
  t52 := Tryz.underlying205
  a52 := Tryz.isAgg205
  z52 := Tryz.sizeOf205
  v52 := Tryz.zeroValue205
  i52 := by kernel_rfl
  t55 := Tryz.underlying208
  a55 := Tryz.isAgg208
  z55 := Tryz.sizeOf208
  v55 := Tryz.zeroValue208
  i55 := by kernel_rfl
  t59 := Tryz.underlying252
  a59 := Tryz.isAgg252
  z59 := Tryz.sizeOf252
  v59 := Tryz.zeroValue252
  i59 := by kernel_rfl
  t60 := Tryz.underlying210
  a60 := Tryz.isAgg210
  z60 := Tryz.sizeOf210
  v60 := Tryz.zeroValue210
  i60 := by kernel_rfl
  t61 := Tryz.underlying253
  a61 := Tryz.isAgg253
  z61 := Tryz.sizeOf253
  t65 := Tryz.underlying311
  a65 := Tryz.isAgg311
  z65 := Tryz.sizeOf311
  v65 := Tryz.zeroValue311
  i65 := by kernel_rfl
  t66 := Tryz.underlying312
  a66 := Tryz.isAgg312
  z66 := Tryz.sizeOf312
  v66 := Tryz.zeroValue312
  i66 := by kernel_rfl
  t67 := Tryz.underlying94
  a67 := Tryz.isAgg94
  z67 := Tryz.sizeOf94
  v67 := Tryz.zeroValue94
  i67 := by kernel_rfl
  g0 := by kernel_rfl
  m0 := by kernel_rfl
  g1 := by kernel_rfl
  m1 := by kernel_rfl
  g2 := by kernel_rfl
  m2 := by kernel_rfl
  g3 := by kernel_rfl
  m3 := by kernel_rfl
  g4 := by kernel_rfl
  m4 := by kernel_rfl }
open Go.RowKit in
theorem Tryz.strconv_ParseUint_10_at64_ok (s : ByteArray) (hmax : s.size ≤ 9223372036854775806) (u : Nat) (h : Lib.parseUintB 64 s.data.toList = .ok u) (w : World) :
    Calls Tryz.prog 90 #[.string s, .int .i64 10, .int .i64 64] w fun e w' => e = .returned (.tuple #[.int .u64 u, .nilIface]) ∧ (w' = w ∨ w' = Lib.bytesWorld w 5 s) := Any.strconv_ParseUint_10_at64_ok Tryz.laysPu14 s hmax u h w
open Go.RowKit in
theorem Tryz.strconv_ParseUint_10_at64_range (s : ByteArray) (hlim : s.size ≤ 281474976710656) (h : Lib.parseUintB 64 s.data.toList = .range) (ev : Value) (w : World) (hv : w.cell? ⟨4, 0, none⟩ = some ev) (hev : ev = .nilIface ∨ ∃ te pe, ev = .iface te pe) :
    Calls Tryz.prog 90 #[.string s, .int .i64 10, .int .i64 64] w fun e w' => ∃ N, e = .returned (.tuple #[.int .u64 18446744073709551615, .iface 242 (.pointer (some ⟨N, 0, none⟩))]) ∧ w.heap.size ≤ N ∧ w'.heap[N]? = some (.cells #[.string ⟨#[80, 97, 114, 115, 101, 85, 105, 110, 116]⟩, .string s, ev] 283 (0, 0)) ∧ Below w.heap.size w w' := Any.strconv_ParseUint_10_at64_range Tryz.laysPu14 s hlim h ev w hv hev
def Tryz.lays219_ren : Go.Shelf.Ren := ⟨fun | 219 => 224 | 217 => 247 | 225 => 246 | 224 => 245 | 267 => 248 | 266 => 252 | 314 => 253 | n => n, fun | 9 => 9 | 3 => 3 | 4 => 4 | 5 => 5 | 46 => 158 | 146 => 211 | 51 => 210 | n => n, fun | 1 => 5 | n => n⟩
theorem Tryz.lays219 : Go.Proofs.Lays.n219 Tryz.prog Tryz.lays219_ren := {
  mixed := by kernel_rfl
  f217 := Tryz.func247.trans (congrArg some (by kernel_rfl))
  f219 := Tryz.func224.trans (congrArg some (by kernel_rfl))
  f224 := Tryz.func245.trans (congrArg some (by kernel_rfl))
  f225 := Tryz.func246.trans (congrArg some (by kernel_rfl))
  f266 := Tryz.func252.trans (congrArg some (by kernel_rfl))
  f267 := Tryz.func248.trans (congrArg some (by kernel_rfl))
  f314 := Tryz.func253.trans (congrArg some (by kernel_rfl))
  t3 := Tryz.underlying3
  a3 := Tryz.isAgg3
  z3 := Tryz.sizeOf3
  v3 := Tryz.zeroValue3
  t4 := Tryz.underlying4
  a4 := Tryz.isAgg4
  z4 := Tryz.sizeOf4
  v4 := Tryz.zeroValue4
  t5 := Tryz.underlying5
  a5 := Tryz.isAgg5
  z5 := Tryz.sizeOf5
  v5 := Tryz.zeroValue5
  t9 := Tryz.underlying9
  a9 := Tryz.isAgg9
  z9 := Tryz.sizeOf9
  v9 := Tryz.zeroValue9
  t46 := Tryz.underlying158
  a46 := Tryz.isAgg158
  z46 := Tryz.sizeOf158
  v46 := Tryz.zeroValue158
  t51 := Tryz.underlying210
  a51 := Tryz.isAgg210
  z51 := Tryz.sizeOf210
  v51 := Tryz.zeroValue210
  t146 := Tryz.underlying211
  a146 := Tryz.isAgg211
  z146 := Tryz.sizeOf211
  v146 := Tryz.zeroValue211
  g1 := by kernel_rfl }
open Go.RowKit Go.Lib in
theorem Tryz.stringslite_Index_one (s : ByteArray) (c : UInt8) (w : World) :
    Calls Tryz.prog 224 #[.string s, .string ⟨#[c]⟩] w fun e w' => e = .returned (.int .i64 (Lib.indexByte s.data.toList c)) ∧ w' = w := Any.stringslite_Index_one Tryz.lays219 s c w
def Tryz.lays99_ren : Go.Shelf.Ren := ⟨fun | 99 => 41 | 206 => 87 | n => n, fun | 9 => 9 | 4 => 4 | 3 => 3 | n => n, fun | n => n⟩
theorem Tryz.lays99 : Go.Proofs.Lays.n99 Tryz.prog Tryz.lays99_ren := {
  mixed := by kernel_rfl
  f99 := Tryz.func41.trans (congrArg some (by kernel_rfl))
  f206 := Tryz.func87.trans (congrArg some (by kernel_rfl))
  t3 := Tryz.underlying3
  a3 := Tryz.isAgg3
  z3 := Tryz.sizeOf3
  v3 := Tryz.zeroValue3
  t4 := Tryz.underlying4
  a4 := Tryz.isAgg4
  z4 := Tryz.sizeOf4
  v4 := Tryz.zeroValue4
  t9 := Tryz.underlying9
  a9 := Tryz.isAgg9
  z9 := Tryz.sizeOf9
  v9 := Tryz.zeroValue9 }
open Go.RowKit Go.Lib in
theorem Tryz.strings_HasPrefix (s p : ByteArray) (w : World) :
    Calls Tryz.prog 41 #[.string s, .string p] w fun e w' => e = .returned (.bool (Lib.hasPrefix s.data.toList p.data.toList)) ∧ w' = w := Any.strings_HasPrefix Tryz.lays99 s p w
def Tryz.lays157_ren : Go.Shelf.Ren := ⟨fun | 157 => 93 | 229 => 150 | 199 => 151 | 261 => 200 | 311 => 227 | 312 => 228 | n => n, fun | 9 => 9 | 31 => 52 | 3 => 3 | 5 => 5 | 4 => 4 | 119 => 202 | 0 => 0 | 40 => 204 | 152 => 245 | 21 => 21 | 154 => 247 | 51 => 210 | 141 => 249 | 196 => 288 | 193 => 285 | 198 => 291 | 49 => 289 | 194 => 286 | 201 => 294 | 226 => 309 | 46 => 158 | 227 => 310 | n => n, fun | 0 => 0 | 6 => 1 | n => n⟩
theorem Tryz.lays157 : Go.Proofs.Lays.n157 Tryz.prog Tryz.lays157_ren := {
  mixed := by kernel_rfl
  f157 := Tryz.func93.trans (congrArg some (by kernel_rfl))
  f199 := Tryz.func151.trans (congrArg some (by kernel_rfl))
  f229 := Tryz.func150.trans (congrArg some (by kernel_rfl))
  f261 := Tryz.func200.trans (congrArg some (by kernel_rfl))
  f311 := Tryz.func227.trans (congrArg some (by kernel_rfl))
  f312 := Tryz.func228.trans (congrArg some (by kernel_rfl))
  t0 := Tryz.underlying0
  a0 := Tryz.isAgg0
  z0 := Tryz.sizeOf0
  v0 := Tryz.zeroValue0
  t3 := Tryz.underlying3
  a3 := Tryz.isAgg3
  z3 := Tryz.sizeOf3
  v3 := Tryz.zeroValue3
  t4 := Tryz.underlying4
  a4 := Tryz.isAgg4
  z4 := Tryz.sizeOf4
  v4 := Tryz.zeroValue4
  t5 := Tryz.underlying5
  a5 := Tryz.isAgg5
  z5 := Tryz.sizeOf5
  v5 := Tryz.zeroValue5
  t9 := Tryz.underlying9
  a9 := Tryz.isAgg9
  z9 := Tryz.sizeOf9
  v9 := Tryz.zeroValue9
  t21 := Tryz.underlying21
  a21 := Tryz.isAgg21
  z21 := Tryz.sizeOf21
  v21 := Tryz.zeroValue21
  t31 := Tryz.underlying52
  a31 := Tryz.isAgg52
  z31 := Tryz.sizeOf52
  v31 := Tryz.zeroValue52
  t40 := Tryz.underlying204
  a40 := Tryz.isAgg204
  z40 := Tryz.sizeOf204
  v40 := Tryz.zeroValue204
  t46 := Tryz.underlying158
  a46 := Tryz.isAgg158
  z46 := Tryz.sizeOf158
  v46 := Tryz.zeroValue158
  t49 := Tryz.underlying289
  a49 := Tryz.isAgg289
  z49 := Tryz.sizeOf289
  v49 := Tryz.zeroValue289
  t51 := Tryz.underlying210
  a51 := Tryz.isAgg210
  z51 := Tryz.sizeOf210
  v51 := Tryz.zeroValue210
  t119 := Tryz.underlying202
  a119 := Tryz.isAgg202
  z119 := Tryz.sizeOf202
  t141 := Tryz.underlying249
  a141 := Tryz.isAgg249
  z141 := Tryz.sizeOf249
  v141 := Tryz.zeroValue249
  t152 := Tryz.underlying245
  a152 := Tryz.isAgg245
  z152 := Tryz.sizeOf245
  v152 := Tryz.zeroValue245
  t154 := Tryz.underlying247
  a154 := Tryz.isAgg247
  z154 := Tryz.sizeOf247
  v154 := Tryz.zeroValue247
  t193 := Tryz.underlying285
  a193 := Tryz.isAgg285
  z193 := Tryz.sizeOf285
  v193 := Tryz.zeroValue285
  t194 := Tryz.underlying286
  a194 := Tryz.isAgg286
  z194 := Tryz.sizeOf286
  v194 := Tryz.zeroValue286
  t196 := Tryz.underlying288
  a196 := Tryz.isAgg288
  z196 := Tryz.sizeOf288
  v196 := Tryz.zeroValue288
  t198 := Tryz.underlying291
  a198 := Tryz.isAgg291
  z198 := Tryz.sizeOf291
  v198 := Tryz.zeroValue291
  t201 := Tryz.underlying294
  a201 := Tryz.isAgg294
  z201 := Tryz.sizeOf294
  v201 := Tryz.zeroValue294
  t226 := Tryz.underlying309
  a226 := Tryz.isAgg309
  z226 := Tryz.sizeOf309
  v226 := Tryz.zeroValue309
  t227 := Tryz.underlying310
  a227 := Tryz.isAgg310
  z227 := Tryz.sizeOf310
  v227 := Tryz.zeroValue310
  g0 := by kernel_rfl
  g6 := by kernel_rfl }
open Go.RowKit Go.Lib in
theorem Tryz.strings_Fields (s : ByteArray) (w : World) (hs : s.size < 4294967281) (hascii : ∀ (j : Nat) b, s.data.toList[j]? = some b → b.toNat < 128) (htab : Lib.TabIs Tryz.prog w "strings.asciiSpace" .u8 Lib.asciiSpaceTab) :
    Calls Tryz.prog 93 #[.string s] w fun e w' =>
      e = .returned (.slice (some ⟨w.heap.size, 0, none⟩) (Lib.fields s.data.toList).length (Lib.fields s.data.toList).length) ∧ w' = w.alloc (.cells ((Lib.fields s.data.toList).map fun l => Value.string ⟨l.toArray⟩).toArray 9) := Any.strings_Fields Tryz.lays157 (by kernel_rfl) (by kernel_rfl) s w hs hascii htab
def Tryz.lays105_ren : Go.Shelf.Ren := ⟨fun | 105 => 52 | 212 => 98 | 99 => 41 | 165 => 99 | 166 => 100 | 170 => 30 | 169 => 31 | 263 => 156 | 264 => 157 | 206 => 87 | 240 => 158 | 241 => 159 | 276 => 206 | 277 => 207 | n => n, fun | 9 => 9 | 3 => 3 | 4 => 4 | 20 => 20 | 0 => 0 | 46 => 158 | 109 => 159 | 5 => 5 | 72 => 88 | 76 => 161 | 51 => 210 | 146 => 211 | 53 => 33 | 148 => 213 | 70 => 85 | 37 => 86 | 75 => 151 | 127 => 146 | 164 => 255 | 80 => 94 | n => n, fun | n => n⟩
theorem Tryz.lays105 : Go.Proofs.Lays.n105 Tryz.prog Tryz.lays105_ren := {
  mixed := by kernel_rfl
  f99 := Tryz.func41.trans (congrArg some (by kernel_rfl))
  f105 := Tryz.func52.trans (congrArg some (by kernel_rfl))
  f165 := Tryz.func99.trans (congrArg some (by kernel_rfl))
  f166 := Tryz.func100.trans (congrArg some (by kernel_rfl))
  f169 := Tryz.func31.trans (congrArg some (by kernel_rfl))
  f170 := Tryz.func30.trans (congrArg some (by kernel_rfl))
  f206 := Tryz.func87.trans (congrArg some (by kernel_rfl))
  f212 := Tryz.func98.trans (congrArg some (by kernel_rfl))
  f240 := Tryz.func158.trans (congrArg some (by kernel_rfl))
  f241 := Tryz.func159.trans (congrArg some (by kernel_rfl))
  f263 := Tryz.func156.trans (congrArg some (by kernel_rfl))
  f264 := Tryz.func157.trans (congrArg some (by kernel_rfl))
  f276 := Tryz.func206.trans (congrArg some (by kernel_rfl))
  f277 := Tryz.func207.trans (congrArg some (by kernel_rfl))
  t0 := Tryz.underlying0
  a0 := Tryz.isAgg0
  z0 := Tryz.sizeOf0
  v0 := Tryz.zeroValue0
  t3 := Tryz.underlying3
  a3 := Tryz.isAgg3
  z3 := Tryz.sizeOf3
  v3 := Tryz.zeroValue3
  t4 := Tryz.underlying4
  a4 := Tryz.isAgg4
  z4 := Tryz.sizeOf4
  v4 := Tryz.zeroValue4
  t5 := Tryz.underlying5
  a5 := Tryz.isAgg5
  z5 := Tryz.sizeOf5
  v5 := Tryz.zeroValue5
  t9 := Tryz.underlying9
  a9 := Tryz.isAgg9
  z9 := Tryz.sizeOf9
  v9 := Tryz.zeroValue9
  t20 := Tryz.underlying20
  a20 := Tryz.isAgg20
  z20 := Tryz.sizeOf20
  v20 := Tryz.zeroValue20
  t37 := Tryz.underlying86
  a37 := Tryz.isAgg86
  z37 := Tryz.sizeOf86
  v37 := Tryz.zeroValue86
  t46 := Tryz.underlying158
  a46 := Tryz.isAgg158
  z46 := Tryz.sizeOf158
  v46 := Tryz.zeroValue158
  t51 := Tryz.underlying210
  a51 := Tryz.isAgg210
  z51 := Tryz.sizeOf210
  v51 := Tryz.zeroValue210
  t53 := Tryz.underlying33
  a53 := Tryz.isAgg33
  z53 := Tryz.sizeOf33
  v53 := Tryz.zeroValue33
  t70 := Tryz.underlying85
  a70 := Tryz.isAgg85
  z70 := Tryz.sizeOf85
  v70 := Tryz.zeroValue85
  t72 := Tryz.underlying88
  a72 := Tryz.isAgg88
  z72 := Tryz.sizeOf88
  v72 := Tryz.zeroValue88
  t75 := Tryz.underlying151
  a75 := Tryz.isAgg151
  z75 := Tryz.sizeOf151
  v75 := Tryz.zeroValue151
  t76 := Tryz.underlying161
  a76 := Tryz.isAgg161
  z76 := Tryz.sizeOf161
  v76 := Tryz.zeroValue161
  t109 := Tryz.underlying159
  a109 := Tryz.isAgg159
  z109 := Tryz.sizeOf159
  v109 := Tryz.zeroValue159
  t127 := Tryz.underlying146
  a127 := Tryz.isAgg146
  z127 := Tryz.sizeOf146
  v127 := Tryz.zeroValue146
  t146 := Tryz.underlying211
  a146 := Tryz.isAgg211
  z146 := Tryz.sizeOf211
  v146 := Tryz.zeroValue211
  t148 := Tryz.underlying213
  a148 := Tryz.isAgg213
  z148 := Tryz.sizeOf213
  v148 := Tryz.zeroValue213
  t164 := Tryz.underlying255
  a164 := Tryz.isAgg255
  z164 := Tryz.sizeOf255
  v164 := Tryz.zeroValue255 }
theorem Tryz.Builder_Extra_105 : Builder.Extra Tryz.prog Tryz.lays105_ren := {
  sizeBuilder := by kernel_rfl
  liesBuilder := by kernel_rfl
  t5 := Tryz.underlying5
  a5 := Tryz.isAgg5
  z5 := Tryz.sizeOf5
  v5 := Tryz.zeroValue5
  infoByte := by kernel_rfl
  cellsByte := by kernel_rfl
  sizeByte := by kernel_rfl
  neB5 := by decide }
open Go.RowKit Go.Lib in
theorem Tryz.strings_Repeat (s : ByteArray) (c : Nat) (w : World) (hc : c ≤ 9223372036854775807) (hlen : s.size * c ≤ 140737488355328) :
    Calls Tryz.prog 52 #[.string s, .int .i64 c] w fun e w' => e = .returned (.string ⟨(Lib.repeatL s.data.toList c).toArray⟩) ∧ Below w.heap.size w w' := Any.strings_Repeat Tryz.lays105 Tryz.Builder_Extra_105 s c w hc hlen
end Go.Proofs

