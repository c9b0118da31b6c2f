/- Parts of the walk, joined. -/
import Derived.Test.YtogodijfdkffaaaGreatDoorJ0
import Derived.Orders
import Derived.Deep.AppendSrc
import Derived.Lib.ConvBytes
import Derived.Lib.AtoiErrMem
import Derived.Laws.AppendOwn
import Derived.Stop.IfaceNil
set_option linter.unusedVariables false
set_option linter.unusedSimpArgs false
set_option maxRecDepth 100000
/- A function's code under a walk: statements, branches, loops, calls. No program. -/
namespace Go.Ab
open Go Go.RowKit
variable {P : Program} {E : Env} {st : St} {G : Gh} {a : Act} {w : World} {Q : Exit → Act → World → Prop} {K : Act → World → Prop}
theorem lt {a b : Nat} (h : Nat.blt a b = true) : a < b := Nat.le_of_ble_eq_true h
theorem sqq {x y : Code} (h : Hits E st (x.wp P (Exit.then (y.wp P Q) Q))) : Hits E st ((Code.seq x y).wp P Q) := fun G a w s => wp_seq (h G a w s)
theorem skq (h : Hits E st (Q .normal)) : Hits E st (Code.skip.wp P Q) := fun G a w s => wp_skip (h G a w s)
theorem hits_label {l : Nat} (h : Hits E st (Q .normal)) : Hits E st ((Code.label l).wp P Q) := fun G a w s => wp_label (h G a w s)
theorem rtq (h : Hits E st (Q .ret)) : Hits E st (Code.ret.wp P Q) := fun G a w s => wp_ret (h G a w s)
theorem hits_exit {id : Nat} (h : Hits E st (Q (.exit id))) : Hits E st ((Code.exit id).wp P Q) := fun G a w s => wp_exit (h G a w s)
theorem hits_block {id : Nat} {c : Code} (h : Hits E st (c.wp P (Exit.inBlock id Q))) : Hits E st ((Code.block id c).wp P Q) := fun G a w s => wp_block (h G a w s)
theorem hits_cond {c : Operand} {x y : Code} {t : Bool} (hc : ev st c = some (.d (.sc (.bool t)))) (ht : t = true → Hits E st (x.wp P Q)) (hf : t = false → Hits E st (y.wp P Q)) : Hits E st ((Code.cond c x y).wp P Q) :=
  fun G a w s => wp_cond_split (s.sc hc) (fun e => ht e G a w s) (fun e => hf e G a w s)
theorem toq (h : Hits E st K) : Hits E st (Exit.then K Q .normal) := h
theorem to_exit {id : Nat} (h : Hits E st (Q (.exit id))) : Hits E st (Exit.then K Q (.exit id)) := h
theorem to_ret (h : Hits E st (Q .ret)) : Hits E st (Exit.then K Q .ret) := h
theorem inq {id : Nat} (h : Hits E st (Q .normal)) : Hits E st (Exit.inBlock id Q .normal) := h
theorem in_ret {id : Nat} (h : Hits E st (Q .ret)) : Hits E st (Exit.inBlock id Q .ret) := h
theorem in_hit {id id' : Nat} (he : Nat.beq id' id = true) (h : Hits E st (Q .normal)) : Hits E st (Exit.inBlock id Q (.exit id')) := fun G a w s => by
  show if id' = id then _ else _
  rw [if_pos (Nat.eq_of_beq_eq_true he)]; exact h G a w s
theorem in_miss {id id' : Nat} (he : Nat.beq id' id = false) (h : Hits E st (Q (.exit id'))) : Hits E st (Exit.inBlock id Q (.exit id')) := fun G a w s => by
  show if id' = id then _ else _
  rw [if_neg (fun c => by subst c; simp at he)]; exact h G a w s
theorem exists_least {p : Nat → Prop} (h : ∃ n, p n) : ∃ n, p n ∧ ∀ k, p k → n ≤ k := by
  obtain ⟨n, hn⟩ := h
  induction n using Nat.strongRecOn with
  | _ n ih =>
    by_cases hk : ∃ k, k < n ∧ p k
    · obtain ⟨k, h1, h2⟩ := hk
      exact ih k h1 h2
    · exact ⟨n, hn, fun k hpk => by
        rcases Nat.lt_or_ge k n with h1 | h1
        · exact absurd ⟨k, h1, hpk⟩ hk
        · exact h1⟩
noncomputable def least (p : Nat → Prop) (h : ∃ n, p n) : Nat := Classical.choose (exists_least h)
theorem least_spec {p : Nat → Prop} (h : ∃ n, p n) : p (least p h) := (Classical.choose_spec (exists_least h)).1
theorem least_le {p : Nat → Prop} (h : ∃ n, p n) {k : Nat} (hk : p k) : least p h ≤ k := (Classical.choose_spec (exists_least h)).2 k hk
theorem hits_loop {X : Type} (I : X → St) (J : X → Prop) (m : X → Nat) (x0 : X) {c : Code} (h0 : J x0) (hk : (I x0).kept st) (hb : (I x0).boxed = true)
    (round : ∀ x, J x → Hits E (I x) (c.wp P (Exit.then (fun a w => ∃ x', J x' ∧ m x' < m x ∧ ∃ G, Sim E (I x') G a w) Q))) : Hits E st ((Code.loop c).wp P Q) := by
  intro G a w s
  classical
  let R : Act → World → Nat → Prop := fun a w n => ∃ x, m x = n ∧ J x ∧ ∃ G, Sim E (I x) G a w
  refine wp_loop (fun a w => ∃ n, R a w n) (fun a w => if h : ∃ n, R a w n then least _ h else 0) ⟨_, x0, rfl, h0, G, s.keep hk hb⟩ ?_
  intro a w hI
  obtain ⟨x, hx, hj, G', hs⟩ := least_spec hI
  refine wp_mono (round x hj G' a w hs) ?_
  intro e a' w' hq
  cases e with
  | normal =>
    obtain ⟨x', hj', hlt, hs'⟩ := hq
    have hI' : ∃ n, R a' w' n := ⟨_, x', rfl, hj', hs'⟩
    refine ⟨hI', ?_⟩
    rw [dif_pos hI', dif_pos hI]
    have h1 : least _ hI' ≤ m x' := least_le hI' ⟨x', rfl, hj', hs'⟩
    omega
  | _ => exact hq
theorem round_end {X : Type} {I : X → St} {J : X → Prop} {m : X → Nat} {x : X} (x' : X) (hj : J x') (hlt : m x' < m x) (hk : (I x').kept st) (hb : (I x').boxed = true) :
    Hits E st (fun a w => ∃ x', J x' ∧ m x' < m x ∧ ∃ G, Sim E (I x') G a w) := fun G a w s => ⟨x', hj, hlt, G, s.keep hk hb⟩
theorem rgq {id : Nat} {l : List Oper} (h : Hits E st (wpList P l.toArray Q l)) : Hits E st ((Code.region id l.toArray false).wp P Q) := fun G a w s => wp_region_lit (h G a w s)
theorem nlq {ops : Array Oper} (h : Hits E st (Q .normal)) : Hits E st (wpList P ops Q []) := fun G a w s => wpList_nil (h G a w s)
def fresh (fr : List Nat) (st : St) : Bool := fr.all fun i => st.unused i
theorem sq {ops : Array Oper} {o : Oper} {l : List Oper} {L : List Loc} {fr : List Nat} {W : St} (hf : FOk P E o st L fr W) (hfr : fresh fr st = true) (hg : o.guard = none) (h : Hits E (W ++ st) (wpList P ops Q l)) :
    Hits E st (wpList P ops Q (o :: l)) := by
  have h1 := hf Q _ st (fun _ _ => rfl) (fun i hi => List.all_eq_true.1 hfr i hi) h
  intro G a w s
  unfold wpList
  rw [if_pos (by simp [Region.wanted, hg])]
  exact .inl (h1 G a w s)
theorem yielded_of {ops : Array Oper} {j t : Nat} {b : Bool} (s : Sim E st G a w) (hj : (ops[j]?).bind (·.dst) = some t) (hl : look st (.slot t) = some (.d (.sc (.bool b)))) (ht : t < E.N) : yielded ops a.tmps j = some b := by
  have e := rel_sc (s.slots t _ hl)
  unfold yielded
  rw [hj]
  simp only [Option.bind_some]
  have hs : t < a.tmps.size := by rw [s.tmps]; exact ht
  have e2 : a.tmps[t]? = some (.bool b) := by
    rw [Array.getElem?_eq_getElem hs]
    simpa [Array.getD, hs] using e
  rw [e2]
theorem sq_yes {ops : Array Oper} {o : Oper} {l : List Oper} {L : List Loc} {fr : List Nat} {W : St} {j t : Nat} {b : Bool} (hf : FOk P E o st L fr W) (hfr : fresh fr st = true) (hg : o.guard = some (j, b))
    (hj : (ops[j]?).bind (·.dst) = some t) (hl : look st (.slot t) = some (.d (.sc (.bool b)))) (ht : t < E.N) (h : Hits E (W ++ st) (wpList P ops Q l)) : Hits E st (wpList P ops Q (o :: l)) := by
  have h1 := hf Q _ st (fun _ _ => rfl) (fun i hi => List.all_eq_true.1 hfr i hi) h
  intro G a w s
  unfold wpList
  rw [if_pos (by simp [Region.wanted, hg, yielded_of s hj hl ht])]
  exact .inl (h1 G a w s)
def wantB (v : Value) (b : Bool) : Bool :=
  match v with
  | .bool c => c == b
  | _ => false
theorem not_wanted {ops : Array Oper} {j t : Nat} {b : Bool} {v : Value} (s : Sim E st G a w) (hj : (ops[j]?).bind (·.dst) = some t) (hl : look st (.slot t) = some (.d (.sc v))) (hb : wantB v b = false) (ht : t < E.N) : (yielded ops a.tmps j == some b) = false := by
  have e := rel_sc (s.slots t _ hl)
  unfold yielded
  rw [hj]
  simp only [Option.bind_some]
  have hs : t < a.tmps.size := by rw [s.tmps]; exact ht
  have e2 : a.tmps[t]? = some v := by
    rw [Array.getElem?_eq_getElem hs]
    simpa [Array.getD, hs] using e
  rw [e2]
  cases v <;> first | rfl | (simp only [wantB] at hb; simpa using hb)
theorem Sim.putU {d : Nat} (h : Sim E st G a w) (hd : d < E.N) : Sim E ((.slot d, some (.d (.sc undef))) :: st) G (a.put (some d) undef) w := h.put hd (.sc _)
theorem sq_no {ops : Array Oper} {o : Oper} {l : List Oper} {d j t : Nat} {b : Bool} {v : Value} (ho : o.dst = some d) (hg : o.guard = some (j, b))
    (hj : (ops[j]?).bind (·.dst) = some t) (hl : look st (.slot t) = some (.d (.sc v))) (hbc : wantB v b = false) (ht : t < E.N) (hd : d < E.N) (h : Hits E ((.slot d, some (.d (.sc undef))) :: st) (wpList P ops Q l)) : Hits E st (wpList P ops Q (o :: l)) := by
  intro G a w s
  unfold wpList
  rw [if_neg, ho]
  · exact h _ _ _ (s.putU hd)
  · simp only [Region.wanted, hg]
    rw [not_wanted s hj hl hbc ht]
    simp
def CallsP (P : Program) (Γ : World → Prop) (f : FuncId) (args : List D) (r : D) : Prop :=
  ∀ (S : Stab) (w : World) (us : List Value), Γ w → (∀ b o v, S b o = some v → w.cell? ⟨b, o, none⟩ = some v) → RelL S args us →
    Calls P f ⟨us⟩ w fun e w' => ∃ u S', e = .returned u ∧ Rel S' r u ∧ S.le S' ∧ Below w.heap.size w w' ∧ ∀ b o v, S' b o = some v → S b o = some v ∨ (w.heap.size ≤ b ∧ w'.cell? ⟨b, o, none⟩ = some v)
def enters (P : Program) (f : FuncId) : Bool :=
  match P.funcs[f]? with
  | some fn => fn.name != "runtime.NumGoroutine" && fn.body.isSome
  | none => false
theorem run_callFunc {f : FuncId} {args : Array Value} (h : enters P f = true) : (callFunc f args).run P w = .ok (.enter f args) w := by
  unfold enters at h
  cases hf : P.funcs[f]? with
  | none => rw [hf] at h; cases h
  | some fn =>
    rw [hf] at h
    simp only [Bool.and_eq_true, bne_iff_ne, ne_eq] at h
    obtain ⟨h1, h2⟩ := h
    obtain ⟨b, hb⟩ := Option.isSome_iff_exists.mp h2
    simp [callFunc, hf, h1, hb]
variable {d : Nat} {ty : TypeId} {pos : String} {af : Array Edge} {g : Option (Nat × Bool)} {x y z : Operand}
theorem f_call {f : FuncId} {xs : List Operand} {ats : Array TypeId} {ds : List D} {r : D} (hen : enters P f = true) (ha : evs st xs = some ds) (hc : CallsP P E.Γ f ds r) (hd : d < E.N) :
    FOk P E ⟨some d, .call ⟨.value (.func f), xs.toArray, ats⟩, ty, pos, af, g⟩ st (evsL xs) [] [(.slot d, some (.d r))] := by
  intro Q K st' hL _ hK G a w hs
  have h1 := hs.evs ((evs_same hL (fun l h => h)).trans ha)
  show Oper.upon P _ a K Q ((execOp a.eval _).run P w)
  have hrun : (execOp a.eval (⟨some d, .call ⟨.value (.func f), xs.toArray, ats⟩, ty, pos, af, g⟩ : Oper)).run P w = .ok (.enter f ⟨xs.map a.eval⟩) w := by
    simp [execOp, resolve, Act.eval, Deferred.ofValue, invoke, run_callFunc hen]
  rw [hrun]
  have h2 := hc G.S w (xs.map a.eval) (E.stab w hs.kw) hs.stable h1
  refine h2.mono ?_
  rintro e w' ⟨u, S', rfl, hr, hS, hb, hn⟩
  exact hK _ _ _ ((hs.later hb hS hn).put hd hr)
theorem f_callV {f : FuncId} {xs : List Operand} {ats : Array TypeId} {ds : List D} {r : D} (hx : ev st x = some (.d (.sc (.func (.func f) #[] #[])))) (hen : enters P f = true) (ha : evs st xs = some ds) (hc : CallsP P E.Γ f ds r) (hd : d < E.N) :
    FOk P E ⟨some d, .call ⟨.value x, xs.toArray, ats⟩, ty, pos, af, g⟩ st (evL x ++ evsL xs) [] [(.slot d, some (.d r))] := by
  intro Q K st' hL _ hK G a w hs
  have e1 := hs.sc ((ev_same hL fun l h => mem_l h).trans hx)
  have h1 := hs.evs ((evs_same hL (fun l h => mem_r h)).trans ha)
  show Oper.upon P _ a K Q ((execOp a.eval _).run P w)
  have hrun : (execOp a.eval (⟨some d, .call ⟨.value x, xs.toArray, ats⟩, ty, pos, af, g⟩ : Oper)).run P w = .ok (.enter f ⟨xs.map a.eval⟩) w := by
    simp [execOp, resolve, e1, Deferred.ofValue, invoke, run_callFunc hen]
  rw [hrun]
  have h2 := hc G.S w (xs.map a.eval) (E.stab w hs.kw) hs.stable h1
  refine h2.mono ?_
  rintro e w' ⟨u, S', rfl, hr, hS, hb, hn⟩
  exact hK _ _ _ ((hs.later hb hS hn).put hd hr)
def argRows : Nat → List D → St
  | _, [] => []
  | k, x :: l => (.slot k, some (.d x)) :: argRows (k + 1) l
theorem look_argRows (ds : List D) : ∀ k t, look (argRows k ds) (.slot t) = if k ≤ t then (ds[t - k]?).map V.d else none := by
  induction ds with
  | nil => intro k t; simp [argRows, look]
  | cons x l ih =>
    intro k t
    rw [argRows, look_cons, ih]
    by_cases h : k = t
    · subst h; simp
    · rw [if_neg (by simpa using h)]
      by_cases h2 : k ≤ t
      · rw [if_pos (by omega), if_pos h2, show t - k = (t - (k + 1)) + 1 from by omega, List.getElem?_cons_succ]
      · rw [if_neg (by omega), if_neg h2]
theorem look_argRows_ne (ds : List D) : ∀ k l, (∀ t, l ≠ .slot t) → look (argRows k ds) l = none := by
  induction ds with
  | nil => intro k l _; rfl
  | cons x r ih => intro k l h; rw [argRows, look_ne _ _ (fun c => h k c.symm), ih _ _ h]
def GS (Γ : World → Prop) : Prop := ∀ w w', Γ w → Below w.heap.size w w' → Γ w'
theorem KW.toBelow {w0 w : World} (h : KW w0 [] w) : Below w0.heap.size w0 w := ⟨h.os, h.tape, h.output, h.size, fun k hk => h.frame k hk (by simp)⟩
def PostP (E : Env) (r : D) (e : Ending) (w' : World) : Prop :=
  ∃ u S', e = .returned u ∧ Rel S' r u ∧ E.S0.le S' ∧ Below E.w0.heap.size E.w0 w' ∧ ∀ b o v, S' b o = some v → E.S0 b o = some v ∨ (E.w0.heap.size ≤ b ∧ w'.cell? ⟨b, o, none⟩ = some v)
theorem relL_getElem {S : Stab} : ∀ {l : List D} {us : List Value} {k : Nat} {v : D}, RelL S l us → l[k]? = some v → ∃ u, us[k]? = some u ∧ Rel S v u
  | _ :: _, _ :: _, 0, v, .cons h1 h2, hk => by simp at hk; subst hk; exact ⟨_, rfl, h1⟩
  | _ :: _, _ :: _, k + 1, v, .cons h1 h2, hk => by simpa using relL_getElem h2 (by simpa using hk)
theorem callsP_of {Γ : World → Prop} {f : FuncId} {fn : Func} {c : Code} {args : List D} {r : D} {n : Nat} (hΓ : GS Γ) (hf : P.funcs[f]? = some fn) (hb : fn.body = some c) (hn : fn.ntmps = n) (hl : Nat.ble args.length n = true)
    (h : ∀ (w0 : World) (S0 : Stab) (stab : ∀ w, KW w0 [] w → Γ w), Hits ⟨w0, [], [], S0, n, Γ, stab, #[]⟩ (argRows 0 args) (c.wp P (bodyPost P fn (PostP ⟨w0, [], [], S0, n, Γ, stab, #[]⟩ r)))) : CallsP P Γ f args r := by
  intro S w us hg hS hr
  let E : Env := ⟨w, [], [], S, n, Γ, fun w' k => hΓ w w' hg k.toBelow, #[]⟩
  have hlen := relL_length hr
  have hle : args.length ≤ n := Nat.le_of_ble_eq_true hl
  have h1 := h w S (fun w' k => hΓ w w' hg k.toBelow)
  have hs : Sim E (argRows 0 args) ⟨S, fun _ => 0, fun _ => 0, fun _ => false, fun _ => 0, fun _ => 0⟩ { tmps := (⟨us⟩ : Array Value) ++ Array.replicate (fn.ntmps - (⟨us⟩ : Array Value).size) undef, defers := [] } w := by
    have nb : ∀ i, look (argRows 0 args) (.box i) = none := fun i => look_argRows_ne args 0 _ (by simp)
    have nt : ∀ i, look (argRows 0 args) (.tip i) = none := fun i => look_argRows_ne args 0 _ (by simp)
    refine ⟨⟨rfl, rfl, rfl, Nat.le_refl _, fun _ _ _ => rfl⟩, Stab.le.refl _, fun _ _ _ e => .inl e, ?_, rfl, fun t v hv => ?_, fun i o v hv => ?_, fun i hi => absurd (nb i) hi, fun i j hi => absurd (nb i) hi, hS, fun i hi => absurd (nt i) hi, fun i j hi => absurd (nt i) hi, fun p hp => (List.not_mem_nil hp).elim, fun i qv l hl _ _ => (by rw [nt i] at hl; cases hl), fun i v hl => (by rw [look_argRows_ne args 0 _ (by simp)] at hl; cases hl), fun k v hl => (by rw [look_argRows_ne args 0 _ (by simp)] at hl; cases hl)⟩
    · show _ = n
      simp [hn]; omega
    · rw [look_argRows, if_pos (Nat.zero_le _), Nat.sub_zero] at hv
      simp only [Option.map_eq_some_iff] at hv
      obtain ⟨x, hx, rfl⟩ := hv
      obtain ⟨u, hu, hrel⟩ := relL_getElem hr hx
      show Rel S x _
      have e : ((⟨us⟩ : Array Value) ++ Array.replicate (fn.ntmps - (⟨us⟩ : Array Value).size) undef).getD t undef = u := by
        have ht : t < us.length := (List.getElem?_eq_some_iff.1 hu).1
        rw [Array.getD_eq_getD_getElem?, Array.getElem?_append_left (by simpa using ht)]
        simp [hu]
      rw [e]; exact hrel
    · rw [look_argRows_ne args 0 _ (by simp)] at hv; cases hv
  refine (calls_of_wp hf hb (h1 _ _ _ hs)).mono ?_
  rintro e w' ⟨u, S', h2, h3, h4, h5, h6⟩
  exact ⟨u, S', h2, h3, h4, h5, h6⟩
def resD (P : Program) (st : St) : ResultVar → Option D
  | .tmp t => match look st (.slot t) with
    | some (.d x) => some x
    | some (.own _ es l) => some (.list es l)
    | _ => none
  | .cell t ty => match look st (.slot t), kd P ty with
    | some p, some k => match ldV st k p with
      | some (.d x) => some x
      | _ => none
    | _, _ => none
def resDs (P : Program) (st : St) : List ResultVar → Option (List D)
  | [] => some []
  | r :: l => match resD P st r, resDs P st l with
    | some x, some q => some (x :: q)
    | _, _ => none
def packD : List D → D
  | [x] => x
  | l => .tup l
def resS (tmps : Array Value) : ResultVar → Sem Value
  | .tmp t => pure (tmps.getD t undef)
  | .cell a t => do loadVar t (← asAddr (tmps.getD a undef))
theorem results_eq (fn : Func) (tmps : Array Value) : results fn tmps = (do let vs ← fn.results.mapM (resS tmps); pure (if h : vs.size = 1 then vs[0] else .tuple vs)) := by
  unfold results
  congr 1
theorem Sim.load (hs : Sim E st G a w) {t : TypeId} {k : Bool × Nat} {p v : V} {u : Value} (hk : kd P t = some k) (hp : RelV G p u) (hv : ldV st k p = some v) :
    ∃ ad c, u = .pointer (some ad) ∧ (loadVar t ad).run P w = .ok c w ∧ RelV G v c := by
  obtain ⟨b, n⟩ := k
  cases p with
  | ptr id off =>
    have e2 : u = .pointer (some ⟨G.μ id, off, none⟩) := hp
    cases b with
    | false =>
      obtain ⟨_, cs, ty', cv, h4, h5, h6⟩ := hs.cells id off v hv
      exact ⟨_, cv, e2, run_loadVar1 hk ((cell_of_block h4).trans h5), h6⟩
    | true =>
      simp only [ldV, Option.map_eq_some_iff] at hv
      obtain ⟨l, hl, rfl⟩ := hv
      obtain ⟨us, h1, h2, h3⟩ := hs.cellsD hl
      exact ⟨_, .agg us.toArray, e2, run_loadVarN hk h1 h3, .agg h2⟩
  | d q =>
    cases q with
    | eptr l =>
      cases hp with
      | eptr hp =>
      rename_i b' o
      obtain ⟨us, h1, h2, h3⟩ := relP_vals hp
      have h3' : ∀ j u, us[j]? = some u → w.cell? ⟨b', o + j, none⟩ = some u := fun j u hu => hs.stable _ _ _ (h3 j u hu)
      cases b with
      | false =>
        cases l with
        | nil => simp [ldV] at hv
        | cons q l =>
          simp only [ldV, Option.some.injEq] at hv
          subst hv
          cases h2 with
          | cons h4 h5 =>
            rename_i u us'
            exact ⟨_, u, rfl, run_loadVar1 hk (show w.cell? ⟨b', o, none⟩ = some u from h3' 0 u (by simp)), h4⟩
      | true =>
        simp only [ldV] at hv
        split at hv
        · rename_i hle
          have hle' : n ≤ l.length := Nat.le_of_ble_eq_true hle
          obtain rfl := Option.some.inj hv
          have h6 := run_loadVarN (P := P) (w := w) (us := us.take n) hk (by simp; omega) (b := b') (o := o) (fun j u hu => h3' j u (by rw [List.getElem?_take] at hu; split at hu; exact hu; cases hu))
          exact ⟨_, _, rfl, h6, .agg (relL_take n h2)⟩
        · cases hv
    | _ => simp [ldV] at hv
  | _ => simp [ldV] at hv
theorem Sim.resD (hs : Sim E st G a w) {r : ResultVar} {x : D} (h : Ab.resD P st r = some x) : ∃ u, (resS a.tmps r).run P w = .ok u w ∧ Rel G.S x u := by
  cases r with
  | tmp t =>
    simp only [Ab.resD] at h
    split at h
    · rename_i q hq; obtain rfl := Option.some.inj h; exact ⟨_, rfl, hs.slots t _ hq⟩
    · rename_i id es l hq; obtain rfl := Option.some.inj h; exact ⟨_, rfl, relV_own (hs.slots t _ hq)⟩
    · cases h
  | cell t ty =>
    simp only [Ab.resD] at h
    split at h
    · rename_i p k hp hk
      split at h
      · rename_i x' hv
        obtain rfl := Option.some.inj h
        obtain ⟨ad, c, e1, e2, e3⟩ := hs.load hk (hs.slots t p hp) hv
        exact ⟨c, by simp only [resS, e1, asAddr, Sem.run_bind, Sem.run_pure, Result.andThen_ok, e2], e3⟩
      · cases h
    · cases h
theorem Sim.resDs (hs : Sim E st G a w) : ∀ {l : List ResultVar} {ds : List D}, Ab.resDs P st l = some ds → ∃ us, (l.mapM (resS a.tmps)).run P w = .ok us w ∧ RelL G.S ds us
  | [], ds, h => by obtain rfl := Option.some.inj h; exact ⟨[], rfl, .nil⟩
  | r :: l, ds, h => by
    unfold Ab.resDs at h
    split at h
    · rename_i x q hx hq
      obtain rfl := Option.some.inj h
      obtain ⟨u, h1, h2⟩ := hs.resD hx
      obtain ⟨us, h3, h4⟩ := Sim.resDs hs hq
      exact ⟨u :: us, by simp [List.mapM_cons, h1, h3], .cons h2 h4⟩
    · cases h
theorem hits_done {fn : Func} {ds : List D} {r : D} {e : Exit} (he : e = .ret ∨ e = .normal) (ho : E.outs = []) (hr : resDs P st fn.results.toList = some ds) (hp : packD ds = r) : Hits E st (bodyPost P fn (PostP E r) e) := by
  intro G a w s
  obtain ⟨us, h1, h2⟩ := s.resDs hr
  have hb : Below E.w0.heap.size E.w0 w := by have := s.kw; rw [ho] at this; exact this.toBelow
  have hn : ∀ b o v, G.S b o = some v → E.S0 b o = some v ∨ (E.w0.heap.size ≤ b ∧ w.cell? ⟨b, o, none⟩ = some v) := fun b o v hv => (s.snew b o v hv).imp id fun q => ⟨q.elim id (fun q => by rw [ho] at q; cases q), s.stable b o v hv⟩
  have key : ∃ u, (results fn a.tmps).run P w = .ok u w ∧ Rel G.S r u := by
    rw [results_eq, Array.mapM_eq_mapM_toList]
    simp only [Sem.run_bind, Sem.run_map, h1, Result.andThen_ok, Sem.run_pure]
    subst hp
    cases h2 with
    | nil => exact ⟨_, rfl, .tup .nil⟩
    | cons h3 h4 =>
      cases h4 with
      | nil => exact ⟨_, rfl, h3⟩
      | cons h5 h6 => exact ⟨_, by simp, .tup (.cons h3 (.cons h5 h6))⟩
  obtain ⟨u, hu, hrel⟩ := key
  rcases he with rfl | rfl
  · exact ⟨s.defers, u, hu, u, G.S, rfl, hrel, s.s0, hb, hn⟩
  · exact ⟨s.defers, u, hu, u, G.S, rfl, hrel, s.s0, hb, hn⟩
/-! ### Short forms -/
section
variable {ops : Array Oper} {l : List Oper}
theorem mvq {v : V} (hx : ev st x = some v) (hd : Nat.blt d E.N = true) (h : Hits E ((.slot d, some v) :: st) (wpList P ops Q l)) : Hits E st (wpList P ops Q (⟨some d, .move x, ty, pos, af, none⟩ :: l)) := sq (f_move hx (lt hd)) rfl rfl h
theorem asq {v : V} (hx : ev st x = some v) (hd : Nat.blt d E.N = true) (h : Hits E ((.slot d, some v) :: st) (wpList P ops Q l)) : Hits E st (wpList P ops Q (⟨some d, .assign x, ty, pos, af, none⟩ :: l)) := sq (f_assign hx (lt hd)) rfl rfl h
theorem exq {k : Nat} {q : List D} {v : D} (hx : ev st x = some (.d (.tup q))) (hk : q[k]? = some v) (hd : Nat.blt d E.N = true) (h : Hits E ((.slot d, some (.d v)) :: st) (wpList P ops Q l)) : Hits E st (wpList P ops Q (⟨some d, .extract x k, ty, pos, af, none⟩ :: l)) := sq (f_extract hx hk (lt hd)) rfl rfl h
theorem ldq {t : TypeId} {k : Bool × Nat} {p v : V} (hk : kd P t = some k) (hx : ev st x = some p) (hv : ldV st k p = some v) (hd : Nat.blt d E.N = true) (h : Hits E ((.slot d, some v) :: st) (wpList P ops Q l)) : Hits E st (wpList P ops Q (⟨some d, .load t x, ty, pos, af, none⟩ :: l)) := sq (f_load hk hx hv (lt hd)) rfl rfl h
theorem faq {s : TypeId} {k off : Nat} {p v : V} (hx : ev st x = some p) (hk : kf P s k = some off) (hv : faV off p = some v) (hd : Nat.blt d E.N = true) (h : Hits E ((.slot d, some v) :: st) (wpList P ops Q l)) : Hits E st (wpList P ops Q (⟨some d, .fieldAddr s x k, ty, pos, af, none⟩ :: l)) := sq (f_fieldAddr hx hk hv (lt hd)) rfl rfl h
theorem soq {t : TypeId} {k : Bool × Nat} {p v : V} {vs : List V} {W : St} (hk : kd P t = some k) (hx : ev st x = some p) (hy : ev st y = some v) (hc : vcells v = some vs) (h1 : vs.all V.one = true) (hv : stW st k p v = some W) (h : Hits E (W ++ st) (wpList P ops Q l)) : Hits E st (wpList P ops Q (⟨none, .store t x y, ty, pos, af, none⟩ :: l)) := sq (f_store hk hx hy hc h1 hv) rfl rfl h
theorem pkq {c : Bool} {v : V} (hz : ev st z = some (.d (.sc (.bool c)))) (hx : pickV st x y c = some v) (hd : Nat.blt d E.N = true) (h : Hits E ((.slot d, some v) :: st) (wpList P ops Q l)) : Hits E st (wpList P ops Q (⟨some d, .pick z x y, ty, pos, af, none⟩ :: l)) := sq (f_pick hz hx (lt hd)) rfl rfl h
theorem noq {o : Oper} {j t : Nat} {b : Bool} {v : Value} (ho : o.dst = some d) (hg : o.guard = some (j, b)) (hj : (ops[j]?).bind (·.dst) = some t) (hl : look st (.slot t) = some (.d (.sc v))) (hbc : wantB v b = false) (ht : Nat.blt t E.N = true) (hd : Nat.blt d E.N = true) (h : Hits E ((.slot d, some (.d (.sc undef))) :: st) (wpList P ops Q l)) : Hits E st (wpList P ops Q (o :: l)) := sq_no ho hg hj hl hbc (lt ht) (lt hd) h
theorem cnT {c : Operand} {c1 c2 : Code} (hc : ev st c = some (.d (.sc (.bool true)))) (h : Hits E st (c1.wp P Q)) : Hits E st ((Code.cond c c1 c2).wp P Q) := hits_cond hc (fun _ => h) (fun e => absurd e Bool.false_ne_true.symm)
theorem cnF {c : Operand} {c1 c2 : Code} (hc : ev st c = some (.d (.sc (.bool false)))) (h : Hits E st (c2.wp P Q)) : Hits E st ((Code.cond c c1 c2).wp P Q) := hits_cond hc (fun e => absurd e Bool.false_ne_true) (fun _ => h)
theorem nxq (h : Hits E st K) : Hits E st (wpList P ops (Exit.then K Q) []) := nlq (toq h)
end

end Go.Ab

/- Regions that draw their order: one walk in the order of the text serves every order, if operations that touch one place are ordered. No program. -/
namespace Go.Ab
open Go Go.RowKit
variable {P : Program} {E : Env} {st st' : St} {G : Gh} {a : Act} {w : World} {Q : Exit → Act → World → Prop} {K : Act → World → Prop} {ops : Array Oper}
structure Cert where
  L : List Loc
  fr : List Nat
  W : St
def tops (tq : Option (Nat × Nat)) (st : St) : Bool := match tq with
  | none => true
  | some (id, n) => st.all fun e => match e.1 with
    | .cell i o => !(i == id) || Nat.blt o n
    | _ => true
theorem tops_app {tq : Option (Nat × Nat)} {W st : St} (h1 : tops tq W = true) (h2 : tops tq st = true) : tops tq (W ++ st) = true := by
  cases tq with
  | none => rfl
  | some p => obtain ⟨i, n⟩ := p; simp only [tops] at h1 h2 ⊢; rw [List.all_append, h1, h2]; rfl
variable {tq : Option (Nat × Nat)}
def GOk (P : Program) (E : Env) (Q : Exit → Act → World → Prop) (tq : Option (Nat × Nat)) (ops : Array Oper) (o : Oper) (st0 : St) (c : Cert) : Prop :=
  ∀ (K : Act → World → Prop) (st : St), (∀ l ∈ c.L, look st l = look st0 l) → (∀ i ∈ c.fr, st.unused i = true) → tops tq st = true → Hits E (c.W ++ st) K →
    Hits E st fun a w => if Region.wanted o (yielded ops a.tmps) then o.wp P a w K Q ∨ (o.asks P a w ∧ LetsOut Q) else K (a.put o.dst undef) w
theorem g_plain {o : Oper} {L : List Loc} {fr : List Nat} {W : St} (hf : FOk P E o st L fr W) (hg : o.guard = none) : GOk P E Q tq ops o st ⟨L, fr, W⟩ := by
  intro K st' hL hfr _ hK G a w s
  rw [if_pos (by simp [Region.wanted, hg])]
  exact .inl (hf Q K st' hL hfr hK G a w s)
theorem g_yes {o : Oper} {L : List Loc} {fr : List Nat} {W : St} {j t : Nat} {b : Bool} (hf : FOk P E o st L fr W) (hg : o.guard = some (j, b))
    (hj : (ops[j]?).bind (·.dst) = some t) (hl : look st (.slot t) = some (.d (.sc (.bool b)))) (ht : t < E.N) : GOk P E Q tq ops o st ⟨.slot t :: L, fr, W⟩ := by
  intro K st' hL hfr _ hK G a w s
  rw [if_pos (by simp [Region.wanted, hg, yielded_of s hj ((hL _ (by simp)).trans hl) ht])]
  exact .inl (hf Q K st' (fun l h => hL l (by simp [h])) hfr hK G a w s)
theorem g_no {o : Oper} {d j t : Nat} {b : Bool} {v : Value} (ho : o.dst = some d) (hg : o.guard = some (j, b)) (hj : (ops[j]?).bind (·.dst) = some t) (hl : look st (.slot t) = some (.d (.sc v))) (hbc : wantB v b = false) (ht : t < E.N) (hd : d < E.N) :
    GOk P E Q tq ops o st ⟨[.slot t], [], [(.slot d, some (.d (.sc undef)))]⟩ := by
  intro K st' hL hfr _ hK G a w s
  rw [if_neg, ho]
  · exact hK _ _ _ (s.putU hd)
  · simp only [Region.wanted, hg]
    rw [not_wanted s hj ((hL _ (by simp)).trans hl) hbc ht]
    simp
inductive Chain (P : Program) (E : Env) (Q : Exit → Act → World → Prop) (tq : Option (Nat × Nat)) (ops : Array Oper) : List Oper → St → List Cert → St → Prop
  | nil {st : St} : Chain P E Q tq ops [] st [] st
  | cons {o : Oper} {l : List Oper} {st st' : St} {c : Cert} {cs : List Cert} : GOk P E Q tq ops o st c → fresh c.fr st = true → Chain P E Q tq ops l (c.W ++ st) cs st' → Chain P E Q tq ops (o :: l) st (c :: cs) st'
def dom (W : St) (l : Loc) : Bool := W.any fun e => e.1.eqb l
theorem look_app (W st : St) (l : Loc) : look (W ++ st) l = if dom W l = true then look W l else look st l := by
  induction W with
  | nil => simp [dom]
  | cons e r ih =>
    rw [List.cons_append, look_cons, look_cons, ih]
    unfold dom
    simp only [List.any_cons, Bool.or_eq_true, Loc.eqb_iff]
    by_cases h : e.1 = l
    · simp [h]
    · by_cases h2 : (r.any fun e => e.1.eqb l) = true
      · simp [h, h2]
      · simp [h, h2]
def mk : List Cert → List Bool → St → St
  | c :: cs, b :: bs, st => mk cs bs (if b then c.W ++ st else st)
  | _, _, st => st
theorem mk_base (cs : List Cert) : ∀ (bs : List Bool) (st st' : St) (l : Loc), look st l = look st' l → look (mk cs bs st) l = look (mk cs bs st') l := by
  induction cs with
  | nil => intro bs st st' l h; exact h
  | cons c cs ih =>
    intro bs st st' l h
    cases bs with
    | nil => exact h
    | cons b bs =>
      simp only [mk]
      apply ih
      cases b
      · simpa using h
      · simp only [if_true, look_app]; split <;> simp [h]
theorem mk_agree (cs : List Cert) : ∀ (bs bs' : List Bool) (st : St) (l : Loc), bs.length = cs.length → bs'.length = cs.length →
    (∀ (j : Nat) c, cs[j]? = some c → dom c.W l = true → bs[j]? = bs'[j]?) → look (mk cs bs st) l = look (mk cs bs' st) l := by
  induction cs with
  | nil => intro bs bs' st l _ _ _; rfl
  | cons c cs ih =>
    intro bs bs' st l h1 h2 h
    obtain ⟨b, bs, rfl⟩ : ∃ b r, bs = b :: r := by cases bs with | nil => simp at h1 | cons b r => exact ⟨b, r, rfl⟩
    obtain ⟨b', bs', rfl⟩ : ∃ b r, bs' = b :: r := by cases bs' with | nil => simp at h2 | cons b r => exact ⟨b, r, rfl⟩
    simp only [mk]
    rw [ih bs bs' _ l (by simpa using h1) (by simpa using h2) (fun j c' hj hd => by simpa using h (j + 1) c' (by simpa using hj) hd)]
    apply mk_base
    by_cases hd : dom c.W l = true
    · have := h 0 c (by simp) hd
      simp at this
      rw [this]
    · have e : ∀ x : Bool, look (if x then c.W ++ st else st) l = look st l := fun x => by cases x <;> simp [look_app, hd]
      rw [e, e]
theorem mk_last (cs : List Cert) : ∀ (bs : List Bool) (st : St) (l : Loc) (i : Nat) (c : Cert), bs.length = cs.length → cs[i]? = some c → bs[i]? = some true → dom c.W l = true →
    (∀ (j : Nat) c', i < j → cs[j]? = some c' → dom c'.W l = true → bs[j]? = some false) → look (mk cs bs st) l = look c.W l := by
  induction cs with
  | nil => intro bs st l i c _ h; simp at h
  | cons c0 cs ih =>
    intro bs st l i c h1 hc hb hd h
    obtain ⟨b, bs, rfl⟩ : ∃ b r, bs = b :: r := by cases bs with | nil => simp at h1 | cons b r => exact ⟨b, r, rfl⟩
    simp only [mk]
    cases i with
    | zero =>
      simp at hc hb
      subst hc hb
      simp only [if_true]
      have none' : look (mk cs bs (c0.W ++ st)) l = look (mk cs (bs.map fun _ => false) (c0.W ++ st)) l := by
        refine mk_agree cs _ _ _ l (by simpa using h1) (by simpa using h1) fun j c' hj hd' => ?_
        have := h (j + 1) c' (by omega) (by simpa using hj) hd'
        simp only [List.getElem?_cons_succ] at this
        rw [this]
        have hlt : j < bs.length := (List.getElem?_eq_some_iff.1 this).1
        simp [hlt]
      rw [none']
      have all : ∀ (cs : List Cert) (bs : List Bool) (st : St), mk cs (bs.map fun _ => false) st = st := by
        intro cs
        induction cs with
        | nil => intro bs st; cases bs <;> rfl
        | cons c cs ih2 => intro bs st; cases bs with
          | nil => rfl
          | cons b bs => simp only [List.map_cons, mk, Bool.false_eq_true, if_false]; exact ih2 bs st
      rw [all, look_app, if_pos hd]
    | succ i =>
      exact ih bs _ l i c (by simpa using h1) (by simpa using hc) (by simpa using hb) hd fun j c' hij hj hd' => by simpa using h (j + 1) c' (by omega) (by simpa using hj) hd'
def waitsFor (o : Oper) (i : Nat) : Bool := o.after.toList.any fun e => Region.binds .any e && e.on == i
def has (L : List Loc) (l : Loc) : Bool := L.any fun k => k.eqb l
theorem has_spec {L : List Loc} {l : Loc} (h : has L l = false) : l ∉ L := fun c => by
  have : has L l = true := List.any_eq_true.2 ⟨l, c, (Loc.eqb_iff _ _).2 rfl⟩
  rw [h] at this; cases this
def Cert.aside (x y : Cert) : Bool :=
  x.W.all (fun e => !(has y.L e.1) && !dom y.W e.1) && y.W.all (fun e => !(has x.L e.1)) && x.fr.all (fun i => y.W.unused i)
def pairsOk : List Oper → List Cert → Nat → Bool
  | o :: l, c :: cs, i => ((l.zip cs).all fun p => waitsFor p.1 i || c.aside p.2) && o.after.toList.all (fun e => !Region.binds .any e || Nat.blt e.on i) && pairsOk l cs (i + 1)
  | [], [], _ => true
  | _, _, _ => false
theorem pairsOk_spec : ∀ {l : List Oper} {cs : List Cert} {k : Nat}, pairsOk l cs k = true → l.length = cs.length ∧
    (∀ i j oj ci cj, i < j → l[j]? = some oj → cs[i]? = some ci → cs[j]? = some cj → waitsFor oj (k + i) = true ∨ ci.aside cj = true) ∧
    ∀ (i : Nat) o, l[i]? = some o → ∀ e ∈ o.after, Region.binds .any e = true → e.on < k + i
  | [], [], _, _ => ⟨rfl, by simp, by simp⟩
  | o :: l, c :: cs, k, h => by
    simp only [pairsOk, Bool.and_eq_true] at h
    obtain ⟨⟨h1, h2⟩, h3⟩ := h
    obtain ⟨h4, h5, h6⟩ := pairsOk_spec h3
    refine ⟨by simp [h4], fun i j oj ci cj hij hj hi hcj => ?_, fun i o' hi e he hb => ?_⟩
    · cases i with
      | zero =>
        simp at hi; subst hi
        obtain ⟨j, rfl⟩ : ∃ m, j = m + 1 := ⟨j - 1, by omega⟩
        have hm : (oj, cj) ∈ l.zip cs := List.mem_of_getElem? (i := j) (by rw [List.getElem?_zip_eq_some]; exact ⟨by simpa using hj, by simpa using hcj⟩)
        have := List.all_eq_true.1 h1 _ hm
        simpa using this
      | succ i =>
        obtain ⟨j, rfl⟩ : ∃ m, j = m + 1 := ⟨j - 1, by omega⟩
        have := h5 i j oj ci cj (by omega) (by simpa using hj) (by simpa using hi) (by simpa using hcj)
        rwa [show k + 1 + i = k + (i + 1) from by omega] at this
    · cases i with
      | zero =>
        simp at hi; subst hi
        have h := List.all_eq_true.1 h2 e (Array.mem_toList_iff.2 he)
        simp only [hb, Bool.not_true, Bool.false_or] at h
        have h7 : e.on + 1 ≤ k := Nat.le_of_ble_eq_true h
        omega
      | succ i =>
        have := h6 i o' (by simpa using hi) e he hb
        omega
  | [], _ :: _, _, h => by simp [pairsOk] at h
  | _ :: _, [], _, h => by simp [pairsOk] at h
theorem Sim.same (h : Sim E st G a w) (hl : ∀ l, look st' l = look st l) : Sim E st' G a w :=
  ⟨h.kw, h.s0, h.snew, h.tmps, h.defers, fun t v hv => h.slots t v (by rw [← hl]; exact hv), fun i o v hv => by rw [hl] at hv ⊢; exact h.cells i o v hv, fun i hi => h.boxes i (by rw [← hl]; exact hi),
    fun i j hi hj => h.inj i j (by rw [← hl]; exact hi) (by rw [← hl]; exact hj), h.stable, fun i hi ht => by
      rw [hl] at hi
      obtain ⟨h1, h2, h3, h4⟩ := h.tips i hi ht
      exact ⟨h1, h2, h3, fun j hj => h4 j (by rw [← hl]; exact hj)⟩, fun i j hi hj => h.tinj i j (by rw [← hl]; exact hi) (by rw [← hl]; exact hj), fun p hp => ⟨(h.rcv p hp).1, fun hi => (h.rcv p hp).2 (by rw [← hl]; exact hi)⟩, fun i qv l hv hcl ht => h.conts i qv l (by rw [← hl]; exact hv) hcl ht, fun i v hv => by rw [hl] at hv ⊢; exact h.iters i v hv, fun k v hv => h.olds k v (by rw [← hl]; exact hv)⟩
theorem Hits.same (hl : ∀ l, look st' l = look st l) (h : Hits E st' K) : Hits E st K := fun G a w s => h G a w (s.same hl)
def Bools (n k : Nat) : List Bool := (List.range n).map fun j => decide (j < k)
theorem bools_get {n k j : Nat} (h : j < n) : (Bools n k)[j]? = some (decide (j < k)) := by simp [Bools, h]
theorem bools_len (n k : Nat) : (Bools n k).length = n := by simp [Bools]
theorem chain_at : ∀ {l : List Oper} {st : St} {cs : List Cert} {st' : St}, Chain P E Q tq ops l st cs st' → ∀ (i : Nat) o c, l[i]? = some o → cs[i]? = some c →
    ∃ s0, GOk P E Q tq ops o s0 c ∧ fresh c.fr s0 = true ∧ s0 = mk (cs.take i) (List.replicate i true) st
  | _, _, _, _, .nil, i, o, c, hi, _ => by simp at hi
  | _, _, _, _, .cons hg hf hr, i, o, c, hi, hc => by
    cases i with
    | zero =>
      simp at hi hc; subst hi hc
      exact ⟨_, hg, hf, rfl⟩
    | succ i =>
      obtain ⟨s0, h1, h2, h3⟩ := chain_at hr i o c (by simpa using hi) (by simpa using hc)
      exact ⟨s0, h1, h2, by rw [h3]; simp [List.replicate_succ, mk]⟩
theorem chain_end : ∀ {l : List Oper} {st : St} {cs : List Cert} {st' : St}, Chain P E Q tq ops l st cs st' → st' = mk cs (List.replicate cs.length true) st ∧ cs.length = l.length
  | _, _, _, _, .nil => ⟨rfl, rfl⟩
  | _, _, _, _, .cons hg hf hr => by
    obtain ⟨h1, h2⟩ := chain_end hr
    exact ⟨by rw [h1]; simp [List.replicate_succ, mk], by simp [h2]⟩
theorem mk_pre (cs : List Cert) : ∀ (i : Nat) (st : St), i ≤ cs.length → mk (cs.take i) (List.replicate i true) st = mk cs (Bools cs.length i) st := by
  induction cs with
  | nil => intro i st h; simp at h; subst h; rfl
  | cons c cs ih =>
    intro i st h
    have e : Bools (c :: cs).length i = decide (0 < i) :: Bools cs.length (i - 1) := by
      unfold Bools
      rw [List.length_cons, List.range_succ_eq_map]
      simp only [List.map_cons, List.map_map]
      congr 1
      apply List.map_congr_left
      intro j _
      simp
      omega
    rw [e]
    cases i with
    | zero =>
      simp only [List.take_zero, List.replicate_zero, mk]
      have := ih 0 st (by omega)
      simpa [mk] using this
    | succ i =>
      simp only [List.take_succ_cons, List.replicate_succ, mk]
      have := ih i (c.W ++ st) (by simpa using h)
      simpa using this
theorem unused_app {W st : St} {i : Nat} : (W ++ st).unused i = (W.unused i && st.unused i) := by simp [St.unused, List.all_append]
theorem mk_unused (cs : List Cert) : ∀ (bs : List Bool) (st : St) (i : Nat), bs.length = cs.length → ((mk cs bs st).unused i = true ↔ st.unused i = true ∧ ∀ (j : Nat) c, cs[j]? = some c → bs[j]? = some true → c.W.unused i = true) := by
  induction cs with
  | nil => intro bs st i h; cases bs <;> simp [mk]
  | cons c cs ih =>
    intro bs st i h
    obtain ⟨b, bs, rfl⟩ : ∃ b r, bs = b :: r := by cases bs with | nil => simp at h | cons b r => exact ⟨b, r, rfl⟩
    simp only [mk]
    rw [ih bs _ i (by simpa using h)]
    constructor
    · rintro ⟨h1, h2⟩
      refine ⟨?_, fun j c' hj hb => ?_⟩
      · cases b <;> simp_all [unused_app]
      · cases j with
        | zero => simp at hj hb; subst hj hb; simp [unused_app] at h1; exact h1.1
        | succ j => exact h2 j c' (by simpa using hj) (by simpa using hb)
    · rintro ⟨h1, h2⟩
      refine ⟨?_, fun j c' hj hb => h2 (j + 1) c' (by simpa using hj) (by simpa using hb)⟩
      cases b with
      | false => simpa using h1
      | true => simp only [if_true, unused_app, h1, Bool.and_true]; exact h2 0 c (by simp) (by simp)
theorem aside_spec {x y : Cert} (h : x.aside y = true) : (∀ l, dom x.W l = true → l ∉ y.L ∧ dom y.W l = false) ∧ (∀ l, dom y.W l = true → l ∉ x.L) ∧ ∀ i ∈ x.fr, y.W.unused i = true := by
  simp only [Cert.aside, Bool.and_eq_true] at h
  obtain ⟨⟨h1, h2⟩, h3⟩ := h
  refine ⟨fun l hl => ?_, fun l hl => ?_, fun i hi => List.all_eq_true.1 h3 i hi⟩
  · obtain ⟨e, he, hb⟩ := List.any_eq_true.1 hl
    have := List.all_eq_true.1 h1 e he
    rw [(Loc.eqb_iff _ _).1 hb] at this
    simp only [Bool.and_eq_true, Bool.not_eq_true'] at this
    exact ⟨has_spec this.1, this.2⟩
  · obtain ⟨e, he, hb⟩ := List.any_eq_true.1 hl
    have := List.all_eq_true.1 h2 e he
    rw [(Loc.eqb_iff _ _).1 hb] at this
    exact has_spec (by simpa using this)
theorem mk_all (cs : List Cert) (ls : List Bool) (st : St) (hl : ls.length = cs.length) (h : ∀ j, j < cs.length → ls[j]? = some true) : mk cs ls st = mk cs (List.replicate cs.length true) st := by
  congr 1
  apply List.ext_getElem?
  intro j
  by_cases hj : j < cs.length
  · rw [h j hj]; simp [hj]
  · rw [List.getElem?_eq_none (by omega), List.getElem?_eq_none (by simp; omega)]
theorem mk_tops (cs : List Cert) : cs.all (fun c => tops tq c.W) = true → ∀ (bs : List Bool) (st : St), tops tq st = true → tops tq (mk cs bs st) = true := by
  induction cs with
  | nil => intro _ bs st h; cases bs <;> exact h
  | cons c cs ih =>
    intro hc bs st h
    simp only [List.all_cons, Bool.and_eq_true] at hc
    cases bs with
    | nil => exact h
    | cons b bs =>
      simp only [mk]
      refine ih hc.2 bs _ ?_
      cases b
      · exact h
      · exact tops_app hc.1 h
theorem draw_any {l : List Oper} {cs : List Cert} (hch : Chain P E Q tq l.toArray l st cs st') (hok : pairsOk l cs 0 = true) (ht0 : tops tq st = true) (htc : cs.all (fun c => tops tq c.W) = true) (hQ : Hits E st' (Q .normal)) :
    ∀ (fuel : Nat) (ls : List Bool) (G : Gh) (a : Act) (w : World), ls.length = l.length → ls.count false = fuel →
      (∀ (j : Nat) (o : Oper), ls[j]? = some true → l[j]? = some o → ∀ e ∈ o.after, Region.binds .any e = true → ls[e.on]? = some true) → Sim E (mk cs ls st) G a w → wpAny P .any l.toArray Q fuel ls.toArray a w := by
  obtain ⟨hlen, hpair, hlow⟩ := pairsOk_spec hok
  obtain ⟨hend, _⟩ := chain_end hch
  intro fuel
  induction fuel with
  | zero =>
    intro ls G a w hl hc hcl hs
    have hall : ∀ j, j < cs.length → ls[j]? = some true := fun j hj => by
      have hj' : j < ls.length := by omega
      rw [List.getElem?_eq_getElem hj']
      have hn : ls[j] ≠ false := fun c => by
        have : 0 < ls.count false := List.count_pos_iff.2 (c ▸ List.getElem_mem hj')
        omega
      simpa using hn
    refine ⟨?_, ?_⟩
    · rw [List.eq_nil_iff_forall_not_mem]
      intro j hj
      obtain ⟨h1, o, h2, _⟩ := mem_ready.1 hj
      have hj' : j < cs.length := by rw [← hlen]; simpa using (Array.getElem?_eq_some_iff.1 h2).1
      have := hall j hj'
      simp [Array.getD_eq_getD_getElem?, this] at h1
    · refine hQ G a w ?_
      rw [hend, ← mk_all cs ls st (by omega) hall]; exact hs
  | succ fuel ih =>
    intro ls G a w hl hc hcl hs
    have hrdy : ∀ i, i ∈ Region.ready .any l.toArray ls.toArray ↔ ls[i]? = some false ∧ ∃ o, l[i]? = some o ∧ ∀ e ∈ o.after, Region.binds .any e = true → ls[e.on]? = some true := fun i => by
      rw [mem_ready]
      constructor
      · rintro ⟨h1, o, h2, h3⟩
        have h2' : l[i]? = some o := by simpa using h2
        have hi : i < ls.length := by rw [hl]; exact (List.getElem?_eq_some_iff.1 h2').1
        refine ⟨by rw [List.getElem?_eq_getElem hi]; simpa [Array.getD_eq_getD_getElem?, hi] using h1, o, h2', fun e he hb => ?_⟩
        have := h3 e he hb
        cases hx : ls[e.on]? with
        | none => simp [Array.getD_eq_getD_getElem?, hx] at this
        | some b => simp [Array.getD_eq_getD_getElem?, hx] at this; rw [this]
      · rintro ⟨h1, o, h2, h3⟩
        exact ⟨by simp [Array.getD_eq_getD_getElem?, h1], o, by simpa using h2, fun e he hb => by simp [Array.getD_eq_getD_getElem?, h3 e he hb]⟩
    refine ⟨fun hnil => ?_, fun i hi => ?_⟩
    · exfalso
      have hex : ∃ i : Nat, ls[i]? = some false := by
        have : 0 < ls.count false := by omega
        obtain ⟨i, hi⟩ := List.getElem?_of_mem (List.count_pos_iff.1 this)
        exact ⟨i, hi⟩
      obtain ⟨m, hmin, hle⟩ := exists_least hex
      have hlt : m < ls.length := (List.getElem?_eq_some_iff.1 hmin).1
      obtain ⟨o, ho⟩ : ∃ o, l[m]? = some o := ⟨_, List.getElem?_eq_getElem (by omega)⟩
      have hmem : m ∈ Region.ready .any l.toArray ls.toArray := (hrdy _).2 ⟨hmin, o, ho, fun e he hb => by
        have h1 := hlow _ o ho e he hb
        have h3 : ¬ ls[e.on]? = some false := fun c => by have := hle _ c; omega
        rw [List.getElem?_eq_getElem (by omega : e.on < ls.length)] at h3 ⊢
        simpa using h3⟩
      rw [hnil] at hmem
      cases hmem
    · obtain ⟨hfalse, o, ho, hdeps⟩ := (hrdy i).1 hi
      have hil : i < l.length := (List.getElem?_eq_some_iff.1 ho).1
      obtain ⟨c, hc'⟩ : ∃ c, cs[i]? = some c := ⟨_, List.getElem?_eq_getElem (by omega)⟩
      obtain ⟨s0, hg, hfr, hs0⟩ := chain_at hch i o c ho hc'
      rw [mk_pre cs i st (by omega)] at hs0
      -- the flags of those that wait, or are waited for
      have hwait : ∀ j, waitsFor o j = true → ls[j]? = some true := fun j hw => by
        obtain ⟨e, he, hb⟩ := List.any_eq_true.1 hw
        simp only [Bool.and_eq_true, beq_iff_eq] at hb
        rw [← hb.2]; exact hdeps e (Array.mem_toList_iff.1 he) hb.1
      have hwaits : ∀ (j : Nat) oj, l[j]? = some oj → waitsFor oj i = true → ls[j]? = some false := fun j oj hj hw => by
        obtain ⟨e, he', hb⟩ := List.any_eq_true.1 hw
        have he := Array.mem_toList_iff.1 he'
        simp only [Bool.and_eq_true, beq_iff_eq] at hb
        have hjl : j < ls.length := by rw [hl]; exact (List.getElem?_eq_some_iff.1 hj).1
        rw [List.getElem?_eq_getElem hjl]
        cases hx : ls[j] with
        | false => rfl
        | true =>
          have := hcl j oj (by rw [List.getElem?_eq_getElem hjl, hx]) hj e he hb.1
          rw [hb.2, hfalse] at this
          cases this
      have hflag : ∀ (j : Nat) cj, cs[j]? = some cj → (j < i → ¬ cj.aside c = true) → (i < j → ¬ c.aside cj = true) → ls[j]? = (Bools cs.length i)[j]? := fun j cj hj h1 h2 => by
        have hjl : j < cs.length := (List.getElem?_eq_some_iff.1 hj).1
        rw [bools_get hjl]
        obtain ⟨oj, hoj⟩ : ∃ oj, l[j]? = some oj := ⟨_, List.getElem?_eq_getElem (by omega)⟩
        rcases Nat.lt_trichotomy j i with hji | hji | hji
        · have hw := (hpair j i o cj c hji ho hj hc').resolve_right (h1 hji)
          rw [hwait j (by simpa using hw)]; simp [hji]
        · subst hji; rw [hfalse]; simp
        · have hw := (hpair i j oj c cj hji hoj hc' hj).resolve_right (h2 hji)
          rw [hwaits j oj hoj (by simpa using hw)]; simp; omega
      have hagree : ∀ lo ∈ c.L, look (mk cs ls st) lo = look s0 lo := fun lo hlo => by
        rw [hs0]
        refine mk_agree cs _ _ st lo (by omega) (bools_len _ _) fun j cj hj hd => hflag j cj hj (fun hji ha => ?_) (fun hji ha => ?_)
        · exact ((aside_spec ha).1 lo hd).1 hlo
        · exact (aside_spec ha).2.1 lo hd hlo
      have hunused : ∀ id ∈ c.fr, (mk cs ls st).unused id = true := fun id hid => by
        have h1 := List.all_eq_true.1 hfr id hid
        rw [hs0, mk_unused cs _ _ _ (bools_len _ _)] at h1
        rw [mk_unused cs _ _ _ (by omega)]
        refine ⟨h1.1, fun j cj hj hb => ?_⟩
        have hjl : j < cs.length := (List.getElem?_eq_some_iff.1 hj).1
        obtain ⟨oj, hoj⟩ : ∃ oj, l[j]? = some oj := ⟨_, List.getElem?_eq_getElem (by omega)⟩
        rcases Nat.lt_trichotomy j i with hji | hji | hji
        · exact h1.2 j cj hj (by rw [bools_get hjl]; simp [hji])
        · subst hji; rw [hfalse] at hb; cases hb
        · rcases hpair i j oj c cj hji hoj hc' hj with hw | ha
          · have := hwaits j oj hoj (by simpa using hw); rw [this] at hb; cases hb
          · exact (aside_spec ha).2.2 id hid
      have hil' : i < ls.length := by omega
      have hset : ∀ lo, look (mk cs (ls.set i true) st) lo = look (c.W ++ mk cs ls st) lo := fun lo => by
        rw [look_app]
        by_cases hd : dom c.W lo = true
        · rw [if_pos hd]
          refine mk_last cs _ st lo i c (by simp; omega) hc' (by simp [hil']) hd fun j cj hij hj hdj => ?_
          rw [List.getElem?_set_ne (by omega)]
          obtain ⟨oj, hoj⟩ : ∃ oj, l[j]? = some oj := ⟨_, List.getElem?_eq_getElem (by have := (List.getElem?_eq_some_iff.1 hj).1; omega)⟩
          rcases hpair i j oj c cj hij hoj hc' hj with hw | ha
          · exact hwaits j oj hoj (by simpa using hw)
          · rw [((aside_spec ha).1 lo hd).2] at hdj; cases hdj
        · rw [if_neg hd]
          refine mk_agree cs _ _ st lo (by simp; omega) (by omega) fun j cj hj hdj => ?_
          rw [List.getElem?_set_ne]
          rintro rfl
          rw [hc'] at hj
          obtain rfl := Option.some.inj hj
          exact hd hdj
      have hnext : Hits E (c.W ++ mk cs ls st) (wpAny P .any l.toArray Q fuel (ls.toArray.setIfInBounds i true)) := by
        intro G' a' w' hs'
        have := ih (ls.set i true) G' a' w' (by simp [hl]) (by
          rw [List.count_set hil']
          have hx : ls[i] = false := by rw [List.getElem?_eq_getElem hil'] at hfalse; exact Option.some.inj hfalse
          simp [hx]; omega) (fun j oj hj hoj e he hb => by
          rw [List.getElem?_set] at hj ⊢
          by_cases hie : i = e.on
          · rw [if_pos hie, if_pos hil']
          · rw [if_neg hie]
            by_cases hij : i = j
            · subst hij; rw [ho] at hoj; obtain rfl := Option.some.inj hoj; exact hdeps e he hb
            · rw [if_neg hij] at hj; exact hcl j oj hj hoj e he hb) (hs'.same hset)
        simpa using this
      have := hg _ (mk cs ls st) hagree hunused (mk_tops cs htc ls st ht0) hnext G a w hs
      show wpOp P l.toArray Q i _ a w
      unfold wpOp
      have ho' : l.toArray[i]? = some o := by simpa using ho
      simp only [ho']
      exact this
theorem hits_draw {id : Nat} {l : List Oper} {cs : List Cert} (hm : P.follows .mixedOrders = true) (hch : Chain P E Q tq l.toArray l st cs st') (hok : pairsOk l cs 0 = true) (ht0 : tops tq st = true) (htc : cs.all (fun c => tops tq c.W) = true) (hQ : Hits E st' (Q .normal)) :
    Hits E st ((Code.region id l.toArray true).wp P Q) := by
  intro G a w s
  refine wp_region_any hm ?_
  have hb : Below w.heap.size w { w with drawn := w.drawn + 1 } := ⟨rfl, rfl, rfl, Nat.le_refl _, fun _ _ => rfl⟩
  have s1 := s.later0 hb
  have hlen := (pairsOk_spec hok).1
  have e : mk cs (List.replicate l.length false) st = st := by
    have : ∀ (cs : List Cert) (n : Nat) (st : St), mk cs (List.replicate n false) st = st := by
      intro cs
      induction cs with
      | nil => intro n st; rfl
      | cons c cs ih => intro n st; cases n with
        | zero => rfl
        | succ n => simp only [List.replicate_succ, mk, Bool.false_eq_true, if_false]; exact ih n st
    exact this _ _ _
  have := draw_any (Q := Q) hch hok ht0 htc hQ l.length (List.replicate l.length false) G a _ (by simp) (by simp) (fun j o hj => by
    rw [List.getElem?_replicate] at hj; split at hj <;> simp at hj) (by rw [e]; exact s1)
  simpa using this
def Drawn (P : Program) (E : Env) (lf : List Oper) (Q : Exit → Act → World → Prop) (tq : Option (Nat × Nat)) (l : List Oper) (st : St) (acc : List Cert) : Prop :=
  ∃ cs st', Chain P E Q tq lf.toArray l st cs st' ∧ pairsOk lf (acc.reverse ++ cs) 0 = true ∧ (acc.reverse ++ cs).all (fun c => tops tq c.W) = true ∧ Hits E st' (Q .normal)
theorem hits_drawnT {id : Nat} {l : List Oper} (tq : Option (Nat × Nat)) (ht : tops tq st = true) (hm : P.follows .mixedOrders = true) (h : Drawn P E l Q tq l st []) : Hits E st ((Code.region id l.toArray true).wp P Q) := by
  obtain ⟨cs, st', h1, h2, h3, h4⟩ := h
  exact hits_draw hm h1 (by simpa using h2) ht (by simpa using h3) h4
theorem hits_drawn {id : Nat} {l : List Oper} (hm : P.follows .mixedOrders = true) (h : Drawn P E l Q none l st []) : Hits E st ((Code.region id l.toArray true).wp P Q) :=
  hits_drawnT none rfl hm h
variable {lf l : List Oper} {acc : List Cert}
theorem dq_nil (hok : pairsOk lf acc.reverse 0 = true) (h : Hits E st (Q .normal)) : Drawn P E lf Q none [] st acc := ⟨[], st, .nil, by simpa using hok, List.all_eq_true.2 fun _ _ => rfl, h⟩
theorem dq_nilT (hok : pairsOk lf acc.reverse 0 = true) (ht : acc.all (fun c => tops tq c.W) = true) (h : Hits E st (Q .normal)) : Drawn P E lf Q tq [] st acc := ⟨[], st, .nil, by simpa using hok, by rw [List.append_nil, List.all_reverse]; exact ht, h⟩
theorem dq_of {o : Oper} {c : Cert} (hg : GOk P E Q tq lf.toArray o st c) (hfr : fresh c.fr st = true) (h : Drawn P E lf Q tq l (c.W ++ st) (c :: acc)) : Drawn P E lf Q tq (o :: l) st acc := by
  obtain ⟨cs, st', h1, h2, h3, h4⟩ := h
  exact ⟨c :: cs, st', .cons hg hfr h1, by simpa using h2, by simpa using h3, h4⟩
theorem dq {o : Oper} {L : List Loc} {fr : List Nat} {W : St} (hf : FOk P E o st L fr W) (hfr : fresh fr st = true) (hg : o.guard = none) (h : Drawn P E lf Q tq l (W ++ st) (⟨L, fr, W⟩ :: acc)) : Drawn P E lf Q tq (o :: l) st acc :=
  dq_of (g_plain hf hg) hfr h
theorem dq_yes {o : Oper} {L : List Loc} {fr : List Nat} {W : St} {j t : Nat} {b : Bool} (hf : FOk P E o st L fr W) (hfr : fresh fr st = true) (hg : o.guard = some (j, b)) (hj : (lf.toArray[j]?).bind (·.dst) = some t)
    (hl : look st (.slot t) = some (.d (.sc (.bool b)))) (ht : t < E.N) (h : Drawn P E lf Q tq l (W ++ st) (⟨.slot t :: L, fr, W⟩ :: acc)) : Drawn P E lf Q tq (o :: l) st acc :=
  dq_of (g_yes hf hg hj hl ht) hfr h
theorem dq_no {o : Oper} {d j t : Nat} {b : Bool} {v : Value} (ho : o.dst = some d) (hg : o.guard = some (j, b)) (hj : (lf.toArray[j]?).bind (·.dst) = some t) (hl : look st (.slot t) = some (.d (.sc v))) (hbc : wantB v b = false) (ht : t < E.N) (hd : d < E.N)
    (h : Drawn P E lf Q tq l ((.slot d, some (.d (.sc undef))) :: st) (⟨[.slot t], [], [(.slot d, some (.d (.sc undef)))]⟩ :: acc)) : Drawn P E lf Q tq (o :: l) st acc :=
  dq_of (g_no ho hg hj hl hbc ht hd) rfl h
end Go.Ab

/- Strings and lists under a walk: elements, lengths, parts, what is put behind. No program. -/
namespace Go.Ab
open Go Go.RowKit
variable {P : Program} {E : Env} {st : St} {G : Gh} {a : Act} {w : World}
variable {d : Nat} {ty : TypeId} {pos : String} {af : Array Edge} {g : Option (Nat × Bool)} {x y z : Operand}
def asList : V → Option (Nat × List D)
  | .d (.list es l) => some (es, l)
  | .d (.room es l _) => some (es, l)
  | .own _ es l => some (es, l)
  | _ => none
theorem relE_left {S : Stab} {es : Nat} {m : List D} : ∀ {l : List D} {b o : Nat}, RelE S es (l ++ m) b o → RelE S es l b o
  | [], _, _, _ => .nil
  | _ :: _, _, _, .cons hn hp hl => .cons hn hp (relE_left hl)
theorem rel_room {S : Stab} {es : Nat} {l m : List D} {u : Value} (h : Rel S (.room es l m) u) : Rel S (.list es l) u := by
  cases h with
  | room hc he => exact .list (Nat.le_trans (Nat.le_add_right _ _) hc) (relE_left he)
theorem relV_list {v : V} {u : Value} {es : Nat} {l : List D} (h : RelV G v u) (ha : asList v = some (es, l)) : Rel G.S (.list es l) u := by
  cases v with
  | d q =>
    cases q with
    | list e l' => obtain ⟨rfl, rfl⟩ := Prod.mk.inj (Option.some.inj ha); exact h
    | room e l' m => obtain ⟨rfl, rfl⟩ := Prod.mk.inj (Option.some.inj ha); exact rel_room h
    | _ => cases ha
  | own id e l' => obtain ⟨rfl, rfl⟩ := Prod.mk.inj (Option.some.inj ha); exact relV_own h
  | _ => cases ha
theorem f_lenStr {t : TypeId} {s : ByteArray} (hx : ev st x = some (.d (.sc (.string s)))) (ht : P.underlying t = some .string) (hd : d < E.N) :
    FOk P E ⟨some d, .call ⟨.builtin .len, #[x], #[t]⟩, ty, pos, af, g⟩ st (evL x) [] [(.slot d, some (.d (.sc (.int .i64 (s.size : Int)))))] :=
  fok_val rfl hd fun st' G a w hL hs => by
    have e1 := hs.sc ((ev_same hL fun l h => h).trans hx)
    exact ⟨_, by simp [execOp, resolve, invoke, builtin, e1, Builtin.len_, run_underlying ht, goInt], .sc _⟩
theorem f_lenList {t e : TypeId} {v : V} {es : Nat} {l : List D} (hx : ev st x = some v) (ha : asList v = some (es, l)) (ht : P.underlying t = some (.slice e)) (hd : d < E.N) :
    FOk P E ⟨some d, .call ⟨.builtin .len, #[x], #[t]⟩, ty, pos, af, g⟩ st (evL x) [] [(.slot d, some (.d (.sc (.int .i64 (l.length : Int)))))] :=
  fok_val rfl hd fun st' G a w hL hs => by
    have e1 := relV_list (hs.ev ((ev_same hL fun l h => h).trans hx)) ha
    cases hc : a.eval x <;> rw [hc] at e1 <;> cases e1
    · exact ⟨_, by simp [execOp, resolve, invoke, builtin, hc, Builtin.len_, run_underlying ht, goInt], .sc _⟩
    · exact ⟨_, by simp [execOp, resolve, invoke, builtin, hc, Builtin.len_, run_underlying ht, goInt], .sc _⟩
def byteAt (s : ByteArray) (i : Int) : Int := ((s.data[i.toNat]?.getD 0).toNat : Int)
theorem f_idxStr {t : TypeId} {s : ByteArray} {k : IntKind} {i : Int} (hx : ev st x = some (.d (.sc (.string s)))) (hy : ev st y = some (.d (.sc (.int k i)))) (ht : P.underlying t = some .string) (h0 : 0 ≤ i) (h1 : i < (s.size : Int)) (hd : d < E.N) :
    FOk P E ⟨some d, .index t x y, ty, pos, af, g⟩ st (evL x ++ evL y) [] [(.slot d, some (.d (.sc (.int .u8 (byteAt s i)))))] :=
  fok_val rfl hd fun st' G a w hL hs => by
    have e1 := hs.sc ((ev_same hL fun l h => mem_l h).trans hx)
    have e2 := hs.sc ((ev_same hL fun l h => mem_r h).trans hy)
    refine ⟨_, ?_, .sc _⟩
    have hlt : i.toNat < s.size := by omega
    have hg : s[i.toNat]? = some (s.data[i.toNat]?.getD 0) := by
      have h2 : i.toNat < s.data.size := hlt
      rw [getElem?_pos s i.toNat hlt, Array.getElem?_eq_getElem h2]
      rfl
    simp only [execOp, e1, e2, Instr.index, asIntOf, Sem.run_bind, Sem.run_pure, Result.andThen_ok, run_underlying ht, if_pos h0, hg]
    rfl
theorem f_idxList {t e : TypeId} {v : V} {es : Nat} {b : Bool} {l : List D} {k : IntKind} {i : Int} {q : D} (hx : ev st x = some v) (ha : asList v = some (es, l)) (hy : ev st y = some (.d (.sc (.int k i)))) (ht : P.underlying t = some (.slice e)) (hk : kd P e = some (b, es))
    (h0 : 0 ≤ i) (h1 : l[i.toNat]? = some q) (hd : d < E.N) :
    FOk P E ⟨some d, .indexAddr t x y, ty, pos, af, g⟩ st (evL x ++ evL y) [] [(.slot d, some (.d (.eptr q.cells)))] :=
  fok_val rfl hd fun st' G a w hL hs => by
    have e1 := relV_list (hs.ev ((ev_same hL fun l h => mem_l h).trans hx)) ha
    have e2 := hs.sc ((ev_same hL fun l h => mem_r h).trans hy)
    have hlt : i.toNat < l.length := (List.getElem?_eq_some_iff.1 h1).1
    cases hc : a.eval x <;> rw [hc] at e1 <;> cases e1
    · rename_i cap b' o he hcap
      have key : ∀ {l : List D} {o n : Nat} {q : D}, RelE G.S es l b' o → l[n]? = some q → RelP G.S q.cells b' (o + n * es) := by
        intro l
        induction l with
        | nil => intro o n q _ h; simp at h
        | cons p l ih =>
          intro o n q h hn
          cases h with
          | cons h3 h4 h5 =>
            cases n with
            | zero => simp at hn; subst hn; simpa using h4
            | succ n =>
              have := ih h5 (by simpa using hn)
              rwa [show o + es + n * es = o + (n + 1) * es from by rw [Nat.add_mul]; omega] at this
      obtain ⟨_, hsz, _⟩ := kd_spec hk
      refine ⟨.pointer (some ⟨b', o + i.toNat * es, none⟩), ?_, .eptr (key he h1)⟩
      have hin : 0 ≤ i ∧ i < (l.length : Int) := ⟨h0, by omega⟩
      simp [execOp, hc, e2, Instr.indexAt, asIntOf, run_underlying ht, hin, hsz, add_at]
    · simp at hlt
def bnd (st : St) (dflt : Int) : Option Operand → Option Int
  | none => some dflt
  | some x => match ev st x with
    | some (.d (.sc (.int _ i))) => some i
    | _ => none
def bndL : Option Operand → List Loc
  | none => []
  | some x => evL x
theorem f_sliceStr {t : TypeId} {s : ByteArray} {lo hi : Option Operand} {i j : Int} (hx : ev st x = some (.d (.sc (.string s)))) (hlo : bnd st 0 lo = some i) (hhi : bnd st s.size hi = some j) (ht : P.underlying t = some .string)
    (h0 : 0 ≤ i) (h1 : i ≤ j) (h2 : j ≤ (s.size : Int)) (hd : d < E.N) :
    FOk P E ⟨some d, .slice t x lo hi none, ty, pos, af, g⟩ st (evL x ++ (bndL lo ++ bndL hi)) [] [(.slot d, some (.d (.sc (.string (s.extract i.toNat j.toNat)))))] :=
  fok_val rfl hd fun st' G a w hL hs => by
    have e1 := hs.sc ((ev_same hL fun l h => mem_l h).trans hx)
    have key : ∀ (o : Option Operand) (df r : Int), (∀ l ∈ bndL o, look st' l = look st l) → bnd st df o = some r → (o = none ∧ r = df) ∨ ∃ q k, o = some q ∧ a.eval q = .int k r := by
      intro o df r hl hb
      cases o with
      | none => exact .inl ⟨rfl, (Option.some.inj hb).symm⟩
      | some q =>
        right
        simp only [bnd] at hb
        split at hb
        · rename_i k i he
          obtain rfl := Option.some.inj hb
          exact ⟨q, k, rfl, hs.sc ((ev_same hl fun l h => h).trans he)⟩
        · cases hb
    refine ⟨_, ?_, .sc _⟩
    have b1 : ∀ (k : IntKind), (Instr.sliceBound (.int k i) j.toNat .sliceB).run P w = .ok i.toNat w := fun k => by
      have : 0 ≤ i ∧ i ≤ (j.toNat : Int) := ⟨h0, by omega⟩
      simp only [Instr.sliceBound, asIntOf, Sem.run_bind, Sem.run_pure, Result.andThen_ok, if_pos this]
    have b2 : ∀ (k : IntKind), (Instr.sliceBound (.int k j) s.size .sliceAlen).run P w = .ok j.toNat w := fun k => by
      have : 0 ≤ j ∧ j ≤ (s.size : Int) := ⟨by omega, h2⟩
      simp only [Instr.sliceBound, asIntOf, Sem.run_bind, Sem.run_pure, Result.andThen_ok, if_pos this]
    have hjs : ∀ (k : IntKind), s.size = j.toNat → (Instr.sliceBound (.int k i) s.size .sliceB).run P w = .ok i.toNat w := fun k h => by rw [h]; exact b1 k
    rcases key lo 0 i (fun l h => hL l (mem_r (mem_l h))) hlo with ⟨rfl, rfl⟩ | ⟨q, k, rfl, hq⟩ <;> rcases key hi s.size j (fun l h => hL l (mem_r (mem_r h))) hhi with ⟨rfl, rfl⟩ | ⟨q', k', rfl, hq'⟩
    · simp [execOp, e1, Instr.sliceAt, Instr.slice, run_underlying ht, Instr.sliceBounds]
    · simp [execOp, e1, hq', Instr.sliceAt, Instr.slice, run_underlying ht, Instr.sliceBounds, b2]
    · simp [execOp, e1, hq, Instr.sliceAt, Instr.slice, run_underlying ht, Instr.sliceBounds, hjs]
    · simp [execOp, e1, hq, hq', Instr.sliceAt, Instr.slice, run_underlying ht, Instr.sliceBounds, b2, b1]
theorem Sim.retell {t : Nat} {v : V} (s1 : Sim E st G a w) (hv0 : RelV G v (a.tmps.getD t undef)) : Sim E ((.slot t, some v) :: st) G a w := by
  refine ⟨s1.kw, s1.s0, s1.snew, s1.tmps, s1.defers, fun q v' hv => ?_, fun i o v hv => ?_, fun i hi => ?_, fun i j hi hj => ?_, s1.stable, fun i hi ht => ?_, fun i j hi hj => ?_, fun p hp => ⟨(s1.rcv p hp).1, fun hi => (s1.rcv p hp).2 (by rw [look_ne _ _ (by simp)] at hi; exact hi)⟩, fun i qv l hl hcl ht => s1.conts i qv l (by rw [look_ne _ _ (by simp)] at hl; exact hl) hcl ht, fun i v hv => by rw [look_ne _ _ (by simp)] at hv; rw [look_ne _ _ (by simp)]; exact s1.iters i v hv, fun k v hv => s1.olds k v (by rw [look_ne _ _ (by simp)] at hv; exact hv)⟩
  · rw [look_cons] at hv
    split at hv
    · rename_i he
      obtain rfl : t = q := by simpa using he
      obtain rfl := Option.some.inj hv
      exact hv0
    · exact s1.slots q _ hv
  · rw [look_ne _ _ (by simp)] at hv; rw [look_ne _ _ (by simp)]; exact s1.cells i o v hv
  · rw [look_ne _ _ (by simp)] at hi; exact s1.boxes i hi
  · rw [look_ne _ _ (by simp)] at hi hj; exact s1.inj i j hi hj
  · rw [look_ne _ _ (by simp)] at hi
    obtain ⟨q1, q2, q3, q4⟩ := s1.tips i hi ht
    exact ⟨q1, q2, q3, fun j hj => q4 j (by rw [look_ne _ _ (by simp)] at hj; exact hj)⟩
  · rw [look_ne _ _ (by simp)] at hi hj; exact s1.tinj i j hi hj
theorem hits_own {K : Act → World → Prop} (t id es : Nat) (hl : look st (.slot t) = some (.d (.sc (.slice none 0 0)))) (h : Hits E ((.slot t, some (.own id es [])) :: (.tip id, some (.ptr id 0)) :: dull id st) K) : Hits E st K := by
  intro G a w s
  have s1 := s.retip (id := id) (b := 0) (n := 0) (z := 0) (k := false) (fun c => by cases c)
  exact h _ a w (s1.retell (t := t) (v := .own id es []) (.inl ⟨by simp [upd], rfl, rel_sc (s.slots t _ hl)⟩))
def apk (P : Program) (t tx : TypeId) : Option (TypeId × Nat × Nat) :=
  match P.underlying t, P.underlying tx with
  | some (.slice e), some (.slice _) => match P.info? e with
    | some i => match i.zero with
      | some z => if z.cells.size = i.size ∧ 0 < i.size then some (e, i.size, i.bytes) else none
      | none => none
    | none => none
  | _, _ => none
theorem apk_spec {t tx e : TypeId} {es nb : Nat} (h : apk P t tx = some (e, es, nb)) : P.underlying t = some (.slice e) ∧ (∃ e', P.underlying tx = some (.slice e')) ∧ ∃ i z, P.info? e = some i ∧ i.zero = some z ∧ z.cells.size = es ∧ i.size = es ∧ i.bytes = nb ∧ 0 < es := by
  unfold apk at h
  split at h
  · rename_i e0 e1 h1 h2
    split at h
    · rename_i i hi
      split at h
      · rename_i z hz
        split at h
        · rename_i hc
          simp only [Option.some.injEq, Prod.mk.injEq] at h
          obtain ⟨rfl, rfl, rfl⟩ := h
          exact ⟨h1, ⟨_, h2⟩, i, z, hi, hz, hc.1, rfl, rfl, hc.2⟩
        · cases h
      · cases h
    · cases h
  · cases h
theorem relL_one {S : Stab} : ∀ {l : List D} {us : List Value}, RelL S l us → (∀ q ∈ l, (V.d q).one = true) → ∀ u ∈ us, u.oneCell' = true
  | [], [], _, _, u, hu => by simp at hu
  | q :: l, v :: us, .cons h1 h2, h, u, hu => by
    rcases List.mem_cons.1 hu with rfl | hu
    · exact (relV_one (G := ⟨S, fun _ => 0, fun _ => 0, fun _ => false, fun _ => 0, fun _ => 0⟩) (v := .d q) h1 (h q (by simp))).1
    · exact relL_one h2 (fun x hx => h x (by simp [hx])) u hu
theorem flat_append (xs ys : List D) : flat (xs ++ ys) = flat xs ++ flat ys := by simp [flat]
theorem src_of {es : Nat} {tx e' : TypeId} (s : Sim E st G a w) {ys : List D} {u : Value} (hk : P.underlying tx = some (.slice e')) (h : Rel G.S (.list es ys) u) (h1 : ∀ q ∈ flat ys, (V.d q).one = true) :
    ∃ us, Src P es tx u ys.length us w ∧ RelL G.S (flat ys) us ∧ us.length = ys.length * es ∧ ∀ q ∈ ys, q.cells.length = es := by
  cases h with
  | lnil => exact ⟨[], Src.ofNil w hk 0, .nil, by simp, by simp⟩
  | list hc he =>
    rename_i b o cap
    obtain ⟨hp, hlen, hall⟩ := relE_flat he
    obtain ⟨us, h2, h3, h4⟩ := relP_vals hp
    exact ⟨us, Src.ofSlice w hk ⟨b, o, none⟩ _ cap us (by rw [h2, hlen]) (fun j v hv => by rw [add_at]; exact s.stable _ _ _ (h4 j v hv)) (relL_one h3 h1), h3, by rw [h2, hlen], hall⟩
theorem row_get {S : Stab} {b n : Nat} {cs : Array Value} {k : Nat} (h : k < n) : S.row b n cs b k = cs[k]? := by unfold Stab.row; rw [if_pos rfl, if_pos h]
variable {Q : Exit → Act → World → Prop}
theorem sq_append {ops : Array Oper} {l : List Oper} {t tx e : TypeId} {id es nb : Nat} {xs ys : List D} {v vt : V} (hx : ev st x = some (.own id es xs)) (htip : look st (.tip id) = some vt) (hy : ev st y = some v) (ha : asList v = some (es, ys))
    (hp : apk P t tx = some (e, es, nb)) (hroom : (xs.length + ys.length) * nb ≤ 140737488355328) (hbig : xs.length + ys.length ≤ 9223372036854775807) (hone0 : ((flat ys).all fun q => (V.d q).one) = true) (hd : d < E.N)
    (h : Hits E ((.slot d, some (.own id es (xs ++ ys))) :: (.tip id, some (.ptr id 0)) :: dull id st) (wpList P ops Q l)) :
    Hits E st (wpList P ops Q (⟨some d, .call ⟨.builtin .append, #[x, y], #[t, tx]⟩, ty, pos, af, none⟩ :: l)) := by
  intro G a w s
  have hone : ∀ q ∈ flat ys, (V.d q).one = true := fun q hq => List.all_eq_true.1 hone0 q hq
  obtain ⟨ht, ⟨e', htx⟩, i, z, hi, hz, hzs, his, hib, hes⟩ := apk_spec hp
  have hvx := s.ev hx
  have hvy := relV_list (s.ev hy) ha
  obtain ⟨us, hsrc, hrus, hlus, hcells⟩ := src_of (tx := tx) s htx hvy hone
  subst his
  -- it is enough to tell the operation's run, and what is known behind it
  suffices hh : ∃ u w' G', (Builtin.append_ #[t, tx] ty #[a.eval x, a.eval y]).run P w = .ok u w' ∧ Sim E ((.tip id, some (.ptr id 0)) :: dull id st) G' a w' ∧ RelV G' (.own id i.size (xs ++ ys)) u by
    obtain ⟨u, w', G', h1, h2, h3⟩ := hh
    unfold wpList
    rw [if_pos (by simp [Region.wanted])]
    refine .inl ?_
    show Oper.upon P _ a _ Q ((execOp a.eval _).run P w)
    have hrun : (execOp a.eval (⟨some d, .call ⟨.builtin .append, #[x, y], #[t, tx]⟩, ty, pos, af, none⟩ : Oper)).run P w = .ok (.value u) w' := by
      simp [execOp, resolve, invoke, builtin, h1]
    rw [hrun]
    exact h _ _ _ (h2.put hd h3)
  -- a new row for both
  have grow : ∀ (base : Option Addr) (cap : Nat) (olds : List Value), a.eval x = .slice base xs.length cap → (Builtin.firstCells i.size xs.length (.slice base xs.length cap)).run P w.drew = .ok olds.toArray w.drew → RelL G.S (flat xs) olds → olds.length = xs.length * i.size →
      (∀ q ∈ xs, q.cells.length = i.size) → cap < xs.length + ys.length → ∃ u w' G', (Builtin.append_ #[t, tx] ty #[a.eval x, a.eval y]).run P w = .ok u w' ∧ Sim E ((.tip id, some (.ptr id 0)) :: dull id st) G' a w' ∧ RelV G' (.own id i.size (xs ++ ys)) u := by
    intro base cap olds hex hold hro hlo hcx hlt
    have hr := run_append_grow_src (P := P) w t tx ty e i z ht hi hz base xs.length cap olds hold (a.eval y) ys.length us hsrc hlt (by omega) (growslice_fits hlt (by rw [hib]; exact hroom))
    have hge := grownCap_ge w (xs.length + ys.length) cap e
    have hb : Below w.heap.size w w.drew := ⟨rfl, rfl, rfl, Nat.le_refl _, fun _ _ => rfl⟩
    have s1 := s.later0 hb
    have hlen : (olds ++ us).length = (xs.length + ys.length) * i.size := by rw [List.length_append, hlo, hlus, Nat.add_mul]
    generalize hcs : (olds ++ us).toArray ++ Builtin.zeroCells z.cells (grownCap w (xs.length + ys.length) cap e - (xs.length + ys.length)) = cs at hr
    have hsize : cs.size = grownCap w (xs.length + ys.length) cap e * i.size := by
      rw [← hcs, Array.size_append, List.size_toArray, hlen, size_zeroCells, hzs, ← Nat.add_mul]
      congr 1
      omega
    have hn : (xs.length + ys.length) * i.size ≤ cs.size := by rw [hsize]; exact Nat.mul_le_mul_right _ hge
    have s2 := s1.row ((xs.length + ys.length) * i.size) cs e (0, 0) hn
    have hget : ∀ k u, (olds ++ us)[k]? = some u → cs[k]? = some u := fun k u hk => by
      rw [← hcs, Array.getElem?_append_left (by rw [List.size_toArray]; exact (List.getElem?_eq_some_iff.1 hk).1), List.getElem?_toArray]; exact hk
    have s3 := s2.retip (id := id) (b := w.heap.size) (n := (xs.length + ys.length) * i.size) (z := cs.size) (k := true) (fun _ => by
      refine ⟨.inl s.size, ⟨cs, e, by show (w.heap.push _)[w.heap.size]? = _; rw [Array.getElem?_push, if_pos rfl], Nat.le_refl _⟩, fun o ho => ?_, fun j hj hc => ?_, fun j hj hl hk hc => ?_⟩
      · show Stab.row _ _ _ _ _ _ = none
        unfold Stab.row
        rw [if_pos (show w.heap.size = w.drew.heap.size from rfl), if_neg (by omega)]
      · have := (s.boxes j hj).2.1
        have hc' : G.μ j = w.heap.size := hc
        omega
      · obtain ⟨_, ⟨cs', ty', q2, _⟩, _⟩ := s.tips j hl hk
        have := lt_of_block q2
        have hc' : G.tb j = w.heap.size := hc
        omega)
    refine ⟨_, _, _, (by rw [hex]; exact hr), s3, .inr ⟨by simp [upd], 0, grownCap w (xs.length + ys.length) cap e, ?_, ?_, ?_, ?_, ?_⟩⟩
    · simp [upd, List.length_append]
    · rw [List.length_append]; exact hge
    · show RelE (Stab.row G.S w.heap.size _ cs) i.size (xs ++ ys) ((upd G.tb id w.heap.size) id) 0
      simp only [upd, if_true]
      refine relE_of (fun q hq => (List.mem_append.1 hq).elim (hcx q) (hcells q)) ?_
      rw [flat_append]
      have hle := s1.row_le ((xs.length + ys.length) * i.size) cs
      refine relP_of (RelL.mono hle (relL_append hro hrus)) fun k u hk => ?_
      rw [Nat.zero_add]
      show Stab.row _ w.heap.size _ cs w.heap.size k = some u
      rw [row_get (by rw [← hlen]; exact (List.getElem?_eq_some_iff.1 hk).1)]
      exact hget k u hk
    · simp [upd, List.length_append]
    · simp [upd, hsize]
  rcases hvx with ⟨hk, rfl, hu⟩ | ⟨hk, o, cap, hu, hcap, he, hte, htz⟩
  · -- it was none
    by_cases hz0 : ys.length = 0
    · have hys : ys = [] := List.length_eq_zero_iff.1 hz0
      subst hys
      have hus : us = [] := List.length_eq_zero_iff.1 (by simpa using hlus)
      subst hus
      have s1 := s.retip (id := id) (b := 0) (n := 0) (z := 0) (k := false) (fun c => by cases c)
      refine ⟨.slice none 0 0, w, _, ?_, s1, .inl ⟨by simp [upd], rfl, rfl⟩⟩
      have h2 := hsrc.cells
      simp only [List.length_nil] at h2
      rw [hu]
      simp [Builtin.append_, run_underlying ht, run_underlying htx, sizeOf, run_typeInfo w hi, hsrc.len, h2]
    · exact grow none 0 [] hu (run_firstCells_none w.drew i.size 0 0 0) .nil (by simp) (by simp) (by simp; omega)
  · obtain ⟨hpx, hlx, hcx⟩ := relE_flat he
    obtain ⟨olds, ho1, ho2, ho3⟩ := relP_vals hpx
    by_cases hr : xs.length + ys.length ≤ cap
    · obtain ⟨t1, ⟨old, oty, t2, t3⟩, t4, t5⟩ := s.tips id (by rw [htip]; simp) hk
      have hfit : G.te id + us.length ≤ G.tz id := by rw [hte, htz, hlus, Nat.add_assoc, ← Nat.add_mul]; exact Nat.add_le_add_left (Nat.mul_le_mul_right _ hr) _
      have s1 := s.extend (us := us) (by rw [htip]; simp) hk t2 (by omega)
      have s2 := s1.retip (id := id) (b := G.tb id) (n := G.te id + us.length) (z := G.tz id) (k := true) (fun _ => by
        refine ⟨t1, ⟨_, oty, heap_setRow_same _ t2, by rw [splice_size (by omega)]; exact t3⟩, fun p hp => ?_, fun j hj => ?_, fun j hj hl hk' hc => ?_⟩
        · show Stab.more _ _ _ _ _ _ = none
          unfold Stab.more
          rw [if_neg (by omega)]; exact t4 p (by omega)
        · rw [look_ne _ _ (by simp)] at hj; exact t5 j hj
        · rw [look_ne _ _ (by simpa using fun c => hj c.symm)] at hl
          exact hj (s.tinj j id hl (by rw [htip]; simp) hk' hk hc))
      have s3 := s2.same (st' := (.tip id, some (.ptr id 0)) :: dull id st) (fun q => by
        rw [look_cons, look_cons]
        by_cases hq : Loc.tip id = q
        · rw [if_pos hq, if_pos hq]
        · rw [if_neg hq, if_neg hq, look_dull, look_dull, look_ne _ _ hq])
      have hone' : ∀ u ∈ us, u.oneCell' = true := relL_one hrus hone
      have hst := run_storeCells_at P (G.tb id) (o + xs.length * i.size) oty us 0 old w t2 (by rw [hte] at hfit; omega) hone'
      refine ⟨.slice (some ⟨G.tb id, o, none⟩) (xs.length + ys.length) cap, _, _, ?_, s3, .inr ⟨by simp [upd], o, cap, ?_, ?_, ?_, ?_, ?_⟩⟩
      · have e1 : (Builtin.append_ #[t, tx] ty #[a.eval x, a.eval y]).run P w = .ok (.slice (some ⟨G.tb id, o, none⟩) (xs.length + ys.length) cap) (w.setRow (G.tb id) (splice old (G.te id) us)) := by
          rw [hu]
          have h2 := hsrc.cells
          simp [Builtin.append_, run_underlying ht, run_underlying htx, sizeOf, run_typeInfo w hi, hsrc.len, hr, h2, add_at, hst, splice, hte]
        exact e1
      · simp [upd, List.length_append]
      · rw [List.length_append]; exact hr
      · show RelE (Stab.more G.S (G.tb id) (G.te id) us) i.size (xs ++ ys) ((upd G.tb id (G.tb id)) id) o
        simp only [upd, if_true]
        have hle : G.S.le (G.S.more (G.tb id) (G.te id) us) := fun b p v hv => by
          unfold Stab.more
          rw [if_neg]
          · exact hv
          · rintro ⟨rfl, h1, _⟩; rw [t4 p h1] at hv; cases hv
        refine relE_append (RelE.mono hle he) (relE_of hcells (relP_of (RelL.mono hle hrus) fun k u hku => ?_))
        show Stab.more G.S (G.tb id) (G.te id) us (G.tb id) _ = some u
        have hklt := (List.getElem?_eq_some_iff.1 hku).1
        unfold Stab.more
        rw [if_pos ⟨rfl, by omega, by omega⟩, hte, show o + xs.length * i.size + k - (o + xs.length * i.size) = k from by omega]
        exact hku
      · simp [upd, List.length_append, hte, hlus, Nat.add_mul, Nat.add_assoc]
      · simp [upd, htz]
    · refine grow _ cap olds hu ?_ ho2 (by rw [ho1, hlx]) hcx (by omega)
      have h3 := run_loadCells_list (P := P) w.drew ⟨G.tb id, o, none⟩ olds (fun j u hj => by rw [add_at]; exact s.stable _ _ _ (ho3 j u hj))
      have h4 : olds.length = xs.length * i.size := by rw [ho1, hlx]
      rw [h4] at h3
      simpa [Builtin.firstCells] using h3
end Go.Ab

/- Structs and lists made of parts. No program. -/
namespace Go.Ab
open Go Go.RowKit
variable {P : Program} {E : Env} {st : St} {G : Gh} {a : Act} {w : World}
variable {d : Nat} {ty : TypeId} {pos : String} {af : Array Edge} {g : Option (Nat × Bool)} {x y z : Operand}
def evP (st : St) : List (Nat × Operand) → Option (List (Nat × D))
  | [] => some []
  | (i, x) :: r => match ev st x, evP st r with
    | some (.d q), some l => some ((i, q) :: l)
    | some (.own _ es q), some l => some ((i, .list es q) :: l)
    | _, _ => none
def RelPs (S : Stab) : List (Nat × D) → List (Nat × Value) → Prop
  | [], [] => True
  | (i, q) :: l, (j, u) :: r => i = j ∧ Rel S q u ∧ RelPs S l r
  | _, _ => False
theorem Sim.evP (h : Sim E st G a w) : ∀ {xs : List (Nat × Operand)} {ps : List (Nat × D)}, Ab.evP st xs = some ps → RelPs G.S ps (xs.map fun p => (p.1, a.eval p.2))
  | [], ps, he => by obtain rfl := Option.some.inj he; exact trivial
  | (i, x) :: r, ps, he => by
    unfold Ab.evP at he
    cases hx : Ab.ev st x with
    | none => rw [hx] at he; cases he
    | some v =>
      cases hr : Ab.evP st r with
      | none => rw [hx, hr] at he; cases v <;> cases he
      | some l =>
        rw [hx, hr] at he
        have h1 := h.ev hx
        have h2 := Sim.evP h hr
        cases v with
        | d q => obtain rfl := Option.some.inj he; exact ⟨rfl, h1, h2⟩
        | own id es q => obtain rfl := Option.some.inj he; exact ⟨rfl, relV_own h1, h2⟩
        | _ => cases he
theorem evP_same {st st0 : St} {L : List Loc} (hL : ∀ l ∈ L, look st l = look st0 l) : ∀ {xs : List (Nat × Operand)}, (∀ l ∈ evsL (xs.map (·.2)), l ∈ L) → evP st xs = evP st0 xs
  | [], _ => rfl
  | (i, x) :: r, hx => by
    unfold evP
    rw [ev_same hL (fun l hl => hx l (by simp [evsL, hl])), evP_same hL (xs := r) (fun l hl => hx l (by simp only [List.map_cons, evsL, List.flatMap_cons, List.mem_append]; exact .inr hl))]
def setL {α : Type} (l : List α) (o : Nat) (us : List α) : List α := l.take o ++ us ++ l.drop (o + us.length)
def D.plain : D → Bool
  | .sc (.agg _) => false
  | _ => true
def fillD (place : Nat → Option (Nat × Nat)) (cells : List D) : List (Nat × D) → Option (List D)
  | [] => some cells
  | (i, q) :: r => match place i with
    | some (off, size) => match q.cells.length == size && Nat.ble (off + size) cells.length && q.plain with
      | true => fillD place (setL cells off q.cells) r
      | false => none
    | none => none
theorem foldl_set (us : List Value) : ∀ (k off : Nat) (cs : Array Value), off + k + us.length ≤ cs.size →
    (us.zipIdx k).foldl (fun cs (p : Value × Nat) => cs.setIfInBounds (off + p.2) p.1) cs = (setL cs.toList (off + k) us).toArray := by
  induction us with
  | nil => intro k off cs _; simp [setL]
  | cons u us ih =>
    intro k off cs h
    simp only [List.zipIdx_cons, List.foldl_cons]
    rw [ih (k + 1) off _ (by simp at h ⊢; omega)]
    congr 1
    have := list_seg_step cs.toList (off + k) u us (by simp at h ⊢; omega)
    simpa [setL, Nat.add_assoc] using this
theorem relL_drop {S : Stab} : ∀ {l : List D} {us : List Value} (n : Nat), RelL S l us → RelL S (l.drop n) (us.drop n)
  | _, _, 0, h => h
  | [], [], n + 1, _ => .nil
  | _ :: _, _ :: _, n + 1, .cons _ h => relL_drop n h
theorem rel_cells {S : Stab} {q : D} {u : Value} (h : Rel S q u) (hq : q.plain = true) : RelL S q.cells u.cells.toList := by
  cases h with
  | sc _ => cases u <;> first | (cases hq; done) | exact .cons (.sc _) .nil
  | agg hl => exact hl
  | tup hl => exact .cons (.tup hl) .nil
  | list hc he => exact .cons (.list hc he) .nil
  | lnil => exact .cons .lnil .nil
  | eptr hp => exact .cons (.eptr hp) .nil
  | any hc => cases u <;> first | exact .cons (.any hc) .nil | (simp [Value.oneCell'] at hc)
  | ifc hd => exact .cons (.ifc hd) .nil
  | room hc he => exact .cons (.room hc he) .nil
  | clo hl => exact .cons (.clo hl) .nil
theorem fill_rel {S : Stab} {place : Nat → Option (Nat × Nat)} : ∀ {ps : List (Nat × D)} {us : List (Nat × Value)} {cells l : List D} {cs : List Value}, RelPs S ps us → RelL S cells cs → fillD place cells ps = some l →
    ∃ vs : List Value, Instr.fill place ⟨cs⟩ us = some ⟨vs⟩ ∧ RelL S l vs
  | [], [], cells, l, cs, _, hc, h => by obtain rfl := Option.some.inj h; exact ⟨cs, rfl, hc⟩
  | (i, q) :: ps, (j, u) :: us, cells, l, cs, ⟨hij, hq, hr⟩, hc, h => by
    subst hij
    simp only [fillD] at h
    split at h
    · rename_i off size hpl
      split at h
      · rename_i hcond
        simp only [Bool.and_eq_true, beq_iff_eq] at hcond
        obtain ⟨⟨h1, h2⟩, h3⟩ := hcond
        have h2' : off + size ≤ cells.length := Nat.le_of_ble_eq_true h2
        have h4 := rel_cells hq h3
        have h5 := relL_length h4
        have h6 := relL_length hc
        have hsz : u.cells.size = size := by rw [← h1, h5]; simp
        have hnext : RelL S (setL cells off q.cells) (setL cs off u.cells.toList) := by
          unfold setL
          rw [h5]
          exact relL_append (relL_append (relL_take _ hc) h4) (relL_drop _ hc)
        obtain ⟨vs, hv1, hv2⟩ := fill_rel hr hnext h
        refine ⟨vs, ?_, hv2⟩
        simp only [Instr.fill, hpl]
        rw [if_neg]
        · have e := foldl_set u.cells.toList 0 off ⟨cs⟩ (by simp [hsz]; omega)
          rw [Nat.add_zero] at e
          have e2 : u.cells.zipIdx.foldl (fun cs (p : Value × Nat) => cs.setIfInBounds (off + p.2) p.1) (⟨cs⟩ : Array Value) = ⟨setL cs off u.cells.toList⟩ := by
            rw [← Array.foldl_toList, Array.toList_zipIdx]; exact e
          rw [← hv1]
          congr 1
        · simp [hsz]; omega
      · cases h
    · cases h
  | [], _ :: _, _, _, _, h, _, _ => h.elim
  | _ :: _, [], _, _, _, h, _, _ => h.elim
def bk (P : Program) (t : TypeId) : Option (List (Nat × Nat) × List Value) :=
  match P.underlying t, zc P t with
  | some (.struct fs), some zs => match fs.toList.mapM fun f => (P.info? f.type).map fun i => (f.offset, i.size) with
    | some pl => some (pl, zs)
    | none => none
  | _, _ => none
theorem run_places {w : World} : ∀ {fs : List Field} {pl : List (Nat × Nat)}, (fs.mapM fun f => (P.info? f.type).map fun i => (f.offset, i.size)) = some pl →
    (fs.mapM fun (f : Field) => (do pure (f.offset, ← sizeOf f.type) : Sem (Nat × Nat))).run P w = .ok pl w
  | [], pl, h => by simp at h; subst h; rfl
  | f :: fs, pl, h => by
    simp only [List.mapM_cons, Option.bind_eq_bind] at h
    cases hi : P.info? f.type with
    | none => simp [hi] at h
    | some i =>
      cases hr : fs.mapM fun f => (P.info? f.type).map fun i => (f.offset, i.size) with
      | none => simp [hi, hr] at h
      | some q =>
        simp [hi, hr] at h
        subst h
        have ih := run_places (w := w) hr
        simp only [List.mapM_cons, Sem.run_bind, sizeOf, run_typeInfo w hi, Result.andThen_ok, Sem.run_pure]
        simp only [sizeOf, Sem.run_bind, Sem.run_pure] at ih
        rw [ih]
        rfl
theorem relL_scs (S : Stab) : ∀ zs : List Value, RelL S (zs.map .sc) zs
  | [] => .nil
  | z :: zs => .cons (.sc z) (relL_scs S zs)
theorem f_build {t : TypeId} {parts : List (Nat × Operand)} {ps : List (Nat × D)} {pl : List (Nat × Nat)} {zs : List Value} {l : List D} (hb : bk P t = some (pl, zs)) (he : evP st parts = some ps) (hl : fillD (pl[·]?) (zs.map .sc) ps = some l) (hd : d < E.N) :
    FOk P E ⟨some d, .build t parts.toArray, ty, pos, af, g⟩ st (evsL (parts.map (·.2))) [] [(.slot d, some (.d (.agg l)))] :=
  fok_val rfl hd fun st' G a w hL hs => by
    have h1 := hs.evP ((evP_same hL fun l h => h).trans he)
    unfold bk at hb
    split at hb
    · rename_i fs zs' hu hz
      split at hb
      · rename_i pl' hpl
        obtain ⟨rfl, rfl⟩ := Prod.mk.inj (Option.some.inj hb)
        obtain ⟨z, hz1, hz2⟩ := zc_spec hz
        obtain ⟨vs, hv1, hv2⟩ := fill_rel h1 (relL_scs G.S zs') hl
        have hrp := run_places (P := P) (w := w) hpl
        refine ⟨.agg ⟨vs⟩, ?_, .agg hv2⟩
        have hpl2 : (fs.mapM fun (f : Field) => (do pure (f.offset, ← sizeOf f.type) : Sem (Nat × Nat))).run P w = .ok pl'.toArray w := by
          rw [Array.mapM_eq_mapM_toList, Sem.run_map, hrp]; rfl
        have hf : Instr.fill (fun i => pl'[i]?) (⟨zs'⟩ : Array Value) (parts.map fun p => (p.1, a.eval p.2)) = some ⟨vs⟩ := hv1
        simp only [execOp, Instr.build, Sem.run_bind, hz1, Result.andThen_ok, run_underlying hu, hz2, hpl2]
        simp [hf]
      · cases hb
    · cases hb
def fp (P : Program) (s : TypeId) (k : Nat) : Option (Nat × Bool × Nat) :=
  match P.underlying s with
  | some (.struct fs) => match fs[k]? with
    | some f => match kd P f.type with
      | some (b, n) => some (f.offset, b, n)
      | none => none
    | none => none
  | _ => none
def fpV (l : List D) : Nat × Bool × Nat → Option D
  | (off, true, n) => some (.agg ((l.drop off).take n))
  | (off, false, _) => l[off]?
theorem f_field {s : TypeId} {k : Nat} {o : Nat × Bool × Nat} {l : List D} {v : D} (hx : ev st x = some (.d (.agg l))) (hk : fp P s k = some o) (hv : fpV l o = some v) (hd : d < E.N) :
    FOk P E ⟨some d, .field s x k, ty, pos, af, g⟩ st (evL x) [] [(.slot d, some (.d v))] :=
  fok_val rfl hd fun st' G a w hL hs => by
    have e1 := hs.ev ((ev_same hL fun l h => h).trans hx)
    cases hc : a.eval x <;> rw [hc] at e1 <;> cases e1
    rename_i cs hl
    unfold fp at hk
    split at hk
    · rename_i fs hu
      split at hk
      · rename_i f hf
        split at hk
        · rename_i b n hkd
          obtain rfl := Option.some.inj hk
          obtain ⟨h1, h2, _⟩ := kd_spec hkd
          cases b with
          | true =>
            obtain rfl := Option.some.inj hv
            refine ⟨.agg ((⟨cs⟩ : Array Value).extract f.offset (f.offset + n)), by simp [execOp, hc, Instr.field, run_underlying hu, hf, part, h1, h2, asAgg], ?_⟩
            have e : ((⟨cs⟩ : Array Value).extract f.offset (f.offset + n)) = ⟨(cs.drop f.offset).take n⟩ := by
              apply Array.ext'
              simp [List.take_drop, Nat.add_comm]
            rw [e]
            exact .agg (relL_take _ (relL_drop _ hl))
          | false =>
            obtain ⟨u, hu2, hr⟩ := relL_getElem hl hv
            exact ⟨u, by simp [execOp, hc, Instr.field, run_underlying hu, hf, part, h1, asAgg, hu2], hr⟩
        · cases hk
      · cases hk
    · cases hk
def sk (P : Program) (t : TypeId) : Option (TypeId × Nat × List Value) :=
  match P.underlying t with
  | some (.slice e) => match P.info? e, zc P e with
    | some i, some zs => some (e, i.size, zs)
    | _, _ => none
  | _ => none
def snds : List (Nat × D) → List D
  | [] => []
  | p :: r => p.2 :: snds r
def zsn (zs : List Value) (n : Nat) : List Value := (List.range n).map fun i => zs[i % zs.length]!
theorem f_buildSlice {t e : TypeId} {n es : Nat} {zs : List Value} {parts : List (Nat × Operand)} {ps : List (Nat × D)} {l : List D} {ds : List D} (hk : sk P t = some (e, es, zs)) (he : evP st parts = some ps)
    (hl : fillD (fun i => some (i * es, es)) ((zsn zs (n * es)).map .sc) ps = some l) (hds0 : snds ps = ds) (hds : flat ds = l) (hn : Nat.beq ds.length n = true) (hc0 : (ds.all fun q => q.cells.length == es) = true) (hbig : n * es ≤ 16777216) (hpos : 0 < n * es) (hd : d < E.N) :
    FOk P E ⟨some d, .buildSlice t n parts.toArray, ty, pos, af, g⟩ st (evsL (parts.map (·.2))) [] [(.slot d, some (.d (.list es ds)))] :=
  fok_later rfl hd fun st' G a w hL hs => by
    have hn := Nat.eq_of_beq_eq_true hn
    have hc : ∀ q ∈ ds, q.cells.length = es := fun q hq => by have := List.all_eq_true.1 hc0 q hq; simpa using this
    have h1 := hs.evP ((evP_same hL fun l h => h).trans he)
    unfold sk at hk
    split at hk
    · rename_i e' hu
      split at hk
      · rename_i i zs' hi hz
        simp only [Option.some.injEq, Prod.mk.injEq] at hk
        obtain ⟨rfl, rfl, rfl⟩ := hk
        obtain ⟨zv, hz1, hz2⟩ := zc_spec hz
        obtain ⟨vs, hv1, hv2⟩ := fill_rel h1 (relL_scs G.S (zsn zs' (n * i.size))) hl
        have hlen := relL_length hv2
        have s1 := hs.row vs.length ⟨vs⟩ e' (0, 0) (Nat.le_refl _)
        have hb : Below w.heap.size w (w.alloc (.cells ⟨vs⟩ e')) := (Below.refl _ _).alloc (Nat.le_refl _) _
        have hle := hs.row_le vs.length (⟨vs⟩ : Array Value)
        refine ⟨.slice (some ⟨w.heap.size, 0, none⟩) n n, _, _, ?_, hb, hle, fun b o v hv => ?_, ?_⟩
        · have hze : ((Array.range (n * i.size)).map fun k => zv.cells[k % zv.cells.size]!) = ⟨zsn zs' (n * i.size)⟩ := by
            rw [hz2]
            apply Array.ext'
            simp [zsn]
          have hbig' : ¬ (2 ^ 24 < n * i.size) := by omega
          have hne : ¬ (n * i.size = 0) := by omega
          have hf : Instr.fill (fun k => some (k * i.size, i.size)) (⟨zsn zs' (n * i.size)⟩ : Array Value) (parts.map fun p => (p.1, a.eval p.2)) = some ⟨vs⟩ := hv1
          simp only [execOp, Instr.buildSlice, Sem.run_bind, run_underlying hu, Result.andThen_ok, sizeOf, run_typeInfo w hi, Sem.run_pure, gt_iff_lt, hbig', if_false, hne, hz1]
          simp only [hze]
          simp [hf, newRow]
        · unfold Stab.row at hv
          split at hv
          · rename_i hbb
            subst hbb
            split at hv
            · exact .inr ⟨Nat.le_refl _, by rw [cell_of_block (cs := ⟨vs⟩) (ty := e') (fr := (0, 0)) (by show (w.heap.push _)[w.heap.size]? = _; rw [Array.getElem?_push, if_pos rfl])]; exact hv⟩
            · cases hv
          · exact .inl hv
        · show Rel _ (.list i.size ds) _
          rw [← hn]
          refine .list (Nat.le_refl _) (relE_of hc ?_)
          rw [hds]
          refine relP_of (RelL.mono hle hv2) fun k u hku => ?_
          rw [Nat.zero_add]
          show Stab.row _ _ _ _ _ _ = _
          unfold Stab.row
          rw [if_pos rfl, if_pos (List.getElem?_eq_some_iff.1 hku).1]
          simpa using hku
      · cases hk
    · cases hk
theorem f_max {t1 t2 : TypeId} {k : IntKind} {p q : Int} (hx : ev st x = some (.d (.sc (.int k p)))) (hy : ev st y = some (.d (.sc (.int k q)))) (hd : d < E.N) :
    FOk P E ⟨some d, .call ⟨.builtin .max, #[x, y], #[t1, t2]⟩, ty, pos, af, g⟩ st (evL x ++ evL y) [] [(.slot d, some (.d (.sc (.int k (if q > p then q else p)))))] :=
  fok_val rfl hd fun st' G a w hL hs => by
    have e1 := hs.sc ((ev_same hL fun l h => mem_l h).trans hx)
    have e2 := hs.sc ((ev_same hL fun l h => mem_r h).trans hy)
    exact ⟨_, by simp [execOp, resolve, invoke, builtin, e1, e2, Builtin.max_, Builtin.max2], .sc _⟩
theorem f_min {t1 t2 : TypeId} {k : IntKind} {p q : Int} (hx : ev st x = some (.d (.sc (.int k p)))) (hy : ev st y = some (.d (.sc (.int k q)))) (hd : d < E.N) :
    FOk P E ⟨some d, .call ⟨.builtin .min, #[x, y], #[t1, t2]⟩, ty, pos, af, g⟩ st (evL x ++ evL y) [] [(.slot d, some (.d (.sc (.int k (if q < p then q else p)))))] :=
  fok_val rfl hd fun st' G a w hL hs => by
    have e1 := hs.sc ((ev_same hL fun l h => mem_l h).trans hx)
    have e2 := hs.sc ((ev_same hL fun l h => mem_r h).trans hy)
    exact ⟨_, by simp [execOp, resolve, invoke, builtin, e1, e2, Builtin.min_, Builtin.min2], .sc _⟩
end Go.Ab

/- Contracts told over worlds, told over data. No program. -/
namespace Go.Ab
open Go Go.RowKit
mutual
def plainV : D → Option Value
  | .sc v => some v
  | .agg l => match plainVs l with
    | some vs => some (.agg ⟨vs⟩)
    | none => none
  | .tup l => match plainVs l with
    | some vs => some (.tuple ⟨vs⟩)
    | none => none
  | .list _ _ => none
  | .eptr _ => none
  | .any => none
  | .ifc _ _ => none
  | .room _ _ _ => none
  | .clo _ _ => none
def plainVs : List D → Option (List Value)
  | [] => some []
  | x :: l => match plainV x, plainVs l with
    | some v, some vs => some (v :: vs)
    | _, _ => none
end
mutual
theorem plain_rel {S : Stab} : ∀ {x : D} {v : Value}, plainV x = some v → Rel S x v
  | .sc _, v, h => by simp only [plainV, Option.some.injEq] at h; subst h; exact .sc _
  | .agg l, v, h => by
    simp only [plainV] at h
    split at h
    · rename_i vs hv; obtain rfl := Option.some.inj h; exact .agg (plains_rel hv)
    · cases h
  | .tup l, v, h => by
    simp only [plainV] at h
    split at h
    · rename_i vs hv; obtain rfl := Option.some.inj h; exact .tup (plains_rel hv)
    · cases h
  | .list _ _, v, h => by simp [plainV] at h
  | .eptr _, v, h => by simp [plainV] at h
  | .any, v, h => by simp [plainV] at h
  | .ifc _ _, v, h => by simp [plainV] at h
  | .room _ _ _, v, h => by simp [plainV] at h
  | .clo _ _, v, h => by simp [plainV] at h
theorem plains_rel {S : Stab} : ∀ {l : List D} {vs : List Value}, plainVs l = some vs → RelL S l vs
  | [], vs, h => by simp only [plainVs, Option.some.injEq] at h; subst h; exact .nil
  | x :: l, vs, h => by
    simp only [plainVs] at h
    split at h
    · rename_i v r hv hr; obtain rfl := Option.some.inj h; exact .cons (plain_rel hv) (plains_rel hr)
    · cases h
end
mutual
theorem rel_plain {S : Stab} : ∀ {x : D} {v u : Value}, plainV x = some v → Rel S x u → u = v
  | .sc _, v, u, h, hr => by simp only [plainV, Option.some.injEq] at h; rw [rel_sc hr, h]
  | .agg l, v, u, h, hr => by
    simp only [plainV] at h
    split at h
    · rename_i vs hv; obtain rfl := Option.some.inj h; cases hr with | agg hl => rw [rels_plain hv hl]
    · cases h
  | .tup l, v, u, h, hr => by
    simp only [plainV] at h
    split at h
    · rename_i vs hv; obtain rfl := Option.some.inj h; cases hr with | tup hl => rw [rels_plain hv hl]
    · cases h
  | .list _ _, v, u, h, _ => by simp [plainV] at h
  | .eptr _, v, u, h, _ => by simp [plainV] at h
  | .any, v, u, h, _ => by simp [plainV] at h
  | .ifc _ _, v, u, h, _ => by simp [plainV] at h
  | .room _ _ _, v, u, h, _ => by simp [plainV] at h
  | .clo _ _, v, u, h, _ => by simp [plainV] at h
theorem rels_plain {S : Stab} : ∀ {l : List D} {vs us : List Value}, plainVs l = some vs → RelL S l us → us = vs
  | [], vs, us, h, hr => by simp only [plainVs, Option.some.injEq] at h; cases hr; exact h
  | x :: l, vs, us, h, hr => by
    simp only [plainVs] at h
    split at h
    · rename_i v r hv hr'
      obtain rfl := Option.some.inj h
      cases hr with
      | cons h1 h2 => rw [rel_plain hv h1, rels_plain hr' h2]
    · cases h
end
theorem lift {P : Program} {Γ : World → Prop} {f : FuncId} {args : List D} {r : D} {vs : List Value} {u : Value} (ha : plainVs args = some vs) (hr : plainV r = some u)
    (h : ∀ w, Γ w → Calls P f ⟨vs⟩ w fun e w' => e = .returned u ∧ Below w.heap.size w w') : CallsP P Γ f args r := by
  intro S w us hg hS hus
  obtain rfl := rels_plain ha hus
  refine (h w hg).mono ?_
  rintro e w' ⟨he, hb⟩
  exact ⟨u, S, he, plain_rel hr, Stab.le.refl _, hb, fun _ _ _ q => .inl q⟩
theorem CallsP.calls {P : Program} {Γ : World → Prop} {f : FuncId} {args : List D} {r : D} {vs : List Value} {u : Value} (h : CallsP P Γ f args r) (ha : plainVs args = some vs) (hr : plainV r = some u) (w : World) (hg : Γ w) :
    Calls P f ⟨vs⟩ w fun e w' => e = .returned u ∧ Below w.heap.size w w' := by
  refine (h (fun _ _ => none) w vs hg (fun _ _ _ q => by cases q) (plains_rel ha)).mono ?_
  rintro e w' ⟨u', S', rfl, hrel, _, hb, _⟩
  rw [rel_plain hr hrel]
  exact ⟨rfl, hb⟩
end Go.Ab

/- Interface values, and the bytes of a string as a list. No program. -/
namespace Go.Ab
open Go Go.RowKit
variable {P : Program} {E : Env} {st : St} {d : Nat} {ty : TypeId} {pos : String} {af : Array Edge} {g : Option (Nat × Bool)} {x y : Operand}
def nif (P : Program) (t : TypeId) : Bool :=
  match P.underlying t with
  | some (.interface _) => false
  | some _ => true
  | none => false
theorem f_mkIface {t : TypeId} {u : Value} (hx : ev st x = some (.d (.sc u))) (ht : nif P t = true) (hd : d < E.N) :
    FOk P E ⟨some d, .makeInterface t x, ty, pos, af, g⟩ st (evL x) [] [(.slot d, some (.d (.sc (.iface t u))))] :=
  fok_val rfl hd fun st' G a w hL hs => by
    have e1 := hs.sc ((ev_same hL fun l h => h).trans hx)
    refine ⟨_, ?_, .sc _⟩
    unfold nif at ht
    split at ht
    · cases ht
    · rename_i u hu hne
      simp only [execOp, e1, Instr.makeInterface, Sem.run_bind, run_underlying hne, Result.andThen_ok]
      cases u <;> first | rfl | (exact absurd rfl (hu _))
    · cases ht
def bytesL (s : ByteArray) : List D := s.data.toList.map fun b => .sc (.int .u8 b.toNat)
theorem bytesL_length (s : ByteArray) : (bytesL s).length = s.size := by simp [bytesL]
theorem f_bytes {src dst e : TypeId} {s : ByteArray} (hx : ev st x = some (.d (.sc (.string s)))) (hs : (P.underlying src).isSome = true) (ht : P.underlying dst = some (.slice e)) (he : P.underlying e = some (.int .u8)) (hd : d < E.N) :
    FOk P E ⟨some d, .convert src dst x, ty, pos, af, g⟩ st (evL x) [] [(.slot d, some (.d (.list 1 (bytesL s))))] :=
  fok_later rfl hd fun st' G a w hL hsim => by
    have e1 := hsim.sc ((ev_same hL fun l h => h).trans hx)
    obtain ⟨u, hu⟩ := Option.isSome_iff_exists.mp hs
    have hr := Lib.run_convert_string_bytes (P := P) w src dst e s hu ht he
    have hcap : s.size ≤ grownCap w s.size 0 e := grownCap_ge _ _ _ _
    let cs : Array Value := ⟨s.data.toList.map fun b => Value.int .u8 b.toNat⟩
    have hcs : ∀ (o : Nat) (v : Value), (Stab.row G.S w.heap.size s.size cs) w.heap.size o = some v → (Lib.bytesWorld w e s).cell? ⟨w.heap.size, o, none⟩ = some v := by
      intro o v hv
      simp only [Stab.row, if_true] at hv
      split at hv
      · rename_i ho
        rw [Lib.bytesWorld_cell w e s o ho, ← hv]
        have ho' : o < s.data.size := ho
        simp only [cs, List.getElem?_toArray, List.getElem?_map, List.getD, Array.getElem?_toList, Array.getElem?_eq_getElem ho', Option.map_some, Option.getD_some]
      · cases hv
    refine ⟨_, _, Stab.row G.S w.heap.size s.size cs, by simp only [execOp, e1, Sem.run_bind, hr]; rfl, Lib.bytesWorld_below _ _ _, hsim.row_le _ _, fun b o v hv => ?_, ?_⟩
    · by_cases hb : b = w.heap.size
      · subst hb; exact .inr ⟨Nat.le_refl _, hcs o v hv⟩
      · left; simpa [Stab.row, hb] using hv
    · show Rel _ (.list 1 (bytesL s)) _
      rw [show s.size = (bytesL s).length from (bytesL_length s).symm]
      refine .list (by rw [bytesL_length]; exact hcap) (relE_of (fun q hq => ?_) ?_)
      · obtain ⟨b, _, rfl⟩ := List.mem_map.mp hq; rfl
      · have hf : flat (bytesL s) = bytesL s := by
          unfold flat bytesL
          induction s.data.toList with
          | nil => rfl
          | cons c l ih => simp only [List.map_cons, List.flatMap_cons, ih]; rfl
        rw [hf]
        have hrel : RelL G.S (bytesL s) cs.toList := by
          show RelL G.S (s.data.toList.map _) (s.data.toList.map _)
          induction s.data.toList with
          | nil => exact .nil
          | cons c l ih => exact .cons (.sc _) ih
        refine relP_of (us := cs.toList) (RelL.mono (hsim.row_le _ _) hrel) fun k u hk => ?_
        have hk' : k < s.size := by
          have h := (List.getElem?_eq_some_iff.mp hk).1
          simpa [cs] using h
        simp only [Nat.zero_add, Stab.row, if_true]
        rw [if_pos (by rw [bytesL_length]; exact hk')]
        simpa using hk
theorem f_ifNe {t yt : TypeId} {s : TypeId} {c : Value} (hx : ev st x = some (.d (.sc (.iface s c)))) (ht : P.isIface t = true) (hd : d < E.N) :
    FOk P E ⟨some d, .binOp .neq t x (.const .nilIface) yt, ty, pos, af, g⟩ st (evL x) [] [(.slot d, some (.d (.sc (.bool true))))] :=
  fok_val rfl hd fun st' G a w hL hs => by
    have e1 := hs.sc ((ev_same hL fun l h => h).trans hx)
    refine ⟨_, ?_, .sc _⟩
    have e2 : a.eval (.const .nilIface) = .nilIface := rfl
    have e3 : (eqGuard .neq t x (.const .nilIface) (.iface s c) .nilIface).run P w = .ok () w := rfl
    simp only [execOp, e1, e2, Sem.run_bind, e3, Result.andThen_ok, run_neq_iface_nil w t ht]
    rfl
theorem f_ifNe0 {t yt : TypeId} (hx : ev st x = some (.d (.sc .nilIface))) (ht : P.isIface t = true) (hd : d < E.N) :
    FOk P E ⟨some d, .binOp .neq t x (.const .nilIface) yt, ty, pos, af, g⟩ st (evL x) [] [(.slot d, some (.d (.sc (.bool false))))] :=
  fok_val rfl hd fun st' G a w hL hs => by
    have e1 := hs.sc ((ev_same hL fun l h => h).trans hx)
    refine ⟨_, ?_, .sc _⟩
    have e2 : a.eval (.const .nilIface) = .nilIface := rfl
    have e3 : (eqGuard .neq t x (.const .nilIface) .nilIface .nilIface).run P w = .ok () w := by cases x <;> rfl
    simp only [execOp, e1, e2, Sem.run_bind, e3, Result.andThen_ok, run_neq_nil_nil_at w t ht]
    rfl
theorem hits_via {X : Type} {c : Code} {Q : Exit → Act → World → Prop} (I : X → St) (J : X → Prop) (b : Nat) (h : (∀ x, J x → Hits E (I x) (Q (.exit b))) → Hits E st ((Code.loop c).wp P Q)) (h' : ∀ x, J x → Hits E (I x) (Q (.exit b))) : Hits E st ((Code.loop c).wp P Q) := h h'
theorem hits_out {X : Type} {I : X → St} {J : X → Prop} {K : Act → World → Prop} (h : ∀ x, J x → Hits E (I x) K) (x : X) (hJ : J x) (hk : (I x).kept st) (hb : (I x).boxed = true) : Hits E st K := fun G a w s => h x hJ G a w (s.keep hk hb)
end Go.Ab

