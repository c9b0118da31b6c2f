/- A function's code under a walk: statements, branches, loops, calls. No program. -/
import Derived.Test.YtbgeejmhkmjfdaaGreatDoorAbOps
namespace Go.Ab
open Go Go.RowKit
set_option linter.unusedVariables false
set_option linter.unusedSimpArgs false
variable {P : Program} {E : Env} {st : St} {G : Gh} {a : Act} {w : World} {Q : Exit → Act → World → Prop} {K : Act → World → Prop}
theorem lt {a b : Nat} (h : Nat.blt a b = true) : a < b := Nat.le_of_ble_eq_true h
theorem hits_seq {x y : Code} (h : Hits E st (x.wp P (Exit.then (y.wp P Q) Q))) : Hits E st ((Code.seq x y).wp P Q) := fun G a w s => wp_seq (h G a w s)
theorem hits_skip (h : Hits E st (Q .normal)) : Hits E st (Code.skip.wp P Q) := fun G a w s => wp_skip (h G a w s)
theorem hits_label {l : Nat} (h : Hits E st (Q .normal)) : Hits E st ((Code.label l).wp P Q) := fun G a w s => wp_label (h G a w s)
theorem hits_ret (h : Hits E st (Q .ret)) : Hits E st (Code.ret.wp P Q) := fun G a w s => wp_ret (h G a w s)
theorem hits_exit {id : Nat} (h : Hits E st (Q (.exit id))) : Hits E st ((Code.exit id).wp P Q) := fun G a w s => wp_exit (h G a w s)
theorem hits_block {id : Nat} {c : Code} (h : Hits E st (c.wp P (Exit.inBlock id Q))) : Hits E st ((Code.block id c).wp P Q) := fun G a w s => wp_block (h G a w s)
theorem hits_cond {c : Operand} {x y : Code} {t : Bool} (hc : ev st c = some (.d (.sc (.bool t)))) (ht : t = true → Hits E st (x.wp P Q)) (hf : t = false → Hits E st (y.wp P Q)) : Hits E st ((Code.cond c x y).wp P Q) :=
  fun G a w s => wp_cond_split (s.sc hc) (fun e => ht e G a w s) (fun e => hf e G a w s)
theorem to_next (h : Hits E st K) : Hits E st (Exit.then K Q .normal) := h
theorem to_exit {id : Nat} (h : Hits E st (Q (.exit id))) : Hits E st (Exit.then K Q (.exit id)) := h
theorem to_ret (h : Hits E st (Q .ret)) : Hits E st (Exit.then K Q .ret) := h
theorem in_next {id : Nat} (h : Hits E st (Q .normal)) : Hits E st (Exit.inBlock id Q .normal) := h
theorem in_ret {id : Nat} (h : Hits E st (Q .ret)) : Hits E st (Exit.inBlock id Q .ret) := h
theorem in_hit {id id' : Nat} (he : Nat.beq id' id = true) (h : Hits E st (Q .normal)) : Hits E st (Exit.inBlock id Q (.exit id')) := fun G a w s => by
  show if id' = id then _ else _
  rw [if_pos (Nat.eq_of_beq_eq_true he)]; exact h G a w s
theorem in_miss {id id' : Nat} (he : Nat.beq id' id = false) (h : Hits E st (Q (.exit id'))) : Hits E st (Exit.inBlock id Q (.exit id')) := fun G a w s => by
  show if id' = id then _ else _
  rw [if_neg (fun c => by subst c; simp at he)]; exact h G a w s
theorem exists_least {p : Nat → Prop} (h : ∃ n, p n) : ∃ n, p n ∧ ∀ k, p k → n ≤ k := by
  obtain ⟨n, hn⟩ := h
  induction n using Nat.strongRecOn with
  | _ n ih =>
    by_cases hk : ∃ k, k < n ∧ p k
    · obtain ⟨k, h1, h2⟩ := hk
      exact ih k h1 h2
    · exact ⟨n, hn, fun k hpk => by
        rcases Nat.lt_or_ge k n with h1 | h1
        · exact absurd ⟨k, h1, hpk⟩ hk
        · exact h1⟩
noncomputable def least (p : Nat → Prop) (h : ∃ n, p n) : Nat := Classical.choose (exists_least h)
theorem least_spec {p : Nat → Prop} (h : ∃ n, p n) : p (least p h) := (Classical.choose_spec (exists_least h)).1
theorem least_le {p : Nat → Prop} (h : ∃ n, p n) {k : Nat} (hk : p k) : least p h ≤ k := (Classical.choose_spec (exists_least h)).2 k hk
theorem hits_loop {X : Type} (I : X → St) (J : X → Prop) (m : X → Nat) (x0 : X) {c : Code} (h0 : J x0) (hk : (I x0).kept st) (hb : (I x0).boxed = true)
    (round : ∀ x, J x → Hits E (I x) (c.wp P (Exit.then (fun a w => ∃ x', J x' ∧ m x' < m x ∧ ∃ G, Sim E (I x') G a w) Q))) : Hits E st ((Code.loop c).wp P Q) := by
  intro G a w s
  classical
  let R : Act → World → Nat → Prop := fun a w n => ∃ x, m x = n ∧ J x ∧ ∃ G, Sim E (I x) G a w
  refine wp_loop (fun a w => ∃ n, R a w n) (fun a w => if h : ∃ n, R a w n then least _ h else 0) ⟨_, x0, rfl, h0, G, s.keep hk hb⟩ ?_
  intro a w hI
  obtain ⟨x, hx, hj, G', hs⟩ := least_spec hI
  refine wp_mono (round x hj G' a w hs) ?_
  intro e a' w' hq
  cases e with
  | normal =>
    obtain ⟨x', hj', hlt, hs'⟩ := hq
    have hI' : ∃ n, R a' w' n := ⟨_, x', rfl, hj', hs'⟩
    refine ⟨hI', ?_⟩
    rw [dif_pos hI', dif_pos hI]
    have h1 : least _ hI' ≤ m x' := least_le hI' ⟨x', rfl, hj', hs'⟩
    omega
  | _ => exact hq
theorem round_end {X : Type} {I : X → St} {J : X → Prop} {m : X → Nat} {x : X} (x' : X) (hj : J x') (hlt : m x' < m x) (hk : (I x').kept st) (hb : (I x').boxed = true) :
    Hits E st (fun a w => ∃ x', J x' ∧ m x' < m x ∧ ∃ G, Sim E (I x') G a w) := fun G a w s => ⟨x', hj, hlt, G, s.keep hk hb⟩
theorem hits_region {id : Nat} {l : List Oper} (h : Hits E st (wpList P l.toArray Q l)) : Hits E st ((Code.region id l.toArray false).wp P Q) := fun G a w s => wp_region_lit (h G a w s)
theorem hits_nil {ops : Array Oper} (h : Hits E st (Q .normal)) : Hits E st (wpList P ops Q []) := fun G a w s => wpList_nil (h G a w s)
def fresh (fr : List Nat) (st : St) : Bool := fr.all fun i => st.unused i
theorem sq {ops : Array Oper} {o : Oper} {l : List Oper} {L : List Loc} {fr : List Nat} {W : St} (hf : FOk P E o st L fr W) (hfr : fresh fr st = true) (hg : o.guard = none) (h : Hits E (W ++ st) (wpList P ops Q l)) :
    Hits E st (wpList P ops Q (o :: l)) := by
  have h1 := hf Q _ st (fun _ _ => rfl) (fun i hi => List.all_eq_true.1 hfr i hi) h
  intro G a w s
  unfold wpList
  rw [if_pos (by simp [Region.wanted, hg])]
  exact .inl (h1 G a w s)
theorem yielded_of {ops : Array Oper} {j t : Nat} {b : Bool} (s : Sim E st G a w) (hj : (ops[j]?).bind (·.dst) = some t) (hl : look st (.slot t) = some (.d (.sc (.bool b)))) (ht : t < E.N) : yielded ops a.tmps j = some b := by
  have e := rel_sc (s.slots t _ hl)
  unfold yielded
  rw [hj]
  simp only [Option.bind_some]
  have hs : t < a.tmps.size := by rw [s.tmps]; exact ht
  have e2 : a.tmps[t]? = some (.bool b) := by
    rw [Array.getElem?_eq_getElem hs]
    simpa [Array.getD, hs] using e
  rw [e2]
theorem sq_yes {ops : Array Oper} {o : Oper} {l : List Oper} {L : List Loc} {fr : List Nat} {W : St} {j t : Nat} {b : Bool} (hf : FOk P E o st L fr W) (hfr : fresh fr st = true) (hg : o.guard = some (j, b))
    (hj : (ops[j]?).bind (·.dst) = some t) (hl : look st (.slot t) = some (.d (.sc (.bool b)))) (ht : t < E.N) (h : Hits E (W ++ st) (wpList P ops Q l)) : Hits E st (wpList P ops Q (o :: l)) := by
  have h1 := hf Q _ st (fun _ _ => rfl) (fun i hi => List.all_eq_true.1 hfr i hi) h
  intro G a w s
  unfold wpList
  rw [if_pos (by simp [Region.wanted, hg, yielded_of s hj hl ht])]
  exact .inl (h1 G a w s)
def wantB (v : Value) (b : Bool) : Bool :=
  match v with
  | .bool c => c == b
  | _ => false
theorem not_wanted {ops : Array Oper} {j t : Nat} {b : Bool} {v : Value} (s : Sim E st G a w) (hj : (ops[j]?).bind (·.dst) = some t) (hl : look st (.slot t) = some (.d (.sc v))) (hb : wantB v b = false) (ht : t < E.N) : (yielded ops a.tmps j == some b) = false := by
  have e := rel_sc (s.slots t _ hl)
  unfold yielded
  rw [hj]
  simp only [Option.bind_some]
  have hs : t < a.tmps.size := by rw [s.tmps]; exact ht
  have e2 : a.tmps[t]? = some v := by
    rw [Array.getElem?_eq_getElem hs]
    simpa [Array.getD, hs] using e
  rw [e2]
  cases v <;> first | rfl | (simp only [wantB] at hb; simpa using hb)
theorem Sim.putU {d : Nat} (h : Sim E st G a w) (hd : d < E.N) : Sim E ((.slot d, some (.d (.sc undef))) :: st) G (a.put (some d) undef) w := h.put hd (.sc _)
theorem sq_no {ops : Array Oper} {o : Oper} {l : List Oper} {d j t : Nat} {b : Bool} {v : Value} (ho : o.dst = some d) (hg : o.guard = some (j, b))
    (hj : (ops[j]?).bind (·.dst) = some t) (hl : look st (.slot t) = some (.d (.sc v))) (hbc : wantB v b = false) (ht : t < E.N) (hd : d < E.N) (h : Hits E ((.slot d, some (.d (.sc undef))) :: st) (wpList P ops Q l)) : Hits E st (wpList P ops Q (o :: l)) := by
  intro G a w s
  unfold wpList
  rw [if_neg, ho]
  · exact h _ _ _ (s.putU hd)
  · simp only [Region.wanted, hg]
    rw [not_wanted s hj hl hbc ht]
    simp
def CallsP (P : Program) (Γ : World → Prop) (f : FuncId) (args : List D) (r : D) : Prop :=
  ∀ (S : Stab) (w : World) (us : List Value), Γ w → (∀ b o v, S b o = some v → w.cell? ⟨b, o, none⟩ = some v) → RelL S args us →
    Calls P f ⟨us⟩ w fun e w' => ∃ u S', e = .returned u ∧ Rel S' r u ∧ S.le S' ∧ Below w.heap.size w w' ∧ ∀ b o v, S' b o = some v → S b o = some v ∨ (w.heap.size ≤ b ∧ w'.cell? ⟨b, o, none⟩ = some v)
def enters (P : Program) (f : FuncId) : Bool :=
  match P.funcs[f]? with
  | some fn => fn.name != "runtime.NumGoroutine" && fn.body.isSome
  | none => false
theorem run_callFunc {f : FuncId} {args : Array Value} (h : enters P f = true) : (callFunc f args).run P w = .ok (.enter f args) w := by
  unfold enters at h
  cases hf : P.funcs[f]? with
  | none => rw [hf] at h; cases h
  | some fn =>
    rw [hf] at h
    simp only [Bool.and_eq_true, bne_iff_ne, ne_eq] at h
    obtain ⟨h1, h2⟩ := h
    obtain ⟨b, hb⟩ := Option.isSome_iff_exists.mp h2
    simp [callFunc, hf, h1, hb]
variable {d : Nat} {ty : TypeId} {pos : String} {af : Array Edge} {g : Option (Nat × Bool)} {x y z : Operand}
theorem f_call {f : FuncId} {xs : List Operand} {ats : Array TypeId} {ds : List D} {r : D} (hen : enters P f = true) (ha : evs st xs = some ds) (hc : CallsP P E.Γ f ds r) (hd : d < E.N) :
    FOk P E ⟨some d, .call ⟨.value (.func f), xs.toArray, ats⟩, ty, pos, af, g⟩ st (evsL xs) [] [(.slot d, some (.d r))] := by
  intro Q K st' hL _ hK G a w hs
  have h1 := hs.evs ((evs_same hL (fun l h => h)).trans ha)
  show Oper.upon P _ a K Q ((execOp a.eval _).run P w)
  have hrun : (execOp a.eval (⟨some d, .call ⟨.value (.func f), xs.toArray, ats⟩, ty, pos, af, g⟩ : Oper)).run P w = .ok (.enter f ⟨xs.map a.eval⟩) w := by
    simp [execOp, resolve, Act.eval, Deferred.ofValue, invoke, run_callFunc hen]
  rw [hrun]
  have h2 := hc G.S w (xs.map a.eval) (E.stab w hs.kw) hs.stable h1
  refine h2.mono ?_
  rintro e w' ⟨u, S', rfl, hr, hS, hb, hn⟩
  exact hK _ _ _ ((hs.later hb hS hn).put hd hr)
theorem f_callV {f : FuncId} {xs : List Operand} {ats : Array TypeId} {ds : List D} {r : D} (hx : ev st x = some (.d (.sc (.func (.func f) #[] #[])))) (hen : enters P f = true) (ha : evs st xs = some ds) (hc : CallsP P E.Γ f ds r) (hd : d < E.N) :
    FOk P E ⟨some d, .call ⟨.value x, xs.toArray, ats⟩, ty, pos, af, g⟩ st (evL x ++ evsL xs) [] [(.slot d, some (.d r))] := by
  intro Q K st' hL _ hK G a w hs
  have e1 := hs.sc ((ev_same hL fun l h => mem_l h).trans hx)
  have h1 := hs.evs ((evs_same hL (fun l h => mem_r h)).trans ha)
  show Oper.upon P _ a K Q ((execOp a.eval _).run P w)
  have hrun : (execOp a.eval (⟨some d, .call ⟨.value x, xs.toArray, ats⟩, ty, pos, af, g⟩ : Oper)).run P w = .ok (.enter f ⟨xs.map a.eval⟩) w := by
    simp [execOp, resolve, e1, Deferred.ofValue, invoke, run_callFunc hen]
  rw [hrun]
  have h2 := hc G.S w (xs.map a.eval) (E.stab w hs.kw) hs.stable h1
  refine h2.mono ?_
  rintro e w' ⟨u, S', rfl, hr, hS, hb, hn⟩
  exact hK _ _ _ ((hs.later hb hS hn).put hd hr)
def argRows : Nat → List D → St
  | _, [] => []
  | k, x :: l => (.slot k, some (.d x)) :: argRows (k + 1) l
theorem look_argRows (ds : List D) : ∀ k t, look (argRows k ds) (.slot t) = if k ≤ t then (ds[t - k]?).map V.d else none := by
  induction ds with
  | nil => intro k t; simp [argRows, look]
  | cons x l ih =>
    intro k t
    rw [argRows, look_cons, ih]
    by_cases h : k = t
    · subst h; simp
    · rw [if_neg (by simpa using h)]
      by_cases h2 : k ≤ t
      · rw [if_pos (by omega), if_pos h2, show t - k = (t - (k + 1)) + 1 from by omega, List.getElem?_cons_succ]
      · rw [if_neg (by omega), if_neg h2]
theorem look_argRows_ne (ds : List D) : ∀ k l, (∀ t, l ≠ .slot t) → look (argRows k ds) l = none := by
  induction ds with
  | nil => intro k l _; rfl
  | cons x r ih => intro k l h; rw [argRows, look_ne _ _ (fun c => h k c.symm), ih _ _ h]
def GS (Γ : World → Prop) : Prop := ∀ w w', Γ w → Below w.heap.size w w' → Γ w'
theorem KW.toBelow {w0 w : World} (h : KW w0 [] w) : Below w0.heap.size w0 w := ⟨h.os, h.tape, h.output, h.size, fun k hk => h.frame k hk (by simp)⟩
def PostP (E : Env) (r : D) (e : Ending) (w' : World) : Prop :=
  ∃ u S', e = .returned u ∧ Rel S' r u ∧ E.S0.le S' ∧ Below E.w0.heap.size E.w0 w' ∧ ∀ b o v, S' b o = some v → E.S0 b o = some v ∨ (E.w0.heap.size ≤ b ∧ w'.cell? ⟨b, o, none⟩ = some v)
theorem relL_getElem {S : Stab} : ∀ {l : List D} {us : List Value} {k : Nat} {v : D}, RelL S l us → l[k]? = some v → ∃ u, us[k]? = some u ∧ Rel S v u
  | _ :: _, _ :: _, 0, v, .cons h1 h2, hk => by simp at hk; subst hk; exact ⟨_, rfl, h1⟩
  | _ :: _, _ :: _, k + 1, v, .cons h1 h2, hk => by simpa using relL_getElem h2 (by simpa using hk)
theorem callsP_of {Γ : World → Prop} {f : FuncId} {fn : Func} {c : Code} {args : List D} {r : D} {n : Nat} (hΓ : GS Γ) (hf : P.funcs[f]? = some fn) (hb : fn.body = some c) (hn : fn.ntmps = n) (hl : Nat.ble args.length n = true)
    (h : ∀ (w0 : World) (S0 : Stab) (stab : ∀ w, KW w0 [] w → Γ w), Hits ⟨w0, [], [], S0, n, Γ, stab, #[]⟩ (argRows 0 args) (c.wp P (bodyPost P fn (PostP ⟨w0, [], [], S0, n, Γ, stab, #[]⟩ r)))) : CallsP P Γ f args r := by
  intro S w us hg hS hr
  let E : Env := ⟨w, [], [], S, n, Γ, fun w' k => hΓ w w' hg k.toBelow, #[]⟩
  have hlen := relL_length hr
  have hle : args.length ≤ n := Nat.le_of_ble_eq_true hl
  have h1 := h w S (fun w' k => hΓ w w' hg k.toBelow)
  have hs : Sim E (argRows 0 args) ⟨S, fun _ => 0, fun _ => 0, fun _ => false, fun _ => 0, fun _ => 0⟩ { tmps := (⟨us⟩ : Array Value) ++ Array.replicate (fn.ntmps - (⟨us⟩ : Array Value).size) undef, defers := [] } w := by
    have nb : ∀ i, look (argRows 0 args) (.box i) = none := fun i => look_argRows_ne args 0 _ (by simp)
    have nt : ∀ i, look (argRows 0 args) (.tip i) = none := fun i => look_argRows_ne args 0 _ (by simp)
    refine ⟨⟨rfl, rfl, rfl, Nat.le_refl _, fun _ _ _ => rfl⟩, Stab.le.refl _, fun _ _ _ e => .inl e, ?_, rfl, fun t v hv => ?_, fun i o v hv => ?_, fun i hi => absurd (nb i) hi, fun i j hi => absurd (nb i) hi, hS, fun i hi => absurd (nt i) hi, fun i j hi => absurd (nt i) hi, fun p hp => (List.not_mem_nil hp).elim, fun i qv l hl _ _ => (by rw [nt i] at hl; cases hl), fun i v hl => (by rw [look_argRows_ne args 0 _ (by simp)] at hl; cases hl), fun k v hl => (by rw [look_argRows_ne args 0 _ (by simp)] at hl; cases hl)⟩
    · show _ = n
      simp [hn]; omega
    · rw [look_argRows, if_pos (Nat.zero_le _), Nat.sub_zero] at hv
      simp only [Option.map_eq_some_iff] at hv
      obtain ⟨x, hx, rfl⟩ := hv
      obtain ⟨u, hu, hrel⟩ := relL_getElem hr hx
      show Rel S x _
      have e : ((⟨us⟩ : Array Value) ++ Array.replicate (fn.ntmps - (⟨us⟩ : Array Value).size) undef).getD t undef = u := by
        have ht : t < us.length := (List.getElem?_eq_some_iff.1 hu).1
        rw [Array.getD_eq_getD_getElem?, Array.getElem?_append_left (by simpa using ht)]
        simp [hu]
      rw [e]; exact hrel
    · rw [look_argRows_ne args 0 _ (by simp)] at hv; cases hv
  refine (calls_of_wp hf hb (h1 _ _ _ hs)).mono ?_
  rintro e w' ⟨u, S', h2, h3, h4, h5, h6⟩
  exact ⟨u, S', h2, h3, h4, h5, h6⟩
def resD (P : Program) (st : St) : ResultVar → Option D
  | .tmp t => match look st (.slot t) with
    | some (.d x) => some x
    | some (.own _ es l) => some (.list es l)
    | _ => none
  | .cell t ty => match look st (.slot t), kd P ty with
    | some p, some k => match ldV st k p with
      | some (.d x) => some x
      | _ => none
    | _, _ => none
def resDs (P : Program) (st : St) : List ResultVar → Option (List D)
  | [] => some []
  | r :: l => match resD P st r, resDs P st l with
    | some x, some q => some (x :: q)
    | _, _ => none
def packD : List D → D
  | [x] => x
  | l => .tup l
def resS (tmps : Array Value) : ResultVar → Sem Value
  | .tmp t => pure (tmps.getD t undef)
  | .cell a t => do loadVar t (← asAddr (tmps.getD a undef))
theorem results_eq (fn : Func) (tmps : Array Value) : results fn tmps = (do let vs ← fn.results.mapM (resS tmps); pure (if h : vs.size = 1 then vs[0] else .tuple vs)) := by
  unfold results
  congr 1
theorem Sim.load (hs : Sim E st G a w) {t : TypeId} {k : Bool × Nat} {p v : V} {u : Value} (hk : kd P t = some k) (hp : RelV G p u) (hv : ldV st k p = some v) :
    ∃ ad c, u = .pointer (some ad) ∧ (loadVar t ad).run P w = .ok c w ∧ RelV G v c := by
  obtain ⟨b, n⟩ := k
  cases p with
  | ptr id off =>
    have e2 : u = .pointer (some ⟨G.μ id, off, none⟩) := hp
    cases b with
    | false =>
      obtain ⟨_, cs, ty', cv, h4, h5, h6⟩ := hs.cells id off v hv
      exact ⟨_, cv, e2, run_loadVar1 hk ((cell_of_block h4).trans h5), h6⟩
    | true =>
      simp only [ldV, Option.map_eq_some_iff] at hv
      obtain ⟨l, hl, rfl⟩ := hv
      obtain ⟨us, h1, h2, h3⟩ := hs.cellsD hl
      exact ⟨_, .agg us.toArray, e2, run_loadVarN hk h1 h3, .agg h2⟩
  | d q =>
    cases q with
    | eptr l =>
      cases hp with
      | eptr hp =>
      rename_i b' o
      obtain ⟨us, h1, h2, h3⟩ := relP_vals hp
      have h3' : ∀ j u, us[j]? = some u → w.cell? ⟨b', o + j, none⟩ = some u := fun j u hu => hs.stable _ _ _ (h3 j u hu)
      cases b with
      | false =>
        cases l with
        | nil => simp [ldV] at hv
        | cons q l =>
          simp only [ldV, Option.some.injEq] at hv
          subst hv
          cases h2 with
          | cons h4 h5 =>
            rename_i u us'
            exact ⟨_, u, rfl, run_loadVar1 hk (show w.cell? ⟨b', o, none⟩ = some u from h3' 0 u (by simp)), h4⟩
      | true =>
        simp only [ldV] at hv
        split at hv
        · rename_i hle
          have hle' : n ≤ l.length := Nat.le_of_ble_eq_true hle
          obtain rfl := Option.some.inj hv
          have h6 := run_loadVarN (P := P) (w := w) (us := us.take n) hk (by simp; omega) (b := b') (o := o) (fun j u hu => h3' j u (by rw [List.getElem?_take] at hu; split at hu; exact hu; cases hu))
          exact ⟨_, _, rfl, h6, .agg (relL_take n h2)⟩
        · cases hv
    | _ => simp [ldV] at hv
  | _ => simp [ldV] at hv
theorem Sim.resD (hs : Sim E st G a w) {r : ResultVar} {x : D} (h : Ab.resD P st r = some x) : ∃ u, (resS a.tmps r).run P w = .ok u w ∧ Rel G.S x u := by
  cases r with
  | tmp t =>
    simp only [Ab.resD] at h
    split at h
    · rename_i q hq; obtain rfl := Option.some.inj h; exact ⟨_, rfl, hs.slots t _ hq⟩
    · rename_i id es l hq; obtain rfl := Option.some.inj h; exact ⟨_, rfl, relV_own (hs.slots t _ hq)⟩
    · cases h
  | cell t ty =>
    simp only [Ab.resD] at h
    split at h
    · rename_i p k hp hk
      split at h
      · rename_i x' hv
        obtain rfl := Option.some.inj h
        obtain ⟨ad, c, e1, e2, e3⟩ := hs.load hk (hs.slots t p hp) hv
        exact ⟨c, by simp only [resS, e1, asAddr, Sem.run_bind, Sem.run_pure, Result.andThen_ok, e2], e3⟩
      · cases h
    · cases h
theorem Sim.resDs (hs : Sim E st G a w) : ∀ {l : List ResultVar} {ds : List D}, Ab.resDs P st l = some ds → ∃ us, (l.mapM (resS a.tmps)).run P w = .ok us w ∧ RelL G.S ds us
  | [], ds, h => by obtain rfl := Option.some.inj h; exact ⟨[], rfl, .nil⟩
  | r :: l, ds, h => by
    unfold Ab.resDs at h
    split at h
    · rename_i x q hx hq
      obtain rfl := Option.some.inj h
      obtain ⟨u, h1, h2⟩ := hs.resD hx
      obtain ⟨us, h3, h4⟩ := Sim.resDs hs hq
      exact ⟨u :: us, by simp [List.mapM_cons, h1, h3], .cons h2 h4⟩
    · cases h
theorem hits_done {fn : Func} {ds : List D} {r : D} {e : Exit} (he : e = .ret ∨ e = .normal) (ho : E.outs = []) (hr : resDs P st fn.results.toList = some ds) (hp : packD ds = r) : Hits E st (bodyPost P fn (PostP E r) e) := by
  intro G a w s
  obtain ⟨us, h1, h2⟩ := s.resDs hr
  have hb : Below E.w0.heap.size E.w0 w := by have := s.kw; rw [ho] at this; exact this.toBelow
  have hn : ∀ b o v, G.S b o = some v → E.S0 b o = some v ∨ (E.w0.heap.size ≤ b ∧ w.cell? ⟨b, o, none⟩ = some v) := fun b o v hv => (s.snew b o v hv).imp id fun q => ⟨q.elim id (fun q => by rw [ho] at q; cases q), s.stable b o v hv⟩
  have key : ∃ u, (results fn a.tmps).run P w = .ok u w ∧ Rel G.S r u := by
    rw [results_eq, Array.mapM_eq_mapM_toList]
    simp only [Sem.run_bind, Sem.run_map, h1, Result.andThen_ok, Sem.run_pure]
    subst hp
    cases h2 with
    | nil => exact ⟨_, rfl, .tup .nil⟩
    | cons h3 h4 =>
      cases h4 with
      | nil => exact ⟨_, rfl, h3⟩
      | cons h5 h6 => exact ⟨_, by simp, .tup (.cons h3 (.cons h5 h6))⟩
  obtain ⟨u, hu, hrel⟩ := key
  rcases he with rfl | rfl
  · exact ⟨s.defers, u, hu, u, G.S, rfl, hrel, s.s0, hb, hn⟩
  · exact ⟨s.defers, u, hu, u, G.S, rfl, hrel, s.s0, hb, hn⟩
end Go.Ab
