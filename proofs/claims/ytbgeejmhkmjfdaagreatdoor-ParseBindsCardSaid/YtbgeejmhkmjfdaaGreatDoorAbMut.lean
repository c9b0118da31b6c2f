/- Lists that may be written to: calls that hand back a list of their own, elements read and written, the list made fast again. No program. -/
import Derived.Test.YtbgeejmhkmjfdaaGreatDoorAbEq
namespace Go.Ab
open Go Go.RowKit
set_option linter.unusedVariables false
set_option linter.unusedSimpArgs false
variable {P : Program} {E : Env} {st : St} {G : Gh} {a : Act} {w : World} {Q : Exit → Act → World → Prop} {d : Nat} {ty : TypeId} {pos : String} {af : Array Edge} {g : Option (Nat × Bool)} {x y : Operand}

/-! ### A call that hands back a list of its own -/

/-- A list of plain values in a block that is new, or none. -/
def NewL (w0 : World) (w : World) (es : Nat) (vs : List Value) (n : Nat) (u : Value) : Prop :=
  (n = 0 ∧ vs = [] ∧ u = .slice none 0 0) ∨ ∃ b o cap cs ty, w0.heap.size ≤ b ∧ u = .slice (some ⟨b, o, none⟩) n cap ∧ n ≤ cap ∧ w.heap[b]? = some (.cells cs ty (0, 0)) ∧ o + cap * es ≤ cs.size ∧ ∀ k v, vs[k]? = some v → cs[o + k]? = some v

/-- Called with these data the function hands back a list of its own, of n elements with these cells, and those plain values. -/
def CallsN (P : Program) (Γ : World → Prop) (f : FuncId) (args : List D) (es n : Nat) (vs rest : List Value) : Prop :=
  ∀ (S : Stab) (w : World) (us : List Value), Γ w → (∀ b o v, S b o = some v → w.cell? ⟨b, o, none⟩ = some v) → RelL S args us →
    Calls P f ⟨us⟩ w fun e w' => ∃ u, e = .returned (.tuple ⟨u :: rest⟩) ∧ NewL w w' es vs n u ∧ Below w.heap.size w w'

def PostN (E : Env) (es n : Nat) (vs rest : List Value) (e : Ending) (w' : World) : Prop :=
  ∃ u, e = .returned (.tuple ⟨u :: rest⟩) ∧ NewL E.w0 w' es vs n u ∧ Below E.w0.heap.size E.w0 w'

theorem callsG_of {Γ : World → Prop} {f : FuncId} {fn : Func} {c : Code} {args : List D} {R : World → Stab → Ending → World → Prop} {N : Nat} (hΓ : GS Γ) (hf : P.funcs[f]? = some fn) (hb : fn.body = some c) (hn : fn.ntmps = N) (hl : Nat.ble args.length N = true)
    (h : ∀ (w0 : World) (S0 : Stab) (stab : ∀ w, KW w0 [] w → Γ w), Hits ⟨w0, [], [], S0, N, Γ, stab, #[]⟩ (argRows 0 args) (c.wp P (bodyPost P fn (R w0 S0)))) :
    ∀ (S : Stab) (w : World) (us : List Value), Γ w → (∀ b o v, S b o = some v → w.cell? ⟨b, o, none⟩ = some v) → RelL S args us → Calls P f ⟨us⟩ w (R w S) := by
  intro S w us hg hS hr
  -- the frame's start is as at callsP_of: told there; here its walk is asked
  have hlen := relL_length hr
  have hle : args.length ≤ N := Nat.le_of_ble_eq_true hl
  let E : Env := ⟨w, [], [], S, N, Γ, fun w' k => hΓ w w' hg k.toBelow, #[]⟩
  have h1 := h w S (fun w' k => hΓ w w' hg k.toBelow)
  have hs : Sim E (argRows 0 args) ⟨S, fun _ => 0, fun _ => 0, fun _ => false, fun _ => 0, fun _ => 0⟩ { tmps := (⟨us⟩ : Array Value) ++ Array.replicate (fn.ntmps - (⟨us⟩ : Array Value).size) undef, defers := [] } w := by
    have nb : ∀ i, look (argRows 0 args) (.box i) = none := fun i => look_argRows_ne args 0 _ (by simp)
    have nt : ∀ i, look (argRows 0 args) (.tip i) = none := fun i => look_argRows_ne args 0 _ (by simp)
    refine ⟨⟨rfl, rfl, rfl, Nat.le_refl _, fun _ _ _ => rfl⟩, Stab.le.refl _, fun _ _ _ e => .inl e, ?_, rfl, fun t v hv => ?_, fun i o v hv => ?_, fun i hi => absurd (nb i) hi, fun i j hi => absurd (nb i) hi, hS, fun i hi => absurd (nt i) hi, fun i j hi => absurd (nt i) hi, fun p hp => (List.not_mem_nil hp).elim, fun i qv l hl _ _ => (by rw [nt i] at hl; cases hl), fun i v hl => (by rw [look_argRows_ne args 0 _ (by simp)] at hl; cases hl), fun k v hl => (by rw [look_argRows_ne args 0 _ (by simp)] at hl; cases hl)⟩
    · show _ = N
      simp [hn]; omega
    · rw [look_argRows, if_pos (Nat.zero_le _), Nat.sub_zero] at hv
      simp only [Option.map_eq_some_iff] at hv
      obtain ⟨x, hx, rfl⟩ := hv
      obtain ⟨u, hu, hrel⟩ := relL_getElem hr hx
      show Rel S x _
      have e : ((⟨us⟩ : Array Value) ++ Array.replicate (fn.ntmps - (⟨us⟩ : Array Value).size) undef).getD t undef = u := by
        have ht : t < us.length := (List.getElem?_eq_some_iff.1 hu).1
        rw [Array.getD_eq_getD_getElem?, Array.getElem?_append_left (by simpa using ht)]
        simp [hu]
      rw [e]; exact hrel
    · rw [look_argRows_ne args 0 _ (by simp)] at hv; cases hv
  exact calls_of_wp hf hb (h1 _ _ _ hs)

theorem callsN_of {Γ : World → Prop} {f : FuncId} {fn : Func} {c : Code} {args : List D} {es n : Nat} {vs rest : List Value} {N : Nat} (hΓ : GS Γ) (hf : P.funcs[f]? = some fn) (hb : fn.body = some c) (hn : fn.ntmps = N) (hl : Nat.ble args.length N = true)
    (h : ∀ (w0 : World) (S0 : Stab) (stab : ∀ w, KW w0 [] w → Γ w), Hits ⟨w0, [], [], S0, N, Γ, stab, #[]⟩ (argRows 0 args) (c.wp P (bodyPost P fn (PostN ⟨w0, [], [], S0, N, Γ, stab, #[]⟩ es n vs rest)))) : CallsN P Γ f args es n vs rest := by
  intro S w us hg hS hr
  refine (callsG_of (R := fun w0 S0 => PostN ⟨w0, [], [], S0, N, fun _ => True, fun _ _ => trivial, #[]⟩ es n vs rest) hΓ hf hb hn hl h S w us hg hS hr).mono ?_
  rintro e w' ⟨u, h2, h3, h4⟩
  exact ⟨u, h2, h3, h4⟩

/-- Handed back: a list that is the walk's own, and plain values. -/
theorem hits_doneN {fn : Func} {e : Exit} {t0 id es : Nat} {l : List D} {rs : List ResultVar} {vs rest : List Value} {ds : List D} (he : e = .ret ∨ e = .normal) (ho : E.outs = []) (hfr : fn.results.toList = .tmp t0 :: rs) (hne : rs ≠ []) (hl : look st (.slot t0) = some (.own id es l)) (htip : (look st (.tip id)).isSome = true)
    (hr : resDs P st rs = some ds) (hp : plainVs ds = some rest) (hv : plainVs (flat l) = some vs) {n : Nat} (hn : l.length = n) : Hits E st (bodyPost P fn (PostN E es n vs rest) e) := by
  subst hn
  intro G a w s
  obtain ⟨us, h1, h2⟩ := s.resDs hr
  obtain rfl := rels_plain hp h2
  have hb : Below E.w0.heap.size E.w0 w := by have := s.kw; rw [ho] at this; exact this.toBelow
  have hu := s.slots t0 _ hl
  have key : (results fn a.tmps).run P w = .ok (.tuple ⟨a.tmps.getD t0 undef :: us⟩) w := by
    rw [results_eq, Array.mapM_eq_mapM_toList, hfr]
    have h3 : ((ResultVar.tmp t0 :: rs).mapM (resS a.tmps)).run P w = .ok (a.tmps.getD t0 undef :: us) w := by
      rw [List.mapM_cons]
      have hz : (resS a.tmps (.tmp t0)).run P w = .ok (a.tmps.getD t0 undef) w := rfl
      simp only [Sem.run_bind, hz, h1, Result.andThen_ok, Sem.run_pure]
    simp only [Sem.run_bind, Sem.run_map, h3, Result.andThen_ok, Sem.run_pure]
    have : us ≠ [] := by
      intro c
      subst c
      have := relL_length h2
      cases rs with
      | nil => exact hne rfl
      | cons r rs =>
        simp only [resDs] at hr
        split at hr
        · cases hr; simp at this
        · cases hr
    cases us with
    | nil => exact absurd rfl this
    | cons u us => simp
  have fin : PostN E es l.length vs us (.returned (.tuple ⟨a.tmps.getD t0 undef :: us⟩)) w := by
    refine ⟨_, rfl, ?_, hb⟩
    rcases hu with ⟨h3, rfl, h4⟩ | ⟨h3, o, cap, h4, h5, h6, h7, h8⟩
    · rw [h4]
      have : vs = [] := by simp [flat, plainVs] at hv; exact hv
      exact .inl ⟨rfl, this, rfl⟩
    · have htn : look st (.tip id) ≠ none := by intro c; rw [c] at htip; cases htip
      obtain ⟨t1, ⟨cs, ty, t2, t3⟩, _⟩ := s.tips id htn h3
      have t1' : E.w0.heap.size ≤ G.tb id := t1.elim (fun q => q) (fun q => by rw [ho] at q; cases q)
      obtain ⟨hpx, hlx, _⟩ := relE_flat h6
      obtain ⟨olds, ho1, ho2, ho3⟩ := relP_vals hpx
      obtain rfl := rels_plain hv ho2
      refine .inr ⟨G.tb id, o, cap, cs, ty, t1', h4, h5, t2, by omega, fun k v hk => ?_⟩
      have := s.stable _ _ _ (ho3 k v hk)
      rwa [cell_of_block t2] at this
  rcases he with rfl | rfl
  · exact ⟨s.defers, _, key, fin⟩
  · exact ⟨s.defers, _, key, fin⟩

theorem sq_callN {ops : Array Oper} {l : List Oper} {f : FuncId} {xs : List Operand} {ats : Array TypeId} {ds : List D} {es n : Nat} {cs0 : List D} {vs rest : List Value} (hen : enters P f = true) (ha : evs st xs = some ds) (hc : CallsN P E.Γ f ds es n vs rest) (hpl : plainVs cs0 = some vs) (hlen : cs0.length = n * es) (hd : d < E.N)
    (h : Hits E ((.slot d, some (.tup (.mo d es n :: rest.map fun v => .d (.sc v)))) :: (.tip d, some (.contD cs0)) :: dull d st) (wpList P ops Q l)) :
    Hits E st (wpList P ops Q (⟨some d, .call ⟨.value (.func f), xs.toArray, ats⟩, ty, pos, af, none⟩ :: l)) := by
  intro G a w s
  unfold wpList
  rw [if_pos (by simp [Region.wanted])]
  refine .inl ?_
  show Oper.upon P _ a _ Q ((execOp a.eval _).run P w)
  have hrun : (execOp a.eval (⟨some d, .call ⟨.value (.func f), xs.toArray, ats⟩, ty, pos, af, none⟩ : Oper)).run P w = .ok (.enter f ⟨xs.map a.eval⟩) w := by
    have ef : a.eval (.func f) = .func (.func f) #[] #[] := rfl
    simp [execOp, resolve, ef, Deferred.ofValue, invoke, run_callFunc hen]
  rw [hrun]
  refine (hc G.S w (xs.map a.eval) (E.stab w s.kw) s.stable (s.evs ha)).mono ?_
  rintro e w' ⟨u, rfl, hnew, hbel⟩
  have s1 := s.later0 hbel
  have relScs : ∀ (G' : Gh) (vs : List Value), RelVL G' (vs.map fun v => .d (.sc v)) vs := by
    intro G' vs
    induction vs with
    | nil => exact relVL_nil
    | cons v vs ih => exact relVL_cons (show Rel _ _ _ from .sc v) ih
  have relDs : ∀ (G' : Gh) {l : List D} {us : List Value}, RelL G'.S l us → RelVL G' (l.map .d) us := by
    intro G' l
    induction l with
    | nil => intro us h; cases h; exact relVL_nil
    | cons q l ih => intro us h; cases h with | cons h1 h2 => exact relVL_cons h1 (ih h2)
  rcases hnew with ⟨rfl, rfl, rfl⟩ | ⟨b, o, cap, cs, t, h1, rfl, h2, h3, h4, h5⟩
  · obtain rfl : cs0 = [] := List.length_eq_zero_iff.mp (by rw [hlen]; exact Nat.zero_mul _)
    have s2 := s1.retipC (id := d) (b := 0) (n := 0) (z := 0) (k := false) (vt := .contD []) (fun c => by cases c) (fun l _ c => by cases c)
    refine h _ _ _ (s2.put hd ?_)
    simp only [RelV]
    refine ⟨_, rfl, relVL_cons ?_ (relScs _ rest)⟩
    simp only [RelV]
    exact .inl ⟨by simp [upd], trivial, trivial⟩
  · have hb : b < w'.heap.size := lt_of_block h3
    have none' : ∀ o, G.S b o = none := fun o => by
      cases hv : G.S b o with
      | none => rfl
      | some v => have := lt_of_cell (s.stable _ _ _ hv); omega
    have hcap : n * es ≤ cap * es := Nat.mul_le_mul_right _ h2
    have s2 := s1.retipC (id := d) (b := b) (n := o + n * es) (z := o + cap * es) (k := true) (vt := .contD cs0)
      (fun _ => ⟨.inl (Nat.le_trans s.size h1), ⟨cs, t, h3, h4⟩, fun o _ => none' o, fun j hj hc => by have := (s.boxes j hj).2.1; have hc' : G.μ j = b := hc; omega, fun j hj hl hk hc => by
        obtain ⟨_, ⟨cs', ty', q2, _⟩, _⟩ := s.tips j hl hk
        have := lt_of_block q2
        have hc' : G.tb j = b := hc
        omega⟩)
      (fun l hl _ => by
        cases hl
        exact ⟨none', o, vs, cs, t, h3, by rw [List.length_map, hlen], by omega, relDs _ (plains_rel hpl), h5⟩)
    refine h _ _ _ (s2.put hd ?_)
    simp only [RelV]
    refine ⟨_, rfl, relVL_cons ?_ (relScs _ rest)⟩
    simp only [RelV]
    exact .inr ⟨by simp [upd], o, cap, by simp [upd], h2, by simp [upd], by simp [upd]⟩

/-! ### Its elements -/

theorem f_extractV {k : Nat} {l : List V} {v : V} (hx : ev st x = some (.tup l)) (hk : l[k]? = some v) (hd : d < E.N) :
    FOk P E ⟨some d, .extract x k, ty, pos, af, g⟩ st (evL x) [] [(.slot d, some v)] :=
  fok_val rfl hd fun st' G a w hL hs => by
    have e1 := hs.ev ((ev_same hL fun l h => h).trans hx)
    simp only [RelV] at e1
    obtain ⟨cs, h1, h2⟩ := e1
    obtain ⟨_, hget⟩ := relVL_get h2
    obtain ⟨c, hc, hr⟩ := hget k v hk
    exact ⟨c, by simp [execOp, h1, Instr.extract, hc], hr⟩

theorem f_lenMo {t e : TypeId} {id es n : Nat} (hx : ev st x = some (.mo id es n)) (ht : P.underlying t = some (.slice e)) (hd : d < E.N) :
    FOk P E ⟨some d, .call ⟨.builtin .len, #[x], #[t]⟩, ty, pos, af, g⟩ st (evL x) [] [(.slot d, some (.d (.sc (.int .i64 (n : Int)))))] :=
  fok_val rfl hd fun st' G a w hL hs => by
    have e1 := hs.ev ((ev_same hL fun l h => h).trans hx)
    refine ⟨.int .i64 n, ?_, .sc _⟩
    simp only [RelV] at e1
    rcases e1 with ⟨_, rfl, e1⟩ | ⟨_, o, cap, e1, _⟩ <;> simp [execOp, resolve, e1, invoke, builtin, Builtin.len_, run_underlying ht, goInt]

theorem f_idxMo {t e : TypeId} {id es n : Nat} {b : Bool} {k : IntKind} {i : Nat} (hx : ev st x = some (.mo id es n)) (hy : ev st y = some (.d (.sc (.int k (i : Int))))) (ht : P.underlying t = some (.slice e)) (hk : kd P e = some (b, es)) (hi : i < n) (hd : d < E.N) :
    FOk P E ⟨some d, .indexAddr t x y, ty, pos, af, g⟩ st (evL x ++ evL y) [] [(.slot d, some (.mptr id (n * es) (i * es)))] :=
  fok_val rfl hd fun st' G a w hL hs => by
    have e1 := hs.ev ((ev_same hL fun l h => mem_l h).trans hx)
    have e2 := hs.sc ((ev_same hL fun l h => mem_r h).trans hy)
    obtain ⟨_, hsz, _⟩ := kd_spec hk
    simp only [RelV] at e1
    rcases e1 with ⟨_, rfl, _⟩ | ⟨h1, o, cap, h2, h3, h4, h5⟩
    · omega
    · refine ⟨.pointer (some ⟨G.tb id, o + i * es, none⟩), ?_, ?_⟩
      · have hin : 0 ≤ (i : Int) ∧ (i : Int) < (n : Int) := ⟨by omega, by omega⟩
        simp [execOp, h2, e2, Instr.indexAt, asIntOf, run_underlying ht, hin, hsz, add_at]
        intro q; omega
      · simp only [RelV]
        exact ⟨h1, o, rfl, h4⟩

theorem f_fieldAddrM {s : TypeId} {k off id n o : Nat} (hx : ev st x = some (.mptr id n o)) (hk : kf P s k = some off) (hd : d < E.N) :
    FOk P E ⟨some d, .fieldAddr s x k, ty, pos, af, g⟩ st (evL x) [] [(.slot d, some (.mptr id n (o + off)))] :=
  fok_val rfl hd fun st' G a w hL hs => by
    have e1 := hs.ev ((ev_same hL fun l h => h).trans hx)
    simp only [RelV] at e1
    obtain ⟨h1, o', h2, h3⟩ := e1
    refine ⟨.pointer (some ⟨G.tb id, o' + o + off, none⟩), by simp [execOp, h2, run_fieldAt hk], ?_⟩
    simp only [RelV]
    exact ⟨h1, o', by rw [Nat.add_assoc], h3⟩

theorem Sim.contAt (hs : Sim E st G a w) {id n off : Nat} {l : List V} {u : Value} {q : V} (hp : RelV G (.mptr id n off) u) (hl : look st (.tip id) = some q) (hq : q.contL = some l) (hn : n = l.length) :
    ∃ o us cs t, u = .pointer (some ⟨G.tb id, o + off, none⟩) ∧ w.heap[G.tb id]? = some (.cells cs t (0, 0)) ∧ G.te id = o + l.length ∧ G.te id ≤ cs.size ∧ RelVL G l us ∧ (∀ k u, us[k]? = some u → cs[o + k]? = some u) ∧ G.tk id = true ∧ ∀ o, G.S (G.tb id) o = none := by
  simp only [RelV] at hp
  obtain ⟨h1, o, h2, h3⟩ := hp
  obtain ⟨q1, o', us, cs, t, q2, q3, q4, q5, q6⟩ := hs.conts id _ l hl hq h1
  obtain rfl : o = o' := by omega
  exact ⟨o, us, cs, t, h2, q2, q3.symm, q4, q5, q6, h1, q1⟩

/-- A cell of an element is read. -/
theorem f_loadM {t : TypeId} {c id n off : Nat} {l : List V} {v q : V} (hk : kd P t = some (false, c)) (hx : ev st x = some (.mptr id n off)) (hl : look st (.tip id) = some q) (hq : q.contL = some l) (hn : n = l.length) (hv : l[off]? = some v) (hd : d < E.N) :
    FOk P E ⟨some d, .load t x, ty, pos, af, g⟩ st (evL x ++ [.tip id]) [] [(.slot d, some v)] :=
  fok_val rfl hd fun st' G a w hL hs => by
    have e1 := hs.ev ((ev_same hL fun l h => mem_l h).trans hx)
    obtain ⟨o, us, cs, t', h1, h2, h3, h4, h5, h6, _⟩ := hs.contAt e1 ((hL (.tip id) (mem_r (by simp))).trans hl) hq hn
    obtain ⟨_, hget⟩ := relVL_get h5
    obtain ⟨u, hu, hr⟩ := hget off v hv
    exact ⟨u, by simp [execOp, h1, Instr.loadAt, Instr.sureAddr, run_loadVar1 hk ((cell_of_block h2).trans (h6 off u hu))], hr⟩

theorem relVL_set {G : Gh} : ∀ {l : List V} {us : List Value} {k : Nat} {v : V} {u : Value}, RelVL G l us → RelV G v u → RelVL G (l.set k v) (us.set k u)
  | [], us, k, v, u, h, _ => by simp only [RelVL] at h; subst h; simpa using relVL_nil
  | x :: l, us, k, v, u, h, hv => by
    simp only [RelVL] at h
    obtain ⟨y, r, rfl, h1, h2⟩ := h
    cases k with
    | zero => exact relVL_cons hv h2
    | succ k => exact relVL_cons h1 (relVL_set h2 hv)

/-- A cell of a list that may be written to is written. -/
theorem Sim.storeM {id off : Nat} {l : List V} {v : V} {u : Value} {cs : Array Value} {t : TypeId} {o : Nat} {us : List Value} {q : V} (h : Sim E st G a w) (hl : look st (.tip id) = some q) (hv : RelV G v u) (ht : G.tk id = true) (hold : w.heap[G.tb id]? = some (.cells cs t (0, 0))) (hte : G.te id = o + l.length) (hsz : G.te id ≤ cs.size)
    (hr : RelVL G l us) (hget : ∀ k u, us[k]? = some u → cs[o + k]? = some u) (hoff : off < l.length) (hS : ∀ o, G.S (G.tb id) o = none) : Sim E ((.tip id, some (.cont (l.set off v))) :: st) G a (w.setRow (G.tb id) (splice cs (o + off) [u])) := by
  have htn : look st (.tip id) ≠ none := by rw [hl]; simp
  obtain ⟨t1, t2, t3, t4⟩ := h.tips id htn ht
  have hfit : o + off + [u].length ≤ cs.size := by simp; omega
  have es : ∀ k, k ≠ .tip id → look ((Loc.tip id, some (V.cont (l.set off v))) :: st) k = look st k := fun k hk => look_ne _ _ (fun c => hk c.symm)
  have et : ∀ i, look ((Loc.tip id, some (V.cont (l.set off v))) :: st) (.tip i) ≠ none → look st (.tip i) ≠ none := fun i hh => by
    rw [look_cons] at hh
    split at hh
    · rename_i he; obtain rfl : id = i := by simpa using he
      exact htn
    · exact hh
  refine ⟨⟨h.kw.os, h.kw.tape, h.kw.output, by rw [setRow_size]; exact h.size, fun k hk ho => ?_⟩, h.s0, h.snew, h.tmps, h.defers, fun t v hl => ?_, fun i o v hl => ?_, fun i hi => ?_, fun i j hi hj => ?_, fun b o v hS' => ?_, fun i hi hti => ?_, fun i j hi hj => h.tinj i j (et i hi) (et j hj), fun p hp => ⟨(h.rcv p hp).1, fun hi => (h.rcv p hp).2 (by rw [es _ (by simp)] at hi; exact hi)⟩, fun i qv l' hl' hcl hti => ?_, fun i v hl => ?_, fun k v hl => h.olds k v (by rw [es _ (by simp)] at hl; exact hl)⟩
  · rw [heap_setRow_ne _ _ _ _ (by rintro rfl; rcases t1 with q | q; omega; exact ho q)]; exact h.kw.frame k hk ho
  · rw [es _ (by simp)] at hl; exact h.slots t v hl
  · rw [es _ (by simp)] at hl
    obtain ⟨q1, cs', ty', cv, q2, q3, q4⟩ := h.cells i o v hl
    exact ⟨by rw [es _ (by simp)]; exact q1, cs', ty', cv, by rw [heap_setRow_ne _ _ _ _ (t4 i q1)]; exact q2, q3, q4⟩
  · rw [es _ (by simp)] at hi
    obtain ⟨q1, q2, q3⟩ := h.boxes i hi
    exact ⟨q1, by rw [setRow_size]; exact q2, q3⟩
  · rw [es _ (by simp)] at hi hj; exact h.inj i j hi hj
  · rw [cell_setRow_ne _ _ _ (by rintro rfl; rw [hS] at hS'; cases hS')]; exact h.stable b o v hS'
  · obtain ⟨q1, ⟨cs', ty', q2, q3⟩, q4, q5⟩ := h.tips i (et i hi) hti
    refine ⟨q1, ?_, q4, fun j hj => q5 j (by rw [es _ (by simp)] at hj; exact hj)⟩
    by_cases hb : G.tb i = G.tb id
    · rw [hb] at q2 ⊢
      rw [hold] at q2
      cases q2
      exact ⟨_, t, heap_setRow_same _ hold, by rw [splice_size hfit]; exact q3⟩
    · exact ⟨cs', ty', by rw [heap_setRow_ne _ _ _ _ hb]; exact q2, q3⟩
  · by_cases hi : id = i
    · subst hi
      rw [look_same] at hl'
      cases hl'
      cases hcl
      refine ⟨hS, o, us.set off u, splice cs (o + off) [u], t, heap_setRow_same _ hold, by rw [List.length_set]; exact hte.symm, by rw [splice_size hfit]; exact hsz, relVL_set hr hv, fun k z hk => ?_⟩
      rw [splice_get hfit]
      rw [List.getElem?_set] at hk
      by_cases hko : off = k
      · subst hko
        rw [if_pos rfl] at hk
        rw [if_pos (by simp)]
        split at hk
        · cases hk; simp
        · cases hk
      · rw [if_neg hko] at hk
        rw [if_neg (by simp; omega)]
        exact hget k z hk
    · rw [look_ne _ _ (by simpa using hi)] at hl'
      obtain ⟨q1, o', us', cs', ty', q2, q3, q4, q5, q6⟩ := h.conts i qv l' hl' hcl hti
      have hμ : G.tb i ≠ G.tb id := fun c => hi (h.tinj id i htn (by rw [hl']; simp) ht hti c.symm)
      exact ⟨q1, o', us', cs', ty', by rw [heap_setRow_ne _ _ _ _ hμ]; exact q2, q3, q4, q5, q6⟩
  · rw [es _ (by simp)] at hl
    obtain ⟨q1, s, pos, q2, q3⟩ := h.iters i v hl
    exact ⟨by rw [es _ (by simp)]; exact q1, s, pos, q2, by rw [heap_setRow_ne _ _ _ _ (t4 i q1)]; exact q3⟩

/-- A cell of an element is written. -/
theorem f_storeM {t : TypeId} {bb : Bool} {id n off : Nat} {l : List V} {v q : V} (hk : kd P t = some (bb, 1)) (hx : ev st x = some (.mptr id n off)) (hl : look st (.tip id) = some q) (hq : q.contL = some l) (hn : n = l.length) (hoff : off < l.length) (hy : ev st y = some v) (h1 : v.one = true) :
    FOk P E ⟨none, .store t x y, ty, pos, af, g⟩ st (evL x ++ (evL y ++ [.tip id])) [] [(.tip id, some (.cont (l.set off v)))] := by
  intro Q K st' hL _ hK G a w hs
  have e1 := hs.ev ((ev_same hL fun l h => mem_l h).trans hx)
  have e2 := hs.ev ((ev_same hL fun l h => mem_r (mem_l h)).trans hy)
  have hl' := (hL (.tip id) (mem_r (mem_r (by simp)))).trans hl
  obtain ⟨o, us, cs, t', h2, h3, h4, h5, h6, h7, h8, h9⟩ := hs.contAt e1 hl' hq hn
  obtain ⟨hone, hcells⟩ := relV_one e2 h1
  obtain ⟨_, hsz, _⟩ := kd_spec hk
  have hlen' : (a.eval y).cells.size = 1 := by rw [hcells]; rfl
  have hfit : o + off + [a.eval y].length ≤ cs.size := by simp; omega
  have hst := run_storeCells_at P (G.tb id) (o + off) t' [a.eval y] 0 cs w h3 (by simpa using hfit) (fun u hu => by simp at hu; subst hu; exact hone)
  show Oper.upon P _ a K Q ((execOp a.eval _).run P w)
  have hrun : (execOp a.eval (⟨none, .store t x y, ty, pos, af, g⟩ : Oper)).run P w = .ok .skip (w.setRow (G.tb id) (splice cs (o + off) [a.eval y])) := by
    simp only [execOp, h2, Instr.storeAt, Instr.sureAddr, storeVar, Sem.run_bind, Sem.run_pure, Result.andThen_ok, hsz, hlen', ne_eq, not_true_eq_false, if_false, hcells]
    simp [hst, splice]
  rw [hrun]
  exact hK _ _ _ (hs.storeM hl' e2 h8 h3 h4 h5 h6 h7 hoff h9)

/-! ### Made fast -/

/-- A list whose cells are plain data is only appended to from here on. -/
theorem hits_freeze {K : Act → World → Prop} (t id es : Nat) (ls : List D) {n : Nat} {q : V} (hs : look st (.slot t) = some (.mo id es n)) (hl : look st (.tip id) = some q) (hq : q.contL = some ((flat ls).map .d)) (hn : n = ls.length) (hes : ∀ q ∈ ls, q.cells.length = es)
    (h : Hits E ((.slot t, some (.own id es ls)) :: (.tip id, some (.ptr id 0)) :: dull id st) K) : Hits E st K := by
  subst hn
  intro G a w s
  have hsl := s.slots t _ hs
  have htn : look st (.tip id) ≠ none := by rw [hl]; simp
  have hfl : ∀ l : List D, (∀ q ∈ l, q.cells.length = es) → (flat l).length = l.length * es := by
    intro l
    induction l with
    | nil => intro _; simp [flat]
    | cons q l ih =>
      intro hq
      rw [show flat (q :: l) = q.cells ++ flat l from rfl, List.length_append, hq q (by simp), ih (fun x hx => hq x (by simp [hx])), List.length_cons, Nat.add_mul]; omega
  simp only [RelV] at hsl
  rcases hsl with ⟨hk, h0, hu⟩ | ⟨hk, o, cap, hu, hcap, hte, htz⟩
  · have s1 := s.retip (id := id) (b := 0) (n := 0) (z := 0) (k := false) (fun c => by cases c)
    have hls : ls = [] := List.length_eq_zero_iff.mp h0
    exact h _ a w (s1.retell (t := t) (v := .own id es ls) (.inl ⟨by simp [upd], hls, hu⟩))
  · obtain ⟨q1, o', us, cs, ty, q2, q3, q4, q5, q6⟩ := s.conts id _ _ hl hq hk
    obtain ⟨t1, t2, t3, t4⟩ := s.tips id htn hk
    have hlen := hfl ls hes
    rw [List.length_map, hlen] at q3
    obtain rfl : o = o' := by omega
    obtain ⟨hul, _⟩ := relVL_get q5
    rw [List.length_map] at hul
    -- the cells are known to stay
    have hle : G.S.le (G.S.more (G.tb id) o us) := fun b p v hv => by
      unfold Stab.more
      rw [if_neg]
      · exact hv
      · rintro ⟨rfl, _, _⟩; rw [q1 p] at hv; cases hv
    have elt : ∀ k, k ≠ .tip id → look ((Loc.tip id, none) :: st) k = look st k := fun k hk => look_ne _ _ (fun c => hk c.symm)
    have et : ∀ i, look ((Loc.tip id, none) :: st) (.tip i) ≠ none → i ≠ id ∧ look st (.tip i) ≠ none := fun i hh => by
      rw [look_cons] at hh
      split at hh
      · exact absurd rfl hh
      · rename_i hc; exact ⟨fun c => hc (by rw [c]), hh⟩
    have s1 : Sim E ((.tip id, none) :: st) { G with S := G.S.more (G.tb id) o us } a w := by
      refine ⟨s.kw, s.s0.trans hle, fun b p v hS => ?_, s.tmps, s.defers, fun t v hl => ?_, fun i p v hl => ?_, fun i hi => ?_, fun i j hi hj => ?_, fun b p v hS => ?_, fun i hi hti => ?_, fun i j hi hj => ?_, fun p hp => ⟨(s.rcv p hp).1, fun hi => (s.rcv p hp).2 (by rw [elt _ (by simp)] at hi; exact hi)⟩, fun i qv l' hl' hcl hti => ?_, fun i v hl => by rw [elt _ (by simp)] at hl ⊢; exact s.iters i v hl, fun k v hl => (s.olds k v (by rw [elt _ (by simp)] at hl; exact hl)).monoS hle⟩
      · change Stab.more G.S (G.tb id) o us b p = some v at hS
        unfold Stab.more at hS
        split at hS
        · rename_i hc; exact .inr (by rw [hc.1]; exact t1)
        · exact s.snew b p v hS
      · rw [elt _ (by simp)] at hl; exact (s.slots t v hl).monoS hle
      · rw [elt _ (by simp)] at hl
        obtain ⟨p1, cs', ty', cv, p2, p3, p4⟩ := s.cells i p v hl
        exact ⟨by rw [elt _ (by simp)]; exact p1, cs', ty', cv, p2, p3, p4.monoS hle⟩
      · rw [elt _ (by simp)] at hi
        obtain ⟨p1, p2, p3⟩ := s.boxes i hi
        refine ⟨p1, p2, fun p => ?_⟩
        show Stab.more G.S (G.tb id) o us (G.μ i) p = none
        unfold Stab.more
        rw [if_neg (fun c => t4 i hi c.1)]; exact p3 p
      · rw [elt _ (by simp)] at hi hj; exact s.inj i j hi hj
      · change Stab.more G.S (G.tb id) o us b p = some v at hS
        unfold Stab.more at hS
        split at hS
        · rename_i hc
          rw [hc.1, cell_of_block q2]
          have := q6 (p - o) v hS
          rwa [show o + (p - o) = p from by omega] at this
        · exact s.stable _ _ _ hS
      · obtain ⟨hni, hi'⟩ := et i hi
        obtain ⟨p1, p2, p3, p4⟩ := s.tips i hi' hti
        refine ⟨p1, p2, fun p hp => ?_, fun j hj => p4 j (by rw [elt _ (by simp)] at hj; exact hj)⟩
        show Stab.more G.S (G.tb id) o us (G.tb i) p = none
        unfold Stab.more
        rw [if_neg (fun c => hni (s.tinj i id hi' htn hti hk c.1))]; exact p3 p hp
      · exact fun ht htj => s.tinj i j (et i hi).2 (et j hj).2 ht htj
      · obtain ⟨hni, hi'⟩ := et i (by rw [hl']; simp)
        rw [look_ne _ _ (by simpa using fun c => hni c.symm)] at hl'
        obtain ⟨p1, p2⟩ := s.conts i qv l' hl' hcl hti
        refine ⟨fun p => ?_, ?_⟩
        · show Stab.more G.S (G.tb id) o us (G.tb i) p = none
          unfold Stab.more
          rw [if_neg (fun c => hni (s.tinj i id hi' htn hti hk c.1))]; exact p1 p
        · obtain ⟨o2, us2, cs2, ty2, r1, r2, r3, r4, r5⟩ := p2
          exact ⟨o2, us2, cs2, ty2, r1, r2, r3, r4.monoS hle, r5⟩
    have s2 := s1.retip (id := id) (b := G.tb id) (n := G.te id) (z := G.tz id) (k := true) (fun _ => by
      refine ⟨t1, t2, fun p hp => ?_, fun j hj => ?_, fun j hj hl' hk' hc => ?_⟩
      · show Stab.more _ _ _ _ _ _ = none
        unfold Stab.more
        rw [if_neg (by omega)]; exact q1 p
      · rw [elt _ (by simp)] at hj; exact t4 j hj
      · rw [look_ne _ _ (by simpa using fun c => hj c.symm)] at hl'
        exact hj (s.tinj j id hl' htn hk' hk hc))
    have s3 := s2.same (st' := (.tip id, some (.ptr id 0)) :: dull id st) (fun q => by
      rw [look_cons, look_cons]
      by_cases hq : Loc.tip id = q
      · rw [if_pos hq, if_pos hq]
      · rw [if_neg hq, if_neg hq, look_dull, look_dull, look_ne _ _ hq])
    refine h _ a w (s3.retell (t := t) (v := .own id es ls) (.inr ⟨by simp [upd], o, cap, ?_, hcap, ?_, ?_, ?_⟩))
    · show _ = Value.slice (some ⟨(upd G.tb id (G.tb id)) id, o, none⟩) _ _
      simp only [upd, if_true]; exact hu
    · show RelE (G.S.more (G.tb id) o us) es ls ((upd G.tb id (G.tb id)) id) o
      simp only [upd, if_true]
      have hrl : ∀ (l : List D) (us : List Value), RelVL G (l.map .d) us → RelL G.S l us := by
        intro l
        induction l with
        | nil => intro us h; simp only [List.map_nil, RelVL] at h; subst h; exact .nil
        | cons q l ih =>
          intro us h
          simp only [List.map_cons, RelVL] at h
          obtain ⟨u, r, rfl, h1, h2⟩ := h
          simp only [RelV] at h1
          exact .cons h1 (ih r h2)
      refine relE_of hes (relP_of (RelL.mono hle (hrl _ _ q5)) fun k u hk => ?_)
      show Stab.more G.S (G.tb id) o us (G.tb id) (o + k) = some u
      unfold Stab.more
      rw [if_pos ⟨rfl, by omega, by have := (List.getElem?_eq_some_iff.mp hk).1; omega⟩, Nat.add_sub_cancel_left]
      exact hk
    · show (upd G.te id (G.te id)) id = _
      simp only [upd, if_true]; exact hte
    · show (upd G.tz id (G.tz id)) id = _
      simp only [upd, if_true]; exact htz

end Go.Ab
