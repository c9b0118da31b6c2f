/- Joined texts: Ab, AbMem, AbOps, AbCode, AbDraw, AbLists, AbMake, AbLift, AbIfc. -/
import Derived.WalkKit
import Derived.Laws.CopyRow
import Derived.ChangeKeysEq
import Derived.Laws.Cells
import Derived.Orders
import Derived.Deep.AppendSrc
import Derived.Lib.ConvBytes
import Derived.Lib.AtoiErrMem
import Derived.Laws.AppendOwn
import Derived.Stop.IfaceNil

namespace Go.Ab
open Go Go.RowKit
set_option linter.unusedVariables false
set_option linter.unusedSimpArgs false

/-- Cells that are never written again: block, place, what stands there. -/
abbrev Stab := Nat → Nat → Option Value

/-- Data: nothing in it points to a variable of the frame. -/
inductive D where
  | sc (v : Value)
  | agg (l : List D)
  | tup (l : List D)
  | list (es : Nat) (l : List D)
  | eptr (l : List D)
  | any
  deriving Inhabited

def D.cells : D → List D
  | .agg l => l
  | .sc v => [.sc v]
  | .tup l => [.tup l]
  | .list es l => [.list es l]
  | .eptr l => [.eptr l]
  | .any => [.any]

mutual
inductive Rel (S : Stab) : D → Value → Prop
  | sc (v : Value) : Rel S (.sc v) v
  | agg {l : List D} {cs : List Value} : RelL S l cs → Rel S (.agg l) (.agg ⟨cs⟩)
  | tup {l : List D} {cs : List Value} : RelL S l cs → Rel S (.tup l) (.tuple ⟨cs⟩)
  | list {es : Nat} {l : List D} {b o cap : Nat} : l.length ≤ cap → RelE S es l b o → Rel S (.list es l) (.slice (some ⟨b, o, none⟩) l.length cap)
  | lnil {es : Nat} : Rel S (.list es []) (.slice none 0 0)
  | eptr {l : List D} {b o : Nat} : RelP S l b o → Rel S (.eptr l) (.pointer (some ⟨b, o, none⟩))
  | any {v : Value} : v.oneCell' = true → Rel S .any v
inductive RelL (S : Stab) : List D → List Value → Prop
  | nil : RelL S [] []
  | cons {d : D} {v : Value} {l : List D} {vs : List Value} : Rel S d v → RelL S l vs → RelL S (d :: l) (v :: vs)
/-- Elements of so many cells each, one behind the other from a place on. -/
inductive RelE (S : Stab) : Nat → List D → Nat → Nat → Prop
  | nil {es b o : Nat} : RelE S es [] b o
  | cons {es : Nat} {d : D} {l : List D} {b o : Nat} : d.cells.length = es → RelP S d.cells b o → RelE S es l b (o + es) → RelE S es (d :: l) b o
/-- Cells, one behind the other. -/
inductive RelP (S : Stab) : List D → Nat → Nat → Prop
  | nil {b o : Nat} : RelP S [] b o
  | cons {d : D} {v : Value} {l : List D} {b o : Nat} : S b o = some v → Rel S d v → RelP S l b (o + 1) → RelP S (d :: l) b o
end

def Stab.le (S S' : Stab) : Prop := ∀ b o v, S b o = some v → S' b o = some v
theorem Stab.le.refl (S : Stab) : S.le S := fun _ _ _ h => h
theorem Stab.le.trans {S S' S'' : Stab} (h : S.le S') (h' : S'.le S'') : S.le S'' := fun b o v e => h' b o v (h b o v e)

mutual
theorem Rel.mono {S S' : Stab} (h : S.le S') : {d : D} → {v : Value} → Rel S d v → Rel S' d v
  | _, _, .sc v => .sc v
  | _, _, .agg hl => .agg (RelL.mono h hl)
  | _, _, .tup hl => .tup (RelL.mono h hl)
  | _, _, .list hc he => .list hc (RelE.mono h he)
  | _, _, .lnil => .lnil
  | _, _, .eptr hp => .eptr (RelP.mono h hp)
  | _, _, .any hc => .any hc
theorem RelL.mono {S S' : Stab} (h : S.le S') : {l : List D} → {vs : List Value} → RelL S l vs → RelL S' l vs
  | _, _, .nil => .nil
  | _, _, .cons hd hl => .cons (Rel.mono h hd) (RelL.mono h hl)
theorem RelE.mono {S S' : Stab} (h : S.le S') : {es : Nat} → {l : List D} → {b o : Nat} → RelE S es l b o → RelE S' es l b o
  | _, _, _, _, .nil => .nil
  | _, _, _, _, .cons hn hp hl => .cons hn (RelP.mono h hp) (RelE.mono h hl)
theorem RelP.mono {S S' : Stab} (h : S.le S') : {l : List D} → {b o : Nat} → RelP S l b o → RelP S' l b o
  | _, _, _, .nil => .nil
  | _, _, _, .cons hs hd hl => .cons (h _ _ _ hs) (Rel.mono h hd) (RelP.mono h hl)
end

/-- Values of a walk: data, a pointer to a variable of the frame, a closure over such variables, a list that may be appended to. -/
inductive V where
  | d (x : D)
  | ptr (id off : Nat)
  | fn (f : FuncId) (ids : List Nat)
  | own (id es : Nat) (l : List D)
  deriving Inhabited

/-- What the walk's numbers stand for. -/
structure Gh where
  S : Stab
  μ : Nat → Nat
  tb : Nat → Nat
  tk : Nat → Bool
  te : Nat → Nat
  tz : Nat → Nat

def RelV (G : Gh) : V → Value → Prop
  | .d x, u => Rel G.S x u
  | .ptr id off, u => u = .pointer (some ⟨G.μ id, off, none⟩)
  | .fn f ids, u => u = .func (.func f) #[] ((ids.map fun i => Value.pointer (some ⟨G.μ i, 0, none⟩)).toArray)
  | .own id es l, u => (G.tk id = false ∧ l = [] ∧ u = .slice none 0 0) ∨
      (G.tk id = true ∧ ∃ o cap, u = .slice (some ⟨G.tb id, o, none⟩) l.length cap ∧ l.length ≤ cap ∧ RelE G.S es l (G.tb id) o ∧ G.te id = o + l.length * es ∧ G.tz id = o + cap * es)

/-- Does a value leave a variable's number alone? -/
def V.free (id : Nat) : V → Bool
  | .d _ => true
  | .ptr i _ => !(i == id)
  | .fn _ ids => ids.all fun i => !(i == id)
  | .own _ _ _ => true

inductive Loc where
  | slot (t : Nat)
  | cell (id off : Nat)
  | box (id : Nat)
  | tip (id : Nat)
  deriving DecidableEq, Inhabited

def Loc.eqb : Loc → Loc → Bool
  | .slot a, .slot b => a == b
  | .cell a b, .cell c d => a == c && b == d
  | .box a, .box b => a == b
  | .tip a, .tip b => a == b
  | _, _ => false

theorem Loc.eqb_iff (a b : Loc) : a.eqb b = true ↔ a = b := by
  cases a <;> cases b <;> simp [Loc.eqb]

/-- What is known: of slots, of cells of the frame's own variables, which of them are there, which lists may be appended to. The first row counts. -/
abbrev St := List (Loc × Option V)

def look : St → Loc → Option V
  | [], _ => none
  | e :: r, k => match e.1.eqb k with
    | true => e.2
    | false => look r k

theorem look_cons (e : Loc × Option V) (r : St) (k : Loc) : look (e :: r) k = if e.1 = k then e.2 else look r k := by
  by_cases h : e.1 = k
  · rw [if_pos h]; simp only [look, (Loc.eqb_iff _ _).2 h]
  · rw [if_neg h]; simp only [look, show e.1.eqb k = false from by rw [Bool.eq_false_iff]; exact fun c => h ((Loc.eqb_iff _ _).1 c)]

theorem look_same (k : Loc) (v : Option V) (r : St) : look ((k, v) :: r) k = v := by rw [look_cons, if_pos rfl]
theorem look_ne {k k' : Loc} (v : Option V) (r : St) (h : k ≠ k') : look ((k, v) :: r) k' = look r k' := by rw [look_cons, if_neg h]

/-- A number that is used nowhere. -/
def St.unused (id : Nat) (st : St) : Bool :=
  st.all fun e => (match e.1 with | .box i | .cell i _ => !(i == id) | .slot _ | .tip _ => true) && (match e.2 with | some v => v.free id | none => true)

/-- w is w0, but for new blocks, draws and the blocks outs. -/
structure KW (w0 : World) (outs : List Nat) (w : World) : Prop where
  os : w.os = w0.os
  tape : w.tape = w0.tape
  output : w.output = w0.output
  size : w0.heap.size ≤ w.heap.size
  frame : ∀ k, k < w0.heap.size → k ∉ outs → w.heap[k]? = w0.heap[k]?

/-- What stays the same through a call: where it began, which blocks of before it may write, what was known to stay, how many slots there are, what holds of every world on the way. -/
structure Env where
  w0 : World
  outs : List Nat
  S0 : Stab
  N : Nat
  Γ : World → Prop
  stab : ∀ w, KW w0 outs w → Γ w

structure Sim (E : Env) (st : St) (G : Gh) (a : Act) (w : World) : Prop where
  kw : KW E.w0 E.outs w
  s0 : E.S0.le G.S
  snew : ∀ b o v, G.S b o = some v → E.S0 b o = some v ∨ E.w0.heap.size ≤ b
  tmps : a.tmps.size = E.N
  defers : a.defers = []
  slots : ∀ t v, look st (.slot t) = some v → RelV G v (a.tmps.getD t undef)
  cells : ∀ id off v, look st (.cell id off) = some v → look st (.box id) ≠ none ∧ ∃ cs ty cv, w.heap[G.μ id]? = some (.cells cs ty (0, 0)) ∧ cs[off]? = some cv ∧ RelV G v cv
  boxes : ∀ id, look st (.box id) ≠ none → (E.w0.heap.size ≤ G.μ id ∨ G.μ id ∈ E.outs) ∧ G.μ id < w.heap.size ∧ ∀ o, G.S (G.μ id) o = none
  inj : ∀ i j, look st (.box i) ≠ none → look st (.box j) ≠ none → G.μ i = G.μ j → i = j
  stable : ∀ b o v, G.S b o = some v → w.cell? ⟨b, o, none⟩ = some v
  tips : ∀ i, look st (.tip i) ≠ none → G.tk i = true → E.w0.heap.size ≤ G.tb i ∧ (∃ cs ty, w.heap[G.tb i]? = some (.cells cs ty (0, 0)) ∧ G.tz i ≤ cs.size) ∧ (∀ o, G.te i ≤ o → G.S (G.tb i) o = none) ∧ ∀ j, look st (.box j) ≠ none → G.μ j ≠ G.tb i
  tinj : ∀ i j, look st (.tip i) ≠ none → look st (.tip j) ≠ none → G.tk i = true → G.tk j = true → G.tb i = G.tb j → i = j

variable {E : Env} {st : St} {G : Gh} {a : Act} {w : World}

theorem Sim.size (h : Sim E st G a w) : E.w0.heap.size ≤ w.heap.size := h.kw.size

theorem KW.below {w0 w w' : World} {outs : List Nat} (h : KW w0 outs w) (hb : Below w.heap.size w w') : KW w0 outs w' :=
  ⟨hb.os.trans h.os, hb.tape.trans h.tape, hb.output.trans h.output, Nat.le_trans h.size hb.size, fun k hk ho => (hb.block k (Nat.lt_of_lt_of_le hk h.size)).trans (h.frame k hk ho)⟩

theorem lt_of_block {w : World} {b : Nat} {o : Obj} (h : w.heap[b]? = some o) : b < w.heap.size := by
  rcases Nat.lt_or_ge b w.heap.size with h' | h'
  · exact h'
  · rw [Array.getElem?_eq_none h'] at h; cases h

theorem block_of_cell {w : World} {b o : Nat} {v : Value} (h : w.cell? ⟨b, o, none⟩ = some v) : ∃ cs ty fr, w.heap[b]? = some (.cells cs ty fr) ∧ cs[o]? = some v := by
  unfold World.cell? at h
  split at h
  · rename_i c t f e
    exact ⟨c, t, f, e, by simpa using h⟩
  · cases h

theorem cell_of_block {w : World} {b o : Nat} {cs : Array Value} {ty : TypeId} {fr : Nat × Nat} (h : w.heap[b]? = some (.cells cs ty fr)) : w.cell? ⟨b, o, none⟩ = cs[o]? := by
  unfold World.cell?
  simp only [h]
  rfl

theorem lt_of_cell {w : World} {b o : Nat} {v : Value} (h : w.cell? ⟨b, o, none⟩ = some v) : b < w.heap.size := by
  obtain ⟨cs, ty, fr, e, _⟩ := block_of_cell h
  exact lt_of_block e

/-! ### Values under a later reading of the numbers -/

/-- G' reads every variable's number but 'id' as G does, and knows no less. -/
structure Gh.ext (G G' : Gh) (id : Nat) : Prop where
  S : G.S.le G'.S
  μ : ∀ i, i ≠ id → G'.μ i = G.μ i
  tb : G'.tb = G.tb
  tk : G'.tk = G.tk
  te : G'.te = G.te
  tz : G'.tz = G.tz

theorem RelV.ext {G G' : Gh} {id : Nat} (h : G.ext G' id) {v : V} {u : Value} (hf : v.free id = true) (hr : RelV G v u) : RelV G' v u := by
  cases v with
  | d x => exact Rel.mono h.S hr
  | ptr i off =>
    have hi : i ≠ id := by simpa [V.free] using hf
    simp only [RelV] at *
    rw [h.μ i hi]; exact hr
  | fn f ids =>
    simp only [RelV] at *
    rw [hr]
    congr 2
    apply List.map_congr_left
    intro i hi
    have : i ≠ id := by
      have := List.all_eq_true.1 hf i hi
      simpa using this
    rw [h.μ i this]
  | own i es l =>
    simp only [RelV] at *
    rw [h.tb, h.tk, h.te, h.tz]
    rcases hr with hr | ⟨h1, o, cap, h2, h3, h4, h5⟩
    · exact .inl hr
    · exact .inr ⟨h1, o, cap, h2, h3, RelE.mono h.S h4, h5⟩

theorem RelV.monoS {G : Gh} {S' : Stab} (h : G.S.le S') {v : V} {u : Value} (hr : RelV G v u) : RelV { G with S := S' } v u := by
  cases v with
  | d x => exact Rel.mono h hr
  | ptr i off => exact hr
  | fn f ids => exact hr
  | own i es l =>
    rcases hr with hr | ⟨h1, o, cap, h2, h3, h4, h5⟩
    · exact .inl hr
    · exact .inr ⟨h1, o, cap, h2, h3, RelE.mono h h4, h5⟩

theorem unused_slot {st : St} {id t : Nat} {v : V} (h : st.unused id = true) (hl : look st (.slot t) = some v) : v.free id = true := by
  induction st with
  | nil => cases hl
  | cons e r ih =>
    simp only [St.unused, List.all_cons, Bool.and_eq_true] at h
    rw [look_cons] at hl
    split at hl
    · rw [hl] at h; exact h.1.2
    · exact ih h.2 hl

theorem unused_cell {st : St} {id i off : Nat} {v : V} (h : st.unused id = true) (hl : look st (.cell i off) = some v) : v.free id = true ∧ i ≠ id := by
  induction st with
  | nil => cases hl
  | cons e r ih =>
    simp only [St.unused, List.all_cons, Bool.and_eq_true] at h
    rw [look_cons] at hl
    split at hl
    · rename_i he
      rw [hl] at h
      rw [he] at h
      exact ⟨h.1.2, by simpa using h.1.1⟩
    · exact ih h.2 hl

theorem unused_box {st : St} {id i : Nat} (h : st.unused id = true) (hl : look st (.box i) ≠ none) : i ≠ id := by
  induction st with
  | nil => exact absurd rfl hl
  | cons e r ih =>
    simp only [St.unused, List.all_cons, Bool.and_eq_true] at h
    rw [look_cons] at hl
    split at hl
    · rename_i he
      rw [he] at h
      simpa using h.1.1
    · exact ih h.2 hl

/-! ### What may be forgotten; what a step does -/

def St.kept : St → St → Prop
  | [], _ => True
  | e :: r, st => look st e.1 = e.2 ∧ St.kept r st

/-- The rows of st' say nothing that st doesn't; what is told of a cell tells that the variable is there. -/
def St.boxed (st : St) : Bool := st.all fun e => match e with
  | (.cell i _, some _) => (look st (.box i)).isSome
  | _ => true

theorem kept_look {st' st : St} (h : st'.kept st) {k : Loc} {v : V} (hl : look st' k = some v) : look st k = some v := by
  induction st' with
  | nil => cases hl
  | cons e r ih =>
    rw [look_cons] at hl
    split at hl
    · rename_i he; rw [← he, ← hl]; exact h.1
    · exact ih h.2 hl

theorem boxed_look_aux {st r : St} (h : (r.all fun e => match e with | (.cell i _, some _) => (look st (.box i)).isSome | _ => true) = true) {i off : Nat} {v : V} (hl : look r (.cell i off) = some v) :
    look st (.box i) ≠ none := by
  induction r with
  | nil => cases hl
  | cons e r ih =>
    simp only [List.all_cons, Bool.and_eq_true] at h
    rw [look_cons] at hl
    split at hl
    · rename_i he
      obtain ⟨k, x⟩ := e
      simp only at he hl
      subst he hl
      intro hn
      simp [hn] at h
    · exact ih h.2 hl

theorem Sim.keep {st' : St} (h : Sim E st G a w) (hk : st'.kept st) (hb : st'.boxed = true) : Sim E st' G a w := by
  have ne : ∀ {k}, look st' k ≠ none → look st k ≠ none := fun {k} hn => by
    cases hv : look st' k with
    | none => exact absurd hv hn
    | some v => rw [kept_look hk hv]; simp
  refine ⟨h.kw, h.s0, h.snew, h.tmps, h.defers, fun t v hl => h.slots t v (kept_look hk hl), fun i o v hl => ⟨boxed_look_aux hb hl, (h.cells i o v (kept_look hk hl)).2⟩,
    fun i hi => h.boxes i (ne hi), fun i j hi hj => h.inj i j (ne hi) (ne hj), h.stable, fun i hi ht => ?_, fun i j hi hj => h.tinj i j (ne hi) (ne hj)⟩
  obtain ⟨h1, h2, h3, h4⟩ := h.tips i (ne hi) ht
  exact ⟨h1, h2, h3, fun j hj => h4 j (ne hj)⟩

theorem getD_set_same (l : Array Value) (d : Nat) (v u : Value) (h : d < l.size) : (l.setIfInBounds d v).getD d u = v := by
  simp [Array.getD, h]

theorem getD_set_other (l : Array Value) {d t : Nat} (v u : Value) (h : d ≠ t) : (l.setIfInBounds d v).getD t u = l.getD t u := by
  simp [Array.getElem?_setIfInBounds_ne h]

/-- A slot is written. -/
theorem Sim.put {d : Nat} {v : V} {u : Value} (h : Sim E st G a w) (hd : d < E.N) (hv : RelV G v u) : Sim E ((.slot d, some v) :: st) G (a.put (some d) u) w := by
  have e1 : ∀ i, look ((Loc.slot d, some v) :: st) (.box i) = look st (.box i) := fun i => look_ne _ _ (by simp)
  have e2 : ∀ i, look ((Loc.slot d, some v) :: st) (.tip i) = look st (.tip i) := fun i => look_ne _ _ (by simp)
  have e3 : ∀ i o, look ((Loc.slot d, some v) :: st) (.cell i o) = look st (.cell i o) := fun i o => look_ne _ _ (by simp)
  refine ⟨h.kw, h.s0, h.snew, by simp [Act.put, h.tmps], h.defers, fun t x hl => ?_, fun i o x hl => ?_, fun i hi => ?_, fun i j hi hj => ?_, h.stable, fun i hi ht => ?_, fun i j hi hj => ?_⟩
  · rw [look_cons] at hl
    split at hl
    · rename_i he
      obtain rfl : d = t := by simpa using he
      obtain rfl := Option.some.inj hl
      show RelV G v ((a.tmps.setIfInBounds d u).getD d undef)
      rw [getD_set_same _ _ _ _ (by rw [h.tmps]; exact hd)]
      exact hv
    · rename_i he
      have he' : d ≠ t := fun c => he (by rw [c])
      show RelV G x ((a.tmps.setIfInBounds d u).getD t undef)
      rw [getD_set_other _ _ _ he']
      exact h.slots t x hl
  · rw [e3] at hl; rw [e1]; exact h.cells i o x hl
  · rw [e1] at hi; exact h.boxes i hi
  · rw [e1] at hi hj; exact h.inj i j hi hj
  · rw [e2] at hi
    obtain ⟨h1, h2, h3, h4⟩ := h.tips i hi ht
    exact ⟨h1, h2, h3, fun j hj => h4 j (by rw [e1] at hj; exact hj)⟩
  · rw [e2] at hi hj; exact h.tinj i j hi hj

/-- A slot of which nothing is told any more. -/
theorem Sim.lose {d : Nat} {u : Value} (h : Sim E st G a w) : Sim E ((.slot d, none) :: st) G (a.put (some d) u) w := by
  have e1 : ∀ i, look ((Loc.slot d, none) :: st) (.box i) = look st (.box i) := fun i => look_ne _ _ (by simp)
  have e2 : ∀ i, look ((Loc.slot d, none) :: st) (.tip i) = look st (.tip i) := fun i => look_ne _ _ (by simp)
  have e3 : ∀ i o, look ((Loc.slot d, none) :: st) (.cell i o) = look st (.cell i o) := fun i o => look_ne _ _ (by simp)
  refine ⟨h.kw, h.s0, h.snew, by simp [Act.put, h.tmps], h.defers, fun t x hl => ?_, fun i o x hl => ?_, fun i hi => ?_, fun i j hi hj => ?_, h.stable, fun i hi ht => ?_, fun i j hi hj => ?_⟩
  · rw [look_cons] at hl
    split at hl
    · cases hl
    · rename_i he
      have he' : d ≠ t := fun c => he (by rw [c])
      show RelV G x ((a.tmps.setIfInBounds d u).getD t undef)
      rw [getD_set_other _ _ _ he']
      exact h.slots t x hl
  · rw [e3] at hl; rw [e1]; exact h.cells i o x hl
  · rw [e1] at hi; exact h.boxes i hi
  · rw [e1] at hi hj; exact h.inj i j hi hj
  · rw [e2] at hi
    obtain ⟨h1, h2, h3, h4⟩ := h.tips i hi ht
    exact ⟨h1, h2, h3, fun j hj => h4 j (by rw [e1] at hj; exact hj)⟩
  · rw [e2] at hi hj; exact h.tinj i j hi hj

/-- The world has gone on, of what was there nothing has turned; more cells are known to stay. -/
theorem Sim.later {w' : World} {S' : Stab} (h : Sim E st G a w) (hb : Below w.heap.size w w') (hS : G.S.le S')
    (hnew : ∀ b o v, S' b o = some v → G.S b o = some v ∨ (w.heap.size ≤ b ∧ w'.cell? ⟨b, o, none⟩ = some v)) : Sim E st { G with S := S' } a w' := by
  have none' : ∀ {b o}, b < w.heap.size → G.S b o = none → S' b o = none := fun {b o} hlt hn => by
    cases hv : S' b o with
    | none => rfl
    | some v =>
      rcases hnew b o v hv with h1 | ⟨h1, _⟩
      · rw [hn] at h1; cases h1
      · omega
  refine ⟨h.kw.below hb, h.s0.trans hS, fun b o v hv => (hnew b o v hv).elim (h.snew b o v) (fun q => .inr (Nat.le_trans h.size q.1)), h.tmps, h.defers,
    fun t v hl => (h.slots t v hl).monoS hS, fun i o v hl => ?_, fun i hi => ?_, h.inj, fun b o v hv => ?_, fun i hi ht => ?_, h.tinj⟩
  · obtain ⟨hx, cs, ty, cv, h1, h2, h3⟩ := h.cells i o v hl
    exact ⟨hx, cs, ty, cv, (hb.block _ (lt_of_block h1)).trans h1, h2, h3.monoS hS⟩
  · obtain ⟨h1, h2, h3⟩ := h.boxes i hi
    exact ⟨h1, Nat.lt_of_lt_of_le h2 hb.size, fun o => none' h2 (h3 o)⟩
  · rcases hnew b o v hv with h1 | ⟨_, h1⟩
    · have h2 := h.stable b o v h1
      rw [← h2]
      exact hb.cell (lt_of_cell h2)
    · exact h1
  · obtain ⟨h1, ⟨cs, ty, h2, h3⟩, h4, h5⟩ := h.tips i hi ht
    have hlt := lt_of_block h2
    exact ⟨h1, ⟨cs, ty, (hb.block _ hlt).trans h2, h3⟩, fun o ho => none' hlt (h4 o ho), h5⟩

theorem Sim.later0 {w' : World} (h : Sim E st G a w) (hb : Below w.heap.size w w') : Sim E st G a w' := h.later hb (Stab.le.refl _) (fun _ _ _ e => .inl e)

def upd {α : Type} (f : Nat → α) (i : Nat) (x : α) : Nat → α := fun j => if j = i then x else f j

theorem ext_upd (G : Gh) (id b : Nat) : G.ext { G with μ := upd G.μ id b } id :=
  ⟨Stab.le.refl _, fun i hi => by simp [upd, hi], rfl, rfl, rfl, rfl⟩

/-- The rows of a new variable's cells. -/
def cellRows (id : Nat) : Nat → List V → St
  | _, [] => []
  | k, v :: l => (.cell id k, some v) :: cellRows id (k + 1) l

theorem look_cellRows_cell (id k o : Nat) (vs : List V) (r : St) : look (cellRows id k vs ++ r) (.cell id o) = if k ≤ o ∧ o < k + vs.length then vs[o - k]? else look r (.cell id o) := by
  induction vs generalizing k with
  | nil => simp [cellRows]; intro h1 h2; omega
  | cons v l ih =>
    simp only [cellRows, List.cons_append, look_cons, Loc.cell.injEq, true_and, List.length_cons]
    by_cases h : k = o
    · subst h; simp
    · rw [if_neg h, ih]
      by_cases h' : k + 1 ≤ o ∧ o < k + 1 + l.length
      · rw [if_pos h', if_pos (by omega), show o - k = (o - (k + 1)) + 1 from by omega, List.getElem?_cons_succ]
      · rw [if_neg h', if_neg (by omega)]

theorem look_cellRows_ne (id : Nat) {l : Loc} (h : ∀ o, l ≠ .cell id o) (k : Nat) (vs : List V) (r : St) : look (cellRows id k vs ++ r) l = look r l := by
  induction vs generalizing k with
  | nil => rfl
  | cons v t ih => simp only [cellRows, List.cons_append]; rw [look_ne _ _ (fun c => h k c.symm), ih]

/-- Cells of a new variable and their values. -/
def RelVs (G : Gh) (vs : List V) (cs : Array Value) : Prop := vs.length = cs.size ∧ ∀ (i : Nat) (v : V), vs[i]? = some v → ∃ c, cs[i]? = some c ∧ RelV G v c

/-- A new variable. -/
theorem Sim.alloc {id : Nat} {vs : List V} {cs : Array Value} {ty : TypeId} (h : Sim E st G a w) (hu : st.unused id = true) (hvs : RelVs G vs cs) (hf : vs.all (V.free id) = true) :
    Sim E (cellRows id 0 vs ++ (.box id, some (.ptr id 0)) :: st) { G with μ := upd G.μ id w.heap.size } a (w.alloc (.cells cs ty)) := by
  have hx := ext_upd G id w.heap.size
  have hbl : Below w.heap.size w (w.alloc (.cells cs ty)) := (Below.refl _ _).alloc (Nat.le_refl _) _
  have es : ∀ t, look (cellRows id 0 vs ++ (Loc.box id, some (V.ptr id 0)) :: st) (.slot t) = look st (.slot t) := fun t => by
    rw [look_cellRows_ne _ (by simp), look_ne _ _ (by simp)]
  have et : ∀ t, look (cellRows id 0 vs ++ (Loc.box id, some (V.ptr id 0)) :: st) (.tip t) = look st (.tip t) := fun t => by
    rw [look_cellRows_ne _ (by simp), look_ne _ _ (by simp)]
  have eb : ∀ i, i ≠ id → look (cellRows id 0 vs ++ (Loc.box id, some (V.ptr id 0)) :: st) (.box i) = look st (.box i) := fun i hi => by
    rw [look_cellRows_ne _ (by simp), look_ne _ _ (by simp; exact fun c => hi c.symm)]
  have ec : ∀ i o, i ≠ id → look (cellRows id 0 vs ++ (Loc.box id, some (V.ptr id 0)) :: st) (.cell i o) = look st (.cell i o) := fun i o hi => by
    rw [look_cellRows_ne _ (by simp; exact hi), look_ne _ _ (by simp)]
  have self : (upd G.μ id w.heap.size) id = w.heap.size := by simp [upd]
  have oth : ∀ i, i ≠ id → (upd G.μ id w.heap.size) i = G.μ i := fun i hi => by simp [upd, hi]
  have inB : ∀ i, i ≠ id → look (cellRows id 0 vs ++ (Loc.box id, some (V.ptr id 0)) :: st) (.box i) ≠ none → look st (.box i) ≠ none := fun i hi hl => by rw [eb i hi] at hl; exact hl
  refine ⟨h.kw.below hbl, h.s0, h.snew, h.tmps, h.defers, fun t v hl => ?_, fun i o v hl => ?_, fun i hi => ?_, fun i j hi hj => ?_, fun b o v hv => ?_, fun i hi ht => ?_, fun i j hi hj => ?_⟩
  · rw [es] at hl
    exact (h.slots t v hl).ext hx (unused_slot hu hl)
  · by_cases hi : i = id
    · subst hi
      refine ⟨by rw [look_cellRows_ne _ (by simp), look_same]; simp, ?_⟩
      rw [look_cellRows_cell] at hl
      by_cases hr : 0 ≤ o ∧ o < 0 + vs.length
      · rw [if_pos hr, Nat.sub_zero] at hl
        obtain ⟨c, hc, hrel⟩ := hvs.2 o v hl
        refine ⟨cs, ty, c, ?_, hc, hrel.ext hx (List.all_eq_true.1 hf v (List.mem_of_getElem? hl))⟩
        show (w.heap.push _)[(upd G.μ i w.heap.size) i]? = _
        rw [self, Array.getElem?_push, if_pos rfl]
      · rw [if_neg hr, look_ne _ _ (by simp)] at hl
        exact absurd rfl (unused_cell hu hl).2
    · rw [ec i o hi] at hl
      obtain ⟨hx1, cs', ty', cv, h1, h2, h3⟩ := h.cells i o v hl
      refine ⟨by rw [eb i hi]; exact hx1, cs', ty', cv, ?_, h2, h3.ext hx (unused_cell hu hl).1⟩
      show (w.alloc _).heap[(upd G.μ id w.heap.size) i]? = _
      rw [oth i hi]
      exact (hbl.block _ (lt_of_block h1)).trans h1
  · by_cases hi' : i = id
    · subst hi'
      refine ⟨.inl ?_, ?_, fun o => ?_⟩
      · show E.w0.heap.size ≤ (upd G.μ i w.heap.size) i
        rw [self]; exact h.size
      · show (upd G.μ i w.heap.size) i < (w.heap.push _).size
        rw [self, Array.size_push]; omega
      · show G.S ((upd G.μ i w.heap.size) i) o = none
        rw [self]
        cases hv : G.S w.heap.size o with
        | none => rfl
        | some v => exact absurd (lt_of_cell (h.stable _ _ _ hv)) (by omega)
    · obtain ⟨h1, h2, h3⟩ := h.boxes i (inB i hi' hi)
      show (_ ≤ (upd G.μ id w.heap.size) i ∨ (upd G.μ id w.heap.size) i ∈ E.outs) ∧ (upd G.μ id w.heap.size) i < (w.heap.push _).size ∧ ∀ o, G.S ((upd G.μ id w.heap.size) i) o = none
      rw [oth i hi']
      exact ⟨h1, by rw [Array.size_push]; omega, h3⟩
  · have hj' : ∀ k, k ≠ id → look (cellRows id 0 vs ++ (Loc.box id, some (V.ptr id 0)) :: st) (.box k) ≠ none → G.μ k < w.heap.size := fun k hk hl => (h.boxes k (inB k hk hl)).2.1
    show (upd G.μ id w.heap.size) i = (upd G.μ id w.heap.size) j → i = j
    by_cases hi' : i = id <;> by_cases hjj : j = id
    · intro _; rw [hi', hjj]
    · subst hi'; rw [self, oth j hjj]; intro c; have := hj' j hjj hj; omega
    · subst hjj; rw [self, oth i hi']; intro c; have := hj' i hi' hi; omega
    · rw [oth i hi', oth j hjj]; exact h.inj i j (inB i hi' hi) (inB j hjj hj)
  · have h2 := h.stable b o v hv
    rw [← h2]
    exact hbl.cell (lt_of_cell h2)
  · rw [et] at hi
    obtain ⟨h1, ⟨cs', ty', h2, h3⟩, h4, h5⟩ := h.tips i hi ht
    have hlt := lt_of_block h2
    refine ⟨h1, ⟨cs', ty', (hbl.block _ hlt).trans h2, h3⟩, h4, fun j hj => ?_⟩
    show (upd G.μ id w.heap.size) j ≠ G.tb i
    by_cases hjj : j = id
    · subst hjj; rw [self]; omega
    · rw [oth j hjj]; exact h5 j (inB j hjj hj)
  · rw [et] at hi hj
    exact h.tinj i j hi hj

end Go.Ab


namespace Go.Ab
open Go Go.RowKit
set_option linter.unusedVariables false
set_option linter.unusedSimpArgs false

variable {P : Program} {E : Env} {st : St} {G : Gh} {a : Act} {w : World}

theorem heap_setRow_ne (w : World) (g : Nat) (cs : Array Value) (k : Nat) (h : k ≠ g) : (w.setRow g cs).heap[k]? = w.heap[k]? := by
  simp only [World.setRow, Array.getElem?_modify]
  rw [if_neg (by omega)]

theorem heap_setRow_same {w : World} {g : Nat} {old : Array Value} {ty : TypeId} {fr : Nat × Nat} (cs : Array Value) (h : w.heap[g]? = some (.cells old ty fr)) : (w.setRow g cs).heap[g]? = some (.cells cs ty fr) := by
  simp only [World.setRow, Array.getElem?_modify, h, Option.map_some]
  exact if_pos trivial

theorem cell_setRow_ne (w : World) (g : Nat) (cs : Array Value) {b o : Nat} (h : b ≠ g) : (w.setRow g cs).cell? ⟨b, o, none⟩ = w.cell? ⟨b, o, none⟩ := by
  unfold World.cell?
  rw [heap_setRow_ne w g cs b h]

/-- A row of cells with so many others in their place. -/
def splice (old : Array Value) (o : Nat) (us : List Value) : Array Value := (old.toList.take o ++ us ++ old.toList.drop (o + us.length)).toArray

theorem splice_get {old : Array Value} {o : Nat} {us : List Value} (h : o + us.length ≤ old.size) (i : Nat) : (splice old o us)[i]? = if o ≤ i ∧ i < o + us.length then us[i - o]? else old[i]? := by
  unfold splice
  have hl : (old.toList.take o).length = o := by simp; omega
  rw [List.getElem?_toArray, List.append_assoc]
  by_cases h1 : i < o
  · rw [List.getElem?_append_left (by omega), List.getElem?_take, if_pos h1, if_neg (by omega), Array.getElem?_toList]
  · rw [List.getElem?_append_right (by omega), hl]
    by_cases h2 : i < o + us.length
    · rw [List.getElem?_append_left (by omega), if_pos ⟨by omega, h2⟩]
    · rw [List.getElem?_append_right (by omega), List.getElem?_drop, if_neg (by omega), Array.getElem?_toList]
      congr 1
      omega

theorem splice_size {old : Array Value} {o : Nat} {us : List Value} (h : o + us.length ≤ old.size) : (splice old o us).size = old.size := by
  unfold splice
  simp
  omega

def RelVL (G : Gh) : List V → List Value → Prop
  | [], [] => True
  | v :: vs, u :: us => RelV G v u ∧ RelVL G vs us
  | _, _ => False

theorem relVL_get {G : Gh} : ∀ {vs : List V} {us : List Value}, RelVL G vs us → vs.length = us.length ∧ ∀ (i : Nat) (v : V), vs[i]? = some v → ∃ u, us[i]? = some u ∧ RelV G v u
  | [], [], _ => ⟨rfl, fun i v h => by simp at h⟩
  | v :: vs, u :: us, h => by
    obtain ⟨h1, h2⟩ := h
    obtain ⟨h3, h4⟩ := relVL_get h2
    refine ⟨by simp [h3], fun i x hx => ?_⟩
    cases i with
    | zero => simp at hx; subst hx; exact ⟨u, by simp, h1⟩
    | succ i => simpa using h4 i x (by simpa using hx)
  | [], _ :: _, h => h.elim
  | _ :: _, [], h => h.elim

/-- Cells of one of the frame's own variables are written. -/
theorem Sim.store {id off : Nat} {vs : List V} {us : List Value} (h : Sim E st G a w) (hv : RelVL G vs us) {old : Array Value} {ty : TypeId} (hb : look st (.box id) ≠ none)
    (hold : w.heap[G.μ id]? = some (.cells old ty (0, 0))) (hfit : off + us.length ≤ old.size) : Sim E (cellRows id off vs ++ st) G a (w.setRow (G.μ id) (splice old off us)) := by
  obtain ⟨hlen, hget⟩ := relVL_get hv
  obtain ⟨hb1, hb2, hb3⟩ := h.boxes id hb
  have es : ∀ l, (∀ o, l ≠ .cell id o) → look (cellRows id off vs ++ st) l = look st l := fun l hl => look_cellRows_ne id hl off vs st
  have ne : ∀ {i}, look st (.box i) ≠ none → i ≠ id → G.μ i ≠ G.μ id := fun hi hne he => hne (h.inj _ _ hi hb he)
  refine ⟨⟨h.kw.os, h.kw.tape, h.kw.output, by rw [setRow_size]; exact h.size, fun k hk ho => ?_⟩, h.s0, h.snew, h.tmps, h.defers, fun t v hl => ?_, fun i o v hl => ?_, fun i hi => ?_, fun i j hi hj => ?_, fun b o v hS => ?_, fun i hi ht => ?_, fun i j hi hj => ?_⟩
  · rw [heap_setRow_ne _ _ _ _ (by rintro rfl; rcases hb1 with h1 | h1; omega; exact ho h1)]
    exact h.kw.frame k hk ho
  · rw [es _ (by simp)] at hl; exact h.slots t v hl
  · by_cases hi : i = id
    · subst hi
      rw [look_cellRows_cell] at hl
      refine ⟨by rw [es _ (by simp)]; exact hb, splice old off us, ty, ?_⟩
      rw [heap_setRow_same _ hold]
      by_cases hr : off ≤ o ∧ o < off + vs.length
      · rw [if_pos hr] at hl
        obtain ⟨u, hu, hrel⟩ := hget _ v hl
        exact ⟨u, rfl, by rw [splice_get hfit, if_pos (by omega)]; exact hu, hrel⟩
      · rw [if_neg hr] at hl
        obtain ⟨_, cs, ty', cv, h1, h2, h3⟩ := h.cells i o v hl
        rw [hold] at h1
        obtain ⟨rfl, rfl⟩ : old = cs ∧ ty = ty' := by simpa using h1
        exact ⟨cv, rfl, by rw [splice_get hfit, if_neg (by omega)]; exact h2, h3⟩
    · rw [es _ (by simp; exact hi)] at hl
      obtain ⟨hx, cs, ty', cv, h1, h2, h3⟩ := h.cells i o v hl
      exact ⟨by rw [es _ (by simp)]; exact hx, cs, ty', cv, by rw [heap_setRow_ne _ _ _ _ (ne hx hi)]; exact h1, h2, h3⟩
  · rw [es _ (by simp)] at hi
    obtain ⟨h1, h2, h3⟩ := h.boxes i hi
    exact ⟨h1, by rw [setRow_size]; exact h2, h3⟩
  · rw [es _ (by simp)] at hi hj; exact h.inj i j hi hj
  · rw [cell_setRow_ne]
    · exact h.stable b o v hS
    · rintro rfl; rw [hb3] at hS; cases hS
  · rw [es _ (by simp)] at hi
    obtain ⟨h1, ⟨cs, ty', h2, h3⟩, h4, h5⟩ := h.tips i hi ht
    exact ⟨h1, ⟨cs, ty', by rw [heap_setRow_ne _ _ _ _ (fun c => h5 id hb c.symm)]; exact h2, h3⟩, h4, fun j hj => h5 j (by rw [es _ (by simp)] at hj; exact hj)⟩
  · rw [es _ (by simp)] at hi hj; exact h.tinj i j hi hj

/-! ### Lists -/

/-- What stays, and a new row's first n cells. -/
def Stab.row (S : Stab) (b : Nat) (n : Nat) (cs : Array Value) : Stab := fun b' o => if b' = b then (if o < n then cs[o]? else none) else S b' o

theorem Sim.fresh (h : Sim E st G a w) (o : Nat) : G.S w.heap.size o = none := by
  cases hv : G.S w.heap.size o with
  | none => rfl
  | some v => exact absurd (lt_of_cell (h.stable _ _ _ hv)) (by omega)

theorem Sim.row_le (h : Sim E st G a w) (n : Nat) (cs : Array Value) : G.S.le (G.S.row w.heap.size n cs) := fun b o v hv => by
  unfold Stab.row
  rw [if_neg]
  · exact hv
  · rintro rfl; rw [h.fresh] at hv; cases hv

/-- Cells, one behind the other, that are known to stay. -/
theorem relP_of {S : Stab} {b : Nat} : ∀ {ds : List D} {us : List Value} {o : Nat}, RelL S ds us → (∀ k u, us[k]? = some u → S b (o + k) = some u) → RelP S ds b o
  | [], [], o, _, _ => .nil
  | d :: ds, u :: us, o, .cons h1 h2, hk => .cons (by simpa using hk 0 u (by simp)) h1 (relP_of h2 fun k x hx => by
      have := hk (k + 1) x (by simpa using hx)
      rwa [show o + (k + 1) = o + 1 + k from by omega] at this)

/-- Elements' cells: each element's, one behind the other. -/
def flat (l : List D) : List D := l.flatMap D.cells

theorem relE_of {S : Stab} {es b : Nat} : ∀ {l : List D} {o : Nat}, (∀ d ∈ l, d.cells.length = es) → RelP S (flat l) b o → RelE S es l b o
  | [], o, _, _ => .nil
  | d :: l, o, hn, hp => by
    have h1 := hn d (by simp)
    have hp' : RelP S (d.cells ++ flat l) b o := by simpa [flat] using hp
    have split : ∀ (xs ys : List D) (o : Nat), RelP S (xs ++ ys) b o → RelP S xs b o ∧ RelP S ys b (o + xs.length) := by
      intro xs
      induction xs with
      | nil => intro ys o h; exact ⟨.nil, by simpa using h⟩
      | cons x xs ih =>
        intro ys o h
        cases h with
        | cons hs hd hr =>
          obtain ⟨h3, h4⟩ := ih ys (o + 1) hr
          exact ⟨.cons hs hd h3, by rw [List.length_cons, show o + (xs.length + 1) = o + 1 + xs.length from by omega]; exact h4⟩
    obtain ⟨h2, h3⟩ := split _ _ _ hp'
    exact .cons h1 h2 (relE_of (fun x hx => hn x (by simp [hx])) (h1 ▸ h3))

theorem relP_append {S : Stab} {b : Nat} : ∀ {xs ys : List D} {o : Nat}, RelP S xs b o → RelP S ys b (o + xs.length) → RelP S (xs ++ ys) b o
  | [], ys, o, _, h => by simpa using h
  | x :: xs, ys, o, .cons hs hd hr, h => .cons hs hd (relP_append hr (by rw [show o + 1 + xs.length = o + (x :: xs).length from by simp; omega]; exact h))

theorem relE_append {S : Stab} {es b : Nat} : ∀ {xs ys : List D} {o : Nat}, RelE S es xs b o → RelE S es ys b (o + xs.length * es) → RelE S es (xs ++ ys) b o
  | [], ys, o, _, h => by simpa using h
  | x :: xs, ys, o, .cons hn hp hr, h => .cons hn hp (relE_append hr (by rw [show o + es + xs.length * es = o + (x :: xs).length * es from by rw [List.length_cons, Nat.add_mul]; omega]; exact h))

theorem relE_flat {S : Stab} {es b : Nat} : ∀ {l : List D} {o : Nat}, RelE S es l b o → RelP S (flat l) b o ∧ (flat l).length = l.length * es ∧ ∀ d ∈ l, d.cells.length = es
  | [], o, _ => ⟨.nil, by simp [flat], by simp⟩
  | d :: l, o, .cons hn hp hr => by
    obtain ⟨h1, h2, h3⟩ := relE_flat hr
    refine ⟨?_, ?_, ?_⟩
    · show RelP S (flat (d :: l)) b o
      rw [show flat (d :: l) = d.cells ++ flat l from rfl]
      exact relP_append hp (by rw [hn]; exact h1)
    · rw [show flat (d :: l) = d.cells ++ flat l from rfl, List.length_append, hn, h2, List.length_cons, Nat.add_mul]; omega
    · intro x hx
      rcases List.mem_cons.1 hx with rfl | hx
      · exact hn
      · exact h3 x hx

/-- The values of cells that stay. -/
theorem relP_vals {S : Stab} {b : Nat} : ∀ {ds : List D} {o : Nat}, RelP S ds b o → ∃ us : List Value, us.length = ds.length ∧ RelL S ds us ∧ ∀ k u, us[k]? = some u → S b (o + k) = some u
  | [], o, _ => ⟨[], rfl, .nil, by simp⟩
  | d :: ds, o, .cons (v := v) hs hd hr => by
    obtain ⟨us, h1, h2, h3⟩ := relP_vals hr
    refine ⟨v :: us, by simp [h1], .cons hd h2, fun k u hu => ?_⟩
    cases k with
    | zero => simp at hu; subst hu; exact hs
    | succ k => rw [show o + (k + 1) = o + 1 + k from by omega]; exact h3 k u (by simpa using hu)

theorem relL_append {S : Stab} : ∀ {xs ys : List D} {us vs : List Value}, RelL S xs us → RelL S ys vs → RelL S (xs ++ ys) (us ++ vs)
  | [], _, [], _, _, h => h
  | _ :: _, _, _ :: _, _, .cons h1 h2, h => .cons h1 (relL_append h2 h)

theorem relL_mono_le {S S' : Stab} (h : S.le S') {l : List D} {us : List Value} (hl : RelL S l us) : RelL S' l us := RelL.mono h hl

theorem relL_length {S : Stab} : ∀ {l : List D} {us : List Value}, RelL S l us → l.length = us.length
  | [], [], _ => rfl
  | _ :: _, _ :: _, .cons _ h => by simp [relL_length h]

/-- A new block, whose first cells stay. -/
theorem Sim.row (h : Sim E st G a w) (n : Nat) (cs : Array Value) (ty : TypeId) (fr : Nat × Nat) (hn : n ≤ cs.size) : Sim E st { G with S := G.S.row w.heap.size n cs } a (w.alloc (.cells cs ty fr)) := by
  refine h.later ((Below.refl _ _).alloc (Nat.le_refl _) _) (h.row_le n cs) fun b o v hv => ?_
  unfold Stab.row at hv
  split at hv
  · rename_i hb
    subst hb
    split at hv
    · refine .inr ⟨Nat.le_refl _, ?_⟩
      rw [cell_of_block (cs := cs) (ty := ty) (fr := fr) (by show (w.heap.push _)[w.heap.size]? = _; rw [Array.getElem?_push, if_pos rfl])]
      exact hv
    · cases hv
  · exact .inl hv

/-- A list that may not be appended to any more. -/
def dullV (id : Nat) : V → V
  | .own i es l => bif i == id then .d (.list es l) else .own i es l
  | v => v

def dull (id : Nat) : St → St
  | [] => []
  | e :: r => (e.1, e.2.map (dullV id)) :: dull id r

theorem look_dull (id : Nat) (st : St) (l : Loc) : look (dull id st) l = (look st l).map (dullV id) := by
  induction st with
  | nil => rfl
  | cons e r ih =>
    rw [dull, look_cons, look_cons, ih]
    simp only
    split <;> rfl

/-- G' reads every list's number but 'id' as G does. -/
structure Gh.tipx (G G' : Gh) (id : Nat) : Prop where
  S : G.S.le G'.S
  μ : G'.μ = G.μ
  tb : ∀ i, i ≠ id → G'.tb i = G.tb i
  tk : ∀ i, i ≠ id → G'.tk i = G.tk i
  te : ∀ i, i ≠ id → G'.te i = G.te i
  tz : ∀ i, i ≠ id → G'.tz i = G.tz i

theorem relV_own {G : Gh} {id es : Nat} {l : List D} {u : Value} (h : RelV G (.own id es l) u) : Rel G.S (.list es l) u := by
  rcases h with ⟨_, rfl, rfl⟩ | ⟨_, o, cap, rfl, hc, he, _⟩
  · exact .lnil
  · exact .list hc he

theorem RelV.dull {G G' : Gh} {id : Nat} (h : G.tipx G' id) {v : V} {u : Value} (hr : RelV G v u) : RelV G' (dullV id v) u := by
  cases v with
  | d x => exact Rel.mono h.S hr
  | ptr i off => simp only [dullV, RelV] at *; rw [h.μ]; exact hr
  | fn f ids => simp only [dullV, RelV] at *; rw [h.μ]; exact hr
  | own i es l =>
    by_cases hi : i = id
    · subst hi
      have e : dullV i (.own i es l) = .d (.list es l) := by simp [dullV]
      rw [e]
      exact Rel.mono h.S (relV_own hr)
    · have e : dullV id (.own i es l) = .own i es l := by simp only [dullV, show (i == id) = false from by simpa using hi, cond_false]
      rw [e]
      simp only [RelV] at *
      rw [h.tb i hi, h.tk i hi, h.te i hi, h.tz i hi]
      rcases hr with hr | ⟨h1, o, cap, h2, h3, h4, h5⟩
      · exact .inl hr
      · exact .inr ⟨h1, o, cap, h2, h3, RelE.mono h.S h4, h5⟩

/-- A list's number stands for another place from here on. -/
theorem Sim.retip {id b n z : Nat} {k : Bool} (h : Sim E st G a w) (hk : k = true → E.w0.heap.size ≤ b ∧ (∃ cs ty, w.heap[b]? = some (.cells cs ty (0, 0)) ∧ z ≤ cs.size) ∧ (∀ o, n ≤ o → G.S b o = none) ∧ (∀ j, look st (.box j) ≠ none → G.μ j ≠ b) ∧
      ∀ j, j ≠ id → look st (.tip j) ≠ none → G.tk j = true → G.tb j ≠ b) :
    Sim E ((.tip id, some (.ptr id 0)) :: dull id st) { G with tb := upd G.tb id b, tk := upd G.tk id k, te := upd G.te id n, tz := upd G.tz id z } a w := by
  have hx : G.tipx { G with tb := upd G.tb id b, tk := upd G.tk id k, te := upd G.te id n, tz := upd G.tz id z } id :=
    ⟨Stab.le.refl _, rfl, fun i hi => by simp [upd, hi], fun i hi => by simp [upd, hi], fun i hi => by simp [upd, hi], fun i hi => by simp [upd, hi]⟩
  have el : ∀ l, l ≠ .tip id → look ((Loc.tip id, some (V.ptr id 0)) :: dull id st) l = (look st l).map (dullV id) := fun l hl => by rw [look_ne _ _ (fun c => hl c.symm), look_dull]
  have en : ∀ l, l ≠ .tip id → look ((Loc.tip id, some (V.ptr id 0)) :: dull id st) l ≠ none → look st l ≠ none := fun l hl hh c => by rw [el l hl, c] at hh; exact hh rfl
  have ev : ∀ l v, l ≠ .tip id → look ((Loc.tip id, some (V.ptr id 0)) :: dull id st) l = some v → ∃ v0, look st l = some v0 ∧ dullV id v0 = v := fun l v hl hv => by
    rw [el l hl] at hv; simpa using hv
  refine ⟨h.kw, h.s0, h.snew, h.tmps, h.defers, fun t v hl => ?_, fun i o v hl => ?_, fun i hi => h.boxes i (en _ (by simp) hi), fun i j hi hj => h.inj i j (en _ (by simp) hi) (en _ (by simp) hj), h.stable, fun i hi ht => ?_, fun i j hi hj ht htj => ?_⟩
  · obtain ⟨v0, h1, rfl⟩ := ev _ v (by simp) hl
    exact (h.slots t v0 h1).dull hx
  · obtain ⟨v0, h1, rfl⟩ := ev _ v (by simp) hl
    obtain ⟨q1, cs, ty, cv, q2, q3, q4⟩ := h.cells i o v0 h1
    refine ⟨by rw [el _ (by simp)]; simpa using q1, cs, ty, cv, q2, q3, q4.dull hx⟩
  · by_cases hid : i = id
    · subst hid
      have hkt : k = true := by simpa [upd] using ht
      obtain ⟨q1, q2, q3, q4, _⟩ := hk hkt
      show _ ≤ (upd G.tb i b) i ∧ (∃ cs ty, w.heap[(upd G.tb i b) i]? = some (.cells cs ty (0, 0)) ∧ (upd G.tz i z) i ≤ cs.size) ∧ (∀ o, (upd G.te i n) i ≤ o → G.S ((upd G.tb i b) i) o = none) ∧ ∀ j, _ → G.μ j ≠ (upd G.tb i b) i
      simp only [upd, if_true]
      exact ⟨q1, q2, q3, fun j hj => q4 j (en _ (by simp) hj)⟩
    · have ht' : G.tk i = true := by simpa [upd, hid] using ht
      obtain ⟨q1, q2, q3, q4⟩ := h.tips i (en _ (by simpa using hid) hi) ht'
      show _ ≤ (upd G.tb id b) i ∧ (∃ cs ty, w.heap[(upd G.tb id b) i]? = some (.cells cs ty (0, 0)) ∧ (upd G.tz id z) i ≤ cs.size) ∧ (∀ o, (upd G.te id n) i ≤ o → G.S ((upd G.tb id b) i) o = none) ∧ ∀ j, _ → G.μ j ≠ (upd G.tb id b) i
      simp only [upd, hid, if_false]
      exact ⟨q1, q2, q3, fun j hj => q4 j (en _ (by simp) hj)⟩
  · show (upd G.tb id b) i = (upd G.tb id b) j → i = j
    by_cases h2 : i = id <;> by_cases h3 : j = id
    · intro _; rw [h2, h3]
    · subst h2
      have hkt : k = true := by simpa [upd] using ht
      simp only [upd, if_true, h3, if_false]
      intro c
      exact absurd c.symm ((hk hkt).2.2.2.2 j h3 (en _ (by simpa using h3) hj) (by simpa [upd, h3] using htj))
    · subst h3
      have hkt : k = true := by simpa [upd] using htj
      simp only [upd, if_true, h2, if_false]
      intro c
      exact absurd c ((hk hkt).2.2.2.2 i h2 (en _ (by simpa using h2) hi) (by simpa [upd, h2] using ht))
    · simp only [upd, h2, h3, if_false]
      exact h.tinj i j (en _ (by simpa using h2) hi) (en _ (by simpa using h3) hj) (by simpa [upd, h2] using ht) (by simpa [upd, h3] using htj)

/-- What stays, and so many cells more. -/
def Stab.more (S : Stab) (b e : Nat) (us : List Value) : Stab := fun b' o => if b' = b ∧ e ≤ o ∧ o < e + us.length then us[o - e]? else S b' o

/-- So much more behind a list, in the room that it has; the list's number is void. -/
theorem Sim.extend {id : Nat} {us : List Value} {old : Array Value} {ty : TypeId} (h : Sim E st G a w) (hl : look st (.tip id) ≠ none) (ht : G.tk id = true)
    (hold : w.heap[G.tb id]? = some (.cells old ty (0, 0))) (hroom : G.te id + us.length ≤ old.size) :
    Sim E ((.tip id, none) :: st) { G with S := G.S.more (G.tb id) (G.te id) us } a (w.setRow (G.tb id) (splice old (G.te id) us)) := by
  obtain ⟨t1, _, t3, t4⟩ := h.tips id hl ht
  have hle : G.S.le (G.S.more (G.tb id) (G.te id) us) := fun b o v hv => by
    unfold Stab.more
    rw [if_neg]
    · exact hv
    · rintro ⟨rfl, h1, _⟩; rw [t3 o h1] at hv; cases hv
  have es : ∀ l, l ≠ .tip id → look ((Loc.tip id, none) :: st) l = look st l := fun l hl => look_ne _ _ (fun c => hl c.symm)
  have et : ∀ i, look ((Loc.tip id, none) :: st) (.tip i) ≠ none → i ≠ id ∧ look st (.tip i) ≠ none := fun i hh => by
    rw [look_cons] at hh
    split at hh
    · exact absurd rfl hh
    · rename_i hc; exact ⟨fun c => hc (by rw [c]), hh⟩
  refine ⟨⟨h.kw.os, h.kw.tape, h.kw.output, by rw [setRow_size]; exact h.size, fun k hk ho => ?_⟩, h.s0.trans hle, fun b o v hS => ?_, h.tmps, h.defers, fun t v hl => ?_, fun i o v hl => ?_, fun i hi => ?_, fun i j hi hj => ?_, fun b o v hS => ?_, fun i hi hti => ?_, fun i j hi hj => ?_⟩
  · rw [heap_setRow_ne _ _ _ _ (by omega)]; exact h.kw.frame k hk ho
  · change Stab.more G.S (G.tb id) (G.te id) us b o = some v at hS
    unfold Stab.more at hS
    split at hS
    · rename_i hc; exact .inr (by rw [hc.1]; exact t1)
    · exact h.snew b o v hS
  · rw [es _ (by simp)] at hl; exact (h.slots t v hl).monoS hle
  · rw [es _ (by simp)] at hl
    obtain ⟨q1, cs', ty', cv, q2, q3, q4⟩ := h.cells i o v hl
    exact ⟨by rw [es _ (by simp)]; exact q1, cs', ty', cv, by show (w.setRow _ _).heap[G.μ i]? = _; rw [heap_setRow_ne _ _ _ _ (t4 i q1)]; exact q2, q3, q4.monoS hle⟩
  · rw [es _ (by simp)] at hi
    obtain ⟨q1, q2, q3⟩ := h.boxes i hi
    refine ⟨q1, by rw [setRow_size]; exact q2, fun o => ?_⟩
    show Stab.more G.S (G.tb id) (G.te id) us (G.μ i) o = none
    unfold Stab.more
    rw [if_neg (fun c => t4 i hi c.1)]; exact q3 o
  · rw [es _ (by simp)] at hi hj; exact h.inj i j hi hj
  · by_cases hb : b = G.tb id
    · subst hb
      rw [cell_of_block (heap_setRow_same _ hold), splice_get hroom]
      change Stab.more G.S (G.tb id) (G.te id) us (G.tb id) o = some v at hS
      unfold Stab.more at hS
      by_cases hc : G.te id ≤ o ∧ o < G.te id + us.length
      · rw [if_pos ⟨rfl, hc⟩] at hS; rw [if_pos hc]; exact hS
      · rw [if_neg (fun c => hc c.2)] at hS
        rw [if_neg hc, ← h.stable _ _ _ hS, cell_of_block hold]
    · rw [cell_setRow_ne _ _ _ hb]
      change Stab.more G.S (G.tb id) (G.te id) us b o = some v at hS
      unfold Stab.more at hS
      rw [if_neg (fun c => hb c.1)] at hS
      exact h.stable _ _ _ hS
  · obtain ⟨hni, hi'⟩ := et i hi
    obtain ⟨q1, ⟨cs', ty', q2, q3⟩, q4, q5⟩ := h.tips i hi' hti
    have hμ : G.tb i ≠ G.tb id := fun c => hni (h.tinj i id hi' hl hti ht c)
    refine ⟨q1, ⟨cs', ty', by show (w.setRow _ _).heap[G.tb i]? = _; rw [heap_setRow_ne _ _ _ _ hμ]; exact q2, q3⟩, fun o ho => ?_, fun j hj => q5 j (by rw [es _ (by simp)] at hj; exact hj)⟩
    show Stab.more G.S (G.tb id) (G.te id) us (G.tb i) o = none
    unfold Stab.more
    rw [if_neg (fun c => hμ c.1)]; exact q4 o ho
  · exact fun ht htj => h.tinj i j (et i hi).2 (et j hj).2 ht htj

end Go.Ab


namespace Go.Ab
open Go Go.RowKit
set_option linter.unusedVariables false
set_option linter.unusedSimpArgs false

variable {P : Program} {E : Env} {st : St} {G : Gh} {a : Act} {w : World}

/-- Whatever fits what is known, K holds of it. -/
def Hits (E : Env) (st : St) (K : Act → World → Prop) : Prop := ∀ G a w, Sim E st G a w → K a w

theorem Hits.mono {K K' : Act → World → Prop} (h : Hits E st K) (hk : ∀ a w, K a w → K' a w) : Hits E st K' := fun G a w s => hk _ _ (h G a w s)
theorem Hits.keep {st' : St} {K : Act → World → Prop} (hk : st'.kept st) (hb : st'.boxed = true) (h : Hits E st' K) : Hits E st K := fun G a w s => h G a w (s.keep hk hb)

/-- An operation: it looks at the rows L of what is known, takes the new numbers fr, and tells the rows W. -/
def FOk (P : Program) (E : Env) (o : Oper) (st0 : St) (L : List Loc) (fr : List Nat) (W : St) : Prop :=
  ∀ (Q : Exit → Act → World → Prop) (K : Act → World → Prop) (st : St), (∀ l ∈ L, look st l = look st0 l) → (∀ i ∈ fr, st.unused i = true) → Hits E (W ++ st) K → Hits E st fun a w => o.wp P a w K Q

/-! ### Operands -/

def D.ofVal : Value → D
  | .agg cs => .agg (cs.toList.map .sc)
  | v => .sc v

theorem rel_ofVal (S : Stab) (v : Value) : Rel S (D.ofVal v) v := by
  cases v with
  | agg cs =>
    obtain ⟨l⟩ := cs
    refine .agg ?_
    show RelL S (l.map .sc) l
    induction l with
    | nil => exact .nil
    | cons x l ih => exact .cons (.sc x) ih
  | _ => exact .sc _

def ev (st : St) : Operand → Option V
  | .tmp t => look st (.slot t)
  | .const v => some (.d (D.ofVal v))
  | .global g => some (.d (.sc (.pointer (some ⟨g, 0, none⟩))))
  | .func f => some (.d (.sc (.func (.func f) #[] #[])))

def evL : Operand → List Loc
  | .tmp t => [.slot t]
  | _ => []

theorem Sim.ev (h : Sim E st G a w) {x : Operand} {v : V} (he : ev st x = some v) : RelV G v (a.eval x) := by
  cases x with
  | tmp t => exact h.slots t v he
  | const c => obtain rfl := Option.some.inj he; exact rel_ofVal _ c
  | global g => obtain rfl := Option.some.inj he; exact .sc _
  | func f => obtain rfl := Option.some.inj he; exact .sc _

theorem ev_same {st st0 : St} {x : Operand} {L : List Loc} (hL : ∀ l ∈ L, look st l = look st0 l) (hx : ∀ l ∈ evL x, l ∈ L) : ev st x = ev st0 x := by
  cases x with
  | tmp t => exact hL _ (hx _ (by simp [evL]))
  | _ => rfl

def evs (st : St) : List Operand → Option (List D)
  | [] => some []
  | x :: r => match ev st x, evs st r with
    | some (.d d), some l => some (d :: l)
    | some (.own _ es q), some l => some (.list es q :: l)
    | _, _ => none

def evsL (l : List Operand) : List Loc := l.flatMap evL

theorem Sim.evs (h : Sim E st G a w) : ∀ {xs : List Operand} {ds : List D}, evs st xs = some ds → RelL G.S ds (xs.map a.eval)
  | [], ds, he => by obtain rfl := Option.some.inj he; exact .nil
  | x :: r, ds, he => by
    unfold Ab.evs at he
    cases hx : Ab.ev st x with
    | none => rw [hx] at he; cases he
    | some v =>
      cases hr : Ab.evs st r with
      | none => rw [hx, hr] at he; cases v <;> cases he
      | some l =>
        rw [hx, hr] at he
        have h1 := h.ev hx
        have h2 := Sim.evs h hr
        cases v with
        | d d => obtain rfl := Option.some.inj he; exact .cons h1 h2
        | own id es q => obtain rfl := Option.some.inj he; exact .cons (relV_own h1) h2
        | _ => cases he

theorem evs_same {st st0 : St} {L : List Loc} (hL : ∀ l ∈ L, look st l = look st0 l) : ∀ {xs : List Operand}, (∀ l ∈ evsL xs, l ∈ L) → evs st xs = evs st0 xs
  | [], _ => rfl
  | x :: r, hx => by
    unfold evs
    rw [ev_same hL (fun l hl => hx l (by simp [evsL, hl])), evs_same hL (xs := r) (fun l hl => hx l (by simp only [evsL, List.flatMap_cons, List.mem_append]; exact .inr hl))]

/-! ### Operations that yield a value and leave the world, or only add to it -/

/-- The value v, in a world that only has more. -/
theorem fok_later {o : Oper} {d : Nat} {v : V} {L : List Loc} (ho : o.dst = some d) (hd : d < E.N)
    (run : ∀ (st' : St) (G : Gh) (a : Act) (w : World), (∀ l ∈ L, look st' l = look st l) → Sim E st' G a w → ∃ u w' S', (execOp a.eval o).run P w = .ok (.value u) w' ∧ Below w.heap.size w w' ∧ G.S.le S' ∧
      (∀ b o v, S' b o = some v → G.S b o = some v ∨ (w.heap.size ≤ b ∧ w'.cell? ⟨b, o, none⟩ = some v)) ∧ RelV { G with S := S' } v u) :
    FOk P E o st L [] [(.slot d, some v)] := by
  intro Q K st' hL _ hK G a w hs
  obtain ⟨u, w', S', hr, hb, hS, hn, hv⟩ := run st' G a w hL hs
  show o.upon P a K Q ((execOp a.eval o).run P w)
  rw [hr]
  show K (a.put o.dst u) w'
  rw [ho]
  exact hK _ _ _ ((hs.later hb hS hn).put hd hv)

theorem fok_val {o : Oper} {d : Nat} {v : V} {L : List Loc} (ho : o.dst = some d) (hd : d < E.N)
    (run : ∀ (st' : St) (G : Gh) (a : Act) (w : World), (∀ l ∈ L, look st' l = look st l) → Sim E st' G a w → ∃ u, (execOp a.eval o).run P w = .ok (.value u) w ∧ RelV G v u) :
    FOk P E o st L [] [(.slot d, some v)] :=
  fok_later ho hd fun st' G a w hL hs =>
    let ⟨u, hr, hv⟩ := run st' G a w hL hs
    ⟨u, w, G.S, hr, Below.refl _ _, Stab.le.refl _, fun _ _ _ e => .inl e, hv⟩

variable {d : Nat} {ty : TypeId} {pos : String} {af : Array Edge} {g : Option (Nat × Bool)} {x y z : Operand}

theorem mem_l {α : Type} {A B : List α} {l : α} (h : l ∈ A) : l ∈ A ++ B := List.mem_append_left _ h
theorem mem_r {α : Type} {A B : List α} {l : α} (h : l ∈ B) : l ∈ A ++ B := List.mem_append_right _ h

theorem f_move {v : V} (hx : ev st x = some v) (hd : d < E.N) : FOk P E ⟨some d, .move x, ty, pos, af, g⟩ st (evL x) [] [(.slot d, some v)] :=
  fok_val rfl hd fun st' G a w hL hs => ⟨a.eval x, rfl, hs.ev ((ev_same hL fun l h => h).trans hx)⟩

theorem f_assign {v : V} (hx : ev st x = some v) (hd : d < E.N) : FOk P E ⟨some d, .assign x, ty, pos, af, g⟩ st (evL x) [] [(.slot d, some v)] :=
  fok_val rfl hd fun st' G a w hL hs => ⟨a.eval x, rfl, hs.ev ((ev_same hL fun l h => h).trans hx)⟩

theorem rel_sc {S : Stab} {v u : Value} (h : Rel S (.sc v) u) : u = v := by cases h; rfl

theorem Sim.sc (h : Sim E st G a w) {x : Operand} {v : Value} (he : Ab.ev st x = some (.d (.sc v))) : a.eval x = v := rel_sc (h.ev he)

/-- One of two. -/
def pickV (st : St) (x y : Operand) : Bool → Option V
  | true => ev st x
  | false => ev st y

theorem f_pick {c : Bool} {v : V} (hz : ev st z = some (.d (.sc (.bool c)))) (hx : pickV st x y c = some v) (hd : d < E.N) :
    FOk P E ⟨some d, .pick z x y, ty, pos, af, g⟩ st (evL z ++ (evL x ++ evL y)) [] [(.slot d, some v)] :=
  fok_val rfl hd fun st' G a w hL hs => by
    have e1 := hs.sc ((ev_same hL fun l h => mem_l h).trans hz)
    refine ⟨if c then a.eval x else a.eval y, by simp [execOp, e1, asBool], ?_⟩
    cases c with
    | true => exact hs.ev ((ev_same hL fun l h => mem_r (mem_l h)).trans hx)
    | false => exact hs.ev ((ev_same hL fun l h => mem_r (mem_r h)).trans hx)

/-- Operations of two plain values that can't fail. -/
def binS (op : BinOp) : Value → Value → Option Value
  | .int k p, .int k' q => if k = k' then match op with
      | .add => some (.int k (k.wrap (p + q)))
      | .sub => some (.int k (k.wrap (p - q)))
      | .mul => some (.int k (k.wrap (p * q)))
      | .and => some (.int k (bits .and k p q))
      | .or => some (.int k (bits .or k p q))
      | .xor => some (.int k (bits .xor k p q))
      | .andNot => some (.int k (bits .andNot k p q))
      | .eql => some (.bool (p == q))
      | .neq => some (.bool (p != q))
      | .lss => some (.bool (decide (p < q)))
      | .leq => some (.bool (decide (p ≤ q)))
      | .gtr => some (.bool (decide (p > q)))
      | .geq => some (.bool (decide (p ≥ q)))
      | _ => none else none
  | .string p, .string q => match op with
      | .eql => some (.bool (p.toList == q.toList))
      | .neq => some (.bool (!(p.toList == q.toList)))
      | _ => none
  | _, _ => none

theorem run_binS {op : BinOp} {t : TypeId} {x y : Operand} {p q v : Value} (h : binS op p q = some v) (w : World) :
    ((do eqGuard op t x y p q; binOp op t p q) : Sem Value).run P w = .ok v w := by
  cases p <;> cases q <;> simp only [binS] at h <;> try (cases h; done)
  · split at h
    · rename_i hk; subst hk
      cases op <;> simp only at h <;> first
        | (cases h; done)
        | (obtain rfl := Option.some.inj h; simp [eqGuard, binOp, Op.intArith, Op.intCmp, Op.intBits, bits])
    · cases h
  · cases op <;> simp only at h <;> first
      | (cases h; done)
      | (obtain rfl := Option.some.inj h; simp [eqGuard, binOp, Op.stringOp])

theorem f_bin {op : BinOp} {t yt : TypeId} {p q v : Value} (hx : ev st x = some (.d (.sc p))) (hy : ev st y = some (.d (.sc q))) (hv : binS op p q = some v) (hd : d < E.N) :
    FOk P E ⟨some d, .binOp op t x y yt, ty, pos, af, g⟩ st (evL x ++ evL y) [] [(.slot d, some (.d (.sc v)))] :=
  fok_val rfl hd fun st' G a w hL hs => by
    have e1 := hs.sc ((ev_same hL fun l h => mem_l h).trans hx)
    have e2 := hs.sc ((ev_same hL fun l h => mem_r h).trans hy)
    have e3 := run_binS (P := P) (t := t) (x := x) (y := y) hv w
    exact ⟨v, by simp only [execOp, e1, e2]; rw [Sem.run_bind, e3]; rfl, .sc _⟩

def unS (op : UnOp) : Value → Option Value
  | .bool b => match op with
    | .not => some (.bool !b)
    | _ => none
  | .int k n => match op with
    | .neg => some (.int k (k.wrap (0 - n)))
    | .xor => some (.int k (bits .xor k (if k.signed then -1 else k.max) n))
    | _ => none
  | _ => none

theorem f_un {op : UnOp} {t : TypeId} {p v : Value} (hx : ev st x = some (.d (.sc p))) (hv : unS op p = some v) (hd : d < E.N) :
    FOk P E ⟨some d, .unOp op t x, ty, pos, af, g⟩ st (evL x) [] [(.slot d, some (.d (.sc v)))] :=
  fok_val rfl hd fun st' G a w hL hs => by
    have e1 := hs.sc ((ev_same hL fun l h => h).trans hx)
    refine ⟨v, ?_, .sc _⟩
    have e2 : Op.unary op p = pure v := by
      cases p <;> simp only [unS] at hv <;> try (cases hv; done)
      all_goals (cases op <;> simp only at hv <;> first | (cases hv; done) | (obtain rfl := Option.some.inj hv; rfl))
    simp only [execOp, e1, e2]; rfl

theorem f_shl {t yt : TypeId} {k k' : IntKind} {p q : Int} (hx : ev st x = some (.d (.sc (.int k p)))) (hy : ev st y = some (.d (.sc (.int k' q)))) (h0 : 0 ≤ q) (hd : d < E.N) :
    FOk P E ⟨some d, .binOp .shl t x y yt, ty, pos, af, g⟩ st (evL x ++ evL y) [] [(.slot d, some (.d (.sc (.int k (k.wrap (p * 2 ^ (min q.toNat k.bits)))))))] :=
  fok_val rfl hd fun st' G a w hL hs => by
    have e1 := hs.sc ((ev_same hL fun l h => mem_l h).trans hx)
    have e2 := hs.sc ((ev_same hL fun l h => mem_r h).trans hy)
    have e3 : Op.shift .shl k p k' q = pure (.int k (k.wrap (p * 2 ^ (min q.toNat k.bits)))) := by unfold Op.shift; rw [if_neg (by omega)]
    exact ⟨_, by simp [execOp, e1, e2, eqGuard, binOp, e3], .sc _⟩

theorem f_shr {t yt : TypeId} {k k' : IntKind} {p q : Int} (hx : ev st x = some (.d (.sc (.int k p)))) (hy : ev st y = some (.d (.sc (.int k' q)))) (h0 : 0 ≤ q) (hd : d < E.N) :
    FOk P E ⟨some d, .binOp .shr t x y yt, ty, pos, af, g⟩ st (evL x ++ evL y) [] [(.slot d, some (.d (.sc (.int k (p.fdiv (2 ^ (min q.toNat k.bits)))))))] :=
  fok_val rfl hd fun st' G a w hL hs => by
    have e1 := hs.sc ((ev_same hL fun l h => mem_l h).trans hx)
    have e2 := hs.sc ((ev_same hL fun l h => mem_r h).trans hy)
    have e3 : Op.shift .shr k p k' q = pure (.int k (p.fdiv (2 ^ (min q.toNat k.bits)))) := by unfold Op.shift; rw [if_neg (by omega)]
    exact ⟨_, by simp [execOp, e1, e2, eqGuard, binOp, e3], .sc _⟩

theorem f_div {t yt : TypeId} {k : IntKind} {p q : Int} (hx : ev st x = some (.d (.sc (.int k p)))) (hy : ev st y = some (.d (.sc (.int k q)))) (h0 : q ≠ 0) (hd : d < E.N) :
    FOk P E ⟨some d, .binOp .quo t x y yt, ty, pos, af, g⟩ st (evL x ++ evL y) [] [(.slot d, some (.d (.sc (.int k (k.wrap (p.tdiv q))))))] :=
  fok_val rfl hd fun st' G a w hL hs => by
    have e1 := hs.sc ((ev_same hL fun l h => mem_l h).trans hx)
    have e2 := hs.sc ((ev_same hL fun l h => mem_r h).trans hy)
    exact ⟨_, by simp [execOp, e1, e2, eqGuard, binOp, Op.intDiv, h0], .sc _⟩

theorem f_rem {t yt : TypeId} {k : IntKind} {p q : Int} (hx : ev st x = some (.d (.sc (.int k p)))) (hy : ev st y = some (.d (.sc (.int k q)))) (h0 : q ≠ 0) (hd : d < E.N) :
    FOk P E ⟨some d, .binOp .rem t x y yt, ty, pos, af, g⟩ st (evL x ++ evL y) [] [(.slot d, some (.d (.sc (.int k (p.tmod q)))))] :=
  fok_val rfl hd fun st' G a w hL hs => by
    have e1 := hs.sc ((ev_same hL fun l h => mem_l h).trans hx)
    have e2 := hs.sc ((ev_same hL fun l h => mem_r h).trans hy)
    exact ⟨_, by simp [execOp, e1, e2, eqGuard, binOp, Op.intDiv, h0], .sc _⟩

/-- Two strings, put together. -/
theorem f_cat {t yt : TypeId} {p q : ByteArray} (hx : ev st x = some (.d (.sc (.string p)))) (hy : ev st y = some (.d (.sc (.string q)))) (h0 : p.size + q.size ≤ 9223372036854775807) (hd : d < E.N) :
    FOk P E ⟨some d, .binOp .add t x y yt, ty, pos, af, g⟩ st (evL x ++ evL y) [] [(.slot d, some (.d (.sc (.string (p ++ q)))))] :=
  fok_val rfl hd fun st' G a w hL hs => by
    have e1 := hs.sc ((ev_same hL fun l h => mem_l h).trans hx)
    have e2 := hs.sc ((ev_same hL fun l h => mem_r h).trans hy)
    have e3 : Op.stringOp .add p q = pure (.string (p ++ q)) := by
      unfold Op.stringOp
      simp only
      rw [if_neg]
      have : IntKind.i64.max = 9223372036854775807 := by decide
      omega
    exact ⟨_, by simp [execOp, e1, e2, eqGuard, binOp, e3], .sc _⟩

/-- A binary operation whose run is told. -/
theorem f_binW {op : BinOp} {t yt : TypeId} {p q v : Value} (hx : ev st x = some (.d (.sc p))) (hy : ev st y = some (.d (.sc q))) (hv : ∀ w, ((do eqGuard op t x y p q; binOp op t p q) : Sem Value).run P w = .ok v w) (hd : d < E.N) :
    FOk P E ⟨some d, .binOp op t x y yt, ty, pos, af, g⟩ st (evL x ++ evL y) [] [(.slot d, some (.d (.sc v)))] :=
  fok_val rfl hd fun st' G a w hL hs => by
    have e1 := hs.sc ((ev_same hL fun l h => mem_l h).trans hx)
    have e2 := hs.sc ((ev_same hL fun l h => mem_r h).trans hy)
    exact ⟨v, by simp only [execOp, e1, e2]; rw [Sem.run_bind, hv]; rfl, .sc _⟩

/-- The plain values of an aggregate of such. -/
def scs : List D → Option (List Value)
  | [] => some []
  | .sc v :: r => (scs r).map (v :: ·)
  | _ => none

theorem rel_scs {S : Stab} : ∀ {l : List D} {vs us : List Value}, scs l = some vs → RelL S l us → us = vs
  | [], vs, us, h, hr => by cases hr; exact (Option.some.inj h)
  | .sc v :: r, vs, u :: us, h, .cons h1 h2 => by
    unfold scs at h
    cases hr : scs r with
    | none => rw [hr] at h; cases h
    | some q =>
      rw [hr] at h
      obtain rfl := Option.some.inj h
      rw [rel_sc h1, rel_scs hr h2]
  | .agg _ :: _, _, _, h, _ => by cases h
  | .tup _ :: _, _, _, h, _ => by cases h
  | .list _ _ :: _, _, _, h, _ => by cases h
  | .eptr _ :: _, _, _, h, _ => by cases h

/-- Two structs held against one another; the run of the comparison is told. -/
theorem f_eqA {op : BinOp} {t yt : TypeId} {l l' : List D} {p q : List Value} {v : Bool} (hx : ev st x = some (.d (.agg l))) (hy : ev st y = some (.d (.agg l'))) (hp : scs l = some p) (hq : scs l' = some q)
    (hv : ∀ w, ((do eqGuard op t x y (.agg ⟨p⟩) (.agg ⟨q⟩); binOp op t (.agg ⟨p⟩) (.agg ⟨q⟩)) : Sem Value).run P w = .ok (.bool v) w) (hd : d < E.N) :
    FOk P E ⟨some d, .binOp op t x y yt, ty, pos, af, g⟩ st (evL x ++ evL y) [] [(.slot d, some (.d (.sc (.bool v))))] :=
  fok_val rfl hd fun st' G a w hL hs => by
    have e1 := hs.ev ((ev_same hL fun l h => mem_l h).trans hx)
    have e2 := hs.ev ((ev_same hL fun l h => mem_r h).trans hy)
    cases hc : a.eval x <;> rw [hc] at e1 <;> cases e1
    cases hc' : a.eval y <;> rw [hc'] at e2 <;> cases e2
    rename_i h1 _ h2
    obtain rfl := rel_scs hp h1
    obtain rfl := rel_scs hq h2
    exact ⟨.bool v, by simp only [execOp, hc, hc']; rw [Sem.run_bind, hv]; rfl, .sc _⟩

theorem f_conv {src dst : TypeId} {k k' : IntKind} {n : Int} (hx : ev st x = some (.d (.sc (.int k n)))) (hs : (P.underlying src).isSome = true) (ht : P.underlying dst = some (.int k')) (hd : d < E.N) :
    FOk P E ⟨some d, .convert src dst x, ty, pos, af, g⟩ st (evL x) [] [(.slot d, some (.d (.sc (.int k' (k'.wrap n)))))] :=
  fok_val rfl hd fun st' G a w hL hsim => by
    have e1 := hsim.sc ((ev_same hL fun l h => h).trans hx)
    obtain ⟨u, hu⟩ := Option.isSome_iff_exists.mp hs
    exact ⟨_, by simp [execOp, e1, convert, run_underlying hu, run_underlying ht, Conv.intToInt], .sc _⟩

theorem f_extract {k : Nat} {l : List D} {v : D} (hx : ev st x = some (.d (.tup l))) (hk : l[k]? = some v) (hd : d < E.N) :
    FOk P E ⟨some d, .extract x k, ty, pos, af, g⟩ st (evL x) [] [(.slot d, some (.d v))] :=
  fok_val rfl hd fun st' G a w hL hs => by
    have e1 := hs.ev ((ev_same hL fun l h => h).trans hx)
    cases hc : a.eval x <;> rw [hc] at e1 <;> cases e1
    rename_i cs hl
    have : ∀ {l : List D} {us : List Value} {k : Nat} {v : D}, RelL G.S l us → l[k]? = some v → ∃ u, us[k]? = some u ∧ Rel G.S v u := by
      intro l
      induction l with
      | nil => intro us k v _ h; simp at h
      | cons d l ih =>
        intro us k v h hk
        cases h with
        | cons h1 h2 =>
          cases k with
          | zero => simp at hk; subst hk; exact ⟨_, rfl, h1⟩
          | succ k => simpa using ih h2 (by simpa using hk)
    obtain ⟨u, hu, hr⟩ := this hl hk
    exact ⟨u, by simp [execOp, hc, Instr.extract, hu], hr⟩

/-! ### Types -/

/-- Is it an aggregate? Of how many cells? -/
def kd (P : Program) (t : TypeId) : Option (Bool × Nat) :=
  match P.underlying t, P.info? t with
  | some u, some i => some (match u with | .struct _ | .array _ _ => true | _ => false, i.size)
  | _, _ => none

theorem kd_spec {t : TypeId} {b : Bool} {n : Nat} (h : kd P t = some (b, n)) : (∀ w, (isAgg t).run P w = .ok b w) ∧ (∀ w, (sizeOf t).run P w = .ok n w) ∧ ∃ i, P.info? t = some i ∧ i.size = n := by
  unfold kd at h
  cases hu : P.underlying t with
  | none => simp [hu] at h
  | some u =>
    cases hi : P.info? t with
    | none => simp [hu, hi] at h
    | some i =>
      simp only [hu, hi, Option.some.injEq, Prod.mk.injEq] at h
      obtain ⟨h1, h2⟩ := h
      refine ⟨fun w => ?_, fun w => by simp [sizeOf, run_typeInfo w hi, h2], i, rfl, h2⟩
      cases u <;> simp_all [isAgg, run_underlying hu]

theorem run_loadVar1 {t : TypeId} {n : Nat} {ad : Addr} {v : Value} (hk : kd P t = some (false, n)) (hc : w.cell? ad = some v) : (loadVar t ad).run P w = .ok v w := by
  obtain ⟨h1, _, _⟩ := kd_spec hk
  simp [loadVar, h1, hc]

theorem add_at (b o j : Nat) : (⟨b, o, none⟩ : Addr).add j = ⟨b, o + j, none⟩ := by unfold Addr.add; split <;> simp_all

theorem run_loadVarN {t : TypeId} {n b o : Nat} {us : List Value} (hk : kd P t = some (true, n)) (hn : us.length = n) (hc : ∀ j v, us[j]? = some v → w.cell? ⟨b, o + j, none⟩ = some v) :
    (loadVar t ⟨b, o, none⟩).run P w = .ok (.agg us.toArray) w := by
  obtain ⟨h1, h2, _⟩ := kd_spec hk
  have h3 := run_loadCells_list (P := P) w ⟨b, o, none⟩ us (fun j v hv => by rw [add_at]; exact hc j v hv)
  rw [hn] at h3
  simp [loadVar, h1, h2, h3]

/-- Data in so many cells of a variable. -/
def cellsD (st : St) (id : Nat) : Nat → Nat → Option (List D)
  | _, 0 => some []
  | o, n + 1 => match look st (.cell id o), cellsD st id (o + 1) n with
    | some (.d x), some l => some (x :: l)
    | _, _ => none

def cellsL (id : Nat) : Nat → Nat → List Loc
  | _, 0 => []
  | o, n + 1 => .cell id o :: cellsL id (o + 1) n

theorem cellsD_same {st st0 : St} {id : Nat} : ∀ {n o : Nat}, (∀ l ∈ cellsL id o n, look st l = look st0 l) → cellsD st id o n = cellsD st0 id o n
  | 0, _, _ => rfl
  | n + 1, o, h => by
    unfold cellsD
    rw [h (.cell id o) (by simp [cellsL]), cellsD_same (n := n) (fun l hl => h l (by simp [cellsL, hl]))]

theorem Sim.cellsD (h : Sim E st G a w) {id : Nat} : ∀ {n o : Nat} {l : List D}, Ab.cellsD st id o n = some l → ∃ us : List Value, us.length = n ∧ RelL G.S l us ∧ ∀ j v, us[j]? = some v → w.cell? ⟨G.μ id, o + j, none⟩ = some v
  | 0, o, l, hl => by obtain rfl := Option.some.inj hl; exact ⟨[], rfl, .nil, by simp⟩
  | n + 1, o, l, hl => by
    unfold Ab.cellsD at hl
    cases hc : look st (.cell id o) with
    | none => rw [hc] at hl; cases hl
    | some v =>
      cases hr : Ab.cellsD st id (o + 1) n with
      | none => rw [hc, hr] at hl; cases v <;> cases hl
      | some r =>
        rw [hc, hr] at hl
        cases v with
        | d x =>
          obtain rfl := Option.some.inj hl
          obtain ⟨us, h1, h2, h3⟩ := Sim.cellsD h hr
          obtain ⟨_, cs, ty, cv, h4, h5, h6⟩ := h.cells id o _ hc
          refine ⟨cv :: us, by simp [h1], .cons h6 h2, fun j u hu => ?_⟩
          cases j with
          | zero => simp at hu; subst hu; rw [Nat.add_zero, cell_of_block h4]; exact h5
          | succ j => rw [show o + (j + 1) = o + 1 + j from by omega]; exact h3 j u (by simpa using hu)
        | _ => cases hl

/-- What a load yields. -/
def ldV (st : St) : Bool × Nat → V → Option V
  | (false, _), .ptr id off => look st (.cell id off)
  | (true, n), .ptr id off => (cellsD st id off n).map fun l => .d (.agg l)
  | (false, _), .d (.eptr (x :: _)) => some (.d x)
  | (true, n), .d (.eptr l) => match Nat.ble n l.length with
    | true => some (.d (.agg (l.take n)))
    | false => none
  | _, _ => none

def ldL : Bool × Nat → V → List Loc
  | (false, _), .ptr id off => [.cell id off]
  | (true, n), .ptr id off => cellsL id off n
  | _, _ => []

theorem relL_take {S : Stab} : ∀ {l : List D} {us : List Value} (n : Nat), RelL S l us → RelL S (l.take n) (us.take n)
  | [], [], n, _ => by simp; exact .nil
  | _ :: _, _ :: _, 0, _ => .nil
  | _ :: _, _ :: _, n + 1, .cons h1 h2 => .cons h1 (relL_take n h2)

theorem f_load {t : TypeId} {k : Bool × Nat} {p v : V} (hk : kd P t = some k) (hx : ev st x = some p) (hv : ldV st k p = some v) (hd : d < E.N) :
    FOk P E ⟨some d, .load t x, ty, pos, af, g⟩ st (evL x ++ ldL k p) [] [(.slot d, some v)] :=
  fok_val rfl hd fun st' G a w hL hs => by
    have e1 := hs.ev ((ev_same hL fun l h => mem_l h).trans hx)
    have hL2 : ∀ l ∈ ldL k p, look st' l = look st l := fun l h => hL l (mem_r h)
    obtain ⟨b, n⟩ := k
    cases p with
    | ptr id off =>
      have e2 : a.eval x = .pointer (some ⟨G.μ id, off, none⟩) := e1
      cases b with
      | false =>
        have hv' : look st' (.cell id off) = some v := (hL2 _ (by simp [ldL])).trans hv
        obtain ⟨_, cs, ty', cv, h4, h5, h6⟩ := hs.cells id off v hv'
        exact ⟨cv, by simp [execOp, e2, Instr.loadAt, Instr.sureAddr, run_loadVar1 hk ((cell_of_block h4).trans h5)], h6⟩
      | true =>
        simp only [ldV, Option.map_eq_some_iff] at hv
        obtain ⟨l, hl, rfl⟩ := hv
        obtain ⟨us, h1, h2, h3⟩ := hs.cellsD ((cellsD_same hL2).trans hl)
        exact ⟨.agg us.toArray, by simp [execOp, e2, Instr.loadAt, Instr.sureAddr, run_loadVarN hk h1 h3], .agg h2⟩
    | d q =>
      cases q with
      | eptr l =>
        cases hc : a.eval x <;> rw [hc] at e1 <;> cases e1
        rename_i b' o hp
        obtain ⟨us, h1, h2, h3⟩ := relP_vals hp
        have h3' : ∀ j u, us[j]? = some u → w.cell? ⟨b', o + j, none⟩ = some u := fun j u hu => hs.stable _ _ _ (h3 j u hu)
        cases b with
        | false =>
          cases l with
          | nil => simp [ldV] at hv
          | cons q l =>
            simp only [ldV, Option.some.injEq] at hv
            subst hv
            cases h2 with
            | cons h4 h5 =>
              rename_i u us'
              exact ⟨u, by simp [execOp, hc, Instr.loadAt, Instr.sureAddr, run_loadVar1 hk (show w.cell? ⟨b', o, none⟩ = some u from h3' 0 u (by simp))], h4⟩
        | true =>
          simp only [ldV] at hv
          split at hv
          · rename_i hle
            have hle' : n ≤ l.length := Nat.le_of_ble_eq_true hle
            obtain rfl := Option.some.inj hv
            have h6 := run_loadVarN (P := P) (w := w) (us := us.take n) hk (by simp; omega) (b := b') (o := o) (fun j u hu => h3' j u (by rw [List.getElem?_take] at hu; split at hu; exact hu; cases hu))
            exact ⟨_, by simp [execOp, hc, Instr.loadAt, Instr.sureAddr, h6], .agg (relL_take n h2)⟩
          · cases hv
      | _ => simp [ldV] at hv
    | _ => simp [ldV] at hv

def V.one : V → Bool
  | .d (.sc c) => c.oneCell'
  | .d (.agg _) => false
  | .d (.tup _) => false
  | _ => true

theorem relV_one {v : V} {u : Value} (h : RelV G v u) (h1 : v.one = true) : u.oneCell' = true ∧ u.cells = #[u] := by
  have key : ∀ u : Value, u.oneCell' = true → u.cells = #[u] := fun u h => by cases u <;> first | rfl | (simp [Value.oneCell'] at h)
  suffices h : u.oneCell' = true from ⟨h, key u h⟩
  cases v with
  | d x =>
    cases x with
    | sc c => rw [rel_sc h]; exact h1
    | list es l => cases h <;> rfl
    | eptr l => cases h; rfl
    | any => cases h; assumption
    | _ => cases h1
  | ptr id off => have : u = _ := h; rw [this]; rfl
  | fn f ids => have : u = _ := h; rw [this]; rfl
  | own id es l =>
    rcases h with ⟨_, _, rfl⟩ | ⟨_, o, cap, rfl, _⟩ <;> rfl

/-! ### Variables of the frame -/

theorem relVL_d {S : Stab} : ∀ {l : List D} {us : List Value}, RelL G.S l us → RelVL G (l.map .d) us
  | [], [], _ => trivial
  | _ :: _, _ :: _, .cons h1 h2 => ⟨h1, relVL_d (S := S) h2⟩

theorem relVs_of {vs : List V} {us : List Value} (h : RelVL G vs us) : RelVs G vs ⟨us⟩ := by
  obtain ⟨h1, h2⟩ := relVL_get h
  exact ⟨by simpa using h1, fun i v hv => by simpa using h2 i v hv⟩

/-- A zero value's cells. -/
def zc (P : Program) (t : TypeId) : Option (List Value) :=
  match P.info? t with
  | some i => match i.zero with
    | some z => some z.cells.toList
    | none => none
  | none => none

theorem zc_spec {t : TypeId} {zs : List Value} (h : zc P t = some zs) : ∃ z, (∀ w, (zeroValue t).run P w = .ok z w) ∧ z.cells = ⟨zs⟩ := by
  unfold zc at h
  cases hi : P.info? t with
  | none => simp [hi] at h
  | some i =>
    cases hz : i.zero with
    | none => simp [hi, hz] at h
    | some z =>
      simp only [hi, hz, Option.some.injEq] at h
      exact ⟨z, fun w => by simp [zeroValue, run_typeInfo w hi, hz], by rw [← h]⟩

/-- The rows that a new variable brings. -/
def newRows (d : Nat) (vs : List V) : St := (.slot d, some (.ptr d 0)) :: (cellRows d 0 vs ++ [(.box d, some (.ptr d 0))])

theorem fok_new {o : Oper} {vs : List V} {L : List Loc} (ho : o.dst = some d) (hd : d < E.N)
    (run : ∀ (st' : St) (G : Gh) (a : Act) (w : World), (∀ l ∈ L, look st' l = look st l) → st'.unused d = true → Sim E st' G a w → ∃ us t, (execOp a.eval o).run P w = .ok (.value (.pointer (some ⟨w.heap.size, 0, none⟩))) (w.alloc (.cells ⟨us⟩ t)) ∧
      RelVL G vs us ∧ vs.all (V.free d) = true) :
    FOk P E o st L [d] (newRows d vs) := by
  intro Q K st' hL hf hK G a w hs
  have hu := hf d (by simp)
  obtain ⟨us, t, hr, hv, hfree⟩ := run st' G a w hL hu hs
  show o.upon P a K Q ((execOp a.eval o).run P w)
  rw [hr]
  show K (a.put o.dst _) _
  rw [ho]
  have h1 := hs.alloc (ty := t) hu (relVs_of hv) hfree
  have h2 := h1.put (d := d) (v := .ptr d 0) (u := .pointer (some ⟨w.heap.size, 0, none⟩)) hd (by show _ = _; simp [upd])
  have e : newRows d vs ++ st' = (Loc.slot d, some (V.ptr d 0)) :: (cellRows d 0 vs ++ (Loc.box d, some (V.ptr d 0)) :: st') := by simp [newRows]
  rw [← e] at h2
  exact hK _ _ _ h2

theorem f_alloc {t : TypeId} {zs : List Value} (hz : zc P t = some zs) (hd : d < E.N) : FOk P E ⟨some d, .alloc t, ty, pos, af, g⟩ st [] [d] (newRows d (zs.map fun z => .d (.sc z))) :=
  fok_new rfl hd fun st' G a w hL hu hs => by
    obtain ⟨z, h1, h2⟩ := zc_spec hz
    refine ⟨zs, t, ?_, ?_, ?_⟩
    · simp [execOp, Instr.alloc, h1, newVar, newRow, h2]
    · clear hz h2
      induction zs with
      | nil => trivial
      | cons z zs ih => exact ⟨.sc z, ih⟩
    · simp [V.free]

/-- A value's cells. -/
def vcells : V → Option (List V)
  | .d (.agg l) => some (l.map .d)
  | v => if v.one then some [v] else none

theorem vcells_spec {v : V} {u : Value} {vs : List V} (h : RelV G v u) (hc : vcells v = some vs) : RelVL G vs u.cells.toList := by
  unfold vcells at hc
  split at hc
  · rename_i l
    obtain rfl := Option.some.inj hc
    cases h with
    | agg hl => exact relVL_d (S := G.S) hl
  · split at hc
    · rename_i h1
      obtain rfl := Option.some.inj hc
      rw [(relV_one h h1).2]
      exact ⟨h, trivial⟩
    · cases hc

theorem vcells_free {v : V} {vs : List V} {id : Nat} (hc : vcells v = some vs) (hf : v.free id = true) : vs.all (V.free id) = true := by
  unfold vcells at hc
  split at hc
  · obtain rfl := Option.some.inj hc; simp [V.free]
  · split at hc
    · obtain rfl := Option.some.inj hc; simp [hf]
    · cases hc

theorem ev_free {x : Operand} {v : V} {id : Nat} (hu : st.unused id = true) (hx : ev st x = some v) : v.free id = true := by
  cases x with
  | tmp t => exact unused_slot hu hx
  | _ => obtain rfl := Option.some.inj hx; rfl

theorem f_box {t : TypeId} {v : V} {vs : List V} (hx : ev st x = some v) (hv : vcells v = some vs) (hd : d < E.N) : FOk P E ⟨some d, .box t x, ty, pos, af, g⟩ st (evL x) [d] (newRows d vs) :=
  fok_new rfl hd fun st' G a w hL hu hs => by
    have hx' := (ev_same hL fun l h => h).trans hx
    have e1 := hs.ev hx'
    exact ⟨(a.eval x).cells.toList, t, by simp [execOp, Instr.box, newVar, newRow], vcells_spec e1 hv, vcells_free hv (ev_free hu hx')⟩

/-- What a store tells. -/
def stW (st : St) : Bool × Nat → V → V → Option St
  | (_, n), .ptr id off, v => match vcells v with
    | some vs => match vs.length == n && (cellsL id off n).all (fun l => (look st l).isSome) && !vs.isEmpty with
      | true => some (cellRows id off vs)
      | false => none
    | none => none
  | _, _, _ => none

theorem cellsL_mem {id : Nat} : ∀ {n o k : Nat}, k < n → Loc.cell id (o + k) ∈ cellsL id o n
  | 0, _, _, h => absurd h (Nat.not_lt_zero _)
  | n + 1, o, 0, _ => by simp [cellsL]
  | n + 1, o, k + 1, h => by
    rw [show o + (k + 1) = o + 1 + k from by omega]
    exact List.mem_cons_of_mem _ (cellsL_mem (by omega))

theorem oneCell_cells {u : Value} (h : ∀ v ∈ u.cells.toList, v.oneCell' = true) : True := trivial

theorem relVL_one : ∀ {vs : List V} {us : List Value}, RelVL G vs us → vs.all V.one = true → ∀ u ∈ us, u.oneCell' = true
  | [], [], _, _, u, hu => by simp at hu
  | v :: vs, x :: us, h, h1, u, hu => by
    simp only [List.all_cons, Bool.and_eq_true] at h1
    rcases List.mem_cons.1 hu with rfl | hu
    · exact (relV_one h.1 h1.1).1
    · exact relVL_one h.2 h1.2 u hu

theorem f_store {t : TypeId} {k : Bool × Nat} {p v : V} {vs : List V} {W : St} (hk : kd P t = some k) (hx : ev st x = some p) (hy : ev st y = some v) (hc : vcells v = some vs) (h1 : vs.all V.one = true) (hv : stW st k p v = some W) :
    FOk P E ⟨none, .store t x y, ty, pos, af, g⟩ st (evL x ++ (evL y ++ ldL (true, k.2) p)) [] W := by
  intro Q K st' hL _ hK G a w hs
  have e1 := hs.ev ((ev_same hL fun l h => mem_l h).trans hx)
  have e2 := hs.ev ((ev_same hL fun l h => mem_r (mem_l h)).trans hy)
  have hL2 : ∀ l ∈ ldL (true, k.2) p, look st' l = look st l := fun l h => hL l (mem_r (mem_r h))
  obtain ⟨b, n⟩ := k
  cases p with
  | ptr id off =>
    simp only [stW, hc] at hv
    split at hv
    · rename_i hcond
      simp only [Bool.and_eq_true, beq_iff_eq, Bool.not_eq_true', List.isEmpty_eq_false_iff] at hcond
      obtain ⟨⟨hn, hall⟩, hne⟩ := hcond
      obtain rfl := Option.some.inj hv
      have hr := vcells_spec e2 hc
      obtain ⟨hlen, _⟩ := relVL_get hr
      have hlen' : (a.eval y).cells.size = n := by rw [← hn, hlen]; simp
      have hpos : 0 < n := by rw [← hn]; exact List.length_pos_iff.mpr hne
      have hthere : ∀ k, k < n → ∃ x, look st' (.cell id (off + k)) = some x := fun k hk => by
        have := List.all_eq_true.1 hall _ (cellsL_mem (id := id) (o := off) hk)
        rw [← hL2 _ (cellsL_mem (id := id) (o := off) hk)] at this
        exact Option.isSome_iff_exists.mp this
      obtain ⟨x0, hx0⟩ := hthere 0 hpos
      obtain ⟨hb, cs, ty', cv, h4, h5, h6⟩ := hs.cells id _ _ hx0
      have hfit : off + n ≤ cs.size := by
        obtain ⟨x1, hx1⟩ := hthere (n - 1) (by omega)
        obtain ⟨_, cs', ty'', cv', h4', h5', _⟩ := hs.cells id _ _ hx1
        rw [h4] at h4'
        obtain ⟨rfl, rfl⟩ : cs = cs' ∧ ty' = ty'' := by simpa using h4'
        have := (Array.getElem?_eq_some_iff.1 h5').1
        omega
      obtain ⟨_, hsz, _⟩ := kd_spec hk
      have hst := run_storeCells_at P (G.μ id) off ty' (a.eval y).cells.toList 0 cs w h4 (by simp [hlen']; exact hfit) (relVL_one hr h1)
      have e3 : a.eval x = .pointer (some ⟨G.μ id, off, none⟩) := e1
      show Oper.upon P _ a K Q ((execOp a.eval _).run P w)
      have hrun : (execOp a.eval (⟨none, .store t x y, ty, pos, af, g⟩ : Oper)).run P w = .ok .skip (w.setRow (G.μ id) (splice cs off (a.eval y).cells.toList)) := by
        simp only [execOp, e3, Instr.storeAt, Instr.sureAddr, storeVar, Sem.run_bind, Sem.run_pure, Result.andThen_ok, hsz, hlen', ne_eq, not_true_eq_false, if_false, hst]
        simp [splice]
      rw [hrun]
      show K (a.put none undef) _
      exact hK _ _ _ (hs.store hr hb h4 (by simp [hlen']; exact hfit))
    · cases hv
  | _ => simp [stW] at hv

theorem f_nil {v : V} (hx : ev st x = some v) (hn : (match v with | .ptr _ _ => true | .fn _ _ => true | .d (.eptr _) => true | .d (.sc (.pointer (some _))) => true | .d (.sc (.func (.func _) _ _)) => true | _ => false) = true) (hd : d < E.N) :
    FOk P E ⟨some d, .nilCheck x, ty, pos, af, g⟩ st (evL x) [] [(.slot d, some v)] :=
  fok_val rfl hd fun st' G a w hL hs => by
    have e1 := hs.ev ((ev_same hL fun l h => h).trans hx)
    refine ⟨a.eval x, ?_, e1⟩
    cases v with
    | ptr id off => have e2 : a.eval x = _ := e1; simp [execOp, e2]
    | fn f ids => have e2 : a.eval x = _ := e1; simp [execOp, e2]
    | own _ _ _ => cases hn
    | d q =>
      cases q with
      | eptr l => cases hc : a.eval x <;> rw [hc] at e1 <;> cases e1; simp [execOp, hc]
      | sc c =>
        have e2 := rel_sc e1
        cases c <;> first
          | (cases hn; done)
          | skip
        · rename_i p
          cases p with
          | none => cases hn
          | some p => simp [execOp, e2]
        · rename_i fn _ _
          cases fn <;> first
            | (cases hn; done)
            | (simp [execOp, e2])
      | _ => cases hn

/-- A field's place. -/
def kf (P : Program) (s : TypeId) (k : Nat) : Option Nat :=
  match P.underlying s with
  | some (.struct fs) => match fs[k]? with
    | some f => match P.info? f.type with
      | some i => if i.size = 0 then none else some f.offset
      | none => none
    | none => none
  | _ => none

theorem run_fieldAt {s : TypeId} {k off b o : Nat} (h : kf P s k = some off) : (Instr.fieldAt s (.pointer (some ⟨b, o, none⟩)) k).run P w = .ok (.pointer (some ⟨b, o + off, none⟩)) w := by
  unfold kf at h
  cases hu : P.underlying s with
  | none => simp [hu] at h
  | some u =>
    cases u <;> simp only [hu] at h <;> try (cases h; done)
    rename_i fs
    cases hf : fs[k]? with
    | none => simp [hf] at h
    | some f =>
      cases hi : P.info? f.type with
      | none => simp [hf, hi] at h
      | some i =>
        simp only [hf, hi] at h
        split at h
        · cases h
        · rename_i hz
          obtain rfl := Option.some.inj h
          simp [Instr.fieldAt, run_underlying hu, hf, Instr.sureAddr, fieldPlace, sizeOf, run_typeInfo w hi, hz, add_at]

def faV (off : Nat) : V → Option V
  | .ptr id o => some (.ptr id (o + off))
  | .d (.eptr l) => some (.d (.eptr (l.drop off)))
  | _ => none

theorem relP_drop {S : Stab} {b : Nat} : ∀ {l : List D} {o : Nat} (n : Nat), RelP S l b o → RelP S (l.drop n) b (o + n)
  | l, o, 0, h => h
  | [], o, n + 1, h => .nil
  | _ :: l, o, n + 1, .cons _ _ h => by rw [show o + (n + 1) = o + 1 + n from by omega]; exact relP_drop n h

theorem f_fieldAddr {s : TypeId} {k off : Nat} {p v : V} (hx : ev st x = some p) (hk : kf P s k = some off) (hv : faV off p = some v) (hd : d < E.N) :
    FOk P E ⟨some d, .fieldAddr s x k, ty, pos, af, g⟩ st (evL x) [] [(.slot d, some v)] :=
  fok_val rfl hd fun st' G a w hL hs => by
    have e1 := hs.ev ((ev_same hL fun l h => h).trans hx)
    cases p with
    | ptr id o =>
      have e2 : a.eval x = _ := e1
      obtain rfl := Option.some.inj hv
      exact ⟨_, by simp [execOp, e2, run_fieldAt hk], rfl⟩
    | d q =>
      cases q with
      | eptr l =>
        obtain rfl := Option.some.inj hv
        cases hc : a.eval x <;> rw [hc] at e1 <;> cases e1
        rename_i b o hp
        exact ⟨_, by simp [execOp, hc, run_fieldAt hk], .eptr (relP_drop off hp)⟩
      | _ => cases hv
    | _ => cases hv

end Go.Ab


namespace Go.Ab
open Go Go.RowKit
set_option linter.unusedVariables false
set_option linter.unusedSimpArgs false

variable {P : Program} {E : Env} {st : St} {G : Gh} {a : Act} {w : World} {Q : Exit → Act → World → Prop} {K : Act → World → Prop}

theorem lt {a b : Nat} (h : Nat.blt a b = true) : a < b := Nat.le_of_ble_eq_true h

theorem hits_seq {x y : Code} (h : Hits E st (x.wp P (Exit.then (y.wp P Q) Q))) : Hits E st ((Code.seq x y).wp P Q) := fun G a w s => wp_seq (h G a w s)
theorem hits_skip (h : Hits E st (Q .normal)) : Hits E st (Code.skip.wp P Q) := fun G a w s => wp_skip (h G a w s)
theorem hits_label {l : Nat} (h : Hits E st (Q .normal)) : Hits E st ((Code.label l).wp P Q) := fun G a w s => wp_label (h G a w s)
theorem hits_ret (h : Hits E st (Q .ret)) : Hits E st (Code.ret.wp P Q) := fun G a w s => wp_ret (h G a w s)
theorem hits_exit {id : Nat} (h : Hits E st (Q (.exit id))) : Hits E st ((Code.exit id).wp P Q) := fun G a w s => wp_exit (h G a w s)
theorem hits_block {id : Nat} {c : Code} (h : Hits E st (c.wp P (Exit.inBlock id Q))) : Hits E st ((Code.block id c).wp P Q) := fun G a w s => wp_block (h G a w s)
theorem hits_cond {c : Operand} {x y : Code} {t : Bool} (hc : ev st c = some (.d (.sc (.bool t)))) (ht : t = true → Hits E st (x.wp P Q)) (hf : t = false → Hits E st (y.wp P Q)) : Hits E st ((Code.cond c x y).wp P Q) :=
  fun G a w s => wp_cond_split (s.sc hc) (fun e => ht e G a w s) (fun e => hf e G a w s)

/-! Where a way leads. -/
theorem to_next (h : Hits E st K) : Hits E st (Exit.then K Q .normal) := h
theorem to_exit {id : Nat} (h : Hits E st (Q (.exit id))) : Hits E st (Exit.then K Q (.exit id)) := h
theorem to_ret (h : Hits E st (Q .ret)) : Hits E st (Exit.then K Q .ret) := h
theorem in_next {id : Nat} (h : Hits E st (Q .normal)) : Hits E st (Exit.inBlock id Q .normal) := h
theorem in_ret {id : Nat} (h : Hits E st (Q .ret)) : Hits E st (Exit.inBlock id Q .ret) := h
theorem in_hit {id id' : Nat} (he : Nat.beq id' id = true) (h : Hits E st (Q .normal)) : Hits E st (Exit.inBlock id Q (.exit id')) := fun G a w s => by
  show if id' = id then _ else _
  rw [if_pos (Nat.eq_of_beq_eq_true he)]; exact h G a w s
theorem in_miss {id id' : Nat} (he : Nat.beq id' id = false) (h : Hits E st (Q (.exit id'))) : Hits E st (Exit.inBlock id Q (.exit id')) := fun G a w s => by
  show if id' = id then _ else _
  rw [if_neg (fun c => by subst c; simp at he)]; exact h G a w s

theorem exists_least {p : Nat → Prop} (h : ∃ n, p n) : ∃ n, p n ∧ ∀ k, p k → n ≤ k := by
  obtain ⟨n, hn⟩ := h
  induction n using Nat.strongRecOn with
  | _ n ih =>
    by_cases hk : ∃ k, k < n ∧ p k
    · obtain ⟨k, h1, h2⟩ := hk
      exact ih k h1 h2
    · exact ⟨n, hn, fun k hpk => by
        rcases Nat.lt_or_ge k n with h1 | h1
        · exact absurd ⟨k, h1, hpk⟩ hk
        · exact h1⟩

noncomputable def least (p : Nat → Prop) (h : ∃ n, p n) : Nat := Classical.choose (exists_least h)
theorem least_spec {p : Nat → Prop} (h : ∃ n, p n) : p (least p h) := (Classical.choose_spec (exists_least h)).1
theorem least_le {p : Nat → Prop} (h : ∃ n, p n) {k : Nat} (hk : p k) : least p h ≤ k := (Classical.choose_spec (exists_least h)).2 k hk

/-- A loop: I x is what is known at a round's head, x what it is known of; J: what holds of x; m goes down. -/
theorem hits_loop {X : Type} (I : X → St) (J : X → Prop) (m : X → Nat) (x0 : X) {c : Code} (h0 : J x0) (hk : (I x0).kept st) (hb : (I x0).boxed = true)
    (round : ∀ x, J x → Hits E (I x) (c.wp P (Exit.then (fun a w => ∃ x', J x' ∧ m x' < m x ∧ ∃ G, Sim E (I x') G a w) Q))) : Hits E st ((Code.loop c).wp P Q) := by
  intro G a w s
  classical
  let R : Act → World → Nat → Prop := fun a w n => ∃ x, m x = n ∧ J x ∧ ∃ G, Sim E (I x) G a w
  refine wp_loop (fun a w => ∃ n, R a w n) (fun a w => if h : ∃ n, R a w n then least _ h else 0) ⟨_, x0, rfl, h0, G, s.keep hk hb⟩ ?_
  intro a w hI
  obtain ⟨x, hx, hj, G', hs⟩ := least_spec hI
  refine wp_mono (round x hj G' a w hs) ?_
  intro e a' w' hq
  cases e with
  | normal =>
    obtain ⟨x', hj', hlt, hs'⟩ := hq
    have hI' : ∃ n, R a' w' n := ⟨_, x', rfl, hj', hs'⟩
    refine ⟨hI', ?_⟩
    rw [dif_pos hI', dif_pos hI]
    have h1 : least _ hI' ≤ m x' := least_le hI' ⟨x', rfl, hj', hs'⟩
    omega
  | _ => exact hq

/-- A round's end. -/
theorem round_end {X : Type} {I : X → St} {J : X → Prop} {m : X → Nat} {x : X} (x' : X) (hj : J x') (hlt : m x' < m x) (hk : (I x').kept st) (hb : (I x').boxed = true) :
    Hits E st (fun a w => ∃ x', J x' ∧ m x' < m x ∧ ∃ G, Sim E (I x') G a w) := fun G a w s => ⟨x', hj, hlt, G, s.keep hk hb⟩

/-! ### Regions in the order of the text -/

theorem hits_region {id : Nat} {l : List Oper} (h : Hits E st (wpList P l.toArray Q l)) : Hits E st ((Code.region id l.toArray false).wp P Q) := fun G a w s => wp_region_lit (h G a w s)
theorem hits_nil {ops : Array Oper} (h : Hits E st (Q .normal)) : Hits E st (wpList P ops Q []) := fun G a w s => wpList_nil (h G a w s)

def fresh (fr : List Nat) (st : St) : Bool := fr.all fun i => st.unused i

theorem sq {ops : Array Oper} {o : Oper} {l : List Oper} {L : List Loc} {fr : List Nat} {W : St} (hf : FOk P E o st L fr W) (hfr : fresh fr st = true) (hg : o.guard = none) (h : Hits E (W ++ st) (wpList P ops Q l)) :
    Hits E st (wpList P ops Q (o :: l)) := by
  have h1 := hf Q _ st (fun _ _ => rfl) (fun i hi => List.all_eq_true.1 hfr i hi) h
  intro G a w s
  unfold wpList
  rw [if_pos (by simp [Region.wanted, hg])]
  exact .inl (h1 G a w s)

theorem yielded_of {ops : Array Oper} {j t : Nat} {b : Bool} (s : Sim E st G a w) (hj : (ops[j]?).bind (·.dst) = some t) (hl : look st (.slot t) = some (.d (.sc (.bool b)))) (ht : t < E.N) : yielded ops a.tmps j = some b := by
  have e := rel_sc (s.slots t _ hl)
  unfold yielded
  rw [hj]
  simp only [Option.bind_some]
  have hs : t < a.tmps.size := by rw [s.tmps]; exact ht
  have e2 : a.tmps[t]? = some (.bool b) := by
    rw [Array.getElem?_eq_getElem hs]
    simpa [Array.getD, hs] using e
  rw [e2]

/-- A guarded operation that is carried out. -/
theorem sq_yes {ops : Array Oper} {o : Oper} {l : List Oper} {L : List Loc} {fr : List Nat} {W : St} {j t : Nat} {b : Bool} (hf : FOk P E o st L fr W) (hfr : fresh fr st = true) (hg : o.guard = some (j, b))
    (hj : (ops[j]?).bind (·.dst) = some t) (hl : look st (.slot t) = some (.d (.sc (.bool b)))) (ht : t < E.N) (h : Hits E (W ++ st) (wpList P ops Q l)) : Hits E st (wpList P ops Q (o :: l)) := by
  have h1 := hf Q _ st (fun _ _ => rfl) (fun i hi => List.all_eq_true.1 hfr i hi) h
  intro G a w s
  unfold wpList
  rw [if_pos (by simp [Region.wanted, hg, yielded_of s hj hl ht])]
  exact .inl (h1 G a w s)

def wantB (v : Value) (b : Bool) : Bool :=
  match v with
  | .bool c => c == b
  | _ => false

theorem not_wanted {ops : Array Oper} {j t : Nat} {b : Bool} {v : Value} (s : Sim E st G a w) (hj : (ops[j]?).bind (·.dst) = some t) (hl : look st (.slot t) = some (.d (.sc v))) (hb : wantB v b = false) (ht : t < E.N) : (yielded ops a.tmps j == some b) = false := by
  have e := rel_sc (s.slots t _ hl)
  unfold yielded
  rw [hj]
  simp only [Option.bind_some]
  have hs : t < a.tmps.size := by rw [s.tmps]; exact ht
  have e2 : a.tmps[t]? = some v := by
    rw [Array.getElem?_eq_getElem hs]
    simpa [Array.getD, hs] using e
  rw [e2]
  cases v <;> first | rfl | (simp only [wantB] at hb; simpa using hb)

theorem Sim.putU {d : Nat} (h : Sim E st G a w) (hd : d < E.N) : Sim E ((.slot d, some (.d (.sc undef))) :: st) G (a.put (some d) undef) w := h.put hd (.sc _)

/-- A guarded operation that is passed over. -/
theorem sq_no {ops : Array Oper} {o : Oper} {l : List Oper} {d j t : Nat} {b : Bool} {v : Value} (ho : o.dst = some d) (hg : o.guard = some (j, b))
    (hj : (ops[j]?).bind (·.dst) = some t) (hl : look st (.slot t) = some (.d (.sc v))) (hbc : wantB v b = false) (ht : t < E.N) (hd : d < E.N) (h : Hits E ((.slot d, some (.d (.sc undef))) :: st) (wpList P ops Q l)) : Hits E st (wpList P ops Q (o :: l)) := by
  intro G a w s
  unfold wpList
  rw [if_neg, ho]
  · exact h _ _ _ (s.putU hd)
  · simp only [Region.wanted, hg]
    rw [not_wanted s hj hl hbc ht]
    simp

/-! ### Calls -/

/-- Called with these data the function hands back that datum; of what was there it leaves all as it was. -/
def CallsP (P : Program) (Γ : World → Prop) (f : FuncId) (args : List D) (r : D) : Prop :=
  ∀ (S : Stab) (w : World) (us : List Value), Γ w → (∀ b o v, S b o = some v → w.cell? ⟨b, o, none⟩ = some v) → RelL S args us →
    Calls P f ⟨us⟩ w fun e w' => ∃ u S', e = .returned u ∧ Rel S' r u ∧ S.le S' ∧ Below w.heap.size w w' ∧ ∀ b o v, S' b o = some v → S b o = some v ∨ (w.heap.size ≤ b ∧ w'.cell? ⟨b, o, none⟩ = some v)

def enters (P : Program) (f : FuncId) : Bool :=
  match P.funcs[f]? with
  | some fn => fn.name != "runtime.NumGoroutine" && fn.body.isSome
  | none => false

theorem run_callFunc {f : FuncId} {args : Array Value} (h : enters P f = true) : (callFunc f args).run P w = .ok (.enter f args) w := by
  unfold enters at h
  cases hf : P.funcs[f]? with
  | none => rw [hf] at h; cases h
  | some fn =>
    rw [hf] at h
    simp only [Bool.and_eq_true, bne_iff_ne, ne_eq] at h
    obtain ⟨h1, h2⟩ := h
    obtain ⟨b, hb⟩ := Option.isSome_iff_exists.mp h2
    simp [callFunc, hf, h1, hb]

variable {d : Nat} {ty : TypeId} {pos : String} {af : Array Edge} {g : Option (Nat × Bool)} {x y z : Operand}

theorem f_call {f : FuncId} {xs : List Operand} {ats : Array TypeId} {ds : List D} {r : D} (hen : enters P f = true) (ha : evs st xs = some ds) (hc : CallsP P E.Γ f ds r) (hd : d < E.N) :
    FOk P E ⟨some d, .call ⟨.value (.func f), xs.toArray, ats⟩, ty, pos, af, g⟩ st (evsL xs) [] [(.slot d, some (.d r))] := by
  intro Q K st' hL _ hK G a w hs
  have h1 := hs.evs ((evs_same hL (fun l h => h)).trans ha)
  show Oper.upon P _ a K Q ((execOp a.eval _).run P w)
  have hrun : (execOp a.eval (⟨some d, .call ⟨.value (.func f), xs.toArray, ats⟩, ty, pos, af, g⟩ : Oper)).run P w = .ok (.enter f ⟨xs.map a.eval⟩) w := by
    simp [execOp, resolve, Act.eval, Deferred.ofValue, invoke, run_callFunc hen]
  rw [hrun]
  have h2 := hc G.S w (xs.map a.eval) (E.stab w hs.kw) hs.stable h1
  refine h2.mono ?_
  rintro e w' ⟨u, S', rfl, hr, hS, hb, hn⟩
  exact hK _ _ _ ((hs.later hb hS hn).put hd hr)

/-- A closure without variables, or a function, that came as a value. -/
theorem f_callV {f : FuncId} {xs : List Operand} {ats : Array TypeId} {ds : List D} {r : D} (hx : ev st x = some (.d (.sc (.func (.func f) #[] #[])))) (hen : enters P f = true) (ha : evs st xs = some ds) (hc : CallsP P E.Γ f ds r) (hd : d < E.N) :
    FOk P E ⟨some d, .call ⟨.value x, xs.toArray, ats⟩, ty, pos, af, g⟩ st (evL x ++ evsL xs) [] [(.slot d, some (.d r))] := by
  intro Q K st' hL _ hK G a w hs
  have e1 := hs.sc ((ev_same hL fun l h => mem_l h).trans hx)
  have h1 := hs.evs ((evs_same hL (fun l h => mem_r h)).trans ha)
  show Oper.upon P _ a K Q ((execOp a.eval _).run P w)
  have hrun : (execOp a.eval (⟨some d, .call ⟨.value x, xs.toArray, ats⟩, ty, pos, af, g⟩ : Oper)).run P w = .ok (.enter f ⟨xs.map a.eval⟩) w := by
    simp [execOp, resolve, e1, Deferred.ofValue, invoke, run_callFunc hen]
  rw [hrun]
  have h2 := hc G.S w (xs.map a.eval) (E.stab w hs.kw) hs.stable h1
  refine h2.mono ?_
  rintro e w' ⟨u, S', rfl, hr, hS, hb, hn⟩
  exact hK _ _ _ ((hs.later hb hS hn).put hd hr)

/-! ### A function's contract -/

def argRows : Nat → List D → St
  | _, [] => []
  | k, x :: l => (.slot k, some (.d x)) :: argRows (k + 1) l

theorem look_argRows (ds : List D) : ∀ k t, look (argRows k ds) (.slot t) = if k ≤ t then (ds[t - k]?).map V.d else none := by
  induction ds with
  | nil => intro k t; simp [argRows, look]
  | cons x l ih =>
    intro k t
    rw [argRows, look_cons, ih]
    by_cases h : k = t
    · subst h; simp
    · rw [if_neg (by simpa using h)]
      by_cases h2 : k ≤ t
      · rw [if_pos (by omega), if_pos h2, show t - k = (t - (k + 1)) + 1 from by omega, List.getElem?_cons_succ]
      · rw [if_neg (by omega), if_neg h2]

theorem look_argRows_ne (ds : List D) : ∀ k l, (∀ t, l ≠ .slot t) → look (argRows k ds) l = none := by
  induction ds with
  | nil => intro k l _; rfl
  | cons x r ih => intro k l h; rw [argRows, look_ne _ _ (fun c => h k c.symm), ih _ _ h]

/-- Γ stays, whatever is added to a world. -/
def GS (Γ : World → Prop) : Prop := ∀ w w', Γ w → Below w.heap.size w w' → Γ w'

theorem KW.toBelow {w0 w : World} (h : KW w0 [] w) : Below w0.heap.size w0 w := ⟨h.os, h.tape, h.output, h.size, fun k hk => h.frame k hk (by simp)⟩

def PostP (E : Env) (r : D) (e : Ending) (w' : World) : Prop :=
  ∃ u S', e = .returned u ∧ Rel S' r u ∧ E.S0.le S' ∧ Below E.w0.heap.size E.w0 w' ∧ ∀ b o v, S' b o = some v → E.S0 b o = some v ∨ (E.w0.heap.size ≤ b ∧ w'.cell? ⟨b, o, none⟩ = some v)

theorem relL_getElem {S : Stab} : ∀ {l : List D} {us : List Value} {k : Nat} {v : D}, RelL S l us → l[k]? = some v → ∃ u, us[k]? = some u ∧ Rel S v u
  | _ :: _, _ :: _, 0, v, .cons h1 h2, hk => by simp at hk; subst hk; exact ⟨_, rfl, h1⟩
  | _ :: _, _ :: _, k + 1, v, .cons h1 h2, hk => by simpa using relL_getElem h2 (by simpa using hk)

theorem callsP_of {Γ : World → Prop} {f : FuncId} {fn : Func} {c : Code} {args : List D} {r : D} {n : Nat} (hΓ : GS Γ) (hf : P.funcs[f]? = some fn) (hb : fn.body = some c) (hn : fn.ntmps = n) (hl : Nat.ble args.length n = true)
    (h : ∀ (w0 : World) (S0 : Stab) (stab : ∀ w, KW w0 [] w → Γ w), Hits ⟨w0, [], S0, n, Γ, stab⟩ (argRows 0 args) (c.wp P (bodyPost P fn (PostP ⟨w0, [], S0, n, Γ, stab⟩ r)))) : CallsP P Γ f args r := by
  intro S w us hg hS hr
  let E : Env := ⟨w, [], S, n, Γ, fun w' k => hΓ w w' hg k.toBelow⟩
  have hlen := relL_length hr
  have hle : args.length ≤ n := Nat.le_of_ble_eq_true hl
  have h1 := h w S (fun w' k => hΓ w w' hg k.toBelow)
  have hs : Sim E (argRows 0 args) ⟨S, fun _ => 0, fun _ => 0, fun _ => false, fun _ => 0, fun _ => 0⟩ { tmps := (⟨us⟩ : Array Value) ++ Array.replicate (fn.ntmps - (⟨us⟩ : Array Value).size) undef, defers := [] } w := by
    have nb : ∀ i, look (argRows 0 args) (.box i) = none := fun i => look_argRows_ne args 0 _ (by simp)
    have nt : ∀ i, look (argRows 0 args) (.tip i) = none := fun i => look_argRows_ne args 0 _ (by simp)
    refine ⟨⟨rfl, rfl, rfl, Nat.le_refl _, fun _ _ _ => rfl⟩, Stab.le.refl _, fun _ _ _ e => .inl e, ?_, rfl, fun t v hv => ?_, fun i o v hv => ?_, fun i hi => absurd (nb i) hi, fun i j hi => absurd (nb i) hi, hS, fun i hi => absurd (nt i) hi, fun i j hi => absurd (nt i) hi⟩
    · show _ = n
      simp [hn]; omega
    · rw [look_argRows, if_pos (Nat.zero_le _), Nat.sub_zero] at hv
      simp only [Option.map_eq_some_iff] at hv
      obtain ⟨x, hx, rfl⟩ := hv
      obtain ⟨u, hu, hrel⟩ := relL_getElem hr hx
      show Rel S x _
      have e : ((⟨us⟩ : Array Value) ++ Array.replicate (fn.ntmps - (⟨us⟩ : Array Value).size) undef).getD t undef = u := by
        have ht : t < us.length := (List.getElem?_eq_some_iff.1 hu).1
        rw [Array.getD_eq_getD_getElem?, Array.getElem?_append_left (by simpa using ht)]
        simp [hu]
      rw [e]; exact hrel
    · rw [look_argRows_ne args 0 _ (by simp)] at hv; cases hv
  refine (calls_of_wp hf hb (h1 _ _ _ hs)).mono ?_
  rintro e w' ⟨u, S', h2, h3, h4, h5, h6⟩
  exact ⟨u, S', h2, h3, h4, h5, h6⟩

/-- What is handed back. -/
def resD (P : Program) (st : St) : ResultVar → Option D
  | .tmp t => match look st (.slot t) with
    | some (.d x) => some x
    | some (.own _ es l) => some (.list es l)
    | _ => none
  | .cell t ty => match look st (.slot t), kd P ty with
    | some p, some k => match ldV st k p with
      | some (.d x) => some x
      | _ => none
    | _, _ => none

def resDs (P : Program) (st : St) : List ResultVar → Option (List D)
  | [] => some []
  | r :: l => match resD P st r, resDs P st l with
    | some x, some q => some (x :: q)
    | _, _ => none

def packD : List D → D
  | [x] => x
  | l => .tup l

def resS (tmps : Array Value) : ResultVar → Sem Value
  | .tmp t => pure (tmps.getD t undef)
  | .cell a t => do loadVar t (← asAddr (tmps.getD a undef))

theorem results_eq (fn : Func) (tmps : Array Value) : results fn tmps = (do let vs ← fn.results.mapM (resS tmps); pure (if h : vs.size = 1 then vs[0] else .tuple vs)) := by
  unfold results
  congr 1

/-- What a load of a walk's value yields, under the relation. -/
theorem Sim.load (hs : Sim E st G a w) {t : TypeId} {k : Bool × Nat} {p v : V} {u : Value} (hk : kd P t = some k) (hp : RelV G p u) (hv : ldV st k p = some v) :
    ∃ ad c, u = .pointer (some ad) ∧ (loadVar t ad).run P w = .ok c w ∧ RelV G v c := by
  obtain ⟨b, n⟩ := k
  cases p with
  | ptr id off =>
    have e2 : u = .pointer (some ⟨G.μ id, off, none⟩) := hp
    cases b with
    | false =>
      obtain ⟨_, cs, ty', cv, h4, h5, h6⟩ := hs.cells id off v hv
      exact ⟨_, cv, e2, run_loadVar1 hk ((cell_of_block h4).trans h5), h6⟩
    | true =>
      simp only [ldV, Option.map_eq_some_iff] at hv
      obtain ⟨l, hl, rfl⟩ := hv
      obtain ⟨us, h1, h2, h3⟩ := hs.cellsD hl
      exact ⟨_, .agg us.toArray, e2, run_loadVarN hk h1 h3, .agg h2⟩
  | d q =>
    cases q with
    | eptr l =>
      cases hp with
      | eptr hp =>
      rename_i b' o
      obtain ⟨us, h1, h2, h3⟩ := relP_vals hp
      have h3' : ∀ j u, us[j]? = some u → w.cell? ⟨b', o + j, none⟩ = some u := fun j u hu => hs.stable _ _ _ (h3 j u hu)
      cases b with
      | false =>
        cases l with
        | nil => simp [ldV] at hv
        | cons q l =>
          simp only [ldV, Option.some.injEq] at hv
          subst hv
          cases h2 with
          | cons h4 h5 =>
            rename_i u us'
            exact ⟨_, u, rfl, run_loadVar1 hk (show w.cell? ⟨b', o, none⟩ = some u from h3' 0 u (by simp)), h4⟩
      | true =>
        simp only [ldV] at hv
        split at hv
        · rename_i hle
          have hle' : n ≤ l.length := Nat.le_of_ble_eq_true hle
          obtain rfl := Option.some.inj hv
          have h6 := run_loadVarN (P := P) (w := w) (us := us.take n) hk (by simp; omega) (b := b') (o := o) (fun j u hu => h3' j u (by rw [List.getElem?_take] at hu; split at hu; exact hu; cases hu))
          exact ⟨_, _, rfl, h6, .agg (relL_take n h2)⟩
        · cases hv
    | _ => simp [ldV] at hv
  | _ => simp [ldV] at hv

theorem Sim.resD (hs : Sim E st G a w) {r : ResultVar} {x : D} (h : Ab.resD P st r = some x) : ∃ u, (resS a.tmps r).run P w = .ok u w ∧ Rel G.S x u := by
  cases r with
  | tmp t =>
    simp only [Ab.resD] at h
    split at h
    · rename_i q hq; obtain rfl := Option.some.inj h; exact ⟨_, rfl, hs.slots t _ hq⟩
    · rename_i id es l hq; obtain rfl := Option.some.inj h; exact ⟨_, rfl, relV_own (hs.slots t _ hq)⟩
    · cases h
  | cell t ty =>
    simp only [Ab.resD] at h
    split at h
    · rename_i p k hp hk
      split at h
      · rename_i x' hv
        obtain rfl := Option.some.inj h
        obtain ⟨ad, c, e1, e2, e3⟩ := hs.load hk (hs.slots t p hp) hv
        exact ⟨c, by simp only [resS, e1, asAddr, Sem.run_bind, Sem.run_pure, Result.andThen_ok, e2], e3⟩
      · cases h
    · cases h

theorem Sim.resDs (hs : Sim E st G a w) : ∀ {l : List ResultVar} {ds : List D}, Ab.resDs P st l = some ds → ∃ us, (l.mapM (resS a.tmps)).run P w = .ok us w ∧ RelL G.S ds us
  | [], ds, h => by obtain rfl := Option.some.inj h; exact ⟨[], rfl, .nil⟩
  | r :: l, ds, h => by
    unfold Ab.resDs at h
    split at h
    · rename_i x q hx hq
      obtain rfl := Option.some.inj h
      obtain ⟨u, h1, h2⟩ := hs.resD hx
      obtain ⟨us, h3, h4⟩ := Sim.resDs hs hq
      exact ⟨u :: us, by simp [List.mapM_cons, h1, h3], .cons h2 h4⟩
    · cases h

theorem hits_done {fn : Func} {ds : List D} {r : D} {e : Exit} (he : e = .ret ∨ e = .normal) (ho : E.outs = []) (hr : resDs P st fn.results.toList = some ds) (hp : packD ds = r) : Hits E st (bodyPost P fn (PostP E r) e) := by
  intro G a w s
  obtain ⟨us, h1, h2⟩ := s.resDs hr
  have hb : Below E.w0.heap.size E.w0 w := by have := s.kw; rw [ho] at this; exact this.toBelow
  have hn : ∀ b o v, G.S b o = some v → E.S0 b o = some v ∨ (E.w0.heap.size ≤ b ∧ w.cell? ⟨b, o, none⟩ = some v) := fun b o v hv => (s.snew b o v hv).imp id fun q => ⟨q, s.stable b o v hv⟩
  have key : ∃ u, (results fn a.tmps).run P w = .ok u w ∧ Rel G.S r u := by
    rw [results_eq, Array.mapM_eq_mapM_toList]
    simp only [Sem.run_bind, Sem.run_map, h1, Result.andThen_ok, Sem.run_pure]
    subst hp
    cases h2 with
    | nil => exact ⟨_, rfl, .tup .nil⟩
    | cons h3 h4 =>
      cases h4 with
      | nil => exact ⟨_, rfl, h3⟩
      | cons h5 h6 => exact ⟨_, by simp, .tup (.cons h3 (.cons h5 h6))⟩
  obtain ⟨u, hu, hrel⟩ := key
  rcases he with rfl | rfl
  · exact ⟨s.defers, u, hu, u, G.S, rfl, hrel, s.s0, hb, hn⟩
  · exact ⟨s.defers, u, hu, u, G.S, rfl, hrel, s.s0, hb, hn⟩

end Go.Ab


namespace Go.Ab
open Go Go.RowKit
set_option linter.unusedVariables false
set_option linter.unusedSimpArgs false

variable {P : Program} {E : Env} {st st' : St} {G : Gh} {a : Act} {w : World} {Q : Exit → Act → World → Prop} {K : Act → World → Prop} {ops : Array Oper}

/-- What one operation looks at, what numbers it takes, what it tells. -/
structure Cert where
  L : List Loc
  fr : List Nat
  W : St

/-- An operation of a region, its guard with it. -/
def GOk (P : Program) (E : Env) (ops : Array Oper) (o : Oper) (st0 : St) (c : Cert) : Prop :=
  ∀ (Q : Exit → Act → World → Prop) (K : Act → World → Prop) (st : St), (∀ l ∈ c.L, look st l = look st0 l) → (∀ i ∈ c.fr, st.unused i = true) → Hits E (c.W ++ st) K →
    Hits E st fun a w => if Region.wanted o (yielded ops a.tmps) then o.wp P a w K Q ∨ (o.asks P a w ∧ LetsOut Q) else K (a.put o.dst undef) w

theorem g_plain {o : Oper} {L : List Loc} {fr : List Nat} {W : St} (hf : FOk P E o st L fr W) (hg : o.guard = none) : GOk P E ops o st ⟨L, fr, W⟩ := by
  intro Q K st' hL hfr hK G a w s
  rw [if_pos (by simp [Region.wanted, hg])]
  exact .inl (hf Q K st' hL hfr hK G a w s)

theorem g_yes {o : Oper} {L : List Loc} {fr : List Nat} {W : St} {j t : Nat} {b : Bool} (hf : FOk P E o st L fr W) (hg : o.guard = some (j, b))
    (hj : (ops[j]?).bind (·.dst) = some t) (hl : look st (.slot t) = some (.d (.sc (.bool b)))) (ht : t < E.N) : GOk P E ops o st ⟨.slot t :: L, fr, W⟩ := by
  intro Q K st' hL hfr hK G a w s
  rw [if_pos (by simp [Region.wanted, hg, yielded_of s hj ((hL _ (by simp)).trans hl) ht])]
  exact .inl (hf Q K st' (fun l h => hL l (by simp [h])) hfr hK G a w s)

theorem g_no {o : Oper} {d j t : Nat} {b : Bool} {v : Value} (ho : o.dst = some d) (hg : o.guard = some (j, b)) (hj : (ops[j]?).bind (·.dst) = some t) (hl : look st (.slot t) = some (.d (.sc v))) (hbc : wantB v b = false) (ht : t < E.N) (hd : d < E.N) :
    GOk P E ops o st ⟨[.slot t], [], [(.slot d, some (.d (.sc undef)))]⟩ := by
  intro Q K st' hL hfr hK G a w s
  rw [if_neg, ho]
  · exact hK _ _ _ (s.putU hd)
  · simp only [Region.wanted, hg]
    rw [not_wanted s hj ((hL _ (by simp)).trans hl) hbc ht]
    simp

/-- The walk in the order of the text. -/
inductive Chain (P : Program) (E : Env) (ops : Array Oper) : List Oper → St → List Cert → St → Prop
  | nil {st : St} : Chain P E ops [] st [] st
  | cons {o : Oper} {l : List Oper} {st st' : St} {c : Cert} {cs : List Cert} : GOk P E ops o st c → fresh c.fr st = true → Chain P E ops l (c.W ++ st) cs st' → Chain P E ops (o :: l) st (c :: cs) st'

def dom (W : St) (l : Loc) : Bool := W.any fun e => e.1.eqb l

theorem look_app (W st : St) (l : Loc) : look (W ++ st) l = if dom W l = true then look W l else look st l := by
  induction W with
  | nil => simp [dom]
  | cons e r ih =>
    rw [List.cons_append, look_cons, look_cons, ih]
    unfold dom
    simp only [List.any_cons, Bool.or_eq_true, Loc.eqb_iff]
    by_cases h : e.1 = l
    · simp [h]
    · by_cases h2 : (r.any fun e => e.1.eqb l) = true
      · simp [h, h2]
      · simp [h, h2]

/-- What is known when the operations with 'true' have been carried out. -/
def mk : List Cert → List Bool → St → St
  | c :: cs, b :: bs, st => mk cs bs (if b then c.W ++ st else st)
  | _, _, st => st

theorem mk_base (cs : List Cert) : ∀ (bs : List Bool) (st st' : St) (l : Loc), look st l = look st' l → look (mk cs bs st) l = look (mk cs bs st') l := by
  induction cs with
  | nil => intro bs st st' l h; exact h
  | cons c cs ih =>
    intro bs st st' l h
    cases bs with
    | nil => exact h
    | cons b bs =>
      simp only [mk]
      apply ih
      cases b
      · simpa using h
      · simp only [if_true, look_app]; split <;> simp [h]

theorem mk_agree (cs : List Cert) : ∀ (bs bs' : List Bool) (st : St) (l : Loc), bs.length = cs.length → bs'.length = cs.length →
    (∀ (j : Nat) c, cs[j]? = some c → dom c.W l = true → bs[j]? = bs'[j]?) → look (mk cs bs st) l = look (mk cs bs' st) l := by
  induction cs with
  | nil => intro bs bs' st l _ _ _; rfl
  | cons c cs ih =>
    intro bs bs' st l h1 h2 h
    obtain ⟨b, bs, rfl⟩ : ∃ b r, bs = b :: r := by cases bs with | nil => simp at h1 | cons b r => exact ⟨b, r, rfl⟩
    obtain ⟨b', bs', rfl⟩ : ∃ b r, bs' = b :: r := by cases bs' with | nil => simp at h2 | cons b r => exact ⟨b, r, rfl⟩
    simp only [mk]
    rw [ih bs bs' _ l (by simpa using h1) (by simpa using h2) (fun j c' hj hd => by simpa using h (j + 1) c' (by simpa using hj) hd)]
    apply mk_base
    by_cases hd : dom c.W l = true
    · have := h 0 c (by simp) hd
      simp at this
      rw [this]
    · have e : ∀ x : Bool, look (if x then c.W ++ st else st) l = look st l := fun x => by cases x <;> simp [look_app, hd]
      rw [e, e]

/-- The last one that tells of a place counts. -/
theorem mk_last (cs : List Cert) : ∀ (bs : List Bool) (st : St) (l : Loc) (i : Nat) (c : Cert), bs.length = cs.length → cs[i]? = some c → bs[i]? = some true → dom c.W l = true →
    (∀ (j : Nat) c', i < j → cs[j]? = some c' → dom c'.W l = true → bs[j]? = some false) → look (mk cs bs st) l = look c.W l := by
  induction cs with
  | nil => intro bs st l i c _ h; simp at h
  | cons c0 cs ih =>
    intro bs st l i c h1 hc hb hd h
    obtain ⟨b, bs, rfl⟩ : ∃ b r, bs = b :: r := by cases bs with | nil => simp at h1 | cons b r => exact ⟨b, r, rfl⟩
    simp only [mk]
    cases i with
    | zero =>
      simp at hc hb
      subst hc hb
      simp only [if_true]
      have none' : look (mk cs bs (c0.W ++ st)) l = look (mk cs (bs.map fun _ => false) (c0.W ++ st)) l := by
        refine mk_agree cs _ _ _ l (by simpa using h1) (by simpa using h1) fun j c' hj hd' => ?_
        have := h (j + 1) c' (by omega) (by simpa using hj) hd'
        simp only [List.getElem?_cons_succ] at this
        rw [this]
        have hlt : j < bs.length := (List.getElem?_eq_some_iff.1 this).1
        simp [hlt]
      rw [none']
      have all : ∀ (cs : List Cert) (bs : List Bool) (st : St), mk cs (bs.map fun _ => false) st = st := by
        intro cs
        induction cs with
        | nil => intro bs st; cases bs <;> rfl
        | cons c cs ih2 => intro bs st; cases bs with
          | nil => rfl
          | cons b bs => simp only [List.map_cons, mk, Bool.false_eq_true, if_false]; exact ih2 bs st
      rw [all, look_app, if_pos hd]
    | succ i =>
      exact ih bs _ l i c (by simpa using h1) (by simpa using hc) (by simpa using hb) hd fun j c' hij hj hd' => by simpa using h (j + 1) c' (by omega) (by simpa using hj) hd'

/-- Does operation j wait for operation i? -/
def waitsFor (o : Oper) (i : Nat) : Bool := o.after.toList.any fun e => Region.binds .any e && e.on == i

def has (L : List Loc) (l : Loc) : Bool := L.any fun k => k.eqb l

theorem has_spec {L : List Loc} {l : Loc} (h : has L l = false) : l ∉ L := fun c => by
  have : has L l = true := List.any_eq_true.2 ⟨l, c, (Loc.eqb_iff _ _).2 rfl⟩
  rw [h] at this; cases this

/-- Two operations that have nothing to do with one another. (x: the earlier one.) -/
def Cert.aside (x y : Cert) : Bool :=
  x.W.all (fun e => !(has y.L e.1) && !dom y.W e.1) && y.W.all (fun e => !(has x.L e.1)) && x.fr.all (fun i => y.W.unused i)

def pairsOk : List Oper → List Cert → Nat → Bool
  | o :: l, c :: cs, i => ((l.zip cs).all fun p => waitsFor p.1 i || c.aside p.2) && o.after.toList.all (fun e => !Region.binds .any e || Nat.blt e.on i) && pairsOk l cs (i + 1)
  | [], [], _ => true
  | _, _, _ => false

theorem pairsOk_spec : ∀ {l : List Oper} {cs : List Cert} {k : Nat}, pairsOk l cs k = true → l.length = cs.length ∧
    (∀ i j oj ci cj, i < j → l[j]? = some oj → cs[i]? = some ci → cs[j]? = some cj → waitsFor oj (k + i) = true ∨ ci.aside cj = true) ∧
    ∀ (i : Nat) o, l[i]? = some o → ∀ e ∈ o.after, Region.binds .any e = true → e.on < k + i
  | [], [], _, _ => ⟨rfl, by simp, by simp⟩
  | o :: l, c :: cs, k, h => by
    simp only [pairsOk, Bool.and_eq_true] at h
    obtain ⟨⟨h1, h2⟩, h3⟩ := h
    obtain ⟨h4, h5, h6⟩ := pairsOk_spec h3
    refine ⟨by simp [h4], fun i j oj ci cj hij hj hi hcj => ?_, fun i o' hi e he hb => ?_⟩
    · cases i with
      | zero =>
        simp at hi; subst hi
        obtain ⟨j, rfl⟩ : ∃ m, j = m + 1 := ⟨j - 1, by omega⟩
        have hm : (oj, cj) ∈ l.zip cs := List.mem_of_getElem? (i := j) (by rw [List.getElem?_zip_eq_some]; exact ⟨by simpa using hj, by simpa using hcj⟩)
        have := List.all_eq_true.1 h1 _ hm
        simpa using this
      | succ i =>
        obtain ⟨j, rfl⟩ : ∃ m, j = m + 1 := ⟨j - 1, by omega⟩
        have := h5 i j oj ci cj (by omega) (by simpa using hj) (by simpa using hi) (by simpa using hcj)
        rwa [show k + 1 + i = k + (i + 1) from by omega] at this
    · cases i with
      | zero =>
        simp at hi; subst hi
        have h := List.all_eq_true.1 h2 e (Array.mem_toList_iff.2 he)
        simp only [hb, Bool.not_true, Bool.false_or] at h
        have h7 : e.on + 1 ≤ k := Nat.le_of_ble_eq_true h
        omega
      | succ i =>
        have := h6 i o' (by simpa using hi) e he hb
        omega
  | [], _ :: _, _, h => by simp [pairsOk] at h
  | _ :: _, [], _, h => by simp [pairsOk] at h

theorem Sim.same (h : Sim E st G a w) (hl : ∀ l, look st' l = look st l) : Sim E st' G a w :=
  ⟨h.kw, h.s0, h.snew, h.tmps, h.defers, fun t v hv => h.slots t v (by rw [← hl]; exact hv), fun i o v hv => by rw [hl] at hv ⊢; exact h.cells i o v hv, fun i hi => h.boxes i (by rw [← hl]; exact hi),
    fun i j hi hj => h.inj i j (by rw [← hl]; exact hi) (by rw [← hl]; exact hj), h.stable, fun i hi ht => by
      rw [hl] at hi
      obtain ⟨h1, h2, h3, h4⟩ := h.tips i hi ht
      exact ⟨h1, h2, h3, fun j hj => h4 j (by rw [← hl]; exact hj)⟩, fun i j hi hj => h.tinj i j (by rw [← hl]; exact hi) (by rw [← hl]; exact hj)⟩

theorem Hits.same (hl : ∀ l, look st' l = look st l) (h : Hits E st' K) : Hits E st K := fun G a w s => h G a w (s.same hl)

def Bools (n k : Nat) : List Bool := (List.range n).map fun j => decide (j < k)

theorem bools_get {n k j : Nat} (h : j < n) : (Bools n k)[j]? = some (decide (j < k)) := by simp [Bools, h]
theorem bools_len (n k : Nat) : (Bools n k).length = n := by simp [Bools]

/-- In the order of the text, operation i meets what is known behind those ahead of it. -/
theorem chain_at : ∀ {l : List Oper} {st : St} {cs : List Cert} {st' : St}, Chain P E ops l st cs st' → ∀ (i : Nat) o c, l[i]? = some o → cs[i]? = some c →
    ∃ s0, GOk P E ops o s0 c ∧ fresh c.fr s0 = true ∧ s0 = mk (cs.take i) (List.replicate i true) st
  | _, _, _, _, .nil, i, o, c, hi, _ => by simp at hi
  | _, _, _, _, .cons hg hf hr, i, o, c, hi, hc => by
    cases i with
    | zero =>
      simp at hi hc; subst hi hc
      exact ⟨_, hg, hf, rfl⟩
    | succ i =>
      obtain ⟨s0, h1, h2, h3⟩ := chain_at hr i o c (by simpa using hi) (by simpa using hc)
      exact ⟨s0, h1, h2, by rw [h3]; simp [List.replicate_succ, mk]⟩

theorem chain_end : ∀ {l : List Oper} {st : St} {cs : List Cert} {st' : St}, Chain P E ops l st cs st' → st' = mk cs (List.replicate cs.length true) st ∧ cs.length = l.length
  | _, _, _, _, .nil => ⟨rfl, rfl⟩
  | _, _, _, _, .cons hg hf hr => by
    obtain ⟨h1, h2⟩ := chain_end hr
    exact ⟨by rw [h1]; simp [List.replicate_succ, mk], by simp [h2]⟩

theorem mk_pre (cs : List Cert) : ∀ (i : Nat) (st : St), i ≤ cs.length → mk (cs.take i) (List.replicate i true) st = mk cs (Bools cs.length i) st := by
  induction cs with
  | nil => intro i st h; simp at h; subst h; rfl
  | cons c cs ih =>
    intro i st h
    have e : Bools (c :: cs).length i = decide (0 < i) :: Bools cs.length (i - 1) := by
      unfold Bools
      rw [List.length_cons, List.range_succ_eq_map]
      simp only [List.map_cons, List.map_map]
      congr 1
      apply List.map_congr_left
      intro j _
      simp
      omega
    rw [e]
    cases i with
    | zero =>
      simp only [List.take_zero, List.replicate_zero, mk]
      have := ih 0 st (by omega)
      simpa [mk] using this
    | succ i =>
      simp only [List.take_succ_cons, List.replicate_succ, mk]
      have := ih i (c.W ++ st) (by simpa using h)
      simpa using this

theorem unused_app {W st : St} {i : Nat} : (W ++ st).unused i = (W.unused i && st.unused i) := by simp [St.unused, List.all_append]

theorem mk_unused (cs : List Cert) : ∀ (bs : List Bool) (st : St) (i : Nat), bs.length = cs.length → ((mk cs bs st).unused i = true ↔ st.unused i = true ∧ ∀ (j : Nat) c, cs[j]? = some c → bs[j]? = some true → c.W.unused i = true) := by
  induction cs with
  | nil => intro bs st i h; cases bs <;> simp [mk]
  | cons c cs ih =>
    intro bs st i h
    obtain ⟨b, bs, rfl⟩ : ∃ b r, bs = b :: r := by cases bs with | nil => simp at h | cons b r => exact ⟨b, r, rfl⟩
    simp only [mk]
    rw [ih bs _ i (by simpa using h)]
    constructor
    · rintro ⟨h1, h2⟩
      refine ⟨?_, fun j c' hj hb => ?_⟩
      · cases b <;> simp_all [unused_app]
      · cases j with
        | zero => simp at hj hb; subst hj hb; simp [unused_app] at h1; exact h1.1
        | succ j => exact h2 j c' (by simpa using hj) (by simpa using hb)
    · rintro ⟨h1, h2⟩
      refine ⟨?_, fun j c' hj hb => h2 (j + 1) c' (by simpa using hj) (by simpa using hb)⟩
      cases b with
      | false => simpa using h1
      | true => simp only [if_true, unused_app, h1, Bool.and_true]; exact h2 0 c (by simp) (by simp)

theorem aside_spec {x y : Cert} (h : x.aside y = true) : (∀ l, dom x.W l = true → l ∉ y.L ∧ dom y.W l = false) ∧ (∀ l, dom y.W l = true → l ∉ x.L) ∧ ∀ i ∈ x.fr, y.W.unused i = true := by
  simp only [Cert.aside, Bool.and_eq_true] at h
  obtain ⟨⟨h1, h2⟩, h3⟩ := h
  refine ⟨fun l hl => ?_, fun l hl => ?_, fun i hi => List.all_eq_true.1 h3 i hi⟩
  · obtain ⟨e, he, hb⟩ := List.any_eq_true.1 hl
    have := List.all_eq_true.1 h1 e he
    rw [(Loc.eqb_iff _ _).1 hb] at this
    simp only [Bool.and_eq_true, Bool.not_eq_true'] at this
    exact ⟨has_spec this.1, this.2⟩
  · obtain ⟨e, he, hb⟩ := List.any_eq_true.1 hl
    have := List.all_eq_true.1 h2 e he
    rw [(Loc.eqb_iff _ _).1 hb] at this
    exact has_spec (by simpa using this)

theorem mk_all (cs : List Cert) (ls : List Bool) (st : St) (hl : ls.length = cs.length) (h : ∀ j, j < cs.length → ls[j]? = some true) : mk cs ls st = mk cs (List.replicate cs.length true) st := by
  congr 1
  apply List.ext_getElem?
  intro j
  by_cases hj : j < cs.length
  · rw [h j hj]; simp [hj]
  · rw [List.getElem?_eq_none (by omega), List.getElem?_eq_none (by simp; omega)]

theorem draw_any {l : List Oper} {cs : List Cert} (hch : Chain P E l.toArray l st cs st') (hok : pairsOk l cs 0 = true) (hQ : Hits E st' (Q .normal)) :
    ∀ (fuel : Nat) (ls : List Bool) (G : Gh) (a : Act) (w : World), ls.length = l.length → ls.count false = fuel →
      (∀ (j : Nat) (o : Oper), ls[j]? = some true → l[j]? = some o → ∀ e ∈ o.after, Region.binds .any e = true → ls[e.on]? = some true) → Sim E (mk cs ls st) G a w → wpAny P .any l.toArray Q fuel ls.toArray a w := by
  obtain ⟨hlen, hpair, hlow⟩ := pairsOk_spec hok
  obtain ⟨hend, _⟩ := chain_end hch
  intro fuel
  induction fuel with
  | zero =>
    intro ls G a w hl hc hcl hs
    have hall : ∀ j, j < cs.length → ls[j]? = some true := fun j hj => by
      have hj' : j < ls.length := by omega
      rw [List.getElem?_eq_getElem hj']
      have hn : ls[j] ≠ false := fun c => by
        have : 0 < ls.count false := List.count_pos_iff.2 (c ▸ List.getElem_mem hj')
        omega
      simpa using hn
    refine ⟨?_, ?_⟩
    · rw [List.eq_nil_iff_forall_not_mem]
      intro j hj
      obtain ⟨h1, o, h2, _⟩ := mem_ready.1 hj
      have hj' : j < cs.length := by rw [← hlen]; simpa using (Array.getElem?_eq_some_iff.1 h2).1
      have := hall j hj'
      simp [Array.getD_eq_getD_getElem?, this] at h1
    · refine hQ G a w ?_
      rw [hend, ← mk_all cs ls st (by omega) hall]; exact hs
  | succ fuel ih =>
    intro ls G a w hl hc hcl hs
    have hrdy : ∀ i, i ∈ Region.ready .any l.toArray ls.toArray ↔ ls[i]? = some false ∧ ∃ o, l[i]? = some o ∧ ∀ e ∈ o.after, Region.binds .any e = true → ls[e.on]? = some true := fun i => by
      rw [mem_ready]
      constructor
      · rintro ⟨h1, o, h2, h3⟩
        have h2' : l[i]? = some o := by simpa using h2
        have hi : i < ls.length := by rw [hl]; exact (List.getElem?_eq_some_iff.1 h2').1
        refine ⟨by rw [List.getElem?_eq_getElem hi]; simpa [Array.getD_eq_getD_getElem?, hi] using h1, o, h2', fun e he hb => ?_⟩
        have := h3 e he hb
        cases hx : ls[e.on]? with
        | none => simp [Array.getD_eq_getD_getElem?, hx] at this
        | some b => simp [Array.getD_eq_getD_getElem?, hx] at this; rw [this]
      · rintro ⟨h1, o, h2, h3⟩
        exact ⟨by simp [Array.getD_eq_getD_getElem?, h1], o, by simpa using h2, fun e he hb => by simp [Array.getD_eq_getD_getElem?, h3 e he hb]⟩
    refine ⟨fun hnil => ?_, fun i hi => ?_⟩
    · exfalso
      have hex : ∃ i : Nat, ls[i]? = some false := by
        have : 0 < ls.count false := by omega
        obtain ⟨i, hi⟩ := List.getElem?_of_mem (List.count_pos_iff.1 this)
        exact ⟨i, hi⟩
      obtain ⟨m, hmin, hle⟩ := exists_least hex
      have hlt : m < ls.length := (List.getElem?_eq_some_iff.1 hmin).1
      obtain ⟨o, ho⟩ : ∃ o, l[m]? = some o := ⟨_, List.getElem?_eq_getElem (by omega)⟩
      have hmem : m ∈ Region.ready .any l.toArray ls.toArray := (hrdy _).2 ⟨hmin, o, ho, fun e he hb => by
        have h1 := hlow _ o ho e he hb
        have h3 : ¬ ls[e.on]? = some false := fun c => by have := hle _ c; omega
        rw [List.getElem?_eq_getElem (by omega : e.on < ls.length)] at h3 ⊢
        simpa using h3⟩
      rw [hnil] at hmem
      cases hmem
    · obtain ⟨hfalse, o, ho, hdeps⟩ := (hrdy i).1 hi
      have hil : i < l.length := (List.getElem?_eq_some_iff.1 ho).1
      obtain ⟨c, hc'⟩ : ∃ c, cs[i]? = some c := ⟨_, List.getElem?_eq_getElem (by omega)⟩
      obtain ⟨s0, hg, hfr, hs0⟩ := chain_at hch i o c ho hc'
      rw [mk_pre cs i st (by omega)] at hs0
      -- the flags of those that wait, or are waited for
      have hwait : ∀ j, waitsFor o j = true → ls[j]? = some true := fun j hw => by
        obtain ⟨e, he, hb⟩ := List.any_eq_true.1 hw
        simp only [Bool.and_eq_true, beq_iff_eq] at hb
        rw [← hb.2]; exact hdeps e (Array.mem_toList_iff.1 he) hb.1
      have hwaits : ∀ (j : Nat) oj, l[j]? = some oj → waitsFor oj i = true → ls[j]? = some false := fun j oj hj hw => by
        obtain ⟨e, he', hb⟩ := List.any_eq_true.1 hw
        have he := Array.mem_toList_iff.1 he'
        simp only [Bool.and_eq_true, beq_iff_eq] at hb
        have hjl : j < ls.length := by rw [hl]; exact (List.getElem?_eq_some_iff.1 hj).1
        rw [List.getElem?_eq_getElem hjl]
        cases hx : ls[j] with
        | false => rfl
        | true =>
          have := hcl j oj (by rw [List.getElem?_eq_getElem hjl, hx]) hj e he hb.1
          rw [hb.2, hfalse] at this
          cases this
      have hflag : ∀ (j : Nat) cj, cs[j]? = some cj → (j < i → ¬ cj.aside c = true) → (i < j → ¬ c.aside cj = true) → ls[j]? = (Bools cs.length i)[j]? := fun j cj hj h1 h2 => by
        have hjl : j < cs.length := (List.getElem?_eq_some_iff.1 hj).1
        rw [bools_get hjl]
        obtain ⟨oj, hoj⟩ : ∃ oj, l[j]? = some oj := ⟨_, List.getElem?_eq_getElem (by omega)⟩
        rcases Nat.lt_trichotomy j i with hji | hji | hji
        · have hw := (hpair j i o cj c hji ho hj hc').resolve_right (h1 hji)
          rw [hwait j (by simpa using hw)]; simp [hji]
        · subst hji; rw [hfalse]; simp
        · have hw := (hpair i j oj c cj hji hoj hc' hj).resolve_right (h2 hji)
          rw [hwaits j oj hoj (by simpa using hw)]; simp; omega
      have hagree : ∀ lo ∈ c.L, look (mk cs ls st) lo = look s0 lo := fun lo hlo => by
        rw [hs0]
        refine mk_agree cs _ _ st lo (by omega) (bools_len _ _) fun j cj hj hd => hflag j cj hj (fun hji ha => ?_) (fun hji ha => ?_)
        · exact ((aside_spec ha).1 lo hd).1 hlo
        · exact (aside_spec ha).2.1 lo hd hlo
      have hunused : ∀ id ∈ c.fr, (mk cs ls st).unused id = true := fun id hid => by
        have h1 := List.all_eq_true.1 hfr id hid
        rw [hs0, mk_unused cs _ _ _ (bools_len _ _)] at h1
        rw [mk_unused cs _ _ _ (by omega)]
        refine ⟨h1.1, fun j cj hj hb => ?_⟩
        have hjl : j < cs.length := (List.getElem?_eq_some_iff.1 hj).1
        obtain ⟨oj, hoj⟩ : ∃ oj, l[j]? = some oj := ⟨_, List.getElem?_eq_getElem (by omega)⟩
        rcases Nat.lt_trichotomy j i with hji | hji | hji
        · exact h1.2 j cj hj (by rw [bools_get hjl]; simp [hji])
        · subst hji; rw [hfalse] at hb; cases hb
        · rcases hpair i j oj c cj hji hoj hc' hj with hw | ha
          · have := hwaits j oj hoj (by simpa using hw); rw [this] at hb; cases hb
          · exact (aside_spec ha).2.2 id hid
      have hil' : i < ls.length := by omega
      have hset : ∀ lo, look (mk cs (ls.set i true) st) lo = look (c.W ++ mk cs ls st) lo := fun lo => by
        rw [look_app]
        by_cases hd : dom c.W lo = true
        · rw [if_pos hd]
          refine mk_last cs _ st lo i c (by simp; omega) hc' (by simp [hil']) hd fun j cj hij hj hdj => ?_
          rw [List.getElem?_set_ne (by omega)]
          obtain ⟨oj, hoj⟩ : ∃ oj, l[j]? = some oj := ⟨_, List.getElem?_eq_getElem (by have := (List.getElem?_eq_some_iff.1 hj).1; omega)⟩
          rcases hpair i j oj c cj hij hoj hc' hj with hw | ha
          · exact hwaits j oj hoj (by simpa using hw)
          · rw [((aside_spec ha).1 lo hd).2] at hdj; cases hdj
        · rw [if_neg hd]
          refine mk_agree cs _ _ st lo (by simp; omega) (by omega) fun j cj hj hdj => ?_
          rw [List.getElem?_set_ne]
          rintro rfl
          rw [hc'] at hj
          obtain rfl := Option.some.inj hj
          exact hd hdj
      have hnext : Hits E (c.W ++ mk cs ls st) (wpAny P .any l.toArray Q fuel (ls.toArray.setIfInBounds i true)) := by
        intro G' a' w' hs'
        have := ih (ls.set i true) G' a' w' (by simp [hl]) (by
          rw [List.count_set hil']
          have hx : ls[i] = false := by rw [List.getElem?_eq_getElem hil'] at hfalse; exact Option.some.inj hfalse
          simp [hx]; omega) (fun j oj hj hoj e he hb => by
          rw [List.getElem?_set] at hj ⊢
          by_cases hie : i = e.on
          · rw [if_pos hie, if_pos hil']
          · rw [if_neg hie]
            by_cases hij : i = j
            · subst hij; rw [ho] at hoj; obtain rfl := Option.some.inj hoj; exact hdeps e he hb
            · rw [if_neg hij] at hj; exact hcl j oj hj hoj e he hb) (hs'.same hset)
        simpa using this
      have := hg Q _ (mk cs ls st) hagree hunused hnext G a w hs
      show wpOp P l.toArray Q i _ a w
      unfold wpOp
      have ho' : l.toArray[i]? = some o := by simpa using ho
      simp only [ho']
      exact this

/-- A region that draws its order. -/
theorem hits_draw {id : Nat} {l : List Oper} {cs : List Cert} (hm : P.follows .mixedOrders = true) (hch : Chain P E l.toArray l st cs st') (hok : pairsOk l cs 0 = true) (hQ : Hits E st' (Q .normal)) :
    Hits E st ((Code.region id l.toArray true).wp P Q) := by
  intro G a w s
  refine wp_region_any hm ?_
  have hb : Below w.heap.size w { w with drawn := w.drawn + 1 } := ⟨rfl, rfl, rfl, Nat.le_refl _, fun _ _ => rfl⟩
  have s1 := s.later0 hb
  have hlen := (pairsOk_spec hok).1
  have e : mk cs (List.replicate l.length false) st = st := by
    have : ∀ (cs : List Cert) (n : Nat) (st : St), mk cs (List.replicate n false) st = st := by
      intro cs
      induction cs with
      | nil => intro n st; rfl
      | cons c cs ih => intro n st; cases n with
        | zero => rfl
        | succ n => simp only [List.replicate_succ, mk, Bool.false_eq_true, if_false]; exact ih n st
    exact this _ _ _
  have := draw_any (Q := Q) hch hok hQ l.length (List.replicate l.length false) G a _ (by simp) (by simp) (fun j o hj => by
    rw [List.getElem?_replicate] at hj; split at hj <;> simp at hj) (by rw [e]; exact s1)
  simpa using this

/-- What is left of such a region, operation by operation. -/
def Drawn (P : Program) (E : Env) (lf : List Oper) (K : Act → World → Prop) (l : List Oper) (st : St) (acc : List Cert) : Prop :=
  ∃ cs st', Chain P E lf.toArray l st cs st' ∧ pairsOk lf (acc.reverse ++ cs) 0 = true ∧ Hits E st' K

theorem hits_drawn {id : Nat} {l : List Oper} (hm : P.follows .mixedOrders = true) (h : Drawn P E l (Q .normal) l st []) : Hits E st ((Code.region id l.toArray true).wp P Q) := by
  obtain ⟨cs, st', h1, h2, h3⟩ := h
  exact hits_draw hm h1 (by simpa using h2) h3

variable {lf l : List Oper} {acc : List Cert}

theorem dq_nil (hok : pairsOk lf acc.reverse 0 = true) (h : Hits E st K) : Drawn P E lf K [] st acc := ⟨[], st, .nil, by simpa using hok, h⟩

theorem dq_of {o : Oper} {c : Cert} (hg : GOk P E lf.toArray o st c) (hfr : fresh c.fr st = true) (h : Drawn P E lf K l (c.W ++ st) (c :: acc)) : Drawn P E lf K (o :: l) st acc := by
  obtain ⟨cs, st', h1, h2, h3⟩ := h
  exact ⟨c :: cs, st', .cons hg hfr h1, by simpa using h2, h3⟩

theorem dq {o : Oper} {L : List Loc} {fr : List Nat} {W : St} (hf : FOk P E o st L fr W) (hfr : fresh fr st = true) (hg : o.guard = none) (h : Drawn P E lf K l (W ++ st) (⟨L, fr, W⟩ :: acc)) : Drawn P E lf K (o :: l) st acc :=
  dq_of (g_plain hf hg) hfr h

theorem dq_yes {o : Oper} {L : List Loc} {fr : List Nat} {W : St} {j t : Nat} {b : Bool} (hf : FOk P E o st L fr W) (hfr : fresh fr st = true) (hg : o.guard = some (j, b)) (hj : (lf.toArray[j]?).bind (·.dst) = some t)
    (hl : look st (.slot t) = some (.d (.sc (.bool b)))) (ht : t < E.N) (h : Drawn P E lf K l (W ++ st) (⟨.slot t :: L, fr, W⟩ :: acc)) : Drawn P E lf K (o :: l) st acc :=
  dq_of (g_yes hf hg hj hl ht) hfr h

theorem dq_no {o : Oper} {d j t : Nat} {b : Bool} {v : Value} (ho : o.dst = some d) (hg : o.guard = some (j, b)) (hj : (lf.toArray[j]?).bind (·.dst) = some t) (hl : look st (.slot t) = some (.d (.sc v))) (hbc : wantB v b = false) (ht : t < E.N) (hd : d < E.N)
    (h : Drawn P E lf K l ((.slot d, some (.d (.sc undef))) :: st) (⟨[.slot t], [], [(.slot d, some (.d (.sc undef)))]⟩ :: acc)) : Drawn P E lf K (o :: l) st acc :=
  dq_of (g_no ho hg hj hl hbc ht hd) rfl h

end Go.Ab


namespace Go.Ab
open Go Go.RowKit
set_option linter.unusedVariables false
set_option linter.unusedSimpArgs false

variable {P : Program} {E : Env} {st : St} {G : Gh} {a : Act} {w : World}
variable {d : Nat} {ty : TypeId} {pos : String} {af : Array Edge} {g : Option (Nat × Bool)} {x y z : Operand}

/-- A list, whether it may be appended to or not, or none. -/
def asList : V → Option (Nat × List D)
  | .d (.list es l) => some (es, l)
  | .own _ es l => some (es, l)
  | _ => none

theorem relV_list {v : V} {u : Value} {es : Nat} {l : List D} (h : RelV G v u) (ha : asList v = some (es, l)) : Rel G.S (.list es l) u := by
  cases v with
  | d q =>
    cases q with
    | list e l' => obtain ⟨rfl, rfl⟩ := Prod.mk.inj (Option.some.inj ha); exact h
    | _ => cases ha
  | own id e l' => obtain ⟨rfl, rfl⟩ := Prod.mk.inj (Option.some.inj ha); exact relV_own h
  | _ => cases ha

theorem f_lenStr {t : TypeId} {s : ByteArray} (hx : ev st x = some (.d (.sc (.string s)))) (ht : P.underlying t = some .string) (hd : d < E.N) :
    FOk P E ⟨some d, .call ⟨.builtin .len, #[x], #[t]⟩, ty, pos, af, g⟩ st (evL x) [] [(.slot d, some (.d (.sc (.int .i64 (s.size : Int)))))] :=
  fok_val rfl hd fun st' G a w hL hs => by
    have e1 := hs.sc ((ev_same hL fun l h => h).trans hx)
    exact ⟨_, by simp [execOp, resolve, invoke, builtin, e1, Builtin.len_, run_underlying ht, goInt], .sc _⟩

theorem f_lenList {t e : TypeId} {v : V} {es : Nat} {l : List D} (hx : ev st x = some v) (ha : asList v = some (es, l)) (ht : P.underlying t = some (.slice e)) (hd : d < E.N) :
    FOk P E ⟨some d, .call ⟨.builtin .len, #[x], #[t]⟩, ty, pos, af, g⟩ st (evL x) [] [(.slot d, some (.d (.sc (.int .i64 (l.length : Int)))))] :=
  fok_val rfl hd fun st' G a w hL hs => by
    have e1 := relV_list (hs.ev ((ev_same hL fun l h => h).trans hx)) ha
    cases hc : a.eval x <;> rw [hc] at e1 <;> cases e1
    · exact ⟨_, by simp [execOp, resolve, invoke, builtin, hc, Builtin.len_, run_underlying ht, goInt], .sc _⟩
    · exact ⟨_, by simp [execOp, resolve, invoke, builtin, hc, Builtin.len_, run_underlying ht, goInt], .sc _⟩

theorem f_lenNil {t e : TypeId} (hx : ev st x = some (.d (.sc (.slice none 0 0)))) (ht : P.underlying t = some (.slice e)) (hd : d < E.N) :
    FOk P E ⟨some d, .call ⟨.builtin .len, #[x], #[t]⟩, ty, pos, af, g⟩ st (evL x) [] [(.slot d, some (.d (.sc (.int .i64 0))))] :=
  fok_val rfl hd fun st' G a w hL hs => by
    have e1 := hs.sc ((ev_same hL fun l h => h).trans hx)
    exact ⟨_, by simp [execOp, resolve, invoke, builtin, e1, Builtin.len_, run_underlying ht, goInt], .sc _⟩

/-- A byte of a string. -/
def byteAt (s : ByteArray) (i : Int) : Int := ((s.data[i.toNat]?.getD 0).toNat : Int)

theorem f_idxStr {t : TypeId} {s : ByteArray} {k : IntKind} {i : Int} (hx : ev st x = some (.d (.sc (.string s)))) (hy : ev st y = some (.d (.sc (.int k i)))) (ht : P.underlying t = some .string) (h0 : 0 ≤ i) (h1 : i < (s.size : Int)) (hd : d < E.N) :
    FOk P E ⟨some d, .index t x y, ty, pos, af, g⟩ st (evL x ++ evL y) [] [(.slot d, some (.d (.sc (.int .u8 (byteAt s i)))))] :=
  fok_val rfl hd fun st' G a w hL hs => by
    have e1 := hs.sc ((ev_same hL fun l h => mem_l h).trans hx)
    have e2 := hs.sc ((ev_same hL fun l h => mem_r h).trans hy)
    refine ⟨_, ?_, .sc _⟩
    have hlt : i.toNat < s.size := by omega
    have hg : s[i.toNat]? = some (s.data[i.toNat]?.getD 0) := by
      have h2 : i.toNat < s.data.size := hlt
      rw [getElem?_pos s i.toNat hlt, Array.getElem?_eq_getElem h2]
      rfl
    simp only [execOp, e1, e2, Instr.index, asIntOf, Sem.run_bind, Sem.run_pure, Result.andThen_ok, run_underlying ht, if_pos h0, hg]
    rfl

/-- An element's place in a list. -/
theorem f_idxList {t e : TypeId} {v : V} {es : Nat} {b : Bool} {l : List D} {k : IntKind} {i : Int} {q : D} (hx : ev st x = some v) (ha : asList v = some (es, l)) (hy : ev st y = some (.d (.sc (.int k i)))) (ht : P.underlying t = some (.slice e)) (hk : kd P e = some (b, es))
    (h0 : 0 ≤ i) (h1 : l[i.toNat]? = some q) (hd : d < E.N) :
    FOk P E ⟨some d, .indexAddr t x y, ty, pos, af, g⟩ st (evL x ++ evL y) [] [(.slot d, some (.d (.eptr q.cells)))] :=
  fok_val rfl hd fun st' G a w hL hs => by
    have e1 := relV_list (hs.ev ((ev_same hL fun l h => mem_l h).trans hx)) ha
    have e2 := hs.sc ((ev_same hL fun l h => mem_r h).trans hy)
    have hlt : i.toNat < l.length := (List.getElem?_eq_some_iff.1 h1).1
    cases hc : a.eval x <;> rw [hc] at e1 <;> cases e1
    · rename_i cap b' o he hcap
      have key : ∀ {l : List D} {o n : Nat} {q : D}, RelE G.S es l b' o → l[n]? = some q → RelP G.S q.cells b' (o + n * es) := by
        intro l
        induction l with
        | nil => intro o n q _ h; simp at h
        | cons p l ih =>
          intro o n q h hn
          cases h with
          | cons h3 h4 h5 =>
            cases n with
            | zero => simp at hn; subst hn; simpa using h4
            | succ n =>
              have := ih h5 (by simpa using hn)
              rwa [show o + es + n * es = o + (n + 1) * es from by rw [Nat.add_mul]; omega] at this
      obtain ⟨_, hsz, _⟩ := kd_spec hk
      refine ⟨.pointer (some ⟨b', o + i.toNat * es, none⟩), ?_, .eptr (key he h1)⟩
      have hin : 0 ≤ i ∧ i < (l.length : Int) := ⟨h0, by omega⟩
      simp [execOp, hc, e2, Instr.indexAt, asIntOf, run_underlying ht, hin, hsz, add_at]
    · simp at hlt

/-- An element's place in an array of the frame's. -/
theorem f_idxArr {t e : TypeId} {n id off es : Nat} {b : Bool} {k : IntKind} {i : Nat} (hx : ev st x = some (.ptr id off)) (hy : ev st y = some (.d (.sc (.int k (i : Int))))) (ht : P.underlying t = some (.array n e)) (hk : kd P e = some (b, es)) (hi : Nat.blt i n = true) (hd : d < E.N) :
    FOk P E ⟨some d, .indexAddr t x y, ty, pos, af, g⟩ st (evL x ++ evL y) [] [(.slot d, some (.ptr id (off + i * es)))] :=
  fok_val rfl hd fun st' G a w hL hs => by
    have e1 : a.eval x = _ := hs.ev ((ev_same hL fun l h => mem_l h).trans hx)
    have e2 := hs.sc ((ev_same hL fun l h => mem_r h).trans hy)
    obtain ⟨_, hsz, _⟩ := kd_spec hk
    have hin : 0 ≤ (i : Int) ∧ (i : Int) < (n : Int) := ⟨by omega, by have := lt hi; omega⟩
    exact ⟨.pointer (some ⟨G.μ id, off + i * es, none⟩), by simp only [execOp, e1, e2, Instr.indexAt, Instr.sureAddr, asIntOf, Sem.run_bind, Sem.run_pure, Result.andThen_ok, run_underlying ht, if_pos hin, hsz]; simp [hsz, add_at], rfl⟩

/-! ### Parts of strings -/

def bnd (st : St) (dflt : Int) : Option Operand → Option Int
  | none => some dflt
  | some x => match ev st x with
    | some (.d (.sc (.int _ i))) => some i
    | _ => none

def bndL : Option Operand → List Loc
  | none => []
  | some x => evL x

theorem f_sliceStr {t : TypeId} {s : ByteArray} {lo hi : Option Operand} {i j : Int} (hx : ev st x = some (.d (.sc (.string s)))) (hlo : bnd st 0 lo = some i) (hhi : bnd st s.size hi = some j) (ht : P.underlying t = some .string)
    (h0 : 0 ≤ i) (h1 : i ≤ j) (h2 : j ≤ (s.size : Int)) (hd : d < E.N) :
    FOk P E ⟨some d, .slice t x lo hi none, ty, pos, af, g⟩ st (evL x ++ (bndL lo ++ bndL hi)) [] [(.slot d, some (.d (.sc (.string (s.extract i.toNat j.toNat)))))] :=
  fok_val rfl hd fun st' G a w hL hs => by
    have e1 := hs.sc ((ev_same hL fun l h => mem_l h).trans hx)
    have key : ∀ (o : Option Operand) (df r : Int), (∀ l ∈ bndL o, look st' l = look st l) → bnd st df o = some r → (o = none ∧ r = df) ∨ ∃ q k, o = some q ∧ a.eval q = .int k r := by
      intro o df r hl hb
      cases o with
      | none => exact .inl ⟨rfl, (Option.some.inj hb).symm⟩
      | some q =>
        right
        simp only [bnd] at hb
        split at hb
        · rename_i k i he
          obtain rfl := Option.some.inj hb
          exact ⟨q, k, rfl, hs.sc ((ev_same hl fun l h => h).trans he)⟩
        · cases hb
    refine ⟨_, ?_, .sc _⟩
    have b1 : ∀ (k : IntKind), (Instr.sliceBound (.int k i) j.toNat .sliceB).run P w = .ok i.toNat w := fun k => by
      have : 0 ≤ i ∧ i ≤ (j.toNat : Int) := ⟨h0, by omega⟩
      simp only [Instr.sliceBound, asIntOf, Sem.run_bind, Sem.run_pure, Result.andThen_ok, if_pos this]
    have b2 : ∀ (k : IntKind), (Instr.sliceBound (.int k j) s.size .sliceAlen).run P w = .ok j.toNat w := fun k => by
      have : 0 ≤ j ∧ j ≤ (s.size : Int) := ⟨by omega, h2⟩
      simp only [Instr.sliceBound, asIntOf, Sem.run_bind, Sem.run_pure, Result.andThen_ok, if_pos this]
    have hjs : ∀ (k : IntKind), s.size = j.toNat → (Instr.sliceBound (.int k i) s.size .sliceB).run P w = .ok i.toNat w := fun k h => by rw [h]; exact b1 k
    rcases key lo 0 i (fun l h => hL l (mem_r (mem_l h))) hlo with ⟨rfl, rfl⟩ | ⟨q, k, rfl, hq⟩ <;> rcases key hi s.size j (fun l h => hL l (mem_r (mem_r h))) hhi with ⟨rfl, rfl⟩ | ⟨q', k', rfl, hq'⟩
    · simp [execOp, e1, Instr.sliceAt, Instr.slice, run_underlying ht, Instr.sliceBounds]
    · simp [execOp, e1, hq', Instr.sliceAt, Instr.slice, run_underlying ht, Instr.sliceBounds, b2]
    · simp [execOp, e1, hq, Instr.sliceAt, Instr.slice, run_underlying ht, Instr.sliceBounds, hjs]
    · simp [execOp, e1, hq, hq', Instr.sliceAt, Instr.slice, run_underlying ht, Instr.sliceBounds, b2, b1]

/-! ### What is put behind a list -/

/-- An empty list that was none: from here on it may be appended to. -/
theorem hits_own {K : Act → World → Prop} (t id es : Nat) (hl : look st (.slot t) = some (.d (.sc (.slice none 0 0)))) (h : Hits E ((.slot t, some (.own id es [])) :: (.tip id, some (.ptr id 0)) :: dull id st) K) : Hits E st K := by
  intro G a w s
  have s1 := s.retip (id := id) (b := 0) (n := 0) (z := 0) (k := false) (fun c => by cases c)
  refine h _ a w ⟨s1.kw, s1.s0, s1.snew, s1.tmps, s1.defers, fun q v hv => ?_, fun i o v hv => ?_, fun i hi => ?_, fun i j hi hj => ?_, s1.stable, fun i hi ht => ?_, fun i j hi hj => ?_⟩
  · rw [look_cons] at hv
    split at hv
    · rename_i he
      obtain rfl : t = q := by simpa using he
      obtain rfl := Option.some.inj hv
      exact .inl ⟨by simp [upd], rfl, rel_sc (s.slots t _ hl)⟩
    · exact s1.slots q v hv
  · rw [look_ne _ _ (by simp)] at hv; rw [look_ne _ _ (by simp)]; exact s1.cells i o v hv
  · rw [look_ne _ _ (by simp)] at hi; exact s1.boxes i hi
  · rw [look_ne _ _ (by simp)] at hi hj; exact s1.inj i j hi hj
  · rw [look_ne _ _ (by simp)] at hi
    obtain ⟨q1, q2, q3, q4⟩ := s1.tips i hi ht
    exact ⟨q1, q2, q3, fun j hj => q4 j (by rw [look_ne _ _ (by simp)] at hj; exact hj)⟩
  · rw [look_ne _ _ (by simp)] at hi hj; exact s1.tinj i j hi hj


/-- What an append at these types asks of the table: the element's type, its cells, its bytes. -/
def apk (P : Program) (t tx : TypeId) : Option (TypeId × Nat × Nat) :=
  match P.underlying t, P.underlying tx with
  | some (.slice e), some (.slice _) => match P.info? e with
    | some i => match i.zero with
      | some z => if z.cells.size = i.size ∧ 0 < i.size then some (e, i.size, i.bytes) else none
      | none => none
    | none => none
  | _, _ => none

theorem apk_spec {t tx e : TypeId} {es nb : Nat} (h : apk P t tx = some (e, es, nb)) : P.underlying t = some (.slice e) ∧ (∃ e', P.underlying tx = some (.slice e')) ∧ ∃ i z, P.info? e = some i ∧ i.zero = some z ∧ z.cells.size = es ∧ i.size = es ∧ i.bytes = nb ∧ 0 < es := by
  unfold apk at h
  split at h
  · rename_i e0 e1 h1 h2
    split at h
    · rename_i i hi
      split at h
      · rename_i z hz
        split at h
        · rename_i hc
          simp only [Option.some.injEq, Prod.mk.injEq] at h
          obtain ⟨rfl, rfl, rfl⟩ := h
          exact ⟨h1, ⟨_, h2⟩, i, z, hi, hz, hc.1, rfl, rfl, hc.2⟩
        · cases h
      · cases h
    · cases h
  · cases h

theorem relL_one {S : Stab} : ∀ {l : List D} {us : List Value}, RelL S l us → (∀ q ∈ l, (V.d q).one = true) → ∀ u ∈ us, u.oneCell' = true
  | [], [], _, _, u, hu => by simp at hu
  | q :: l, v :: us, .cons h1 h2, h, u, hu => by
    rcases List.mem_cons.1 hu with rfl | hu
    · exact (relV_one (G := ⟨S, fun _ => 0, fun _ => 0, fun _ => false, fun _ => 0, fun _ => 0⟩) (v := .d q) h1 (h q (by simp))).1
    · exact relL_one h2 (fun x hx => h x (by simp [hx])) u hu

theorem flat_append (xs ys : List D) : flat (xs ++ ys) = flat xs ++ flat ys := by simp [flat]

/-- A list's cells as an append sees them. -/
theorem src_of {es : Nat} {tx e' : TypeId} (s : Sim E st G a w) {ys : List D} {u : Value} (hk : P.underlying tx = some (.slice e')) (h : Rel G.S (.list es ys) u) (h1 : ∀ q ∈ flat ys, (V.d q).one = true) :
    ∃ us, Src P es tx u ys.length us w ∧ RelL G.S (flat ys) us ∧ us.length = ys.length * es ∧ ∀ q ∈ ys, q.cells.length = es := by
  cases h with
  | lnil => exact ⟨[], Src.ofNil w hk 0, .nil, by simp, by simp⟩
  | list hc he =>
    rename_i b o cap
    obtain ⟨hp, hlen, hall⟩ := relE_flat he
    obtain ⟨us, h2, h3, h4⟩ := relP_vals hp
    exact ⟨us, Src.ofSlice w hk ⟨b, o, none⟩ _ cap us (by rw [h2, hlen]) (fun j v hv => by rw [add_at]; exact s.stable _ _ _ (h4 j v hv)) (relL_one h3 h1), h3, by rw [h2, hlen], hall⟩

theorem row_get {S : Stab} {b n : Nat} {cs : Array Value} {k : Nat} (h : k < n) : S.row b n cs b k = cs[k]? := by unfold Stab.row; rw [if_pos rfl, if_pos h]

variable {Q : Exit → Act → World → Prop}

/-- So many elements more behind a list. -/
theorem sq_append {ops : Array Oper} {l : List Oper} {t tx e : TypeId} {id es nb : Nat} {xs ys : List D} {v vt : V} (hx : ev st x = some (.own id es xs)) (htip : look st (.tip id) = some vt) (hy : ev st y = some v) (ha : asList v = some (es, ys))
    (hp : apk P t tx = some (e, es, nb)) (hroom : (xs.length + ys.length) * nb ≤ 140737488355328) (hbig : xs.length + ys.length ≤ 9223372036854775807) (hone0 : ((flat ys).all fun q => (V.d q).one) = true) (hd : d < E.N)
    (h : Hits E ((.slot d, some (.own id es (xs ++ ys))) :: (.tip id, some (.ptr id 0)) :: dull id st) (wpList P ops Q l)) :
    Hits E st (wpList P ops Q (⟨some d, .call ⟨.builtin .append, #[x, y], #[t, tx]⟩, ty, pos, af, none⟩ :: l)) := by
  intro G a w s
  have hone : ∀ q ∈ flat ys, (V.d q).one = true := fun q hq => List.all_eq_true.1 hone0 q hq
  obtain ⟨ht, ⟨e', htx⟩, i, z, hi, hz, hzs, his, hib, hes⟩ := apk_spec hp
  have hvx := s.ev hx
  have hvy := relV_list (s.ev hy) ha
  obtain ⟨us, hsrc, hrus, hlus, hcells⟩ := src_of (tx := tx) s htx hvy hone
  subst his
  -- it is enough to tell the operation's run, and what is known behind it
  suffices hh : ∃ u w' G', (Builtin.append_ #[t, tx] ty #[a.eval x, a.eval y]).run P w = .ok u w' ∧ Sim E ((.tip id, some (.ptr id 0)) :: dull id st) G' a w' ∧ RelV G' (.own id i.size (xs ++ ys)) u by
    obtain ⟨u, w', G', h1, h2, h3⟩ := hh
    unfold wpList
    rw [if_pos (by simp [Region.wanted])]
    refine .inl ?_
    show Oper.upon P _ a _ Q ((execOp a.eval _).run P w)
    have hrun : (execOp a.eval (⟨some d, .call ⟨.builtin .append, #[x, y], #[t, tx]⟩, ty, pos, af, none⟩ : Oper)).run P w = .ok (.value u) w' := by
      simp [execOp, resolve, invoke, builtin, h1]
    rw [hrun]
    exact h _ _ _ (h2.put hd h3)
  -- a new row for both
  have grow : ∀ (base : Option Addr) (cap : Nat) (olds : List Value), a.eval x = .slice base xs.length cap → (Builtin.firstCells i.size xs.length (.slice base xs.length cap)).run P w.drew = .ok olds.toArray w.drew → RelL G.S (flat xs) olds → olds.length = xs.length * i.size →
      (∀ q ∈ xs, q.cells.length = i.size) → cap < xs.length + ys.length → ∃ u w' G', (Builtin.append_ #[t, tx] ty #[a.eval x, a.eval y]).run P w = .ok u w' ∧ Sim E ((.tip id, some (.ptr id 0)) :: dull id st) G' a w' ∧ RelV G' (.own id i.size (xs ++ ys)) u := by
    intro base cap olds hex hold hro hlo hcx hlt
    have hr := run_append_grow_src (P := P) w t tx ty e i z ht hi hz base xs.length cap olds hold (a.eval y) ys.length us hsrc hlt (by omega) (growslice_fits hlt (by rw [hib]; exact hroom))
    have hge := grownCap_ge w (xs.length + ys.length) cap e
    have hb : Below w.heap.size w w.drew := ⟨rfl, rfl, rfl, Nat.le_refl _, fun _ _ => rfl⟩
    have s1 := s.later0 hb
    have hlen : (olds ++ us).length = (xs.length + ys.length) * i.size := by rw [List.length_append, hlo, hlus, Nat.add_mul]
    generalize hcs : (olds ++ us).toArray ++ Builtin.zeroCells z.cells (grownCap w (xs.length + ys.length) cap e - (xs.length + ys.length)) = cs at hr
    have hsize : cs.size = grownCap w (xs.length + ys.length) cap e * i.size := by
      rw [← hcs, Array.size_append, List.size_toArray, hlen, size_zeroCells, hzs, ← Nat.add_mul]
      congr 1
      omega
    have hn : (xs.length + ys.length) * i.size ≤ cs.size := by rw [hsize]; exact Nat.mul_le_mul_right _ hge
    have s2 := s1.row ((xs.length + ys.length) * i.size) cs e (0, 0) hn
    have hget : ∀ k u, (olds ++ us)[k]? = some u → cs[k]? = some u := fun k u hk => by
      rw [← hcs, Array.getElem?_append_left (by rw [List.size_toArray]; exact (List.getElem?_eq_some_iff.1 hk).1), List.getElem?_toArray]; exact hk
    have s3 := s2.retip (id := id) (b := w.heap.size) (n := (xs.length + ys.length) * i.size) (z := cs.size) (k := true) (fun _ => by
      refine ⟨s.size, ⟨cs, e, by show (w.heap.push _)[w.heap.size]? = _; rw [Array.getElem?_push, if_pos rfl], Nat.le_refl _⟩, fun o ho => ?_, fun j hj hc => ?_, fun j hj hl hk hc => ?_⟩
      · show Stab.row _ _ _ _ _ _ = none
        unfold Stab.row
        rw [if_pos (show w.heap.size = w.drew.heap.size from rfl), if_neg (by omega)]
      · have := (s.boxes j hj).2.1
        have hc' : G.μ j = w.heap.size := hc
        omega
      · obtain ⟨_, ⟨cs', ty', q2, _⟩, _⟩ := s.tips j hl hk
        have := lt_of_block q2
        have hc' : G.tb j = w.heap.size := hc
        omega)
    refine ⟨_, _, _, (by rw [hex]; exact hr), s3, .inr ⟨by simp [upd], 0, grownCap w (xs.length + ys.length) cap e, ?_, ?_, ?_, ?_, ?_⟩⟩
    · simp [upd, List.length_append]
    · rw [List.length_append]; exact hge
    · show RelE (Stab.row G.S w.heap.size _ cs) i.size (xs ++ ys) ((upd G.tb id w.heap.size) id) 0
      simp only [upd, if_true]
      refine relE_of (fun q hq => (List.mem_append.1 hq).elim (hcx q) (hcells q)) ?_
      rw [flat_append]
      have hle := s1.row_le ((xs.length + ys.length) * i.size) cs
      refine relP_of (RelL.mono hle (relL_append hro hrus)) fun k u hk => ?_
      rw [Nat.zero_add]
      show Stab.row _ w.heap.size _ cs w.heap.size k = some u
      rw [row_get (by rw [← hlen]; exact (List.getElem?_eq_some_iff.1 hk).1)]
      exact hget k u hk
    · simp [upd, List.length_append]
    · simp [upd, hsize]
  rcases hvx with ⟨hk, rfl, hu⟩ | ⟨hk, o, cap, hu, hcap, he, hte, htz⟩
  · -- it was none
    by_cases hz0 : ys.length = 0
    · have hys : ys = [] := List.length_eq_zero_iff.1 hz0
      subst hys
      have hus : us = [] := List.length_eq_zero_iff.1 (by simpa using hlus)
      subst hus
      have s1 := s.retip (id := id) (b := 0) (n := 0) (z := 0) (k := false) (fun c => by cases c)
      refine ⟨.slice none 0 0, w, _, ?_, s1, .inl ⟨by simp [upd], rfl, rfl⟩⟩
      have h2 := hsrc.cells
      simp only [List.length_nil] at h2
      rw [hu]
      simp [Builtin.append_, run_underlying ht, run_underlying htx, sizeOf, run_typeInfo w hi, hsrc.len, h2]
    · exact grow none 0 [] hu (run_firstCells_none w.drew i.size 0 0 0) .nil (by simp) (by simp) (by simp; omega)
  · obtain ⟨hpx, hlx, hcx⟩ := relE_flat he
    obtain ⟨olds, ho1, ho2, ho3⟩ := relP_vals hpx
    by_cases hr : xs.length + ys.length ≤ cap
    · obtain ⟨t1, ⟨old, oty, t2, t3⟩, t4, t5⟩ := s.tips id (by rw [htip]; simp) hk
      have hfit : G.te id + us.length ≤ G.tz id := by rw [hte, htz, hlus, Nat.add_assoc, ← Nat.add_mul]; exact Nat.add_le_add_left (Nat.mul_le_mul_right _ hr) _
      have s1 := s.extend (us := us) (by rw [htip]; simp) hk t2 (by omega)
      have s2 := s1.retip (id := id) (b := G.tb id) (n := G.te id + us.length) (z := G.tz id) (k := true) (fun _ => by
        refine ⟨t1, ⟨_, oty, heap_setRow_same _ t2, by rw [splice_size (by omega)]; exact t3⟩, fun p hp => ?_, fun j hj => ?_, fun j hj hl hk' hc => ?_⟩
        · show Stab.more _ _ _ _ _ _ = none
          unfold Stab.more
          rw [if_neg (by omega)]; exact t4 p (by omega)
        · rw [look_ne _ _ (by simp)] at hj; exact t5 j hj
        · rw [look_ne _ _ (by simpa using fun c => hj c.symm)] at hl
          exact hj (s.tinj j id hl (by rw [htip]; simp) hk' hk hc))
      have s3 := s2.same (st' := (.tip id, some (.ptr id 0)) :: dull id st) (fun q => by
        rw [look_cons, look_cons]
        by_cases hq : Loc.tip id = q
        · rw [if_pos hq, if_pos hq]
        · rw [if_neg hq, if_neg hq, look_dull, look_dull, look_ne _ _ hq])
      have hone' : ∀ u ∈ us, u.oneCell' = true := relL_one hrus hone
      have hst := run_storeCells_at P (G.tb id) (o + xs.length * i.size) oty us 0 old w t2 (by rw [hte] at hfit; omega) hone'
      refine ⟨.slice (some ⟨G.tb id, o, none⟩) (xs.length + ys.length) cap, _, _, ?_, s3, .inr ⟨by simp [upd], o, cap, ?_, ?_, ?_, ?_, ?_⟩⟩
      · have e1 : (Builtin.append_ #[t, tx] ty #[a.eval x, a.eval y]).run P w = .ok (.slice (some ⟨G.tb id, o, none⟩) (xs.length + ys.length) cap) (w.setRow (G.tb id) (splice old (G.te id) us)) := by
          rw [hu]
          have h2 := hsrc.cells
          simp [Builtin.append_, run_underlying ht, run_underlying htx, sizeOf, run_typeInfo w hi, hsrc.len, hr, h2, add_at, hst, splice, hte]
        exact e1
      · simp [upd, List.length_append]
      · rw [List.length_append]; exact hr
      · show RelE (Stab.more G.S (G.tb id) (G.te id) us) i.size (xs ++ ys) ((upd G.tb id (G.tb id)) id) o
        simp only [upd, if_true]
        have hle : G.S.le (G.S.more (G.tb id) (G.te id) us) := fun b p v hv => by
          unfold Stab.more
          rw [if_neg]
          · exact hv
          · rintro ⟨rfl, h1, _⟩; rw [t4 p h1] at hv; cases hv
        refine relE_append (RelE.mono hle he) (relE_of hcells (relP_of (RelL.mono hle hrus) fun k u hku => ?_))
        show Stab.more G.S (G.tb id) (G.te id) us (G.tb id) _ = some u
        have hklt := (List.getElem?_eq_some_iff.1 hku).1
        unfold Stab.more
        rw [if_pos ⟨rfl, by omega, by omega⟩, hte, show o + xs.length * i.size + k - (o + xs.length * i.size) = k from by omega]
        exact hku
      · simp [upd, List.length_append, hte, hlus, Nat.add_mul, Nat.add_assoc]
      · simp [upd, htz]
    · refine grow _ cap olds hu ?_ ho2 (by rw [ho1, hlx]) hcx (by omega)
      have h3 := run_loadCells_list (P := P) w.drew ⟨G.tb id, o, none⟩ olds (fun j u hj => by rw [add_at]; exact s.stable _ _ _ (ho3 j u hj))
      have h4 : olds.length = xs.length * i.size := by rw [ho1, hlx]
      rw [h4] at h3
      simpa [Builtin.firstCells] using h3

end Go.Ab


namespace Go.Ab
open Go Go.RowKit
set_option linter.unusedVariables false
set_option linter.unusedSimpArgs false

variable {P : Program} {E : Env} {st : St} {G : Gh} {a : Act} {w : World}
variable {d : Nat} {ty : TypeId} {pos : String} {af : Array Edge} {g : Option (Nat × Bool)} {x y z : Operand}

def evP (st : St) : List (Nat × Operand) → Option (List (Nat × D))
  | [] => some []
  | (i, x) :: r => match ev st x, evP st r with
    | some (.d q), some l => some ((i, q) :: l)
    | some (.own _ es q), some l => some ((i, .list es q) :: l)
    | _, _ => none

def RelPs (S : Stab) : List (Nat × D) → List (Nat × Value) → Prop
  | [], [] => True
  | (i, q) :: l, (j, u) :: r => i = j ∧ Rel S q u ∧ RelPs S l r
  | _, _ => False

theorem Sim.evP (h : Sim E st G a w) : ∀ {xs : List (Nat × Operand)} {ps : List (Nat × D)}, Ab.evP st xs = some ps → RelPs G.S ps (xs.map fun p => (p.1, a.eval p.2))
  | [], ps, he => by obtain rfl := Option.some.inj he; exact trivial
  | (i, x) :: r, ps, he => by
    unfold Ab.evP at he
    cases hx : Ab.ev st x with
    | none => rw [hx] at he; cases he
    | some v =>
      cases hr : Ab.evP st r with
      | none => rw [hx, hr] at he; cases v <;> cases he
      | some l =>
        rw [hx, hr] at he
        have h1 := h.ev hx
        have h2 := Sim.evP h hr
        cases v with
        | d q => obtain rfl := Option.some.inj he; exact ⟨rfl, h1, h2⟩
        | own id es q => obtain rfl := Option.some.inj he; exact ⟨rfl, relV_own h1, h2⟩
        | _ => cases he

theorem evP_same {st st0 : St} {L : List Loc} (hL : ∀ l ∈ L, look st l = look st0 l) : ∀ {xs : List (Nat × Operand)}, (∀ l ∈ evsL (xs.map (·.2)), l ∈ L) → evP st xs = evP st0 xs
  | [], _ => rfl
  | (i, x) :: r, hx => by
    unfold evP
    rw [ev_same hL (fun l hl => hx l (by simp [evsL, hl])), evP_same hL (xs := r) (fun l hl => hx l (by simp only [List.map_cons, evsL, List.flatMap_cons, List.mem_append]; exact .inr hl))]

/-- So many cells in a row's place. -/
def setL {α : Type} (l : List α) (o : Nat) (us : List α) : List α := l.take o ++ us ++ l.drop (o + us.length)

/-- Is it a cell, or an aggregate told by its cells? -/
def D.plain : D → Bool
  | .sc (.agg _) => false
  | _ => true

def fillD (place : Nat → Option (Nat × Nat)) (cells : List D) : List (Nat × D) → Option (List D)
  | [] => some cells
  | (i, q) :: r => match place i with
    | some (off, size) => match q.cells.length == size && Nat.ble (off + size) cells.length && q.plain with
      | true => fillD place (setL cells off q.cells) r
      | false => none
    | none => none

theorem foldl_set (us : List Value) : ∀ (k off : Nat) (cs : Array Value), off + k + us.length ≤ cs.size →
    (us.zipIdx k).foldl (fun cs (p : Value × Nat) => cs.setIfInBounds (off + p.2) p.1) cs = (setL cs.toList (off + k) us).toArray := by
  induction us with
  | nil => intro k off cs _; simp [setL]
  | cons u us ih =>
    intro k off cs h
    simp only [List.zipIdx_cons, List.foldl_cons]
    rw [ih (k + 1) off _ (by simp at h ⊢; omega)]
    congr 1
    have := list_seg_step cs.toList (off + k) u us (by simp at h ⊢; omega)
    simpa [setL, Nat.add_assoc] using this

theorem relL_take' {S : Stab} {l : List D} {us : List Value} (n : Nat) (h : RelL S l us) : RelL S (l.take n) (us.take n) := relL_take n h
theorem relL_drop {S : Stab} : ∀ {l : List D} {us : List Value} (n : Nat), RelL S l us → RelL S (l.drop n) (us.drop n)
  | _, _, 0, h => h
  | [], [], n + 1, _ => .nil
  | _ :: _, _ :: _, n + 1, .cons _ h => relL_drop n h

theorem rel_cells {S : Stab} {q : D} {u : Value} (h : Rel S q u) (hq : q.plain = true) : RelL S q.cells u.cells.toList := by
  cases h with
  | sc _ => cases u <;> first | (cases hq; done) | exact .cons (.sc _) .nil
  | agg hl => exact hl
  | tup hl => exact .cons (.tup hl) .nil
  | list hc he => exact .cons (.list hc he) .nil
  | lnil => exact .cons .lnil .nil
  | eptr hp => exact .cons (.eptr hp) .nil
  | any hc => cases u <;> first | exact .cons (.any hc) .nil | (simp [Value.oneCell'] at hc)

theorem fill_rel {S : Stab} {place : Nat → Option (Nat × Nat)} : ∀ {ps : List (Nat × D)} {us : List (Nat × Value)} {cells l : List D} {cs : List Value}, RelPs S ps us → RelL S cells cs → fillD place cells ps = some l →
    ∃ vs : List Value, Instr.fill place ⟨cs⟩ us = some ⟨vs⟩ ∧ RelL S l vs
  | [], [], cells, l, cs, _, hc, h => by obtain rfl := Option.some.inj h; exact ⟨cs, rfl, hc⟩
  | (i, q) :: ps, (j, u) :: us, cells, l, cs, ⟨hij, hq, hr⟩, hc, h => by
    subst hij
    simp only [fillD] at h
    split at h
    · rename_i off size hpl
      split at h
      · rename_i hcond
        simp only [Bool.and_eq_true, beq_iff_eq] at hcond
        obtain ⟨⟨h1, h2⟩, h3⟩ := hcond
        have h2' : off + size ≤ cells.length := Nat.le_of_ble_eq_true h2
        have h4 := rel_cells hq h3
        have h5 := relL_length h4
        have h6 := relL_length hc
        have hsz : u.cells.size = size := by rw [← h1, h5]; simp
        have hnext : RelL S (setL cells off q.cells) (setL cs off u.cells.toList) := by
          unfold setL
          rw [h5]
          exact relL_append (relL_append (relL_take _ hc) h4) (relL_drop _ hc)
        obtain ⟨vs, hv1, hv2⟩ := fill_rel hr hnext h
        refine ⟨vs, ?_, hv2⟩
        simp only [Instr.fill, hpl]
        rw [if_neg]
        · have e := foldl_set u.cells.toList 0 off ⟨cs⟩ (by simp [hsz]; omega)
          rw [Nat.add_zero] at e
          have e2 : u.cells.zipIdx.foldl (fun cs (p : Value × Nat) => cs.setIfInBounds (off + p.2) p.1) (⟨cs⟩ : Array Value) = ⟨setL cs off u.cells.toList⟩ := by
            rw [← Array.foldl_toList, Array.toList_zipIdx]; exact e
          rw [← hv1]
          congr 1
        · simp [hsz]; omega
      · cases h
    · cases h
  | [], _ :: _, _, _, _, h, _, _ => h.elim
  | _ :: _, [], _, _, _, h, _, _ => h.elim

/-- A struct's places and zero cells. -/
def bk (P : Program) (t : TypeId) : Option (List (Nat × Nat) × List Value) :=
  match P.underlying t, zc P t with
  | some (.struct fs), some zs => match fs.toList.mapM fun f => (P.info? f.type).map fun i => (f.offset, i.size) with
    | some pl => some (pl, zs)
    | none => none
  | _, _ => none

theorem run_places {w : World} : ∀ {fs : List Field} {pl : List (Nat × Nat)}, (fs.mapM fun f => (P.info? f.type).map fun i => (f.offset, i.size)) = some pl →
    (fs.mapM fun (f : Field) => (do pure (f.offset, ← sizeOf f.type) : Sem (Nat × Nat))).run P w = .ok pl w
  | [], pl, h => by simp at h; subst h; rfl
  | f :: fs, pl, h => by
    simp only [List.mapM_cons, Option.bind_eq_bind] at h
    cases hi : P.info? f.type with
    | none => simp [hi] at h
    | some i =>
      cases hr : fs.mapM fun f => (P.info? f.type).map fun i => (f.offset, i.size) with
      | none => simp [hi, hr] at h
      | some q =>
        simp [hi, hr] at h
        subst h
        have ih := run_places (w := w) hr
        simp only [List.mapM_cons, Sem.run_bind, sizeOf, run_typeInfo w hi, Result.andThen_ok, Sem.run_pure]
        simp only [sizeOf, Sem.run_bind, Sem.run_pure] at ih
        rw [ih]
        rfl

theorem relL_scs (S : Stab) : ∀ zs : List Value, RelL S (zs.map .sc) zs
  | [] => .nil
  | z :: zs => .cons (.sc z) (relL_scs S zs)

theorem f_build {t : TypeId} {parts : List (Nat × Operand)} {ps : List (Nat × D)} {pl : List (Nat × Nat)} {zs : List Value} {l : List D} (hb : bk P t = some (pl, zs)) (he : evP st parts = some ps) (hl : fillD (pl[·]?) (zs.map .sc) ps = some l) (hd : d < E.N) :
    FOk P E ⟨some d, .build t parts.toArray, ty, pos, af, g⟩ st (evsL (parts.map (·.2))) [] [(.slot d, some (.d (.agg l)))] :=
  fok_val rfl hd fun st' G a w hL hs => by
    have h1 := hs.evP ((evP_same hL fun l h => h).trans he)
    unfold bk at hb
    split at hb
    · rename_i fs zs' hu hz
      split at hb
      · rename_i pl' hpl
        obtain ⟨rfl, rfl⟩ := Prod.mk.inj (Option.some.inj hb)
        obtain ⟨z, hz1, hz2⟩ := zc_spec hz
        obtain ⟨vs, hv1, hv2⟩ := fill_rel h1 (relL_scs G.S zs') hl
        have hrp := run_places (P := P) (w := w) hpl
        refine ⟨.agg ⟨vs⟩, ?_, .agg hv2⟩
        have hpl2 : (fs.mapM fun (f : Field) => (do pure (f.offset, ← sizeOf f.type) : Sem (Nat × Nat))).run P w = .ok pl'.toArray w := by
          rw [Array.mapM_eq_mapM_toList, Sem.run_map, hrp]; rfl
        have hf : Instr.fill (fun i => pl'[i]?) (⟨zs'⟩ : Array Value) (parts.map fun p => (p.1, a.eval p.2)) = some ⟨vs⟩ := hv1
        simp only [execOp, Instr.build, Sem.run_bind, hz1, Result.andThen_ok, run_underlying hu, hz2, hpl2]
        simp [hf]
      · cases hb
    · cases hb

/-- A field of a struct that lies in no memory. -/
def fp (P : Program) (s : TypeId) (k : Nat) : Option (Nat × Bool × Nat) :=
  match P.underlying s with
  | some (.struct fs) => match fs[k]? with
    | some f => match kd P f.type with
      | some (b, n) => some (f.offset, b, n)
      | none => none
    | none => none
  | _ => none

def fpV (l : List D) : Nat × Bool × Nat → Option D
  | (off, true, n) => some (.agg ((l.drop off).take n))
  | (off, false, _) => l[off]?

theorem f_field {s : TypeId} {k : Nat} {o : Nat × Bool × Nat} {l : List D} {v : D} (hx : ev st x = some (.d (.agg l))) (hk : fp P s k = some o) (hv : fpV l o = some v) (hd : d < E.N) :
    FOk P E ⟨some d, .field s x k, ty, pos, af, g⟩ st (evL x) [] [(.slot d, some (.d v))] :=
  fok_val rfl hd fun st' G a w hL hs => by
    have e1 := hs.ev ((ev_same hL fun l h => h).trans hx)
    cases hc : a.eval x <;> rw [hc] at e1 <;> cases e1
    rename_i cs hl
    unfold fp at hk
    split at hk
    · rename_i fs hu
      split at hk
      · rename_i f hf
        split at hk
        · rename_i b n hkd
          obtain rfl := Option.some.inj hk
          obtain ⟨h1, h2, _⟩ := kd_spec hkd
          cases b with
          | true =>
            obtain rfl := Option.some.inj hv
            refine ⟨.agg ((⟨cs⟩ : Array Value).extract f.offset (f.offset + n)), by simp [execOp, hc, Instr.field, run_underlying hu, hf, part, h1, h2, asAgg], ?_⟩
            have e : ((⟨cs⟩ : Array Value).extract f.offset (f.offset + n)) = ⟨(cs.drop f.offset).take n⟩ := by
              apply Array.ext'
              simp [List.take_drop, Nat.add_comm]
            rw [e]
            exact .agg (relL_take _ (relL_drop _ hl))
          | false =>
            obtain ⟨u, hu2, hr⟩ := relL_getElem hl hv
            exact ⟨u, by simp [execOp, hc, Instr.field, run_underlying hu, hf, part, h1, asAgg, hu2], hr⟩
        · cases hk
      · cases hk
    · cases hk

/-- A list made of its elements. -/
def sk (P : Program) (t : TypeId) : Option (TypeId × Nat × List Value) :=
  match P.underlying t with
  | some (.slice e) => match P.info? e, zc P e with
    | some i, some zs => some (e, i.size, zs)
    | _, _ => none
  | _ => none

def snds : List (Nat × D) → List D
  | [] => []
  | p :: r => p.2 :: snds r

def zsn (zs : List Value) (n : Nat) : List Value := (List.range n).map fun i => zs[i % zs.length]!

theorem f_buildSlice {t e : TypeId} {n es : Nat} {zs : List Value} {parts : List (Nat × Operand)} {ps : List (Nat × D)} {l : List D} {ds : List D} (hk : sk P t = some (e, es, zs)) (he : evP st parts = some ps)
    (hl : fillD (fun i => some (i * es, es)) ((zsn zs (n * es)).map .sc) ps = some l) (hds0 : snds ps = ds) (hds : flat ds = l) (hn : Nat.beq ds.length n = true) (hc0 : (ds.all fun q => q.cells.length == es) = true) (hbig : n * es ≤ 16777216) (hpos : 0 < n * es) (hd : d < E.N) :
    FOk P E ⟨some d, .buildSlice t n parts.toArray, ty, pos, af, g⟩ st (evsL (parts.map (·.2))) [] [(.slot d, some (.d (.list es ds)))] :=
  fok_later rfl hd fun st' G a w hL hs => by
    have hn := Nat.eq_of_beq_eq_true hn
    have hc : ∀ q ∈ ds, q.cells.length = es := fun q hq => by have := List.all_eq_true.1 hc0 q hq; simpa using this
    have h1 := hs.evP ((evP_same hL fun l h => h).trans he)
    unfold sk at hk
    split at hk
    · rename_i e' hu
      split at hk
      · rename_i i zs' hi hz
        simp only [Option.some.injEq, Prod.mk.injEq] at hk
        obtain ⟨rfl, rfl, rfl⟩ := hk
        obtain ⟨zv, hz1, hz2⟩ := zc_spec hz
        obtain ⟨vs, hv1, hv2⟩ := fill_rel h1 (relL_scs G.S (zsn zs' (n * i.size))) hl
        have hlen := relL_length hv2
        have s1 := hs.row vs.length ⟨vs⟩ e' (0, 0) (Nat.le_refl _)
        have hb : Below w.heap.size w (w.alloc (.cells ⟨vs⟩ e')) := (Below.refl _ _).alloc (Nat.le_refl _) _
        have hle := hs.row_le vs.length (⟨vs⟩ : Array Value)
        refine ⟨.slice (some ⟨w.heap.size, 0, none⟩) n n, _, _, ?_, hb, hle, fun b o v hv => ?_, ?_⟩
        · have hze : ((Array.range (n * i.size)).map fun k => zv.cells[k % zv.cells.size]!) = ⟨zsn zs' (n * i.size)⟩ := by
            rw [hz2]
            apply Array.ext'
            simp [zsn]
          have hbig' : ¬ (2 ^ 24 < n * i.size) := by omega
          have hne : ¬ (n * i.size = 0) := by omega
          have hf : Instr.fill (fun k => some (k * i.size, i.size)) (⟨zsn zs' (n * i.size)⟩ : Array Value) (parts.map fun p => (p.1, a.eval p.2)) = some ⟨vs⟩ := hv1
          simp only [execOp, Instr.buildSlice, Sem.run_bind, run_underlying hu, Result.andThen_ok, sizeOf, run_typeInfo w hi, Sem.run_pure, gt_iff_lt, hbig', if_false, hne, hz1]
          simp only [hze]
          simp [hf, newRow]
        · unfold Stab.row at hv
          split at hv
          · rename_i hbb
            subst hbb
            split at hv
            · exact .inr ⟨Nat.le_refl _, by rw [cell_of_block (cs := ⟨vs⟩) (ty := e') (fr := (0, 0)) (by show (w.heap.push _)[w.heap.size]? = _; rw [Array.getElem?_push, if_pos rfl])]; exact hv⟩
            · cases hv
          · exact .inl hv
        · show Rel _ (.list i.size ds) _
          rw [← hn]
          refine .list (Nat.le_refl _) (relE_of hc ?_)
          rw [hds]
          refine relP_of (RelL.mono hle hv2) fun k u hku => ?_
          rw [Nat.zero_add]
          show Stab.row _ _ _ _ _ _ = _
          unfold Stab.row
          rw [if_pos rfl, if_pos (List.getElem?_eq_some_iff.1 hku).1]
          simpa using hku
      · cases hk
    · cases hk

theorem f_max {t1 t2 : TypeId} {k : IntKind} {p q : Int} (hx : ev st x = some (.d (.sc (.int k p)))) (hy : ev st y = some (.d (.sc (.int k q)))) (hd : d < E.N) :
    FOk P E ⟨some d, .call ⟨.builtin .max, #[x, y], #[t1, t2]⟩, ty, pos, af, g⟩ st (evL x ++ evL y) [] [(.slot d, some (.d (.sc (.int k (if q > p then q else p)))))] :=
  fok_val rfl hd fun st' G a w hL hs => by
    have e1 := hs.sc ((ev_same hL fun l h => mem_l h).trans hx)
    have e2 := hs.sc ((ev_same hL fun l h => mem_r h).trans hy)
    exact ⟨_, by simp [execOp, resolve, invoke, builtin, e1, e2, Builtin.max_, Builtin.max2], .sc _⟩

theorem f_min {t1 t2 : TypeId} {k : IntKind} {p q : Int} (hx : ev st x = some (.d (.sc (.int k p)))) (hy : ev st y = some (.d (.sc (.int k q)))) (hd : d < E.N) :
    FOk P E ⟨some d, .call ⟨.builtin .min, #[x, y], #[t1, t2]⟩, ty, pos, af, g⟩ st (evL x ++ evL y) [] [(.slot d, some (.d (.sc (.int k (if q < p then q else p)))))] :=
  fok_val rfl hd fun st' G a w hL hs => by
    have e1 := hs.sc ((ev_same hL fun l h => mem_l h).trans hx)
    have e2 := hs.sc ((ev_same hL fun l h => mem_r h).trans hy)
    exact ⟨_, by simp [execOp, resolve, invoke, builtin, e1, e2, Builtin.min_, Builtin.min2], .sc _⟩

end Go.Ab


namespace Go.Ab
open Go Go.RowKit
set_option linter.unusedVariables false

mutual
def plainV : D → Option Value
  | .sc v => some v
  | .agg l => match plainVs l with
    | some vs => some (.agg ⟨vs⟩)
    | none => none
  | .tup l => match plainVs l with
    | some vs => some (.tuple ⟨vs⟩)
    | none => none
  | .list _ _ => none
  | .eptr _ => none
  | .any => none
def plainVs : List D → Option (List Value)
  | [] => some []
  | x :: l => match plainV x, plainVs l with
    | some v, some vs => some (v :: vs)
    | _, _ => none
end

mutual
theorem plain_rel {S : Stab} : ∀ {x : D} {v : Value}, plainV x = some v → Rel S x v
  | .sc _, v, h => by simp only [plainV, Option.some.injEq] at h; subst h; exact .sc _
  | .agg l, v, h => by
    simp only [plainV] at h
    split at h
    · rename_i vs hv; obtain rfl := Option.some.inj h; exact .agg (plains_rel hv)
    · cases h
  | .tup l, v, h => by
    simp only [plainV] at h
    split at h
    · rename_i vs hv; obtain rfl := Option.some.inj h; exact .tup (plains_rel hv)
    · cases h
  | .list _ _, v, h => by simp [plainV] at h
  | .eptr _, v, h => by simp [plainV] at h
  | .any, v, h => by simp [plainV] at h
theorem plains_rel {S : Stab} : ∀ {l : List D} {vs : List Value}, plainVs l = some vs → RelL S l vs
  | [], vs, h => by simp only [plainVs, Option.some.injEq] at h; subst h; exact .nil
  | x :: l, vs, h => by
    simp only [plainVs] at h
    split at h
    · rename_i v r hv hr; obtain rfl := Option.some.inj h; exact .cons (plain_rel hv) (plains_rel hr)
    · cases h
end

mutual
theorem rel_plain {S : Stab} : ∀ {x : D} {v u : Value}, plainV x = some v → Rel S x u → u = v
  | .sc _, v, u, h, hr => by simp only [plainV, Option.some.injEq] at h; rw [rel_sc hr, h]
  | .agg l, v, u, h, hr => by
    simp only [plainV] at h
    split at h
    · rename_i vs hv; obtain rfl := Option.some.inj h; cases hr with | agg hl => rw [rels_plain hv hl]
    · cases h
  | .tup l, v, u, h, hr => by
    simp only [plainV] at h
    split at h
    · rename_i vs hv; obtain rfl := Option.some.inj h; cases hr with | tup hl => rw [rels_plain hv hl]
    · cases h
  | .list _ _, v, u, h, _ => by simp [plainV] at h
  | .eptr _, v, u, h, _ => by simp [plainV] at h
  | .any, v, u, h, _ => by simp [plainV] at h
theorem rels_plain {S : Stab} : ∀ {l : List D} {vs us : List Value}, plainVs l = some vs → RelL S l us → us = vs
  | [], vs, us, h, hr => by simp only [plainVs, Option.some.injEq] at h; cases hr; exact h
  | x :: l, vs, us, h, hr => by
    simp only [plainVs] at h
    split at h
    · rename_i v r hv hr'
      obtain rfl := Option.some.inj h
      cases hr with
      | cons h1 h2 => rw [rel_plain hv h1, rels_plain hr' h2]
    · cases h
end

/-- A contract over plain values. -/
theorem lift {P : Program} {Γ : World → Prop} {f : FuncId} {args : List D} {r : D} {vs : List Value} {u : Value} (ha : plainVs args = some vs) (hr : plainV r = some u)
    (h : ∀ w, Γ w → Calls P f ⟨vs⟩ w fun e w' => e = .returned u ∧ Below w.heap.size w w') : CallsP P Γ f args r := by
  intro S w us hg hS hus
  obtain rfl := rels_plain ha hus
  refine (h w hg).mono ?_
  rintro e w' ⟨he, hb⟩
  exact ⟨u, S, he, plain_rel hr, Stab.le.refl _, hb, fun _ _ _ q => .inl q⟩

/-- And back: what a law's row asks. -/
theorem CallsP.calls {P : Program} {Γ : World → Prop} {f : FuncId} {args : List D} {r : D} {vs : List Value} {u : Value} (h : CallsP P Γ f args r) (ha : plainVs args = some vs) (hr : plainV r = some u) (w : World) (hg : Γ w) :
    Calls P f ⟨vs⟩ w fun e w' => e = .returned u ∧ Below w.heap.size w w' := by
  refine (h (fun _ _ => none) w vs hg (fun _ _ _ q => by cases q) (plains_rel ha)).mono ?_
  rintro e w' ⟨u', S', rfl, hrel, _, hb, _⟩
  rw [rel_plain hr hrel]
  exact ⟨rfl, hb⟩

theorem gs_true : GS fun _ => True := fun _ _ _ _ => trivial

end Go.Ab


namespace Go.Ab
open Go Go.RowKit
set_option linter.unusedVariables false
set_option linter.unusedSimpArgs false
variable {P : Program} {E : Env} {st : St} {d : Nat} {ty : TypeId} {pos : String} {af : Array Edge} {g : Option (Nat × Bool)} {x y : Operand}

/-- Is the type there, and no interface's? -/
def nif (P : Program) (t : TypeId) : Bool :=
  match P.underlying t with
  | some (.interface _) => false
  | some _ => true
  | none => false

theorem f_mkIface {t : TypeId} {u : Value} (hx : ev st x = some (.d (.sc u))) (ht : nif P t = true) (hd : d < E.N) :
    FOk P E ⟨some d, .makeInterface t x, ty, pos, af, g⟩ st (evL x) [] [(.slot d, some (.d (.sc (.iface t u))))] :=
  fok_val rfl hd fun st' G a w hL hs => by
    have e1 := hs.sc ((ev_same hL fun l h => h).trans hx)
    refine ⟨_, ?_, .sc _⟩
    unfold nif at ht
    split at ht
    · cases ht
    · rename_i u hu hne
      simp only [execOp, e1, Instr.makeInterface, Sem.run_bind, run_underlying hne, Result.andThen_ok]
      cases u <;> first | rfl | (exact absurd rfl (hu _))
    · cases ht

/-- A string's bytes. -/
def bytesL (s : ByteArray) : List D := s.data.toList.map fun b => .sc (.int .u8 b.toNat)
theorem bytesL_length (s : ByteArray) : (bytesL s).length = s.size := by simp [bytesL]

theorem f_bytes {src dst e : TypeId} {s : ByteArray} (hx : ev st x = some (.d (.sc (.string s)))) (hs : (P.underlying src).isSome = true) (ht : P.underlying dst = some (.slice e)) (he : P.underlying e = some (.int .u8)) (hd : d < E.N) :
    FOk P E ⟨some d, .convert src dst x, ty, pos, af, g⟩ st (evL x) [] [(.slot d, some (.d (.list 1 (bytesL s))))] :=
  fok_later rfl hd fun st' G a w hL hsim => by
    have e1 := hsim.sc ((ev_same hL fun l h => h).trans hx)
    obtain ⟨u, hu⟩ := Option.isSome_iff_exists.mp hs
    have hr := Lib.run_convert_string_bytes (P := P) w src dst e s hu ht he
    have hcap : s.size ≤ grownCap w s.size 0 e := grownCap_ge _ _ _ _
    let cs : Array Value := ⟨s.data.toList.map fun b => Value.int .u8 b.toNat⟩
    have hcs : ∀ (o : Nat) (v : Value), (Stab.row G.S w.heap.size s.size cs) w.heap.size o = some v → (Lib.bytesWorld w e s).cell? ⟨w.heap.size, o, none⟩ = some v := by
      intro o v hv
      simp only [Stab.row, if_true] at hv
      split at hv
      · rename_i ho
        rw [Lib.bytesWorld_cell w e s o ho, ← hv]
        have ho' : o < s.data.size := ho
        simp only [cs, List.getElem?_toArray, List.getElem?_map, List.getD, Array.getElem?_toList, Array.getElem?_eq_getElem ho', Option.map_some, Option.getD_some]
      · cases hv
    refine ⟨_, _, Stab.row G.S w.heap.size s.size cs, by simp only [execOp, e1, Sem.run_bind, hr]; rfl, Lib.bytesWorld_below _ _ _, hsim.row_le _ _, fun b o v hv => ?_, ?_⟩
    · by_cases hb : b = w.heap.size
      · subst hb; exact .inr ⟨Nat.le_refl _, hcs o v hv⟩
      · left; simpa [Stab.row, hb] using hv
    · show Rel _ (.list 1 (bytesL s)) _
      rw [show s.size = (bytesL s).length from (bytesL_length s).symm]
      refine .list (by rw [bytesL_length]; exact hcap) (relE_of (fun q hq => ?_) ?_)
      · obtain ⟨b, _, rfl⟩ := List.mem_map.mp hq; rfl
      · have hf : flat (bytesL s) = bytesL s := by
          unfold flat bytesL
          induction s.data.toList with
          | nil => rfl
          | cons c l ih => simp only [List.map_cons, List.flatMap_cons, ih]; rfl
        rw [hf]
        have hrel : RelL G.S (bytesL s) cs.toList := by
          show RelL G.S (s.data.toList.map _) (s.data.toList.map _)
          induction s.data.toList with
          | nil => exact .nil
          | cons c l ih => exact .cons (.sc _) ih
        refine relP_of (us := cs.toList) (RelL.mono (hsim.row_le _ _) hrel) fun k u hk => ?_
        have hk' : k < s.size := by
          have h := (List.getElem?_eq_some_iff.mp hk).1
          simpa [cs] using h
        simp only [Nat.zero_add, Stab.row, if_true]
        rw [if_pos (by rw [bytesL_length]; exact hk')]
        simpa using hk

/-- An interface value held against the literal nil. -/
theorem f_ifNe {t yt : TypeId} {s : TypeId} {c : Value} (hx : ev st x = some (.d (.sc (.iface s c)))) (ht : P.isIface t = true) (hd : d < E.N) :
    FOk P E ⟨some d, .binOp .neq t x (.const .nilIface) yt, ty, pos, af, g⟩ st (evL x) [] [(.slot d, some (.d (.sc (.bool true))))] :=
  fok_val rfl hd fun st' G a w hL hs => by
    have e1 := hs.sc ((ev_same hL fun l h => h).trans hx)
    refine ⟨_, ?_, .sc _⟩
    have e2 : a.eval (.const .nilIface) = .nilIface := rfl
    have e3 : (eqGuard .neq t x (.const .nilIface) (.iface s c) .nilIface).run P w = .ok () w := rfl
    simp only [execOp, e1, e2, Sem.run_bind, e3, Result.andThen_ok, run_neq_iface_nil w t ht]
    rfl
theorem f_ifNe0 {t yt : TypeId} (hx : ev st x = some (.d (.sc .nilIface))) (ht : P.isIface t = true) (hd : d < E.N) :
    FOk P E ⟨some d, .binOp .neq t x (.const .nilIface) yt, ty, pos, af, g⟩ st (evL x) [] [(.slot d, some (.d (.sc (.bool false))))] :=
  fok_val rfl hd fun st' G a w hL hs => by
    have e1 := hs.sc ((ev_same hL fun l h => h).trans hx)
    refine ⟨_, ?_, .sc _⟩
    have e2 : a.eval (.const .nilIface) = .nilIface := rfl
    have e3 : (eqGuard .neq t x (.const .nilIface) .nilIface .nilIface).run P w = .ok () w := by cases x <;> rfl
    simp only [execOp, e1, e2, Sem.run_bind, e3, Result.andThen_ok, run_neq_nil_nil_at w t ht]
    rfl
/-- What comes behind a loop, shown once: what an exit of the loop asks. -/
theorem hits_via {X : Type} {c : Code} {Q : Exit → Act → World → Prop} (I : X → St) (J : X → Prop) (b : Nat) (h : (∀ x, J x → Hits E (I x) (Q (.exit b))) → Hits E st ((Code.loop c).wp P Q)) (h' : ∀ x, J x → Hits E (I x) (Q (.exit b))) : Hits E st ((Code.loop c).wp P Q) := h h'
theorem hits_out {X : Type} {I : X → St} {J : X → Prop} {K : Act → World → Prop} (h : ∀ x, J x → Hits E (I x) K) (x : X) (hJ : J x) (hk : (I x).kept st) (hb : (I x).boxed = true) : Hits E st K := fun G a w s => h x hJ G a w (s.keep hk hb)
end Go.Ab

