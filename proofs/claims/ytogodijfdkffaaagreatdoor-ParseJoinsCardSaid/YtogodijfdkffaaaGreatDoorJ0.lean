/- Parts of the walk, joined. -/
import Derived.WalkKit
import Derived.Laws.CopyRow
import Derived.ChangeKeysEq
import Derived.Laws.Cells
set_option linter.unusedVariables false
set_option linter.unusedSimpArgs false
set_option maxRecDepth 100000
/- What a walk knows of a frame and of memory, without addresses: values, their relation to the model's values, and the one relation that a walk carries. No program. -/
namespace Go.Ab
open Go Go.RowKit
abbrev Stab := Nat → Nat → Option Value
inductive D where
  | sc (v : Value)
  | agg (l : List D)
  | tup (l : List D)
  | list (es : Nat) (l : List D)
  | eptr (l : List D)
  | any
  | ifc (t : TypeId) (d : D)
  | room (es : Nat) (l m : List D)
  | clo (f : FuncId) (l : List D)
  deriving Inhabited
def D.cells : D → List D
  | .agg l => l
  | .sc v => [.sc v]
  | .tup l => [.tup l]
  | .list es l => [.list es l]
  | .eptr l => [.eptr l]
  | .any => [.any]
  | .ifc t d => [.ifc t d]
  | .room es l m => [.room es l m]
  | .clo f l => [.clo f l]
mutual
inductive Rel (S : Stab) : D → Value → Prop
  | sc (v : Value) : Rel S (.sc v) v
  | agg {l : List D} {cs : List Value} : RelL S l cs → Rel S (.agg l) (.agg ⟨cs⟩)
  | tup {l : List D} {cs : List Value} : RelL S l cs → Rel S (.tup l) (.tuple ⟨cs⟩)
  | list {es : Nat} {l : List D} {b o cap : Nat} : l.length ≤ cap → RelE S es l b o → Rel S (.list es l) (.slice (some ⟨b, o, none⟩) l.length cap)
  | lnil {es : Nat} : Rel S (.list es []) (.slice none 0 0)
  | eptr {l : List D} {b o : Nat} : RelP S l b o → Rel S (.eptr l) (.pointer (some ⟨b, o, none⟩))
  | any {v : Value} : v.oneCell' = true → Rel S .any v
  | ifc {t : TypeId} {d : D} {v : Value} : Rel S d v → Rel S (.ifc t d) (.iface t v)
  | room {es : Nat} {l m : List D} {b o cap : Nat} : l.length + m.length ≤ cap → RelE S es (l ++ m) b o → Rel S (.room es l m) (.slice (some ⟨b, o, none⟩) l.length cap)
  | clo {f : FuncId} {l : List D} {cs : List Value} : RelL S l cs → Rel S (.clo f l) (.func (.func f) #[] ⟨cs⟩)
inductive RelL (S : Stab) : List D → List Value → Prop
  | nil : RelL S [] []
  | cons {d : D} {v : Value} {l : List D} {vs : List Value} : Rel S d v → RelL S l vs → RelL S (d :: l) (v :: vs)
/-- Elements of so many cells each, one behind the other from a place on. -/
inductive RelE (S : Stab) : Nat → List D → Nat → Nat → Prop
  | nil {es b o : Nat} : RelE S es [] b o
  | cons {es : Nat} {d : D} {l : List D} {b o : Nat} : d.cells.length = es → RelP S d.cells b o → RelE S es l b (o + es) → RelE S es (d :: l) b o
/-- Cells, one behind the other. -/
inductive RelP (S : Stab) : List D → Nat → Nat → Prop
  | nil {b o : Nat} : RelP S [] b o
  | cons {d : D} {v : Value} {l : List D} {b o : Nat} : S b o = some v → Rel S d v → RelP S l b (o + 1) → RelP S (d :: l) b o
end
def Stab.le (S S' : Stab) : Prop := ∀ b o v, S b o = some v → S' b o = some v
theorem Stab.le.refl (S : Stab) : S.le S := fun _ _ _ h => h
theorem Stab.le.trans {S S' S'' : Stab} (h : S.le S') (h' : S'.le S'') : S.le S'' := fun b o v e => h' b o v (h b o v e)
mutual
theorem Rel.mono {S S' : Stab} (h : S.le S') : {d : D} → {v : Value} → Rel S d v → Rel S' d v
  | _, _, .sc v => .sc v
  | _, _, .agg hl => .agg (RelL.mono h hl)
  | _, _, .tup hl => .tup (RelL.mono h hl)
  | _, _, .list hc he => .list hc (RelE.mono h he)
  | _, _, .lnil => .lnil
  | _, _, .eptr hp => .eptr (RelP.mono h hp)
  | _, _, .any hc => .any hc
  | _, _, .ifc hd => .ifc (Rel.mono h hd)
  | _, _, .room hc he => .room hc (RelE.mono h he)
  | _, _, .clo hl => .clo (RelL.mono h hl)
theorem RelL.mono {S S' : Stab} (h : S.le S') : {l : List D} → {vs : List Value} → RelL S l vs → RelL S' l vs
  | _, _, .nil => .nil
  | _, _, .cons hd hl => .cons (Rel.mono h hd) (RelL.mono h hl)
theorem RelE.mono {S S' : Stab} (h : S.le S') : {es : Nat} → {l : List D} → {b o : Nat} → RelE S es l b o → RelE S' es l b o
  | _, _, _, _, .nil => .nil
  | _, _, _, _, .cons hn hp hl => .cons hn (RelP.mono h hp) (RelE.mono h hl)
theorem RelP.mono {S S' : Stab} (h : S.le S') : {l : List D} → {b o : Nat} → RelP S l b o → RelP S' l b o
  | _, _, _, .nil => .nil
  | _, _, _, .cons hs hd hl => .cons (h _ _ _ hs) (Rel.mono h hd) (RelP.mono h hl)
end
inductive V where
  | d (x : D)
  | ptr (id off : Nat)
  | mapp (id : Nat)
  | fn (f : FuncId) (ids : List Nat)
  | own (id es : Nat) (l : List D)
  | mo (id es n : Nat)
  | mptr (id n off : Nat)
  | agg (l : List V)
  | tup (l : List V)
  | cont (l : List V)
  | contD (l : List D)
  deriving Inhabited
def V.contL : V → Option (List V)
  | .cont l => some l
  | .contD l => some (l.map .d)
  | _ => none
structure Gh where
  S : Stab
  μ : Nat → Nat
  tb : Nat → Nat
  tk : Nat → Bool
  te : Nat → Nat
  tz : Nat → Nat
mutual
def RelV (G : Gh) : V → Value → Prop
  | .d x, u => Rel G.S x u
  | .ptr id off, u => u = .pointer (some ⟨G.μ id, off, none⟩)
  | .mapp id, u => u = .map (some (G.μ id))
  | .fn f ids, u => u = .func (.func f) #[] ((ids.map fun i => Value.pointer (some ⟨G.μ i, 0, none⟩)).toArray)
  | .own id es l, u => (G.tk id = false ∧ l = [] ∧ u = .slice none 0 0) ∨
      (G.tk id = true ∧ ∃ o cap, u = .slice (some ⟨G.tb id, o, none⟩) l.length cap ∧ l.length ≤ cap ∧ RelE G.S es l (G.tb id) o ∧ G.te id = o + l.length * es ∧ G.tz id = o + cap * es)
  | .mo id es n, u => (G.tk id = false ∧ n = 0 ∧ u = .slice none 0 0) ∨
      (G.tk id = true ∧ ∃ o cap, u = .slice (some ⟨G.tb id, o, none⟩) n cap ∧ n ≤ cap ∧ G.te id = o + n * es ∧ G.tz id = o + cap * es)
  | .mptr id n off, u => G.tk id = true ∧ ∃ o, u = .pointer (some ⟨G.tb id, o + off, none⟩) ∧ G.te id = o + n
  | .agg l, u => ∃ cs : List Value, u = .agg ⟨cs⟩ ∧ RelVL G l cs
  | .tup l, u => ∃ cs : List Value, u = .tuple ⟨cs⟩ ∧ RelVL G l cs
  | .cont _, _ => False
  | .contD _, _ => False
def RelVL (G : Gh) : List V → List Value → Prop
  | [], us => us = []
  | v :: vs, us => ∃ u r, us = u :: r ∧ RelV G v u ∧ RelVL G vs r
end
mutual
/-- Does a value leave a variable's number alone? -/
def V.free (id : Nat) : V → Bool
  | .d _ => true
  | .ptr i _ => !(i == id)
  | .mapp i => !(i == id)
  | .fn _ ids => ids.all fun i => !(i == id)
  | .own i _ _ => !(i == id)
  | .mo i _ _ => !(i == id)
  | .mptr i _ _ => !(i == id)
  | .agg l => V.frees id l
  | .tup l => V.frees id l
  | .cont l => V.frees id l
  | .contD _ => true
def V.frees (id : Nat) : List V → Bool
  | [] => true
  | v :: l => v.free id && V.frees id l
end
theorem frees_d (id : Nat) : ∀ l : List D, V.frees id (l.map .d) = true
  | [] => by simp only [List.map_nil, V.frees]
  | x :: l => by simp only [List.map_cons, V.frees, V.free, frees_d id l, Bool.and_self]
theorem free_contL {id : Nat} {v : V} {l : List V} (h : v.free id = true) (hc : v.contL = some l) : V.frees id l = true := by
  cases v with
  | cont l0 => cases hc; simpa only [V.free] using h
  | contD ds => cases hc; exact frees_d id ds
  | _ => cases hc
inductive Loc where
  | slot (t : Nat)
  | cell (id off : Nat)
  | box (id : Nat)
  | tip (id : Nat)
  | iter (id : Nat)
  | old (k : Nat)
  deriving DecidableEq, Inhabited
def Loc.eqb : Loc → Loc → Bool
  | .slot a, .slot b => a == b
  | .cell a b, .cell c d => a == c && b == d
  | .box a, .box b => a == b
  | .tip a, .tip b => a == b
  | .iter a, .iter b => a == b
  | .old a, .old b => a == b
  | _, _ => false
theorem Loc.eqb_iff (a b : Loc) : a.eqb b = true ↔ a = b := by
  cases a <;> cases b <;> simp [Loc.eqb]
abbrev St := List (Loc × Option V)
def look : St → Loc → Option V
  | [], _ => none
  | e :: r, k => match e.1.eqb k with
    | true => e.2
    | false => look r k
theorem look_cons (e : Loc × Option V) (r : St) (k : Loc) : look (e :: r) k = if e.1 = k then e.2 else look r k := by
  by_cases h : e.1 = k
  · rw [if_pos h]; simp only [look, (Loc.eqb_iff _ _).2 h]
  · rw [if_neg h]; simp only [look, show e.1.eqb k = false from by rw [Bool.eq_false_iff]; exact fun c => h ((Loc.eqb_iff _ _).1 c)]
theorem look_same (k : Loc) (v : Option V) (r : St) : look ((k, v) :: r) k = v := by rw [look_cons, if_pos rfl]
theorem look_ne {k k' : Loc} (v : Option V) (r : St) (h : k ≠ k') : look ((k, v) :: r) k' = look r k' := by rw [look_cons, if_neg h]
def St.unused (id : Nat) (st : St) : Bool :=
  st.all fun e => (match e.1 with | .box i | .cell i _ | .iter i | .tip i => !(i == id) | .slot _ | .old _ => true) && (match e.2 with | some v => v.free id | none => true)
structure KW (w0 : World) (outs : List Nat) (w : World) : Prop where
  os : w.os = w0.os
  tape : w.tape = w0.tape
  output : w.output = w0.output
  size : w0.heap.size ≤ w.heap.size
  frame : ∀ k, k < w0.heap.size → k ∉ outs → w.heap[k]? = w0.heap[k]?
structure Env where
  w0 : World
  outs : List Nat
  fix : List (Nat × Nat)
  S0 : Stab
  N : Nat
  Γ : World → Prop
  stab : ∀ w, KW w0 outs w → Γ w
  keep : Array Value
abbrev OS := ByteArray ⊕ List (ByteArray × Value)
def itD : OS → D
  | .inl s => .sc (.string s)
  | .inr es => .agg (es.map fun e => .tup [.sc (.string e.1), .sc e.2])
def itV (s : OS) (pos : Nat) : V := .d (.tup [itD s, .sc (.int .i64 (pos : Int))])
def entsOf : List (ByteArray × Value) → Nat → List MapEntry
  | [], _ => []
  | e :: r, i => { key := .string e.1, val := e.2, born := i } :: entsOf r (i + 1)
def itO : OS → Nat → Obj
  | .inl s, p => .stringIter s p
  | .inr es, n => .map (entsOf es 0).toArray n
theorem itO_ne {s : OS} {n : Nat} {c : Array Value} {t : TypeId} {f : Nat × Nat} (h : some (itO s n) = some (.cells c t f)) : False := by cases s <;> cases h
theorem itV_str {sx : ByteArray} {p q : Nat} {s : OS} (h : itV (.inl sx) p = itV s q) : s = .inl sx ∧ p = q := by
  cases s with
  | inl s =>
    simp only [itV, itD, V.d.injEq, D.tup.injEq, List.cons.injEq, D.sc.injEq, Value.string.injEq, Value.int.injEq] at h
    exact ⟨by rw [h.1], by omega⟩
  | inr es => simp [itV, itD] at h
theorem itV_map {es : List (ByteArray × Value)} {p q : Nat} {s : OS} (h : itV (.inr es) p = itV s q) : s = .inr es ∧ p = q := by
  cases s with
  | inl s => simp [itV, itD] at h
  | inr fs =>
    simp only [itV, itD, V.d.injEq, D.tup.injEq, List.cons.injEq, D.sc.injEq, D.agg.injEq, Value.int.injEq] at h
    refine ⟨?_, by omega⟩
    have h1 := h.1
    have key : ∀ (a b : List (ByteArray × Value)), a.map (fun e => D.tup [.sc (.string e.1), .sc e.2]) = b.map (fun e => D.tup [.sc (.string e.1), .sc e.2]) → a = b := by
      intro a
      induction a with
      | nil => intro b hb; cases b with
        | nil => rfl
        | cons y b => simp at hb
      | cons x a ih => intro b hb; cases b with
        | nil => simp at hb
        | cons y b =>
          simp only [List.map_cons, List.cons.injEq, D.tup.injEq, D.sc.injEq, Value.string.injEq, and_true] at hb
          obtain ⟨⟨e1, e2⟩, e3⟩ := hb
          rw [ih b e3, show x = y from Prod.ext e1 e2]
    rw [key _ _ h1]
structure Sim (E : Env) (st : St) (G : Gh) (a : Act) (w : World) : Prop where
  kw : KW E.w0 E.outs w
  s0 : E.S0.le G.S
  snew : ∀ b o v, G.S b o = some v → E.S0 b o = some v ∨ E.w0.heap.size ≤ b ∨ b ∈ E.outs
  tmps : a.tmps.size = E.N
  defers : a.defers = []
  slots : ∀ t v, look st (.slot t) = some v → RelV G v (a.tmps.getD t undef)
  cells : ∀ id off v, look st (.cell id off) = some v → look st (.box id) ≠ none ∧ ∃ cs ty cv, w.heap[G.μ id]? = some (.cells cs ty (0, 0)) ∧ cs[off]? = some cv ∧ RelV G v cv
  boxes : ∀ id, look st (.box id) ≠ none → (E.w0.heap.size ≤ G.μ id ∨ G.μ id ∈ E.outs) ∧ G.μ id < w.heap.size ∧ ∀ o, G.S (G.μ id) o = none
  inj : ∀ i j, look st (.box i) ≠ none → look st (.box j) ≠ none → G.μ i = G.μ j → i = j
  stable : ∀ b o v, G.S b o = some v → w.cell? ⟨b, o, none⟩ = some v
  tips : ∀ i, look st (.tip i) ≠ none → G.tk i = true → (E.w0.heap.size ≤ G.tb i ∨ G.tb i ∈ E.outs) ∧ (∃ cs ty, w.heap[G.tb i]? = some (.cells cs ty (0, 0)) ∧ G.tz i ≤ cs.size) ∧ (∀ o, G.te i ≤ o → G.S (G.tb i) o = none) ∧ ∀ j, look st (.box j) ≠ none → G.μ j ≠ G.tb i
  tinj : ∀ i j, look st (.tip i) ≠ none → look st (.tip j) ≠ none → G.tk i = true → G.tk j = true → G.tb i = G.tb j → i = j
  rcv : ∀ p ∈ E.fix, E.N ≤ p.1 ∧ (look st (.box p.1) ≠ none → G.μ p.1 = p.2)
  conts : ∀ i q l, look st (.tip i) = some q → q.contL = some l → G.tk i = true → (∀ o, G.S (G.tb i) o = none) ∧ ∃ o us cs ty, w.heap[G.tb i]? = some (.cells cs ty (0, 0)) ∧ o + l.length = G.te i ∧ G.te i ≤ cs.size ∧ RelVL G l us ∧ ∀ k u, us[k]? = some u → cs[o + k]? = some u
  iters : ∀ i v, look st (.iter i) = some v → look st (.box i) ≠ none ∧ ∃ s pos, v = itV s pos ∧ w.heap[G.μ i]? = some (itO s pos)
  olds : ∀ k v, look st (.old k) = some v → RelV G v (E.keep.getD k undef)
variable {E : Env} {st : St} {G : Gh} {a : Act} {w : World}
theorem Sim.size (h : Sim E st G a w) : E.w0.heap.size ≤ w.heap.size := h.kw.size
theorem KW.below {w0 w w' : World} {outs : List Nat} (h : KW w0 outs w) (hb : Below w.heap.size w w') : KW w0 outs w' :=
  ⟨hb.os.trans h.os, hb.tape.trans h.tape, hb.output.trans h.output, Nat.le_trans h.size hb.size, fun k hk ho => (hb.block k (Nat.lt_of_lt_of_le hk h.size)).trans (h.frame k hk ho)⟩
theorem lt_of_block {w : World} {b : Nat} {o : Obj} (h : w.heap[b]? = some o) : b < w.heap.size := by
  rcases Nat.lt_or_ge b w.heap.size with h' | h'
  · exact h'
  · rw [Array.getElem?_eq_none h'] at h; cases h
theorem block_of_cell {w : World} {b o : Nat} {v : Value} (h : w.cell? ⟨b, o, none⟩ = some v) : ∃ cs ty fr, w.heap[b]? = some (.cells cs ty fr) ∧ cs[o]? = some v := by
  unfold World.cell? at h
  split at h
  · rename_i c t f e
    exact ⟨c, t, f, e, by simpa using h⟩
  · cases h
theorem cell_of_block {w : World} {b o : Nat} {cs : Array Value} {ty : TypeId} {fr : Nat × Nat} (h : w.heap[b]? = some (.cells cs ty fr)) : w.cell? ⟨b, o, none⟩ = cs[o]? := by
  unfold World.cell?
  simp only [h]
  rfl
theorem lt_of_cell {w : World} {b o : Nat} {v : Value} (h : w.cell? ⟨b, o, none⟩ = some v) : b < w.heap.size := by
  obtain ⟨cs, ty, fr, e, _⟩ := block_of_cell h
  exact lt_of_block e
structure Gh.ext (G G' : Gh) (id : Nat) : Prop where
  S : G.S.le G'.S
  μ : ∀ i, i ≠ id → G'.μ i = G.μ i
  tb : G'.tb = G.tb
  tk : G'.tk = G.tk
  te : G'.te = G.te
  tz : G'.tz = G.tz
mutual
theorem RelV.ext {G G' : Gh} {id : Nat} (h : G.ext G' id) : ∀ {v : V} {u : Value}, v.free id = true → RelV G v u → RelV G' v u
  | .d x, _, _, hr => by simp only [RelV] at *; exact Rel.mono h.S hr
  | .ptr i off, _, hf, hr => by
    have hi : i ≠ id := by simpa [V.free] using hf
    simp only [RelV] at *
    rw [h.μ i hi]; exact hr
  | .mapp i, _, hf, hr => by
    have hi : i ≠ id := by simpa [V.free] using hf
    simp only [RelV] at *
    rw [h.μ i hi]; exact hr
  | .fn f ids, _, hf, hr => by
    simp only [RelV] at *
    rw [hr]
    congr 2
    apply List.map_congr_left
    intro i hi
    have : i ≠ id := by
      simp only [V.free] at hf
      have := List.all_eq_true.1 hf i hi
      simpa using this
    rw [h.μ i this]
  | .own i es l, _, _, hr => by
    simp only [RelV] at *
    rw [h.tb, h.tk, h.te, h.tz]
    rcases hr with hr | ⟨h1, o, cap, h2, h3, h4, h5⟩
    · exact .inl hr
    · exact .inr ⟨h1, o, cap, h2, h3, RelE.mono h.S h4, h5⟩
  | .mo i es n, _, _, hr => by
    simp only [RelV] at *
    rw [h.tb, h.tk, h.te, h.tz]; exact hr
  | .mptr i n off, _, _, hr => by
    simp only [RelV] at *
    rw [h.tb, h.tk, h.te]; exact hr
  | .agg l, _, hf, hr => by
    simp only [RelV, V.free] at *
    obtain ⟨cs, h1, h2⟩ := hr
    exact ⟨cs, h1, RelVL.ext h hf h2⟩
  | .tup l, _, hf, hr => by
    simp only [RelV, V.free] at *
    obtain ⟨cs, h1, h2⟩ := hr
    exact ⟨cs, h1, RelVL.ext h hf h2⟩
  | .cont l, _, _, hr => by simp only [RelV] at hr
  | .contD l, _, _, hr => by simp only [RelV] at hr
theorem RelVL.ext {G G' : Gh} {id : Nat} (h : G.ext G' id) : ∀ {l : List V} {us : List Value}, V.frees id l = true → RelVL G l us → RelVL G' l us
  | [], _, _, hr => by simp only [RelVL] at *; exact hr
  | v :: l, _, hf, hr => by
    simp only [RelVL, V.frees, Bool.and_eq_true] at *
    obtain ⟨u, r, h1, h2, h3⟩ := hr
    exact ⟨u, r, h1, RelV.ext h hf.1 h2, RelVL.ext h hf.2 h3⟩
end
mutual
theorem RelV.monoS {G : Gh} {S' : Stab} (h : G.S.le S') : ∀ {v : V} {u : Value}, RelV G v u → RelV { G with S := S' } v u
  | .d x, _, hr => by simp only [RelV] at *; exact Rel.mono h hr
  | .ptr i off, _, hr => by simp only [RelV] at *; exact hr
  | .mapp i, _, hr => by simp only [RelV] at *; exact hr
  | .fn f ids, _, hr => by simp only [RelV] at *; exact hr
  | .own i es l, _, hr => by
    simp only [RelV] at *
    rcases hr with hr | ⟨h1, o, cap, h2, h3, h4, h5⟩
    · exact .inl hr
    · exact .inr ⟨h1, o, cap, h2, h3, RelE.mono h h4, h5⟩
  | .mo i es n, _, hr => by simp only [RelV] at *; exact hr
  | .mptr i n off, _, hr => by simp only [RelV] at *; exact hr
  | .agg l, _, hr => by
    simp only [RelV] at *
    obtain ⟨cs, h1, h2⟩ := hr
    exact ⟨cs, h1, RelVL.monoS h h2⟩
  | .tup l, _, hr => by
    simp only [RelV] at *
    obtain ⟨cs, h1, h2⟩ := hr
    exact ⟨cs, h1, RelVL.monoS h h2⟩
  | .cont l, _, hr => by simp only [RelV] at hr
  | .contD l, _, hr => by simp only [RelV] at hr
theorem RelVL.monoS {G : Gh} {S' : Stab} (h : G.S.le S') : ∀ {l : List V} {us : List Value}, RelVL G l us → RelVL { G with S := S' } l us
  | [], _, hr => by simp only [RelVL] at *; exact hr
  | v :: l, _, hr => by
    simp only [RelVL] at *
    obtain ⟨u, r, h1, h2, h3⟩ := hr
    exact ⟨u, r, h1, RelV.monoS h h2, RelVL.monoS h h3⟩
end
theorem unused_slot {st : St} {id t : Nat} {v : V} (h : st.unused id = true) (hl : look st (.slot t) = some v) : v.free id = true := by
  induction st with
  | nil => cases hl
  | cons e r ih =>
    simp only [St.unused, List.all_cons, Bool.and_eq_true] at h
    rw [look_cons] at hl
    split at hl
    · rw [hl] at h; exact h.1.2
    · exact ih h.2 hl
theorem unused_cell {st : St} {id i off : Nat} {v : V} (h : st.unused id = true) (hl : look st (.cell i off) = some v) : v.free id = true ∧ i ≠ id := by
  induction st with
  | nil => cases hl
  | cons e r ih =>
    simp only [St.unused, List.all_cons, Bool.and_eq_true] at h
    rw [look_cons] at hl
    split at hl
    · rename_i he
      rw [hl] at h
      rw [he] at h
      exact ⟨h.1.2, by simpa using h.1.1⟩
    · exact ih h.2 hl
theorem unused_old {st : St} {id i : Nat} {v : V} (h : st.unused id = true) (hl : look st (.old i) = some v) : v.free id = true := by
  induction st with
  | nil => cases hl
  | cons e r ih =>
    simp only [St.unused, List.all_cons, Bool.and_eq_true] at h
    rw [look_cons] at hl
    split at hl
    · rw [hl] at h; exact h.1.2
    · exact ih h.2 hl
theorem unused_tip {st : St} {id i : Nat} {v : V} (h : st.unused id = true) (hl : look st (.tip i) = some v) : v.free id = true := by
  induction st with
  | nil => cases hl
  | cons e r ih =>
    simp only [St.unused, List.all_cons, Bool.and_eq_true] at h
    rw [look_cons] at hl
    split at hl
    · rw [hl] at h; exact h.1.2
    · exact ih h.2 hl
theorem unused_iter {st : St} {id i : Nat} {v : V} (h : st.unused id = true) (hl : look st (.iter i) = some v) : i ≠ id := by
  induction st with
  | nil => cases hl
  | cons e r ih =>
    simp only [St.unused, List.all_cons, Bool.and_eq_true] at h
    rw [look_cons] at hl
    split at hl
    · rename_i he
      rw [he] at h
      simpa using h.1.1
    · exact ih h.2 hl
def St.kept : St → St → Prop
  | [], _ => True
  | e :: r, st => look st e.1 = e.2 ∧ St.kept r st
def St.boxed (st : St) : Bool := st.all fun e => match e with
  | (.cell i _, some _) => (look st (.box i)).isSome
  | (.iter i, some _) => (look st (.box i)).isSome
  | _ => true
theorem kept_look {st' st : St} (h : st'.kept st) {k : Loc} {v : V} (hl : look st' k = some v) : look st k = some v := by
  induction st' with
  | nil => cases hl
  | cons e r ih =>
    rw [look_cons] at hl
    split at hl
    · rename_i he; rw [← he, ← hl]; exact h.1
    · exact ih h.2 hl
theorem boxed_look_aux {st r : St} (h : (r.all fun e => match e with | (.cell i _, some _) => (look st (.box i)).isSome | (.iter i, some _) => (look st (.box i)).isSome | _ => true) = true) {i off : Nat} {v : V} (hl : look r (.cell i off) = some v) :
    look st (.box i) ≠ none := by
  induction r with
  | nil => cases hl
  | cons e r ih =>
    simp only [List.all_cons, Bool.and_eq_true] at h
    rw [look_cons] at hl
    split at hl
    · rename_i he
      obtain ⟨k, x⟩ := e
      simp only at he hl
      subst he hl
      intro hn
      simp [hn] at h
    · exact ih h.2 hl
theorem boxed_look_iter {st r : St} (h : (r.all fun e => match e with | (.cell i _, some _) => (look st (.box i)).isSome | (.iter i, some _) => (look st (.box i)).isSome | _ => true) = true) {i : Nat} {v : V} (hl : look r (.iter i) = some v) :
    look st (.box i) ≠ none := by
  induction r with
  | nil => cases hl
  | cons e r ih =>
    simp only [List.all_cons, Bool.and_eq_true] at h
    rw [look_cons] at hl
    split at hl
    · rename_i he
      obtain ⟨k, x⟩ := e
      simp only at he hl
      subst he hl
      intro hn
      simp [hn] at h
    · exact ih h.2 hl
theorem Sim.keep {st' : St} (h : Sim E st G a w) (hk : st'.kept st) (hb : st'.boxed = true) : Sim E st' G a w := by
  have ne : ∀ {k}, look st' k ≠ none → look st k ≠ none := fun {k} hn => by
    cases hv : look st' k with
    | none => exact absurd hv hn
    | some v => rw [kept_look hk hv]; simp
  refine ⟨h.kw, h.s0, h.snew, h.tmps, h.defers, fun t v hl => h.slots t v (kept_look hk hl), fun i o v hl => ⟨boxed_look_aux hb hl, (h.cells i o v (kept_look hk hl)).2⟩,
    fun i hi => h.boxes i (ne hi), fun i j hi hj => h.inj i j (ne hi) (ne hj), h.stable, fun i hi ht => ?_, fun i j hi hj => h.tinj i j (ne hi) (ne hj), fun p hp => ⟨(h.rcv p hp).1, fun hi => (h.rcv p hp).2 (ne hi)⟩, fun i qv l hl hcl ht => h.conts i qv l (kept_look hk hl) hcl ht, fun i v hl => ⟨boxed_look_iter hb hl, (h.iters i v (kept_look hk hl)).2⟩, fun k v hl => h.olds k v (kept_look hk hl)⟩
  obtain ⟨h1, h2, h3, h4⟩ := h.tips i (ne hi) ht
  exact ⟨h1, h2, h3, fun j hj => h4 j (ne hj)⟩
theorem getD_set_same (l : Array Value) (d : Nat) (v u : Value) (h : d < l.size) : (l.setIfInBounds d v).getD d u = v := by
  simp [Array.getD, h]
theorem getD_set_other (l : Array Value) {d t : Nat} (v u : Value) (h : d ≠ t) : (l.setIfInBounds d v).getD t u = l.getD t u := by
  simp [Array.getElem?_setIfInBounds_ne h]
theorem Sim.put {d : Nat} {v : V} {u : Value} (h : Sim E st G a w) (hd : d < E.N) (hv : RelV G v u) : Sim E ((.slot d, some v) :: st) G (a.put (some d) u) w := by
  have e1 : ∀ i, look ((Loc.slot d, some v) :: st) (.box i) = look st (.box i) := fun i => look_ne _ _ (by simp)
  have e2 : ∀ i, look ((Loc.slot d, some v) :: st) (.tip i) = look st (.tip i) := fun i => look_ne _ _ (by simp)
  have e3 : ∀ i o, look ((Loc.slot d, some v) :: st) (.cell i o) = look st (.cell i o) := fun i o => look_ne _ _ (by simp)
  refine ⟨h.kw, h.s0, h.snew, by simp [Act.put, h.tmps], h.defers, fun t x hl => ?_, fun i o x hl => ?_, fun i hi => ?_, fun i j hi hj => ?_, h.stable, fun i hi ht => ?_, fun i j hi hj => ?_, fun p hp => ⟨(h.rcv p hp).1, fun hi => (h.rcv p hp).2 (by rw [e1] at hi; exact hi)⟩, fun i qv l hl hcl ht => h.conts i qv l (by rw [e2] at hl; exact hl) hcl ht, fun i v hl => by rw [look_ne _ _ (by simp)] at hl; rw [e1]; exact h.iters i v hl, fun k v hl => h.olds k v (by rw [look_ne _ _ (by simp)] at hl; exact hl)⟩
  · rw [look_cons] at hl
    split at hl
    · rename_i he
      obtain rfl : d = t := by simpa using he
      obtain rfl := Option.some.inj hl
      show RelV G v ((a.tmps.setIfInBounds d u).getD d undef)
      rw [getD_set_same _ _ _ _ (by rw [h.tmps]; exact hd)]
      exact hv
    · rename_i he
      have he' : d ≠ t := fun c => he (by rw [c])
      show RelV G x ((a.tmps.setIfInBounds d u).getD t undef)
      rw [getD_set_other _ _ _ he']
      exact h.slots t x hl
  · rw [e3] at hl; rw [e1]; exact h.cells i o x hl
  · rw [e1] at hi; exact h.boxes i hi
  · rw [e1] at hi hj; exact h.inj i j hi hj
  · rw [e2] at hi
    obtain ⟨h1, h2, h3, h4⟩ := h.tips i hi ht
    exact ⟨h1, h2, h3, fun j hj => h4 j (by rw [e1] at hj; exact hj)⟩
  · rw [e2] at hi hj; exact h.tinj i j hi hj
theorem Sim.lose {d : Nat} {u : Value} (h : Sim E st G a w) : Sim E ((.slot d, none) :: st) G (a.put (some d) u) w := by
  have e1 : ∀ i, look ((Loc.slot d, none) :: st) (.box i) = look st (.box i) := fun i => look_ne _ _ (by simp)
  have e2 : ∀ i, look ((Loc.slot d, none) :: st) (.tip i) = look st (.tip i) := fun i => look_ne _ _ (by simp)
  have e3 : ∀ i o, look ((Loc.slot d, none) :: st) (.cell i o) = look st (.cell i o) := fun i o => look_ne _ _ (by simp)
  refine ⟨h.kw, h.s0, h.snew, by simp [Act.put, h.tmps], h.defers, fun t x hl => ?_, fun i o x hl => ?_, fun i hi => ?_, fun i j hi hj => ?_, h.stable, fun i hi ht => ?_, fun i j hi hj => ?_, fun p hp => ⟨(h.rcv p hp).1, fun hi => (h.rcv p hp).2 (by rw [e1] at hi; exact hi)⟩, fun i qv l hl hcl ht => h.conts i qv l (by rw [e2] at hl; exact hl) hcl ht, fun i v hl => by rw [look_ne _ _ (by simp)] at hl; rw [e1]; exact h.iters i v hl, fun k v hl => h.olds k v (by rw [look_ne _ _ (by simp)] at hl; exact hl)⟩
  · rw [look_cons] at hl
    split at hl
    · cases hl
    · rename_i he
      have he' : d ≠ t := fun c => he (by rw [c])
      show RelV G x ((a.tmps.setIfInBounds d u).getD t undef)
      rw [getD_set_other _ _ _ he']
      exact h.slots t x hl
  · rw [e3] at hl; rw [e1]; exact h.cells i o x hl
  · rw [e1] at hi; exact h.boxes i hi
  · rw [e1] at hi hj; exact h.inj i j hi hj
  · rw [e2] at hi
    obtain ⟨h1, h2, h3, h4⟩ := h.tips i hi ht
    exact ⟨h1, h2, h3, fun j hj => h4 j (by rw [e1] at hj; exact hj)⟩
  · rw [e2] at hi hj; exact h.tinj i j hi hj
theorem Sim.later {w' : World} {S' : Stab} (h : Sim E st G a w) (hb : Below w.heap.size w w') (hS : G.S.le S')
    (hnew : ∀ b o v, S' b o = some v → G.S b o = some v ∨ (w.heap.size ≤ b ∧ w'.cell? ⟨b, o, none⟩ = some v)) : Sim E st { G with S := S' } a w' := by
  have none' : ∀ {b o}, b < w.heap.size → G.S b o = none → S' b o = none := fun {b o} hlt hn => by
    cases hv : S' b o with
    | none => rfl
    | some v =>
      rcases hnew b o v hv with h1 | ⟨h1, _⟩
      · rw [hn] at h1; cases h1
      · omega
  refine ⟨h.kw.below hb, h.s0.trans hS, fun b o v hv => (hnew b o v hv).elim (h.snew b o v) (fun q => .inr (.inl (Nat.le_trans h.size q.1))), h.tmps, h.defers,
    fun t v hl => (h.slots t v hl).monoS hS, fun i o v hl => ?_, fun i hi => ?_, h.inj, fun b o v hv => ?_, fun i hi ht => ?_, h.tinj, h.rcv, fun i qv l hl hcl ht => ?_, fun i v hl => by obtain ⟨q1, s, pos, q2, q3⟩ := h.iters i v hl; exact ⟨q1, s, pos, q2, (hb.block _ (lt_of_block q3)).trans q3⟩, fun k v hl => (h.olds k v hl).monoS hS⟩
  · obtain ⟨hx, cs, ty, cv, h1, h2, h3⟩ := h.cells i o v hl
    exact ⟨hx, cs, ty, cv, (hb.block _ (lt_of_block h1)).trans h1, h2, h3.monoS hS⟩
  · obtain ⟨h1, h2, h3⟩ := h.boxes i hi
    exact ⟨h1, Nat.lt_of_lt_of_le h2 hb.size, fun o => none' h2 (h3 o)⟩
  · rcases hnew b o v hv with h1 | ⟨_, h1⟩
    · have h2 := h.stable b o v h1
      rw [← h2]
      exact hb.cell (lt_of_cell h2)
    · exact h1
  · obtain ⟨h1, ⟨cs, ty, h2, h3⟩, h4, h5⟩ := h.tips i hi ht
    have hlt := lt_of_block h2
    exact ⟨h1, ⟨cs, ty, (hb.block _ hlt).trans h2, h3⟩, fun o ho => none' hlt (h4 o ho), h5⟩
  · obtain ⟨q1, o, us, cs, ty, q2, q3, q4, q5, q6⟩ := h.conts i qv l hl hcl ht
    have hlt := lt_of_block q2
    exact ⟨fun o => none' hlt (q1 o), o, us, cs, ty, (hb.block _ hlt).trans q2, q3, q4, q5.monoS hS, q6⟩
theorem Sim.later0 {w' : World} (h : Sim E st G a w) (hb : Below w.heap.size w w') : Sim E st G a w' := h.later hb (Stab.le.refl _) (fun _ _ _ e => .inl e)
def upd {α : Type} (f : Nat → α) (i : Nat) (x : α) : Nat → α := fun j => if j = i then x else f j
theorem ext_upd (G : Gh) (id b : Nat) : G.ext { G with μ := upd G.μ id b } id :=
  ⟨Stab.le.refl _, fun i hi => by simp [upd, hi], rfl, rfl, rfl, rfl⟩
def cellRows (id : Nat) : Nat → List V → St
  | _, [] => []
  | k, v :: l => (.cell id k, some v) :: cellRows id (k + 1) l
theorem look_cellRows_cell (id k o : Nat) (vs : List V) (r : St) : look (cellRows id k vs ++ r) (.cell id o) = if k ≤ o ∧ o < k + vs.length then vs[o - k]? else look r (.cell id o) := by
  induction vs generalizing k with
  | nil => simp [cellRows]; intro h1 h2; omega
  | cons v l ih =>
    simp only [cellRows, List.cons_append, look_cons, Loc.cell.injEq, true_and, List.length_cons]
    by_cases h : k = o
    · subst h; simp
    · rw [if_neg h, ih]
      by_cases h' : k + 1 ≤ o ∧ o < k + 1 + l.length
      · rw [if_pos h', if_pos (by omega), show o - k = (o - (k + 1)) + 1 from by omega, List.getElem?_cons_succ]
      · rw [if_neg h', if_neg (by omega)]
theorem look_cellRows_ne (id : Nat) {l : Loc} (h : ∀ o, l ≠ .cell id o) (k : Nat) (vs : List V) (r : St) : look (cellRows id k vs ++ r) l = look r l := by
  induction vs generalizing k with
  | nil => rfl
  | cons v t ih => simp only [cellRows, List.cons_append]; rw [look_ne _ _ (fun c => h k c.symm), ih]
def RelVs (G : Gh) (vs : List V) (cs : Array Value) : Prop := vs.length = cs.size ∧ ∀ (i : Nat) (v : V), vs[i]? = some v → ∃ c, cs[i]? = some c ∧ RelV G v c
theorem Sim.alloc {id : Nat} {vs : List V} {cs : Array Value} {ty : TypeId} (h : Sim E st G a w) (hid : id < E.N) (hu : st.unused id = true) (hvs : RelVs G vs cs) (hf : vs.all (V.free id) = true) :
    Sim E (cellRows id 0 vs ++ (.box id, some (.ptr id 0)) :: st) { G with μ := upd G.μ id w.heap.size } a (w.alloc (.cells cs ty)) := by
  have hx := ext_upd G id w.heap.size
  have hbl : Below w.heap.size w (w.alloc (.cells cs ty)) := (Below.refl _ _).alloc (Nat.le_refl _) _
  have es : ∀ t, look (cellRows id 0 vs ++ (Loc.box id, some (V.ptr id 0)) :: st) (.slot t) = look st (.slot t) := fun t => by
    rw [look_cellRows_ne _ (by simp), look_ne _ _ (by simp)]
  have et : ∀ t, look (cellRows id 0 vs ++ (Loc.box id, some (V.ptr id 0)) :: st) (.tip t) = look st (.tip t) := fun t => by
    rw [look_cellRows_ne _ (by simp), look_ne _ _ (by simp)]
  have eb : ∀ i, i ≠ id → look (cellRows id 0 vs ++ (Loc.box id, some (V.ptr id 0)) :: st) (.box i) = look st (.box i) := fun i hi => by
    rw [look_cellRows_ne _ (by simp), look_ne _ _ (by simp; exact fun c => hi c.symm)]
  have ec : ∀ i o, i ≠ id → look (cellRows id 0 vs ++ (Loc.box id, some (V.ptr id 0)) :: st) (.cell i o) = look st (.cell i o) := fun i o hi => by
    rw [look_cellRows_ne _ (by simp; exact hi), look_ne _ _ (by simp)]
  have self : (upd G.μ id w.heap.size) id = w.heap.size := by simp [upd]
  have oth : ∀ i, i ≠ id → (upd G.μ id w.heap.size) i = G.μ i := fun i hi => by simp [upd, hi]
  have inB : ∀ i, i ≠ id → look (cellRows id 0 vs ++ (Loc.box id, some (V.ptr id 0)) :: st) (.box i) ≠ none → look st (.box i) ≠ none := fun i hi hl => by rw [eb i hi] at hl; exact hl
  refine ⟨h.kw.below hbl, h.s0, h.snew, h.tmps, h.defers, fun t v hl => ?_, fun i o v hl => ?_, fun i hi => ?_, fun i j hi hj => ?_, fun b o v hv => ?_, fun i hi ht => ?_, fun i j hi hj => ?_, fun p hp => ?_, fun i qv l hl hcl ht => ?_, fun i v hl => ?_, fun k v hl => (h.olds k v (by rw [look_cellRows_ne _ (by simp), look_ne _ _ (by simp)] at hl; exact hl)).ext hx (unused_old hu (by rw [look_cellRows_ne _ (by simp), look_ne _ _ (by simp)] at hl; exact hl))⟩
  · rw [es] at hl
    exact (h.slots t v hl).ext hx (unused_slot hu hl)
  · by_cases hi : i = id
    · subst hi
      refine ⟨by rw [look_cellRows_ne _ (by simp), look_same]; simp, ?_⟩
      rw [look_cellRows_cell] at hl
      by_cases hr : 0 ≤ o ∧ o < 0 + vs.length
      · rw [if_pos hr, Nat.sub_zero] at hl
        obtain ⟨c, hc, hrel⟩ := hvs.2 o v hl
        refine ⟨cs, ty, c, ?_, hc, hrel.ext hx (List.all_eq_true.1 hf v (List.mem_of_getElem? hl))⟩
        show (w.heap.push _)[(upd G.μ i w.heap.size) i]? = _
        rw [self, Array.getElem?_push, if_pos rfl]
      · rw [if_neg hr, look_ne _ _ (by simp)] at hl
        exact absurd rfl (unused_cell hu hl).2
    · rw [ec i o hi] at hl
      obtain ⟨hx1, cs', ty', cv, h1, h2, h3⟩ := h.cells i o v hl
      refine ⟨by rw [eb i hi]; exact hx1, cs', ty', cv, ?_, h2, h3.ext hx (unused_cell hu hl).1⟩
      show (w.alloc _).heap[(upd G.μ id w.heap.size) i]? = _
      rw [oth i hi]
      exact (hbl.block _ (lt_of_block h1)).trans h1
  · by_cases hi' : i = id
    · subst hi'
      refine ⟨.inl ?_, ?_, fun o => ?_⟩
      · show E.w0.heap.size ≤ (upd G.μ i w.heap.size) i
        rw [self]; exact h.size
      · show (upd G.μ i w.heap.size) i < (w.heap.push _).size
        rw [self, Array.size_push]; omega
      · show G.S ((upd G.μ i w.heap.size) i) o = none
        rw [self]
        cases hv : G.S w.heap.size o with
        | none => rfl
        | some v => exact absurd (lt_of_cell (h.stable _ _ _ hv)) (by omega)
    · obtain ⟨h1, h2, h3⟩ := h.boxes i (inB i hi' hi)
      show (_ ≤ (upd G.μ id w.heap.size) i ∨ (upd G.μ id w.heap.size) i ∈ E.outs) ∧ (upd G.μ id w.heap.size) i < (w.heap.push _).size ∧ ∀ o, G.S ((upd G.μ id w.heap.size) i) o = none
      rw [oth i hi']
      exact ⟨h1, by rw [Array.size_push]; omega, h3⟩
  · have hj' : ∀ k, k ≠ id → look (cellRows id 0 vs ++ (Loc.box id, some (V.ptr id 0)) :: st) (.box k) ≠ none → G.μ k < w.heap.size := fun k hk hl => (h.boxes k (inB k hk hl)).2.1
    show (upd G.μ id w.heap.size) i = (upd G.μ id w.heap.size) j → i = j
    by_cases hi' : i = id <;> by_cases hjj : j = id
    · intro _; rw [hi', hjj]
    · subst hi'; rw [self, oth j hjj]; intro c; have := hj' j hjj hj; omega
    · subst hjj; rw [self, oth i hi']; intro c; have := hj' i hi' hi; omega
    · rw [oth i hi', oth j hjj]; exact h.inj i j (inB i hi' hi) (inB j hjj hj)
  · have h2 := h.stable b o v hv
    rw [← h2]
    exact hbl.cell (lt_of_cell h2)
  · rw [et] at hi
    obtain ⟨h1, ⟨cs', ty', h2, h3⟩, h4, h5⟩ := h.tips i hi ht
    have hlt := lt_of_block h2
    refine ⟨h1, ⟨cs', ty', (hbl.block _ hlt).trans h2, h3⟩, h4, fun j hj => ?_⟩
    show (upd G.μ id w.heap.size) j ≠ G.tb i
    by_cases hjj : j = id
    · subst hjj; rw [self]; omega
    · rw [oth j hjj]; exact h5 j (inB j hjj hj)
  · rw [et] at hi hj
    exact h.tinj i j hi hj
  · have hn := (h.rcv p hp).1
    have hne : p.1 ≠ id := by omega
    refine ⟨hn, fun hi => ?_⟩
    show (upd G.μ id w.heap.size) p.1 = p.2
    rw [oth p.1 hne]
    exact (h.rcv p hp).2 (inB p.1 hne hi)
  · rw [et] at hl
    obtain ⟨q1, o, us, cs', ty', q2, q3, q4, q5, q6⟩ := h.conts i qv l hl hcl ht
    have hff : V.frees id l = true := free_contL (unused_tip hu hl) hcl
    exact ⟨q1, o, us, cs', ty', (hbl.block _ (lt_of_block q2)).trans q2, q3, q4, q5.ext hx hff, q6⟩
  · rw [look_cellRows_ne _ (by simp), look_ne _ _ (by simp)] at hl
    have hi := unused_iter hu hl
    obtain ⟨q1, s, pos, q2, q3⟩ := h.iters i v hl
    refine ⟨by rw [eb i hi]; exact q1, s, pos, q2, ?_⟩
    show (w.alloc _).heap[(upd G.μ id w.heap.size) i]? = _
    rw [oth i hi]
    exact (hbl.block _ (lt_of_block q3)).trans q3
end Go.Ab

/- Memory under a walk: a store into the frame's own variables, a new list, one more element behind a list. No program. -/
namespace Go.Ab
open Go Go.RowKit
variable {P : Program} {E : Env} {st : St} {G : Gh} {a : Act} {w : World}
theorem heap_setRow_ne (w : World) (g : Nat) (cs : Array Value) (k : Nat) (h : k ≠ g) : (w.setRow g cs).heap[k]? = w.heap[k]? := by
  simp only [World.setRow, Array.getElem?_modify]
  rw [if_neg (by omega)]
theorem heap_setRow_same {w : World} {g : Nat} {old : Array Value} {ty : TypeId} {fr : Nat × Nat} (cs : Array Value) (h : w.heap[g]? = some (.cells old ty fr)) : (w.setRow g cs).heap[g]? = some (.cells cs ty fr) := by
  simp only [World.setRow, Array.getElem?_modify, h, Option.map_some]
  exact if_pos trivial
theorem cell_setRow_ne (w : World) (g : Nat) (cs : Array Value) {b o : Nat} (h : b ≠ g) : (w.setRow g cs).cell? ⟨b, o, none⟩ = w.cell? ⟨b, o, none⟩ := by
  unfold World.cell?
  rw [heap_setRow_ne w g cs b h]
def splice (old : Array Value) (o : Nat) (us : List Value) : Array Value := (old.toList.take o ++ us ++ old.toList.drop (o + us.length)).toArray
theorem splice_get {old : Array Value} {o : Nat} {us : List Value} (h : o + us.length ≤ old.size) (i : Nat) : (splice old o us)[i]? = if o ≤ i ∧ i < o + us.length then us[i - o]? else old[i]? := by
  unfold splice
  have hl : (old.toList.take o).length = o := by simp; omega
  rw [List.getElem?_toArray, List.append_assoc]
  by_cases h1 : i < o
  · rw [List.getElem?_append_left (by omega), List.getElem?_take, if_pos h1, if_neg (by omega), Array.getElem?_toList]
  · rw [List.getElem?_append_right (by omega), hl]
    by_cases h2 : i < o + us.length
    · rw [List.getElem?_append_left (by omega), if_pos ⟨by omega, h2⟩]
    · rw [List.getElem?_append_right (by omega), List.getElem?_drop, if_neg (by omega), Array.getElem?_toList]
      congr 1
      omega
theorem splice_size {old : Array Value} {o : Nat} {us : List Value} (h : o + us.length ≤ old.size) : (splice old o us).size = old.size := by
  unfold splice
  simp
  omega
theorem relVL_get {G : Gh} : ∀ {vs : List V} {us : List Value}, RelVL G vs us → vs.length = us.length ∧ ∀ (i : Nat) (v : V), vs[i]? = some v → ∃ u, us[i]? = some u ∧ RelV G v u
  | [], us, h => by simp only [RelVL] at h; subst h; exact ⟨rfl, fun i v h => by simp at h⟩
  | v :: vs, us, h => by
    simp only [RelVL] at h
    obtain ⟨u, us, rfl, h1, h2⟩ := h
    obtain ⟨h3, h4⟩ := relVL_get h2
    refine ⟨by simp [h3], fun i x hx => ?_⟩
    cases i with
    | zero => simp at hx; subst hx; exact ⟨u, by simp, h1⟩
    | succ i => simpa using h4 i x (by simpa using hx)
theorem Sim.store {id off : Nat} {vs : List V} {us : List Value} (h : Sim E st G a w) (hv : RelVL G vs us) {old : Array Value} {ty : TypeId} (hb : look st (.box id) ≠ none)
    (hold : w.heap[G.μ id]? = some (.cells old ty (0, 0))) (hfit : off + us.length ≤ old.size) : Sim E (cellRows id off vs ++ st) G a (w.setRow (G.μ id) (splice old off us)) := by
  obtain ⟨hlen, hget⟩ := relVL_get hv
  obtain ⟨hb1, hb2, hb3⟩ := h.boxes id hb
  have es : ∀ l, (∀ o, l ≠ .cell id o) → look (cellRows id off vs ++ st) l = look st l := fun l hl => look_cellRows_ne id hl off vs st
  have ne : ∀ {i}, look st (.box i) ≠ none → i ≠ id → G.μ i ≠ G.μ id := fun hi hne he => hne (h.inj _ _ hi hb he)
  refine ⟨⟨h.kw.os, h.kw.tape, h.kw.output, by rw [setRow_size]; exact h.size, fun k hk ho => ?_⟩, h.s0, h.snew, h.tmps, h.defers, fun t v hl => ?_, fun i o v hl => ?_, fun i hi => ?_, fun i j hi hj => ?_, fun b o v hS => ?_, fun i hi ht => ?_, fun i j hi hj => ?_, fun p hp => ⟨(h.rcv p hp).1, fun hi => (h.rcv p hp).2 (by rw [es _ (by simp)] at hi; exact hi)⟩, fun i qv l hl hcl ht => ?_, fun i v hl => ?_, fun k v hl => h.olds k v (by rw [es _ (by simp)] at hl; exact hl)⟩
  · rw [heap_setRow_ne _ _ _ _ (by rintro rfl; rcases hb1 with h1 | h1; omega; exact ho h1)]
    exact h.kw.frame k hk ho
  · rw [es _ (by simp)] at hl; exact h.slots t v hl
  · by_cases hi : i = id
    · subst hi
      rw [look_cellRows_cell] at hl
      refine ⟨by rw [es _ (by simp)]; exact hb, splice old off us, ty, ?_⟩
      rw [heap_setRow_same _ hold]
      by_cases hr : off ≤ o ∧ o < off + vs.length
      · rw [if_pos hr] at hl
        obtain ⟨u, hu, hrel⟩ := hget _ v hl
        exact ⟨u, rfl, by rw [splice_get hfit, if_pos (by omega)]; exact hu, hrel⟩
      · rw [if_neg hr] at hl
        obtain ⟨_, cs, ty', cv, h1, h2, h3⟩ := h.cells i o v hl
        rw [hold] at h1
        obtain ⟨rfl, rfl⟩ : old = cs ∧ ty = ty' := by simpa using h1
        exact ⟨cv, rfl, by rw [splice_get hfit, if_neg (by omega)]; exact h2, h3⟩
    · rw [es _ (by simp; exact hi)] at hl
      obtain ⟨hx, cs, ty', cv, h1, h2, h3⟩ := h.cells i o v hl
      exact ⟨by rw [es _ (by simp)]; exact hx, cs, ty', cv, by rw [heap_setRow_ne _ _ _ _ (ne hx hi)]; exact h1, h2, h3⟩
  · rw [es _ (by simp)] at hi
    obtain ⟨h1, h2, h3⟩ := h.boxes i hi
    exact ⟨h1, by rw [setRow_size]; exact h2, h3⟩
  · rw [es _ (by simp)] at hi hj; exact h.inj i j hi hj
  · rw [cell_setRow_ne]
    · exact h.stable b o v hS
    · rintro rfl; rw [hb3] at hS; cases hS
  · rw [es _ (by simp)] at hi
    obtain ⟨h1, ⟨cs, ty', h2, h3⟩, h4, h5⟩ := h.tips i hi ht
    exact ⟨h1, ⟨cs, ty', by rw [heap_setRow_ne _ _ _ _ (fun c => h5 id hb c.symm)]; exact h2, h3⟩, h4, fun j hj => h5 j (by rw [es _ (by simp)] at hj; exact hj)⟩
  · rw [es _ (by simp)] at hi hj; exact h.tinj i j hi hj
  · rw [es _ (by simp)] at hl
    obtain ⟨q1, o, us', cs, ty', q2, q3, q4, q5, q6⟩ := h.conts i qv l hl hcl ht
    obtain ⟨_, _, _, t4⟩ := h.tips i (by rw [hl]; simp) ht
    exact ⟨q1, o, us', cs, ty', by rw [heap_setRow_ne _ _ _ _ (fun c => t4 id hb c.symm)]; exact q2, q3, q4, q5, q6⟩
  · rw [es _ (by simp)] at hl
    obtain ⟨q1, s, pos, q2, q3⟩ := h.iters i v hl
    have hi : i ≠ id := fun c => by subst c; rw [hold] at q3; exact (itO_ne q3.symm).elim
    exact ⟨by rw [es _ (by simp)]; exact q1, s, pos, q2, by rw [heap_setRow_ne _ _ _ _ (ne q1 hi)]; exact q3⟩
def Stab.row (S : Stab) (b : Nat) (n : Nat) (cs : Array Value) : Stab := fun b' o => if b' = b then (if o < n then cs[o]? else none) else S b' o
theorem Sim.fresh (h : Sim E st G a w) (o : Nat) : G.S w.heap.size o = none := by
  cases hv : G.S w.heap.size o with
  | none => rfl
  | some v => exact absurd (lt_of_cell (h.stable _ _ _ hv)) (by omega)
theorem Sim.row_le (h : Sim E st G a w) (n : Nat) (cs : Array Value) : G.S.le (G.S.row w.heap.size n cs) := fun b o v hv => by
  unfold Stab.row
  rw [if_neg]
  · exact hv
  · rintro rfl; rw [h.fresh] at hv; cases hv
theorem relP_of {S : Stab} {b : Nat} : ∀ {ds : List D} {us : List Value} {o : Nat}, RelL S ds us → (∀ k u, us[k]? = some u → S b (o + k) = some u) → RelP S ds b o
  | [], [], o, _, _ => .nil
  | d :: ds, u :: us, o, .cons h1 h2, hk => .cons (by simpa using hk 0 u (by simp)) h1 (relP_of h2 fun k x hx => by
      have := hk (k + 1) x (by simpa using hx)
      rwa [show o + (k + 1) = o + 1 + k from by omega] at this)
def flat (l : List D) : List D := l.flatMap D.cells
theorem relE_of {S : Stab} {es b : Nat} : ∀ {l : List D} {o : Nat}, (∀ d ∈ l, d.cells.length = es) → RelP S (flat l) b o → RelE S es l b o
  | [], o, _, _ => .nil
  | d :: l, o, hn, hp => by
    have h1 := hn d (by simp)
    have hp' : RelP S (d.cells ++ flat l) b o := by simpa [flat] using hp
    have split : ∀ (xs ys : List D) (o : Nat), RelP S (xs ++ ys) b o → RelP S xs b o ∧ RelP S ys b (o + xs.length) := by
      intro xs
      induction xs with
      | nil => intro ys o h; exact ⟨.nil, by simpa using h⟩
      | cons x xs ih =>
        intro ys o h
        cases h with
        | cons hs hd hr =>
          obtain ⟨h3, h4⟩ := ih ys (o + 1) hr
          exact ⟨.cons hs hd h3, by rw [List.length_cons, show o + (xs.length + 1) = o + 1 + xs.length from by omega]; exact h4⟩
    obtain ⟨h2, h3⟩ := split _ _ _ hp'
    exact .cons h1 h2 (relE_of (fun x hx => hn x (by simp [hx])) (h1 ▸ h3))
theorem relP_append {S : Stab} {b : Nat} : ∀ {xs ys : List D} {o : Nat}, RelP S xs b o → RelP S ys b (o + xs.length) → RelP S (xs ++ ys) b o
  | [], ys, o, _, h => by simpa using h
  | x :: xs, ys, o, .cons hs hd hr, h => .cons hs hd (relP_append hr (by rw [show o + 1 + xs.length = o + (x :: xs).length from by simp; omega]; exact h))
theorem relE_append {S : Stab} {es b : Nat} : ∀ {xs ys : List D} {o : Nat}, RelE S es xs b o → RelE S es ys b (o + xs.length * es) → RelE S es (xs ++ ys) b o
  | [], ys, o, _, h => by simpa using h
  | x :: xs, ys, o, .cons hn hp hr, h => .cons hn hp (relE_append hr (by rw [show o + es + xs.length * es = o + (x :: xs).length * es from by rw [List.length_cons, Nat.add_mul]; omega]; exact h))
theorem relE_flat {S : Stab} {es b : Nat} : ∀ {l : List D} {o : Nat}, RelE S es l b o → RelP S (flat l) b o ∧ (flat l).length = l.length * es ∧ ∀ d ∈ l, d.cells.length = es
  | [], o, _ => ⟨.nil, by simp [flat], by simp⟩
  | d :: l, o, .cons hn hp hr => by
    obtain ⟨h1, h2, h3⟩ := relE_flat hr
    refine ⟨?_, ?_, ?_⟩
    · show RelP S (flat (d :: l)) b o
      rw [show flat (d :: l) = d.cells ++ flat l from rfl]
      exact relP_append hp (by rw [hn]; exact h1)
    · rw [show flat (d :: l) = d.cells ++ flat l from rfl, List.length_append, hn, h2, List.length_cons, Nat.add_mul]; omega
    · intro x hx
      rcases List.mem_cons.1 hx with rfl | hx
      · exact hn
      · exact h3 x hx
theorem relP_vals {S : Stab} {b : Nat} : ∀ {ds : List D} {o : Nat}, RelP S ds b o → ∃ us : List Value, us.length = ds.length ∧ RelL S ds us ∧ ∀ k u, us[k]? = some u → S b (o + k) = some u
  | [], o, _ => ⟨[], rfl, .nil, by simp⟩
  | d :: ds, o, .cons (v := v) hs hd hr => by
    obtain ⟨us, h1, h2, h3⟩ := relP_vals hr
    refine ⟨v :: us, by simp [h1], .cons hd h2, fun k u hu => ?_⟩
    cases k with
    | zero => simp at hu; subst hu; exact hs
    | succ k => rw [show o + (k + 1) = o + 1 + k from by omega]; exact h3 k u (by simpa using hu)
theorem relL_append {S : Stab} : ∀ {xs ys : List D} {us vs : List Value}, RelL S xs us → RelL S ys vs → RelL S (xs ++ ys) (us ++ vs)
  | [], _, [], _, _, h => h
  | _ :: _, _, _ :: _, _, .cons h1 h2, h => .cons h1 (relL_append h2 h)
theorem relL_length {S : Stab} : ∀ {l : List D} {us : List Value}, RelL S l us → l.length = us.length
  | [], [], _ => rfl
  | _ :: _, _ :: _, .cons _ h => by simp [relL_length h]
theorem Sim.row (h : Sim E st G a w) (n : Nat) (cs : Array Value) (ty : TypeId) (fr : Nat × Nat) (hn : n ≤ cs.size) : Sim E st { G with S := G.S.row w.heap.size n cs } a (w.alloc (.cells cs ty fr)) := by
  refine h.later ((Below.refl _ _).alloc (Nat.le_refl _) _) (h.row_le n cs) fun b o v hv => ?_
  unfold Stab.row at hv
  split at hv
  · rename_i hb
    subst hb
    split at hv
    · refine .inr ⟨Nat.le_refl _, ?_⟩
      rw [cell_of_block (cs := cs) (ty := ty) (fr := fr) (by show (w.heap.push _)[w.heap.size]? = _; rw [Array.getElem?_push, if_pos rfl])]
      exact hv
    · cases hv
  · exact .inl hv
mutual
/-- A list that may not be appended to any more. -/
def dullV (id : Nat) : V → V
  | .own i es l => bif i == id then .d (.list es l) else .own i es l
  | .mo i es n => bif i == id then .d .any else .mo i es n
  | .mptr i n o => bif i == id then .d .any else .mptr i n o
  | .agg l => .agg (dullVs id l)
  | .tup l => .tup (dullVs id l)
  | .cont l => .cont (dullVs id l)
  | .contD l => .contD l
  | .d x => .d x
  | .ptr i o => .ptr i o
  | .mapp i => .mapp i
  | .fn f l => .fn f l
def dullVs (id : Nat) : List V → List V
  | [] => []
  | v :: l => dullV id v :: dullVs id l
end
theorem dullVs_length (id : Nat) : ∀ l : List V, (dullVs id l).length = l.length
  | [] => by simp only [dullVs]
  | v :: l => by simp only [dullVs, List.length_cons, dullVs_length id l]
theorem dullVs_d (id : Nat) : ∀ l : List D, dullVs id (l.map .d) = l.map .d
  | [] => by simp only [List.map_nil, dullVs]
  | x :: l => by simp only [List.map_cons, dullVs, dullV, dullVs_d id l]
theorem dull_contL {id : Nat} {v0 : V} {l : List V} (hc : (dullV id v0).contL = some l) : ∃ l0, v0.contL = some l0 ∧ l = dullVs id l0 := by
  cases v0 with
  | cont l0 => simp only [dullV] at hc; cases hc; exact ⟨l0, rfl, rfl⟩
  | contD ds => simp only [dullV] at hc; cases hc; exact ⟨_, rfl, (dullVs_d id ds).symm⟩
  | own i es l => simp only [dullV] at hc; cases hb : (i == id) <;> rw [hb] at hc <;> cases hc
  | mo i es l => simp only [dullV] at hc; cases hb : (i == id) <;> rw [hb] at hc <;> cases hc
  | mptr i es l => simp only [dullV] at hc; cases hb : (i == id) <;> rw [hb] at hc <;> cases hc
  | _ => simp only [dullV] at hc; cases hc
def dull (id : Nat) : St → St
  | [] => []
  | e :: r => (e.1, e.2.map (dullV id)) :: dull id r
theorem look_dull (id : Nat) (st : St) (l : Loc) : look (dull id st) l = (look st l).map (dullV id) := by
  induction st with
  | nil => rfl
  | cons e r ih =>
    rw [dull, look_cons, look_cons, ih]
    simp only
    split <;> rfl
structure Gh.tipx (G G' : Gh) (id : Nat) : Prop where
  S : G.S.le G'.S
  μ : G'.μ = G.μ
  tb : ∀ i, i ≠ id → G'.tb i = G.tb i
  tk : ∀ i, i ≠ id → G'.tk i = G.tk i
  te : ∀ i, i ≠ id → G'.te i = G.te i
  tz : ∀ i, i ≠ id → G'.tz i = G.tz i
theorem relV_own {G : Gh} {id es : Nat} {l : List D} {u : Value} (h : RelV G (.own id es l) u) : Rel G.S (.list es l) u := by
  rcases h with ⟨_, rfl, rfl⟩ | ⟨_, o, cap, rfl, hc, he, _⟩
  · exact .lnil
  · exact .list hc he
mutual
theorem RelV.dull {G G' : Gh} {id : Nat} (h : G.tipx G' id) : ∀ {v : V} {u : Value}, RelV G v u → RelV G' (dullV id v) u
  | .d x, _, hr => by simp only [dullV, RelV] at *; exact Rel.mono h.S hr
  | .ptr i off, _, hr => by simp only [dullV, RelV] at *; rw [h.μ]; exact hr
  | .mapp i, _, hr => by simp only [dullV, RelV] at *; rw [h.μ]; exact hr
  | .fn f ids, _, hr => by simp only [dullV, RelV] at *; rw [h.μ]; exact hr
  | .own i es l, u, hr => by
    by_cases hi : i = id
    · subst hi
      have e : dullV i (.own i es l) = .d (.list es l) := by simp [dullV]
      rw [e]
      show Rel G'.S _ u
      exact Rel.mono h.S (relV_own hr)
    · have e : dullV id (.own i es l) = .own i es l := by simp only [dullV, show (i == id) = false from by simpa using hi, cond_false]
      rw [e]
      simp only [RelV] at *
      rw [h.tb i hi, h.tk i hi, h.te i hi, h.tz i hi]
      rcases hr with hr | ⟨h1, o, cap, h2, h3, h4, h5⟩
      · exact .inl hr
      · exact .inr ⟨h1, o, cap, h2, h3, RelE.mono h.S h4, h5⟩
  | .mo i es n, u, hr => by
    by_cases hi : i = id
    · subst hi
      have e : dullV i (.mo i es n) = .d .any := by simp [dullV]
      rw [e]
      simp only [RelV] at *
      rcases hr with ⟨_, _, rfl⟩ | ⟨_, o, cap, rfl, _⟩ <;> exact .any rfl
    · have e : dullV id (.mo i es n) = .mo i es n := by simp only [dullV, show (i == id) = false from by simpa using hi, cond_false]
      rw [e]
      simp only [RelV] at *
      rw [h.tb i hi, h.tk i hi, h.te i hi, h.tz i hi]; exact hr
  | .mptr i n off, u, hr => by
    by_cases hi : i = id
    · subst hi
      have e : dullV i (.mptr i n off) = .d .any := by simp [dullV]
      rw [e]
      simp only [RelV] at *
      obtain ⟨_, o, rfl, _⟩ := hr
      exact .any rfl
    · have e : dullV id (.mptr i n off) = .mptr i n off := by simp only [dullV, show (i == id) = false from by simpa using hi, cond_false]
      rw [e]
      simp only [RelV] at *
      rw [h.tb i hi, h.tk i hi, h.te i hi]; exact hr
  | .agg l, _, hr => by
    simp only [dullV, RelV] at *
    obtain ⟨cs, h1, h2⟩ := hr
    exact ⟨cs, h1, RelVL.dull h h2⟩
  | .tup l, _, hr => by
    simp only [dullV, RelV] at *
    obtain ⟨cs, h1, h2⟩ := hr
    exact ⟨cs, h1, RelVL.dull h h2⟩
  | .cont l, _, hr => by simp only [RelV] at hr
  | .contD l, _, hr => by simp only [RelV] at hr
theorem RelVL.dull {G G' : Gh} {id : Nat} (h : G.tipx G' id) : ∀ {l : List V} {us : List Value}, RelVL G l us → RelVL G' (dullVs id l) us
  | [], _, hr => by simp only [dullVs, RelVL] at *; exact hr
  | v :: l, _, hr => by
    simp only [dullVs, RelVL] at *
    obtain ⟨u, r, h1, h2, h3⟩ := hr
    exact ⟨u, r, h1, RelV.dull h h2, RelVL.dull h h3⟩
end
theorem Sim.retipC {id b n z : Nat} {k : Bool} {vt : V} (h : Sim E st G a w) (hk : k = true → (E.w0.heap.size ≤ b ∨ b ∈ E.outs) ∧ (∃ cs ty, w.heap[b]? = some (.cells cs ty (0, 0)) ∧ z ≤ cs.size) ∧ (∀ o, n ≤ o → G.S b o = none) ∧ (∀ j, look st (.box j) ≠ none → G.μ j ≠ b) ∧
      ∀ j, j ≠ id → look st (.tip j) ≠ none → G.tk j = true → G.tb j ≠ b)
    (hc : ∀ l, vt.contL = some l → k = true → (∀ o, G.S b o = none) ∧ ∃ o us cs ty, w.heap[b]? = some (.cells cs ty (0, 0)) ∧ o + l.length = n ∧ n ≤ cs.size ∧ RelVL { G with tb := upd G.tb id b, tk := upd G.tk id k, te := upd G.te id n, tz := upd G.tz id z } l us ∧ ∀ k u, us[k]? = some u → cs[o + k]? = some u) :
    Sim E ((.tip id, some vt) :: dull id st) { G with tb := upd G.tb id b, tk := upd G.tk id k, te := upd G.te id n, tz := upd G.tz id z } a w := by
  have hx : G.tipx { G with tb := upd G.tb id b, tk := upd G.tk id k, te := upd G.te id n, tz := upd G.tz id z } id :=
    ⟨Stab.le.refl _, rfl, fun i hi => by simp [upd, hi], fun i hi => by simp [upd, hi], fun i hi => by simp [upd, hi], fun i hi => by simp [upd, hi]⟩
  have el : ∀ l, l ≠ .tip id → look ((Loc.tip id, some vt) :: dull id st) l = (look st l).map (dullV id) := fun l hl => by rw [look_ne _ _ (fun c => hl c.symm), look_dull]
  have en : ∀ l, l ≠ .tip id → look ((Loc.tip id, some vt) :: dull id st) l ≠ none → look st l ≠ none := fun l hl hh c => by rw [el l hl, c] at hh; exact hh rfl
  have ev : ∀ l v, l ≠ .tip id → look ((Loc.tip id, some vt) :: dull id st) l = some v → ∃ v0, look st l = some v0 ∧ dullV id v0 = v := fun l v hl hv => by
    rw [el l hl] at hv; simpa using hv
  refine ⟨h.kw, h.s0, h.snew, h.tmps, h.defers, fun t v hl => ?_, fun i o v hl => ?_, fun i hi => h.boxes i (en _ (by simp) hi), fun i j hi hj => h.inj i j (en _ (by simp) hi) (en _ (by simp) hj), h.stable, fun i hi ht => ?_, fun i j hi hj ht htj => ?_, fun p hp => ⟨(h.rcv p hp).1, fun hi => (h.rcv p hp).2 (en _ (by simp) hi)⟩, fun i qv l hl hcl ht => ?_, fun i v hl => by
    obtain ⟨v0, h1, h2⟩ := ev _ v (by simp) hl
    obtain ⟨q1, s, pos, q2, q3⟩ := h.iters i v0 h1
    exact ⟨by rw [el _ (by simp)]; simpa using q1, s, pos, by rw [← h2, q2]; rfl, q3⟩, fun k v hl => by
    obtain ⟨v0, h1, rfl⟩ := ev _ v (by simp) hl
    exact (h.olds k v0 h1).dull hx⟩
  · obtain ⟨v0, h1, rfl⟩ := ev _ v (by simp) hl
    exact (h.slots t v0 h1).dull hx
  · obtain ⟨v0, h1, rfl⟩ := ev _ v (by simp) hl
    obtain ⟨q1, cs, ty, cv, q2, q3, q4⟩ := h.cells i o v0 h1
    refine ⟨by rw [el _ (by simp)]; simpa using q1, cs, ty, cv, q2, q3, q4.dull hx⟩
  · by_cases hid : i = id
    · subst hid
      have hkt : k = true := by simpa [upd] using ht
      obtain ⟨q1, q2, q3, q4, _⟩ := hk hkt
      show (_ ≤ (upd G.tb i b) i ∨ (upd G.tb i b) i ∈ _) ∧ (∃ cs ty, w.heap[(upd G.tb i b) i]? = some (.cells cs ty (0, 0)) ∧ (upd G.tz i z) i ≤ cs.size) ∧ (∀ o, (upd G.te i n) i ≤ o → G.S ((upd G.tb i b) i) o = none) ∧ ∀ j, _ → G.μ j ≠ (upd G.tb i b) i
      simp only [upd, if_true]
      exact ⟨q1, q2, q3, fun j hj => q4 j (en _ (by simp) hj)⟩
    · have ht' : G.tk i = true := by simpa [upd, hid] using ht
      obtain ⟨q1, q2, q3, q4⟩ := h.tips i (en _ (by simpa using hid) hi) ht'
      show (_ ≤ (upd G.tb id b) i ∨ (upd G.tb id b) i ∈ _) ∧ (∃ cs ty, w.heap[(upd G.tb id b) i]? = some (.cells cs ty (0, 0)) ∧ (upd G.tz id z) i ≤ cs.size) ∧ (∀ o, (upd G.te id n) i ≤ o → G.S ((upd G.tb id b) i) o = none) ∧ ∀ j, _ → G.μ j ≠ (upd G.tb id b) i
      simp only [upd, hid, if_false]
      exact ⟨q1, q2, q3, fun j hj => q4 j (en _ (by simp) hj)⟩
  · show (upd G.tb id b) i = (upd G.tb id b) j → i = j
    by_cases h2 : i = id <;> by_cases h3 : j = id
    · intro _; rw [h2, h3]
    · subst h2
      have hkt : k = true := by simpa [upd] using ht
      simp only [upd, if_true, h3, if_false]
      intro c
      exact absurd c.symm ((hk hkt).2.2.2.2 j h3 (en _ (by simpa using h3) hj) (by simpa [upd, h3] using htj))
    · subst h3
      have hkt : k = true := by simpa [upd] using htj
      simp only [upd, if_true, h2, if_false]
      intro c
      exact absurd c ((hk hkt).2.2.2.2 i h2 (en _ (by simpa using h2) hi) (by simpa [upd, h2] using ht))
    · simp only [upd, h2, h3, if_false]
      exact h.tinj i j (en _ (by simpa using h2) hi) (en _ (by simpa using h3) hj) (by simpa [upd, h2] using ht) (by simpa [upd, h3] using htj)
  · by_cases hid : i = id
    · subst hid
      have hkt : k = true := by simpa [upd] using ht
      rw [look_same] at hl
      obtain ⟨q1, o, us, cs, ty, q2, q3, q4, q5, q6⟩ := hc l (by obtain rfl := Option.some.inj hl; exact hcl) hkt
      refine ⟨fun o => ?_, o, us, cs, ty, ?_, ?_, ?_, q5, q6⟩
      · show G.S ((upd G.tb i b) i) o = none
        simp only [upd, if_true]; exact q1 o
      · show w.heap[(upd G.tb i b) i]? = _
        simp only [upd, if_true]; exact q2
      · show o + l.length = (upd G.te i n) i
        simp only [upd, if_true]; exact q3
      · show (upd G.te i n) i ≤ _
        simp only [upd, if_true]; exact q4
    · have ht' : G.tk i = true := by simpa [upd, hid] using ht
      obtain ⟨v0, h1, h2⟩ := ev _ _ (by simpa using hid) hl
      subst h2
      obtain ⟨l0, hc0, rfl⟩ := dull_contL hcl
      obtain ⟨q1, o, us, cs, ty, q2, q3, q4, q5, q6⟩ := h.conts i v0 l0 h1 hc0 ht'
      refine ⟨fun o => ?_, o, us, cs, ty, ?_, ?_, ?_, q5.dull hx, q6⟩
      · show G.S ((upd G.tb id b) i) o = none
        simp only [upd, hid, if_false]; exact q1 o
      · show w.heap[(upd G.tb id b) i]? = _
        simp only [upd, hid, if_false]; exact q2
      · show o + _ = (upd G.te id n) i
        simp only [upd, hid, if_false, dullVs_length]; exact q3
      · show (upd G.te id n) i ≤ _
        simp only [upd, hid, if_false]; exact q4
theorem Sim.retip {id b n z : Nat} {k : Bool} (h : Sim E st G a w) (hk : k = true → (E.w0.heap.size ≤ b ∨ b ∈ E.outs) ∧ (∃ cs ty, w.heap[b]? = some (.cells cs ty (0, 0)) ∧ z ≤ cs.size) ∧ (∀ o, n ≤ o → G.S b o = none) ∧ (∀ j, look st (.box j) ≠ none → G.μ j ≠ b) ∧
      ∀ j, j ≠ id → look st (.tip j) ≠ none → G.tk j = true → G.tb j ≠ b) :
    Sim E ((.tip id, some (.ptr id 0)) :: dull id st) { G with tb := upd G.tb id b, tk := upd G.tk id k, te := upd G.te id n, tz := upd G.tz id z } a w :=
  h.retipC hk fun l hl => by cases hl
def Stab.more (S : Stab) (b e : Nat) (us : List Value) : Stab := fun b' o => if b' = b ∧ e ≤ o ∧ o < e + us.length then us[o - e]? else S b' o
theorem Sim.extend {id : Nat} {us : List Value} {old : Array Value} {ty : TypeId} (h : Sim E st G a w) (hl : look st (.tip id) ≠ none) (ht : G.tk id = true)
    (hold : w.heap[G.tb id]? = some (.cells old ty (0, 0))) (hroom : G.te id + us.length ≤ old.size) :
    Sim E ((.tip id, none) :: st) { G with S := G.S.more (G.tb id) (G.te id) us } a (w.setRow (G.tb id) (splice old (G.te id) us)) := by
  obtain ⟨t1, _, t3, t4⟩ := h.tips id hl ht
  have hle : G.S.le (G.S.more (G.tb id) (G.te id) us) := fun b o v hv => by
    unfold Stab.more
    rw [if_neg]
    · exact hv
    · rintro ⟨rfl, h1, _⟩; rw [t3 o h1] at hv; cases hv
  have es : ∀ l, l ≠ .tip id → look ((Loc.tip id, none) :: st) l = look st l := fun l hl => look_ne _ _ (fun c => hl c.symm)
  have et : ∀ i, look ((Loc.tip id, none) :: st) (.tip i) ≠ none → i ≠ id ∧ look st (.tip i) ≠ none := fun i hh => by
    rw [look_cons] at hh
    split at hh
    · exact absurd rfl hh
    · rename_i hc; exact ⟨fun c => hc (by rw [c]), hh⟩
  refine ⟨⟨h.kw.os, h.kw.tape, h.kw.output, by rw [setRow_size]; exact h.size, fun k hk ho => ?_⟩, h.s0.trans hle, fun b o v hS => ?_, h.tmps, h.defers, fun t v hl => ?_, fun i o v hl => ?_, fun i hi => ?_, fun i j hi hj => ?_, fun b o v hS => ?_, fun i hi hti => ?_, fun i j hi hj => ?_, fun p hp => ⟨(h.rcv p hp).1, fun hi => (h.rcv p hp).2 (by rw [es _ (by simp)] at hi; exact hi)⟩, fun i qv l' hl' hcl hti => ?_, fun i v hl => by
    rw [es _ (by simp)] at hl
    obtain ⟨q1, s, pos, q2, q3⟩ := h.iters i v hl
    exact ⟨by rw [es _ (by simp)]; exact q1, s, pos, q2, by show (w.setRow _ _).heap[G.μ i]? = _; rw [heap_setRow_ne _ _ _ _ (t4 i q1)]; exact q3⟩, fun k v hl => (h.olds k v (by rw [es _ (by simp)] at hl; exact hl)).monoS hle⟩
  · rw [heap_setRow_ne _ _ _ _ (by rintro rfl; rcases t1 with q | q; omega; exact ho q)]; exact h.kw.frame k hk ho
  · change Stab.more G.S (G.tb id) (G.te id) us b o = some v at hS
    unfold Stab.more at hS
    split at hS
    · rename_i hc; exact .inr (by rw [hc.1]; exact t1)
    · exact h.snew b o v hS
  · rw [es _ (by simp)] at hl; exact (h.slots t v hl).monoS hle
  · rw [es _ (by simp)] at hl
    obtain ⟨q1, cs', ty', cv, q2, q3, q4⟩ := h.cells i o v hl
    exact ⟨by rw [es _ (by simp)]; exact q1, cs', ty', cv, by show (w.setRow _ _).heap[G.μ i]? = _; rw [heap_setRow_ne _ _ _ _ (t4 i q1)]; exact q2, q3, q4.monoS hle⟩
  · rw [es _ (by simp)] at hi
    obtain ⟨q1, q2, q3⟩ := h.boxes i hi
    refine ⟨q1, by rw [setRow_size]; exact q2, fun o => ?_⟩
    show Stab.more G.S (G.tb id) (G.te id) us (G.μ i) o = none
    unfold Stab.more
    rw [if_neg (fun c => t4 i hi c.1)]; exact q3 o
  · rw [es _ (by simp)] at hi hj; exact h.inj i j hi hj
  · by_cases hb : b = G.tb id
    · subst hb
      rw [cell_of_block (heap_setRow_same _ hold), splice_get hroom]
      change Stab.more G.S (G.tb id) (G.te id) us (G.tb id) o = some v at hS
      unfold Stab.more at hS
      by_cases hc : G.te id ≤ o ∧ o < G.te id + us.length
      · rw [if_pos ⟨rfl, hc⟩] at hS; rw [if_pos hc]; exact hS
      · rw [if_neg (fun c => hc c.2)] at hS
        rw [if_neg hc, ← h.stable _ _ _ hS, cell_of_block hold]
    · rw [cell_setRow_ne _ _ _ hb]
      change Stab.more G.S (G.tb id) (G.te id) us b o = some v at hS
      unfold Stab.more at hS
      rw [if_neg (fun c => hb c.1)] at hS
      exact h.stable _ _ _ hS
  · obtain ⟨hni, hi'⟩ := et i hi
    obtain ⟨q1, ⟨cs', ty', q2, q3⟩, q4, q5⟩ := h.tips i hi' hti
    have hμ : G.tb i ≠ G.tb id := fun c => hni (h.tinj i id hi' hl hti ht c)
    refine ⟨q1, ⟨cs', ty', by show (w.setRow _ _).heap[G.tb i]? = _; rw [heap_setRow_ne _ _ _ _ hμ]; exact q2, q3⟩, fun o ho => ?_, fun j hj => q5 j (by rw [es _ (by simp)] at hj; exact hj)⟩
    show Stab.more G.S (G.tb id) (G.te id) us (G.tb i) o = none
    unfold Stab.more
    rw [if_neg (fun c => hμ c.1)]; exact q4 o ho
  · exact fun ht htj => h.tinj i j (et i hi).2 (et j hj).2 ht htj
  · obtain ⟨hni, hi'⟩ := et i (by rw [hl']; simp)
    rw [look_ne _ _ (by simpa using fun c => hni c.symm)] at hl'
    obtain ⟨q1, o, us', cs', ty', q2, q3, q4, q5, q6⟩ := h.conts i qv l' hl' hcl hti
    have hμ : G.tb i ≠ G.tb id := fun c => hni (h.tinj i id hi' hl hti ht c)
    refine ⟨fun o => ?_, o, us', cs', ty', by show (w.setRow _ _).heap[G.tb i]? = _; rw [heap_setRow_ne _ _ _ _ hμ]; exact q2, q3, q4, q5.monoS hle, q6⟩
    show Stab.more G.S (G.tb id) (G.te id) us (G.tb i) o = none
    unfold Stab.more
    rw [if_neg (fun c => hμ c.1)]; exact q1 o
end Go.Ab

/- One operation at a time: what a walk knows behind it. No program. -/
namespace Go.Ab
open Go Go.RowKit
variable {P : Program} {E : Env} {st : St} {G : Gh} {a : Act} {w : World}
def Hits (E : Env) (st : St) (K : Act → World → Prop) : Prop := ∀ G a w, Sim E st G a w → K a w
theorem Hits.mono {K K' : Act → World → Prop} (h : Hits E st K) (hk : ∀ a w, K a w → K' a w) : Hits E st K' := fun G a w s => hk _ _ (h G a w s)
theorem Hits.keep {st' : St} {K : Act → World → Prop} (hk : st'.kept st) (hb : st'.boxed = true) (h : Hits E st' K) : Hits E st K := fun G a w s => h G a w (s.keep hk hb)
def FOk (P : Program) (E : Env) (o : Oper) (st0 : St) (L : List Loc) (fr : List Nat) (W : St) : Prop :=
  ∀ (Q : Exit → Act → World → Prop) (K : Act → World → Prop) (st : St), (∀ l ∈ L, look st l = look st0 l) → (∀ i ∈ fr, st.unused i = true) → Hits E (W ++ st) K → Hits E st fun a w => o.wp P a w K Q
def D.ofVal : Value → D
  | .agg cs => .agg (cs.toList.map .sc)
  | v => .sc v
theorem rel_ofVal (S : Stab) (v : Value) : Rel S (D.ofVal v) v := by
  cases v with
  | agg cs =>
    obtain ⟨l⟩ := cs
    refine .agg ?_
    show RelL S (l.map .sc) l
    induction l with
    | nil => exact .nil
    | cons x l ih => exact .cons (.sc x) ih
  | _ => exact .sc _
def ev (st : St) : Operand → Option V
  | .tmp t => look st (.slot t)
  | .const v => some (.d (D.ofVal v))
  | .global g => some (.d (.sc (.pointer (some ⟨g, 0, none⟩))))
  | .func f => some (.d (.sc (.func (.func f) #[] #[])))
def evL : Operand → List Loc
  | .tmp t => [.slot t]
  | _ => []
theorem Sim.ev (h : Sim E st G a w) {x : Operand} {v : V} (he : ev st x = some v) : RelV G v (a.eval x) := by
  cases x with
  | tmp t => exact h.slots t v he
  | const c => obtain rfl := Option.some.inj he; exact rel_ofVal _ c
  | global g => obtain rfl := Option.some.inj he; exact .sc _
  | func f => obtain rfl := Option.some.inj he; exact .sc _
theorem ev_same {st st0 : St} {x : Operand} {L : List Loc} (hL : ∀ l ∈ L, look st l = look st0 l) (hx : ∀ l ∈ evL x, l ∈ L) : ev st x = ev st0 x := by
  cases x with
  | tmp t => exact hL _ (hx _ (by simp [evL]))
  | _ => rfl
def evs (st : St) : List Operand → Option (List D)
  | [] => some []
  | x :: r => match ev st x, evs st r with
    | some (.d d), some l => some (d :: l)
    | some (.own _ es q), some l => some (.list es q :: l)
    | _, _ => none
def evsL (l : List Operand) : List Loc := l.flatMap evL
theorem Sim.evs (h : Sim E st G a w) : ∀ {xs : List Operand} {ds : List D}, evs st xs = some ds → RelL G.S ds (xs.map a.eval)
  | [], ds, he => by obtain rfl := Option.some.inj he; exact .nil
  | x :: r, ds, he => by
    unfold Ab.evs at he
    cases hx : Ab.ev st x with
    | none => rw [hx] at he; cases he
    | some v =>
      cases hr : Ab.evs st r with
      | none => rw [hx, hr] at he; cases v <;> cases he
      | some l =>
        rw [hx, hr] at he
        have h1 := h.ev hx
        have h2 := Sim.evs h hr
        cases v with
        | d d => obtain rfl := Option.some.inj he; exact .cons h1 h2
        | own id es q => obtain rfl := Option.some.inj he; exact .cons (relV_own h1) h2
        | _ => cases he
theorem evs_same {st st0 : St} {L : List Loc} (hL : ∀ l ∈ L, look st l = look st0 l) : ∀ {xs : List Operand}, (∀ l ∈ evsL xs, l ∈ L) → evs st xs = evs st0 xs
  | [], _ => rfl
  | x :: r, hx => by
    unfold evs
    rw [ev_same hL (fun l hl => hx l (by simp [evsL, hl])), evs_same hL (xs := r) (fun l hl => hx l (by simp only [evsL, List.flatMap_cons, List.mem_append]; exact .inr hl))]
theorem fok_later {o : Oper} {d : Nat} {v : V} {L : List Loc} (ho : o.dst = some d) (hd : d < E.N)
    (run : ∀ (st' : St) (G : Gh) (a : Act) (w : World), (∀ l ∈ L, look st' l = look st l) → Sim E st' G a w → ∃ u w' S', (execOp a.eval o).run P w = .ok (.value u) w' ∧ Below w.heap.size w w' ∧ G.S.le S' ∧
      (∀ b o v, S' b o = some v → G.S b o = some v ∨ (w.heap.size ≤ b ∧ w'.cell? ⟨b, o, none⟩ = some v)) ∧ RelV { G with S := S' } v u) :
    FOk P E o st L [] [(.slot d, some v)] := by
  intro Q K st' hL _ hK G a w hs
  obtain ⟨u, w', S', hr, hb, hS, hn, hv⟩ := run st' G a w hL hs
  show o.upon P a K Q ((execOp a.eval o).run P w)
  rw [hr]
  show K (a.put o.dst u) w'
  rw [ho]
  exact hK _ _ _ ((hs.later hb hS hn).put hd hv)
theorem fok_val {o : Oper} {d : Nat} {v : V} {L : List Loc} (ho : o.dst = some d) (hd : d < E.N)
    (run : ∀ (st' : St) (G : Gh) (a : Act) (w : World), (∀ l ∈ L, look st' l = look st l) → Sim E st' G a w → ∃ u, (execOp a.eval o).run P w = .ok (.value u) w ∧ RelV G v u) :
    FOk P E o st L [] [(.slot d, some v)] :=
  fok_later ho hd fun st' G a w hL hs =>
    let ⟨u, hr, hv⟩ := run st' G a w hL hs
    ⟨u, w, G.S, hr, Below.refl _ _, Stab.le.refl _, fun _ _ _ e => .inl e, hv⟩
variable {d : Nat} {ty : TypeId} {pos : String} {af : Array Edge} {g : Option (Nat × Bool)} {x y z : Operand}
theorem mem_l {α : Type} {A B : List α} {l : α} (h : l ∈ A) : l ∈ A ++ B := List.mem_append_left _ h
theorem mem_r {α : Type} {A B : List α} {l : α} (h : l ∈ B) : l ∈ A ++ B := List.mem_append_right _ h
theorem f_move {v : V} (hx : ev st x = some v) (hd : d < E.N) : FOk P E ⟨some d, .move x, ty, pos, af, g⟩ st (evL x) [] [(.slot d, some v)] :=
  fok_val rfl hd fun st' G a w hL hs => ⟨a.eval x, rfl, hs.ev ((ev_same hL fun l h => h).trans hx)⟩
theorem f_assign {v : V} (hx : ev st x = some v) (hd : d < E.N) : FOk P E ⟨some d, .assign x, ty, pos, af, g⟩ st (evL x) [] [(.slot d, some v)] :=
  fok_val rfl hd fun st' G a w hL hs => ⟨a.eval x, rfl, hs.ev ((ev_same hL fun l h => h).trans hx)⟩
theorem rel_sc {S : Stab} {v u : Value} (h : Rel S (.sc v) u) : u = v := by cases h; rfl
theorem Sim.sc (h : Sim E st G a w) {x : Operand} {v : Value} (he : Ab.ev st x = some (.d (.sc v))) : a.eval x = v := rel_sc (h.ev he)
def pickV (st : St) (x y : Operand) : Bool → Option V
  | true => ev st x
  | false => ev st y
theorem f_pick {c : Bool} {v : V} (hz : ev st z = some (.d (.sc (.bool c)))) (hx : pickV st x y c = some v) (hd : d < E.N) :
    FOk P E ⟨some d, .pick z x y, ty, pos, af, g⟩ st (evL z ++ (evL x ++ evL y)) [] [(.slot d, some v)] :=
  fok_val rfl hd fun st' G a w hL hs => by
    have e1 := hs.sc ((ev_same hL fun l h => mem_l h).trans hz)
    refine ⟨if c then a.eval x else a.eval y, by simp [execOp, e1, asBool], ?_⟩
    cases c with
    | true => exact hs.ev ((ev_same hL fun l h => mem_r (mem_l h)).trans hx)
    | false => exact hs.ev ((ev_same hL fun l h => mem_r (mem_r h)).trans hx)
def binS (op : BinOp) : Value → Value → Option Value
  | .int k p, .int k' q => if k = k' then match op with
      | .add => some (.int k (k.wrap (p + q)))
      | .sub => some (.int k (k.wrap (p - q)))
      | .mul => some (.int k (k.wrap (p * q)))
      | .and => some (.int k (bits .and k p q))
      | .or => some (.int k (bits .or k p q))
      | .xor => some (.int k (bits .xor k p q))
      | .andNot => some (.int k (bits .andNot k p q))
      | .eql => some (.bool (p == q))
      | .neq => some (.bool (p != q))
      | .lss => some (.bool (decide (p < q)))
      | .leq => some (.bool (decide (p ≤ q)))
      | .gtr => some (.bool (decide (p > q)))
      | .geq => some (.bool (decide (p ≥ q)))
      | _ => none else none
  | .string p, .string q => match op with
      | .eql => some (.bool (p.toList == q.toList))
      | .neq => some (.bool (!(p.toList == q.toList)))
      | _ => none
  | _, _ => none
theorem run_binS {op : BinOp} {t : TypeId} {x y : Operand} {p q v : Value} (h : binS op p q = some v) (w : World) :
    ((do eqGuard op t x y p q; binOp op t p q) : Sem Value).run P w = .ok v w := by
  cases p <;> cases q <;> simp only [binS] at h <;> try (cases h; done)
  · split at h
    · rename_i hk; subst hk
      cases op <;> simp only at h <;> first
        | (cases h; done)
        | (obtain rfl := Option.some.inj h; simp [eqGuard, binOp, Op.intArith, Op.intCmp, Op.intBits, bits])
    · cases h
  · cases op <;> simp only at h <;> first
      | (cases h; done)
      | (obtain rfl := Option.some.inj h; simp [eqGuard, binOp, Op.stringOp])
theorem f_bin {op : BinOp} {t yt : TypeId} {p q v : Value} (hx : ev st x = some (.d (.sc p))) (hy : ev st y = some (.d (.sc q))) (hv : binS op p q = some v) (hd : d < E.N) :
    FOk P E ⟨some d, .binOp op t x y yt, ty, pos, af, g⟩ st (evL x ++ evL y) [] [(.slot d, some (.d (.sc v)))] :=
  fok_val rfl hd fun st' G a w hL hs => by
    have e1 := hs.sc ((ev_same hL fun l h => mem_l h).trans hx)
    have e2 := hs.sc ((ev_same hL fun l h => mem_r h).trans hy)
    have e3 := run_binS (P := P) (t := t) (x := x) (y := y) hv w
    exact ⟨v, by simp only [execOp, e1, e2]; rw [Sem.run_bind, e3]; rfl, .sc _⟩
def unS (op : UnOp) : Value → Option Value
  | .bool b => match op with
    | .not => some (.bool !b)
    | _ => none
  | .int k n => match op with
    | .neg => some (.int k (k.wrap (0 - n)))
    | .xor => some (.int k (bits .xor k (if k.signed then -1 else k.max) n))
    | _ => none
  | _ => none
theorem f_un {op : UnOp} {t : TypeId} {p v : Value} (hx : ev st x = some (.d (.sc p))) (hv : unS op p = some v) (hd : d < E.N) :
    FOk P E ⟨some d, .unOp op t x, ty, pos, af, g⟩ st (evL x) [] [(.slot d, some (.d (.sc v)))] :=
  fok_val rfl hd fun st' G a w hL hs => by
    have e1 := hs.sc ((ev_same hL fun l h => h).trans hx)
    refine ⟨v, ?_, .sc _⟩
    have e2 : Op.unary op p = pure v := by
      cases p <;> simp only [unS] at hv <;> try (cases hv; done)
      all_goals (cases op <;> simp only at hv <;> first | (cases hv; done) | (obtain rfl := Option.some.inj hv; rfl))
    simp only [execOp, e1, e2]; rfl
theorem f_shl {t yt : TypeId} {k k' : IntKind} {p q : Int} (hx : ev st x = some (.d (.sc (.int k p)))) (hy : ev st y = some (.d (.sc (.int k' q)))) (h0 : 0 ≤ q) (hd : d < E.N) :
    FOk P E ⟨some d, .binOp .shl t x y yt, ty, pos, af, g⟩ st (evL x ++ evL y) [] [(.slot d, some (.d (.sc (.int k (k.wrap (p * 2 ^ (min q.toNat k.bits)))))))] :=
  fok_val rfl hd fun st' G a w hL hs => by
    have e1 := hs.sc ((ev_same hL fun l h => mem_l h).trans hx)
    have e2 := hs.sc ((ev_same hL fun l h => mem_r h).trans hy)
    have e3 : Op.shift .shl k p k' q = pure (.int k (k.wrap (p * 2 ^ (min q.toNat k.bits)))) := by unfold Op.shift; rw [if_neg (by omega)]
    exact ⟨_, by simp [execOp, e1, e2, eqGuard, binOp, e3], .sc _⟩
theorem f_shr {t yt : TypeId} {k k' : IntKind} {p q : Int} (hx : ev st x = some (.d (.sc (.int k p)))) (hy : ev st y = some (.d (.sc (.int k' q)))) (h0 : 0 ≤ q) (hd : d < E.N) :
    FOk P E ⟨some d, .binOp .shr t x y yt, ty, pos, af, g⟩ st (evL x ++ evL y) [] [(.slot d, some (.d (.sc (.int k (p.fdiv (2 ^ (min q.toNat k.bits)))))))] :=
  fok_val rfl hd fun st' G a w hL hs => by
    have e1 := hs.sc ((ev_same hL fun l h => mem_l h).trans hx)
    have e2 := hs.sc ((ev_same hL fun l h => mem_r h).trans hy)
    have e3 : Op.shift .shr k p k' q = pure (.int k (p.fdiv (2 ^ (min q.toNat k.bits)))) := by unfold Op.shift; rw [if_neg (by omega)]
    exact ⟨_, by simp [execOp, e1, e2, eqGuard, binOp, e3], .sc _⟩
theorem f_div {t yt : TypeId} {k : IntKind} {p q : Int} (hx : ev st x = some (.d (.sc (.int k p)))) (hy : ev st y = some (.d (.sc (.int k q)))) (h0 : q ≠ 0) (hd : d < E.N) :
    FOk P E ⟨some d, .binOp .quo t x y yt, ty, pos, af, g⟩ st (evL x ++ evL y) [] [(.slot d, some (.d (.sc (.int k (k.wrap (p.tdiv q))))))] :=
  fok_val rfl hd fun st' G a w hL hs => by
    have e1 := hs.sc ((ev_same hL fun l h => mem_l h).trans hx)
    have e2 := hs.sc ((ev_same hL fun l h => mem_r h).trans hy)
    exact ⟨_, by simp [execOp, e1, e2, eqGuard, binOp, Op.intDiv, h0], .sc _⟩
theorem f_rem {t yt : TypeId} {k : IntKind} {p q : Int} (hx : ev st x = some (.d (.sc (.int k p)))) (hy : ev st y = some (.d (.sc (.int k q)))) (h0 : q ≠ 0) (hd : d < E.N) :
    FOk P E ⟨some d, .binOp .rem t x y yt, ty, pos, af, g⟩ st (evL x ++ evL y) [] [(.slot d, some (.d (.sc (.int k (p.tmod q)))))] :=
  fok_val rfl hd fun st' G a w hL hs => by
    have e1 := hs.sc ((ev_same hL fun l h => mem_l h).trans hx)
    have e2 := hs.sc ((ev_same hL fun l h => mem_r h).trans hy)
    exact ⟨_, by simp [execOp, e1, e2, eqGuard, binOp, Op.intDiv, h0], .sc _⟩
theorem f_cat {t yt : TypeId} {p q : ByteArray} (hx : ev st x = some (.d (.sc (.string p)))) (hy : ev st y = some (.d (.sc (.string q)))) (h0 : p.size + q.size ≤ 9223372036854775807) (hd : d < E.N) :
    FOk P E ⟨some d, .binOp .add t x y yt, ty, pos, af, g⟩ st (evL x ++ evL y) [] [(.slot d, some (.d (.sc (.string (p ++ q)))))] :=
  fok_val rfl hd fun st' G a w hL hs => by
    have e1 := hs.sc ((ev_same hL fun l h => mem_l h).trans hx)
    have e2 := hs.sc ((ev_same hL fun l h => mem_r h).trans hy)
    have e3 : Op.stringOp .add p q = pure (.string (p ++ q)) := by
      unfold Op.stringOp
      simp only
      rw [if_neg]
      have : IntKind.i64.max = 9223372036854775807 := by decide
      omega
    exact ⟨_, by simp [execOp, e1, e2, eqGuard, binOp, e3], .sc _⟩
def scs : List D → Option (List Value)
  | [] => some []
  | .sc v :: r => (scs r).map (v :: ·)
  | _ => none
theorem rel_scs {S : Stab} : ∀ {l : List D} {vs us : List Value}, scs l = some vs → RelL S l us → us = vs
  | [], vs, us, h, hr => by cases hr; exact (Option.some.inj h)
  | .sc v :: r, vs, u :: us, h, .cons h1 h2 => by
    unfold scs at h
    cases hr : scs r with
    | none => rw [hr] at h; cases h
    | some q =>
      rw [hr] at h
      obtain rfl := Option.some.inj h
      rw [rel_sc h1, rel_scs hr h2]
  | .agg _ :: _, _, _, h, _ => by cases h
  | .tup _ :: _, _, _, h, _ => by cases h
  | .list _ _ :: _, _, _, h, _ => by cases h
  | .eptr _ :: _, _, _, h, _ => by cases h
theorem f_eqA {op : BinOp} {t yt : TypeId} {l l' : List D} {p q : List Value} {v : Bool} (hx : ev st x = some (.d (.agg l))) (hy : ev st y = some (.d (.agg l'))) (hp : scs l = some p) (hq : scs l' = some q)
    (hv : ∀ w, ((do eqGuard op t x y (.agg ⟨p⟩) (.agg ⟨q⟩); binOp op t (.agg ⟨p⟩) (.agg ⟨q⟩)) : Sem Value).run P w = .ok (.bool v) w) (hd : d < E.N) :
    FOk P E ⟨some d, .binOp op t x y yt, ty, pos, af, g⟩ st (evL x ++ evL y) [] [(.slot d, some (.d (.sc (.bool v))))] :=
  fok_val rfl hd fun st' G a w hL hs => by
    have e1 := hs.ev ((ev_same hL fun l h => mem_l h).trans hx)
    have e2 := hs.ev ((ev_same hL fun l h => mem_r h).trans hy)
    cases hc : a.eval x <;> rw [hc] at e1 <;> cases e1
    cases hc' : a.eval y <;> rw [hc'] at e2 <;> cases e2
    rename_i h1 _ h2
    obtain rfl := rel_scs hp h1
    obtain rfl := rel_scs hq h2
    exact ⟨.bool v, by simp only [execOp, hc, hc']; rw [Sem.run_bind, hv]; rfl, .sc _⟩
theorem f_conv {src dst : TypeId} {k k' : IntKind} {n : Int} (hx : ev st x = some (.d (.sc (.int k n)))) (hs : (P.underlying src).isSome = true) (ht : P.underlying dst = some (.int k')) (hd : d < E.N) :
    FOk P E ⟨some d, .convert src dst x, ty, pos, af, g⟩ st (evL x) [] [(.slot d, some (.d (.sc (.int k' (k'.wrap n)))))] :=
  fok_val rfl hd fun st' G a w hL hsim => by
    have e1 := hsim.sc ((ev_same hL fun l h => h).trans hx)
    obtain ⟨u, hu⟩ := Option.isSome_iff_exists.mp hs
    exact ⟨_, by simp [execOp, e1, convert, run_underlying hu, run_underlying ht, Conv.intToInt], .sc _⟩
theorem f_extract {k : Nat} {l : List D} {v : D} (hx : ev st x = some (.d (.tup l))) (hk : l[k]? = some v) (hd : d < E.N) :
    FOk P E ⟨some d, .extract x k, ty, pos, af, g⟩ st (evL x) [] [(.slot d, some (.d v))] :=
  fok_val rfl hd fun st' G a w hL hs => by
    have e1 := hs.ev ((ev_same hL fun l h => h).trans hx)
    cases hc : a.eval x <;> rw [hc] at e1 <;> cases e1
    rename_i cs hl
    have : ∀ {l : List D} {us : List Value} {k : Nat} {v : D}, RelL G.S l us → l[k]? = some v → ∃ u, us[k]? = some u ∧ Rel G.S v u := by
      intro l
      induction l with
      | nil => intro us k v _ h; simp at h
      | cons d l ih =>
        intro us k v h hk
        cases h with
        | cons h1 h2 =>
          cases k with
          | zero => simp at hk; subst hk; exact ⟨_, rfl, h1⟩
          | succ k => simpa using ih h2 (by simpa using hk)
    obtain ⟨u, hu, hr⟩ := this hl hk
    exact ⟨u, by simp [execOp, hc, Instr.extract, hu], hr⟩
def kd (P : Program) (t : TypeId) : Option (Bool × Nat) :=
  match P.underlying t, P.info? t with
  | some u, some i => some (match u with | .struct _ | .array _ _ => true | _ => false, i.size)
  | _, _ => none
theorem kd_spec {t : TypeId} {b : Bool} {n : Nat} (h : kd P t = some (b, n)) : (∀ w, (isAgg t).run P w = .ok b w) ∧ (∀ w, (sizeOf t).run P w = .ok n w) ∧ ∃ i, P.info? t = some i ∧ i.size = n := by
  unfold kd at h
  cases hu : P.underlying t with
  | none => simp [hu] at h
  | some u =>
    cases hi : P.info? t with
    | none => simp [hu, hi] at h
    | some i =>
      simp only [hu, hi, Option.some.injEq, Prod.mk.injEq] at h
      obtain ⟨h1, h2⟩ := h
      refine ⟨fun w => ?_, fun w => by simp [sizeOf, run_typeInfo w hi, h2], i, rfl, h2⟩
      cases u <;> simp_all [isAgg, run_underlying hu]
theorem run_loadVar1 {t : TypeId} {n : Nat} {ad : Addr} {v : Value} (hk : kd P t = some (false, n)) (hc : w.cell? ad = some v) : (loadVar t ad).run P w = .ok v w := by
  obtain ⟨h1, _, _⟩ := kd_spec hk
  simp [loadVar, h1, hc]
theorem add_at (b o j : Nat) : (⟨b, o, none⟩ : Addr).add j = ⟨b, o + j, none⟩ := by unfold Addr.add; split <;> simp_all
theorem run_loadVarN {t : TypeId} {n b o : Nat} {us : List Value} (hk : kd P t = some (true, n)) (hn : us.length = n) (hc : ∀ j v, us[j]? = some v → w.cell? ⟨b, o + j, none⟩ = some v) :
    (loadVar t ⟨b, o, none⟩).run P w = .ok (.agg us.toArray) w := by
  obtain ⟨h1, h2, _⟩ := kd_spec hk
  have h3 := run_loadCells_list (P := P) w ⟨b, o, none⟩ us (fun j v hv => by rw [add_at]; exact hc j v hv)
  rw [hn] at h3
  simp [loadVar, h1, h2, h3]
def cellsD (st : St) (id : Nat) : Nat → Nat → Option (List D)
  | _, 0 => some []
  | o, n + 1 => match look st (.cell id o), cellsD st id (o + 1) n with
    | some (.d x), some l => some (x :: l)
    | _, _ => none
def cellsL (id : Nat) : Nat → Nat → List Loc
  | _, 0 => []
  | o, n + 1 => .cell id o :: cellsL id (o + 1) n
theorem cellsD_same {st st0 : St} {id : Nat} : ∀ {n o : Nat}, (∀ l ∈ cellsL id o n, look st l = look st0 l) → cellsD st id o n = cellsD st0 id o n
  | 0, _, _ => rfl
  | n + 1, o, h => by
    unfold cellsD
    rw [h (.cell id o) (by simp [cellsL]), cellsD_same (n := n) (fun l hl => h l (by simp [cellsL, hl]))]
theorem Sim.cellsD (h : Sim E st G a w) {id : Nat} : ∀ {n o : Nat} {l : List D}, Ab.cellsD st id o n = some l → ∃ us : List Value, us.length = n ∧ RelL G.S l us ∧ ∀ j v, us[j]? = some v → w.cell? ⟨G.μ id, o + j, none⟩ = some v
  | 0, o, l, hl => by obtain rfl := Option.some.inj hl; exact ⟨[], rfl, .nil, by simp⟩
  | n + 1, o, l, hl => by
    unfold Ab.cellsD at hl
    cases hc : look st (.cell id o) with
    | none => rw [hc] at hl; cases hl
    | some v =>
      cases hr : Ab.cellsD st id (o + 1) n with
      | none => rw [hc, hr] at hl; cases v <;> cases hl
      | some r =>
        rw [hc, hr] at hl
        cases v with
        | d x =>
          obtain rfl := Option.some.inj hl
          obtain ⟨us, h1, h2, h3⟩ := Sim.cellsD h hr
          obtain ⟨_, cs, ty, cv, h4, h5, h6⟩ := h.cells id o _ hc
          refine ⟨cv :: us, by simp [h1], .cons h6 h2, fun j u hu => ?_⟩
          cases j with
          | zero => simp at hu; subst hu; rw [Nat.add_zero, cell_of_block h4]; exact h5
          | succ j => rw [show o + (j + 1) = o + 1 + j from by omega]; exact h3 j u (by simpa using hu)
        | _ => cases hl
def ldV (st : St) : Bool × Nat → V → Option V
  | (false, _), .ptr id off => look st (.cell id off)
  | (true, n), .ptr id off => (cellsD st id off n).map fun l => .d (.agg l)
  | (false, _), .d (.eptr (x :: _)) => some (.d x)
  | (true, n), .d (.eptr l) => match Nat.ble n l.length with
    | true => some (.d (.agg (l.take n)))
    | false => none
  | _, _ => none
def ldL : Bool × Nat → V → List Loc
  | (false, _), .ptr id off => [.cell id off]
  | (true, n), .ptr id off => cellsL id off n
  | _, _ => []
theorem relL_take {S : Stab} : ∀ {l : List D} {us : List Value} (n : Nat), RelL S l us → RelL S (l.take n) (us.take n)
  | [], [], n, _ => by simp; exact .nil
  | _ :: _, _ :: _, 0, _ => .nil
  | _ :: _, _ :: _, n + 1, .cons h1 h2 => .cons h1 (relL_take n h2)
theorem f_load {t : TypeId} {k : Bool × Nat} {p v : V} (hk : kd P t = some k) (hx : ev st x = some p) (hv : ldV st k p = some v) (hd : d < E.N) :
    FOk P E ⟨some d, .load t x, ty, pos, af, g⟩ st (evL x ++ ldL k p) [] [(.slot d, some v)] :=
  fok_val rfl hd fun st' G a w hL hs => by
    have e1 := hs.ev ((ev_same hL fun l h => mem_l h).trans hx)
    have hL2 : ∀ l ∈ ldL k p, look st' l = look st l := fun l h => hL l (mem_r h)
    obtain ⟨b, n⟩ := k
    cases p with
    | ptr id off =>
      have e2 : a.eval x = .pointer (some ⟨G.μ id, off, none⟩) := e1
      cases b with
      | false =>
        have hv' : look st' (.cell id off) = some v := (hL2 _ (by simp [ldL])).trans hv
        obtain ⟨_, cs, ty', cv, h4, h5, h6⟩ := hs.cells id off v hv'
        exact ⟨cv, by simp [execOp, e2, Instr.loadAt, Instr.sureAddr, run_loadVar1 hk ((cell_of_block h4).trans h5)], h6⟩
      | true =>
        simp only [ldV, Option.map_eq_some_iff] at hv
        obtain ⟨l, hl, rfl⟩ := hv
        obtain ⟨us, h1, h2, h3⟩ := hs.cellsD ((cellsD_same hL2).trans hl)
        exact ⟨.agg us.toArray, by simp [execOp, e2, Instr.loadAt, Instr.sureAddr, run_loadVarN hk h1 h3], .agg h2⟩
    | d q =>
      cases q with
      | eptr l =>
        cases hc : a.eval x <;> rw [hc] at e1 <;> cases e1
        rename_i b' o hp
        obtain ⟨us, h1, h2, h3⟩ := relP_vals hp
        have h3' : ∀ j u, us[j]? = some u → w.cell? ⟨b', o + j, none⟩ = some u := fun j u hu => hs.stable _ _ _ (h3 j u hu)
        cases b with
        | false =>
          cases l with
          | nil => simp [ldV] at hv
          | cons q l =>
            simp only [ldV, Option.some.injEq] at hv
            subst hv
            cases h2 with
            | cons h4 h5 =>
              rename_i u us'
              exact ⟨u, by simp [execOp, hc, Instr.loadAt, Instr.sureAddr, run_loadVar1 hk (show w.cell? ⟨b', o, none⟩ = some u from h3' 0 u (by simp))], h4⟩
        | true =>
          simp only [ldV] at hv
          split at hv
          · rename_i hle
            have hle' : n ≤ l.length := Nat.le_of_ble_eq_true hle
            obtain rfl := Option.some.inj hv
            have h6 := run_loadVarN (P := P) (w := w) (us := us.take n) hk (by simp; omega) (b := b') (o := o) (fun j u hu => h3' j u (by rw [List.getElem?_take] at hu; split at hu; exact hu; cases hu))
            exact ⟨_, by simp [execOp, hc, Instr.loadAt, Instr.sureAddr, h6], .agg (relL_take n h2)⟩
          · cases hv
      | _ => simp [ldV] at hv
    | _ => simp [ldV] at hv
def V.one : V → Bool
  | .d (.sc c) => c.oneCell'
  | .d (.agg _) => false
  | .d (.tup _) => false
  | .agg _ => false
  | .tup _ => false
  | .cont _ => false
  | .contD _ => false
  | _ => true
theorem relVL_nil : RelVL G [] [] := by simp only [RelVL]
theorem relVL_cons {v : V} {u : Value} {vs : List V} {us : List Value} (h : RelV G v u) (h' : RelVL G vs us) : RelVL G (v :: vs) (u :: us) := by
  simp only [RelVL]; exact ⟨u, us, rfl, h, h'⟩
theorem relV_one {v : V} {u : Value} (h : RelV G v u) (h1 : v.one = true) : u.oneCell' = true ∧ u.cells = #[u] := by
  have key : ∀ u : Value, u.oneCell' = true → u.cells = #[u] := fun u h => by cases u <;> first | rfl | (simp [Value.oneCell'] at h)
  suffices h : u.oneCell' = true from ⟨h, key u h⟩
  cases v with
  | d x =>
    cases x with
    | sc c => rw [rel_sc h]; exact h1
    | list es l => cases h <;> rfl
    | eptr l => cases h; rfl
    | any => cases h; assumption
    | ifc t d => cases h; rfl
    | room es l m => cases h; rfl
    | clo f l => cases h; rfl
    | _ => cases h1
  | ptr id off => have : u = _ := h; rw [this]; rfl
  | mapp id => have : u = _ := h; rw [this]; rfl
  | fn f ids => have : u = _ := h; rw [this]; rfl
  | own id es l =>
    rcases h with ⟨_, _, rfl⟩ | ⟨_, o, cap, rfl, _⟩ <;> rfl
  | mo id es n =>
    rcases h with ⟨_, _, rfl⟩ | ⟨_, o, cap, rfl, _⟩ <;> rfl
  | mptr id n off =>
    obtain ⟨_, o, rfl, _⟩ := h; rfl
  | agg l => cases h1
  | tup l => cases h1
  | cont l => cases h1
  | contD l => cases h1
theorem relVL_d {S : Stab} : ∀ {l : List D} {us : List Value}, RelL G.S l us → RelVL G (l.map .d) us
  | [], [], _ => relVL_nil
  | _ :: _, _ :: _, .cons h1 h2 => relVL_cons h1 (relVL_d (S := S) h2)
theorem relVs_of {vs : List V} {us : List Value} (h : RelVL G vs us) : RelVs G vs ⟨us⟩ := by
  obtain ⟨h1, h2⟩ := relVL_get h
  exact ⟨by simpa using h1, fun i v hv => by simpa using h2 i v hv⟩
def zc (P : Program) (t : TypeId) : Option (List Value) :=
  match P.info? t with
  | some i => match i.zero with
    | some z => some z.cells.toList
    | none => none
  | none => none
theorem zc_spec {t : TypeId} {zs : List Value} (h : zc P t = some zs) : ∃ z, (∀ w, (zeroValue t).run P w = .ok z w) ∧ z.cells = ⟨zs⟩ := by
  unfold zc at h
  cases hi : P.info? t with
  | none => simp [hi] at h
  | some i =>
    cases hz : i.zero with
    | none => simp [hi, hz] at h
    | some z =>
      simp only [hi, hz, Option.some.injEq] at h
      exact ⟨z, fun w => by simp [zeroValue, run_typeInfo w hi, hz], by rw [← h]⟩
def newRows (d : Nat) (vs : List V) : St := (.slot d, some (.ptr d 0)) :: (cellRows d 0 vs ++ [(.box d, some (.ptr d 0))])
theorem fok_new {o : Oper} {vs : List V} {L : List Loc} (ho : o.dst = some d) (hd : d < E.N)
    (run : ∀ (st' : St) (G : Gh) (a : Act) (w : World), (∀ l ∈ L, look st' l = look st l) → st'.unused d = true → Sim E st' G a w → ∃ us t, (execOp a.eval o).run P w = .ok (.value (.pointer (some ⟨w.heap.size, 0, none⟩))) (w.alloc (.cells ⟨us⟩ t)) ∧
      RelVL G vs us ∧ vs.all (V.free d) = true) :
    FOk P E o st L [d] (newRows d vs) := by
  intro Q K st' hL hf hK G a w hs
  have hu := hf d (by simp)
  obtain ⟨us, t, hr, hv, hfree⟩ := run st' G a w hL hu hs
  show o.upon P a K Q ((execOp a.eval o).run P w)
  rw [hr]
  show K (a.put o.dst _) _
  rw [ho]
  have h1 := hs.alloc (ty := t) hd hu (relVs_of hv) hfree
  have h2 := h1.put (d := d) (v := .ptr d 0) (u := .pointer (some ⟨w.heap.size, 0, none⟩)) hd (by show _ = _; simp [upd])
  have e : newRows d vs ++ st' = (Loc.slot d, some (V.ptr d 0)) :: (cellRows d 0 vs ++ (Loc.box d, some (V.ptr d 0)) :: st') := by simp [newRows]
  rw [← e] at h2
  exact hK _ _ _ h2
theorem f_alloc {t : TypeId} {zs : List Value} (hz : zc P t = some zs) (hd : d < E.N) : FOk P E ⟨some d, .alloc t, ty, pos, af, g⟩ st [] [d] (newRows d (zs.map fun z => .d (.sc z))) :=
  fok_new rfl hd fun st' G a w hL hu hs => by
    obtain ⟨z, h1, h2⟩ := zc_spec hz
    refine ⟨zs, t, ?_, ?_, ?_⟩
    · simp [execOp, Instr.alloc, h1, newVar, newRow, h2]
    · clear hz h2
      induction zs with
      | nil => exact relVL_nil
      | cons z zs ih => exact relVL_cons (show Rel _ _ _ from .sc z) ih
    · simp [V.free]
def vcells : V → Option (List V)
  | .d (.agg l) => some (l.map .d)
  | .agg l => some l
  | v => if v.one then some [v] else none
theorem vcells_spec {v : V} {u : Value} {vs : List V} (h : RelV G v u) (hc : vcells v = some vs) : RelVL G vs u.cells.toList := by
  unfold vcells at hc
  split at hc
  · rename_i l
    obtain rfl := Option.some.inj hc
    cases h with
    | agg hl => exact relVL_d (S := G.S) hl
  · obtain rfl := Option.some.inj hc
    obtain ⟨cs, rfl, h2⟩ := h
    exact h2
  · split at hc
    · rename_i h1
      obtain rfl := Option.some.inj hc
      rw [(relV_one h h1).2]
      exact relVL_cons h relVL_nil
    · cases hc
theorem frees_all {id : Nat} : ∀ {l : List V}, V.frees id l = true → l.all (V.free id) = true
  | [], _ => rfl
  | v :: l, h => by
    simp only [V.frees, Bool.and_eq_true] at h
    simp only [List.all_cons, Bool.and_eq_true]
    exact ⟨h.1, frees_all h.2⟩
theorem vcells_free {v : V} {vs : List V} {id : Nat} (hc : vcells v = some vs) (hf : v.free id = true) : vs.all (V.free id) = true := by
  unfold vcells at hc
  split at hc
  · obtain rfl := Option.some.inj hc; simp [V.free]
  · obtain rfl := Option.some.inj hc
    simp only [V.free] at hf
    exact frees_all hf
  · split at hc
    · obtain rfl := Option.some.inj hc; simp [hf]
    · cases hc
theorem ev_free {x : Operand} {v : V} {id : Nat} (hu : st.unused id = true) (hx : ev st x = some v) : v.free id = true := by
  cases x with
  | tmp t => exact unused_slot hu hx
  | _ => obtain rfl := Option.some.inj hx; rfl
theorem f_box {t : TypeId} {v : V} {vs : List V} (hx : ev st x = some v) (hv : vcells v = some vs) (hd : d < E.N) : FOk P E ⟨some d, .box t x, ty, pos, af, g⟩ st (evL x) [d] (newRows d vs) :=
  fok_new rfl hd fun st' G a w hL hu hs => by
    have hx' := (ev_same hL fun l h => h).trans hx
    have e1 := hs.ev hx'
    exact ⟨(a.eval x).cells.toList, t, by simp [execOp, Instr.box, newVar, newRow], vcells_spec e1 hv, vcells_free hv (ev_free hu hx')⟩
def stW (st : St) : Bool × Nat → V → V → Option St
  | (_, n), .ptr id off, v => match vcells v with
    | some vs => match vs.length == n && (cellsL id off n).all (fun l => (look st l).isSome) && !vs.isEmpty with
      | true => some (cellRows id off vs)
      | false => none
    | none => none
  | _, _, _ => none
theorem cellsL_mem {id : Nat} : ∀ {n o k : Nat}, k < n → Loc.cell id (o + k) ∈ cellsL id o n
  | 0, _, _, h => absurd h (Nat.not_lt_zero _)
  | n + 1, o, 0, _ => by simp [cellsL]
  | n + 1, o, k + 1, h => by
    rw [show o + (k + 1) = o + 1 + k from by omega]
    exact List.mem_cons_of_mem _ (cellsL_mem (by omega))
theorem relVL_one : ∀ {vs : List V} {us : List Value}, RelVL G vs us → vs.all V.one = true → ∀ u ∈ us, u.oneCell' = true
  | [], us, h, _, u, hu => by simp only [RelVL] at h; subst h; simp at hu
  | v :: vs, us, h, h1, u, hu => by
    simp only [RelVL] at h
    obtain ⟨x, r, rfl, h2, h3⟩ := h
    simp only [List.all_cons, Bool.and_eq_true] at h1
    rcases List.mem_cons.1 hu with rfl | hu
    · exact (relV_one h2 h1.1).1
    · exact relVL_one h3 h1.2 u hu
theorem f_store {t : TypeId} {k : Bool × Nat} {p v : V} {vs : List V} {W : St} (hk : kd P t = some k) (hx : ev st x = some p) (hy : ev st y = some v) (hc : vcells v = some vs) (h1 : vs.all V.one = true) (hv : stW st k p v = some W) :
    FOk P E ⟨none, .store t x y, ty, pos, af, g⟩ st (evL x ++ (evL y ++ ldL (true, k.2) p)) [] W := by
  intro Q K st' hL _ hK G a w hs
  have e1 := hs.ev ((ev_same hL fun l h => mem_l h).trans hx)
  have e2 := hs.ev ((ev_same hL fun l h => mem_r (mem_l h)).trans hy)
  have hL2 : ∀ l ∈ ldL (true, k.2) p, look st' l = look st l := fun l h => hL l (mem_r (mem_r h))
  obtain ⟨b, n⟩ := k
  cases p with
  | ptr id off =>
    simp only [stW, hc] at hv
    split at hv
    · rename_i hcond
      simp only [Bool.and_eq_true, beq_iff_eq, Bool.not_eq_true', List.isEmpty_eq_false_iff] at hcond
      obtain ⟨⟨hn, hall⟩, hne⟩ := hcond
      obtain rfl := Option.some.inj hv
      have hr := vcells_spec e2 hc
      obtain ⟨hlen, _⟩ := relVL_get hr
      have hlen' : (a.eval y).cells.size = n := by rw [← hn, hlen]; simp
      have hpos : 0 < n := by rw [← hn]; exact List.length_pos_iff.mpr hne
      have hthere : ∀ k, k < n → ∃ x, look st' (.cell id (off + k)) = some x := fun k hk => by
        have := List.all_eq_true.1 hall _ (cellsL_mem (id := id) (o := off) hk)
        rw [← hL2 _ (cellsL_mem (id := id) (o := off) hk)] at this
        exact Option.isSome_iff_exists.mp this
      obtain ⟨x0, hx0⟩ := hthere 0 hpos
      obtain ⟨hb, cs, ty', cv, h4, h5, h6⟩ := hs.cells id _ _ hx0
      have hfit : off + n ≤ cs.size := by
        obtain ⟨x1, hx1⟩ := hthere (n - 1) (by omega)
        obtain ⟨_, cs', ty'', cv', h4', h5', _⟩ := hs.cells id _ _ hx1
        rw [h4] at h4'
        obtain ⟨rfl, rfl⟩ : cs = cs' ∧ ty' = ty'' := by simpa using h4'
        have := (Array.getElem?_eq_some_iff.1 h5').1
        omega
      obtain ⟨_, hsz, _⟩ := kd_spec hk
      have hst := run_storeCells_at P (G.μ id) off ty' (a.eval y).cells.toList 0 cs w h4 (by simp [hlen']; exact hfit) (relVL_one hr h1)
      have e3 : a.eval x = .pointer (some ⟨G.μ id, off, none⟩) := e1
      show Oper.upon P _ a K Q ((execOp a.eval _).run P w)
      have hrun : (execOp a.eval (⟨none, .store t x y, ty, pos, af, g⟩ : Oper)).run P w = .ok .skip (w.setRow (G.μ id) (splice cs off (a.eval y).cells.toList)) := by
        simp only [execOp, e3, Instr.storeAt, Instr.sureAddr, storeVar, Sem.run_bind, Sem.run_pure, Result.andThen_ok, hsz, hlen', ne_eq, not_true_eq_false, if_false, hst]
        simp [splice]
      rw [hrun]
      show K (a.put none undef) _
      exact hK _ _ _ (hs.store hr hb h4 (by simp [hlen']; exact hfit))
    · cases hv
  | _ => simp [stW] at hv
theorem f_nil {v : V} (hx : ev st x = some v) (hn : (match v with | .ptr _ _ => true | .mptr _ _ _ => true | .fn _ _ => true | .d (.eptr _) => true | .d (.sc (.pointer (some _))) => true | .d (.sc (.func (.func _) _ _)) => true | _ => false) = true) (hd : d < E.N) :
    FOk P E ⟨some d, .nilCheck x, ty, pos, af, g⟩ st (evL x) [] [(.slot d, some v)] :=
  fok_val rfl hd fun st' G a w hL hs => by
    have e1 := hs.ev ((ev_same hL fun l h => h).trans hx)
    refine ⟨a.eval x, ?_, e1⟩
    cases v with
    | ptr id off => have e2 : a.eval x = _ := e1; simp [execOp, e2]
    | fn f ids => have e2 : a.eval x = _ := e1; simp [execOp, e2]
    | own _ _ _ => cases hn
    | mapp _ => cases hn
    | mo _ _ _ => cases hn
    | agg _ => cases hn
    | tup _ => cases hn
    | cont _ => cases hn
    | contD _ => cases hn
    | mptr id n off => obtain ⟨_, o, e2, _⟩ := e1; simp [execOp, e2]
    | d q =>
      cases q with
      | eptr l => cases hc : a.eval x <;> rw [hc] at e1 <;> cases e1; simp [execOp, hc]
      | sc c =>
        have e2 := rel_sc e1
        cases c <;> first
          | (cases hn; done)
          | skip
        · rename_i p
          cases p with
          | none => cases hn
          | some p => simp [execOp, e2]
        · rename_i fn _ _
          cases fn <;> first
            | (cases hn; done)
            | (simp [execOp, e2])
      | _ => cases hn
def kf (P : Program) (s : TypeId) (k : Nat) : Option Nat :=
  match P.underlying s with
  | some (.struct fs) => match fs[k]? with
    | some f => match P.info? f.type with
      | some i => if i.size = 0 then none else some f.offset
      | none => none
    | none => none
  | _ => none
theorem run_fieldAt {s : TypeId} {k off b o : Nat} (h : kf P s k = some off) : (Instr.fieldAt s (.pointer (some ⟨b, o, none⟩)) k).run P w = .ok (.pointer (some ⟨b, o + off, none⟩)) w := by
  unfold kf at h
  cases hu : P.underlying s with
  | none => simp [hu] at h
  | some u =>
    cases u <;> simp only [hu] at h <;> try (cases h; done)
    rename_i fs
    cases hf : fs[k]? with
    | none => simp [hf] at h
    | some f =>
      cases hi : P.info? f.type with
      | none => simp [hf, hi] at h
      | some i =>
        simp only [hf, hi] at h
        split at h
        · cases h
        · rename_i hz
          obtain rfl := Option.some.inj h
          simp [Instr.fieldAt, run_underlying hu, hf, Instr.sureAddr, fieldPlace, sizeOf, run_typeInfo w hi, hz, add_at]
def faV (off : Nat) : V → Option V
  | .ptr id o => some (.ptr id (o + off))
  | .d (.eptr l) => some (.d (.eptr (l.drop off)))
  | _ => none
theorem relP_drop {S : Stab} {b : Nat} : ∀ {l : List D} {o : Nat} (n : Nat), RelP S l b o → RelP S (l.drop n) b (o + n)
  | l, o, 0, h => h
  | [], o, n + 1, h => .nil
  | _ :: l, o, n + 1, .cons _ _ h => by rw [show o + (n + 1) = o + 1 + n from by omega]; exact relP_drop n h
theorem f_fieldAddr {s : TypeId} {k off : Nat} {p v : V} (hx : ev st x = some p) (hk : kf P s k = some off) (hv : faV off p = some v) (hd : d < E.N) :
    FOk P E ⟨some d, .fieldAddr s x k, ty, pos, af, g⟩ st (evL x) [] [(.slot d, some v)] :=
  fok_val rfl hd fun st' G a w hL hs => by
    have e1 := hs.ev ((ev_same hL fun l h => h).trans hx)
    cases p with
    | ptr id o =>
      have e2 : a.eval x = _ := e1
      obtain rfl := Option.some.inj hv
      exact ⟨_, by simp [execOp, e2, run_fieldAt hk], rfl⟩
    | d q =>
      cases q with
      | eptr l =>
        obtain rfl := Option.some.inj hv
        cases hc : a.eval x <;> rw [hc] at e1 <;> cases e1
        rename_i b o hp
        exact ⟨_, by simp [execOp, hc, run_fieldAt hk], .eptr (relP_drop off hp)⟩
      | _ => cases hv
    | _ => cases hv
end Go.Ab

