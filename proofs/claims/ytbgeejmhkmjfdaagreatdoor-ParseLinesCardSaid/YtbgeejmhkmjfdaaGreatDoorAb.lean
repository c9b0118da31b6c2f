/- What a walk knows of a frame and of memory, without addresses: values, their relation to the model's values, and the one relation that a walk carries. No program. -/
import Derived.WalkKit
namespace Go.Ab
open Go Go.RowKit
set_option linter.unusedVariables false
set_option linter.unusedSimpArgs false
abbrev Stab := Nat → Nat → Option Value
inductive D where
  | sc (v : Value)
  | agg (l : List D)
  | tup (l : List D)
  | list (es : Nat) (l : List D)
  | eptr (l : List D)
  | any
  | ifc (t : TypeId) (d : D)
  | room (es : Nat) (l m : List D)
  | clo (f : FuncId) (l : List D)
  deriving Inhabited
def D.cells : D → List D
  | .agg l => l
  | .sc v => [.sc v]
  | .tup l => [.tup l]
  | .list es l => [.list es l]
  | .eptr l => [.eptr l]
  | .any => [.any]
  | .ifc t d => [.ifc t d]
  | .room es l m => [.room es l m]
  | .clo f l => [.clo f l]
mutual
inductive Rel (S : Stab) : D → Value → Prop
  | sc (v : Value) : Rel S (.sc v) v
  | agg {l : List D} {cs : List Value} : RelL S l cs → Rel S (.agg l) (.agg ⟨cs⟩)
  | tup {l : List D} {cs : List Value} : RelL S l cs → Rel S (.tup l) (.tuple ⟨cs⟩)
  | list {es : Nat} {l : List D} {b o cap : Nat} : l.length ≤ cap → RelE S es l b o → Rel S (.list es l) (.slice (some ⟨b, o, none⟩) l.length cap)
  | lnil {es : Nat} : Rel S (.list es []) (.slice none 0 0)
  | eptr {l : List D} {b o : Nat} : RelP S l b o → Rel S (.eptr l) (.pointer (some ⟨b, o, none⟩))
  | any {v : Value} : v.oneCell' = true → Rel S .any v
  | ifc {t : TypeId} {d : D} {v : Value} : Rel S d v → Rel S (.ifc t d) (.iface t v)
  | room {es : Nat} {l m : List D} {b o cap : Nat} : l.length + m.length ≤ cap → RelE S es (l ++ m) b o → Rel S (.room es l m) (.slice (some ⟨b, o, none⟩) l.length cap)
  | clo {f : FuncId} {l : List D} {cs : List Value} : RelL S l cs → Rel S (.clo f l) (.func (.func f) #[] ⟨cs⟩)
inductive RelL (S : Stab) : List D → List Value → Prop
  | nil : RelL S [] []
  | cons {d : D} {v : Value} {l : List D} {vs : List Value} : Rel S d v → RelL S l vs → RelL S (d :: l) (v :: vs)
/-- Elements of so many cells each, one behind the other from a place on. -/
inductive RelE (S : Stab) : Nat → List D → Nat → Nat → Prop
  | nil {es b o : Nat} : RelE S es [] b o
  | cons {es : Nat} {d : D} {l : List D} {b o : Nat} : d.cells.length = es → RelP S d.cells b o → RelE S es l b (o + es) → RelE S es (d :: l) b o
/-- Cells, one behind the other. -/
inductive RelP (S : Stab) : List D → Nat → Nat → Prop
  | nil {b o : Nat} : RelP S [] b o
  | cons {d : D} {v : Value} {l : List D} {b o : Nat} : S b o = some v → Rel S d v → RelP S l b (o + 1) → RelP S (d :: l) b o
end
def Stab.le (S S' : Stab) : Prop := ∀ b o v, S b o = some v → S' b o = some v
theorem Stab.le.refl (S : Stab) : S.le S := fun _ _ _ h => h
theorem Stab.le.trans {S S' S'' : Stab} (h : S.le S') (h' : S'.le S'') : S.le S'' := fun b o v e => h' b o v (h b o v e)
mutual
theorem Rel.mono {S S' : Stab} (h : S.le S') : {d : D} → {v : Value} → Rel S d v → Rel S' d v
  | _, _, .sc v => .sc v
  | _, _, .agg hl => .agg (RelL.mono h hl)
  | _, _, .tup hl => .tup (RelL.mono h hl)
  | _, _, .list hc he => .list hc (RelE.mono h he)
  | _, _, .lnil => .lnil
  | _, _, .eptr hp => .eptr (RelP.mono h hp)
  | _, _, .any hc => .any hc
  | _, _, .ifc hd => .ifc (Rel.mono h hd)
  | _, _, .room hc he => .room hc (RelE.mono h he)
  | _, _, .clo hl => .clo (RelL.mono h hl)
theorem RelL.mono {S S' : Stab} (h : S.le S') : {l : List D} → {vs : List Value} → RelL S l vs → RelL S' l vs
  | _, _, .nil => .nil
  | _, _, .cons hd hl => .cons (Rel.mono h hd) (RelL.mono h hl)
theorem RelE.mono {S S' : Stab} (h : S.le S') : {es : Nat} → {l : List D} → {b o : Nat} → RelE S es l b o → RelE S' es l b o
  | _, _, _, _, .nil => .nil
  | _, _, _, _, .cons hn hp hl => .cons hn (RelP.mono h hp) (RelE.mono h hl)
theorem RelP.mono {S S' : Stab} (h : S.le S') : {l : List D} → {b o : Nat} → RelP S l b o → RelP S' l b o
  | _, _, _, .nil => .nil
  | _, _, _, .cons hs hd hl => .cons (h _ _ _ hs) (Rel.mono h hd) (RelP.mono h hl)
end
inductive V where
  | d (x : D)
  | ptr (id off : Nat)
  | mapp (id : Nat)
  | fn (f : FuncId) (ids : List Nat)
  | own (id es : Nat) (l : List D)
  | mo (id es n : Nat)
  | mptr (id n off : Nat)
  | agg (l : List V)
  | tup (l : List V)
  | cont (l : List V)
  | contD (l : List D)
  deriving Inhabited
def V.contL : V → Option (List V)
  | .cont l => some l
  | .contD l => some (l.map .d)
  | _ => none
structure Gh where
  S : Stab
  μ : Nat → Nat
  tb : Nat → Nat
  tk : Nat → Bool
  te : Nat → Nat
  tz : Nat → Nat
mutual
def RelV (G : Gh) : V → Value → Prop
  | .d x, u => Rel G.S x u
  | .ptr id off, u => u = .pointer (some ⟨G.μ id, off, none⟩)
  | .mapp id, u => u = .map (some (G.μ id))
  | .fn f ids, u => u = .func (.func f) #[] ((ids.map fun i => Value.pointer (some ⟨G.μ i, 0, none⟩)).toArray)
  | .own id es l, u => (G.tk id = false ∧ l = [] ∧ u = .slice none 0 0) ∨
      (G.tk id = true ∧ ∃ o cap, u = .slice (some ⟨G.tb id, o, none⟩) l.length cap ∧ l.length ≤ cap ∧ RelE G.S es l (G.tb id) o ∧ G.te id = o + l.length * es ∧ G.tz id = o + cap * es)
  | .mo id es n, u => (G.tk id = false ∧ n = 0 ∧ u = .slice none 0 0) ∨
      (G.tk id = true ∧ ∃ o cap, u = .slice (some ⟨G.tb id, o, none⟩) n cap ∧ n ≤ cap ∧ G.te id = o + n * es ∧ G.tz id = o + cap * es)
  | .mptr id n off, u => G.tk id = true ∧ ∃ o, u = .pointer (some ⟨G.tb id, o + off, none⟩) ∧ G.te id = o + n
  | .agg l, u => ∃ cs : List Value, u = .agg ⟨cs⟩ ∧ RelVL G l cs
  | .tup l, u => ∃ cs : List Value, u = .tuple ⟨cs⟩ ∧ RelVL G l cs
  | .cont _, _ => False
  | .contD _, _ => False
def RelVL (G : Gh) : List V → List Value → Prop
  | [], us => us = []
  | v :: vs, us => ∃ u r, us = u :: r ∧ RelV G v u ∧ RelVL G vs r
end
mutual
/-- Does a value leave a variable's number alone? -/
def V.free (id : Nat) : V → Bool
  | .d _ => true
  | .ptr i _ => !(i == id)
  | .mapp i => !(i == id)
  | .fn _ ids => ids.all fun i => !(i == id)
  | .own i _ _ => !(i == id)
  | .mo i _ _ => !(i == id)
  | .mptr i _ _ => !(i == id)
  | .agg l => V.frees id l
  | .tup l => V.frees id l
  | .cont l => V.frees id l
  | .contD _ => true
def V.frees (id : Nat) : List V → Bool
  | [] => true
  | v :: l => v.free id && V.frees id l
end
theorem frees_d (id : Nat) : ∀ l : List D, V.frees id (l.map .d) = true
  | [] => by simp only [List.map_nil, V.frees]
  | x :: l => by simp only [List.map_cons, V.frees, V.free, frees_d id l, Bool.and_self]
theorem free_contL {id : Nat} {v : V} {l : List V} (h : v.free id = true) (hc : v.contL = some l) : V.frees id l = true := by
  cases v with
  | cont l0 => cases hc; simpa only [V.free] using h
  | contD ds => cases hc; exact frees_d id ds
  | _ => cases hc
inductive Loc where
  | slot (t : Nat)
  | cell (id off : Nat)
  | box (id : Nat)
  | tip (id : Nat)
  | iter (id : Nat)
  | old (k : Nat)
  deriving DecidableEq, Inhabited
def Loc.eqb : Loc → Loc → Bool
  | .slot a, .slot b => a == b
  | .cell a b, .cell c d => a == c && b == d
  | .box a, .box b => a == b
  | .tip a, .tip b => a == b
  | .iter a, .iter b => a == b
  | .old a, .old b => a == b
  | _, _ => false
theorem Loc.eqb_iff (a b : Loc) : a.eqb b = true ↔ a = b := by
  cases a <;> cases b <;> simp [Loc.eqb]
abbrev St := List (Loc × Option V)
def look : St → Loc → Option V
  | [], _ => none
  | e :: r, k => match e.1.eqb k with
    | true => e.2
    | false => look r k
theorem look_cons (e : Loc × Option V) (r : St) (k : Loc) : look (e :: r) k = if e.1 = k then e.2 else look r k := by
  by_cases h : e.1 = k
  · rw [if_pos h]; simp only [look, (Loc.eqb_iff _ _).2 h]
  · rw [if_neg h]; simp only [look, show e.1.eqb k = false from by rw [Bool.eq_false_iff]; exact fun c => h ((Loc.eqb_iff _ _).1 c)]
theorem look_same (k : Loc) (v : Option V) (r : St) : look ((k, v) :: r) k = v := by rw [look_cons, if_pos rfl]
theorem look_ne {k k' : Loc} (v : Option V) (r : St) (h : k ≠ k') : look ((k, v) :: r) k' = look r k' := by rw [look_cons, if_neg h]
def St.unused (id : Nat) (st : St) : Bool :=
  st.all fun e => (match e.1 with | .box i | .cell i _ | .iter i | .tip i => !(i == id) | .slot _ | .old _ => true) && (match e.2 with | some v => v.free id | none => true)
structure KW (w0 : World) (outs : List Nat) (w : World) : Prop where
  os : w.os = w0.os
  tape : w.tape = w0.tape
  output : w.output = w0.output
  size : w0.heap.size ≤ w.heap.size
  frame : ∀ k, k < w0.heap.size → k ∉ outs → w.heap[k]? = w0.heap[k]?
structure Env where
  w0 : World
  outs : List Nat
  fix : List (Nat × Nat)
  S0 : Stab
  N : Nat
  Γ : World → Prop
  stab : ∀ w, KW w0 outs w → Γ w
  keep : Array Value
abbrev OS := ByteArray ⊕ List (ByteArray × Value)
def itD : OS → D
  | .inl s => .sc (.string s)
  | .inr es => .agg (es.map fun e => .tup [.sc (.string e.1), .sc e.2])
def itV (s : OS) (pos : Nat) : V := .d (.tup [itD s, .sc (.int .i64 (pos : Int))])
def entsOf : List (ByteArray × Value) → Nat → List MapEntry
  | [], _ => []
  | e :: r, i => { key := .string e.1, val := e.2, born := i } :: entsOf r (i + 1)
def itO : OS → Nat → Obj
  | .inl s, p => .stringIter s p
  | .inr es, n => .map (entsOf es 0).toArray n
theorem itO_ne {s : OS} {n : Nat} {c : Array Value} {t : TypeId} {f : Nat × Nat} (h : some (itO s n) = some (.cells c t f)) : False := by cases s <;> cases h
theorem itV_str {sx : ByteArray} {p q : Nat} {s : OS} (h : itV (.inl sx) p = itV s q) : s = .inl sx ∧ p = q := by
  cases s with
  | inl s =>
    simp only [itV, itD, V.d.injEq, D.tup.injEq, List.cons.injEq, D.sc.injEq, Value.string.injEq, Value.int.injEq] at h
    exact ⟨by rw [h.1], by omega⟩
  | inr es => simp [itV, itD] at h
theorem itV_map {es : List (ByteArray × Value)} {p q : Nat} {s : OS} (h : itV (.inr es) p = itV s q) : s = .inr es ∧ p = q := by
  cases s with
  | inl s => simp [itV, itD] at h
  | inr fs =>
    simp only [itV, itD, V.d.injEq, D.tup.injEq, List.cons.injEq, D.sc.injEq, D.agg.injEq, Value.int.injEq] at h
    refine ⟨?_, by omega⟩
    have h1 := h.1
    have key : ∀ (a b : List (ByteArray × Value)), a.map (fun e => D.tup [.sc (.string e.1), .sc e.2]) = b.map (fun e => D.tup [.sc (.string e.1), .sc e.2]) → a = b := by
      intro a
      induction a with
      | nil => intro b hb; cases b with
        | nil => rfl
        | cons y b => simp at hb
      | cons x a ih => intro b hb; cases b with
        | nil => simp at hb
        | cons y b =>
          simp only [List.map_cons, List.cons.injEq, D.tup.injEq, D.sc.injEq, Value.string.injEq, and_true] at hb
          obtain ⟨⟨e1, e2⟩, e3⟩ := hb
          rw [ih b e3, show x = y from Prod.ext e1 e2]
    rw [key _ _ h1]
structure Sim (E : Env) (st : St) (G : Gh) (a : Act) (w : World) : Prop where
  kw : KW E.w0 E.outs w
  s0 : E.S0.le G.S
  snew : ∀ b o v, G.S b o = some v → E.S0 b o = some v ∨ E.w0.heap.size ≤ b ∨ b ∈ E.outs
  tmps : a.tmps.size = E.N
  defers : a.defers = []
  slots : ∀ t v, look st (.slot t) = some v → RelV G v (a.tmps.getD t undef)
  cells : ∀ id off v, look st (.cell id off) = some v → look st (.box id) ≠ none ∧ ∃ cs ty cv, w.heap[G.μ id]? = some (.cells cs ty (0, 0)) ∧ cs[off]? = some cv ∧ RelV G v cv
  boxes : ∀ id, look st (.box id) ≠ none → (E.w0.heap.size ≤ G.μ id ∨ G.μ id ∈ E.outs) ∧ G.μ id < w.heap.size ∧ ∀ o, G.S (G.μ id) o = none
  inj : ∀ i j, look st (.box i) ≠ none → look st (.box j) ≠ none → G.μ i = G.μ j → i = j
  stable : ∀ b o v, G.S b o = some v → w.cell? ⟨b, o, none⟩ = some v
  tips : ∀ i, look st (.tip i) ≠ none → G.tk i = true → (E.w0.heap.size ≤ G.tb i ∨ G.tb i ∈ E.outs) ∧ (∃ cs ty, w.heap[G.tb i]? = some (.cells cs ty (0, 0)) ∧ G.tz i ≤ cs.size) ∧ (∀ o, G.te i ≤ o → G.S (G.tb i) o = none) ∧ ∀ j, look st (.box j) ≠ none → G.μ j ≠ G.tb i
  tinj : ∀ i j, look st (.tip i) ≠ none → look st (.tip j) ≠ none → G.tk i = true → G.tk j = true → G.tb i = G.tb j → i = j
  rcv : ∀ p ∈ E.fix, E.N ≤ p.1 ∧ (look st (.box p.1) ≠ none → G.μ p.1 = p.2)
  conts : ∀ i q l, look st (.tip i) = some q → q.contL = some l → G.tk i = true → (∀ o, G.S (G.tb i) o = none) ∧ ∃ o us cs ty, w.heap[G.tb i]? = some (.cells cs ty (0, 0)) ∧ o + l.length = G.te i ∧ G.te i ≤ cs.size ∧ RelVL G l us ∧ ∀ k u, us[k]? = some u → cs[o + k]? = some u
  iters : ∀ i v, look st (.iter i) = some v → look st (.box i) ≠ none ∧ ∃ s pos, v = itV s pos ∧ w.heap[G.μ i]? = some (itO s pos)
  olds : ∀ k v, look st (.old k) = some v → RelV G v (E.keep.getD k undef)
variable {E : Env} {st : St} {G : Gh} {a : Act} {w : World}
theorem Sim.size (h : Sim E st G a w) : E.w0.heap.size ≤ w.heap.size := h.kw.size
theorem KW.below {w0 w w' : World} {outs : List Nat} (h : KW w0 outs w) (hb : Below w.heap.size w w') : KW w0 outs w' :=
  ⟨hb.os.trans h.os, hb.tape.trans h.tape, hb.output.trans h.output, Nat.le_trans h.size hb.size, fun k hk ho => (hb.block k (Nat.lt_of_lt_of_le hk h.size)).trans (h.frame k hk ho)⟩
theorem lt_of_block {w : World} {b : Nat} {o : Obj} (h : w.heap[b]? = some o) : b < w.heap.size := by
  rcases Nat.lt_or_ge b w.heap.size with h' | h'
  · exact h'
  · rw [Array.getElem?_eq_none h'] at h; cases h
theorem block_of_cell {w : World} {b o : Nat} {v : Value} (h : w.cell? ⟨b, o, none⟩ = some v) : ∃ cs ty fr, w.heap[b]? = some (.cells cs ty fr) ∧ cs[o]? = some v := by
  unfold World.cell? at h
  split at h
  · rename_i c t f e
    exact ⟨c, t, f, e, by simpa using h⟩
  · cases h
theorem cell_of_block {w : World} {b o : Nat} {cs : Array Value} {ty : TypeId} {fr : Nat × Nat} (h : w.heap[b]? = some (.cells cs ty fr)) : w.cell? ⟨b, o, none⟩ = cs[o]? := by
  unfold World.cell?
  simp only [h]
  rfl
theorem lt_of_cell {w : World} {b o : Nat} {v : Value} (h : w.cell? ⟨b, o, none⟩ = some v) : b < w.heap.size := by
  obtain ⟨cs, ty, fr, e, _⟩ := block_of_cell h
  exact lt_of_block e
structure Gh.ext (G G' : Gh) (id : Nat) : Prop where
  S : G.S.le G'.S
  μ : ∀ i, i ≠ id → G'.μ i = G.μ i
  tb : G'.tb = G.tb
  tk : G'.tk = G.tk
  te : G'.te = G.te
  tz : G'.tz = G.tz
mutual
theorem RelV.ext {G G' : Gh} {id : Nat} (h : G.ext G' id) : ∀ {v : V} {u : Value}, v.free id = true → RelV G v u → RelV G' v u
  | .d x, _, _, hr => by simp only [RelV] at *; exact Rel.mono h.S hr
  | .ptr i off, _, hf, hr => by
    have hi : i ≠ id := by simpa [V.free] using hf
    simp only [RelV] at *
    rw [h.μ i hi]; exact hr
  | .mapp i, _, hf, hr => by
    have hi : i ≠ id := by simpa [V.free] using hf
    simp only [RelV] at *
    rw [h.μ i hi]; exact hr
  | .fn f ids, _, hf, hr => by
    simp only [RelV] at *
    rw [hr]
    congr 2
    apply List.map_congr_left
    intro i hi
    have : i ≠ id := by
      simp only [V.free] at hf
      have := List.all_eq_true.1 hf i hi
      simpa using this
    rw [h.μ i this]
  | .own i es l, _, _, hr => by
    simp only [RelV] at *
    rw [h.tb, h.tk, h.te, h.tz]
    rcases hr with hr | ⟨h1, o, cap, h2, h3, h4, h5⟩
    · exact .inl hr
    · exact .inr ⟨h1, o, cap, h2, h3, RelE.mono h.S h4, h5⟩
  | .mo i es n, _, _, hr => by
    simp only [RelV] at *
    rw [h.tb, h.tk, h.te, h.tz]; exact hr
  | .mptr i n off, _, _, hr => by
    simp only [RelV] at *
    rw [h.tb, h.tk, h.te]; exact hr
  | .agg l, _, hf, hr => by
    simp only [RelV, V.free] at *
    obtain ⟨cs, h1, h2⟩ := hr
    exact ⟨cs, h1, RelVL.ext h hf h2⟩
  | .tup l, _, hf, hr => by
    simp only [RelV, V.free] at *
    obtain ⟨cs, h1, h2⟩ := hr
    exact ⟨cs, h1, RelVL.ext h hf h2⟩
  | .cont l, _, _, hr => by simp only [RelV] at hr
  | .contD l, _, _, hr => by simp only [RelV] at hr
theorem RelVL.ext {G G' : Gh} {id : Nat} (h : G.ext G' id) : ∀ {l : List V} {us : List Value}, V.frees id l = true → RelVL G l us → RelVL G' l us
  | [], _, _, hr => by simp only [RelVL] at *; exact hr
  | v :: l, _, hf, hr => by
    simp only [RelVL, V.frees, Bool.and_eq_true] at *
    obtain ⟨u, r, h1, h2, h3⟩ := hr
    exact ⟨u, r, h1, RelV.ext h hf.1 h2, RelVL.ext h hf.2 h3⟩
end
mutual
theorem RelV.monoS {G : Gh} {S' : Stab} (h : G.S.le S') : ∀ {v : V} {u : Value}, RelV G v u → RelV { G with S := S' } v u
  | .d x, _, hr => by simp only [RelV] at *; exact Rel.mono h hr
  | .ptr i off, _, hr => by simp only [RelV] at *; exact hr
  | .mapp i, _, hr => by simp only [RelV] at *; exact hr
  | .fn f ids, _, hr => by simp only [RelV] at *; exact hr
  | .own i es l, _, hr => by
    simp only [RelV] at *
    rcases hr with hr | ⟨h1, o, cap, h2, h3, h4, h5⟩
    · exact .inl hr
    · exact .inr ⟨h1, o, cap, h2, h3, RelE.mono h h4, h5⟩
  | .mo i es n, _, hr => by simp only [RelV] at *; exact hr
  | .mptr i n off, _, hr => by simp only [RelV] at *; exact hr
  | .agg l, _, hr => by
    simp only [RelV] at *
    obtain ⟨cs, h1, h2⟩ := hr
    exact ⟨cs, h1, RelVL.monoS h h2⟩
  | .tup l, _, hr => by
    simp only [RelV] at *
    obtain ⟨cs, h1, h2⟩ := hr
    exact ⟨cs, h1, RelVL.monoS h h2⟩
  | .cont l, _, hr => by simp only [RelV] at hr
  | .contD l, _, hr => by simp only [RelV] at hr
theorem RelVL.monoS {G : Gh} {S' : Stab} (h : G.S.le S') : ∀ {l : List V} {us : List Value}, RelVL G l us → RelVL { G with S := S' } l us
  | [], _, hr => by simp only [RelVL] at *; exact hr
  | v :: l, _, hr => by
    simp only [RelVL] at *
    obtain ⟨u, r, h1, h2, h3⟩ := hr
    exact ⟨u, r, h1, RelV.monoS h h2, RelVL.monoS h h3⟩
end
theorem unused_slot {st : St} {id t : Nat} {v : V} (h : st.unused id = true) (hl : look st (.slot t) = some v) : v.free id = true := by
  induction st with
  | nil => cases hl
  | cons e r ih =>
    simp only [St.unused, List.all_cons, Bool.and_eq_true] at h
    rw [look_cons] at hl
    split at hl
    · rw [hl] at h; exact h.1.2
    · exact ih h.2 hl
theorem unused_cell {st : St} {id i off : Nat} {v : V} (h : st.unused id = true) (hl : look st (.cell i off) = some v) : v.free id = true ∧ i ≠ id := by
  induction st with
  | nil => cases hl
  | cons e r ih =>
    simp only [St.unused, List.all_cons, Bool.and_eq_true] at h
    rw [look_cons] at hl
    split at hl
    · rename_i he
      rw [hl] at h
      rw [he] at h
      exact ⟨h.1.2, by simpa using h.1.1⟩
    · exact ih h.2 hl
theorem unused_old {st : St} {id i : Nat} {v : V} (h : st.unused id = true) (hl : look st (.old i) = some v) : v.free id = true := by
  induction st with
  | nil => cases hl
  | cons e r ih =>
    simp only [St.unused, List.all_cons, Bool.and_eq_true] at h
    rw [look_cons] at hl
    split at hl
    · rw [hl] at h; exact h.1.2
    · exact ih h.2 hl
theorem unused_tip {st : St} {id i : Nat} {v : V} (h : st.unused id = true) (hl : look st (.tip i) = some v) : v.free id = true := by
  induction st with
  | nil => cases hl
  | cons e r ih =>
    simp only [St.unused, List.all_cons, Bool.and_eq_true] at h
    rw [look_cons] at hl
    split at hl
    · rw [hl] at h; exact h.1.2
    · exact ih h.2 hl
theorem unused_iter {st : St} {id i : Nat} {v : V} (h : st.unused id = true) (hl : look st (.iter i) = some v) : i ≠ id := by
  induction st with
  | nil => cases hl
  | cons e r ih =>
    simp only [St.unused, List.all_cons, Bool.and_eq_true] at h
    rw [look_cons] at hl
    split at hl
    · rename_i he
      rw [he] at h
      simpa using h.1.1
    · exact ih h.2 hl
def St.kept : St → St → Prop
  | [], _ => True
  | e :: r, st => look st e.1 = e.2 ∧ St.kept r st
def St.boxed (st : St) : Bool := st.all fun e => match e with
  | (.cell i _, some _) => (look st (.box i)).isSome
  | (.iter i, some _) => (look st (.box i)).isSome
  | _ => true
theorem kept_look {st' st : St} (h : st'.kept st) {k : Loc} {v : V} (hl : look st' k = some v) : look st k = some v := by
  induction st' with
  | nil => cases hl
  | cons e r ih =>
    rw [look_cons] at hl
    split at hl
    · rename_i he; rw [← he, ← hl]; exact h.1
    · exact ih h.2 hl
theorem boxed_look_aux {st r : St} (h : (r.all fun e => match e with | (.cell i _, some _) => (look st (.box i)).isSome | (.iter i, some _) => (look st (.box i)).isSome | _ => true) = true) {i off : Nat} {v : V} (hl : look r (.cell i off) = some v) :
    look st (.box i) ≠ none := by
  induction r with
  | nil => cases hl
  | cons e r ih =>
    simp only [List.all_cons, Bool.and_eq_true] at h
    rw [look_cons] at hl
    split at hl
    · rename_i he
      obtain ⟨k, x⟩ := e
      simp only at he hl
      subst he hl
      intro hn
      simp [hn] at h
    · exact ih h.2 hl
theorem boxed_look_iter {st r : St} (h : (r.all fun e => match e with | (.cell i _, some _) => (look st (.box i)).isSome | (.iter i, some _) => (look st (.box i)).isSome | _ => true) = true) {i : Nat} {v : V} (hl : look r (.iter i) = some v) :
    look st (.box i) ≠ none := by
  induction r with
  | nil => cases hl
  | cons e r ih =>
    simp only [List.all_cons, Bool.and_eq_true] at h
    rw [look_cons] at hl
    split at hl
    · rename_i he
      obtain ⟨k, x⟩ := e
      simp only at he hl
      subst he hl
      intro hn
      simp [hn] at h
    · exact ih h.2 hl
theorem Sim.keep {st' : St} (h : Sim E st G a w) (hk : st'.kept st) (hb : st'.boxed = true) : Sim E st' G a w := by
  have ne : ∀ {k}, look st' k ≠ none → look st k ≠ none := fun {k} hn => by
    cases hv : look st' k with
    | none => exact absurd hv hn
    | some v => rw [kept_look hk hv]; simp
  refine ⟨h.kw, h.s0, h.snew, h.tmps, h.defers, fun t v hl => h.slots t v (kept_look hk hl), fun i o v hl => ⟨boxed_look_aux hb hl, (h.cells i o v (kept_look hk hl)).2⟩,
    fun i hi => h.boxes i (ne hi), fun i j hi hj => h.inj i j (ne hi) (ne hj), h.stable, fun i hi ht => ?_, fun i j hi hj => h.tinj i j (ne hi) (ne hj), fun p hp => ⟨(h.rcv p hp).1, fun hi => (h.rcv p hp).2 (ne hi)⟩, fun i qv l hl hcl ht => h.conts i qv l (kept_look hk hl) hcl ht, fun i v hl => ⟨boxed_look_iter hb hl, (h.iters i v (kept_look hk hl)).2⟩, fun k v hl => h.olds k v (kept_look hk hl)⟩
  obtain ⟨h1, h2, h3, h4⟩ := h.tips i (ne hi) ht
  exact ⟨h1, h2, h3, fun j hj => h4 j (ne hj)⟩
theorem getD_set_same (l : Array Value) (d : Nat) (v u : Value) (h : d < l.size) : (l.setIfInBounds d v).getD d u = v := by
  simp [Array.getD, h]
theorem getD_set_other (l : Array Value) {d t : Nat} (v u : Value) (h : d ≠ t) : (l.setIfInBounds d v).getD t u = l.getD t u := by
  simp [Array.getElem?_setIfInBounds_ne h]
theorem Sim.put {d : Nat} {v : V} {u : Value} (h : Sim E st G a w) (hd : d < E.N) (hv : RelV G v u) : Sim E ((.slot d, some v) :: st) G (a.put (some d) u) w := by
  have e1 : ∀ i, look ((Loc.slot d, some v) :: st) (.box i) = look st (.box i) := fun i => look_ne _ _ (by simp)
  have e2 : ∀ i, look ((Loc.slot d, some v) :: st) (.tip i) = look st (.tip i) := fun i => look_ne _ _ (by simp)
  have e3 : ∀ i o, look ((Loc.slot d, some v) :: st) (.cell i o) = look st (.cell i o) := fun i o => look_ne _ _ (by simp)
  refine ⟨h.kw, h.s0, h.snew, by simp [Act.put, h.tmps], h.defers, fun t x hl => ?_, fun i o x hl => ?_, fun i hi => ?_, fun i j hi hj => ?_, h.stable, fun i hi ht => ?_, fun i j hi hj => ?_, fun p hp => ⟨(h.rcv p hp).1, fun hi => (h.rcv p hp).2 (by rw [e1] at hi; exact hi)⟩, fun i qv l hl hcl ht => h.conts i qv l (by rw [e2] at hl; exact hl) hcl ht, fun i v hl => by rw [look_ne _ _ (by simp)] at hl; rw [e1]; exact h.iters i v hl, fun k v hl => h.olds k v (by rw [look_ne _ _ (by simp)] at hl; exact hl)⟩
  · rw [look_cons] at hl
    split at hl
    · rename_i he
      obtain rfl : d = t := by simpa using he
      obtain rfl := Option.some.inj hl
      show RelV G v ((a.tmps.setIfInBounds d u).getD d undef)
      rw [getD_set_same _ _ _ _ (by rw [h.tmps]; exact hd)]
      exact hv
    · rename_i he
      have he' : d ≠ t := fun c => he (by rw [c])
      show RelV G x ((a.tmps.setIfInBounds d u).getD t undef)
      rw [getD_set_other _ _ _ he']
      exact h.slots t x hl
  · rw [e3] at hl; rw [e1]; exact h.cells i o x hl
  · rw [e1] at hi; exact h.boxes i hi
  · rw [e1] at hi hj; exact h.inj i j hi hj
  · rw [e2] at hi
    obtain ⟨h1, h2, h3, h4⟩ := h.tips i hi ht
    exact ⟨h1, h2, h3, fun j hj => h4 j (by rw [e1] at hj; exact hj)⟩
  · rw [e2] at hi hj; exact h.tinj i j hi hj
theorem Sim.later {w' : World} {S' : Stab} (h : Sim E st G a w) (hb : Below w.heap.size w w') (hS : G.S.le S')
    (hnew : ∀ b o v, S' b o = some v → G.S b o = some v ∨ (w.heap.size ≤ b ∧ w'.cell? ⟨b, o, none⟩ = some v)) : Sim E st { G with S := S' } a w' := by
  have none' : ∀ {b o}, b < w.heap.size → G.S b o = none → S' b o = none := fun {b o} hlt hn => by
    cases hv : S' b o with
    | none => rfl
    | some v =>
      rcases hnew b o v hv with h1 | ⟨h1, _⟩
      · rw [hn] at h1; cases h1
      · omega
  refine ⟨h.kw.below hb, h.s0.trans hS, fun b o v hv => (hnew b o v hv).elim (h.snew b o v) (fun q => .inr (.inl (Nat.le_trans h.size q.1))), h.tmps, h.defers,
    fun t v hl => (h.slots t v hl).monoS hS, fun i o v hl => ?_, fun i hi => ?_, h.inj, fun b o v hv => ?_, fun i hi ht => ?_, h.tinj, h.rcv, fun i qv l hl hcl ht => ?_, fun i v hl => by obtain ⟨q1, s, pos, q2, q3⟩ := h.iters i v hl; exact ⟨q1, s, pos, q2, (hb.block _ (lt_of_block q3)).trans q3⟩, fun k v hl => (h.olds k v hl).monoS hS⟩
  · obtain ⟨hx, cs, ty, cv, h1, h2, h3⟩ := h.cells i o v hl
    exact ⟨hx, cs, ty, cv, (hb.block _ (lt_of_block h1)).trans h1, h2, h3.monoS hS⟩
  · obtain ⟨h1, h2, h3⟩ := h.boxes i hi
    exact ⟨h1, Nat.lt_of_lt_of_le h2 hb.size, fun o => none' h2 (h3 o)⟩
  · rcases hnew b o v hv with h1 | ⟨_, h1⟩
    · have h2 := h.stable b o v h1
      rw [← h2]
      exact hb.cell (lt_of_cell h2)
    · exact h1
  · obtain ⟨h1, ⟨cs, ty, h2, h3⟩, h4, h5⟩ := h.tips i hi ht
    have hlt := lt_of_block h2
    exact ⟨h1, ⟨cs, ty, (hb.block _ hlt).trans h2, h3⟩, fun o ho => none' hlt (h4 o ho), h5⟩
  · obtain ⟨q1, o, us, cs, ty, q2, q3, q4, q5, q6⟩ := h.conts i qv l hl hcl ht
    have hlt := lt_of_block q2
    exact ⟨fun o => none' hlt (q1 o), o, us, cs, ty, (hb.block _ hlt).trans q2, q3, q4, q5.monoS hS, q6⟩
theorem Sim.later0 {w' : World} (h : Sim E st G a w) (hb : Below w.heap.size w w') : Sim E st G a w' := h.later hb (Stab.le.refl _) (fun _ _ _ e => .inl e)
def upd {α : Type} (f : Nat → α) (i : Nat) (x : α) : Nat → α := fun j => if j = i then x else f j
theorem ext_upd (G : Gh) (id b : Nat) : G.ext { G with μ := upd G.μ id b } id :=
  ⟨Stab.le.refl _, fun i hi => by simp [upd, hi], rfl, rfl, rfl, rfl⟩
def cellRows (id : Nat) : Nat → List V → St
  | _, [] => []
  | k, v :: l => (.cell id k, some v) :: cellRows id (k + 1) l
theorem look_cellRows_cell (id k o : Nat) (vs : List V) (r : St) : look (cellRows id k vs ++ r) (.cell id o) = if k ≤ o ∧ o < k + vs.length then vs[o - k]? else look r (.cell id o) := by
  induction vs generalizing k with
  | nil => simp [cellRows]; intro h1 h2; omega
  | cons v l ih =>
    simp only [cellRows, List.cons_append, look_cons, Loc.cell.injEq, true_and, List.length_cons]
    by_cases h : k = o
    · subst h; simp
    · rw [if_neg h, ih]
      by_cases h' : k + 1 ≤ o ∧ o < k + 1 + l.length
      · rw [if_pos h', if_pos (by omega), show o - k = (o - (k + 1)) + 1 from by omega, List.getElem?_cons_succ]
      · rw [if_neg h', if_neg (by omega)]
theorem look_cellRows_ne (id : Nat) {l : Loc} (h : ∀ o, l ≠ .cell id o) (k : Nat) (vs : List V) (r : St) : look (cellRows id k vs ++ r) l = look r l := by
  induction vs generalizing k with
  | nil => rfl
  | cons v t ih => simp only [cellRows, List.cons_append]; rw [look_ne _ _ (fun c => h k c.symm), ih]
def RelVs (G : Gh) (vs : List V) (cs : Array Value) : Prop := vs.length = cs.size ∧ ∀ (i : Nat) (v : V), vs[i]? = some v → ∃ c, cs[i]? = some c ∧ RelV G v c
theorem Sim.alloc {id : Nat} {vs : List V} {cs : Array Value} {ty : TypeId} (h : Sim E st G a w) (hid : id < E.N) (hu : st.unused id = true) (hvs : RelVs G vs cs) (hf : vs.all (V.free id) = true) :
    Sim E (cellRows id 0 vs ++ (.box id, some (.ptr id 0)) :: st) { G with μ := upd G.μ id w.heap.size } a (w.alloc (.cells cs ty)) := by
  have hx := ext_upd G id w.heap.size
  have hbl : Below w.heap.size w (w.alloc (.cells cs ty)) := (Below.refl _ _).alloc (Nat.le_refl _) _
  have es : ∀ t, look (cellRows id 0 vs ++ (Loc.box id, some (V.ptr id 0)) :: st) (.slot t) = look st (.slot t) := fun t => by
    rw [look_cellRows_ne _ (by simp), look_ne _ _ (by simp)]
  have et : ∀ t, look (cellRows id 0 vs ++ (Loc.box id, some (V.ptr id 0)) :: st) (.tip t) = look st (.tip t) := fun t => by
    rw [look_cellRows_ne _ (by simp), look_ne _ _ (by simp)]
  have eb : ∀ i, i ≠ id → look (cellRows id 0 vs ++ (Loc.box id, some (V.ptr id 0)) :: st) (.box i) = look st (.box i) := fun i hi => by
    rw [look_cellRows_ne _ (by simp), look_ne _ _ (by simp; exact fun c => hi c.symm)]
  have ec : ∀ i o, i ≠ id → look (cellRows id 0 vs ++ (Loc.box id, some (V.ptr id 0)) :: st) (.cell i o) = look st (.cell i o) := fun i o hi => by
    rw [look_cellRows_ne _ (by simp; exact hi), look_ne _ _ (by simp)]
  have self : (upd G.μ id w.heap.size) id = w.heap.size := by simp [upd]
  have oth : ∀ i, i ≠ id → (upd G.μ id w.heap.size) i = G.μ i := fun i hi => by simp [upd, hi]
  have inB : ∀ i, i ≠ id → look (cellRows id 0 vs ++ (Loc.box id, some (V.ptr id 0)) :: st) (.box i) ≠ none → look st (.box i) ≠ none := fun i hi hl => by rw [eb i hi] at hl; exact hl
  refine ⟨h.kw.below hbl, h.s0, h.snew, h.tmps, h.defers, fun t v hl => ?_, fun i o v hl => ?_, fun i hi => ?_, fun i j hi hj => ?_, fun b o v hv => ?_, fun i hi ht => ?_, fun i j hi hj => ?_, fun p hp => ?_, fun i qv l hl hcl ht => ?_, fun i v hl => ?_, fun k v hl => (h.olds k v (by rw [look_cellRows_ne _ (by simp), look_ne _ _ (by simp)] at hl; exact hl)).ext hx (unused_old hu (by rw [look_cellRows_ne _ (by simp), look_ne _ _ (by simp)] at hl; exact hl))⟩
  · rw [es] at hl
    exact (h.slots t v hl).ext hx (unused_slot hu hl)
  · by_cases hi : i = id
    · subst hi
      refine ⟨by rw [look_cellRows_ne _ (by simp), look_same]; simp, ?_⟩
      rw [look_cellRows_cell] at hl
      by_cases hr : 0 ≤ o ∧ o < 0 + vs.length
      · rw [if_pos hr, Nat.sub_zero] at hl
        obtain ⟨c, hc, hrel⟩ := hvs.2 o v hl
        refine ⟨cs, ty, c, ?_, hc, hrel.ext hx (List.all_eq_true.1 hf v (List.mem_of_getElem? hl))⟩
        show (w.heap.push _)[(upd G.μ i w.heap.size) i]? = _
        rw [self, Array.getElem?_push, if_pos rfl]
      · rw [if_neg hr, look_ne _ _ (by simp)] at hl
        exact absurd rfl (unused_cell hu hl).2
    · rw [ec i o hi] at hl
      obtain ⟨hx1, cs', ty', cv, h1, h2, h3⟩ := h.cells i o v hl
      refine ⟨by rw [eb i hi]; exact hx1, cs', ty', cv, ?_, h2, h3.ext hx (unused_cell hu hl).1⟩
      show (w.alloc _).heap[(upd G.μ id w.heap.size) i]? = _
      rw [oth i hi]
      exact (hbl.block _ (lt_of_block h1)).trans h1
  · by_cases hi' : i = id
    · subst hi'
      refine ⟨.inl ?_, ?_, fun o => ?_⟩
      · show E.w0.heap.size ≤ (upd G.μ i w.heap.size) i
        rw [self]; exact h.size
      · show (upd G.μ i w.heap.size) i < (w.heap.push _).size
        rw [self, Array.size_push]; omega
      · show G.S ((upd G.μ i w.heap.size) i) o = none
        rw [self]
        cases hv : G.S w.heap.size o with
        | none => rfl
        | some v => exact absurd (lt_of_cell (h.stable _ _ _ hv)) (by omega)
    · obtain ⟨h1, h2, h3⟩ := h.boxes i (inB i hi' hi)
      show (_ ≤ (upd G.μ id w.heap.size) i ∨ (upd G.μ id w.heap.size) i ∈ E.outs) ∧ (upd G.μ id w.heap.size) i < (w.heap.push _).size ∧ ∀ o, G.S ((upd G.μ id w.heap.size) i) o = none
      rw [oth i hi']
      exact ⟨h1, by rw [Array.size_push]; omega, h3⟩
  · have hj' : ∀ k, k ≠ id → look (cellRows id 0 vs ++ (Loc.box id, some (V.ptr id 0)) :: st) (.box k) ≠ none → G.μ k < w.heap.size := fun k hk hl => (h.boxes k (inB k hk hl)).2.1
    show (upd G.μ id w.heap.size) i = (upd G.μ id w.heap.size) j → i = j
    by_cases hi' : i = id <;> by_cases hjj : j = id
    · intro _; rw [hi', hjj]
    · subst hi'; rw [self, oth j hjj]; intro c; have := hj' j hjj hj; omega
    · subst hjj; rw [self, oth i hi']; intro c; have := hj' i hi' hi; omega
    · rw [oth i hi', oth j hjj]; exact h.inj i j (inB i hi' hi) (inB j hjj hj)
  · have h2 := h.stable b o v hv
    rw [← h2]
    exact hbl.cell (lt_of_cell h2)
  · rw [et] at hi
    obtain ⟨h1, ⟨cs', ty', h2, h3⟩, h4, h5⟩ := h.tips i hi ht
    have hlt := lt_of_block h2
    refine ⟨h1, ⟨cs', ty', (hbl.block _ hlt).trans h2, h3⟩, h4, fun j hj => ?_⟩
    show (upd G.μ id w.heap.size) j ≠ G.tb i
    by_cases hjj : j = id
    · subst hjj; rw [self]; omega
    · rw [oth j hjj]; exact h5 j (inB j hjj hj)
  · rw [et] at hi hj
    exact h.tinj i j hi hj
  · have hn := (h.rcv p hp).1
    have hne : p.1 ≠ id := by omega
    refine ⟨hn, fun hi => ?_⟩
    show (upd G.μ id w.heap.size) p.1 = p.2
    rw [oth p.1 hne]
    exact (h.rcv p hp).2 (inB p.1 hne hi)
  · rw [et] at hl
    obtain ⟨q1, o, us, cs', ty', q2, q3, q4, q5, q6⟩ := h.conts i qv l hl hcl ht
    have hff : V.frees id l = true := free_contL (unused_tip hu hl) hcl
    exact ⟨q1, o, us, cs', ty', (hbl.block _ (lt_of_block q2)).trans q2, q3, q4, q5.ext hx hff, q6⟩
  · rw [look_cellRows_ne _ (by simp), look_ne _ _ (by simp)] at hl
    have hi := unused_iter hu hl
    obtain ⟨q1, s, pos, q2, q3⟩ := h.iters i v hl
    refine ⟨by rw [eb i hi]; exact q1, s, pos, q2, ?_⟩
    show (w.alloc _).heap[(upd G.μ id w.heap.size) i]? = _
    rw [oth i hi]
    exact (hbl.block _ (lt_of_block q3)).trans q3
end Go.Ab
