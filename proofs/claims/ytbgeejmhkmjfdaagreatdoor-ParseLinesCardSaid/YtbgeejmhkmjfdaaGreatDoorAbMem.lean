/- Memory under a walk: a store into the frame's own variables, a new list, one more element behind a list. No program. -/
import Derived.Test.YtbgeejmhkmjfdaaGreatDoorAb
import Derived.Laws.CopyRow
namespace Go.Ab
open Go Go.RowKit
set_option linter.unusedVariables false
set_option linter.unusedSimpArgs false
variable {P : Program} {E : Env} {st : St} {G : Gh} {a : Act} {w : World}
theorem heap_setRow_ne (w : World) (g : Nat) (cs : Array Value) (k : Nat) (h : k ≠ g) : (w.setRow g cs).heap[k]? = w.heap[k]? := by
  simp only [World.setRow, Array.getElem?_modify]
  rw [if_neg (by omega)]
theorem heap_setRow_same {w : World} {g : Nat} {old : Array Value} {ty : TypeId} {fr : Nat × Nat} (cs : Array Value) (h : w.heap[g]? = some (.cells old ty fr)) : (w.setRow g cs).heap[g]? = some (.cells cs ty fr) := by
  simp only [World.setRow, Array.getElem?_modify, h, Option.map_some]
  exact if_pos trivial
theorem cell_setRow_ne (w : World) (g : Nat) (cs : Array Value) {b o : Nat} (h : b ≠ g) : (w.setRow g cs).cell? ⟨b, o, none⟩ = w.cell? ⟨b, o, none⟩ := by
  unfold World.cell?
  rw [heap_setRow_ne w g cs b h]
def splice (old : Array Value) (o : Nat) (us : List Value) : Array Value := (old.toList.take o ++ us ++ old.toList.drop (o + us.length)).toArray
theorem splice_get {old : Array Value} {o : Nat} {us : List Value} (h : o + us.length ≤ old.size) (i : Nat) : (splice old o us)[i]? = if o ≤ i ∧ i < o + us.length then us[i - o]? else old[i]? := by
  unfold splice
  have hl : (old.toList.take o).length = o := by simp; omega
  rw [List.getElem?_toArray, List.append_assoc]
  by_cases h1 : i < o
  · rw [List.getElem?_append_left (by omega), List.getElem?_take, if_pos h1, if_neg (by omega), Array.getElem?_toList]
  · rw [List.getElem?_append_right (by omega), hl]
    by_cases h2 : i < o + us.length
    · rw [List.getElem?_append_left (by omega), if_pos ⟨by omega, h2⟩]
    · rw [List.getElem?_append_right (by omega), List.getElem?_drop, if_neg (by omega), Array.getElem?_toList]
      congr 1
      omega
theorem splice_size {old : Array Value} {o : Nat} {us : List Value} (h : o + us.length ≤ old.size) : (splice old o us).size = old.size := by
  unfold splice
  simp
  omega
theorem relVL_get {G : Gh} : ∀ {vs : List V} {us : List Value}, RelVL G vs us → vs.length = us.length ∧ ∀ (i : Nat) (v : V), vs[i]? = some v → ∃ u, us[i]? = some u ∧ RelV G v u
  | [], us, h => by simp only [RelVL] at h; subst h; exact ⟨rfl, fun i v h => by simp at h⟩
  | v :: vs, us, h => by
    simp only [RelVL] at h
    obtain ⟨u, us, rfl, h1, h2⟩ := h
    obtain ⟨h3, h4⟩ := relVL_get h2
    refine ⟨by simp [h3], fun i x hx => ?_⟩
    cases i with
    | zero => simp at hx; subst hx; exact ⟨u, by simp, h1⟩
    | succ i => simpa using h4 i x (by simpa using hx)
theorem Sim.store {id off : Nat} {vs : List V} {us : List Value} (h : Sim E st G a w) (hv : RelVL G vs us) {old : Array Value} {ty : TypeId} (hb : look st (.box id) ≠ none)
    (hold : w.heap[G.μ id]? = some (.cells old ty (0, 0))) (hfit : off + us.length ≤ old.size) : Sim E (cellRows id off vs ++ st) G a (w.setRow (G.μ id) (splice old off us)) := by
  obtain ⟨hlen, hget⟩ := relVL_get hv
  obtain ⟨hb1, hb2, hb3⟩ := h.boxes id hb
  have es : ∀ l, (∀ o, l ≠ .cell id o) → look (cellRows id off vs ++ st) l = look st l := fun l hl => look_cellRows_ne id hl off vs st
  have ne : ∀ {i}, look st (.box i) ≠ none → i ≠ id → G.μ i ≠ G.μ id := fun hi hne he => hne (h.inj _ _ hi hb he)
  refine ⟨⟨h.kw.os, h.kw.tape, h.kw.output, by rw [setRow_size]; exact h.size, fun k hk ho => ?_⟩, h.s0, h.snew, h.tmps, h.defers, fun t v hl => ?_, fun i o v hl => ?_, fun i hi => ?_, fun i j hi hj => ?_, fun b o v hS => ?_, fun i hi ht => ?_, fun i j hi hj => ?_, fun p hp => ⟨(h.rcv p hp).1, fun hi => (h.rcv p hp).2 (by rw [es _ (by simp)] at hi; exact hi)⟩, fun i qv l hl hcl ht => ?_, fun i v hl => ?_, fun k v hl => h.olds k v (by rw [es _ (by simp)] at hl; exact hl)⟩
  · rw [heap_setRow_ne _ _ _ _ (by rintro rfl; rcases hb1 with h1 | h1; omega; exact ho h1)]
    exact h.kw.frame k hk ho
  · rw [es _ (by simp)] at hl; exact h.slots t v hl
  · by_cases hi : i = id
    · subst hi
      rw [look_cellRows_cell] at hl
      refine ⟨by rw [es _ (by simp)]; exact hb, splice old off us, ty, ?_⟩
      rw [heap_setRow_same _ hold]
      by_cases hr : off ≤ o ∧ o < off + vs.length
      · rw [if_pos hr] at hl
        obtain ⟨u, hu, hrel⟩ := hget _ v hl
        exact ⟨u, rfl, by rw [splice_get hfit, if_pos (by omega)]; exact hu, hrel⟩
      · rw [if_neg hr] at hl
        obtain ⟨_, cs, ty', cv, h1, h2, h3⟩ := h.cells i o v hl
        rw [hold] at h1
        obtain ⟨rfl, rfl⟩ : old = cs ∧ ty = ty' := by simpa using h1
        exact ⟨cv, rfl, by rw [splice_get hfit, if_neg (by omega)]; exact h2, h3⟩
    · rw [es _ (by simp; exact hi)] at hl
      obtain ⟨hx, cs, ty', cv, h1, h2, h3⟩ := h.cells i o v hl
      exact ⟨by rw [es _ (by simp)]; exact hx, cs, ty', cv, by rw [heap_setRow_ne _ _ _ _ (ne hx hi)]; exact h1, h2, h3⟩
  · rw [es _ (by simp)] at hi
    obtain ⟨h1, h2, h3⟩ := h.boxes i hi
    exact ⟨h1, by rw [setRow_size]; exact h2, h3⟩
  · rw [es _ (by simp)] at hi hj; exact h.inj i j hi hj
  · rw [cell_setRow_ne]
    · exact h.stable b o v hS
    · rintro rfl; rw [hb3] at hS; cases hS
  · rw [es _ (by simp)] at hi
    obtain ⟨h1, ⟨cs, ty', h2, h3⟩, h4, h5⟩ := h.tips i hi ht
    exact ⟨h1, ⟨cs, ty', by rw [heap_setRow_ne _ _ _ _ (fun c => h5 id hb c.symm)]; exact h2, h3⟩, h4, fun j hj => h5 j (by rw [es _ (by simp)] at hj; exact hj)⟩
  · rw [es _ (by simp)] at hi hj; exact h.tinj i j hi hj
  · rw [es _ (by simp)] at hl
    obtain ⟨q1, o, us', cs, ty', q2, q3, q4, q5, q6⟩ := h.conts i qv l hl hcl ht
    obtain ⟨_, _, _, t4⟩ := h.tips i (by rw [hl]; simp) ht
    exact ⟨q1, o, us', cs, ty', by rw [heap_setRow_ne _ _ _ _ (fun c => t4 id hb c.symm)]; exact q2, q3, q4, q5, q6⟩
  · rw [es _ (by simp)] at hl
    obtain ⟨q1, s, pos, q2, q3⟩ := h.iters i v hl
    have hi : i ≠ id := fun c => by subst c; rw [hold] at q3; exact (itO_ne q3.symm).elim
    exact ⟨by rw [es _ (by simp)]; exact q1, s, pos, q2, by rw [heap_setRow_ne _ _ _ _ (ne q1 hi)]; exact q3⟩
def Stab.row (S : Stab) (b : Nat) (n : Nat) (cs : Array Value) : Stab := fun b' o => if b' = b then (if o < n then cs[o]? else none) else S b' o
theorem Sim.fresh (h : Sim E st G a w) (o : Nat) : G.S w.heap.size o = none := by
  cases hv : G.S w.heap.size o with
  | none => rfl
  | some v => exact absurd (lt_of_cell (h.stable _ _ _ hv)) (by omega)
theorem Sim.row_le (h : Sim E st G a w) (n : Nat) (cs : Array Value) : G.S.le (G.S.row w.heap.size n cs) := fun b o v hv => by
  unfold Stab.row
  rw [if_neg]
  · exact hv
  · rintro rfl; rw [h.fresh] at hv; cases hv
theorem relP_of {S : Stab} {b : Nat} : ∀ {ds : List D} {us : List Value} {o : Nat}, RelL S ds us → (∀ k u, us[k]? = some u → S b (o + k) = some u) → RelP S ds b o
  | [], [], o, _, _ => .nil
  | d :: ds, u :: us, o, .cons h1 h2, hk => .cons (by simpa using hk 0 u (by simp)) h1 (relP_of h2 fun k x hx => by
      have := hk (k + 1) x (by simpa using hx)
      rwa [show o + (k + 1) = o + 1 + k from by omega] at this)
def flat (l : List D) : List D := l.flatMap D.cells
theorem relE_of {S : Stab} {es b : Nat} : ∀ {l : List D} {o : Nat}, (∀ d ∈ l, d.cells.length = es) → RelP S (flat l) b o → RelE S es l b o
  | [], o, _, _ => .nil
  | d :: l, o, hn, hp => by
    have h1 := hn d (by simp)
    have hp' : RelP S (d.cells ++ flat l) b o := by simpa [flat] using hp
    have split : ∀ (xs ys : List D) (o : Nat), RelP S (xs ++ ys) b o → RelP S xs b o ∧ RelP S ys b (o + xs.length) := by
      intro xs
      induction xs with
      | nil => intro ys o h; exact ⟨.nil, by simpa using h⟩
      | cons x xs ih =>
        intro ys o h
        cases h with
        | cons hs hd hr =>
          obtain ⟨h3, h4⟩ := ih ys (o + 1) hr
          exact ⟨.cons hs hd h3, by rw [List.length_cons, show o + (xs.length + 1) = o + 1 + xs.length from by omega]; exact h4⟩
    obtain ⟨h2, h3⟩ := split _ _ _ hp'
    exact .cons h1 h2 (relE_of (fun x hx => hn x (by simp [hx])) (h1 ▸ h3))
theorem relP_append {S : Stab} {b : Nat} : ∀ {xs ys : List D} {o : Nat}, RelP S xs b o → RelP S ys b (o + xs.length) → RelP S (xs ++ ys) b o
  | [], ys, o, _, h => by simpa using h
  | x :: xs, ys, o, .cons hs hd hr, h => .cons hs hd (relP_append hr (by rw [show o + 1 + xs.length = o + (x :: xs).length from by simp; omega]; exact h))
theorem relE_append {S : Stab} {es b : Nat} : ∀ {xs ys : List D} {o : Nat}, RelE S es xs b o → RelE S es ys b (o + xs.length * es) → RelE S es (xs ++ ys) b o
  | [], ys, o, _, h => by simpa using h
  | x :: xs, ys, o, .cons hn hp hr, h => .cons hn hp (relE_append hr (by rw [show o + es + xs.length * es = o + (x :: xs).length * es from by rw [List.length_cons, Nat.add_mul]; omega]; exact h))
theorem relE_flat {S : Stab} {es b : Nat} : ∀ {l : List D} {o : Nat}, RelE S es l b o → RelP S (flat l) b o ∧ (flat l).length = l.length * es ∧ ∀ d ∈ l, d.cells.length = es
  | [], o, _ => ⟨.nil, by simp [flat], by simp⟩
  | d :: l, o, .cons hn hp hr => by
    obtain ⟨h1, h2, h3⟩ := relE_flat hr
    refine ⟨?_, ?_, ?_⟩
    · show RelP S (flat (d :: l)) b o
      rw [show flat (d :: l) = d.cells ++ flat l from rfl]
      exact relP_append hp (by rw [hn]; exact h1)
    · rw [show flat (d :: l) = d.cells ++ flat l from rfl, List.length_append, hn, h2, List.length_cons, Nat.add_mul]; omega
    · intro x hx
      rcases List.mem_cons.1 hx with rfl | hx
      · exact hn
      · exact h3 x hx
theorem relP_vals {S : Stab} {b : Nat} : ∀ {ds : List D} {o : Nat}, RelP S ds b o → ∃ us : List Value, us.length = ds.length ∧ RelL S ds us ∧ ∀ k u, us[k]? = some u → S b (o + k) = some u
  | [], o, _ => ⟨[], rfl, .nil, by simp⟩
  | d :: ds, o, .cons (v := v) hs hd hr => by
    obtain ⟨us, h1, h2, h3⟩ := relP_vals hr
    refine ⟨v :: us, by simp [h1], .cons hd h2, fun k u hu => ?_⟩
    cases k with
    | zero => simp at hu; subst hu; exact hs
    | succ k => rw [show o + (k + 1) = o + 1 + k from by omega]; exact h3 k u (by simpa using hu)
theorem relL_append {S : Stab} : ∀ {xs ys : List D} {us vs : List Value}, RelL S xs us → RelL S ys vs → RelL S (xs ++ ys) (us ++ vs)
  | [], _, [], _, _, h => h
  | _ :: _, _, _ :: _, _, .cons h1 h2, h => .cons h1 (relL_append h2 h)
theorem relL_length {S : Stab} : ∀ {l : List D} {us : List Value}, RelL S l us → l.length = us.length
  | [], [], _ => rfl
  | _ :: _, _ :: _, .cons _ h => by simp [relL_length h]
theorem Sim.row (h : Sim E st G a w) (n : Nat) (cs : Array Value) (ty : TypeId) (fr : Nat × Nat) (hn : n ≤ cs.size) : Sim E st { G with S := G.S.row w.heap.size n cs } a (w.alloc (.cells cs ty fr)) := by
  refine h.later ((Below.refl _ _).alloc (Nat.le_refl _) _) (h.row_le n cs) fun b o v hv => ?_
  unfold Stab.row at hv
  split at hv
  · rename_i hb
    subst hb
    split at hv
    · refine .inr ⟨Nat.le_refl _, ?_⟩
      rw [cell_of_block (cs := cs) (ty := ty) (fr := fr) (by show (w.heap.push _)[w.heap.size]? = _; rw [Array.getElem?_push, if_pos rfl])]
      exact hv
    · cases hv
  · exact .inl hv
mutual
/-- A list that may not be appended to any more. -/
def dullV (id : Nat) : V → V
  | .own i es l => bif i == id then .d (.list es l) else .own i es l
  | .mo i es n => bif i == id then .d .any else .mo i es n
  | .mptr i n o => bif i == id then .d .any else .mptr i n o
  | .agg l => .agg (dullVs id l)
  | .tup l => .tup (dullVs id l)
  | .cont l => .cont (dullVs id l)
  | .contD l => .contD l
  | .d x => .d x
  | .ptr i o => .ptr i o
  | .mapp i => .mapp i
  | .fn f l => .fn f l
def dullVs (id : Nat) : List V → List V
  | [] => []
  | v :: l => dullV id v :: dullVs id l
end
theorem dullVs_length (id : Nat) : ∀ l : List V, (dullVs id l).length = l.length
  | [] => by simp only [dullVs]
  | v :: l => by simp only [dullVs, List.length_cons, dullVs_length id l]
theorem dullVs_d (id : Nat) : ∀ l : List D, dullVs id (l.map .d) = l.map .d
  | [] => by simp only [List.map_nil, dullVs]
  | x :: l => by simp only [List.map_cons, dullVs, dullV, dullVs_d id l]
theorem dull_contL {id : Nat} {v0 : V} {l : List V} (hc : (dullV id v0).contL = some l) : ∃ l0, v0.contL = some l0 ∧ l = dullVs id l0 := by
  cases v0 with
  | cont l0 => simp only [dullV] at hc; cases hc; exact ⟨l0, rfl, rfl⟩
  | contD ds => simp only [dullV] at hc; cases hc; exact ⟨_, rfl, (dullVs_d id ds).symm⟩
  | own i es l => simp only [dullV] at hc; cases hb : (i == id) <;> rw [hb] at hc <;> cases hc
  | mo i es l => simp only [dullV] at hc; cases hb : (i == id) <;> rw [hb] at hc <;> cases hc
  | mptr i es l => simp only [dullV] at hc; cases hb : (i == id) <;> rw [hb] at hc <;> cases hc
  | _ => simp only [dullV] at hc; cases hc
def dull (id : Nat) : St → St
  | [] => []
  | e :: r => (e.1, e.2.map (dullV id)) :: dull id r
theorem look_dull (id : Nat) (st : St) (l : Loc) : look (dull id st) l = (look st l).map (dullV id) := by
  induction st with
  | nil => rfl
  | cons e r ih =>
    rw [dull, look_cons, look_cons, ih]
    simp only
    split <;> rfl
structure Gh.tipx (G G' : Gh) (id : Nat) : Prop where
  S : G.S.le G'.S
  μ : G'.μ = G.μ
  tb : ∀ i, i ≠ id → G'.tb i = G.tb i
  tk : ∀ i, i ≠ id → G'.tk i = G.tk i
  te : ∀ i, i ≠ id → G'.te i = G.te i
  tz : ∀ i, i ≠ id → G'.tz i = G.tz i
theorem relV_own {G : Gh} {id es : Nat} {l : List D} {u : Value} (h : RelV G (.own id es l) u) : Rel G.S (.list es l) u := by
  rcases h with ⟨_, rfl, rfl⟩ | ⟨_, o, cap, rfl, hc, he, _⟩
  · exact .lnil
  · exact .list hc he
mutual
theorem RelV.dull {G G' : Gh} {id : Nat} (h : G.tipx G' id) : ∀ {v : V} {u : Value}, RelV G v u → RelV G' (dullV id v) u
  | .d x, _, hr => by simp only [dullV, RelV] at *; exact Rel.mono h.S hr
  | .ptr i off, _, hr => by simp only [dullV, RelV] at *; rw [h.μ]; exact hr
  | .mapp i, _, hr => by simp only [dullV, RelV] at *; rw [h.μ]; exact hr
  | .fn f ids, _, hr => by simp only [dullV, RelV] at *; rw [h.μ]; exact hr
  | .own i es l, u, hr => by
    by_cases hi : i = id
    · subst hi
      have e : dullV i (.own i es l) = .d (.list es l) := by simp [dullV]
      rw [e]
      show Rel G'.S _ u
      exact Rel.mono h.S (relV_own hr)
    · have e : dullV id (.own i es l) = .own i es l := by simp only [dullV, show (i == id) = false from by simpa using hi, cond_false]
      rw [e]
      simp only [RelV] at *
      rw [h.tb i hi, h.tk i hi, h.te i hi, h.tz i hi]
      rcases hr with hr | ⟨h1, o, cap, h2, h3, h4, h5⟩
      · exact .inl hr
      · exact .inr ⟨h1, o, cap, h2, h3, RelE.mono h.S h4, h5⟩
  | .mo i es n, u, hr => by
    by_cases hi : i = id
    · subst hi
      have e : dullV i (.mo i es n) = .d .any := by simp [dullV]
      rw [e]
      simp only [RelV] at *
      rcases hr with ⟨_, _, rfl⟩ | ⟨_, o, cap, rfl, _⟩ <;> exact .any rfl
    · have e : dullV id (.mo i es n) = .mo i es n := by simp only [dullV, show (i == id) = false from by simpa using hi, cond_false]
      rw [e]
      simp only [RelV] at *
      rw [h.tb i hi, h.tk i hi, h.te i hi, h.tz i hi]; exact hr
  | .mptr i n off, u, hr => by
    by_cases hi : i = id
    · subst hi
      have e : dullV i (.mptr i n off) = .d .any := by simp [dullV]
      rw [e]
      simp only [RelV] at *
      obtain ⟨_, o, rfl, _⟩ := hr
      exact .any rfl
    · have e : dullV id (.mptr i n off) = .mptr i n off := by simp only [dullV, show (i == id) = false from by simpa using hi, cond_false]
      rw [e]
      simp only [RelV] at *
      rw [h.tb i hi, h.tk i hi, h.te i hi]; exact hr
  | .agg l, _, hr => by
    simp only [dullV, RelV] at *
    obtain ⟨cs, h1, h2⟩ := hr
    exact ⟨cs, h1, RelVL.dull h h2⟩
  | .tup l, _, hr => by
    simp only [dullV, RelV] at *
    obtain ⟨cs, h1, h2⟩ := hr
    exact ⟨cs, h1, RelVL.dull h h2⟩
  | .cont l, _, hr => by simp only [RelV] at hr
  | .contD l, _, hr => by simp only [RelV] at hr
theorem RelVL.dull {G G' : Gh} {id : Nat} (h : G.tipx G' id) : ∀ {l : List V} {us : List Value}, RelVL G l us → RelVL G' (dullVs id l) us
  | [], _, hr => by simp only [dullVs, RelVL] at *; exact hr
  | v :: l, _, hr => by
    simp only [dullVs, RelVL] at *
    obtain ⟨u, r, h1, h2, h3⟩ := hr
    exact ⟨u, r, h1, RelV.dull h h2, RelVL.dull h h3⟩
end
theorem Sim.retipC {id b n z : Nat} {k : Bool} {vt : V} (h : Sim E st G a w) (hk : k = true → (E.w0.heap.size ≤ b ∨ b ∈ E.outs) ∧ (∃ cs ty, w.heap[b]? = some (.cells cs ty (0, 0)) ∧ z ≤ cs.size) ∧ (∀ o, n ≤ o → G.S b o = none) ∧ (∀ j, look st (.box j) ≠ none → G.μ j ≠ b) ∧
      ∀ j, j ≠ id → look st (.tip j) ≠ none → G.tk j = true → G.tb j ≠ b)
    (hc : ∀ l, vt.contL = some l → k = true → (∀ o, G.S b o = none) ∧ ∃ o us cs ty, w.heap[b]? = some (.cells cs ty (0, 0)) ∧ o + l.length = n ∧ n ≤ cs.size ∧ RelVL { G with tb := upd G.tb id b, tk := upd G.tk id k, te := upd G.te id n, tz := upd G.tz id z } l us ∧ ∀ k u, us[k]? = some u → cs[o + k]? = some u) :
    Sim E ((.tip id, some vt) :: dull id st) { G with tb := upd G.tb id b, tk := upd G.tk id k, te := upd G.te id n, tz := upd G.tz id z } a w := by
  have hx : G.tipx { G with tb := upd G.tb id b, tk := upd G.tk id k, te := upd G.te id n, tz := upd G.tz id z } id :=
    ⟨Stab.le.refl _, rfl, fun i hi => by simp [upd, hi], fun i hi => by simp [upd, hi], fun i hi => by simp [upd, hi], fun i hi => by simp [upd, hi]⟩
  have el : ∀ l, l ≠ .tip id → look ((Loc.tip id, some vt) :: dull id st) l = (look st l).map (dullV id) := fun l hl => by rw [look_ne _ _ (fun c => hl c.symm), look_dull]
  have en : ∀ l, l ≠ .tip id → look ((Loc.tip id, some vt) :: dull id st) l ≠ none → look st l ≠ none := fun l hl hh c => by rw [el l hl, c] at hh; exact hh rfl
  have ev : ∀ l v, l ≠ .tip id → look ((Loc.tip id, some vt) :: dull id st) l = some v → ∃ v0, look st l = some v0 ∧ dullV id v0 = v := fun l v hl hv => by
    rw [el l hl] at hv; simpa using hv
  refine ⟨h.kw, h.s0, h.snew, h.tmps, h.defers, fun t v hl => ?_, fun i o v hl => ?_, fun i hi => h.boxes i (en _ (by simp) hi), fun i j hi hj => h.inj i j (en _ (by simp) hi) (en _ (by simp) hj), h.stable, fun i hi ht => ?_, fun i j hi hj ht htj => ?_, fun p hp => ⟨(h.rcv p hp).1, fun hi => (h.rcv p hp).2 (en _ (by simp) hi)⟩, fun i qv l hl hcl ht => ?_, fun i v hl => by
    obtain ⟨v0, h1, h2⟩ := ev _ v (by simp) hl
    obtain ⟨q1, s, pos, q2, q3⟩ := h.iters i v0 h1
    exact ⟨by rw [el _ (by simp)]; simpa using q1, s, pos, by rw [← h2, q2]; rfl, q3⟩, fun k v hl => by
    obtain ⟨v0, h1, rfl⟩ := ev _ v (by simp) hl
    exact (h.olds k v0 h1).dull hx⟩
  · obtain ⟨v0, h1, rfl⟩ := ev _ v (by simp) hl
    exact (h.slots t v0 h1).dull hx
  · obtain ⟨v0, h1, rfl⟩ := ev _ v (by simp) hl
    obtain ⟨q1, cs, ty, cv, q2, q3, q4⟩ := h.cells i o v0 h1
    refine ⟨by rw [el _ (by simp)]; simpa using q1, cs, ty, cv, q2, q3, q4.dull hx⟩
  · by_cases hid : i = id
    · subst hid
      have hkt : k = true := by simpa [upd] using ht
      obtain ⟨q1, q2, q3, q4, _⟩ := hk hkt
      show (_ ≤ (upd G.tb i b) i ∨ (upd G.tb i b) i ∈ _) ∧ (∃ cs ty, w.heap[(upd G.tb i b) i]? = some (.cells cs ty (0, 0)) ∧ (upd G.tz i z) i ≤ cs.size) ∧ (∀ o, (upd G.te i n) i ≤ o → G.S ((upd G.tb i b) i) o = none) ∧ ∀ j, _ → G.μ j ≠ (upd G.tb i b) i
      simp only [upd, if_true]
      exact ⟨q1, q2, q3, fun j hj => q4 j (en _ (by simp) hj)⟩
    · have ht' : G.tk i = true := by simpa [upd, hid] using ht
      obtain ⟨q1, q2, q3, q4⟩ := h.tips i (en _ (by simpa using hid) hi) ht'
      show (_ ≤ (upd G.tb id b) i ∨ (upd G.tb id b) i ∈ _) ∧ (∃ cs ty, w.heap[(upd G.tb id b) i]? = some (.cells cs ty (0, 0)) ∧ (upd G.tz id z) i ≤ cs.size) ∧ (∀ o, (upd G.te id n) i ≤ o → G.S ((upd G.tb id b) i) o = none) ∧ ∀ j, _ → G.μ j ≠ (upd G.tb id b) i
      simp only [upd, hid, if_false]
      exact ⟨q1, q2, q3, fun j hj => q4 j (en _ (by simp) hj)⟩
  · show (upd G.tb id b) i = (upd G.tb id b) j → i = j
    by_cases h2 : i = id <;> by_cases h3 : j = id
    · intro _; rw [h2, h3]
    · subst h2
      have hkt : k = true := by simpa [upd] using ht
      simp only [upd, if_true, h3, if_false]
      intro c
      exact absurd c.symm ((hk hkt).2.2.2.2 j h3 (en _ (by simpa using h3) hj) (by simpa [upd, h3] using htj))
    · subst h3
      have hkt : k = true := by simpa [upd] using htj
      simp only [upd, if_true, h2, if_false]
      intro c
      exact absurd c ((hk hkt).2.2.2.2 i h2 (en _ (by simpa using h2) hi) (by simpa [upd, h2] using ht))
    · simp only [upd, h2, h3, if_false]
      exact h.tinj i j (en _ (by simpa using h2) hi) (en _ (by simpa using h3) hj) (by simpa [upd, h2] using ht) (by simpa [upd, h3] using htj)
  · by_cases hid : i = id
    · subst hid
      have hkt : k = true := by simpa [upd] using ht
      rw [look_same] at hl
      obtain ⟨q1, o, us, cs, ty, q2, q3, q4, q5, q6⟩ := hc l (by obtain rfl := Option.some.inj hl; exact hcl) hkt
      refine ⟨fun o => ?_, o, us, cs, ty, ?_, ?_, ?_, q5, q6⟩
      · show G.S ((upd G.tb i b) i) o = none
        simp only [upd, if_true]; exact q1 o
      · show w.heap[(upd G.tb i b) i]? = _
        simp only [upd, if_true]; exact q2
      · show o + l.length = (upd G.te i n) i
        simp only [upd, if_true]; exact q3
      · show (upd G.te i n) i ≤ _
        simp only [upd, if_true]; exact q4
    · have ht' : G.tk i = true := by simpa [upd, hid] using ht
      obtain ⟨v0, h1, h2⟩ := ev _ _ (by simpa using hid) hl
      subst h2
      obtain ⟨l0, hc0, rfl⟩ := dull_contL hcl
      obtain ⟨q1, o, us, cs, ty, q2, q3, q4, q5, q6⟩ := h.conts i v0 l0 h1 hc0 ht'
      refine ⟨fun o => ?_, o, us, cs, ty, ?_, ?_, ?_, q5.dull hx, q6⟩
      · show G.S ((upd G.tb id b) i) o = none
        simp only [upd, hid, if_false]; exact q1 o
      · show w.heap[(upd G.tb id b) i]? = _
        simp only [upd, hid, if_false]; exact q2
      · show o + _ = (upd G.te id n) i
        simp only [upd, hid, if_false, dullVs_length]; exact q3
      · show (upd G.te id n) i ≤ _
        simp only [upd, hid, if_false]; exact q4
theorem Sim.retip {id b n z : Nat} {k : Bool} (h : Sim E st G a w) (hk : k = true → (E.w0.heap.size ≤ b ∨ b ∈ E.outs) ∧ (∃ cs ty, w.heap[b]? = some (.cells cs ty (0, 0)) ∧ z ≤ cs.size) ∧ (∀ o, n ≤ o → G.S b o = none) ∧ (∀ j, look st (.box j) ≠ none → G.μ j ≠ b) ∧
      ∀ j, j ≠ id → look st (.tip j) ≠ none → G.tk j = true → G.tb j ≠ b) :
    Sim E ((.tip id, some (.ptr id 0)) :: dull id st) { G with tb := upd G.tb id b, tk := upd G.tk id k, te := upd G.te id n, tz := upd G.tz id z } a w :=
  h.retipC hk fun l hl => by cases hl
def Stab.more (S : Stab) (b e : Nat) (us : List Value) : Stab := fun b' o => if b' = b ∧ e ≤ o ∧ o < e + us.length then us[o - e]? else S b' o
theorem Sim.extend {id : Nat} {us : List Value} {old : Array Value} {ty : TypeId} (h : Sim E st G a w) (hl : look st (.tip id) ≠ none) (ht : G.tk id = true)
    (hold : w.heap[G.tb id]? = some (.cells old ty (0, 0))) (hroom : G.te id + us.length ≤ old.size) :
    Sim E ((.tip id, none) :: st) { G with S := G.S.more (G.tb id) (G.te id) us } a (w.setRow (G.tb id) (splice old (G.te id) us)) := by
  obtain ⟨t1, _, t3, t4⟩ := h.tips id hl ht
  have hle : G.S.le (G.S.more (G.tb id) (G.te id) us) := fun b o v hv => by
    unfold Stab.more
    rw [if_neg]
    · exact hv
    · rintro ⟨rfl, h1, _⟩; rw [t3 o h1] at hv; cases hv
  have es : ∀ l, l ≠ .tip id → look ((Loc.tip id, none) :: st) l = look st l := fun l hl => look_ne _ _ (fun c => hl c.symm)
  have et : ∀ i, look ((Loc.tip id, none) :: st) (.tip i) ≠ none → i ≠ id ∧ look st (.tip i) ≠ none := fun i hh => by
    rw [look_cons] at hh
    split at hh
    · exact absurd rfl hh
    · rename_i hc; exact ⟨fun c => hc (by rw [c]), hh⟩
  refine ⟨⟨h.kw.os, h.kw.tape, h.kw.output, by rw [setRow_size]; exact h.size, fun k hk ho => ?_⟩, h.s0.trans hle, fun b o v hS => ?_, h.tmps, h.defers, fun t v hl => ?_, fun i o v hl => ?_, fun i hi => ?_, fun i j hi hj => ?_, fun b o v hS => ?_, fun i hi hti => ?_, fun i j hi hj => ?_, fun p hp => ⟨(h.rcv p hp).1, fun hi => (h.rcv p hp).2 (by rw [es _ (by simp)] at hi; exact hi)⟩, fun i qv l' hl' hcl hti => ?_, fun i v hl => by
    rw [es _ (by simp)] at hl
    obtain ⟨q1, s, pos, q2, q3⟩ := h.iters i v hl
    exact ⟨by rw [es _ (by simp)]; exact q1, s, pos, q2, by show (w.setRow _ _).heap[G.μ i]? = _; rw [heap_setRow_ne _ _ _ _ (t4 i q1)]; exact q3⟩, fun k v hl => (h.olds k v (by rw [es _ (by simp)] at hl; exact hl)).monoS hle⟩
  · rw [heap_setRow_ne _ _ _ _ (by rintro rfl; rcases t1 with q | q; omega; exact ho q)]; exact h.kw.frame k hk ho
  · change Stab.more G.S (G.tb id) (G.te id) us b o = some v at hS
    unfold Stab.more at hS
    split at hS
    · rename_i hc; exact .inr (by rw [hc.1]; exact t1)
    · exact h.snew b o v hS
  · rw [es _ (by simp)] at hl; exact (h.slots t v hl).monoS hle
  · rw [es _ (by simp)] at hl
    obtain ⟨q1, cs', ty', cv, q2, q3, q4⟩ := h.cells i o v hl
    exact ⟨by rw [es _ (by simp)]; exact q1, cs', ty', cv, by show (w.setRow _ _).heap[G.μ i]? = _; rw [heap_setRow_ne _ _ _ _ (t4 i q1)]; exact q2, q3, q4.monoS hle⟩
  · rw [es _ (by simp)] at hi
    obtain ⟨q1, q2, q3⟩ := h.boxes i hi
    refine ⟨q1, by rw [setRow_size]; exact q2, fun o => ?_⟩
    show Stab.more G.S (G.tb id) (G.te id) us (G.μ i) o = none
    unfold Stab.more
    rw [if_neg (fun c => t4 i hi c.1)]; exact q3 o
  · rw [es _ (by simp)] at hi hj; exact h.inj i j hi hj
  · by_cases hb : b = G.tb id
    · subst hb
      rw [cell_of_block (heap_setRow_same _ hold), splice_get hroom]
      change Stab.more G.S (G.tb id) (G.te id) us (G.tb id) o = some v at hS
      unfold Stab.more at hS
      by_cases hc : G.te id ≤ o ∧ o < G.te id + us.length
      · rw [if_pos ⟨rfl, hc⟩] at hS; rw [if_pos hc]; exact hS
      · rw [if_neg (fun c => hc c.2)] at hS
        rw [if_neg hc, ← h.stable _ _ _ hS, cell_of_block hold]
    · rw [cell_setRow_ne _ _ _ hb]
      change Stab.more G.S (G.tb id) (G.te id) us b o = some v at hS
      unfold Stab.more at hS
      rw [if_neg (fun c => hb c.1)] at hS
      exact h.stable _ _ _ hS
  · obtain ⟨hni, hi'⟩ := et i hi
    obtain ⟨q1, ⟨cs', ty', q2, q3⟩, q4, q5⟩ := h.tips i hi' hti
    have hμ : G.tb i ≠ G.tb id := fun c => hni (h.tinj i id hi' hl hti ht c)
    refine ⟨q1, ⟨cs', ty', by show (w.setRow _ _).heap[G.tb i]? = _; rw [heap_setRow_ne _ _ _ _ hμ]; exact q2, q3⟩, fun o ho => ?_, fun j hj => q5 j (by rw [es _ (by simp)] at hj; exact hj)⟩
    show Stab.more G.S (G.tb id) (G.te id) us (G.tb i) o = none
    unfold Stab.more
    rw [if_neg (fun c => hμ c.1)]; exact q4 o ho
  · exact fun ht htj => h.tinj i j (et i hi).2 (et j hj).2 ht htj
  · obtain ⟨hni, hi'⟩ := et i (by rw [hl']; simp)
    rw [look_ne _ _ (by simpa using fun c => hni c.symm)] at hl'
    obtain ⟨q1, o, us', cs', ty', q2, q3, q4, q5, q6⟩ := h.conts i qv l' hl' hcl hti
    have hμ : G.tb i ≠ G.tb id := fun c => hni (h.tinj i id hi' hl hti ht c)
    refine ⟨fun o => ?_, o, us', cs', ty', by show (w.setRow _ _).heap[G.tb i]? = _; rw [heap_setRow_ne _ _ _ _ hμ]; exact q2, q3, q4, q5.monoS hle, q6⟩
    show Stab.more G.S (G.tb id) (G.te id) us (G.tb i) o = none
    unfold Stab.more
    rw [if_neg (fun c => hμ c.1)]; exact q1 o
end Go.Ab
