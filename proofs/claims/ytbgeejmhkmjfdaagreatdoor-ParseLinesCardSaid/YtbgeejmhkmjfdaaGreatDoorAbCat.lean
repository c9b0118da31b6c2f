/- A function that catches what the function that it is handed gives up with, walked with that function in place. No program. -/
import Derived.Test.YtbgeejmhkmjfdaaGreatDoorAbApp
namespace Go.Ab
open Go Go.RowKit
set_option linter.unusedVariables false
set_option linter.unusedSimpArgs false
variable {P : Program} {E : Env} {st : St} {G : Gh} {a : Act} {w : World} {Q : Exit → Act → World → Prop}
variable {d : Nat} {ty : TypeId} {pos : String} {af : Array Edge} {g : Option (Nat × Bool)} {x y z : Operand}
def Caught (tN : TypeId) (p : Nat) (pv : Value) (R : Ending → World → Prop) (e : Ending) (w' : World) : Prop :=
  (∃ b, w'.cell? ⟨p, 0, none⟩ = some (.bool b)) ∧ w'.frozen? ⟨p, 0, none⟩ = false ∧
    ((∃ u, e = .returned u ∧ R (.returned (.bool false)) (w'.setCell ⟨p, 0, none⟩ (.bool false))) ∨
     (e = .panicked (ch0 pv) ∧ R (.returned (.bool true)) ((w'.alloc (.cells #[] tN)).setCell ⟨p, 0, none⟩ (.bool true))))
def BackR (P : Program) (a : Act) (d : Nat) (ops : Array Oper) (Q : Exit → Act → World → Prop) (l : List Oper) (e : Ending) (w' : World) : Prop :=
  ∃ u, e = .returned u ∧ wpList P ops Q l (a.put (some d) u) w'
def Env.intoC (E : Env) (n : Nat) (a : Act) (K p : Nat) : Env := { E.into n a with fix := (K, p) :: E.fix }
theorem Sim.enter {vs : List V} {us : List Value} {n : Nat} (s : Sim E st G a w) (hvs : RelVL G vs us) (hfix : (E.fix.all fun p => Nat.ble n p.1) = true) (hlen : Nat.ble vs.length n = true) :
    Sim (E.into n a) (vrows 0 vs ++ enterSt E.N st) G { tmps := (⟨us⟩ : Array Value) ++ Array.replicate (n - (⟨us⟩ : Array Value).size) undef, defers := [] } w := by
  obtain ⟨hl, hget⟩ := relVL_get hvs
  have hle : vs.length ≤ n := Nat.le_of_ble_eq_true hlen
  have hi : ∀ k : Loc, k.high = true → look (vrows 0 vs ++ enterSt E.N st) k = look st k := fun k hk => by
    rw [look_vrows_ne (fun t c => by subst c; cases hk), look_enter _ _ hk]
  refine ⟨s.kw, s.s0, s.snew, ?_, rfl, fun t v hv => ?_, fun i o v hv => ?_, fun i h1 => ?_, fun i j h1 h2 => ?_, s.stable, fun i h1 h2 => ?_, fun i j h1 h2 => ?_, fun p hp => ⟨?_, fun h1 => ?_⟩, fun i qv l h1 hcl h2 => ?_, fun i v hv => ?_, fun k v hv => ?_⟩
  · show _ = n
    have : us.length = vs.length := hl.symm
    simp at this ⊢; omega
  · rw [look_vrows] at hv
    split at hv
    · rename_i ht
      rw [Nat.sub_zero] at hv
      obtain ⟨u, hu, hr⟩ := hget t v hv
      have e : ((⟨us⟩ : Array Value) ++ Array.replicate (n - (⟨us⟩ : Array Value).size) undef).getD t undef = u := by
        have ht : t < us.length := (List.getElem?_eq_some_iff.1 hu).1
        rw [Array.getD_eq_getD_getElem?, Array.getElem?_append_left (by simpa using ht)]
        simp only [List.getElem?_toArray, hu, Option.getD_some]
      show RelV G v _
      rw [e]; exact hr
    · rw [look_enter_slot] at hv; cases hv
  · rw [hi _ rfl] at hv; rw [hi _ rfl]; exact s.cells i o v hv
  · rw [hi _ rfl] at h1; exact s.boxes i h1
  · rw [hi _ rfl] at h1 h2; exact s.inj i j h1 h2
  · rw [hi _ rfl] at h1
    obtain ⟨q1, q2, q3, q4⟩ := s.tips i h1 h2
    exact ⟨q1, q2, q3, fun j hj => q4 j (by rw [hi _ rfl] at hj; exact hj)⟩
  · rw [hi _ rfl] at h1 h2; exact s.tinj i j h1 h2
  · exact Nat.le_of_ble_eq_true (List.all_eq_true.mp hfix p hp)
  · rw [hi _ rfl] at h1; exact (s.rcv p hp).2 h1
  · rw [hi _ rfl] at h1; exact s.conts i qv l h1 hcl h2
  · rw [hi _ rfl] at hv; rw [hi _ rfl]; exact s.iters i v hv
  · rw [look_vrows_ne (fun t => by simp), look_enter_old] at hv
    show RelV G v ((a.tmps ++ E.keep).getD k undef)
    split at hv
    · rename_i hk
      have := s.slots k v hv
      rwa [show (a.tmps ++ E.keep).getD k undef = a.tmps.getD k undef from by rw [Array.getD_eq_getD_getElem?, Array.getD_eq_getD_getElem?, Array.getElem?_append_left (by rw [s.tmps]; exact hk)]]
    · rename_i hk
      have := s.olds (k - E.N) v hv
      rwa [show (a.tmps ++ E.keep).getD k undef = E.keep.getD (k - E.N) undef from by rw [Array.getD_eq_getD_getElem?, Array.getD_eq_getD_getElem?, Array.getElem?_append_right (by rw [s.tmps]; omega), s.tmps]]
theorem Sim.refix {F : List (Nat × Nat)} (s : Sim E st G a w) (h : ∀ p ∈ F, E.N ≤ p.1 ∧ (look st (.box p.1) ≠ none → G.μ p.1 = p.2)) : Sim { E with fix := F } st G a w :=
  ⟨s.kw, s.s0, s.snew, s.tmps, s.defers, s.slots, s.cells, s.boxes, s.inj, s.stable, s.tips, s.tinj, h, s.conts, s.iters, s.olds⟩
theorem relVL_ptrs (G : Gh) : ∀ ids : List Nat, RelVL G (ids.map fun i => V.ptr i 0) (ids.map fun i => Value.pointer (some ⟨G.μ i, 0, none⟩))
  | [] => by simp only [List.map_nil, RelVL]
  | i :: r => relVL_cons rfl (relVL_ptrs G r)
theorem sq_caught {ops : Array Oper} {l : List Oper} {fC f : FuncId} {tB tN : TypeId} {pv : Value} {ats : Array TypeId} {ids : List Nat} {fn : Func} {c : Code} {n : Nat} (K : Nat)
    (hcc : ∀ (cap : List Value) (w : World) (R : Ending → World → Prop), Calls P f ⟨cap⟩ (w.alloc (.cells #[.bool false] tB)) (Caught tN w.heap.size pv R) → Calls P fC #[.func (.func f) #[] ⟨cap⟩] w R)
    (hen : enters P fC = true) (hx : ev st x = some (.fn f ids)) (hf : P.funcs[f]? = some fn) (hb : fn.body = some c) (hn : fn.ntmps = n) (hfix : E.fix = []) (hlen : Nat.ble ids.length n = true) (hK : Nat.ble n K = true) (hKE : K < E.N) (hu : st.unused K = true) (hids : (ids.all fun i => !(i == K)) = true)
    (h : ∀ (a : Act) (p : Nat), a.tmps.size = E.N → a.defers = [] → Hits (E.intoC n a K p) (vrows 0 (ids.map fun i => .ptr i 0) ++ ((.cell K 0, some (.d (.sc (.bool false)))) :: (.box K, some (.ptr K 0)) :: enterSt E.N st)) (c.wp P (bodyPost P fn (Caught tN p pv (BackR P a d ops Q l))))) :
    Hits E st (wpList P ops Q (⟨some d, .call ⟨.value (.func fC), #[x], ats⟩, ty, pos, af, none⟩ :: l)) := by
  intro G a w s
  unfold wpList
  rw [if_pos (by simp [Region.wanted])]
  refine .inl ?_
  show Oper.upon P _ a _ Q ((execOp a.eval _).run P w)
  have e1 : a.eval x = .func (.func f) #[] ((ids.map fun i => Value.pointer (some ⟨G.μ i, 0, none⟩)).toArray) := s.ev hx
  have ef : a.eval (.func fC) = .func (.func fC) #[] #[] := rfl
  have hrun : (execOp a.eval (⟨some d, .call ⟨.value (.func fC), #[x], ats⟩, ty, pos, af, none⟩ : Oper)).run P w = .ok (.enter fC #[a.eval x]) w := by
    simp [execOp, resolve, ef, Deferred.ofValue, invoke, run_callFunc hen]
  rw [hrun, e1]
  have key := hcc (ids.map fun i => Value.pointer (some ⟨G.μ i, 0, none⟩)) w (BackR P a d ops Q l) ?_
  · refine key.mono ?_
    rintro e w' ⟨u, rfl, hq⟩
    exact hq
  have s1 := s.alloc (id := K) (vs := [.d (.sc (.bool false))]) (cs := #[.bool false]) (ty := tB) hKE hu ⟨rfl, fun i v hv => by
    cases i with
    | zero => simp at hv; subst hv; exact ⟨_, rfl, .sc _⟩
    | succ i => simp at hv⟩ rfl
  have hμ : ∀ i ∈ ids, (upd G.μ K w.heap.size) i = G.μ i := fun i hi => by
    have := List.all_eq_true.mp hids i hi
    simp only [upd, if_neg (show ¬ i = K from by simpa using this)]
  have hvs := relVL_ptrs { G with μ := upd G.μ K w.heap.size } ids
  rw [show (ids.map fun i => Value.pointer (some ⟨({ G with μ := upd G.μ K w.heap.size } : Gh).μ i, 0, none⟩)) = ids.map fun i => Value.pointer (some ⟨G.μ i, 0, none⟩) from List.map_congr_left fun i hi => by rw [show ({ G with μ := upd G.μ K w.heap.size } : Gh).μ i = G.μ i from hμ i hi]] at hvs
  have s2 := s1.enter hvs (n := n) (by rw [hfix]; rfl) (by rw [List.length_map]; exact hlen)
  have s3 : Sim (E.intoC n a K w.heap.size) _ _ _ _ := s2.refix (F := (K, w.heap.size) :: E.fix) (fun p hp => by
    rw [hfix] at hp
    obtain rfl := List.mem_singleton.mp hp
    exact ⟨Nat.le_of_ble_eq_true hK, fun _ => by simp [upd]⟩)
  have := h a w.heap.size s.tmps s.defers _ _ _ s3
  rw [show ((⟨ids.map fun i => Value.pointer (some ⟨G.μ i, 0, none⟩)⟩ : Array Value) ++ Array.replicate (n - (⟨ids.map fun i => Value.pointer (some ⟨G.μ i, 0, none⟩)⟩ : Array Value).size) undef) = ((⟨ids.map fun i => Value.pointer (some ⟨G.μ i, 0, none⟩)⟩ : Array Value) ++ Array.replicate (fn.ntmps - (⟨ids.map fun i => Value.pointer (some ⟨G.μ i, 0, none⟩)⟩ : Array Value).size) undef) from by rw [hn]] at this
  exact calls_of_wp hf hb this
theorem setCell_row {w : World} {b : Nat} {cs : Array Value} {t : TypeId} (h : w.heap[b]? = some (.cells cs t (0, 0))) (hs : 0 < cs.size) (v : Value) : w.setCell ⟨b, 0, none⟩ v = w.setRow b (splice cs 0 [v]) := by
  have e : cs.setIfInBounds 0 v = splice cs 0 [v] := by
    apply Array.ext_getElem?
    intro i
    rw [splice_get (by simp; omega), Array.getElem?_setIfInBounds]
    by_cases h0 : i = 0
    · subst h0; simp [hs]
    · rw [if_neg (fun c => h0 c.symm), if_neg (by simp; omega)]
  unfold World.setCell World.setRow
  have hlt := lt_of_block h
  have : w.heap[b]'hlt = .cells cs t (0, 0) := (Array.getElem?_eq_some_iff.1 h).2
  congr 1
  apply Array.ext_getElem?
  intro i
  rw [Array.getElem?_modify, Array.getElem?_modify]
  by_cases hi : b = i
  · subst hi
    rw [if_pos rfl, if_pos rfl, h]
    simp [e]
  · rw [if_neg hi, if_neg hi]
theorem frozen_of {w : World} {b : Nat} {cs : Array Value} {t : TypeId} (h : w.heap[b]? = some (.cells cs t (0, 0))) : w.frozen? ⟨b, 0, none⟩ = false := by
  unfold World.frozen?
  simp [h]
theorem Sim.backC {n K p : Nat} {a0 : Act} {v : Bool} {b0 : Bool} (h0 : a0.tmps.size = E.N) (hd0 : a0.defers = []) (hd : d < E.N) (hfix : E.fix = []) (s : Sim (E.intoC n a0 K p) st G a w) (hbox : (look st (.box K)).isSome = true) (hcell : look st (.cell K 0) = some (.d (.sc (.bool b0)))) :
    Sim E ((.slot d, some (.d (.sc (.bool v)))) :: leaveSt E.N ((.cell K 0, some (.d (.sc (.bool v)))) :: st)) G (a0.put (some d) (.bool v)) (w.setCell ⟨p, 0, none⟩ (.bool v)) ∧ w.cell? ⟨p, 0, none⟩ = some (.bool b0) ∧ w.frozen? ⟨p, 0, none⟩ = false := by
  have hb0 : look st (.box K) ≠ none := by intro c; rw [c] at hbox; cases hbox
  have hμ : G.μ K = p := (s.rcv (K, p) (by show (K, p) ∈ (K, p) :: E.fix; simp)).2 hb0
  obtain ⟨_, cs, t, cv, h1, h2, h3⟩ := s.cells K 0 _ hcell
  rw [hμ] at h1
  have hcv : cv = .bool b0 := rel_sc h3
  have hsz : 0 < cs.size := (Array.getElem?_eq_some_iff.1 h2).1
  have s1 := s.store (id := K) (off := 0) (vs := [.d (.sc (.bool v))]) (us := [.bool v]) (relVL_cons (.sc _) relVL_nil) hb0 (by rw [hμ]; exact h1) (by simp; omega)
  rw [hμ, ← setCell_row h1 hsz] at s1
  have s2 : Sim (E.into n a0) ((.cell K 0, some (.d (.sc (.bool v)))) :: st) G a (w.setCell ⟨p, 0, none⟩ (.bool v)) := s1.refix (F := E.fix) (fun q hq => by rw [hfix] at hq; cases hq)
  exact ⟨s2.back h0 hd0 hd (by rw [hfix]; rfl) (r := .d (.sc (.bool v))) (.sc _), by rw [cell_of_block h1, h2, hcv], frozen_of h1⟩
theorem hits_backC {fn : Func} {ops : Array Oper} {l : List Oper} {n K p : Nat} {a0 : Act} {tN : TypeId} {pv : Value} {b0 : Bool} {e : Exit} (he : e = .ret ∨ e = .normal) (h0 : a0.tmps.size = E.N) (hd0 : a0.defers = []) (hd : d < E.N) (hfix : E.fix = []) (hr : fn.results.toList = []) (hbox : (look st (.box K)).isSome = true) (hcell : look st (.cell K 0) = some (.d (.sc (.bool b0))))
    (h : Hits E ((.slot d, some (.d (.sc (.bool false)))) :: leaveSt E.N ((.cell K 0, some (.d (.sc (.bool false)))) :: st)) (wpList P ops Q l)) : Hits (E.intoC n a0 K p) st (bodyPost P fn (Caught tN p pv (BackR P a0 d ops Q l)) e) := by
  intro G a w s
  obtain ⟨s1, h1, h2⟩ := s.backC (v := false) h0 hd0 hd hfix hbox hcell
  have hres : (results fn a.tmps).run P w = .ok (.tuple #[]) w := by
    rw [results_eq, Array.mapM_eq_mapM_toList, hr]
    simp
  rcases he with rfl | rfl
  · exact ⟨s.defers, _, hres, ⟨b0, h1⟩, h2, .inl ⟨_, rfl, _, rfl, h _ _ _ s1⟩⟩
  · exact ⟨s.defers, _, hres, ⟨b0, h1⟩, h2, .inl ⟨_, rfl, _, rfl, h _ _ _ s1⟩⟩
theorem panC_of {fn : Func} {ops : Array Oper} {l : List Oper} {n K p : Nat} {a0 : Act} {tN : TypeId} {pv : Value} {b0 : Bool} (h0 : a0.tmps.size = E.N) (hd0 : a0.defers = []) (hd : d < E.N) (hfix : E.fix = []) (hbox : (look st (.box K)).isSome = true) (hcell : look st (.cell K 0) = some (.d (.sc (.bool b0))))
    (h : Hits E ((.slot d, some (.d (.sc (.bool true)))) :: leaveSt E.N ((.cell K 0, some (.d (.sc (.bool true)))) :: st)) (wpList P ops Q l)) : Hits (E.intoC n a0 K p) st fun a w => bodyPost P fn (Caught tN p pv (BackR P a0 d ops Q l)) (.panic (ch0 pv)) a w := by
  intro G a w s
  have hbl : Below w.heap.size w (w.alloc (.cells #[] tN)) := (Below.refl _ _).alloc (Nat.le_refl _) _
  obtain ⟨_, h1, h2⟩ := s.backC (v := true) h0 hd0 hd hfix hbox hcell
  obtain ⟨s1, _, _⟩ := (s.later0 hbl).backC (v := true) h0 hd0 hd hfix hbox hcell
  exact ⟨s.defers, ⟨b0, h1⟩, h2, .inr ⟨rfl, _, rfl, h _ _ _ s1⟩⟩
theorem with_rest {X : Type} {ops : Array Oper} {o : Oper} {l : List Oper} (stT : X → St) (J : X → Prop) (h1 : ∀ x, J x → Hits E (stT x) (wpList P ops Q l)) (h2 : (∀ x, J x → Hits E (stT x) (wpList P ops Q l)) → Hits E st (wpList P ops Q (o :: l))) : Hits E st (wpList P ops Q (o :: l)) := h2 h1
theorem hits_slotL {K : Act → World → Prop} (t : Nat) {es : Nat} {l : List D} {v : V} (hl : look st (.slot t) = some v) (ha : asList v = some (es, l)) (h : Hits E ((.slot t, some (.d (.list es l))) :: st) K) : Hits E st K :=
  fun G a w s => h G a w (s.retell (v := .d (.list es l)) (relV_list (s.slots t _ hl) ha))
end Go.Ab
