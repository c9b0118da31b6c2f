/- Lists that may be written to, as data for a call that only reads; told as data for good. No program. -/
import Derived.Test.YtbgeejmhkmjfdaaGreatDoorAbIn
namespace Go.Ab
open Go Go.RowKit
set_option linter.unusedVariables false
set_option linter.unusedSimpArgs false
variable {P : Program} {E : Env} {st : St} {G : Gh} {a : Act} {w : World} {Q : Exit → Act → World → Prop} {d : Nat} {ty : TypeId} {pos : String} {af : Array Edge} {g : Option (Nat × Bool)} {x y : Operand}

/-! ### As data, as the world stands now -/

inductive Snap0 (L : List Loc) (st : St) : V → D → Prop
  | d (x : D) : Snap0 L st (.d x) x
  | own {id es : Nat} {l : List D} : Snap0 L st (.own id es l) (.list es l)
  | mo {id es n : Nat} {ls : List D} {q : V} (h1 : has L (.tip id) = true) (h2 : look st (.tip id) = some q) (h2' : q.contL = some ((flat ls).map .d)) (h3 : n = ls.length) (h4 : ∀ q ∈ ls, q.cells.length = es) : Snap0 L st (.mo id es n) (.list es ls)
  | any {v : V} (h : v.one = true) : Snap0 L st v .any
  | nil {es : Nat} : Snap0 L st (.d (.sc (.slice none 0 0))) (.list es [])

/-- Cells of a variable from k on. -/
inductive SnapC (L : List Loc) (st : St) (id : Nat) : Nat → List D → Prop
  | nil {k : Nat} : SnapC L st id k []
  | cons {k : Nat} {v : V} {q : D} {l : List D} (h1 : has L (.cell id k) = true) (h2 : look st (.cell id k) = some v) (h3 : Snap0 L st v q) (h4 : SnapC L st id (k + 1) l) : SnapC L st id k (q :: l)

inductive Snap (L : List Loc) (st : St) : V → D → Prop
  | of {v : V} {q : D} (h : Snap0 L st v q) : Snap L st v q
  | box {id : Nat} {ds : List D} (h : SnapC L st id 0 ds) : Snap L st (.ptr id 0) (.eptr ds)

inductive SnapL (L : List Loc) (st : St) : List V → List D → Prop
  | nil : SnapL L st [] []
  | cons {v : V} {q : D} {vs : List V} {l : List D} (h1 : Snap L st v q) (h2 : SnapL L st vs l) : SnapL L st (v :: vs) (q :: l)

def Stab.all (w : World) : Stab := fun b o => w.cell? ⟨b, o, none⟩

theorem has_mem {L : List Loc} {l : Loc} (h : has L l = true) : l ∈ L := by
  obtain ⟨k, h1, h2⟩ := List.any_eq_true.mp h
  obtain rfl := (Loc.eqb_iff _ _).1 h2
  exact h1

theorem flat_len_of {es : Nat} : ∀ {l : List D}, (∀ q ∈ l, q.cells.length = es) → (flat l).length = l.length * es
  | [], _ => by simp [flat]
  | q :: l, hq => by
    rw [show flat (q :: l) = q.cells ++ flat l from rfl, List.length_append, hq q (by simp), flat_len_of (fun x hx => hq x (by simp [hx])), List.length_cons, Nat.add_mul]; omega

theorem relVL_relL {G : Gh} : ∀ {l : List D} {us : List Value}, RelVL G (l.map .d) us → RelL G.S l us
  | [], us, h => by simp only [List.map_nil, RelVL] at h; subst h; exact .nil
  | q :: l, us, h => by
    simp only [List.map_cons, RelVL] at h
    obtain ⟨u, r, rfl, h1, h2⟩ := h
    simp only [RelV] at h1
    exact .cons h1 (relVL_relL h2)

variable {L : List Loc}

theorem Sim.all_le (s : Sim E st G a w) : G.S.le (Stab.all w) := fun b o v hv => s.stable b o v hv

theorem Sim.snap0 (s : Sim E st G a w) {v : V} {q : D} {u : Value} (h : Snap0 L st v q) (hr : RelV G v u) : Rel (Stab.all w) q u := by
  cases h with
  | d => exact Rel.mono s.all_le hr
  | own => exact Rel.mono s.all_le (relV_own hr)
  | mo h1 h2 h2' h3 h4 =>
    rename_i id es n ls qv
    subst h3
    simp only [RelV] at hr
    rcases hr with ⟨_, h0, rfl⟩ | ⟨hk, o, cap, rfl, hcap, hte, _⟩
    · obtain rfl : ls = [] := List.length_eq_zero_iff.mp h0
      exact .lnil
    · obtain ⟨q1, o', us, cs, t, q2, q3, q4, q5, q6⟩ := s.conts id _ _ h2 h2' hk
      rw [List.length_map, flat_len_of h4] at q3
      obtain rfl : o = o' := by omega
      refine .list hcap (relE_of h4 (relP_of (RelL.mono s.all_le (relVL_relL q5)) fun k u hk => ?_))
      show w.cell? _ = some u
      rw [cell_of_block q2]
      exact q6 k u hk
  | any h => exact .any (relV_one hr h).1
  | nil => rw [rel_sc (show Rel G.S _ _ from hr)]; exact .lnil

theorem Sim.snapC (s : Sim E st G a w) {id : Nat} : ∀ {k : Nat} {ds : List D}, SnapC L st id k ds → RelP (Stab.all w) ds (G.μ id) k
  | _, [], _ => .nil
  | k, q :: l, .cons h1 h2 h3 h4 => by
    obtain ⟨_, cs, t, cv, q1, q2, q3⟩ := s.cells id k _ h2
    refine .cons ?_ (s.snap0 h3 q3) (s.snapC h4)
    show w.cell? _ = some cv
    rw [cell_of_block q1]; exact q2

theorem Sim.snap (s : Sim E st G a w) {v : V} {q : D} {u : Value} (h : Snap L st v q) (hr : RelV G v u) : Rel (Stab.all w) q u := by
  cases h with
  | of h => exact s.snap0 h hr
  | box h =>
    have : u = _ := hr
    rw [this]
    exact .eptr (s.snapC h)

theorem Sim.snapL (s : Sim E st G a w) : ∀ {vs : List V} {ds : List D} {us : List Value}, SnapL L st vs ds → RelVL G vs us → RelL (Stab.all w) ds us
  | [], [], us, _, hr => by simp only [RelVL] at hr; subst hr; exact .nil
  | v :: vs, q :: ds, us, .cons h1 h2, hr => by
    simp only [RelVL] at hr
    obtain ⟨u, r, rfl, h3, h4⟩ := hr
    exact .cons (s.snap h1 h3) (s.snapL h2 h4)

theorem Snap0.same {st' : St} (hL : ∀ l ∈ L, look st' l = look st l) {v : V} {q : D} (h : Snap0 L st v q) : Snap0 L st' v q := by
  cases h with
  | d => exact .d _
  | own => exact .own
  | mo h1 h2 h2' h3 h4 => exact .mo h1 ((hL _ (has_mem h1)).trans h2) h2' h3 h4
  | any h => exact .any h
  | nil => exact .nil

theorem SnapC.same {st' : St} (hL : ∀ l ∈ L, look st' l = look st l) {id : Nat} : ∀ {k : Nat} {ds : List D}, SnapC L st id k ds → SnapC L st' id k ds
  | _, [], _ => .nil
  | k, q :: l, .cons h1 h2 h3 h4 => .cons h1 ((hL _ (has_mem h1)).trans h2) (h3.same hL) (h4.same hL)

theorem SnapL.same {st' : St} (hL : ∀ l ∈ L, look st' l = look st l) : ∀ {vs : List V} {ds : List D}, SnapL L st vs ds → SnapL L st' vs ds
  | [], [], _ => .nil
  | v :: vs, q :: ds, .cons h1 h2 => .cons (by cases h1 with | of h => exact .of (h.same hL) | box h => exact .box (h.same hL)) (h2.same hL)

theorem evVs_same {st' : St} : ∀ {xs : List Operand}, (∀ l ∈ evsL xs, look st' l = look st l) → evVs st' xs = evVs st xs
  | [], _ => rfl
  | x :: r, h => by
    unfold evVs
    rw [ev_same (fun l hl => h l (mem_l hl)) (fun l hl => hl), evVs_same (fun l hl => h l (mem_r hl))]

/-- A call that only reads, of lists that may be written to. -/
theorem f_callQ {f : FuncId} {xs : List Operand} {ats : Array TypeId} {vs : List V} {ds : List D} {r : D} {v : Value} (L : List Loc) (hen : enters P f = true) (ha : evVs st xs = some vs) (hs : SnapL L st vs ds) (hc : CallsP P E.Γ f ds r) (hp : plainV r = some v) (hd : d < E.N) :
    FOk P E ⟨some d, .call ⟨.value (.func f), xs.toArray, ats⟩, ty, pos, af, g⟩ st (evsL xs ++ L) [] [(.slot d, some (.d r))] := by
  intro Q K st' hL _ hK G a w s
  have h1 := s.evVs ((evVs_same (fun l h => hL l (mem_l h))).trans ha)
  have h1' := s.snapL (hs.same fun l h => hL l (mem_r h)) h1
  show Oper.upon P _ a K Q ((execOp a.eval _).run P w)
  have hrun : (execOp a.eval (⟨some d, .call ⟨.value (.func f), xs.toArray, ats⟩, ty, pos, af, g⟩ : Oper)).run P w = .ok (.enter f ⟨xs.map a.eval⟩) w := by
    simp [execOp, resolve, Act.eval, Deferred.ofValue, invoke, run_callFunc hen]
  rw [hrun]
  have h2 := hc (Stab.all w) w (xs.map a.eval) (E.stab w s.kw) (fun b o v hv => hv) h1'
  refine h2.mono ?_
  rintro e w' ⟨u, S', rfl, hr, hS, hb, hn⟩
  obtain rfl := rel_plain hp hr
  exact hK _ _ _ ((s.later0 hb).put hd (show Rel _ _ _ from plain_rel hp))

/-! ### New numbers for lists -/

mutual
theorem RelV.tipext {G G' : Gh} {id : Nat} (h : G.tipx G' id) : ∀ {v : V} {u : Value}, v.free id = true → RelV G v u → RelV G' v u
  | .d x, _, _, hr => by simp only [RelV] at *; exact Rel.mono h.S hr
  | .ptr i off, _, _, hr => by simp only [RelV] at *; rw [h.μ]; exact hr
  | .mapp i, _, _, hr => by simp only [RelV] at *; rw [h.μ]; exact hr
  | .fn f ids, _, _, hr => by simp only [RelV] at *; rw [h.μ]; exact hr
  | .own i es l, _, hf, hr => by
    have hi : i ≠ id := by simpa [V.free] using hf
    simp only [RelV] at *
    rw [h.tb i hi, h.tk i hi, h.te i hi, h.tz i hi]
    rcases hr with hr | ⟨h1, o, cap, h2, h3, h4, h5⟩
    · exact .inl hr
    · exact .inr ⟨h1, o, cap, h2, h3, RelE.mono h.S h4, h5⟩
  | .mo i es n, _, hf, hr => by
    have hi : i ≠ id := by simpa [V.free] using hf
    simp only [RelV] at *
    rw [h.tb i hi, h.tk i hi, h.te i hi, h.tz i hi]; exact hr
  | .mptr i n off, _, hf, hr => by
    have hi : i ≠ id := by simpa [V.free] using hf
    simp only [RelV] at *
    rw [h.tb i hi, h.tk i hi, h.te i hi]; exact hr
  | .agg l, _, hf, hr => by
    simp only [RelV, V.free] at *
    obtain ⟨cs, h1, h2⟩ := hr
    exact ⟨cs, h1, RelVL.tipext h hf h2⟩
  | .tup l, _, hf, hr => by
    simp only [RelV, V.free] at *
    obtain ⟨cs, h1, h2⟩ := hr
    exact ⟨cs, h1, RelVL.tipext h hf h2⟩
  | .cont l, _, _, hr => by simp only [RelV] at hr
  | .contD l, _, _, hr => by simp only [RelV] at hr
theorem RelVL.tipext {G G' : Gh} {id : Nat} (h : G.tipx G' id) : ∀ {l : List V} {us : List Value}, V.frees id l = true → RelVL G l us → RelVL G' l us
  | [], _, _, hr => by simp only [RelVL] at *; exact hr
  | v :: l, _, hf, hr => by
    simp only [RelVL, V.frees, Bool.and_eq_true] at *
    obtain ⟨u, r, h1, h2, h3⟩ := hr
    exact ⟨u, r, h1, RelV.tipext h hf.1 h2, RelVL.tipext h hf.2 h3⟩
end

def Gh.tip (G : Gh) (d b n z : Nat) : Gh := { G with tb := upd G.tb d b, tk := upd G.tk d true, te := upd G.te d n, tz := upd G.tz d z }

theorem tipx_tip (G : Gh) (d b n z : Nat) : G.tipx (G.tip d b n z) d :=
  ⟨Stab.le.refl _, rfl, fun i hi => by simp [Gh.tip, upd, hi], fun i hi => by simp [Gh.tip, upd, hi], fun i hi => by simp [Gh.tip, upd, hi], fun i hi => by simp [Gh.tip, upd, hi]⟩

theorem unused_tipne {st : St} {id i : Nat} (h : st.unused id = true) (hl : look st (.tip i) ≠ none) : i ≠ id := by
  induction st with
  | nil => exact absurd rfl hl
  | cons e r ih =>
    simp only [St.unused, List.all_cons, Bool.and_eq_true] at h
    rw [look_cons] at hl
    split at hl
    · rename_i he
      rw [he] at h
      simpa using h.1.1
    · exact ih h.2 hl

/-- A new list in a block of its own. -/
theorem Sim.newtip {d b n z o : Nat} {l : List V} {us : List Value} {cs : Array Value} {t : TypeId} (s : Sim E st G a w) (hu : st.unused d = true) (h1 : E.w0.heap.size ≤ b ∨ b ∈ E.outs) (h2 : w.heap[b]? = some (.cells cs t (0, 0))) (hz : z ≤ cs.size)
    (hS : ∀ o, G.S b o = none) (hbx : ∀ j, look st (.box j) ≠ none → G.μ j ≠ b) (htp : ∀ j, look st (.tip j) ≠ none → G.tk j = true → G.tb j ≠ b) (ho : o + l.length = n) (hn : n ≤ cs.size) (hr : RelVL G l us) (hf : V.frees d l = true)
    (hg : ∀ k u, us[k]? = some u → cs[o + k]? = some u) : Sim E ((.tip d, some (.cont l)) :: st) (G.tip d b n z) a w := by
  have hx := tipx_tip G d b n z
  have el : ∀ k : Loc, k ≠ .tip d → look ((Loc.tip d, some (V.cont l)) :: st) k = look st k := fun k hk => look_ne _ _ (fun c => hk c.symm)
  have oth : ∀ i, i ≠ d → look ((Loc.tip d, some (V.cont l)) :: st) (.tip i) = look st (.tip i) := fun i hi => el _ (by simpa using hi)
  refine ⟨s.kw, s.s0, s.snew, s.tmps, s.defers, fun t v hv => ?_, fun i o v hv => ?_, fun i hi => ?_, fun i j hi hj => ?_, s.stable, fun i hi ht => ?_, fun i j hi hj ht htj => ?_, fun p hp => ⟨(s.rcv p hp).1, fun hi => (s.rcv p hp).2 (by rw [el _ (by simp)] at hi; exact hi)⟩, fun i qv l' hl' hcl ht => ?_, fun i v hv => ?_, fun k v hv => ?_⟩
  · rw [el _ (by simp)] at hv; exact (s.slots t v hv).tipext hx (unused_slot hu hv)
  · rw [el _ (by simp)] at hv
    obtain ⟨q1, cs', ty', cv, q2, q3, q4⟩ := s.cells i o v hv
    exact ⟨by rw [el _ (by simp)]; exact q1, cs', ty', cv, q2, q3, q4.tipext hx (unused_cell hu hv).1⟩
  · rw [el _ (by simp)] at hi; exact s.boxes i hi
  · rw [el _ (by simp)] at hi hj; exact s.inj i j hi hj
  · by_cases hd : i = d
    · subst hd
      refine ⟨by simpa [Gh.tip, upd] using h1, ⟨cs, t, by simpa [Gh.tip, upd] using h2, by simpa [Gh.tip, upd] using hz⟩, fun o _ => ?_, fun j hj => ?_⟩
      · show G.S ((upd G.tb i b) i) o = none
        simp only [upd, if_true]; exact hS o
      · rw [el _ (by simp)] at hj
        show G.μ j ≠ (upd G.tb i b) i
        simp only [upd, if_true]; exact hbx j hj
    · rw [oth i hd] at hi
      have ht' : G.tk i = true := by simpa [Gh.tip, upd, hd] using ht
      obtain ⟨q1, ⟨cs', ty', q2, q3⟩, q4, q5⟩ := s.tips i hi ht'
      have e1 : (G.tip d b n z).tb i = G.tb i := hx.tb i hd
      have e2 : (G.tip d b n z).te i = G.te i := hx.te i hd
      have e3 : (G.tip d b n z).tz i = G.tz i := hx.tz i hd
      rw [e1, e2, e3]
      exact ⟨q1, ⟨cs', ty', q2, q3⟩, q4, fun j hj => q5 j (by rw [el _ (by simp)] at hj; exact hj)⟩
  · show (upd G.tb d b) i = (upd G.tb d b) j → i = j
    by_cases hi' : i = d <;> by_cases hj' : j = d
    · intro _; rw [hi', hj']
    · subst hi'
      rw [oth j hj'] at hj
      have : G.tk j = true := by simpa [Gh.tip, upd, hj'] using htj
      simp only [upd, if_true, hj', if_false]
      intro c; exact absurd c.symm (htp j hj this)
    · subst hj'
      rw [oth i hi'] at hi
      have : G.tk i = true := by simpa [Gh.tip, upd, hi'] using ht
      simp only [upd, if_true, hi', if_false]
      intro c; exact absurd c (htp i hi this)
    · rw [oth i hi'] at hi
      rw [oth j hj'] at hj
      simp only [upd, hi', hj', if_false]
      exact s.tinj i j hi hj (by simpa [Gh.tip, upd, hi'] using ht) (by simpa [Gh.tip, upd, hj'] using htj)
  · by_cases hd : i = d
    · subst hd
      rw [look_same] at hl'
      cases hl'
      cases hcl
      have e1 : (G.tip i b n z).tb i = b := by simp [Gh.tip, upd]
      have e2 : (G.tip i b n z).te i = n := by simp [Gh.tip, upd]
      rw [e1, e2]
      exact ⟨hS, o, us, cs, t, h2, ho, hn, hr.tipext hx hf, hg⟩
    · rw [oth i hd] at hl'
      have ht' : G.tk i = true := by simpa [Gh.tip, upd, hd] using ht
      obtain ⟨q1, o', us', cs', ty', q2, q3, q4, q5, q6⟩ := s.conts i qv l' hl' hcl ht'
      have e1 : (G.tip d b n z).tb i = G.tb i := hx.tb i hd
      have e2 : (G.tip d b n z).te i = G.te i := hx.te i hd
      rw [e1, e2]
      exact ⟨q1, o', us', cs', ty', q2, q3, q4, q5.tipext hx (free_contL (unused_tip hu hl') hcl), q6⟩
  · rw [el _ (by simp)] at hv; rw [el _ (by simp)]; exact s.iters i v hv
  · rw [el _ (by simp)] at hv; exact (s.olds k v hv).tipext hx (unused_old hu hv)

/-- A list's block is written behind its end; of the list nothing is told any more. -/
theorem Sim.spill {i : Nat} {l : List V} {q : V} {us : List Value} {t : TypeId} {cs : Array Value} (h : Sim E st G a w) (hl : look st (.tip i) = some q) (hq : q.contL = some l) (hk : G.tk i = true) (hold : w.heap[G.tb i]? = some (.cells cs t (0, 0))) (hfit : G.te i + us.length ≤ cs.size) :
    Sim E ((.tip i, none) :: st) G a (w.setRow (G.tb i) (splice cs (G.te i) us)) := by
  have htn : look st (.tip i) ≠ none := by rw [hl]; simp
  obtain ⟨t1, t2, t3, t4⟩ := h.tips i htn hk
  have hS := (h.conts i _ l hl hq hk).1
  have es : ∀ k : Loc, k ≠ .tip i → look ((Loc.tip i, none) :: st) k = look st k := fun k hk => look_ne _ _ (fun c => hk c.symm)
  have et : ∀ j, look ((Loc.tip i, none) :: st) (.tip j) ≠ none → j ≠ i ∧ look st (.tip j) ≠ none := fun j hh => by
    rw [look_cons] at hh
    split at hh
    · exact absurd rfl hh
    · rename_i hc; exact ⟨fun c => hc (by rw [c]), hh⟩
  refine ⟨⟨h.kw.os, h.kw.tape, h.kw.output, by rw [setRow_size]; exact h.size, fun k hk' ho => ?_⟩, h.s0, h.snew, h.tmps, h.defers, fun t v hv => ?_, fun j o v hv => ?_, fun j hj => ?_, fun j k hj hk' => ?_, fun b o v hS' => ?_, fun j hj htj => ?_, fun j k hj hk' => h.tinj j k (et j hj).2 (et k hk').2, fun p hp => ⟨(h.rcv p hp).1, fun hi => (h.rcv p hp).2 (by rw [es _ (by simp)] at hi; exact hi)⟩, fun j qv l' hl' hcl htj => ?_, fun j v hv => ?_, fun k v hv => h.olds k v (by rw [es _ (by simp)] at hv; exact hv)⟩
  · rw [heap_setRow_ne _ _ _ _ (by rintro rfl; rcases t1 with q | q; omega; exact ho q)]; exact h.kw.frame k hk' ho
  · rw [es _ (by simp)] at hv; exact h.slots t v hv
  · rw [es _ (by simp)] at hv
    obtain ⟨q1, cs', ty', cv, q2, q3, q4⟩ := h.cells j o v hv
    exact ⟨by rw [es _ (by simp)]; exact q1, cs', ty', cv, by rw [heap_setRow_ne _ _ _ _ (t4 j q1)]; exact q2, q3, q4⟩
  · rw [es _ (by simp)] at hj
    obtain ⟨q1, q2, q3⟩ := h.boxes j hj
    exact ⟨q1, by rw [setRow_size]; exact q2, q3⟩
  · rw [es _ (by simp)] at hj hk'; exact h.inj j k hj hk'
  · rw [cell_setRow_ne _ _ _ (by rintro rfl; rw [hS] at hS'; cases hS')]; exact h.stable b o v hS'
  · obtain ⟨hne, hj'⟩ := et j hj
    obtain ⟨q1, ⟨cs', ty', q2, q3⟩, q4, q5⟩ := h.tips j hj' htj
    have hb : G.tb j ≠ G.tb i := fun c => hne (h.tinj j i hj' htn htj hk c)
    exact ⟨q1, ⟨cs', ty', by rw [heap_setRow_ne _ _ _ _ hb]; exact q2, q3⟩, q4, fun k hk' => q5 k (by rw [es _ (by simp)] at hk'; exact hk')⟩
  · obtain ⟨hne, hj'⟩ := et j (by rw [hl']; simp)
    rw [es _ (by simpa using hne)] at hl'
    obtain ⟨q1, o', us', cs', ty', q2, q3, q4, q5, q6⟩ := h.conts j qv l' hl' hcl htj
    have hb : G.tb j ≠ G.tb i := fun c => hne (h.tinj j i hj' htn htj hk c)
    exact ⟨q1, o', us', cs', ty', by rw [heap_setRow_ne _ _ _ _ hb]; exact q2, q3, q4, q5, q6⟩
  · rw [es _ (by simp)] at hv
    obtain ⟨q1, s, pos, q2, q3⟩ := h.iters j v hv
    exact ⟨by rw [es _ (by simp)]; exact q1, s, pos, q2, by rw [heap_setRow_ne _ _ _ _ (t4 j q1)]; exact q3⟩

/-- Of a list nothing is told any more. -/
theorem Sim.untip (h : Sim E st G a w) (i : Nat) : Sim E ((.tip i, none) :: st) G a w := by
  have es : ∀ k : Loc, k ≠ .tip i → look ((Loc.tip i, none) :: st) k = look st k := fun k hk => look_ne _ _ (fun c => hk c.symm)
  have et : ∀ j, look ((Loc.tip i, none) :: st) (.tip j) ≠ none → j ≠ i ∧ look st (.tip j) ≠ none := fun j hh => by
    rw [look_cons] at hh
    split at hh
    · exact absurd rfl hh
    · rename_i hc; exact ⟨fun c => hc (by rw [c]), hh⟩
  refine ⟨h.kw, h.s0, h.snew, h.tmps, h.defers, fun t v hv => h.slots t v (by rw [es _ (by simp)] at hv; exact hv), fun j o v hv => by rw [es _ (by simp)] at hv ⊢; exact h.cells j o v hv, fun j hj => h.boxes j (by rw [es _ (by simp)] at hj; exact hj), fun j k hj hk' => h.inj j k (by rw [es _ (by simp)] at hj; exact hj) (by rw [es _ (by simp)] at hk'; exact hk'), h.stable, fun j hj htj => ?_, fun j k hj hk' => h.tinj j k (et j hj).2 (et k hk').2,
    fun p hp => ⟨(h.rcv p hp).1, fun hi => (h.rcv p hp).2 (by rw [es _ (by simp)] at hi; exact hi)⟩, fun j qv l' hl' hcl htj => ?_, fun j v hv => by rw [es _ (by simp)] at hv ⊢; exact h.iters j v hv, fun k v hv => h.olds k v (by rw [es _ (by simp)] at hv; exact hv)⟩
  · obtain ⟨q1, q2, q3, q4⟩ := h.tips j (et j hj).2 htj
    exact ⟨q1, q2, q3, fun k hk' => q4 k (by rw [es _ (by simp)] at hk'; exact hk')⟩
  · obtain ⟨hne, hj'⟩ := et j (by rw [hl']; simp)
    rw [es _ (by simpa using hne)] at hl'
    exact h.conts j qv l' hl' hcl htj

/-! ### Parts that are values of the walk -/

theorem relVL_append {G : Gh} : ∀ {l l' : List V} {us us' : List Value}, RelVL G l us → RelVL G l' us' → RelVL G (l ++ l') (us ++ us')
  | [], _, us, _, h, h' => by simp only [RelVL] at h; subst h; exact h'
  | v :: l, _, us, _, h, h' => by
    simp only [RelVL] at h
    obtain ⟨u, r, rfl, h1, h2⟩ := h
    exact relVL_cons h1 (relVL_append h2 h')

theorem relVL_take {G : Gh} : ∀ {l : List V} {us : List Value} (n : Nat), RelVL G l us → RelVL G (l.take n) (us.take n)
  | _, _, 0, _ => by simpa using relVL_nil
  | [], us, n + 1, h => by simp only [RelVL] at h; subst h; exact relVL_nil
  | v :: l, us, n + 1, h => by
    simp only [RelVL] at h
    obtain ⟨u, r, rfl, h1, h2⟩ := h
    exact relVL_cons h1 (relVL_take n h2)

theorem relVL_drop {G : Gh} : ∀ {l : List V} {us : List Value} (n : Nat), RelVL G l us → RelVL G (l.drop n) (us.drop n)
  | _, _, 0, h => h
  | [], us, n + 1, h => by simp only [RelVL] at h; subst h; exact relVL_nil
  | v :: l, us, n + 1, h => by
    simp only [RelVL] at h
    obtain ⟨u, r, rfl, h1, h2⟩ := h
    exact relVL_drop n h2

theorem relVL_scs (G : Gh) : ∀ zs : List Value, RelVL G (zs.map fun z => V.d (.sc z)) zs
  | [] => relVL_nil
  | z :: zs => relVL_cons (show Rel _ _ _ from .sc z) (relVL_scs G zs)

def evPV (st : St) : List (Nat × Operand) → Option (List (Nat × V))
  | [] => some []
  | (i, x) :: r => match ev st x, evPV st r with
    | some v, some l => some ((i, v) :: l)
    | _, _ => none

def RelPVs (G : Gh) : List (Nat × V) → List (Nat × Value) → Prop
  | [], [] => True
  | (i, q) :: l, (j, u) :: r => i = j ∧ RelV G q u ∧ RelPVs G l r
  | _, _ => False

theorem Sim.evPV (h : Sim E st G a w) : ∀ {xs : List (Nat × Operand)} {ps : List (Nat × V)}, Ab.evPV st xs = some ps → RelPVs G ps (xs.map fun p => (p.1, a.eval p.2))
  | [], ps, he => by obtain rfl := Option.some.inj he; exact trivial
  | (i, x) :: r, ps, he => by
    unfold Ab.evPV at he
    split at he
    · rename_i v l h1 h2
      obtain rfl := Option.some.inj he
      exact ⟨rfl, h.ev h1, Sim.evPV h h2⟩
    · cases he

theorem evPV_same {st st0 : St} {L : List Loc} (hL : ∀ l ∈ L, look st l = look st0 l) : ∀ {xs : List (Nat × Operand)}, (∀ l ∈ evsL (xs.map (·.2)), l ∈ L) → evPV st xs = evPV st0 xs
  | [], _ => rfl
  | (i, x) :: r, hx => by
    unfold evPV
    rw [ev_same hL (fun l hl => hx l (by simp [evsL, hl])), evPV_same hL (xs := r) (fun l hl => hx l (by simp only [List.map_cons, evsL, List.flatMap_cons, List.mem_append]; exact .inr hl))]

def fillV (place : Nat → Option (Nat × Nat)) (cells : List V) : List (Nat × V) → Option (List V)
  | [] => some cells
  | (i, q) :: r => match place i, vcells q with
    | some (off, size), some vs => match vs.length == size && Nat.ble (off + size) cells.length with
      | true => fillV place (setL cells off vs) r
      | false => none
    | _, _ => none

theorem fillV_rel {G : Gh} {place : Nat → Option (Nat × Nat)} : ∀ {ps : List (Nat × V)} {us : List (Nat × Value)} {cells l : List V} {cs : List Value}, RelPVs G ps us → RelVL G cells cs → fillV place cells ps = some l →
    ∃ vs : List Value, Instr.fill place ⟨cs⟩ us = some ⟨vs⟩ ∧ RelVL G l vs
  | [], [], cells, l, cs, _, hc, h => by obtain rfl := Option.some.inj h; exact ⟨cs, rfl, hc⟩
  | (i, q) :: ps, (j, u) :: us, cells, l, cs, ⟨hij, hq, hr⟩, hc, h => by
    subst hij
    simp only [fillV] at h
    split at h
    · rename_i off size vs hpl hvc
      split at h
      · rename_i hcond
        simp only [Bool.and_eq_true, beq_iff_eq] at hcond
        obtain ⟨h1, h2⟩ := hcond
        have h2' : off + size ≤ cells.length := Nat.le_of_ble_eq_true h2
        have h4 := vcells_spec hq hvc
        have h5 := (relVL_get h4).1
        have h6 := (relVL_get hc).1
        have hsz : u.cells.size = size := by rw [← h1, h5]; simp
        have hnext : RelVL G (setL cells off vs) (setL cs off u.cells.toList) := by
          unfold setL
          rw [h5]
          exact relVL_append (relVL_append (relVL_take _ hc) h4) (relVL_drop _ hc)
        obtain ⟨vs', hv1, hv2⟩ := fillV_rel hr hnext h
        refine ⟨vs', ?_, hv2⟩
        simp only [Instr.fill, hpl]
        rw [if_neg]
        · have e := foldl_set u.cells.toList 0 off ⟨cs⟩ (by simp [hsz]; omega)
          rw [Nat.add_zero] at e
          have e2 : u.cells.zipIdx.foldl (fun cs (p : Value × Nat) => cs.setIfInBounds (off + p.2) p.1) (⟨cs⟩ : Array Value) = ⟨setL cs off u.cells.toList⟩ := by
            rw [← Array.foldl_toList, Array.toList_zipIdx]; exact e
          rw [← hv1]
          congr 1
        · simp [hsz]; omega
      · cases h
    · cases h
  | [], _ :: _, _, _, _, h, _, _ => h.elim
  | _ :: _, [], _, _, _, h, _, _ => h.elim

/-- A struct with a list within that may be written to. -/
theorem f_buildV {t : TypeId} {parts : List (Nat × Operand)} {ps : List (Nat × V)} {pl : List (Nat × Nat)} {zs : List Value} {l : List V} (hb : bk P t = some (pl, zs)) (he : evPV st parts = some ps) (hl : fillV (pl[·]?) (zs.map fun z => .d (.sc z)) ps = some l) (hd : d < E.N) :
    FOk P E ⟨some d, .build t parts.toArray, ty, pos, af, g⟩ st (evsL (parts.map (·.2))) [] [(.slot d, some (.agg l))] :=
  fok_val rfl hd fun st' G a w hL hs => by
    have h1 := hs.evPV ((evPV_same hL fun l h => h).trans he)
    unfold bk at hb
    split at hb
    · rename_i fs zs' hu hz
      split at hb
      · rename_i pl' hpl
        obtain ⟨rfl, rfl⟩ := Prod.mk.inj (Option.some.inj hb)
        obtain ⟨z, hz1, hz2⟩ := zc_spec hz
        obtain ⟨vs, hv1, hv2⟩ := fillV_rel h1 (relVL_scs G zs') hl
        have hrp := run_places (P := P) (w := w) hpl
        refine ⟨.agg ⟨vs⟩, ?_, by simp only [RelV]; exact ⟨vs, rfl, hv2⟩⟩
        have hpl2 : (fs.mapM fun (f : Field) => (do pure (f.offset, ← sizeOf f.type) : Sem (Nat × Nat))).run P w = .ok pl'.toArray w := by
          rw [Array.mapM_eq_mapM_toList, Sem.run_map, hrp]; rfl
        have hf : Instr.fill (fun i => pl'[i]?) (⟨zs'⟩ : Array Value) (parts.map fun p => (p.1, a.eval p.2)) = some ⟨vs⟩ := hv1
        simp only [execOp, Instr.build, Sem.run_bind, hz1, Result.andThen_ok, run_underlying hu, hz2, hpl2]
        simp [hf]
      · cases hb
    · cases hb

/-- A new list: its run, and what is known behind it. -/
theorem fok_newtip {o : Oper} {id es n : Nat} {l : List V} {L : List Loc} {W0 : St} (ho : o.dst = some d) (hd : d < E.N)
    (run : ∀ (st' : St) (G : Gh) (a : Act) (w : World), (∀ k ∈ L, look st' k = look st k) → st'.unused id = true → Sim E st' G a w → ∃ u w' b z cap o' us cs t, (execOp a.eval o).run P w = .ok (.value u) w' ∧ Sim E (W0 ++ st') G a w' ∧ (W0 ++ st').unused id = true ∧
      (E.w0.heap.size ≤ b ∨ b ∈ E.outs) ∧ w'.heap[b]? = some (.cells cs t (0, 0)) ∧ z ≤ cs.size ∧ (∀ o, G.S b o = none) ∧ (∀ j, look (W0 ++ st') (.box j) ≠ none → G.μ j ≠ b) ∧ (∀ j, look (W0 ++ st') (.tip j) ≠ none → G.tk j = true → G.tb j ≠ b) ∧
      o' + n * es ≤ cs.size ∧ RelVL G l us ∧ (∀ k u, us[k]? = some u → cs[o' + k]? = some u) ∧ u = .slice (some ⟨b, o', none⟩) n cap ∧ n ≤ cap ∧ z = o' + cap * es)
    (hlen : l.length = n * es) (hf : V.frees id l = true) : FOk P E o st L [id] ((.slot d, some (.mo id es n)) :: (.tip id, some (.cont l)) :: W0) := by
  intro Q K st' hL hfr hK G a w hs
  have hu := hfr id (by simp)
  obtain ⟨u, w', b, z, cap, o', us, cs, t, hr, s1, hu1, h1, h2, h3, h4, h5, h6, h7, h8, h9, rfl, h10, h11⟩ := run st' G a w hL hu hs
  show o.upon P a K Q ((execOp a.eval o).run P w)
  rw [hr]
  show K (a.put o.dst _) _
  rw [ho]
  have s2 := s1.newtip (d := id) (b := b) (n := o' + n * es) (z := z) (o := o') (l := l) hu1 h1 h2 h3 h4 h5 h6 (by rw [hlen]) h7 h8 hf h9
  refine hK _ _ _ (s2.put hd ?_)
  simp only [RelV]
  exact .inr ⟨by simp [Gh.tip, upd], o', cap, by simp [Gh.tip, upd], h10, by simp [Gh.tip, upd], by simp [Gh.tip, upd, h11]⟩

/-- A list made of parts, that may be written to. -/
theorem f_buildSliceV (id : Nat) {t e : TypeId} {n es : Nat} {zs : List Value} {parts : List (Nat × Operand)} {ps : List (Nat × V)} {l : List V} (hk : sk P t = some (e, es, zs)) (he : evPV st parts = some ps)
    (hl : fillV (fun i => some (i * es, es)) ((zsn zs (n * es)).map fun z => .d (.sc z)) ps = some l) (hlen : Nat.beq l.length (n * es) = true) (hf : V.frees id l = true) (hbig : n * es ≤ 16777216) (hpos : 0 < n * es) (hd : d < E.N) :
    FOk P E ⟨some d, .buildSlice t n parts.toArray, ty, pos, af, g⟩ st (evsL (parts.map (·.2))) [id] [(.slot d, some (.mo id es n)), (.tip id, some (.cont l))] := by
  have hlen' : l.length = n * es := Nat.eq_of_beq_eq_true hlen
  refine fok_newtip (W0 := []) rfl hd (fun st' G a w hL hu hs => ?_) hlen' hf
  have h1 := hs.evPV ((evPV_same hL fun l h => h).trans he)
  unfold sk at hk
  split at hk
  · rename_i e' hut
    split at hk
    · rename_i i zs' hi hz
      simp only [Option.some.injEq, Prod.mk.injEq] at hk
      obtain ⟨rfl, rfl, rfl⟩ := hk
      obtain ⟨zv, hz1, hz2⟩ := zc_spec hz
      obtain ⟨vs, hv1, hv2⟩ := fillV_rel h1 (relVL_scs G (zsn zs' (n * i.size))) hl
      have hvl : vs.length = n * i.size := by rw [← (relVL_get hv2).1, hlen']
      have hb : Below w.heap.size w (w.alloc (.cells ⟨vs⟩ e')) := (Below.refl _ _).alloc (Nat.le_refl _) _
      have hnone : ∀ o, G.S w.heap.size o = none := fun o => by
        cases hv : G.S w.heap.size o with
        | none => rfl
        | some v => exact absurd (lt_of_cell (hs.stable _ _ _ hv)) (by omega)
      refine ⟨.slice (some ⟨w.heap.size, 0, none⟩) n n, w.alloc (.cells ⟨vs⟩ e'), w.heap.size, n * i.size, n, 0, vs, ⟨vs⟩, e', ?_, hs.later0 hb, hu, .inl hs.size, by show (w.heap.push _)[w.heap.size]? = _; rw [Array.getElem?_push, if_pos rfl], by simp [hvl], hnone, fun j hj hc => ?_, fun j hj hk hc => ?_, by simp [hvl], hv2, fun k u hk => by rw [Nat.zero_add]; simpa using hk, rfl, Nat.le_refl _, by omega⟩
      · have hze : ((Array.range (n * i.size)).map fun k => zv.cells[k % zv.cells.size]!) = ⟨zsn zs' (n * i.size)⟩ := by
          rw [hz2]
          apply Array.ext'
          simp [zsn]
        have hbig' : ¬ (2 ^ 24 < n * i.size) := by omega
        have hne : ¬ (n * i.size = 0) := by omega
        have hf' : Instr.fill (fun k => some (k * i.size, i.size)) (⟨zsn zs' (n * i.size)⟩ : Array Value) (parts.map fun p => (p.1, a.eval p.2)) = some ⟨vs⟩ := hv1
        simp only [execOp, Instr.buildSlice, Sem.run_bind, run_underlying hut, Result.andThen_ok, sizeOf, run_typeInfo w hi, Sem.run_pure, gt_iff_lt, hbig', if_false, hne, hz1]
        simp only [hze]
        simp [hf', newRow]
      · have := (hs.boxes j hj).2.1
        have hc' : G.μ j = w.heap.size := hc
        omega
      · obtain ⟨_, ⟨cs', ty', q2, _⟩, _⟩ := hs.tips j hj hk
        have := lt_of_block q2
        have hc' : G.tb j = w.heap.size := hc
        omega
    · cases hk
  · cases hk

/-! ### One such list behind another -/

theorem relVL_ones {G : Gh} : ∀ {l : List V} {us : List Value}, RelVL G l us → l.all V.one = true → ∀ u ∈ us, u.oneCell' = true
  | [], us, h, _, u, hu => by simp only [RelVL] at h; subst h; simp at hu
  | v :: l, us, h, h1, u, hu => by
    simp only [RelVL] at h
    obtain ⟨u', r, rfl, h2, h3⟩ := h
    simp only [List.all_cons, Bool.and_eq_true] at h1
    rcases List.mem_cons.1 hu with rfl | hu
    · exact (relV_one h2 h1.1).1
    · exact relVL_ones h3 h1.2 u hu

theorem Sim.mosrc {tx e' : TypeId} {j es m : Nat} {l : List V} {u : Value} (s : Sim E st G a w) (htx : P.underlying tx = some (.slice e')) {q : V} (hr : RelV G (.mo j es m) u) (ht : look st (.tip j) = some q) (hq : q.contL = some l) (hm : 0 < m) (hlen : l.length = m * es) (h1 : l.all V.one = true) :
    ∃ us, Src P es tx u m us w ∧ RelVL G l us ∧ us.length = m * es ∧ ∀ u ∈ us, u.oneCell' = true := by
  simp only [RelV] at hr
  rcases hr with ⟨_, h0, _⟩ | ⟨hk, o, cap, rfl, hcap, hte, _⟩
  · omega
  · obtain ⟨q1, o', us, cs, t, q2, q3, q4, q5, q6⟩ := s.conts j _ l ht hq hk
    have hl := (relVL_get q5).1
    obtain rfl : o = o' := by rw [hlen] at q3; omega
    exact ⟨us, Src.ofSlice w htx ⟨G.tb j, o, none⟩ m cap us (by rw [← hl, hlen]) (fun k v hv => by rw [add_at, cell_of_block q2]; exact q6 k v hv) (relVL_ones q5 h1), q5, by rw [← hl, hlen], relVL_ones q5 h1⟩

theorem Sim.fresh_none (s : Sim E st G a w) (o : Nat) : G.S w.heap.size o = none := by
  cases hv : G.S w.heap.size o with
  | none => rfl
  | some v => exact absurd (lt_of_cell (s.stable _ _ _ hv)) (by omega)

theorem Sim.fresh_box (s : Sim E st G a w) (j : Nat) (hj : look st (.box j) ≠ none) : G.μ j ≠ w.heap.size := fun hc => by
  have := (s.boxes j hj).2.1
  omega

theorem Sim.fresh_tip (s : Sim E st G a w) (j : Nat) (hj : look st (.tip j) ≠ none) (hk : G.tk j = true) : G.tb j ≠ w.heap.size := fun hc => by
  obtain ⟨_, ⟨cs', ty', q2, _⟩, _⟩ := s.tips j hj hk
  have := lt_of_block q2
  omega

/-- A new block for both. -/
theorem grow_both {t tx e : TypeId} {i : TypeInfo} {z : Value} {n m : Nat} {l1 l2 : List V} {olds us : List Value} {base : Option Addr} {cap : Nat} {yv : Value} (s : Sim E st G a w) (ht : P.underlying t = some (.slice e)) (hi : P.info? e = some i) (hz : i.zero = some z) (hzs : z.cells.size = i.size)
    (hold : (Builtin.firstCells i.size n (.slice base n cap)).run P w.drew = .ok olds.toArray w.drew) (ho : RelVL G l1 olds) (hol : olds.length = n * i.size) (hsrc : Src P i.size tx yv m us w) (hu : RelVL G l2 us) (hul : us.length = m * i.size) (hlt : cap < n + m) (hroom : (n + m) * i.bytes ≤ 140737488355328) (hbig : n + m ≤ 9223372036854775807) :
    ∃ (u : Value) (w' : World) (cap' : Nat) (cs : Array Value) (t' : TypeId), (Builtin.append_ #[t, tx] ty #[.slice base n cap, yv]).run P w = .ok u w' ∧ Sim E st G a w' ∧ w'.heap[w.heap.size]? = some (.cells cs t' (0, 0)) ∧ cap' * i.size ≤ cs.size ∧ (n + m) * i.size ≤ cs.size ∧ RelVL G (l1 ++ l2) (olds ++ us) ∧ (∀ (k : Nat) (u : Value), (olds ++ us)[k]? = some u → cs[k]? = some u) ∧ u = .slice (some ⟨w.heap.size, 0, none⟩) (n + m) cap' ∧ n + m ≤ cap' := by
  have hr := run_append_grow_src (P := P) w t tx ty e i z ht hi hz base n cap olds hold yv m us hsrc hlt (by omega) (growslice_fits hlt hroom)
  have hge := grownCap_ge w (n + m) cap e
  have hb : Below w.heap.size w w.drew := ⟨rfl, rfl, rfl, Nat.le_refl _, fun _ _ => rfl⟩
  have s1 := s.later0 hb
  have hlen : (olds ++ us).length = (n + m) * i.size := by rw [List.length_append, hol, hul, Nat.add_mul]
  generalize hcs : (olds ++ us).toArray ++ Builtin.zeroCells z.cells (grownCap w (n + m) cap e - (n + m)) = cs at hr
  have hsize : cs.size = grownCap w (n + m) cap e * i.size := by
    rw [← hcs, Array.size_append, List.size_toArray, hlen, size_zeroCells, hzs, ← Nat.add_mul]
    congr 1
    omega
  have hb2 : Below w.drew.heap.size w.drew (w.drew.alloc (.cells cs e)) := (Below.refl _ _).alloc (Nat.le_refl _) _
  refine ⟨_, _, grownCap w (n + m) cap e, cs, e, hr, s1.later0 hb2, by show (w.drew.heap.push _)[w.drew.heap.size]? = _; rw [Array.getElem?_push, if_pos rfl], by rw [hsize]; exact Nat.le_refl _, by rw [hsize]; exact Nat.mul_le_mul_right _ hge, relVL_append ho hu, fun k u hk => ?_, rfl, hge⟩
  rw [← hcs, Array.getElem?_append_left (by rw [List.size_toArray]; exact (List.getElem?_eq_some_iff.1 hk).1), List.getElem?_toArray]; exact hk

theorem frees_append (d : Nat) : ∀ {l l' : List V}, V.frees d l = true → V.frees d l' = true → V.frees d (l ++ l') = true
  | [], _, _, h => h
  | v :: l, l', h, h' => by
    simp only [V.frees, List.cons_append, Bool.and_eq_true] at *
    exact ⟨h.1, frees_append d h.2 h'⟩

/-- Behind none. -/
theorem f_appendN (id : Nat) {t tx e : TypeId} {j es nb m : Nat} {l2 : List V} {q2 : V} (hx : ev st x = some (.d (.sc (.slice none 0 0)))) (hy : ev st y = some (.mo j es m)) (hj : look st (.tip j) = some q2) (hq2 : q2.contL = some l2) (hp : apk P t tx = some (e, es, nb)) (hm : 0 < m) (hl2 : l2.length = m * es) (h1 : l2.all V.one = true) (hf : V.frees id l2 = true)
    (hroom : m * nb ≤ 140737488355328) (hbig : m ≤ 9223372036854775807) (hd : d < E.N) :
    FOk P E ⟨some d, .call ⟨.builtin .append, #[x, y], #[t, tx]⟩, ty, pos, af, g⟩ st (evL x ++ (evL y ++ [.tip j])) [id] [(.slot d, some (.mo id es m)), (.tip id, some (.cont l2))] := by
  refine fok_newtip (W0 := []) rfl hd (fun st' G a w hL hu s => ?_) hl2 hf
  obtain ⟨ht, ⟨e', htx⟩, i, z, hi, hz, hzs, his, hib, hes⟩ := apk_spec hp
  subst his
  subst hib
  have hvx := s.sc ((ev_same hL fun l h => mem_l h).trans hx)
  have hvy := s.ev ((ev_same hL fun l h => mem_r (mem_l h)).trans hy)
  have hj' := (hL (.tip j) (mem_r (mem_r (by simp)))).trans hj
  obtain ⟨us, hsrc, hr, hul, hone⟩ := s.mosrc htx hvy hj' hq2 hm hl2 h1
  obtain ⟨u, w', cap', cs, t', e1, e2, e3, e4, e5, e6, e7, e8, e9⟩ := grow_both (ty := ty) (n := 0) (l1 := []) (olds := []) (base := none) (cap := 0) s ht hi hz hzs (run_firstCells_none w.drew i.size 0 0 0) relVL_nil (by simp) hsrc hr hul (by omega) (by rw [Nat.zero_add]; exact hroom) (by omega)
  rw [Nat.zero_add] at e5 e8 e9
  refine ⟨u, w', w.heap.size, cap' * i.size, cap', 0, us, cs, t', ?_, e2, hu, .inl s.size, e3, e4, s.fresh_none, s.fresh_box, s.fresh_tip, by rw [Nat.zero_add]; exact e5, hr, fun k u hk => by rw [Nat.zero_add]; exact e7 k u (by simpa using hk), e8, e9, by rw [Nat.zero_add]⟩
  simp [execOp, resolve, invoke, builtin, hvx, e1]

/-- Behind another. -/
theorem f_appendM (id : Nat) {t tx e : TypeId} {k j es nb n m : Nat} {l1 l2 : List V} {q1 q2 : V} (hx : ev st x = some (.mo k es n)) (hk0 : look st (.tip k) = some q1) (hq1 : q1.contL = some l1) (hy : ev st y = some (.mo j es m)) (hj : look st (.tip j) = some q2) (hq2 : q2.contL = some l2) (hp : apk P t tx = some (e, es, nb)) (hn : 0 < n) (hm : 0 < m) (hl1 : l1.length = n * es) (hl2 : l2.length = m * es)
    (h1 : l2.all V.one = true) (hf1 : V.frees id l1 = true) (hf : V.frees id l2 = true) (hroom : (n + m) * nb ≤ 140737488355328) (hbig : n + m ≤ 9223372036854775807) (hd : d < E.N) :
    FOk P E ⟨some d, .call ⟨.builtin .append, #[x, y], #[t, tx]⟩, ty, pos, af, g⟩ st (evL x ++ (evL y ++ [.tip j, .tip k])) [id] [(.slot d, some (.mo id es (n + m))), (.tip id, some (.cont (l1 ++ l2))), (.tip k, none)] := by
  refine fok_newtip (W0 := [(.tip k, none)]) rfl hd (fun st' G a w hL hu s => ?_) (by rw [List.length_append, hl1, hl2, Nat.add_mul]) (frees_append id hf1 hf)
  obtain ⟨ht, ⟨e', htx⟩, i, z, hi, hz, hzs, his, hib, hes⟩ := apk_spec hp
  subst his
  subst hib
  have hvx := s.ev ((ev_same hL fun l h => mem_l h).trans hx)
  have hvy := s.ev ((ev_same hL fun l h => mem_r (mem_l h)).trans hy)
  have hj' := (hL (.tip j) (mem_r (mem_r (by simp)))).trans hj
  have hk' := (hL (.tip k) (mem_r (mem_r (by simp)))).trans hk0
  have hkd : k ≠ id := unused_tipne hu (by rw [hk']; simp)
  have hu1 : St.unused id ([(Loc.tip k, (none : Option V))] ++ st') = true := by
    show (((!(k == id)) && true) && St.unused id st') = true
    rw [hu]; simp [hkd]
  obtain ⟨us, hsrc, hr, hul, hone⟩ := s.mosrc htx hvy hj' hq2 hm hl2 h1
  simp only [RelV] at hvx
  rcases hvx with ⟨_, h0, _⟩ | ⟨hk, o, cap, hvx, hcap, hte, htz⟩
  · omega
  · obtain ⟨q1, o', olds, old, oty, q2, q3, q4, q5, q6⟩ := s.conts k _ l1 hk' hq1 hk
    have hol := (relVL_get q5).1
    obtain rfl : o = o' := by rw [hl1] at q3; omega
    obtain ⟨t1, ⟨old', oty', t2, t3⟩, t4, t5⟩ := s.tips k (by rw [hk']; simp) hk
    rw [q2] at t2
    cases t2
    by_cases hcp : n + m ≤ cap
    · have hfit : G.te k + us.length ≤ old.size := by
        have : (n + m) * i.size ≤ cap * i.size := Nat.mul_le_mul_right _ hcp
        rw [Nat.add_mul] at this
        rw [hte, hul]; omega
      have s1 := s.spill (us := us) hk' hq1 hk q2 hfit
      have hst := run_storeCells_at P (G.tb k) (o + n * i.size) oty us 0 old w q2 (by rw [hte] at hfit; omega) hone
      have ek : ∀ j, look ((Loc.tip k, (none : Option V)) :: st') (.tip j) ≠ none → j ≠ k ∧ look st' (.tip j) ≠ none := fun j hh => by
        rw [look_cons] at hh
        split at hh
        · exact absurd rfl hh
        · rename_i hc; exact ⟨fun c => hc (by rw [c]), hh⟩
      refine ⟨_, _, G.tb k, G.tz k, cap, o, olds ++ us, splice old (G.te k) us, oty, ?_, s1, hu1, t1, heap_setRow_same _ q2, by rw [splice_size hfit]; exact t3, q1, fun j hj => t5 j (by rw [List.cons_append, List.nil_append, look_ne _ _ (by simp)] at hj; exact hj), fun j hj hkj hc => (ek j hj).1 (s.tinj j k (ek j hj).2 (by rw [hk']; simp) hkj hk hc), ?_, relVL_append q5 hr, fun p u hp' => ?_, rfl, hcp, htz⟩
      · have h2 := hsrc.cells
        simp [execOp, resolve, invoke, builtin, hvx, Builtin.append_, run_underlying ht, run_underlying htx, sizeOf, run_typeInfo w hi, hsrc.len, hcp, h2, add_at, hst, splice, hte]
      · rw [splice_size hfit, Nat.add_mul]; rw [hte, hul] at hfit; omega
      · have hol' : olds.length = n * i.size := by rw [← hol, hl1]
        rw [splice_get hfit]
        by_cases hp1 : p < olds.length
        · rw [List.getElem?_append_left hp1] at hp'
          rw [if_neg (by omega)]; exact q6 p u hp'
        · rw [List.getElem?_append_right (by omega)] at hp'
          have := (List.getElem?_eq_some_iff.1 hp').1
          rw [if_pos (by omega), show o + p - G.te k = p - olds.length from by omega]; exact hp'
    · have h3 := run_loadCells_list (P := P) w.drew ⟨G.tb k, o, none⟩ olds (fun j u hj => by rw [add_at]; show w.cell? _ = _; rw [cell_of_block q2]; exact q6 j u hj)
      have h4 : olds.length = n * i.size := by rw [← hol, hl1]
      rw [h4] at h3
      obtain ⟨u, w', cap', cs, t', e1, e2, e3, e4, e5, e6, e7, e8, e9⟩ := grow_both (ty := ty) (n := n) (base := some ⟨G.tb k, o, none⟩) (cap := cap) s ht hi hz hzs (by simpa [Builtin.firstCells] using h3) q5 h4 hsrc hr hul (by omega) hroom hbig
      have s2 := e2.untip k
      have ek : ∀ j, look ((Loc.tip k, (none : Option V)) :: st') (.tip j) ≠ none → look st' (.tip j) ≠ none := fun j hh => by
        rw [look_cons] at hh
        split at hh
        · exact absurd rfl hh
        · exact hh
      refine ⟨u, w', w.heap.size, cap' * i.size, cap', 0, olds ++ us, cs, t', ?_, s2, hu1, .inl s.size, e3, e4, s.fresh_none, fun j hj => s.fresh_box j (by rw [List.cons_append, List.nil_append, look_ne _ _ (by simp)] at hj; exact hj), fun j hj => s.fresh_tip j (ek j hj), by rw [Nat.zero_add]; exact e5, e6, fun k u hk => by rw [Nat.zero_add]; exact e7 k u hk, e8, e9, by rw [Nat.zero_add]⟩
      simp [execOp, resolve, invoke, builtin, hvx, e1]

/-! ### Elements of several cells -/

theorem f_loadMA {t : TypeId} {c id n off : Nat} {l vs : List V} {q : V} (hk : kd P t = some (true, c)) (hx : ev st x = some (.mptr id n off)) (hl : look st (.tip id) = some q) (hq : q.contL = some l) (hn : n = l.length) (hv : (l.drop off).take c = vs) (hc : Nat.beq vs.length c = true) (hd : d < E.N) :
    FOk P E ⟨some d, .load t x, ty, pos, af, g⟩ st (evL x ++ [.tip id]) [] [(.slot d, some (.agg vs))] :=
  fok_val rfl hd fun st' G a w hL hs => by
    subst hv
    have hc' := Nat.eq_of_beq_eq_true hc
    have e1 := hs.ev ((ev_same hL fun l h => mem_l h).trans hx)
    obtain ⟨o, us, cs, t', h1, h2, h3, h4, h5, h6, _⟩ := hs.contAt e1 ((hL (.tip id) (mem_r (by simp))).trans hl) hq hn
    have hr := relVL_take c (relVL_drop off h5)
    have hlen := (relVL_get hr).1
    rw [hc'] at hlen
    refine ⟨.agg ((us.drop off).take c).toArray, ?_, by simp only [RelV]; exact ⟨_, rfl, hr⟩⟩
    have h7 : ∀ j u, ((us.drop off).take c)[j]? = some u → w.cell? ⟨G.tb id, o + off + j, none⟩ = some u := fun j u hu => by
      rw [cell_of_block h2, Nat.add_assoc]
      refine h6 _ u ?_
      rw [List.getElem?_take] at hu
      split at hu
      · rwa [List.getElem?_drop] at hu
      · cases hu
    simp [execOp, h1, Instr.loadAt, Instr.sureAddr, run_loadVarN hk hlen.symm h7]

theorem setL_get {α : Type} {us ws : List α} {off : Nat} (hfit : off + ws.length ≤ us.length) (k : Nat) : (setL us off ws)[k]? = if off ≤ k ∧ k < off + ws.length then ws[k - off]? else us[k]? := by
  unfold setL
  by_cases h1 : k < off
  · rw [if_neg (by omega), List.append_assoc, List.getElem?_append_left (by rw [List.length_take]; omega), List.getElem?_take, if_pos h1]
  · by_cases h2 : k < off + ws.length
    · rw [if_pos ⟨by omega, h2⟩, List.append_assoc, List.getElem?_append_right (by rw [List.length_take]; omega), List.length_take, Nat.min_eq_left (by omega), List.getElem?_append_left (by omega)]
    · rw [if_neg (by omega), List.getElem?_append_right (by rw [List.length_append, List.length_take]; omega), List.length_append, List.length_take, Nat.min_eq_left (by omega), List.getElem?_drop, show off + ws.length + (k - (off + ws.length)) = k from by omega]

theorem setL_len {α : Type} {us ws : List α} {off : Nat} (hfit : off + ws.length ≤ us.length) : (setL us off ws).length = us.length := by
  unfold setL
  rw [List.length_append, List.length_append, List.length_take, List.length_drop]; omega

/-- Cells of a list that may be written to are written. -/
theorem Sim.storeMs {id off : Nat} {l vs : List V} {ws : List Value} {cs : Array Value} {t : TypeId} {o : Nat} {us : List Value} {q : V} (h : Sim E st G a w) (hl : look st (.tip id) = some q) (hv : RelVL G vs ws) (ht : G.tk id = true) (hold : w.heap[G.tb id]? = some (.cells cs t (0, 0))) (hte : G.te id = o + l.length) (hsz : G.te id ≤ cs.size)
    (hr : RelVL G l us) (hget : ∀ k u, us[k]? = some u → cs[o + k]? = some u) (hoff : off + vs.length ≤ l.length) (hS : ∀ o, G.S (G.tb id) o = none) : Sim E ((.tip id, some (.cont (setL l off vs))) :: st) G a (w.setRow (G.tb id) (splice cs (o + off) ws)) := by
  have htn : look st (.tip id) ≠ none := by rw [hl]; simp
  obtain ⟨t1, t2, t3, t4⟩ := h.tips id htn ht
  have hvl := (relVL_get hv).1
  have hul := (relVL_get hr).1
  have hfit : o + off + ws.length ≤ cs.size := by omega
  have es : ∀ k, k ≠ .tip id → look ((Loc.tip id, some (V.cont (setL l off vs))) :: st) k = look st k := fun k hk => look_ne _ _ (fun c => hk c.symm)
  have et : ∀ i, look ((Loc.tip id, some (V.cont (setL l off vs))) :: st) (.tip i) ≠ none → look st (.tip i) ≠ none := fun i hh => by
    rw [look_cons] at hh
    split at hh
    · rename_i he; obtain rfl : id = i := by simpa using he
      exact htn
    · exact hh
  refine ⟨⟨h.kw.os, h.kw.tape, h.kw.output, by rw [setRow_size]; exact h.size, fun k hk ho => ?_⟩, h.s0, h.snew, h.tmps, h.defers, fun t v hl => ?_, fun i o v hl => ?_, fun i hi => ?_, fun i j hi hj => ?_, fun b o v hS' => ?_, fun i hi hti => ?_, fun i j hi hj => h.tinj i j (et i hi) (et j hj), fun p hp => ⟨(h.rcv p hp).1, fun hi => (h.rcv p hp).2 (by rw [es _ (by simp)] at hi; exact hi)⟩, fun i qv l' hl' hcl hti => ?_, fun i v hl => ?_, fun k v hl => h.olds k v (by rw [es _ (by simp)] at hl; exact hl)⟩
  · rw [heap_setRow_ne _ _ _ _ (by rintro rfl; rcases t1 with q | q; omega; exact ho q)]; exact h.kw.frame k hk ho
  · rw [es _ (by simp)] at hl; exact h.slots t v hl
  · rw [es _ (by simp)] at hl
    obtain ⟨q1, cs', ty', cv, q2, q3, q4⟩ := h.cells i o v hl
    exact ⟨by rw [es _ (by simp)]; exact q1, cs', ty', cv, by rw [heap_setRow_ne _ _ _ _ (t4 i q1)]; exact q2, q3, q4⟩
  · rw [es _ (by simp)] at hi
    obtain ⟨q1, q2, q3⟩ := h.boxes i hi
    exact ⟨q1, by rw [setRow_size]; exact q2, q3⟩
  · rw [es _ (by simp)] at hi hj; exact h.inj i j hi hj
  · rw [cell_setRow_ne _ _ _ (by rintro rfl; rw [hS] at hS'; cases hS')]; exact h.stable b o v hS'
  · obtain ⟨q1, ⟨cs', ty', q2, q3⟩, q4, q5⟩ := h.tips i (et i hi) hti
    refine ⟨q1, ?_, q4, fun j hj => q5 j (by rw [es _ (by simp)] at hj; exact hj)⟩
    by_cases hb : G.tb i = G.tb id
    · rw [hb] at q2 ⊢
      rw [hold] at q2
      cases q2
      exact ⟨_, t, heap_setRow_same _ hold, by rw [splice_size hfit]; exact q3⟩
    · exact ⟨cs', ty', by rw [heap_setRow_ne _ _ _ _ hb]; exact q2, q3⟩
  · by_cases hi : id = i
    · subst hi
      rw [look_same] at hl'
      cases hl'
      cases hcl
      have hrel : RelVL G (setL l off vs) (setL us off ws) := by
        unfold setL
        rw [hvl]
        exact relVL_append (relVL_append (relVL_take _ hr) hv) (relVL_drop _ hr)
      refine ⟨hS, o, setL us off ws, splice cs (o + off) ws, t, heap_setRow_same _ hold, by rw [setL_len hoff]; exact hte.symm, by rw [splice_size hfit]; exact hsz, hrel, fun k z hk => ?_⟩
      rw [splice_get hfit]
      rw [setL_get (by omega)] at hk
      by_cases hko : off ≤ k ∧ k < off + ws.length
      · rw [if_pos hko] at hk
        rw [if_pos (by omega), show o + k - (o + off) = k - off from by omega]; exact hk
      · rw [if_neg hko] at hk
        rw [if_neg (by omega)]
        exact hget k z hk
    · rw [look_ne _ _ (by simpa using hi)] at hl'
      obtain ⟨q1, o', us', cs', ty', q2, q3, q4, q5, q6⟩ := h.conts i qv l' hl' hcl hti
      have hμ : G.tb i ≠ G.tb id := fun c => hi (h.tinj id i htn (by rw [hl']; simp) ht hti c.symm)
      exact ⟨q1, o', us', cs', ty', by rw [heap_setRow_ne _ _ _ _ hμ]; exact q2, q3, q4, q5, q6⟩
  · rw [es _ (by simp)] at hl
    obtain ⟨q1, s, pos, q2, q3⟩ := h.iters i v hl
    exact ⟨by rw [es _ (by simp)]; exact q1, s, pos, q2, by rw [heap_setRow_ne _ _ _ _ (t4 i q1)]; exact q3⟩

theorem f_storeMA {t : TypeId} {bb : Bool} {c id n off : Nat} {l vs : List V} {v q : V} (hk : kd P t = some (bb, c)) (hx : ev st x = some (.mptr id n off)) (hl : look st (.tip id) = some q) (hq : q.contL = some l) (hn : n = l.length) (hy : ev st y = some v) (hc : vcells v = some vs) (hvc : Nat.beq vs.length c = true) (hoff : off + c ≤ l.length) (h1 : vs.all V.one = true) :
    FOk P E ⟨none, .store t x y, ty, pos, af, g⟩ st (evL x ++ (evL y ++ [.tip id])) [] [(.tip id, some (.cont (setL l off vs)))] := by
  intro Q K st' hL _ hK G a w hs
  have e1 := hs.ev ((ev_same hL fun l h => mem_l h).trans hx)
  have e2 := hs.ev ((ev_same hL fun l h => mem_r (mem_l h)).trans hy)
  have hl' := (hL (.tip id) (mem_r (mem_r (by simp)))).trans hl
  obtain ⟨o, us, cs, t', h2, h3, h4, h5, h6, h7, h8, h9⟩ := hs.contAt e1 hl' hq hn
  have hr := vcells_spec e2 hc
  have hlen := (relVL_get hr).1
  have hvc' := Nat.eq_of_beq_eq_true hvc
  obtain ⟨_, hsz, _⟩ := kd_spec hk
  have hlen' : (a.eval y).cells.size = c := by rw [← hvc', hlen]; simp
  have hst := run_storeCells_at P (G.tb id) (o + off) t' (a.eval y).cells.toList 0 cs w h3 (by simp [hlen']; omega) (relVL_ones hr h1)
  show Oper.upon P _ a K Q ((execOp a.eval _).run P w)
  have hrun : (execOp a.eval (⟨none, .store t x y, ty, pos, af, g⟩ : Oper)).run P w = .ok .skip (w.setRow (G.tb id) (splice cs (o + off) (a.eval y).cells.toList)) := by
    simp only [execOp, h2, Instr.storeAt, Instr.sureAddr, storeVar, Sem.run_bind, Sem.run_pure, Result.andThen_ok, hsz, hlen', ne_eq, not_true_eq_false, if_false]
    simp [hst, splice]
  rw [hrun]
  exact hK _ _ _ (hs.storeMs hl' hr h8 h3 h4 h5 h6 h7 (by omega) h9)

/-! ### Told as data for good, wherever it stands -/

mutual
def settleV (id : Nat) (r : D) : V → V
  | .own i es l => .own i es l
  | .mo i es n => bif i == id then .d r else .mo i es n
  | .mptr i n o => .mptr i n o
  | .agg l => .agg (settleVs id r l)
  | .tup l => .tup (settleVs id r l)
  | .cont l => .cont (settleVs id r l)
  | .contD l => .contD l
  | .d x => .d x
  | .ptr i o => .ptr i o
  | .mapp i => .mapp i
  | .fn f l => .fn f l
def settleVs (id : Nat) (r : D) : List V → List V
  | [] => []
  | v :: l => settleV id r v :: settleVs id r l
end

mutual
/-- Each time that the list is told it is told with these numbers. -/
def V.mos (id es n : Nat) : V → Prop
  | .mo i e m => match i == id with
    | true => e = es ∧ m = n
    | false => True
  | .agg l => V.moss id es n l
  | .tup l => V.moss id es n l
  | .cont l => V.moss id es n l
  | .contD _ => True
  | .d _ => True
  | .ptr _ _ => True
  | .mapp _ => True
  | .fn _ _ => True
  | .own _ _ _ => True
  | .mptr _ _ _ => True
def V.moss (id es n : Nat) : List V → Prop
  | [] => True
  | v :: l => V.mos id es n v ∧ V.moss id es n l
end

theorem moss_d (id es n : Nat) : ∀ l : List D, V.moss id es n (l.map .d)
  | [] => by simp only [List.map_nil, V.moss]
  | x :: l => by simp only [List.map_cons, V.moss, V.mos, true_and]; exact moss_d id es n l
theorem settleVs_d (id : Nat) (r : D) : ∀ l : List D, settleVs id r (l.map .d) = l.map .d
  | [] => by simp only [List.map_nil, settleVs]
  | x :: l => by simp only [List.map_cons, settleVs, settleV, settleVs_d id r l]

mutual
theorem RelV.settle {id es n : Nat} {r : D} (hm : ∀ u, RelV G (.mo id es n) u → Rel G.S r u) : ∀ {v : V} {u : Value}, V.mos id es n v → RelV G v u → RelV G (settleV id r v) u
  | .d x, _, _, hr => by simp only [settleV]; exact hr
  | .ptr i off, _, _, hr => by simp only [settleV]; exact hr
  | .mapp i, _, _, hr => by simp only [settleV]; exact hr
  | .fn f ids, _, _, hr => by simp only [settleV]; exact hr
  | .own i es l, _, _, hr => by simp only [settleV]; exact hr
  | .mptr i n off, _, _, hr => by simp only [settleV]; exact hr
  | .mo i e m, u, hv, hr => by
    simp only [settleV]
    simp only [V.mos] at hv
    cases hi : (i == id) with
    | true =>
      rw [hi] at hv
      obtain ⟨rfl, rfl⟩ := hv
      obtain rfl : i = id := by simpa using hi
      simp only [cond_true]
      show Rel G.S r u
      exact hm u hr
    | false => simp only [cond_false]; exact hr
  | .agg l, _, hv, hr => by
    simp only [settleV]
    simp only [V.mos] at hv
    simp only [RelV] at *
    obtain ⟨cs, h1, h2⟩ := hr
    exact ⟨cs, h1, RelVL.settle hm hv h2⟩
  | .tup l, _, hv, hr => by
    simp only [settleV]
    simp only [V.mos] at hv
    simp only [RelV] at *
    obtain ⟨cs, h1, h2⟩ := hr
    exact ⟨cs, h1, RelVL.settle hm hv h2⟩
  | .cont l, _, _, hr => by simp only [RelV] at hr
  | .contD l, _, _, hr => by simp only [RelV] at hr
theorem RelVL.settle {id es n : Nat} {r : D} (hm : ∀ u, RelV G (.mo id es n) u → Rel G.S r u) : ∀ {l : List V} {us : List Value}, V.moss id es n l → RelVL G l us → RelVL G (settleVs id r l) us
  | [], _, _, hr => by simp only [settleVs]; exact hr
  | v :: l, _, hv, hr => by
    simp only [settleVs]
    simp only [V.moss] at hv
    simp only [RelVL] at *
    obtain ⟨u, q, h1, h2, h3⟩ := hr
    exact ⟨u, q, h1, RelV.settle hm hv.1 h2, RelVL.settle hm hv.2 h3⟩
end

theorem settleVs_length (id : Nat) (r : D) : ∀ l : List V, (settleVs id r l).length = l.length
  | [] => by simp only [settleVs]
  | v :: l => by simp only [settleVs, List.length_cons, settleVs_length id r l]

def settle (id : Nat) (r : D) : St → St
  | [] => []
  | e :: t => (e.1, e.2.map (settleV id r)) :: settle id r t

def St.mos (id es n : Nat) : St → Prop
  | [] => True
  | (_, none) :: t => St.mos id es n t
  | (_, some v) :: t => V.mos id es n v ∧ St.mos id es n t

theorem look_settle (id : Nat) (r : D) (st : St) (l : Loc) : look (settle id r st) l = (look st l).map (settleV id r) := by
  induction st with
  | nil => rfl
  | cons e t ih =>
    rw [settle, look_cons, look_cons, ih]
    simp only
    split <;> rfl

theorem mos_look {id es n : Nat} : ∀ {st : St} {l : Loc} {v : V}, St.mos id es n st → look st l = some v → V.mos id es n v
  | [], _, _, _, h => by cases h
  | (k, none) :: t, l, v, hm, h => by
    rw [look_cons] at h
    split at h
    · cases h
    · exact mos_look (st := t) hm h
  | (k, some x) :: t, l, v, hm, h => by
    rw [look_cons] at h
    split at h
    · cases h; exact hm.1
    · exact mos_look hm.2 h

theorem settle_contL {id : Nat} {r : D} {v0 : V} {l : List V} (hc : (settleV id r v0).contL = some l) : ∃ l0, v0.contL = some l0 ∧ l = settleVs id r l0 := by
  cases v0 with
  | cont l0 => simp only [settleV] at hc; cases hc; exact ⟨l0, rfl, rfl⟩
  | contD ds => simp only [settleV] at hc; cases hc; exact ⟨_, rfl, (settleVs_d id r ds).symm⟩
  | mo i es l => simp only [settleV] at hc; cases hb : (i == id) <;> rw [hb] at hc <;> cases hc
  | _ => simp only [settleV] at hc; cases hc

theorem mos_contL {id es n : Nat} {v : V} {l : List V} (h : V.mos id es n v) (hc : v.contL = some l) : V.moss id es n l := by
  cases v with
  | cont l0 => cases hc; simpa only [V.mos] using h
  | contD ds => cases hc; exact moss_d id es n ds
  | _ => cases hc

theorem Sim.settle {id es n : Nat} {r : D} (s : Sim E st G a w) (hm : ∀ u, RelV G (.mo id es n) u → Rel G.S r u) (hst : St.mos id es n st) : Sim E (Ab.settle id r st) G a w := by
  have en : ∀ l, look (Ab.settle id r st) l ≠ none → look st l ≠ none := fun l h c => by rw [look_settle, c] at h; exact h rfl
  have ev : ∀ l v, look (Ab.settle id r st) l = some v → ∃ v0, look st l = some v0 ∧ settleV id r v0 = v := fun l v h => by rw [look_settle] at h; simpa using h
  refine ⟨s.kw, s.s0, s.snew, s.tmps, s.defers, fun t v hl => ?_, fun i o v hl => ?_, fun i hi => s.boxes i (en _ hi), fun i j hi hj => s.inj i j (en _ hi) (en _ hj), s.stable, fun i hi ht => ?_, fun i j hi hj => s.tinj i j (en _ hi) (en _ hj), fun p hp => ⟨(s.rcv p hp).1, fun hi => (s.rcv p hp).2 (en _ hi)⟩, fun i qv l hl hcl ht => ?_, fun i v hl => ?_, fun k v hl => ?_⟩
  · obtain ⟨v0, h1, rfl⟩ := ev _ v hl
    exact (s.slots t v0 h1).settle hm (mos_look hst h1)
  · obtain ⟨v0, h1, rfl⟩ := ev _ v hl
    obtain ⟨q1, cs, ty, cv, q2, q3, q4⟩ := s.cells i o v0 h1
    exact ⟨by rw [look_settle]; simpa using q1, cs, ty, cv, q2, q3, q4.settle hm (mos_look hst h1)⟩
  · obtain ⟨h1, h2, h3, h4⟩ := s.tips i (en _ hi) ht
    exact ⟨h1, h2, h3, fun j hj => h4 j (en _ hj)⟩
  · obtain ⟨v0, h1, h2⟩ := ev _ _ hl
    subst h2
    obtain ⟨l0, hc0, rfl⟩ := settle_contL hcl
    obtain ⟨q1, o, us, cs, ty, q2, q3, q4, q5, q6⟩ := s.conts i v0 l0 h1 hc0 ht
    have hv := mos_contL (mos_look hst h1) hc0
    exact ⟨q1, o, us, cs, ty, q2, by rw [settleVs_length]; exact q3, q4, q5.settle hm hv, q6⟩
  · obtain ⟨v0, h1, h2⟩ := ev _ v hl
    obtain ⟨q1, s', pos, q2, q3⟩ := s.iters i v0 h1
    exact ⟨by rw [look_settle]; simpa using q1, s', pos, by rw [← h2, q2]; simp only [itV, settleV], q3⟩
  · obtain ⟨v0, h1, rfl⟩ := ev _ v hl
    exact (s.olds k v0 h1).settle hm (mos_look hst h1)

/-- What a list holds is known to stay. -/
theorem Sim.stays {id es : Nat} {ls : List D} {q : V} (s : Sim E st G a w) (hl : look st (.tip id) = some q) (hq : q.contL = some ((flat ls).map .d)) (hes : ∀ q ∈ ls, q.cells.length = es) :
    ∃ S', Sim E ((.tip id, none) :: st) { G with S := S' } a w ∧ (∀ u, RelV { G with S := S' } (.mo id es ls.length) u → Rel S' (.list es ls) u) ∧ (G.tk id = true → (E.w0.heap.size ≤ G.tb id ∨ G.tb id ∈ E.outs) ∧ (∃ cs ty, w.heap[G.tb id]? = some (.cells cs ty (0, 0)) ∧ G.tz id ≤ cs.size) ∧ (∀ o, G.te id ≤ o → S' (G.tb id) o = none) ∧ (∀ j, look st (.box j) ≠ none → G.μ j ≠ G.tb id) ∧ ∀ j, j ≠ id → look st (.tip j) ≠ none → G.tk j = true → G.tb j ≠ G.tb id) ∧
      ∀ u, RelV { G with S := S' } (.mo id es ls.length) u → RelV { G with S := S' } (.own id es ls) u := by
  have htn : look st (.tip id) ≠ none := by rw [hl]; simp
  by_cases hk : G.tk id = true
  · obtain ⟨q1, o, us, cs, ty, q2, q3, q4, q5, q6⟩ := s.conts id _ _ hl hq hk
    obtain ⟨t1, t2, t3, t4⟩ := s.tips id htn hk
    have hlen := flat_len_of hes
    rw [List.length_map, hlen] at q3
    obtain ⟨hul, _⟩ := relVL_get q5
    rw [List.length_map] at hul
    have hle : G.S.le (G.S.more (G.tb id) o us) := fun b p v hv => by
      unfold Stab.more
      rw [if_neg]
      · exact hv
      · rintro ⟨rfl, _, _⟩; rw [q1 p] at hv; cases hv
    have elt : ∀ k, k ≠ .tip id → look ((Loc.tip id, none) :: st) k = look st k := fun k hk => look_ne _ _ (fun c => hk c.symm)
    have et : ∀ i, look ((Loc.tip id, none) :: st) (.tip i) ≠ none → i ≠ id ∧ look st (.tip i) ≠ none := fun i hh => by
      rw [look_cons] at hh
      split at hh
      · exact absurd rfl hh
      · rename_i hc; exact ⟨fun c => hc (by rw [c]), hh⟩
    have s1 : Sim E ((.tip id, none) :: st) { G with S := G.S.more (G.tb id) o us } a w := by
      refine ⟨s.kw, s.s0.trans hle, fun b p v hS => ?_, s.tmps, s.defers, fun t v hl => ?_, fun i p v hl => ?_, fun i hi => ?_, fun i j hi hj => ?_, fun b p v hS => ?_, fun i hi hti => ?_, fun i j hi hj => ?_, fun p hp => ⟨(s.rcv p hp).1, fun hi => (s.rcv p hp).2 (by rw [elt _ (by simp)] at hi; exact hi)⟩, fun i qv l' hl' hcl hti => ?_, fun i v hl => by rw [elt _ (by simp)] at hl ⊢; exact s.iters i v hl, fun k v hl => (s.olds k v (by rw [elt _ (by simp)] at hl; exact hl)).monoS hle⟩
      · change Stab.more G.S (G.tb id) o us b p = some v at hS
        unfold Stab.more at hS
        split at hS
        · rename_i hc; exact .inr (by rw [hc.1]; exact t1)
        · exact s.snew b p v hS
      · rw [elt _ (by simp)] at hl; exact (s.slots t v hl).monoS hle
      · rw [elt _ (by simp)] at hl
        obtain ⟨p1, cs', ty', cv, p2, p3, p4⟩ := s.cells i p v hl
        exact ⟨by rw [elt _ (by simp)]; exact p1, cs', ty', cv, p2, p3, p4.monoS hle⟩
      · rw [elt _ (by simp)] at hi
        obtain ⟨p1, p2, p3⟩ := s.boxes i hi
        refine ⟨p1, p2, fun p => ?_⟩
        show Stab.more G.S (G.tb id) o us (G.μ i) p = none
        unfold Stab.more
        rw [if_neg (fun c => t4 i hi c.1)]; exact p3 p
      · rw [elt _ (by simp)] at hi hj; exact s.inj i j hi hj
      · change Stab.more G.S (G.tb id) o us b p = some v at hS
        unfold Stab.more at hS
        split at hS
        · rename_i hc
          rw [hc.1, cell_of_block q2]
          have := q6 (p - o) v hS
          rwa [show o + (p - o) = p from by omega] at this
        · exact s.stable _ _ _ hS
      · obtain ⟨hni, hi'⟩ := et i hi
        obtain ⟨p1, p2, p3, p4⟩ := s.tips i hi' hti
        refine ⟨p1, p2, fun p hp => ?_, fun j hj => p4 j (by rw [elt _ (by simp)] at hj; exact hj)⟩
        show Stab.more G.S (G.tb id) o us (G.tb i) p = none
        unfold Stab.more
        rw [if_neg (fun c => hni (s.tinj i id hi' htn hti hk c.1))]; exact p3 p hp
      · exact fun ht htj => s.tinj i j (et i hi).2 (et j hj).2 ht htj
      · obtain ⟨hni, hi'⟩ := et i (by rw [hl']; simp)
        rw [look_ne _ _ (by simpa using fun c => hni c.symm)] at hl'
        obtain ⟨p1, o2, us2, cs2, ty2, r1, r2, r3, r4, r5⟩ := s.conts i qv l' hl' hcl hti
        refine ⟨fun p => ?_, o2, us2, cs2, ty2, r1, r2, r3, r4.monoS hle, r5⟩
        show Stab.more G.S (G.tb id) o us (G.tb i) p = none
        unfold Stab.more
        rw [if_neg (fun c => hni (s.tinj i id hi' htn hti hk c.1))]; exact p1 p
    have hE : RelE (G.S.more (G.tb id) o us) es ls (G.tb id) o := by
      refine relE_of hes (relP_of (RelL.mono hle (relVL_relL q5)) fun k u hk => ?_)
      show Stab.more G.S (G.tb id) o us (G.tb id) (o + k) = some u
      unfold Stab.more
      rw [if_pos ⟨rfl, by omega, by have := (List.getElem?_eq_some_iff.mp hk).1; omega⟩, Nat.add_sub_cancel_left]
      exact hk
    refine ⟨_, s1, fun u hu => ?_, fun _ => ⟨t1, t2, fun p hp => ?_, fun j hj => t4 j hj, fun j hj hl' hk' hc => hj (s.tinj j id hl' htn hk' hk hc)⟩, fun u hu => ?_⟩
    · simp only [RelV] at hu
      rcases hu with ⟨h1, _, _⟩ | ⟨_, o', cap, rfl, hcap, hte, _⟩
      · rw [hk] at h1; cases h1
      · obtain rfl : o = o' := by omega
        exact .list hcap hE
    · show Stab.more _ _ _ _ _ _ = none
      unfold Stab.more
      rw [if_neg (by omega)]; exact q1 p
    · simp only [RelV] at hu ⊢
      rcases hu with ⟨h1, _, _⟩ | ⟨_, o', cap, rfl, hcap, hte, htz⟩
      · rw [hk] at h1; cases h1
      · obtain rfl : o = o' := by omega
        exact .inr ⟨hk, o, cap, rfl, hcap, hE, hte, htz⟩
  · have hkf : G.tk id = false := by simpa using hk
    refine ⟨G.S, s.untip id, fun u hu => ?_, fun h => absurd h hk, fun u hu => ?_⟩
    · simp only [RelV] at hu
      rcases hu with ⟨_, h1, rfl⟩ | ⟨h1, _⟩
      · obtain rfl := List.length_eq_zero_iff.mp h1
        exact .lnil
      · rw [hkf] at h1; cases h1
    · simp only [RelV] at hu ⊢
      rcases hu with ⟨h0, h1, rfl⟩ | ⟨h1, _⟩
      · exact .inl ⟨h0, List.length_eq_zero_iff.mp h1, rfl⟩
      · rw [hkf] at h1; cases h1

/-- A list whose cells are plain data is only appended to from here on, and read wherever else it stands. -/
theorem hits_settle {K : Act → World → Prop} (t id es : Nat) (ls : List D) {n : Nat} {q : V} (hs : look st (.slot t) = some (.mo id es n)) (hl : look st (.tip id) = some q) (hq : q.contL = some ((flat ls).map .d)) (hn : n = ls.length) (hes : ∀ q ∈ ls, q.cells.length = es) (hst : St.mos id es n st)
    (h : Hits E ((.slot t, some (.own id es ls)) :: (.tip id, some (.ptr id 0)) :: dull id (settle id (.list es ls) ((.tip id, none) :: st))) K) : Hits E st K := by
  subst hn
  intro G a w s
  obtain ⟨S', s1, h1, h2, h3⟩ := s.stays hl hq hes
  have hsl : RelV { G with S := S' } (.mo id es ls.length) (a.tmps.getD t undef) := s1.slots t _ (by rw [look_ne _ _ (by simp)]; exact hs)
  have s2 := s1.settle (r := .list es ls) h1 (show St.mos id es ls.length ((.tip id, none) :: st) from hst)
  have en : ∀ k : Loc, k ≠ .tip id → look (settle id (.list es ls) ((.tip id, none) :: st)) k ≠ none → look st k ≠ none := fun k hk hh c => by
    rw [look_settle, look_ne _ _ (fun c => hk c.symm), c] at hh; exact hh rfl
  have s3 := s2.retip (id := id) (b := G.tb id) (n := G.te id) (z := G.tz id) (k := G.tk id) (fun hk => by
    obtain ⟨t1, t2, t3, t4, t5⟩ := h2 hk
    exact ⟨t1, t2, t3, fun j hj => t4 j (en _ (by simp) hj), fun j hj hl' hk' => t5 j hj (en _ (by simpa using hj) hl') hk'⟩)
  refine h _ a w (s3.retell (t := t) (v := .own id es ls) ?_)
  have := h3 _ hsl
  simp only [RelV] at this ⊢
  simpa [upd] using this

/-- A list whose contents are data, all of it. -/
theorem hits_tipD {K : Act → World → Prop} (j : Nat) (ds : List D) {l : List V} {q : V} (hl : look st (.tip j) = some q) (hq : q.contL = some l) (e : l = ds.map .d) (h : Hits E ((.tip j, some (.contD ds)) :: st) K) : Hits E st K := by
  subst e
  intro G a w s
  have es : ∀ k : Loc, k ≠ .tip j → look ((Loc.tip j, some (V.contD ds)) :: st) k = look st k := fun k hk => look_ne _ _ (fun c => hk c.symm)
  have et : ∀ i, look ((Loc.tip j, some (V.contD ds)) :: st) (.tip i) ≠ none → look st (.tip i) ≠ none := fun i hh => by
    rw [look_cons] at hh
    split at hh
    · rename_i hc; rw [← hc, hl]; simp
    · exact hh
  refine h G a w ⟨s.kw, s.s0, s.snew, s.tmps, s.defers, fun t v hv => s.slots t v (by rw [es _ (by simp)] at hv; exact hv), fun i o v hv => by rw [es _ (by simp)] at hv ⊢; exact s.cells i o v hv, fun i hi => s.boxes i (by rw [es _ (by simp)] at hi; exact hi), fun i k hi hk => s.inj i k (by rw [es _ (by simp)] at hi; exact hi) (by rw [es _ (by simp)] at hk; exact hk), s.stable, fun i hi ht => ?_, fun i k hi hk => s.tinj i k (et i hi) (et k hk),
    fun p hp => ⟨(s.rcv p hp).1, fun hi => (s.rcv p hp).2 (by rw [es _ (by simp)] at hi; exact hi)⟩, fun i qv l' hl' hcl ht => ?_, fun i v hv => by rw [es _ (by simp)] at hv ⊢; exact s.iters i v hv, fun k v hv => s.olds k v (by rw [es _ (by simp)] at hv; exact hv)⟩
  · obtain ⟨q1, q2, q3, q4⟩ := s.tips i (et i hi) ht
    exact ⟨q1, q2, q3, fun k hk => q4 k (by rw [es _ (by simp)] at hk; exact hk)⟩
  · by_cases hi : i = j
    · subst hi
      rw [look_same] at hl'
      cases hl'
      cases hcl
      exact s.conts i _ _ hl hq ht
    · rw [es _ (by simpa using hi)] at hl'
      exact s.conts i _ _ hl' hcl ht

theorem hits_tipEq {K : Act → World → Prop} {j : Nat} {l l' : List V} (hl : look st (.tip j) = some (.cont l)) (e : l = l') (h : Hits E ((.tip j, some (.cont l')) :: st) K) : Hits E st K := by
  subst e
  exact Hits.same (fun k => by
    rw [look_cons]
    split
    · rename_i hk; rw [← hk, hl]
    · rfl) h

end Go.Ab
