/- Lists with known data in the room behind them: a list made empty, with room; parts of lists; how many find room. No program. -/
import Derived.Test.YtbgeejmhkmjfdaaGreatDoorAbHeap
import Derived.Laws.MakeOwn
namespace Go.Ab
open Go Go.RowKit
set_option linter.unusedVariables false
set_option linter.unusedSimpArgs false

variable {P : Program} {E : Env} {st : St} {G : Gh} {a : Act} {w : World}
variable {d : Nat} {ty : TypeId} {pos : String} {af : Array Edge} {g : Option (Nat × Bool)} {x y z : Operand}

/-- A list that is made empty, with room for so many. -/
theorem f_makeV (id : Nat) {t e : TypeId} {es nb n : Nat} {k k' : IntKind} (hp : apk P t t = some (e, es, nb)) (hx : ev st x = some (.d (.sc (.int k 0)))) (hy : ev st y = some (.d (.sc (.int k' (n : Int))))) (hroom : nb * n ≤ 140737488355328) (hbig : n ≤ 9223372036854775807) (hd : d < E.N) :
    FOk P E ⟨some d, .makeSlice t x y, ty, pos, af, g⟩ st (evL x ++ evL y) [id] [(.slot d, some (.mo id es 0)), (.tip id, some (.cont []))] := by
  obtain ⟨ht, ⟨e', htx⟩, i, z, hi, hz, hzs, his, hib, hes⟩ := apk_spec hp
  refine fok_newtip (W0 := []) rfl hd (fun st' G a w hL hu hs => ?_) (by simp) rfl
  have e1 := hs.sc ((ev_same hL fun l h => mem_l h).trans hx)
  have e2 := hs.sc ((ev_same hL fun l h => mem_r h).trans hy)
  have hbytes : (i.bytes : Int) * (n : Int) ≤ 281474976710656 := by
    have h : ((i.bytes * n : Nat) : Int) ≤ 281474976710656 := by rw [hib]; omega
    rwa [Int.natCast_mul] at h
  have hr := run_make (P := P) w t e i z ht hi hz k k' 0 n (Int.le_refl _) (by omega) hbytes (by omega)
  simp only [Int.toNat_zero, Int.toNat_natCast] at hr
  have hb : Below w.heap.size w (w.alloc (.cells (madeCells z.cells (n * i.size)) e)) := (Below.refl _ _).alloc (Nat.le_refl _) _
  refine ⟨.slice (some ⟨w.heap.size, 0, none⟩) 0 n, w.alloc (.cells (madeCells z.cells (n * i.size)) e), w.heap.size, n * es, n, 0, [], madeCells z.cells (n * i.size), e, ?_, hs.later0 hb, hu, .inl hs.size, by show (w.heap.push _)[w.heap.size]? = _; rw [Array.getElem?_push, if_pos rfl], by rw [size_madeCells, his]; exact Nat.le_refl _, hs.fresh_none, hs.fresh_box, hs.fresh_tip, by omega, relVL_nil, fun k u hk => by simp at hk, rfl, Nat.zero_le _, by omega⟩
  simp [execOp, e1, e2, hr]

/-- The first ones of a list; what was behind stands in the room behind now. -/
theorem f_cutRoom {t e : TypeId} {v : V} {es : Nat} {l m : List D} {k : IntKind} {b : Bool} (hx : ev st x = some v) (ha : asList v = some (es, l ++ m)) (hy : ev st y = some (.d (.sc (.int k (l.length : Int))))) (ht : P.underlying t = some (.slice e)) (hk : kd P e = some (b, es)) (hm : 0 < m.length) (hd : d < E.N) :
    FOk P E ⟨some d, .slice t x none (some y) none, ty, pos, af, g⟩ st (evL x ++ evL y) [] [(.slot d, some (.d (.room es l m)))] :=
  fok_val rfl hd fun st' G a w hL hs => by
    have e1 := relV_list (hs.ev ((ev_same hL fun l h => mem_l h).trans hx)) ha
    have e2 := hs.sc ((ev_same hL fun l h => mem_r h).trans hy)
    obtain ⟨_, hsz, _⟩ := kd_spec hk
    generalize hq : l ++ m = q at e1
    cases hc : a.eval x <;> rw [hc] at e1 <;> cases e1
    · rename_i cap b' o he hcap
      have hle : l.length + m.length ≤ cap := by rw [← hq, List.length_append] at hcap; exact hcap
      have hb : (Instr.sliceBound (.int k (l.length : Int)) cap .sliceAcap).run P w = .ok l.length w := by
        have : (0 : Int) ≤ (l.length : Int) ∧ (l.length : Int) ≤ (cap : Int) := ⟨by omega, by omega⟩
        simp only [Instr.sliceBound, asIntOf, Sem.run_bind, Sem.run_pure, Result.andThen_ok, if_pos this, Int.toNat_natCast]
      have hne : ¬ (cap = 0) := by omega
      refine ⟨.slice (some ⟨b', o, none⟩) l.length cap, ?_, .room hle (hq ▸ he)⟩
      simp [execOp, hc, e2, Instr.sliceAt, Instr.slice, run_underlying ht, Instr.sliceBounds, hb, hsz, hne, Addr.add]
    · exfalso
      have : (l ++ m).length = 0 := by rw [hq]; rfl
      rw [List.length_append] at this
      omega

/-- The first ones of a list. -/
theorem f_takeList {t e : TypeId} {v : V} {es : Nat} {l m : List D} {k : IntKind} {b : Bool} (hx : ev st x = some v) (ha : asList v = some (es, l ++ m)) (hy : ev st y = some (.d (.sc (.int k (l.length : Int))))) (ht : P.underlying t = some (.slice e)) (hk : kd P e = some (b, es)) (hd : d < E.N) :
    FOk P E ⟨some d, .slice t x none (some y) none, ty, pos, af, g⟩ st (evL x ++ evL y) [] [(.slot d, some (.d (.list es l)))] :=
  fok_val rfl hd fun st' G a w hL hs => by
    have e1 := relV_list (hs.ev ((ev_same hL fun l h => mem_l h).trans hx)) ha
    have e2 := hs.sc ((ev_same hL fun l h => mem_r h).trans hy)
    obtain ⟨_, hsz, _⟩ := kd_spec hk
    generalize hq : l ++ m = q at e1
    cases hc : a.eval x <;> rw [hc] at e1 <;> cases e1
    · rename_i cap b' o he hcap
      have hle : l.length ≤ cap := by rw [← hq, List.length_append] at hcap; omega
      have hb : (Instr.sliceBound (.int k (l.length : Int)) cap .sliceAcap).run P w = .ok l.length w := by
        have : (0 : Int) ≤ (l.length : Int) ∧ (l.length : Int) ≤ (cap : Int) := ⟨by omega, by omega⟩
        simp only [Instr.sliceBound, asIntOf, Sem.run_bind, Sem.run_pure, Result.andThen_ok, if_pos this, Int.toNat_natCast]
      refine ⟨.slice (some ⟨b', o, none⟩) l.length cap, ?_, .list hle (relE_left (hq ▸ he))⟩
      simp [execOp, hc, e2, Instr.sliceAt, Instr.slice, run_underlying ht, Instr.sliceBounds, hb, hsz, Addr.add]
    · have hl0 : (l ++ m).length = 0 := by rw [hq]; rfl
      rw [List.length_append] at hl0
      have hl : l = [] := List.length_eq_zero_iff.mp (by omega)
      subst hl
      have hb : (Instr.sliceBound (.int k (([] : List D).length : Int)) 0 .sliceAcap).run P w = .ok 0 w := by
        have : (0 : Int) ≤ (([] : List D).length : Int) ∧ (([] : List D).length : Int) ≤ ((0 : Nat) : Int) := ⟨by simp, by simp⟩
        simp only [Instr.sliceBound, asIntOf, Sem.run_bind, Sem.run_pure, Result.andThen_ok, if_pos this]; rfl
      refine ⟨.slice none 0 0, ?_, .lnil⟩
      simp at hb e2
      simp [execOp, hc, e2, Instr.sliceAt, Instr.slice, run_underlying ht, Instr.sliceBounds, hb, hsz]

/-- A list with what stands in the room behind it. -/
theorem f_upRoom {t e : TypeId} {es : Nat} {l m : List D} {k : IntKind} {b : Bool} (hx : ev st x = some (.d (.room es l m))) (hy : ev st y = some (.d (.sc (.int k ((l.length + m.length : Nat) : Int))))) (ht : P.underlying t = some (.slice e)) (hk : kd P e = some (b, es)) (hm : 0 < m.length) (hd : d < E.N) :
    FOk P E ⟨some d, .slice t x none (some y) none, ty, pos, af, g⟩ st (evL x ++ evL y) [] [(.slot d, some (.d (.list es (l ++ m))))] :=
  fok_val rfl hd fun st' G a w hL hs => by
    have e1 : Rel G.S (.room es l m) (a.eval x) := hs.ev ((ev_same hL fun l h => mem_l h).trans hx)
    have e2 := hs.sc ((ev_same hL fun l h => mem_r h).trans hy)
    obtain ⟨_, hsz, _⟩ := kd_spec hk
    cases hc : a.eval x <;> rw [hc] at e1 <;> cases e1
    rename_i cap b' o he hle
    have hb : (Instr.sliceBound (.int k ((l.length + m.length : Nat) : Int)) cap .sliceAcap).run P w = .ok (l.length + m.length) w := by
      have : (0 : Int) ≤ ((l.length + m.length : Nat) : Int) ∧ ((l.length + m.length : Nat) : Int) ≤ (cap : Int) := ⟨by omega, by omega⟩
      simp only [Instr.sliceBound, asIntOf, Sem.run_bind, Sem.run_pure, Result.andThen_ok, if_pos this, Int.toNat_natCast]
    have hne : ¬ (cap = 0) := by omega
    have hr : Rel G.S (.list es (l ++ m)) (.slice (some ⟨b', o, none⟩) (l ++ m).length cap) := .list (by rw [List.length_append]; exact hle) he
    rw [List.length_append] at hr
    refine ⟨_, ?_, hr⟩
    rw [Int.natCast_add] at hb e2
    simp [execOp, hc, e2, Instr.sliceAt, Instr.slice, run_underlying ht, Instr.sliceBounds, hb, hsz, hne, Addr.add]

theorem sim_cap {t e : TypeId} {es : Nat} {l m : List D} (s : Sim E st G a w) (hx : ev st x = some (.d (.room es l m))) (ht : P.underlying t = some (.slice e)) :
    ∃ c : Nat, l.length + m.length ≤ c ∧ (execOp a.eval ⟨some d, .call ⟨.builtin .cap, #[x], #[t]⟩, ty, pos, af, g⟩).run P w = .ok (.value (.int .i64 (c : Int))) w := by
  have e1 : Rel G.S (.room es l m) (a.eval x) := s.ev hx
  cases hc : a.eval x <;> rw [hc] at e1 <;> cases e1
  rename_i cap b' o he hle
  exact ⟨cap, hle, by simp [execOp, resolve, invoke, builtin, hc, Builtin.cap_, run_underlying ht, goInt]⟩

variable {Q : Exit → Act → World → Prop}

/-- How many find room: so many at least. -/
theorem sq_cap {ops : Array Oper} {l' : List Oper} {t e : TypeId} {es : Nat} {l m : List D} (hx : ev st x = some (.d (.room es l m))) (ht : P.underlying t = some (.slice e)) (hd : d < E.N)
    (h : ∀ c : Nat, l.length + m.length ≤ c → Hits E ((.slot d, some (.d (.sc (.int .i64 (c : Int))))) :: st) (wpList P ops Q l')) :
    Hits E st (wpList P ops Q (⟨some d, .call ⟨.builtin .cap, #[x], #[t]⟩, ty, pos, af, none⟩ :: l')) := by
  intro G a w s
  obtain ⟨c, hc, hr⟩ := sim_cap (d := d) (ty := ty) (pos := pos) (af := af) (g := none) s hx ht
  unfold wpList
  rw [if_pos (by simp [Region.wanted])]
  refine .inl ?_
  show Oper.upon P _ a _ Q ((execOp a.eval _).run P w)
  rw [hr]
  exact h c hc _ _ _ (s.put hd (.sc _))

/-- Likewise, behind a test that is known. -/
theorem sq_capY {ops : Array Oper} {l' : List Oper} {t e : TypeId} {es : Nat} {l m : List D} {j t' : Nat} {b : Bool} (hx : ev st x = some (.d (.room es l m))) (ht : P.underlying t = some (.slice e)) (hd : d < E.N)
    (hj : (ops[j]?).bind (·.dst) = some t') (hl : look st (.slot t') = some (.d (.sc (.bool b)))) (ht' : t' < E.N)
    (h : ∀ c : Nat, l.length + m.length ≤ c → Hits E ((.slot d, some (.d (.sc (.int .i64 (c : Int))))) :: st) (wpList P ops Q l')) :
    Hits E st (wpList P ops Q (⟨some d, .call ⟨.builtin .cap, #[x], #[t]⟩, ty, pos, af, some (j, b)⟩ :: l')) := by
  intro G a w s
  obtain ⟨c, hc, hr⟩ := sim_cap (d := d) (ty := ty) (pos := pos) (af := af) (g := some (j, b)) s hx ht
  unfold wpList
  rw [if_pos (by simp [Region.wanted, yielded_of s hj hl ht'])]
  refine .inl ?_
  show Oper.upon P _ a _ Q ((execOp a.eval _).run P w)
  rw [hr]
  exact h c hc _ _ _ (s.put hd (.sc _))

/-- A list with room behind, in a slot, told without it. -/
theorem hits_noRoom {K : Act → World → Prop} (t es : Nat) (l : List D) {m : List D} (hs : look st (.slot t) = some (.d (.room es l m))) (h : Hits E ((.slot t, some (.d (.list es l))) :: st) K) : Hits E st K := by
  intro G a w s
  exact h _ a w (s.retell (t := t) (v := .d (.list es l)) (rel_room (s.slots t _ hs)))

end Go.Ab
