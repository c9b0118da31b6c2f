/- Regions that draw their order: one walk in the order of the text serves every order, if operations that touch one place are ordered. No program. -/
import Derived.Test.YtbgeejmhkmjfdaaGreatDoorAbCode
import Derived.Orders
namespace Go.Ab
open Go Go.RowKit
set_option linter.unusedVariables false
set_option linter.unusedSimpArgs false
variable {P : Program} {E : Env} {st st' : St} {G : Gh} {a : Act} {w : World} {Q : Exit → Act → World → Prop} {K : Act → World → Prop} {ops : Array Oper}
structure Cert where
  L : List Loc
  fr : List Nat
  W : St
def tops (tq : Option (Nat × Nat)) (st : St) : Bool := match tq with
  | none => true
  | some (id, n) => st.all fun e => match e.1 with
    | .cell i o => !(i == id) || Nat.blt o n
    | _ => true
theorem tops_app {tq : Option (Nat × Nat)} {W st : St} (h1 : tops tq W = true) (h2 : tops tq st = true) : tops tq (W ++ st) = true := by
  cases tq with
  | none => rfl
  | some p => obtain ⟨i, n⟩ := p; simp only [tops] at h1 h2 ⊢; rw [List.all_append, h1, h2]; rfl
variable {tq : Option (Nat × Nat)}
def GOk (P : Program) (E : Env) (Q : Exit → Act → World → Prop) (tq : Option (Nat × Nat)) (ops : Array Oper) (o : Oper) (st0 : St) (c : Cert) : Prop :=
  ∀ (K : Act → World → Prop) (st : St), (∀ l ∈ c.L, look st l = look st0 l) → (∀ i ∈ c.fr, st.unused i = true) → tops tq st = true → Hits E (c.W ++ st) K →
    Hits E st fun a w => if Region.wanted o (yielded ops a.tmps) then o.wp P a w K Q ∨ (o.asks P a w ∧ LetsOut Q) else K (a.put o.dst undef) w
theorem g_plain {o : Oper} {L : List Loc} {fr : List Nat} {W : St} (hf : FOk P E o st L fr W) (hg : o.guard = none) : GOk P E Q tq ops o st ⟨L, fr, W⟩ := by
  intro K st' hL hfr _ hK G a w s
  rw [if_pos (by simp [Region.wanted, hg])]
  exact .inl (hf Q K st' hL hfr hK G a w s)
theorem g_yes {o : Oper} {L : List Loc} {fr : List Nat} {W : St} {j t : Nat} {b : Bool} (hf : FOk P E o st L fr W) (hg : o.guard = some (j, b))
    (hj : (ops[j]?).bind (·.dst) = some t) (hl : look st (.slot t) = some (.d (.sc (.bool b)))) (ht : t < E.N) : GOk P E Q tq ops o st ⟨.slot t :: L, fr, W⟩ := by
  intro K st' hL hfr _ hK G a w s
  rw [if_pos (by simp [Region.wanted, hg, yielded_of s hj ((hL _ (by simp)).trans hl) ht])]
  exact .inl (hf Q K st' (fun l h => hL l (by simp [h])) hfr hK G a w s)
theorem g_no {o : Oper} {d j t : Nat} {b : Bool} {v : Value} (ho : o.dst = some d) (hg : o.guard = some (j, b)) (hj : (ops[j]?).bind (·.dst) = some t) (hl : look st (.slot t) = some (.d (.sc v))) (hbc : wantB v b = false) (ht : t < E.N) (hd : d < E.N) :
    GOk P E Q tq ops o st ⟨[.slot t], [], [(.slot d, some (.d (.sc undef)))]⟩ := by
  intro K st' hL hfr _ hK G a w s
  rw [if_neg, ho]
  · exact hK _ _ _ (s.putU hd)
  · simp only [Region.wanted, hg]
    rw [not_wanted s hj ((hL _ (by simp)).trans hl) hbc ht]
    simp
inductive Chain (P : Program) (E : Env) (Q : Exit → Act → World → Prop) (tq : Option (Nat × Nat)) (ops : Array Oper) : List Oper → St → List Cert → St → Prop
  | nil {st : St} : Chain P E Q tq ops [] st [] st
  | cons {o : Oper} {l : List Oper} {st st' : St} {c : Cert} {cs : List Cert} : GOk P E Q tq ops o st c → fresh c.fr st = true → Chain P E Q tq ops l (c.W ++ st) cs st' → Chain P E Q tq ops (o :: l) st (c :: cs) st'
def dom (W : St) (l : Loc) : Bool := W.any fun e => e.1.eqb l
theorem look_app (W st : St) (l : Loc) : look (W ++ st) l = if dom W l = true then look W l else look st l := by
  induction W with
  | nil => simp [dom]
  | cons e r ih =>
    rw [List.cons_append, look_cons, look_cons, ih]
    unfold dom
    simp only [List.any_cons, Bool.or_eq_true, Loc.eqb_iff]
    by_cases h : e.1 = l
    · simp [h]
    · by_cases h2 : (r.any fun e => e.1.eqb l) = true
      · simp [h, h2]
      · simp [h, h2]
def mk : List Cert → List Bool → St → St
  | c :: cs, b :: bs, st => mk cs bs (if b then c.W ++ st else st)
  | _, _, st => st
theorem mk_base (cs : List Cert) : ∀ (bs : List Bool) (st st' : St) (l : Loc), look st l = look st' l → look (mk cs bs st) l = look (mk cs bs st') l := by
  induction cs with
  | nil => intro bs st st' l h; exact h
  | cons c cs ih =>
    intro bs st st' l h
    cases bs with
    | nil => exact h
    | cons b bs =>
      simp only [mk]
      apply ih
      cases b
      · simpa using h
      · simp only [if_true, look_app]; split <;> simp [h]
theorem mk_agree (cs : List Cert) : ∀ (bs bs' : List Bool) (st : St) (l : Loc), bs.length = cs.length → bs'.length = cs.length →
    (∀ (j : Nat) c, cs[j]? = some c → dom c.W l = true → bs[j]? = bs'[j]?) → look (mk cs bs st) l = look (mk cs bs' st) l := by
  induction cs with
  | nil => intro bs bs' st l _ _ _; rfl
  | cons c cs ih =>
    intro bs bs' st l h1 h2 h
    obtain ⟨b, bs, rfl⟩ : ∃ b r, bs = b :: r := by cases bs with | nil => simp at h1 | cons b r => exact ⟨b, r, rfl⟩
    obtain ⟨b', bs', rfl⟩ : ∃ b r, bs' = b :: r := by cases bs' with | nil => simp at h2 | cons b r => exact ⟨b, r, rfl⟩
    simp only [mk]
    rw [ih bs bs' _ l (by simpa using h1) (by simpa using h2) (fun j c' hj hd => by simpa using h (j + 1) c' (by simpa using hj) hd)]
    apply mk_base
    by_cases hd : dom c.W l = true
    · have := h 0 c (by simp) hd
      simp at this
      rw [this]
    · have e : ∀ x : Bool, look (if x then c.W ++ st else st) l = look st l := fun x => by cases x <;> simp [look_app, hd]
      rw [e, e]
theorem mk_last (cs : List Cert) : ∀ (bs : List Bool) (st : St) (l : Loc) (i : Nat) (c : Cert), bs.length = cs.length → cs[i]? = some c → bs[i]? = some true → dom c.W l = true →
    (∀ (j : Nat) c', i < j → cs[j]? = some c' → dom c'.W l = true → bs[j]? = some false) → look (mk cs bs st) l = look c.W l := by
  induction cs with
  | nil => intro bs st l i c _ h; simp at h
  | cons c0 cs ih =>
    intro bs st l i c h1 hc hb hd h
    obtain ⟨b, bs, rfl⟩ : ∃ b r, bs = b :: r := by cases bs with | nil => simp at h1 | cons b r => exact ⟨b, r, rfl⟩
    simp only [mk]
    cases i with
    | zero =>
      simp at hc hb
      subst hc hb
      simp only [if_true]
      have none' : look (mk cs bs (c0.W ++ st)) l = look (mk cs (bs.map fun _ => false) (c0.W ++ st)) l := by
        refine mk_agree cs _ _ _ l (by simpa using h1) (by simpa using h1) fun j c' hj hd' => ?_
        have := h (j + 1) c' (by omega) (by simpa using hj) hd'
        simp only [List.getElem?_cons_succ] at this
        rw [this]
        have hlt : j < bs.length := (List.getElem?_eq_some_iff.1 this).1
        simp [hlt]
      rw [none']
      have all : ∀ (cs : List Cert) (bs : List Bool) (st : St), mk cs (bs.map fun _ => false) st = st := by
        intro cs
        induction cs with
        | nil => intro bs st; cases bs <;> rfl
        | cons c cs ih2 => intro bs st; cases bs with
          | nil => rfl
          | cons b bs => simp only [List.map_cons, mk, Bool.false_eq_true, if_false]; exact ih2 bs st
      rw [all, look_app, if_pos hd]
    | succ i =>
      exact ih bs _ l i c (by simpa using h1) (by simpa using hc) (by simpa using hb) hd fun j c' hij hj hd' => by simpa using h (j + 1) c' (by omega) (by simpa using hj) hd'
def waitsFor (o : Oper) (i : Nat) : Bool := o.after.toList.any fun e => Region.binds .any e && e.on == i
def has (L : List Loc) (l : Loc) : Bool := L.any fun k => k.eqb l
theorem has_spec {L : List Loc} {l : Loc} (h : has L l = false) : l ∉ L := fun c => by
  have : has L l = true := List.any_eq_true.2 ⟨l, c, (Loc.eqb_iff _ _).2 rfl⟩
  rw [h] at this; cases this
def Cert.aside (x y : Cert) : Bool :=
  x.W.all (fun e => !(has y.L e.1) && !dom y.W e.1) && y.W.all (fun e => !(has x.L e.1)) && x.fr.all (fun i => y.W.unused i)
def pairsOk : List Oper → List Cert → Nat → Bool
  | o :: l, c :: cs, i => ((l.zip cs).all fun p => waitsFor p.1 i || c.aside p.2) && o.after.toList.all (fun e => !Region.binds .any e || Nat.blt e.on i) && pairsOk l cs (i + 1)
  | [], [], _ => true
  | _, _, _ => false
theorem pairsOk_spec : ∀ {l : List Oper} {cs : List Cert} {k : Nat}, pairsOk l cs k = true → l.length = cs.length ∧
    (∀ i j oj ci cj, i < j → l[j]? = some oj → cs[i]? = some ci → cs[j]? = some cj → waitsFor oj (k + i) = true ∨ ci.aside cj = true) ∧
    ∀ (i : Nat) o, l[i]? = some o → ∀ e ∈ o.after, Region.binds .any e = true → e.on < k + i
  | [], [], _, _ => ⟨rfl, by simp, by simp⟩
  | o :: l, c :: cs, k, h => by
    simp only [pairsOk, Bool.and_eq_true] at h
    obtain ⟨⟨h1, h2⟩, h3⟩ := h
    obtain ⟨h4, h5, h6⟩ := pairsOk_spec h3
    refine ⟨by simp [h4], fun i j oj ci cj hij hj hi hcj => ?_, fun i o' hi e he hb => ?_⟩
    · cases i with
      | zero =>
        simp at hi; subst hi
        obtain ⟨j, rfl⟩ : ∃ m, j = m + 1 := ⟨j - 1, by omega⟩
        have hm : (oj, cj) ∈ l.zip cs := List.mem_of_getElem? (i := j) (by rw [List.getElem?_zip_eq_some]; exact ⟨by simpa using hj, by simpa using hcj⟩)
        have := List.all_eq_true.1 h1 _ hm
        simpa using this
      | succ i =>
        obtain ⟨j, rfl⟩ : ∃ m, j = m + 1 := ⟨j - 1, by omega⟩
        have := h5 i j oj ci cj (by omega) (by simpa using hj) (by simpa using hi) (by simpa using hcj)
        rwa [show k + 1 + i = k + (i + 1) from by omega] at this
    · cases i with
      | zero =>
        simp at hi; subst hi
        have h := List.all_eq_true.1 h2 e (Array.mem_toList_iff.2 he)
        simp only [hb, Bool.not_true, Bool.false_or] at h
        have h7 : e.on + 1 ≤ k := Nat.le_of_ble_eq_true h
        omega
      | succ i =>
        have := h6 i o' (by simpa using hi) e he hb
        omega
  | [], _ :: _, _, h => by simp [pairsOk] at h
  | _ :: _, [], _, h => by simp [pairsOk] at h
theorem Sim.same (h : Sim E st G a w) (hl : ∀ l, look st' l = look st l) : Sim E st' G a w :=
  ⟨h.kw, h.s0, h.snew, h.tmps, h.defers, fun t v hv => h.slots t v (by rw [← hl]; exact hv), fun i o v hv => by rw [hl] at hv ⊢; exact h.cells i o v hv, fun i hi => h.boxes i (by rw [← hl]; exact hi),
    fun i j hi hj => h.inj i j (by rw [← hl]; exact hi) (by rw [← hl]; exact hj), h.stable, fun i hi ht => by
      rw [hl] at hi
      obtain ⟨h1, h2, h3, h4⟩ := h.tips i hi ht
      exact ⟨h1, h2, h3, fun j hj => h4 j (by rw [← hl]; exact hj)⟩, fun i j hi hj => h.tinj i j (by rw [← hl]; exact hi) (by rw [← hl]; exact hj), fun p hp => ⟨(h.rcv p hp).1, fun hi => (h.rcv p hp).2 (by rw [← hl]; exact hi)⟩, fun i qv l hv hcl ht => h.conts i qv l (by rw [← hl]; exact hv) hcl ht, fun i v hv => by rw [hl] at hv ⊢; exact h.iters i v hv, fun k v hv => h.olds k v (by rw [← hl]; exact hv)⟩
theorem Hits.same (hl : ∀ l, look st' l = look st l) (h : Hits E st' K) : Hits E st K := fun G a w s => h G a w (s.same hl)
def Bools (n k : Nat) : List Bool := (List.range n).map fun j => decide (j < k)
theorem bools_get {n k j : Nat} (h : j < n) : (Bools n k)[j]? = some (decide (j < k)) := by simp [Bools, h]
theorem bools_len (n k : Nat) : (Bools n k).length = n := by simp [Bools]
theorem chain_at : ∀ {l : List Oper} {st : St} {cs : List Cert} {st' : St}, Chain P E Q tq ops l st cs st' → ∀ (i : Nat) o c, l[i]? = some o → cs[i]? = some c →
    ∃ s0, GOk P E Q tq ops o s0 c ∧ fresh c.fr s0 = true ∧ s0 = mk (cs.take i) (List.replicate i true) st
  | _, _, _, _, .nil, i, o, c, hi, _ => by simp at hi
  | _, _, _, _, .cons hg hf hr, i, o, c, hi, hc => by
    cases i with
    | zero =>
      simp at hi hc; subst hi hc
      exact ⟨_, hg, hf, rfl⟩
    | succ i =>
      obtain ⟨s0, h1, h2, h3⟩ := chain_at hr i o c (by simpa using hi) (by simpa using hc)
      exact ⟨s0, h1, h2, by rw [h3]; simp [List.replicate_succ, mk]⟩
theorem chain_end : ∀ {l : List Oper} {st : St} {cs : List Cert} {st' : St}, Chain P E Q tq ops l st cs st' → st' = mk cs (List.replicate cs.length true) st ∧ cs.length = l.length
  | _, _, _, _, .nil => ⟨rfl, rfl⟩
  | _, _, _, _, .cons hg hf hr => by
    obtain ⟨h1, h2⟩ := chain_end hr
    exact ⟨by rw [h1]; simp [List.replicate_succ, mk], by simp [h2]⟩
theorem mk_pre (cs : List Cert) : ∀ (i : Nat) (st : St), i ≤ cs.length → mk (cs.take i) (List.replicate i true) st = mk cs (Bools cs.length i) st := by
  induction cs with
  | nil => intro i st h; simp at h; subst h; rfl
  | cons c cs ih =>
    intro i st h
    have e : Bools (c :: cs).length i = decide (0 < i) :: Bools cs.length (i - 1) := by
      unfold Bools
      rw [List.length_cons, List.range_succ_eq_map]
      simp only [List.map_cons, List.map_map]
      congr 1
      apply List.map_congr_left
      intro j _
      simp
      omega
    rw [e]
    cases i with
    | zero =>
      simp only [List.take_zero, List.replicate_zero, mk]
      have := ih 0 st (by omega)
      simpa [mk] using this
    | succ i =>
      simp only [List.take_succ_cons, List.replicate_succ, mk]
      have := ih i (c.W ++ st) (by simpa using h)
      simpa using this
theorem unused_app {W st : St} {i : Nat} : (W ++ st).unused i = (W.unused i && st.unused i) := by simp [St.unused, List.all_append]
theorem mk_unused (cs : List Cert) : ∀ (bs : List Bool) (st : St) (i : Nat), bs.length = cs.length → ((mk cs bs st).unused i = true ↔ st.unused i = true ∧ ∀ (j : Nat) c, cs[j]? = some c → bs[j]? = some true → c.W.unused i = true) := by
  induction cs with
  | nil => intro bs st i h; cases bs <;> simp [mk]
  | cons c cs ih =>
    intro bs st i h
    obtain ⟨b, bs, rfl⟩ : ∃ b r, bs = b :: r := by cases bs with | nil => simp at h | cons b r => exact ⟨b, r, rfl⟩
    simp only [mk]
    rw [ih bs _ i (by simpa using h)]
    constructor
    · rintro ⟨h1, h2⟩
      refine ⟨?_, fun j c' hj hb => ?_⟩
      · cases b <;> simp_all [unused_app]
      · cases j with
        | zero => simp at hj hb; subst hj hb; simp [unused_app] at h1; exact h1.1
        | succ j => exact h2 j c' (by simpa using hj) (by simpa using hb)
    · rintro ⟨h1, h2⟩
      refine ⟨?_, fun j c' hj hb => h2 (j + 1) c' (by simpa using hj) (by simpa using hb)⟩
      cases b with
      | false => simpa using h1
      | true => simp only [if_true, unused_app, h1, Bool.and_true]; exact h2 0 c (by simp) (by simp)
theorem aside_spec {x y : Cert} (h : x.aside y = true) : (∀ l, dom x.W l = true → l ∉ y.L ∧ dom y.W l = false) ∧ (∀ l, dom y.W l = true → l ∉ x.L) ∧ ∀ i ∈ x.fr, y.W.unused i = true := by
  simp only [Cert.aside, Bool.and_eq_true] at h
  obtain ⟨⟨h1, h2⟩, h3⟩ := h
  refine ⟨fun l hl => ?_, fun l hl => ?_, fun i hi => List.all_eq_true.1 h3 i hi⟩
  · obtain ⟨e, he, hb⟩ := List.any_eq_true.1 hl
    have := List.all_eq_true.1 h1 e he
    rw [(Loc.eqb_iff _ _).1 hb] at this
    simp only [Bool.and_eq_true, Bool.not_eq_true'] at this
    exact ⟨has_spec this.1, this.2⟩
  · obtain ⟨e, he, hb⟩ := List.any_eq_true.1 hl
    have := List.all_eq_true.1 h2 e he
    rw [(Loc.eqb_iff _ _).1 hb] at this
    exact has_spec (by simpa using this)
theorem mk_all (cs : List Cert) (ls : List Bool) (st : St) (hl : ls.length = cs.length) (h : ∀ j, j < cs.length → ls[j]? = some true) : mk cs ls st = mk cs (List.replicate cs.length true) st := by
  congr 1
  apply List.ext_getElem?
  intro j
  by_cases hj : j < cs.length
  · rw [h j hj]; simp [hj]
  · rw [List.getElem?_eq_none (by omega), List.getElem?_eq_none (by simp; omega)]
theorem mk_tops (cs : List Cert) : cs.all (fun c => tops tq c.W) = true → ∀ (bs : List Bool) (st : St), tops tq st = true → tops tq (mk cs bs st) = true := by
  induction cs with
  | nil => intro _ bs st h; cases bs <;> exact h
  | cons c cs ih =>
    intro hc bs st h
    simp only [List.all_cons, Bool.and_eq_true] at hc
    cases bs with
    | nil => exact h
    | cons b bs =>
      simp only [mk]
      refine ih hc.2 bs _ ?_
      cases b
      · exact h
      · exact tops_app hc.1 h
theorem draw_any {l : List Oper} {cs : List Cert} (hch : Chain P E Q tq l.toArray l st cs st') (hok : pairsOk l cs 0 = true) (ht0 : tops tq st = true) (htc : cs.all (fun c => tops tq c.W) = true) (hQ : Hits E st' (Q .normal)) :
    ∀ (fuel : Nat) (ls : List Bool) (G : Gh) (a : Act) (w : World), ls.length = l.length → ls.count false = fuel →
      (∀ (j : Nat) (o : Oper), ls[j]? = some true → l[j]? = some o → ∀ e ∈ o.after, Region.binds .any e = true → ls[e.on]? = some true) → Sim E (mk cs ls st) G a w → wpAny P .any l.toArray Q fuel ls.toArray a w := by
  obtain ⟨hlen, hpair, hlow⟩ := pairsOk_spec hok
  obtain ⟨hend, _⟩ := chain_end hch
  intro fuel
  induction fuel with
  | zero =>
    intro ls G a w hl hc hcl hs
    have hall : ∀ j, j < cs.length → ls[j]? = some true := fun j hj => by
      have hj' : j < ls.length := by omega
      rw [List.getElem?_eq_getElem hj']
      have hn : ls[j] ≠ false := fun c => by
        have : 0 < ls.count false := List.count_pos_iff.2 (c ▸ List.getElem_mem hj')
        omega
      simpa using hn
    refine ⟨?_, ?_⟩
    · rw [List.eq_nil_iff_forall_not_mem]
      intro j hj
      obtain ⟨h1, o, h2, _⟩ := mem_ready.1 hj
      have hj' : j < cs.length := by rw [← hlen]; simpa using (Array.getElem?_eq_some_iff.1 h2).1
      have := hall j hj'
      simp [Array.getD_eq_getD_getElem?, this] at h1
    · refine hQ G a w ?_
      rw [hend, ← mk_all cs ls st (by omega) hall]; exact hs
  | succ fuel ih =>
    intro ls G a w hl hc hcl hs
    have hrdy : ∀ i, i ∈ Region.ready .any l.toArray ls.toArray ↔ ls[i]? = some false ∧ ∃ o, l[i]? = some o ∧ ∀ e ∈ o.after, Region.binds .any e = true → ls[e.on]? = some true := fun i => by
      rw [mem_ready]
      constructor
      · rintro ⟨h1, o, h2, h3⟩
        have h2' : l[i]? = some o := by simpa using h2
        have hi : i < ls.length := by rw [hl]; exact (List.getElem?_eq_some_iff.1 h2').1
        refine ⟨by rw [List.getElem?_eq_getElem hi]; simpa [Array.getD_eq_getD_getElem?, hi] using h1, o, h2', fun e he hb => ?_⟩
        have := h3 e he hb
        cases hx : ls[e.on]? with
        | none => simp [Array.getD_eq_getD_getElem?, hx] at this
        | some b => simp [Array.getD_eq_getD_getElem?, hx] at this; rw [this]
      · rintro ⟨h1, o, h2, h3⟩
        exact ⟨by simp [Array.getD_eq_getD_getElem?, h1], o, by simpa using h2, fun e he hb => by simp [Array.getD_eq_getD_getElem?, h3 e he hb]⟩
    refine ⟨fun hnil => ?_, fun i hi => ?_⟩
    · exfalso
      have hex : ∃ i : Nat, ls[i]? = some false := by
        have : 0 < ls.count false := by omega
        obtain ⟨i, hi⟩ := List.getElem?_of_mem (List.count_pos_iff.1 this)
        exact ⟨i, hi⟩
      obtain ⟨m, hmin, hle⟩ := exists_least hex
      have hlt : m < ls.length := (List.getElem?_eq_some_iff.1 hmin).1
      obtain ⟨o, ho⟩ : ∃ o, l[m]? = some o := ⟨_, List.getElem?_eq_getElem (by omega)⟩
      have hmem : m ∈ Region.ready .any l.toArray ls.toArray := (hrdy _).2 ⟨hmin, o, ho, fun e he hb => by
        have h1 := hlow _ o ho e he hb
        have h3 : ¬ ls[e.on]? = some false := fun c => by have := hle _ c; omega
        rw [List.getElem?_eq_getElem (by omega : e.on < ls.length)] at h3 ⊢
        simpa using h3⟩
      rw [hnil] at hmem
      cases hmem
    · obtain ⟨hfalse, o, ho, hdeps⟩ := (hrdy i).1 hi
      have hil : i < l.length := (List.getElem?_eq_some_iff.1 ho).1
      obtain ⟨c, hc'⟩ : ∃ c, cs[i]? = some c := ⟨_, List.getElem?_eq_getElem (by omega)⟩
      obtain ⟨s0, hg, hfr, hs0⟩ := chain_at hch i o c ho hc'
      rw [mk_pre cs i st (by omega)] at hs0
      -- the flags of those that wait, or are waited for
      have hwait : ∀ j, waitsFor o j = true → ls[j]? = some true := fun j hw => by
        obtain ⟨e, he, hb⟩ := List.any_eq_true.1 hw
        simp only [Bool.and_eq_true, beq_iff_eq] at hb
        rw [← hb.2]; exact hdeps e (Array.mem_toList_iff.1 he) hb.1
      have hwaits : ∀ (j : Nat) oj, l[j]? = some oj → waitsFor oj i = true → ls[j]? = some false := fun j oj hj hw => by
        obtain ⟨e, he', hb⟩ := List.any_eq_true.1 hw
        have he := Array.mem_toList_iff.1 he'
        simp only [Bool.and_eq_true, beq_iff_eq] at hb
        have hjl : j < ls.length := by rw [hl]; exact (List.getElem?_eq_some_iff.1 hj).1
        rw [List.getElem?_eq_getElem hjl]
        cases hx : ls[j] with
        | false => rfl
        | true =>
          have := hcl j oj (by rw [List.getElem?_eq_getElem hjl, hx]) hj e he hb.1
          rw [hb.2, hfalse] at this
          cases this
      have hflag : ∀ (j : Nat) cj, cs[j]? = some cj → (j < i → ¬ cj.aside c = true) → (i < j → ¬ c.aside cj = true) → ls[j]? = (Bools cs.length i)[j]? := fun j cj hj h1 h2 => by
        have hjl : j < cs.length := (List.getElem?_eq_some_iff.1 hj).1
        rw [bools_get hjl]
        obtain ⟨oj, hoj⟩ : ∃ oj, l[j]? = some oj := ⟨_, List.getElem?_eq_getElem (by omega)⟩
        rcases Nat.lt_trichotomy j i with hji | hji | hji
        · have hw := (hpair j i o cj c hji ho hj hc').resolve_right (h1 hji)
          rw [hwait j (by simpa using hw)]; simp [hji]
        · subst hji; rw [hfalse]; simp
        · have hw := (hpair i j oj c cj hji hoj hc' hj).resolve_right (h2 hji)
          rw [hwaits j oj hoj (by simpa using hw)]; simp; omega
      have hagree : ∀ lo ∈ c.L, look (mk cs ls st) lo = look s0 lo := fun lo hlo => by
        rw [hs0]
        refine mk_agree cs _ _ st lo (by omega) (bools_len _ _) fun j cj hj hd => hflag j cj hj (fun hji ha => ?_) (fun hji ha => ?_)
        · exact ((aside_spec ha).1 lo hd).1 hlo
        · exact (aside_spec ha).2.1 lo hd hlo
      have hunused : ∀ id ∈ c.fr, (mk cs ls st).unused id = true := fun id hid => by
        have h1 := List.all_eq_true.1 hfr id hid
        rw [hs0, mk_unused cs _ _ _ (bools_len _ _)] at h1
        rw [mk_unused cs _ _ _ (by omega)]
        refine ⟨h1.1, fun j cj hj hb => ?_⟩
        have hjl : j < cs.length := (List.getElem?_eq_some_iff.1 hj).1
        obtain ⟨oj, hoj⟩ : ∃ oj, l[j]? = some oj := ⟨_, List.getElem?_eq_getElem (by omega)⟩
        rcases Nat.lt_trichotomy j i with hji | hji | hji
        · exact h1.2 j cj hj (by rw [bools_get hjl]; simp [hji])
        · subst hji; rw [hfalse] at hb; cases hb
        · rcases hpair i j oj c cj hji hoj hc' hj with hw | ha
          · have := hwaits j oj hoj (by simpa using hw); rw [this] at hb; cases hb
          · exact (aside_spec ha).2.2 id hid
      have hil' : i < ls.length := by omega
      have hset : ∀ lo, look (mk cs (ls.set i true) st) lo = look (c.W ++ mk cs ls st) lo := fun lo => by
        rw [look_app]
        by_cases hd : dom c.W lo = true
        · rw [if_pos hd]
          refine mk_last cs _ st lo i c (by simp; omega) hc' (by simp [hil']) hd fun j cj hij hj hdj => ?_
          rw [List.getElem?_set_ne (by omega)]
          obtain ⟨oj, hoj⟩ : ∃ oj, l[j]? = some oj := ⟨_, List.getElem?_eq_getElem (by have := (List.getElem?_eq_some_iff.1 hj).1; omega)⟩
          rcases hpair i j oj c cj hij hoj hc' hj with hw | ha
          · exact hwaits j oj hoj (by simpa using hw)
          · rw [((aside_spec ha).1 lo hd).2] at hdj; cases hdj
        · rw [if_neg hd]
          refine mk_agree cs _ _ st lo (by simp; omega) (by omega) fun j cj hj hdj => ?_
          rw [List.getElem?_set_ne]
          rintro rfl
          rw [hc'] at hj
          obtain rfl := Option.some.inj hj
          exact hd hdj
      have hnext : Hits E (c.W ++ mk cs ls st) (wpAny P .any l.toArray Q fuel (ls.toArray.setIfInBounds i true)) := by
        intro G' a' w' hs'
        have := ih (ls.set i true) G' a' w' (by simp [hl]) (by
          rw [List.count_set hil']
          have hx : ls[i] = false := by rw [List.getElem?_eq_getElem hil'] at hfalse; exact Option.some.inj hfalse
          simp [hx]; omega) (fun j oj hj hoj e he hb => by
          rw [List.getElem?_set] at hj ⊢
          by_cases hie : i = e.on
          · rw [if_pos hie, if_pos hil']
          · rw [if_neg hie]
            by_cases hij : i = j
            · subst hij; rw [ho] at hoj; obtain rfl := Option.some.inj hoj; exact hdeps e he hb
            · rw [if_neg hij] at hj; exact hcl j oj hj hoj e he hb) (hs'.same hset)
        simpa using this
      have := hg _ (mk cs ls st) hagree hunused (mk_tops cs htc ls st ht0) hnext G a w hs
      show wpOp P l.toArray Q i _ a w
      unfold wpOp
      have ho' : l.toArray[i]? = some o := by simpa using ho
      simp only [ho']
      exact this
theorem hits_draw {id : Nat} {l : List Oper} {cs : List Cert} (hm : P.follows .mixedOrders = true) (hch : Chain P E Q tq l.toArray l st cs st') (hok : pairsOk l cs 0 = true) (ht0 : tops tq st = true) (htc : cs.all (fun c => tops tq c.W) = true) (hQ : Hits E st' (Q .normal)) :
    Hits E st ((Code.region id l.toArray true).wp P Q) := by
  intro G a w s
  refine wp_region_any hm ?_
  have hb : Below w.heap.size w { w with drawn := w.drawn + 1 } := ⟨rfl, rfl, rfl, Nat.le_refl _, fun _ _ => rfl⟩
  have s1 := s.later0 hb
  have hlen := (pairsOk_spec hok).1
  have e : mk cs (List.replicate l.length false) st = st := by
    have : ∀ (cs : List Cert) (n : Nat) (st : St), mk cs (List.replicate n false) st = st := by
      intro cs
      induction cs with
      | nil => intro n st; rfl
      | cons c cs ih => intro n st; cases n with
        | zero => rfl
        | succ n => simp only [List.replicate_succ, mk, Bool.false_eq_true, if_false]; exact ih n st
    exact this _ _ _
  have := draw_any (Q := Q) hch hok ht0 htc hQ l.length (List.replicate l.length false) G a _ (by simp) (by simp) (fun j o hj => by
    rw [List.getElem?_replicate] at hj; split at hj <;> simp at hj) (by rw [e]; exact s1)
  simpa using this
def Drawn (P : Program) (E : Env) (lf : List Oper) (Q : Exit → Act → World → Prop) (tq : Option (Nat × Nat)) (l : List Oper) (st : St) (acc : List Cert) : Prop :=
  ∃ cs st', Chain P E Q tq lf.toArray l st cs st' ∧ pairsOk lf (acc.reverse ++ cs) 0 = true ∧ (acc.reverse ++ cs).all (fun c => tops tq c.W) = true ∧ Hits E st' (Q .normal)
theorem hits_drawnT {id : Nat} {l : List Oper} (tq : Option (Nat × Nat)) (ht : tops tq st = true) (hm : P.follows .mixedOrders = true) (h : Drawn P E l Q tq l st []) : Hits E st ((Code.region id l.toArray true).wp P Q) := by
  obtain ⟨cs, st', h1, h2, h3, h4⟩ := h
  exact hits_draw hm h1 (by simpa using h2) ht (by simpa using h3) h4
theorem hits_drawn {id : Nat} {l : List Oper} (hm : P.follows .mixedOrders = true) (h : Drawn P E l Q none l st []) : Hits E st ((Code.region id l.toArray true).wp P Q) :=
  hits_drawnT none rfl hm h
variable {lf l : List Oper} {acc : List Cert}
theorem dq_nil (hok : pairsOk lf acc.reverse 0 = true) (h : Hits E st (Q .normal)) : Drawn P E lf Q none [] st acc := ⟨[], st, .nil, by simpa using hok, List.all_eq_true.2 fun _ _ => rfl, h⟩
theorem dq_nilT (hok : pairsOk lf acc.reverse 0 = true) (ht : acc.all (fun c => tops tq c.W) = true) (h : Hits E st (Q .normal)) : Drawn P E lf Q tq [] st acc := ⟨[], st, .nil, by simpa using hok, by rw [List.append_nil, List.all_reverse]; exact ht, h⟩
theorem dq_of {o : Oper} {c : Cert} (hg : GOk P E Q tq lf.toArray o st c) (hfr : fresh c.fr st = true) (h : Drawn P E lf Q tq l (c.W ++ st) (c :: acc)) : Drawn P E lf Q tq (o :: l) st acc := by
  obtain ⟨cs, st', h1, h2, h3, h4⟩ := h
  exact ⟨c :: cs, st', .cons hg hfr h1, by simpa using h2, by simpa using h3, h4⟩
theorem dq {o : Oper} {L : List Loc} {fr : List Nat} {W : St} (hf : FOk P E o st L fr W) (hfr : fresh fr st = true) (hg : o.guard = none) (h : Drawn P E lf Q tq l (W ++ st) (⟨L, fr, W⟩ :: acc)) : Drawn P E lf Q tq (o :: l) st acc :=
  dq_of (g_plain hf hg) hfr h
theorem dq_yes {o : Oper} {L : List Loc} {fr : List Nat} {W : St} {j t : Nat} {b : Bool} (hf : FOk P E o st L fr W) (hfr : fresh fr st = true) (hg : o.guard = some (j, b)) (hj : (lf.toArray[j]?).bind (·.dst) = some t)
    (hl : look st (.slot t) = some (.d (.sc (.bool b)))) (ht : t < E.N) (h : Drawn P E lf Q tq l (W ++ st) (⟨.slot t :: L, fr, W⟩ :: acc)) : Drawn P E lf Q tq (o :: l) st acc :=
  dq_of (g_yes hf hg hj hl ht) hfr h
theorem dq_no {o : Oper} {d j t : Nat} {b : Bool} {v : Value} (ho : o.dst = some d) (hg : o.guard = some (j, b)) (hj : (lf.toArray[j]?).bind (·.dst) = some t) (hl : look st (.slot t) = some (.d (.sc v))) (hbc : wantB v b = false) (ht : t < E.N) (hd : d < E.N)
    (h : Drawn P E lf Q tq l ((.slot d, some (.d (.sc undef))) :: st) (⟨[.slot t], [], [(.slot d, some (.d (.sc undef)))]⟩ :: acc)) : Drawn P E lf Q tq (o :: l) st acc :=
  dq_of (g_no ho hg hj hl hbc ht hd) rfl h
end Go.Ab
