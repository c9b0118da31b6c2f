/- Parts of the walk, joined. -/
import Derived.Test.YtogodijfdkffaaaGreatDoorJ11
set_option linter.unusedVariables false
set_option linter.unusedSimpArgs false
set_option maxRecDepth 100000
/- Copies of structs: a drawn region of places, loads and calls that hand back trees of their own, a struct built of them, stored. No program. -/
namespace Go.Ab
open Go Go.RowKit
variable {P : Program} {Q : Exit → Act → World → Prop}
inductive TK where
  | addr (d off : Nat)
  | load (d src off n : Nat) (ag : Bool)
  | call (d src off n : Nat) (ag : Bool)
  | bld (d : Nat)
  | sto (src : Nat)
  deriving DecidableEq
def TK.dst : TK → Option Nat
  | .addr d _ => some d
  | .load d _ _ _ _ => some d
  | .call d _ _ _ _ => some d
  | .bld d => some d
  | .sto _ => none
def TK.isCall : TK → Bool
  | .call _ _ _ _ _ => true
  | _ => false
def pack (ag : Bool) (us : List Value) : Value := if ag then .agg ⟨us⟩ else us.headD undef
def packQ (ag : Bool) (l : List D) : D := if ag then .agg l else l.headD .any
def Done (S : Stab) (ds : List D) (wr : World) (b1 b2 : Nat) (F : List Nat) : TK → Act → World → Prop
  | .addr d off, a, w => a.tmps.getD d undef = .pointer (some ⟨b1, off, none⟩)
  | .load d _ off n ag, a, w => ∃ us, us.length = n ∧ a.tmps.getD d undef = pack ag us ∧ RelL S ((ds.drop off).take n) us
  | .call d _ off n ag, a, w => ∃ us, us.length = n ∧ a.tmps.getD d undef = pack ag us ∧ LinL w ((ds.drop off).take n) us F ∧ ∀ x ∈ F, wr.heap.size ≤ x
  | .bld d, a, w => ∃ us F, a.tmps.getD d undef = .agg ⟨us⟩ ∧ LinL w ds us F ∧ ∀ x ∈ F, wr.heap.size ≤ x
  | .sto _, a, w => ∃ us F cs t, w.heap[b2]? = some (.cells cs t (0, 0)) ∧ (∀ (k : Nat) v, us[k]? = some v → cs[k]? = some v) ∧ LinL w ds us F ∧ ∀ x ∈ F, wr.heap.size ≤ x
variable {S : Stab} {ds : List D} {wr w w' : World} {b1 b2 N : Nat} {F : List Nat} {k : TK} {a : Act} {d : Nat} {v : Value}
theorem Done.put (h : Done S ds wr b1 b2 F k a w) (hne : k.dst ≠ some d) (hb : Below w.heap.size w w') : Done S ds wr b1 b2 F k (a.put (some d) v) w' := by
  have e : ∀ d', d' ≠ d → (a.put (some d) v).tmps.getD d' undef = a.tmps.getD d' undef := fun d' hd => getD_set_other _ _ _ (fun c => hd c.symm)
  cases k with
  | addr d' off => simp only [Done] at h ⊢; rw [e d' (fun c => hne (by simp [TK.dst, c]))]; exact h
  | load d' src off n ag => simp only [Done] at h ⊢; rw [e d' (fun c => hne (by simp [TK.dst, c]))]; exact h
  | call d' src off n ag =>
    simp only [Done] at h ⊢
    rw [e d' (fun c => hne (by simp [TK.dst, c]))]
    obtain ⟨us, h1, h2, h3, h4⟩ := h
    exact ⟨us, h1, h2, h3.stay hb, h4⟩
  | bld d' =>
    simp only [Done] at h ⊢
    rw [e d' (fun c => hne (by simp [TK.dst, c]))]
    obtain ⟨us, F, h1, h2, h3⟩ := h
    exact ⟨us, F, h1, h2.stay hb, h3⟩
  | sto src =>
    simp only [Done] at h ⊢
    obtain ⟨us, F, cs, t, h1, h0, h2, h3⟩ := h
    exact ⟨us, F, cs, t, (hb.block _ (lt_of_block h1)).trans h1, h0, h2.stay hb, h3⟩
structure TInv (S : Stab) (ds : List D) (wr : World) (b1 b2 N : Nat) (ks : List TK) (ls : List Bool) (a : Act) (w : World) : Prop where
  tm : a.tmps.size = N
  df : a.defers = []
  p1 : a.tmps.getD 1 undef = .pointer (some ⟨b1, 0, none⟩)
  p2 : a.tmps.getD 2 undef = .pointer (some ⟨b2, 0, none⟩)
  kw : KW wr [b2] w
  h2 : ∃ cs t, w.heap[b2]? = some (.cells cs t (0, 0)) ∧ ds.length ≤ cs.size
  dn : ∃ Fs : Nat → List Nat, (∀ (i : Nat) k, ls[i]? = some true → ks[i]? = some k → Done S ds wr b1 b2 (Fs i) k a w) ∧
    ∀ (i j : Nat) k k', ls[i]? = some true → ls[j]? = some true → ks[i]? = some k → ks[j]? = some k' → k.isCall = true → k'.isCall = true → i ≠ j → ∀ x ∈ Fs i, x ∉ Fs j
structure TBase (S : Stab) (ds : List D) (wr : World) (b1 b2 N : Nat) (ks : List TK) (xs : List Value) : Prop where
  ne : b1 ≠ b2
  h1 : ∃ cs t, wr.heap[b1]? = some (.cells cs t (0, 0)) ∧ ∀ (k : Nat) v, xs[k]? = some v → cs[k]? = some v
  lt2 : b2 < wr.heap.size
  st : Stands S wr
  s2 : ∀ o, S b2 o = none
  rel : RelL S ds xs
  nd : (ks.filterMap TK.dst).Nodup
  lo : ∀ k ∈ ks, ∀ d, k.dst = some d → 3 ≤ d ∧ d < N
variable {ks : List TK} {xs : List Value} {ls : List Bool} {i : Nat}
theorem TBase.stands (h : TBase S ds wr b1 b2 N ks xs) (hk : KW wr [b2] w) : Stands S w := fun b o v hv => by
  have h1 := h.st b o v hv
  have hne : b ≠ b2 := fun c => by subst c; rw [h.s2] at hv; cases hv
  obtain ⟨cs, t, fr, e1, e2⟩ := block_of_cell h1
  rw [cell_of_block ((hk.frame b (lt_of_block e1) (by simpa using hne)).trans e1)]; exact e2
theorem nodup_dst : ∀ {ks : List TK}, (ks.filterMap TK.dst).Nodup → ∀ {i j : Nat} {k k' : TK} {d : Nat}, ks[i]? = some k → ks[j]? = some k' → k.dst = some d → k'.dst = some d → i = j := by
  intro ks
  induction ks with
  | nil => intro _ i j k k' d h; simp at h
  | cons q ks ih =>
    intro hn i j k k' d hi hj hk hk'
    have mem : ∀ {m : Nat} {k : TK}, ks[m]? = some k → k.dst = some d → d ∈ ks.filterMap TK.dst := fun hm hd => List.mem_filterMap.2 ⟨_, List.mem_of_getElem? hm, hd⟩
    have hn' : (ks.filterMap TK.dst).Nodup := by
      rw [List.filterMap_cons] at hn
      split at hn
      · exact hn
      · exact (List.nodup_cons.1 hn).2
    have hq : ∀ {k : TK}, q = k → k.dst = some d → d ∉ ks.filterMap TK.dst := fun e hd => by
      subst e
      rw [List.filterMap_cons, hd] at hn
      exact (List.nodup_cons.1 hn).1
    cases i with
    | zero =>
      cases j with
      | zero => rfl
      | succ j => exact absurd (mem (by simpa using hj) hk') (hq (by simpa using hi) hk)
    | succ i =>
      cases j with
      | zero => exact absurd (mem (by simpa using hi) hk) (hq (by simpa using hj) hk')
      | succ j => exact congrArg (· + 1) (ih hn' (i := i) (j := j) (by simpa using hi) (by simpa using hj) hk hk')
theorem TInv.next (hB : TBase S ds wr b1 b2 N ks xs) (h : TInv S ds wr b1 b2 N ks ls a w) (hk : ks[i]? = some k) (hf : ls[i]? = some false) (hd : k.dst = some d) (hb : Below w.heap.size w w') (F : List Nat) (hnew : Done S ds wr b1 b2 F k (a.put (some d) v) w') (hF : k.isCall = true → ∀ x ∈ F, w.heap.size ≤ x) : TInv S ds wr b1 b2 N ks (ls.set i true) (a.put (some d) v) w' := by
  obtain ⟨hlo, hlt⟩ := hB.lo k (List.mem_of_getElem? hk) d hd
  obtain ⟨h1, h2, h3, h4, h5, ⟨cs, t, h6, h7⟩, Fs, h8, h9⟩ := h
  have e : ∀ d', d' ≠ d → (a.put (some d) v).tmps.getD d' undef = a.tmps.getD d' undef := fun d' hd => getD_set_other _ _ _ (fun c => hd c.symm)
  have hil : i < ls.length := (List.getElem?_eq_some_iff.1 hf).1
  have old : ∀ {j : Nat}, (ls.set i true)[j]? = some true → j ≠ i → ls[j]? = some true := fun hj hne => by rwa [List.getElem?_set_ne (fun c => hne c.symm)] at hj
  have hlt' : ∀ {j : Nat} {k : TK}, ls[j]? = some true → ks[j]? = some k → k.isCall = true → ∀ x ∈ Fs j, x < w.heap.size := fun hj hkj hc x hx => by
    rename_i j k0
    have hD := h8 j _ hj hkj
    cases k0 with
    | call d' src off n ag => obtain ⟨us, _, _, q, _⟩ := hD; exact q.lt x hx
    | _ => simp [TK.isCall] at hc
  refine ⟨by simp [Act.put, h1], h2, by rw [e 1 (by omega)]; exact h3, by rw [e 2 (by omega)]; exact h4, h5.comp (KW.ofBelow (F := [b2]) hb) (fun _ h => h) (fun _ h => h), ⟨cs, t, (hb.block _ (lt_of_block h6)).trans h6, h7⟩, fun j => if j = i then F else Fs j, fun j q hj hq => ?_, fun j j' q q' hj hj' hq hq' hc hc' hne x hx => ?_⟩
  · by_cases hji : j = i
    · subst hji
      rw [hk] at hq
      obtain rfl := Option.some.inj hq
      simpa using hnew
    · show Done S ds wr b1 b2 (if j = i then F else Fs j) q _ _
      rw [if_neg hji]
      exact (h8 j q (old hj hji) hq).put (fun c => hji (nodup_dst hB.nd hq hk c hd)) hb
  · by_cases hji : j = i
    · subst hji
      have hj'i : j' ≠ j := fun c => hne c.symm
      simp only [if_true] at hx
      show x ∉ (if j' = j then F else Fs j')
      rw [if_neg hj'i]
      rw [hk] at hq
      obtain rfl := Option.some.inj hq
      intro c
      have := hF hc x hx
      have := hlt' (old hj' hj'i) hq' hc' x c
      omega
    · simp only [if_neg hji] at hx
      show x ∉ (if j' = i then F else Fs j')
      by_cases hj'i : j' = i
      · subst hj'i
        rw [if_pos rfl]
        rw [hk] at hq'
        obtain rfl := Option.some.inj hq'
        intro c
        have := hF hc' x c
        have := hlt' (old hj hji) hq hc x hx
        omega
      · rw [if_neg hj'i]
        exact h9 j j' q q' (old hj hji) (old hj' hj'i) hq hq' hc hc' hne x hx
variable {ty : TypeId} {pos : String} {af : Array Edge}
theorem eval_tmp {t : Nat} {u : Value} (h : a.tmps.getD t undef = u) : a.eval (.tmp t) = u := h
theorem step_addr (hB : TBase S ds wr b1 b2 N ks xs) (h : TInv S ds wr b1 b2 N ks ls a w) {off fk : Nat} {s : TypeId} (hk : ks[i]? = some (.addr d off)) (hf : ls[i]? = some false) (hkf : kf P s fk = some off) :
    (⟨some d, .fieldAddr s (.tmp 1) fk, ty, pos, af, none⟩ : Oper).wp P a w (TInv S ds wr b1 b2 N ks (ls.set i true)) Q := by
  show Oper.upon P _ a _ Q ((execOp a.eval _).run P w)
  have e1 := eval_tmp h.p1
  have hrun : (execOp a.eval (⟨some d, .fieldAddr s (.tmp 1) fk, ty, pos, af, none⟩ : Oper)).run P w = .ok (.value (.pointer (some ⟨b1, off, none⟩))) w := by
    simp [execOp, e1, run_fieldAt hkf]
  rw [hrun]
  have hlt := (hB.lo _ (List.mem_of_getElem? hk) d rfl).2
  refine h.next hB hk hf rfl (Below.refl _ _) [] ?_ (by simp [TK.isCall])
  show (a.tmps.setIfInBounds d _).getD d undef = _
  exact getD_set_same _ _ _ _ (by rw [h.tm]; exact hlt)
theorem step_load (hB : TBase S ds wr b1 b2 N ks xs) (h : TInv S ds wr b1 b2 N ks ls a w) {off n src j : Nat} {ag : Bool} {t : TypeId} (hk : ks[i]? = some (.load d src off n ag)) (hf : ls[i]? = some false) (hj : ks[j]? = some (.addr src off)) (hd : ls[j]? = some true) (hkd : kd P t = some (ag, n)) (h1 : ag = false → n = 1) (hn : off + n ≤ ds.length) :
    (⟨some d, .load t (.tmp src), ty, pos, af, none⟩ : Oper).wp P a w (TInv S ds wr b1 b2 N ks (ls.set i true)) Q := by
  show Oper.upon P _ a _ Q ((execOp a.eval _).run P w)
  obtain ⟨Fs, h8, _⟩ := h.dn
  have hD : a.tmps.getD src undef = .pointer (some ⟨b1, off, none⟩) := h8 j _ hd hj
  have e1 := eval_tmp hD
  obtain ⟨cs, tb, hb, hx⟩ := hB.h1
  have hxl := relL_length hB.rel
  have hb' : w.heap[b1]? = some (.cells cs tb (0, 0)) := (h.kw.frame b1 (lt_of_block hb) (by simpa using hB.ne)).trans hb
  have hus : ((xs.drop off).take n).length = n := by rw [List.length_take, List.length_drop]; omega
  have hcell : ∀ q u, ((xs.drop off).take n)[q]? = some u → w.cell? ⟨b1, off + q, none⟩ = some u := fun q u hq => by
    rw [cell_of_block hb']
    rw [List.getElem?_take] at hq
    split at hq
    · rw [List.getElem?_drop] at hq; exact hx _ _ hq
    · cases hq
  have hrun : (execOp a.eval (⟨some d, .load t (.tmp src), ty, pos, af, none⟩ : Oper)).run P w = .ok (.value (pack ag ((xs.drop off).take n))) w := by
    cases ag with
    | true =>
      have := run_loadVarN (P := P) (w := w) hkd hus hcell
      simp [execOp, e1, Instr.loadAt, Instr.sureAddr, this, pack]
    | false =>
      have hn1 := h1 rfl
      subst hn1
      obtain ⟨u, hu⟩ : ∃ u, (xs.drop off).take 1 = [u] := by
        match hq : (xs.drop off).take 1, hus with
        | [u], _ => exact ⟨u, rfl⟩
      have hc0 : w.cell? ⟨b1, off, none⟩ = some u := hcell 0 u (by rw [hu]; rfl)
      rw [hu]
      simp [execOp, e1, Instr.loadAt, Instr.sureAddr, run_loadVar1 hkd hc0, pack]
  rw [hrun]
  have hlt := (hB.lo _ (List.mem_of_getElem? hk) d rfl).2
  refine h.next hB hk hf rfl (Below.refl _ _) [] ⟨_, hus, ?_, relL_take n (relL_drop off hB.rel)⟩ (by simp [TK.isCall])
  show (a.tmps.setIfInBounds d _).getD d undef = _
  exact getD_set_same _ _ _ _ (by rw [h.tm]; exact hlt)
theorem step_call (hB : TBase S ds wr b1 b2 N ks xs) (h : TInv S ds wr b1 b2 N ks ls a w) {off n src s0 j : Nat} {ag : Bool} {f : FuncId} {ats : Array TypeId} (hk : ks[i]? = some (.call d src off n ag)) (hf : ls[i]? = some false) (hj : ks[j]? = some (.load src s0 off n ag)) (hd : ls[j]? = some true) (hen : enters P f = true) (hT : TwinC P f (packQ ag ((ds.drop off).take n))) (h1 : ag = false → n = 1) :
    (⟨some d, .call ⟨.value (.func f), #[.tmp src], ats⟩, ty, pos, af, none⟩ : Oper).wp P a w (TInv S ds wr b1 b2 N ks (ls.set i true)) Q := by
  show Oper.upon P _ a _ Q ((execOp a.eval _).run P w)
  obtain ⟨Fs, h8, _⟩ := h.dn
  obtain ⟨us, hul, hD, hrel⟩ := h8 j _ hd hj
  have e1 := eval_tmp hD
  have hrun : (execOp a.eval (⟨some d, .call ⟨.value (.func f), #[.tmp src], ats⟩, ty, pos, af, none⟩ : Oper)).run P w = .ok (.enter f ⟨[pack ag us]⟩) w := by
    have ef : a.eval (.func f) = .func (.func f) #[] #[] := rfl
    simp [execOp, resolve, ef, Deferred.ofValue, invoke, run_callFunc hen, e1]
  rw [hrun]
  have hone : ag = false → ∃ q u, (ds.drop off).take n = [q] ∧ us = [u] ∧ Rel S q u := fun hag => by
    have hn1 := h1 hag
    subst hn1
    obtain ⟨u, rfl⟩ : ∃ u, us = [u] := by
      match us, hul with
      | [u], _ => exact ⟨u, rfl⟩
    generalize (ds.drop off).take 1 = l at hrel
    cases hrel with
    | cons a1 a2 => cases a2; exact ⟨_, _, rfl, rfl, a1⟩
  have hR : Rel S (packQ ag ((ds.drop off).take n)) (pack ag us) := by
    cases ag with
    | true => exact .agg hrel
    | false => obtain ⟨q, u, e2, e3, e4⟩ := hone rfl; rw [e2, e3]; exact e4
  refine (hT S w _ (hB.stands h.kw) hR).mono ?_
  rintro e w' ⟨u, F, rfl, hb, hl, hF⟩
  have hlt := (hB.lo _ (List.mem_of_getElem? hk) d rfl).2
  refine h.next hB hk hf rfl hb F ?_ (fun _ => hF)
  have hput : (a.put (some d) u).tmps.getD d undef = u := getD_set_same _ _ _ _ (by rw [h.tm]; exact hlt)
  have hge : ∀ x ∈ F, wr.heap.size ≤ x := fun x hx => Nat.le_trans h.kw.size (hF x hx)
  have hlen : ((ds.drop off).take n).length = n := by rw [relL_length hrel, hul]
  cases ag with
  | true =>
    cases hl with
    | agg hl' => exact ⟨_, by rw [← hl'.length, hlen], hput, hl', hge⟩
  | false =>
    obtain ⟨q, u', e2, e3, e4⟩ := hone rfl
    rw [e2] at hl hlen
    have hl2 : Lin w' q u F := hl
    refine ⟨[u], by simpa using hlen, hput, ?_, hge⟩
    rw [e2]
    simpa using LinL.cons hl2 .nil (by simp)
structure Fd where
  t : Nat
  off : Nat
  n : Nat
  ag : Bool
def ContF : List Fd → Nat → Nat → Prop
  | [], o, e => o = e
  | p :: r, o, e => p.off = o ∧ ContF r (o + p.n) e
def SrcF (ds : List D) (ks : List TK) (ls : List Bool) (p : Fd) : Prop := ∃ (j s0 : Nat), ls[j]? = some true ∧ (p.ag = false → p.n = 1) ∧
  ((ks[j]? = some (TK.load p.t s0 p.off p.n p.ag) ∧ ∀ x ∈ (ds.drop p.off).take p.n, ∃ v, x = .sc v) ∨ ks[j]? = some (TK.call p.t s0 p.off p.n p.ag))
def partsF : Nat → List Fd → List (Nat × Operand)
  | _, [] => []
  | m, p :: r => (m, .tmp p.t) :: partsF (m + 1) r
def PlacesF (place : Nat → Option (Nat × Nat)) : Nat → List Fd → Prop
  | _, [] => True
  | m, p :: r => place m = some (p.off, p.n) ∧ PlacesF place (m + 1) r
theorem lin_of_sc {w : World} : ∀ {l : List D} {us : List Value}, (∀ x ∈ l, ∃ v, x = .sc v) → RelL S l us → LinL w l us []
  | [], _, _, .nil => .nil
  | x :: l, _, h, .cons h1 h2 => by
    obtain ⟨v, rfl⟩ := h x (by simp)
    rw [rel_sc h1]
    simpa using LinL.cons (.sc v) (lin_of_sc (fun y hy => h y (by simp [hy])) h2) (by simp)
theorem take_drop_add {α : Type} (l : List α) (o n m : Nat) : (l.drop o).take (n + m) = (l.drop o).take n ++ (l.drop (o + n)).take m := by
  rw [List.take_add, List.drop_drop]
theorem hpla (q : D) (h : q.plain = true ∨ ∃ v, q = .sc v) (hv : ∀ v, q = .sc v → v.oneCell' = true) : q.plain = true := by
  rcases h with h | ⟨v, rfl⟩
  · exact h
  · have := hv v rfl
    cases v <;> first | rfl | simp [Value.oneCell'] at this
theorem gather {place : Nat → Option (Nat × Nat)} {Fs : Nat → List Nat} (h1s : ∀ x ∈ ds, (V.d x).one = true) (h8 : ∀ (i : Nat) k, ls[i]? = some true → ks[i]? = some k → Done S ds wr b1 b2 (Fs i) k a w)
    (h9 : ∀ (i j : Nat) k k', ls[i]? = some true → ls[j]? = some true → ks[i]? = some k → ks[j]? = some k' → k.isCall = true → k'.isCall = true → i ≠ j → ∀ x ∈ Fs i, x ∉ Fs j) :
    ∀ (fl : List Fd) (m o e : Nat), ContF fl o e → (fl.map Fd.t).Nodup → (∀ p ∈ fl, SrcF ds ks ls p) → PlacesF place m fl → o ≤ e ∧
      ∃ us F ps, LinL w ((ds.drop o).take (e - o)) us F ∧ (∀ x ∈ F, wr.heap.size ≤ x ∧ ∃ p ∈ fl, ∃ (j s0 : Nat), ls[j]? = some true ∧ ks[j]? = some (TK.call p.t s0 p.off p.n p.ag) ∧ x ∈ Fs j) ∧
        RelPs S0 ps ((partsF m fl).map fun q => (q.1, a.eval q.2)) ∧ (ps.flatMap fun q => q.2.cells) = us.map .sc ∧ Contig place ps o
  | [], m, o, e, hc, _, _, _ => by
    cases hc
    exact ⟨Nat.le_refl _, [], [], [], by simpa using LinL.nil, by simp, trivial, rfl, trivial⟩
  | p :: fl, m, o, e, ⟨hp, hc⟩, hn, hs, ⟨hpl, hpr⟩ => by
    subst hp
    have hn' := List.nodup_cons.1 hn
    obtain ⟨hle, us, F, ps, h1, h2, h3, h4, h5⟩ := gather h1s h8 h9 fl (m + 1) _ e hc hn'.2 (fun q hq => hs q (by simp [hq])) hpr
    obtain ⟨j, s0, hj, hag, hk⟩ := hs p (by simp)
    -- the field's own cells
    have key : ∃ us1 F1, us1.length = p.n ∧ a.tmps.getD p.t undef = pack p.ag us1 ∧ LinL w ((ds.drop p.off).take p.n) us1 F1 ∧ ∀ x ∈ F1, wr.heap.size ≤ x ∧ ks[j]? = some (TK.call p.t s0 p.off p.n p.ag) ∧ x ∈ Fs j := by
      rcases hk with ⟨hk, hsc⟩ | hk
      · obtain ⟨us1, q1, q2, q3⟩ := h8 j _ hj hk
        exact ⟨us1, [], q1, q2, lin_of_sc hsc q3, by simp⟩
      · obtain ⟨us1, q1, q2, q3, q4⟩ := h8 j _ hj hk
        exact ⟨us1, Fs j, q1, q2, q3, fun x hx => ⟨q4 x hx, hk, hx⟩⟩
    obtain ⟨us1, F1, g1, g2, g3, g4⟩ := key
    have hone : p.ag = false → ∃ u, us1 = [u] := fun h => by
      have := hag h
      match us1, g1 with
      | [u], _ => exact ⟨u, rfl⟩
      | [], g => simp at g; omega
      | _ :: _ :: _, g => simp at g; omega
    let q : D := if p.ag then .agg (us1.map .sc) else packQ false (us1.map .sc)
    have hq : q.cells = us1.map .sc ∧ Rel S0 q (pack p.ag us1) := by
      show (if p.ag then D.agg (us1.map .sc) else packQ false (us1.map .sc)).cells = _ ∧ Rel S0 (if p.ag then D.agg (us1.map .sc) else packQ false (us1.map .sc)) _
      cases hb : p.ag with
      | true => exact ⟨rfl, .agg (relL_scs S0 us1)⟩
      | false => obtain ⟨u, rfl⟩ := hone hb; exact ⟨rfl, .sc u⟩
    have hqp : q.plain = true ∨ ∃ v, q = .sc v := by
      show (if p.ag then D.agg (us1.map .sc) else packQ false (us1.map .sc)).plain = true ∨ _
      cases hb : p.ag with
      | true => exact .inl rfl
      | false => obtain ⟨u, rfl⟩ := hone hb; exact .inr ⟨u, by show (if p.ag then _ else _) = _; rw [hb]; rfl⟩
    have hql : q.cells.length = p.n := by rw [hq.1, List.length_map, g1]
    have hdis : ∀ x ∈ F1, x ∉ F := fun x hx hxF => by
      obtain ⟨_, hk1, hx1⟩ := g4 x hx
      obtain ⟨_, p', hp', j', s1, hj', hk', hx'⟩ := h2 x hxF
      refine h9 j j' _ _ hj hj' hk1 hk' rfl rfl (fun c => ?_) x hx1 hx'
      subst c
      rw [hk1] at hk'
      injection hk' with hk'
      injection hk' with ht
      exact hn'.1 (List.mem_map.2 ⟨p', hp', ht.symm⟩)
    refine ⟨by omega, us1 ++ us, F1 ++ F, (m, q) :: ps, ?_, fun x hx => ?_, ⟨rfl, ?_, h3⟩, ?_, ⟨?_, ?_, ?_⟩⟩
    · rw [show e - p.off = p.n + (e - (p.off + p.n)) from by omega, take_drop_add]
      exact g3.append h1 hdis
    · rcases List.mem_append.1 hx with h | h
      · obtain ⟨q1, q2, q3⟩ := g4 x h
        exact ⟨q1, p, by simp, j, s0, hj, q2, q3⟩
      · obtain ⟨q1, p', hp', q2⟩ := h2 x h
        exact ⟨q1, p', by simp [hp'], q2⟩
    · show Rel S0 q (a.tmps.getD p.t undef)
      rw [g2]; exact hq.2
    · simp only [List.flatMap_cons, List.map_append]
      rw [hq.1, h4]
    · rw [hql]; exact hpl
    · exact hpla q hqp fun v hv => (g3.one fun x hx => h1s x (List.mem_of_mem_drop (List.mem_of_mem_take hx))) v (by have := hq.1; rw [hv] at this; simp only [D.cells] at this; match us1, this with | [_], e => simp at e; simp [e])
    · rw [hql]; exact h5
theorem run_build {t : TypeId} {parts : List (Nat × Operand)} {ps : List (Nat × D)} {pl : List (Nat × Nat)} {zs : List Value} {l : List D} {ρ : Operand → Value} {g : Option (Nat × Bool)} (hb : bk P t = some (pl, zs)) (h1 : RelPs S ps (parts.map fun p => (p.1, ρ p.2))) (hl : fillD (pl[·]?) (zs.map .sc) ps = some l) :
    ∃ vs, (execOp ρ ⟨some d, .build t parts.toArray, ty, pos, af, g⟩).run P w = .ok (.value (.agg ⟨vs⟩)) w ∧ RelL S l vs := by
  unfold bk at hb
  split at hb
  · rename_i fs zs' hu hz
    split at hb
    · rename_i pl' hpl
      obtain ⟨rfl, rfl⟩ := Prod.mk.inj (Option.some.inj hb)
      obtain ⟨z, hz1, hz2⟩ := zc_spec hz
      obtain ⟨vs, hv1, hv2⟩ := fill_rel h1 (relL_scs S zs') hl
      have hrp := run_places (P := P) (w := w) hpl
      refine ⟨vs, ?_, hv2⟩
      have hpl2 : (fs.mapM fun (f : Field) => (do pure (f.offset, ← sizeOf f.type) : Sem (Nat × Nat))).run P w = .ok pl'.toArray w := by
        rw [Array.mapM_eq_mapM_toList, Sem.run_map, hrp]; rfl
      have hf : Instr.fill (fun i => pl'[i]?) (⟨zs'⟩ : Array Value) (parts.map fun p => (p.1, ρ p.2)) = some ⟨vs⟩ := hv1
      simp only [execOp, Instr.build, Sem.run_bind, hz1, Result.andThen_ok, run_underlying hu, hz2, hpl2]
      simp [hf]
    · cases hb
  · cases hb
theorem scs_inj' {S : Stab} : ∀ {us vs : List Value}, RelL S (us.map .sc) vs → vs = us
  | [], _, .nil => rfl
  | _ :: _, _, .cons h1 h2 => by rw [rel_sc h1, scs_inj' h2]
theorem step_bld (hB : TBase S ds wr b1 b2 N ks xs) (h : TInv S ds wr b1 b2 N ks ls a w) (h1s : ∀ x ∈ ds, (V.d x).one = true) {t : TypeId} {fl : List Fd} {pl : List (Nat × Nat)} {zs : List Value} (hk : ks[i]? = some (.bld d)) (hf : ls[i]? = some false) (hb : bk P t = some (pl, zs)) (hz : zs.length = ds.length)
    (hc : ContF fl 0 ds.length) (hn : (fl.map Fd.t).Nodup) (hp : PlacesF (pl[·]?) 0 fl) (hs : ∀ p ∈ fl, SrcF ds ks ls p) :
    (⟨some d, .build t (partsF 0 fl).toArray, ty, pos, af, none⟩ : Oper).wp P a w (TInv S ds wr b1 b2 N ks (ls.set i true)) Q := by
  show Oper.upon P _ a _ Q ((execOp a.eval _).run P w)
  obtain ⟨Fs, h8, h9⟩ := h.dn
  obtain ⟨_, us, F, ps, g1, g2, g3, g4, g5⟩ := gather (a := a) (w := w) h1s h8 h9 fl 0 0 ds.length hc hn hs hp
  have hds : (ds.drop 0).take (ds.length - 0) = ds := by simp
  rw [hds] at g1
  have hl := fillD_concat (place := (pl[·]?)) (ps := ps) (pre := []) (rest := zs.map .sc) g5 (by rw [g4, List.length_map, List.length_map, hz, g1.length])
  rw [List.nil_append, List.nil_append, g4] at hl
  obtain ⟨vs, hrun, hr⟩ := run_build (P := P) (w := w) (d := d) (ty := ty) (pos := pos) (af := af) (g := none) hb g3 hl
  have e := scs_inj' hr
  subst e
  rw [hrun]
  have hlt := (hB.lo _ (List.mem_of_getElem? hk) d rfl).2
  refine h.next hB hk hf rfl (Below.refl _ _) [] ⟨_, F, ?_, g1, fun x hx => (g2 x hx).1⟩ (by simp [TK.isCall])
  show (a.tmps.setIfInBounds d _).getD d undef = _
  exact getD_set_same _ _ _ _ (by rw [h.tm]; exact hlt)
theorem Done.store {cs : Array Value} {t : TypeId} (h : Done S ds wr b1 b2 F k a w) (hne : k.dst ≠ none) (hlt : b2 < wr.heap.size) (hF : ∀ x ∈ F, True) : Done S ds wr b1 b2 F k (a.put none undef) (w.setRow b2 cs) := by
  have keep : ∀ {l : List D} {us : List Value} {F : List Nat}, LinL w l us F → (∀ x ∈ F, wr.heap.size ≤ x) → LinL (w.setRow b2 cs) l us F := fun hl hx => hl.keep fun x hxF => heap_setRow_ne _ _ _ _ (fun c => by have := hx x hxF; omega)
  cases k with
  | addr d' off => exact h
  | load d' src off n ag => exact h
  | call d' src off n ag =>
    obtain ⟨us, h1, h2, h3, h4⟩ := h
    exact ⟨us, h1, h2, keep h3 h4, h4⟩
  | bld d' =>
    obtain ⟨us, F, h1, h2, h3⟩ := h
    exact ⟨us, F, h1, keep h2 h3, h3⟩
  | sto src => exact absurd rfl hne
theorem step_sto (hB : TBase S ds wr b1 b2 N ks xs) (h : TInv S ds wr b1 b2 N ks ls a w) (h1s : ∀ x ∈ ds, (V.d x).one = true) {t : TypeId} {src j : Nat} {bb : Bool} (hk : ks[i]? = some (.sto src)) (hu : ∀ (j : Nat) k, ks[j]? = some k → k.dst = none → j = i) (hf : ls[i]? = some false) (hj : ks[j]? = some (.bld src)) (hd : ls[j]? = some true) (hkd : kd P t = some (bb, ds.length)) :
    (⟨none, .store t (.tmp 2) (.tmp src), ty, pos, af, none⟩ : Oper).wp P a w (TInv S ds wr b1 b2 N ks (ls.set i true)) Q := by
  show Oper.upon P _ a _ Q ((execOp a.eval _).run P w)
  obtain ⟨Fs, h8, h9⟩ := h.dn
  obtain ⟨us, F, g1, g2, g3⟩ := h8 j _ hd hj
  have e1 := eval_tmp h.p2
  have e2 := eval_tmp g1
  obtain ⟨cs, tb, hb, hsz⟩ := h.h2
  have hul : us.length = ds.length := g2.length.symm
  obtain ⟨_, hsize, _⟩ := kd_spec hkd
  have hst := run_storeCells_at P b2 0 tb us 0 cs w hb (by omega) (g2.one h1s)
  have hrun : (execOp a.eval (⟨none, .store t (.tmp 2) (.tmp src), ty, pos, af, none⟩ : Oper)).run P w = .ok .skip (w.setRow b2 (splice cs 0 us)) := by
    have hcl : (Value.agg ⟨us⟩).cells = ⟨us⟩ := rfl
    simp only [execOp, e1, e2, Instr.storeAt, Instr.sureAddr, storeVar, Sem.run_bind, Sem.run_pure, Result.andThen_ok, hsize, hcl, List.size_toArray, hul, ne_eq, not_true_eq_false, if_false]
    simp [hst, splice]
  rw [hrun]
  have hb' := heap_setRow_same (splice cs 0 us) hb
  have hfit : 0 + us.length ≤ cs.size := by omega
  have hin : ∀ (k : Nat) v, us[k]? = some v → (splice cs 0 us)[k]? = some v := fun k v hk => by
    rw [splice_get hfit, if_pos ⟨Nat.zero_le _, by have := (List.getElem?_eq_some_iff.1 hk).1; omega⟩]; simpa using hk
  have hil : i < ls.length := (List.getElem?_eq_some_iff.1 hf).1
  have old : ∀ {j : Nat}, (ls.set i true)[j]? = some true → j ≠ i → ls[j]? = some true := fun hj hne => by rwa [List.getElem?_set_ne (fun c => hne c.symm)] at hj
  have hlt2 := hB.lt2
  refine (⟨h.tm, h.df, h.p1, h.p2, h.kw.comp (kw_setRow (Below.refl _ w) _) (fun _ h => h) (fun _ h => h), ⟨_, tb, hb', by rw [splice_size hfit]; exact hsz⟩, Fs, fun m q hm hq => ?_, fun m m' q q' hm hm' hq hq' hc hc' hne => ?_⟩ : TInv S ds wr b1 b2 N ks (ls.set i true) (a.put none undef) _)
  · by_cases hmi : m = i
    · subst hmi
      rw [hk] at hq
      obtain rfl := Option.some.inj hq
      exact ⟨us, F, _, tb, hb', hin, g2.keep fun x hx => heap_setRow_ne _ _ _ _ (fun c => by have := g3 x hx; omega), g3⟩
    · exact (h8 m q (old hm hmi) hq).store (t := tb) (fun c => hmi (hu m q hq c)) hlt2 (fun _ _ => trivial)
  · have o1 : m ≠ i := fun c => by subst c; rw [hk] at hq; cases hq; simp [TK.isCall] at hc
    have o2 : m' ≠ i := fun c => by subst c; rw [hk] at hq'; cases hq'; simp [TK.isCall] at hc'
    exact h9 m m' q q' (old hm o1) (old hm' o2) hq hq' hc hc' hne
def Dep (o : Oper) (j : Nat) : Prop := ∃ e ∈ o.after, Region.binds .any e = true ∧ e.on = j
def OkOp (P : Program) (ds : List D) (ks : List TK) (fl : List Fd) (i : Nat) (o : Oper) : TK → Prop
  | .addr d off => ∃ s fk ty pos af, o = ⟨some d, .fieldAddr s (.tmp 1) fk, ty, pos, af, none⟩ ∧ kf P s fk = some off
  | .load d src off n ag => ∃ t ty pos af, o = ⟨some d, .load t (.tmp src), ty, pos, af, none⟩ ∧ kd P t = some (ag, n) ∧ (ag = false → n = 1) ∧ off + n ≤ ds.length ∧ ∃ j, Dep o j ∧ ks[j]? = some (.addr src off)
  | .call d src off n ag => ∃ f ats ty pos af s0, o = ⟨some d, .call ⟨.value (.func f), #[.tmp src], ats⟩, ty, pos, af, none⟩ ∧ enters P f = true ∧ TwinC P f (packQ ag ((ds.drop off).take n)) ∧ (ag = false → n = 1) ∧ ∃ j, Dep o j ∧ ks[j]? = some (.load src s0 off n ag)
  | .bld d => ∃ t ty pos af pl zs, o = ⟨some d, .build t (partsF 0 fl).toArray, ty, pos, af, none⟩ ∧ bk P t = some (pl, zs) ∧ zs.length = ds.length ∧ ContF fl 0 ds.length ∧ (fl.map Fd.t).Nodup ∧ PlacesF (pl[·]?) 0 fl ∧
      ∀ p ∈ fl, ∃ (j s0 : Nat), Dep o j ∧ (p.ag = false → p.n = 1) ∧ ((ks[j]? = some (TK.load p.t s0 p.off p.n p.ag) ∧ ∀ x ∈ (ds.drop p.off).take p.n, ∃ v, x = .sc v) ∨ ks[j]? = some (TK.call p.t s0 p.off p.n p.ag))
  | .sto src => ∃ t ty pos af bb, o = ⟨none, .store t (.tmp 2) (.tmp src), ty, pos, af, none⟩ ∧ kd P t = some (bb, ds.length) ∧ (∀ (j : Nat) k, ks[j]? = some k → k.dst = none → j = i) ∧ ∃ j, Dep o j ∧ ks[j]? = some (.bld src)
theorem step_any (hB : TBase S ds wr b1 b2 N ks xs) (h : TInv S ds wr b1 b2 N ks ls a w) (h1s : ∀ x ∈ ds, (V.d x).one = true) {fl : List Fd} {o : Oper} (hk : ks[i]? = some k) (hf : ls[i]? = some false) (ho : OkOp P ds ks fl i o k) (hd : ∀ e ∈ o.after, Region.binds .any e = true → ls[e.on]? = some true) :
    o.wp P a w (TInv S ds wr b1 b2 N ks (ls.set i true)) Q := by
  have dep : ∀ {j : Nat}, Dep o j → ls[j]? = some true := fun ⟨e, he, hb, hj⟩ => hj ▸ hd e he hb
  cases k with
  | addr d off => obtain ⟨s, fk, ty, pos, af, rfl, h1⟩ := ho; exact step_addr hB h hk hf h1
  | load d src off n ag => obtain ⟨t, ty, pos, af, rfl, h1, h2, h3, j, h4, h5⟩ := ho; exact step_load hB h hk hf h5 (dep h4) h1 h2 h3
  | call d src off n ag => obtain ⟨f, ats, ty, pos, af, s0, rfl, h1, h2, h3, j, h4, h5⟩ := ho; exact step_call hB h hk hf h5 (dep h4) h1 h2 h3
  | bld d =>
    obtain ⟨t, ty, pos, af, pl, zs, rfl, h1, h2, h3, h4, h5, h6⟩ := ho
    exact step_bld hB h h1s hk hf h1 h2 h3 h4 h5 fun p hp => by obtain ⟨j, s0, g1, g2, g3⟩ := h6 p hp; exact ⟨j, s0, dep g1, g2, g3⟩
  | sto src => obtain ⟨t, ty, pos, af, bb, rfl, h1, h2, j, h3, h4⟩ := ho; exact step_sto hB h h1s hk h2 hf h4 (dep h3) h1
theorem cells_some {S : Stab} {cs : Array Value} : ∀ {l : List D} {o : Nat}, (∀ k q, l[k]? = some q → ∃ cv, cs[o + k]? = some cv ∧ Rel S q cv) → ∃ xs, RelL S l xs ∧ ∀ k v, xs[k]? = some v → cs[o + k]? = some v
  | [], o, _ => ⟨[], .nil, by simp⟩
  | q :: l, o, h => by
    obtain ⟨cv, h1, h2⟩ := h 0 q rfl
    obtain ⟨xs, h3, h4⟩ := cells_some (l := l) (o := o + 1) fun k q hk => by
      have := h (k + 1) q (by simpa using hk)
      rwa [show o + (k + 1) = o + 1 + k from by omega] at this
    refine ⟨cv :: xs, .cons h2 h3, fun k v hk => ?_⟩
    cases k with
    | zero => simp at hk; subst hk; exact h1
    | succ k => rw [show o + (k + 1) = o + 1 + k from by omega]; exact h4 k v (by simpa using hk)
theorem look_new_ne {d : Nat} {vs : List V} {r : St} {l : Loc} (h1 : l ≠ .slot d) (h2 : l ≠ .box d) (h3 : ∀ o, l ≠ .cell d o) : look (newRows d vs ++ r) l = look r l := by
  unfold newRows
  rw [List.cons_append, List.append_assoc, look_ne _ _ (fun c => h1 c.symm), look_cellRows_ne d h3, List.singleton_append, look_ne _ _ (fun c => h2 c.symm)]
theorem look_new_box {d : Nat} {vs : List V} {r : St} : look (newRows d vs ++ r) (.box d) = some (.ptr d 0) := by
  unfold newRows
  rw [List.cons_append, List.append_assoc, look_ne _ _ (by simp), look_cellRows_ne d (by simp), List.singleton_append, look_same]
theorem look_new_cell {d k : Nat} {vs : List V} {r : St} (h : k < vs.length) : look (newRows d vs ++ r) (.cell d k) = vs[k]? := by
  unfold newRows
  rw [List.cons_append, List.append_assoc, look_ne _ _ (by simp), look_cellRows_cell, if_pos ⟨Nat.zero_le _, by omega⟩, Nat.sub_zero]
theorem unused_cells {i id : Nat} (h : id ≠ i) : ∀ (l : List D) (k : Nat), St.unused i (cellRows id k (l.map .d)) = true
  | [], k => rfl
  | q :: l, k => by
    have ih := unused_cells h l (k + 1)
    unfold St.unused at ih ⊢
    rw [List.map_cons, cellRows, List.all_cons, ih]
    simp [V.free, h]
theorem twinS {n : FuncId} {ts t1 t2 : TypeId} {r0 r1 : Nat} {p1 p2 : String} {a1 a2 : Array Edge} {fn : Func} {l : List Oper} {fl : List Fd} {zs : List Value} (hf : P.funcs[n]? = some fn)
    (hb : fn.body = some (Code.seq (Code.region r0 #[⟨some 1, .box ts (.tmp 0), t1, p1, a1, none⟩, ⟨some 2, .alloc ts, t2, p2, a2, none⟩] false) (Code.seq (Code.region r1 l.toArray true) Code.ret))) (hn : fn.ntmps = N) (hN : 3 ≤ N) (hr : fn.results = #[.cell 2 ts]) (hm : P.follows .mixedOrders = true)
    (hkd : kd P ts = some (true, ds.length)) (hzc : zc P ts = some zs) (hzl : zs.length = ds.length) (hpos : 0 < ds.length) (hg : ∀ o ∈ l, o.guard = none) (hlow : ∀ (i : Nat) o, l[i]? = some o → ∀ e ∈ o.after, Region.binds .any e = true → e.on < i)
    (hnd : (ks.filterMap TK.dst).Nodup) (hlo : ∀ k ∈ ks, ∀ d, k.dst = some d → 3 ≤ d ∧ d < N) (h1s : ∀ x ∈ ds, (V.d x).one = true) (hlen : l.length = ks.length) (hok : ∀ (i : Nat) o k, l[i]? = some o → ks[i]? = some k → OkOp P ds ks fl i o k) (hsto : ∃ (j src : Nat), ks[j]? = some (TK.sto src)) : TwinC P n (.agg ds) := by
  intro S0' w0 u0 hst hrel
  refine calls_raw hf hb hn (by show Nat.ble 1 N = true; rw [Nat.ble_eq]; omega) hst (.cons hrel .nil) ?_
  refine sqq <| rgq (l := [_, _]) <| sq (f_box (v := .d (.agg ds)) (vs := ds.map .d) rfl rfl (by show 1 < N; omega)) rfl rfl ?_
  refine sq (f_alloc hzc (by show 2 < N; omega)) (by
    show (St.unused 2 (newRows 1 (ds.map .d) ++ argRows 0 [.agg ds]) && true) = true
    rw [unused_app, newRows]
    have e : St.unused 2 (cellRows 1 0 (ds.map .d) ++ [(.box 1, some (.ptr 1 0))]) = true := by rw [unused_app, unused_cells (by omega)]; rfl
    have e2 : ∀ (x : Loc × Option V) (st : St), St.unused 2 (x :: st) = (St.unused 2 [x] && St.unused 2 st) := fun x st => by simp [St.unused]
    rw [e2, e]; rfl) rfl ?_
  refine nxq <| sqq ?_
  intro G a w s
  have hk1 : look (newRows 2 (zs.map fun z => V.d (.sc z)) ++ (newRows 1 (ds.map .d) ++ argRows 0 [.agg ds])) (.box 1) = some (.ptr 1 0) := by rw [look_new_ne (by simp) (by simp) (by simp), look_new_box]
  have hk2 : look (newRows 2 (zs.map fun z => V.d (.sc z)) ++ (newRows 1 (ds.map .d) ++ argRows 0 [.agg ds])) (.box 2) = some (.ptr 2 0) := look_new_box
  have hp1 : a.tmps.getD 1 undef = .pointer (some ⟨G.μ 1, 0, none⟩) := s.slots 1 (.ptr 1 0) (by rw [look_new_ne (by simp) (by simp) (by simp)]; rfl)
  have hp2 : a.tmps.getD 2 undef = .pointer (some ⟨G.μ 2, 0, none⟩) := s.slots 2 (.ptr 2 0) rfl
  obtain ⟨b11, b12, b13⟩ := s.boxes 1 (by rw [hk1]; simp)
  obtain ⟨b21, b22, b23⟩ := s.boxes 2 (by rw [hk2]; simp)
  have hne : G.μ 1 ≠ G.μ 2 := fun c => by have := s.inj 1 2 (by rw [hk1]; simp) (by rw [hk2]; simp) c; omega
  have hc1 : ∀ (k : Nat) q, ds[k]? = some q → ∃ cs t cv, w.heap[G.μ 1]? = some (.cells cs t (0, 0)) ∧ cs[k]? = some cv ∧ Rel G.S q cv := fun k q hq => by
    have hkl := (List.getElem?_eq_some_iff.1 hq).1
    obtain ⟨_, cs, t, cv, h1, h2, h3⟩ := s.cells 1 k (.d q) (by rw [look_new_ne (by simp) (by simp) (by simp), look_new_cell (by simpa using hkl), List.getElem?_map, hq]; rfl)
    exact ⟨cs, t, cv, h1, h2, h3⟩
  obtain ⟨q0, hq0⟩ : ∃ q, ds[0]? = some q := ⟨_, List.getElem?_eq_getElem hpos⟩
  obtain ⟨cs1, t1', _, hb1, _, _⟩ := hc1 0 q0 hq0
  obtain ⟨xs, hx1, hx2⟩ := cells_some (S := G.S) (cs := cs1) (l := ds) (o := 0) fun k q hq => by
    obtain ⟨cs, t, cv, h1, h2, h3⟩ := hc1 k q hq
    rw [hb1] at h1
    cases h1
    exact ⟨cv, by rw [Nat.zero_add]; exact h2, h3⟩
  have hlt : ds.length - 1 < zs.length := by omega
  obtain ⟨_, cs2, t2', cv2, hb2, hcv2, _⟩ := s.cells 2 (ds.length - 1) (.d (.sc zs[ds.length - 1])) (by rw [look_new_cell (by simpa using hlt), List.getElem?_map, List.getElem?_eq_getElem hlt]; rfl)
  have hsz2 : ds.length ≤ cs2.size := by have := (Array.getElem?_eq_some_iff.1 hcv2).1; omega
  have hbl : Below w0.heap.size w0 w := RE.below s
  have hB : TBase G.S ds { w with drawn := w.drawn + 1 } (G.μ 1) (G.μ 2) N ks xs := ⟨hne, ⟨cs1, t1', hb1, fun k v hk => by have := hx2 k v hk; rwa [Nat.zero_add] at this⟩, b22, s.stable, b23, hx1, hnd, hlo⟩
  have hnew2 : w0.heap.size ≤ G.μ 2 := by rcases b21 with h | h; exact h; cases h
  refine wp_drawn_inv (TInv G.S ds { w with drawn := w.drawn + 1 } (G.μ 1) (G.μ 2) N ks) hm hg hlow (fun ls i o a w hl hI ho hfalse hdep => ?_) (fun ls a w' hl hall hI => ?_) ⟨s.tmps, s.defers, hp1, hp2, ⟨rfl, rfl, rfl, Nat.le_refl _, fun _ _ _ => rfl⟩, ⟨cs2, t2', hb2, hsz2⟩, fun _ => [], fun i k hi => ?_, fun i j k k' hi => ?_⟩
  · have hi : i < ks.length := by rw [← hlen]; exact (List.getElem?_eq_some_iff.1 ho).1
    exact step_any hB hI h1s (List.getElem?_eq_getElem hi) hfalse (hok i o _ ho (List.getElem?_eq_getElem hi)) hdep
  · obtain ⟨j, src, hj⟩ := hsto
    obtain ⟨Fs, h8, _⟩ := hI.dn
    obtain ⟨us, F, cs, t, g1, g2, g3, g4⟩ := h8 j _ (hall j (by rw [hlen]; exact (List.getElem?_eq_some_iff.1 hj).1)) hj
    have hul : us.length = ds.length := g3.length.symm
    have hld := run_loadVarN (P := P) (w := w') (b := G.μ 2) (o := 0) hkd hul (fun q u hq => by rw [cell_of_block g1, Nat.zero_add]; exact g2 q u hq)
    refine wp_ret ⟨hI.df, .agg ⟨us⟩, ?_, .agg ⟨us⟩, F, rfl, ?_, .agg g3, fun x hx => Nat.le_trans hbl.size (g4 x hx)⟩
    · rw [results_eq, hr]
      have e2 := hI.p2
      simp [resS, e2, asAddr, hld]
    · exact below_kw hbl (KW.comp (F := [G.μ 2]) (⟨rfl, rfl, rfl, Nat.le_refl _, fun _ _ _ => rfl⟩ : KW w [] { w with drawn := w.drawn + 1 }) hI.kw (by simp) (fun _ h => h)) hnew2
  · rw [List.getElem?_replicate] at hi; split at hi <;> simp at hi
  · rw [List.getElem?_replicate] at hi; split at hi <;> simp at hi
def OkAll (P : Program) (ds : List D) (ks : List TK) (fl : List Fd) : Nat → List Oper → List TK → Prop
  | _, [], _ => True
  | m, o :: l, k :: r => OkOp P ds ks fl m o k ∧ OkAll P ds ks fl (m + 1) l r
  | _, _ :: _, [] => False
theorem ok_all {fl : List Fd} : ∀ {m : Nat} {l : List Oper} {r : List TK}, OkAll P ds ks fl m l r → ∀ (i : Nat) o k, l[i]? = some o → r[i]? = some k → OkOp P ds ks fl (m + i) o k
  | m, o :: l, k :: r, ⟨h1, h2⟩, 0, o', k', ho, hk => by simp at ho hk; subst ho hk; exact h1
  | m, o :: l, k :: r, ⟨h1, h2⟩, i + 1, o', k', ho, hk => by
    have := ok_all h2 i o' k' (by simpa using ho) (by simpa using hk)
    rwa [show m + (i + 1) = m + 1 + i from by omega]
  | _, [], _, _, i, _, _, ho, _ => by simp at ho
  | _, _ :: _, [], h, _, _, _, _, _ => h.elim
def lowOk : Nat → List Oper → Bool
  | _, [] => true
  | i, o :: l => o.guard.isNone && (o.after.toList.all fun e => !(Region.binds .any e) || Nat.blt e.on i) && lowOk (i + 1) l
theorem low_of : ∀ {l : List Oper} {m : Nat}, lowOk m l = true → (∀ o ∈ l, o.guard = none) ∧ ∀ (i : Nat) o, l[i]? = some o → ∀ e ∈ o.after, Region.binds .any e = true → e.on < m + i
  | [], m, _ => ⟨by simp, by simp⟩
  | o :: l, m, h => by
    simp only [lowOk, Bool.and_eq_true] at h
    obtain ⟨⟨h1, h2⟩, h3⟩ := h
    obtain ⟨q1, q2⟩ := low_of h3
    refine ⟨fun x hx => ?_, fun i x hx e he hb => ?_⟩
    · rcases List.mem_cons.1 hx with rfl | hx
      · simpa using h1
      · exact q1 x hx
    · cases i with
      | zero =>
        simp at hx; subst hx
        have := List.all_eq_true.1 h2 e (Array.mem_toList_iff.2 he)
        rw [hb] at this
        simpa using lt (by simpa using this)
      | succ i =>
        have := q2 i x (by simpa using hx) e he hb
        omega
def ksOk (N : Nat) (ks : List TK) : Bool := (ks.all fun k => match k.dst with | some d => Nat.ble 3 d && Nat.blt d N | none => true) && decide (ks.filterMap TK.dst).Nodup
theorem ks_of {ks : List TK} (h : ksOk N ks = true) : (ks.filterMap TK.dst).Nodup ∧ ∀ k ∈ ks, ∀ d, k.dst = some d → 3 ≤ d ∧ d < N := by
  simp only [ksOk, Bool.and_eq_true, decide_eq_true_eq] at h
  refine ⟨h.2, fun k hk d hd => ?_⟩
  have := List.all_eq_true.1 h.1 k hk
  rw [hd] at this
  simp only [Bool.and_eq_true] at this
  exact ⟨Nat.le_of_ble_eq_true this.1, lt this.2⟩
theorem twinF {n : FuncId} {ts t1 t2 : TypeId} {r0 r1 : Nat} {p1 p2 : String} {a1 a2 : Array Edge} {fn : Func} {l : List Oper} {zs : List Value} (ks : List TK) (fl : List Fd) (hf : P.funcs[n]? = some fn)
    (hb : fn.body = some (Code.seq (Code.region r0 #[⟨some 1, .box ts (.tmp 0), t1, p1, a1, none⟩, ⟨some 2, .alloc ts, t2, p2, a2, none⟩] false) (Code.seq (Code.region r1 l.toArray true) Code.ret))) (hn : fn.ntmps = N) (hN : Nat.ble 3 N = true) (hr : fn.results = #[.cell 2 ts]) (hm : P.follows .mixedOrders = true)
    (hkd : kd P ts = some (true, ds.length)) (hzc : zc P ts = some zs) (hzl : zs.length = ds.length) (hpos : Nat.blt 0 ds.length = true) (hlow : lowOk 0 l = true) (hks : ksOk N ks = true) (h1s : (ds.all fun x => (V.d x).one) = true) (hlen : l.length = ks.length) (hok : OkAll P ds ks fl 0 l ks) (hsto : ∃ (j src : Nat), ks[j]? = some (TK.sto src)) : TwinC P n (.agg ds) := by
  obtain ⟨h1, h2⟩ := low_of hlow
  obtain ⟨h3, h4⟩ := ks_of hks
  exact twinS hf hb hn (Nat.le_of_ble_eq_true hN) hr hm hkd hzc hzl (lt hpos) h1 (fun i o ho e he hb => by have := h2 i o ho e he hb; omega) h3 h4 (List.all_eq_true.1 h1s) hlen (fun i o k ho hk => by have := ok_all hok i o k ho hk; rwa [Nat.zero_add] at this) hsto
theorem dep_of {o : Oper} {j : Nat} (h : (o.after.toList.any fun e => Region.binds .any e && e.on == j) = true) : Dep o j := by
  obtain ⟨e, he, hb⟩ := List.any_eq_true.1 h
  simp only [Bool.and_eq_true, beq_iff_eq] at hb
  exact ⟨e, Array.mem_toList_iff.1 he, hb.1, hb.2⟩
def D.isSc : D → Bool
  | .sc _ => true
  | _ => false
theorem scs_of {l : List D} (h : (l.all D.isSc) = true) : ∀ x ∈ l, ∃ v, x = .sc v := fun x hx => by
  have := List.all_eq_true.1 h x hx
  cases x <;> first | exact ⟨_, rfl⟩ | cases this
def AllF (φ : Fd → Prop) : List Fd → Prop
  | [] => True
  | p :: r => φ p ∧ AllF φ r
theorem allF_mem {φ : Fd → Prop} : ∀ {l : List Fd}, AllF φ l → ∀ p ∈ l, φ p
  | p :: r, ⟨h1, h2⟩, q, hq => by
    rcases List.mem_cons.1 hq with rfl | hq
    · exact h1
    · exact allF_mem h2 q hq
theorem last_of {ks : List TK} {i : Nat} (h : ((ks.zipIdx).all fun p => p.1.dst.isSome || p.2 == i) = true) : ∀ (j : Nat) k, ks[j]? = some k → k.dst = none → j = i := fun j k hj hk => by
  have hm : (k, j) ∈ ks.zipIdx := List.mem_zipIdx_iff_getElem?.2 hj
  have := List.all_eq_true.1 h _ hm
  simpa [hk] using this
def GivesC (P : Program) (f : FuncId) (q r : D) : Prop := ∀ (S : Stab) (w : World) (u : Value), Stands S w → Rel S q u →
  Calls P f ⟨[u]⟩ w fun e w' => ∃ v F, e = .returned v ∧ Below w.heap.size w w' ∧ Lin w' r v F ∧ ∀ b ∈ F, w.heap.size ≤ b
theorem GivesC.callsP {f : FuncId} {q r : D} {Γ : World → Prop} (h : GivesC P f q r) : CallsP P Γ f [q] r := by
  intro S w us hg hS hr
  cases hr with
  | cons h1 h2 =>
    cases h2
    refine (h S w _ hS h1).mono ?_
    rintro e w' ⟨v, F, rfl, hb, hl, hF⟩
    refine ⟨v, fun b o => if b ∈ F then w'.cell? ⟨b, o, none⟩ else S b o, rfl, hl.rel.mono (fun b o x hx => ?_), fun b o x hx => ?_, hb, fun b o x hx => ?_⟩
    · unfold Stab.of at hx
      split at hx
      · rename_i hbF; simp only [hbF, if_true]; exact hx
      · cases hx
    · have hlt := lt_of_cell (hS b o x hx)
      have : b ∉ F := fun c => by have := hF b c; omega
      simp only [this, if_false]; exact hx
    · by_cases hbF : b ∈ F
      · simp only [hbF, if_true] at hx; exact .inr ⟨hF b hbF, hx⟩
      · simp only [hbF, if_false] at hx; exact .inl hx
end Go.Ab

/- Copies in memory of their own. -/
namespace Go.Proofs.YtogodijfdkffaaaGreatDoor.Ln
open Go Go.RowKit Go.Ab Go.Proofs 
theorem en231 : enters Tryz.prog 231 = true := by kernel_rfl
theorem en233 : enters Tryz.prog 233 = true := by kernel_rfl
theorem en169 : enters Tryz.prog 169 = true := by kernel_rfl
theorem bu70 : bk Tryz.prog 70 = some ([(0, 1), (1, 1), (2, 1), (3, 1), (4, 1), (5, 1), (6, 1), (7, 1), (8, 1)], [.int .u8 0, .string ByteArray.empty, .string ByteArray.empty, .string ByteArray.empty, .int .i64 0, .slice none 0 0, .slice none 0 0, .slice none 0 0, .int .i64 0]) := by kernel_rfl
theorem en213 : enters Tryz.prog 213 = true := by kernel_rfl
theorem un53 : Tryz.prog.underlying 53 = some (.slice 35) := by kernel_rfl
theorem bu132 : bk Tryz.prog 132 = some ([(0, 1), (1, 1)], [.string ByteArray.empty, .int .i64 0]) := by kernel_rfl
theorem bu172 : bk Tryz.prog 172 = some ([(0, 3), (3, 3), (6, 1)], [.int .i64 0, .int .u64 0, .int .u64 0, .int .i64 0, .int .u64 0, .int .u64 0, .string ByteArray.empty]) := by kernel_rfl
theorem en167 : enters Tryz.prog 167 = true := by kernel_rfl
theorem en232 : enters Tryz.prog 232 = true := by kernel_rfl
theorem bu76 : bk Tryz.prog 76 = some ([(0, 1), (1, 1), (2, 1), (3, 1), (4, 1), (5, 1)], [.string ByteArray.empty, .slice none 0 0, .slice none 0 0, .slice none 0 0, .string ByteArray.empty, .int .i64 0]) := by kernel_rfl
theorem en211 : enters Tryz.prog 211 = true := by kernel_rfl
theorem bu82 : bk Tryz.prog 82 = some ([(0, 10), (10, 1)], [.int .u8 0, .int .i64 0, .int .u64 0, .int .u64 0, .string ByteArray.empty, .string ByteArray.empty, .int .i64 0, .int .i64 0, .slice none 0 0, .int .i64 0, .int .u8 0]) := by kernel_rfl
theorem en212 : enters Tryz.prog 212 = true := by kernel_rfl
theorem en164 : enters Tryz.prog 164 = true := by kernel_rfl
theorem en165 : enters Tryz.prog 165 = true := by kernel_rfl
theorem en166 : enters Tryz.prog 166 = true := by kernel_rfl
theorem en168 : enters Tryz.prog 168 = true := by kernel_rfl
theorem bu56 : bk Tryz.prog 56 = some ([(0, 1), (1, 1), (2, 1), (3, 1), (4, 1), (5, 1), (6, 1), (7, 1), (8, 1), (9, 1), (10, 1), (11, 1), (12, 1), (13, 1), (14, 1)], [.int .u8 0, .string ByteArray.empty, .slice none 0 0, .int .i64 0, .int .i64 0, .int .i64 0, .int .i64 0, .slice none 0 0, .slice none 0 0, .slice none 0 0, .string ByteArray.empty, .slice none 0 0, .slice none 0 0, .slice none 0 0, .int .i64 0]) := by kernel_rfl
theorem en108 : enters Tryz.prog 108 = true := by kernel_rfl
theorem un22 : Tryz.prog.underlying 22 = some (.slice 56) := by kernel_rfl
theorem apk22 : apk Tryz.prog 22 22 = some (56, 15, 248) := by kernel_rfl
theorem sk22 : sk Tryz.prog 22 = some (56, 15, [.int .u8 0, .string ByteArray.empty, .slice none 0 0, .int .i64 0, .int .i64 0, .int .i64 0, .int .i64 0, .slice none 0 0, .slice none 0 0, .slice none 0 0, .string ByteArray.empty, .slice none 0 0, .slice none 0 0, .slice none 0 0, .int .i64 0]) := by kernel_rfl
theorem en55 : enters Tryz.prog 55 = true := by kernel_rfl
theorem ld_all {st : St} {c : List D} {es : Nat} (h : c.length = es) : ldV st (true, es) (.d (.eptr c)) = some (.d (.agg c)) := by
  subst h
  have e : Nat.ble c.length c.length = true := by rw [Nat.ble_eq]; exact Nat.le_refl _
  simp [ldV, e]
theorem scs_inj {S : Stab} : ∀ {us vs : List Value}, RelL S (us.map .sc) vs → vs = us
  | [], _, .nil => rfl
  | _ :: _, _, .cons h1 h2 => by rw [rel_sc h1, scs_inj h2]
set_option maxHeartbeats 2000000 in
theorem twinA {t te : TypeId} {f : FuncId} {es nb : Nat} {zs : List Value} {parts : Array (Nat × Operand)} {s0 s1 s2 s3 s4 s5 s6 s7 s8 s9 s10 s11 s12 s13 s14 s15 s16 s17 s18 s19 s20 s21 s22 s23 s24 s25 s26 s27 s28 s29 s30 : String} {n : FuncId} {fn : Func} {sp : List D} (hf : Tryz.prog.funcs[n]? = some fn) (hb : fn.body = some (Code.seq (Code.region 0 #[{ dst := (some 2), op := (Op.assign (Operand.const (Value.slice none 0 0))), type := t, pos := s0, after := #[], guard := none }] false) (Code.seq (Code.region 1 #[{ dst := (some 5), op := (Op.move (Operand.tmp 0)), type := t, pos := s1, after := #[], guard := none }, { dst := (some 6), op := (Op.call { callee := (Callee.builtin Builtin.len), args := #[(Operand.tmp 5)], argTypes := #[t] }), type := 3, pos := s2, after := #[{ on := 0, ground := Ground.data }], guard := none }, { dst := (some 7), op := (Op.binOp BinOp.add 3 (Operand.tmp 6) (Operand.const (Value.int IntKind.i64 1)) 3), type := 3, pos := s3, after := #[{ on := 1, ground := Ground.data }], guard := none }, { dst := (some 8), op := (Op.makeSlice t (Operand.const (Value.int IntKind.i64 0)) (Operand.tmp 7)), type := t, pos := s4, after := #[{ on := 2, ground := Ground.data }], guard := none }, { dst := (some 3), op := (Op.assign (Operand.tmp 8)), type := t, pos := s5, after := #[{ on := 3, ground := Ground.data }, { on := 0, ground := Ground.phase }, { on := 1, ground := Ground.phase }, { on := 2, ground := Ground.phase }, { on := 3, ground := Ground.phase }], guard := none }] false) (Code.seq (Code.seq (Code.region 2 #[{ dst := (some 4), op := (Op.assign (Operand.const (Value.int IntKind.i64 0))), type := 3, pos := s6, after := #[], guard := none }] false) (Code.block 0 (Code.loop (Code.seq (Code.seq (Code.region 3 #[{ dst := (some 9), op := (Op.move (Operand.tmp 4)), type := 3, pos := s7, after := #[], guard := none }, { dst := (some 10), op := (Op.move (Operand.tmp 0)), type := t, pos := s8, after := #[], guard := none }, { dst := (some 11), op := (Op.call { callee := (Callee.builtin Builtin.len), args := #[(Operand.tmp 10)], argTypes := #[t] }), type := 3, pos := s9, after := #[{ on := 1, ground := Ground.data }], guard := none }, { dst := (some 12), op := (Op.binOp BinOp.lss 3 (Operand.tmp 9) (Operand.tmp 11) 3), type := 4, pos := s10, after := #[{ on := 0, ground := Ground.data }, { on := 2, ground := Ground.data }], guard := none }] false) (Code.cond (Operand.tmp 12) Code.skip (Code.exit 0))) (Code.seq (Code.block 1 (Code.region 5 #[{ dst := (some 15), op := (Op.move (Operand.tmp 3)), type := t, pos := s11, after := #[], guard := none }, { dst := (some 16), op := (Op.move (Operand.tmp 0)), type := t, pos := s12, after := #[], guard := none }, { dst := (some 17), op := (Op.move (Operand.tmp 4)), type := 3, pos := s13, after := #[], guard := none }, { dst := (some 18), op := (Op.indexAddr t (Operand.tmp 16) (Operand.tmp 17)), type := 0, pos := s14, after := #[{ on := 1, ground := Ground.data }, { on := 2, ground := Ground.data }], guard := none }, { dst := (some 19), op := (Op.load te (Operand.tmp 18)), type := te, pos := s15, after := #[{ on := 3, ground := Ground.data }], guard := none }, { dst := (some 20), op := (Op.call { callee := (Callee.value (Operand.func f)), args := #[(Operand.tmp 19)], argTypes := #[te] }), type := te, pos := s16, after := #[{ on := 4, ground := Ground.data }], guard := none }, { dst := (some 21), op := (Op.buildSlice t 1 #[(0, (Operand.tmp 20))]), type := t, pos := s17, after := #[{ on := 5, ground := Ground.data }], guard := none }, { dst := (some 22), op := (Op.call { callee := (Callee.builtin Builtin.append), args := #[(Operand.tmp 15), (Operand.tmp 21)], argTypes := #[t, t] }), type := t, pos := s18, after := #[{ on := 0, ground := Ground.data }, { on := 6, ground := Ground.data }, { on := 5, ground := Ground.chain }], guard := none }, { dst := (some 3), op := (Op.assign (Operand.tmp 22)), type := t, pos := s19, after := #[{ on := 7, ground := Ground.data }, { on := 7, ground := Ground.chain }, { on := 0, ground := Ground.phase }, { on := 1, ground := Ground.phase }, { on := 2, ground := Ground.phase }, { on := 3, ground := Ground.phase }, { on := 4, ground := Ground.phase }, { on := 5, ground := Ground.phase }, { on := 6, ground := Ground.phase }, { on := 7, ground := Ground.phase }], guard := none }] false)) (Code.region 4 #[{ dst := (some 13), op := (Op.move (Operand.tmp 4)), type := 3, pos := s20, after := #[], guard := none }, { dst := (some 14), op := (Op.binOp BinOp.add 3 (Operand.tmp 13) (Operand.const (Value.int IntKind.i64 1)) 3), type := 3, pos := s21, after := #[{ on := 0, ground := Ground.data }], guard := none }, { dst := (some 4), op := (Op.assign (Operand.tmp 14)), type := 3, pos := s22, after := #[{ on := 1, ground := Ground.data }, { on := 0, ground := Ground.phase }, { on := 1, ground := Ground.phase }], guard := none }] false)))))) (Code.seq (Code.region 6 #[{ dst := (some 23), op := (Op.move (Operand.tmp 3)), type := t, pos := s23, after := #[], guard := none }, { dst := (some 24), op := (Op.build te parts), type := te, pos := s24, after := #[], guard := none }, { dst := (some 25), op := (Op.buildSlice t 1 #[(0, (Operand.tmp 24))]), type := t, pos := s25, after := #[{ on := 1, ground := Ground.data }], guard := none }, { dst := (some 26), op := (Op.call { callee := (Callee.builtin Builtin.append), args := #[(Operand.tmp 23), (Operand.tmp 25)], argTypes := #[t, t] }), type := t, pos := s26, after := #[{ on := 0, ground := Ground.data }, { on := 2, ground := Ground.data }], guard := none }, { dst := (some 27), op := (Op.move (Operand.tmp 0)), type := t, pos := s27, after := #[], guard := none }, { dst := (some 28), op := (Op.call { callee := (Callee.builtin Builtin.len), args := #[(Operand.tmp 27)], argTypes := #[t] }), type := 3, pos := s28, after := #[{ on := 4, ground := Ground.data }], guard := none }, { dst := (some 29), op := (Op.slice t (Operand.tmp 26) none (some (Operand.tmp 28)) none), type := t, pos := s29, after := #[{ on := 3, ground := Ground.data }, { on := 5, ground := Ground.data }], guard := none }, { dst := (some 2), op := (Op.assign (Operand.tmp 29)), type := t, pos := s30, after := #[{ on := 6, ground := Ground.data }, { on := 3, ground := Ground.chain }, { on := 0, ground := Ground.phase }, { on := 1, ground := Ground.phase }, { on := 2, ground := Ground.phase }, { on := 3, ground := Ground.phase }, { on := 4, ground := Ground.phase }, { on := 5, ground := Ground.phase }, { on := 6, ground := Ground.phase }], guard := none }] false) Code.ret))))) (hn : fn.ntmps = 30) (hr : fn.results = #[.tmp 2]) (hen : enters Tryz.prog f = true) (hu : Tryz.prog.underlying t = some (.slice te)) (hkd : kd Tryz.prog te = some (true, es)) (hp : apk Tryz.prog t t = some (te, es, nb)) (hsk : sk Tryz.prog t = some (te, es, zs)) (hz : zs.length = es) (hes : 0 < es ∧ es ≤ 100) (hnb : nb ≤ 1000) (hsp : ∀ (E : Env) (st : St) (d : Nat) (ty : TypeId) (pos : String) (af : Array Edge), d < E.N → FOk Tryz.prog E ⟨some d, .build te parts, ty, pos, af, none⟩ st [] [] [(.slot d, some (.d (.agg sp)))]) (hspl : sp.length = es) (hsp1 : ∀ c ∈ sp, (V.d c).one = true) (ds : List D) (hds : ∀ q ∈ ds, TwinC Tryz.prog f q ∧ ∃ c, q = .agg c ∧ c.length = es ∧ ∀ x ∈ c, (V.d x).one = true) (hlen : ds.length ≤ 1048576) : TwinC Tryz.prog n (.list es ds) := by
  intro S w u hst hrel
  have hcl : ∀ q ∈ ds, q.cells.length = es := fun q hq => by obtain ⟨_, c, rfl, hc, _⟩ := hds q hq; exact hc
  refine calls_raw hf hb hn rfl hst (.cons hrel .nil) <| sqq <| rgq <| asq rfl rfl <| nxq <| sqq <| rgq <| mvq rfl rfl ?_
  refine sq (f_lenList rfl rfl hu (lt rfl)) rfl rfl <| sq (f_bin rfl rfl (iT (((IntWalk.i64_in _ (by omega)).trans (by omega) : _ = ((ds.length + 1 : Nat) : Int)))) (lt rfl)) rfl rfl ?_
  refine sq_makeR hp rfl rfl (Nat.le_trans (Nat.mul_le_mul hnb (Nat.succ_le_succ hlen)) (by decide)) (by omega) rfl (lt rfl) (fun w1 S1 b cs1 hb1 hg1 hnb1 hlt1 hw1 hsz1 hS1 => ?_)
  refine asq rfl rfl <| nxq <| sqq <| sqq <| rgq <| asq rfl rfl <| nxq <| hits_block ?_
  refine hits_loopS (fun i : Nat => [(.slot 0, some (.d (.list es ds))), (.slot 3, some (.d (.sc (.slice (some ⟨b, 0, none⟩) (i) (ds.length + 1))))), (.slot 4, some (.d (.sc (.int .i64 ((i : Nat) : Int)))))]) (fun i w1 S1 => i ≤ ds.length ∧ Fills w w1 S1 b es (ds.length + 1) te (ds.take i)) (fun i => ds.length - i) 0 ⟨Nat.zero_le _, ⟨hb1, hnb1, hS1, _, [], [], hw1, hsz1, by rw [List.take_zero]; exact .nil, by simp, by simp, by simp, by simp⟩⟩ (fun _ => rfl) (fun x w w' S S' hj hb' hg' => ⟨hj.1, hj.2.stay hb' hg'⟩) ⟨rfl, rfl, rfl, trivial⟩ ?_
  clear hw1 hsz1
  intro i w1 S1 hJ0
  obtain ⟨hi0, hfl⟩ := hJ0
  refine sqq <| sqq ?_
  by_cases hi : i < ds.length
  · obtain ⟨q, hq⟩ : ∃ q, ds[i]? = some q := ⟨_, List.getElem?_eq_getElem hi⟩
    have hmem := List.mem_of_getElem? hq
    obtain ⟨hT, c, rfl, hc, h1c⟩ := hds q hmem
    obtain ⟨cs, vs0, F0, hw0, hsz0, _⟩ := id hfl.has
    have hti : (ds.take i).length = i := by rw [List.length_take]; omega
    have hroom : 0 + (ds.length + 1) * es ≤ cs.size := by rw [hsz0]; omega
    have htk : ds.take i ++ [.agg c] = ds.take (i + 1) := by rw [List.take_add_one, hq]; rfl
    refine rgq <| mvq rfl rfl <| mvq rfl rfl <| sq (f_lenList rfl rfl hu (lt rfl)) rfl rfl <| sq (f_bin rfl rfl (bT (decide_eq_true (by omega))) (lt rfl)) rfl rfl <| nxq <| cnT rfl <| skq ?_
    refine toq <| sqq <| hits_block <| rgq <| mvq rfl rfl <| mvq rfl rfl <| mvq rfl rfl <| sq (f_idxList rfl rfl rfl hu hkd (Int.natCast_nonneg _) (by rw [Int.toNat_natCast]; exact hq) (lt rfl)) rfl rfl ?_
    refine sq (f_load hkd rfl (ld_all hc) (lt rfl)) rfl rfl ?_
    refine sq_callT hen rfl rfl hT (lt rfl) (fun wb Sb v F1 hbb hgb hlv hFb => ?_)
    obtain ⟨us, rfl, hlu⟩ : ∃ us, v = .agg ⟨us⟩ ∧ LinL wb c us F1 := by cases hlv with | agg h => exact ⟨_, rfl, h⟩
    have hul : us.length = es := by rw [← hlu.length]; exact hc
    have huo : ∀ c' ∈ (us.map D.sc), (V.d c').one = true := fun c' hc' => by obtain ⟨u, hu, rfl⟩ := List.mem_map.1 hc'; exact hlu.one h1c u hu
    refine sq (f_build1 hsk rfl rfl (by show (us.map D.sc).length = es; rw [List.length_map]; exact hul) hz (by omega) (by omega) (lt rfl)) rfl rfl ?_
    refine sq_appR rfl rfl hp huo (by omega) ((hbb.block b (lt_of_block hw0)).trans hw0) (hroom) (hgb.none (lt_of_block hw0) hfl.free) rfl (lt rfl) (fun w2 S2 us2 hk2 hg2 hb2 hr2 hl2 ho2 hS2 => ?_)
    obtain rfl : us2 = us := scs_inj hr2
    refine asq rfl rfl <| nlq <| inq <| toq <| rgq <| mvq rfl rfl <| sq (f_bin rfl rfl (iT (((IntWalk.i64_in _ (by omega)).trans (by omega) : _ = ((i + 1 : Nat) : Int)))) (lt rfl)) rfl rfl <| asq rfl rfl ?_
    refine nxq ?_
    refine roundS (i + 1) ⟨by omega, by rw [← htk]; exact hfl.more (fun x hx => hcl x (List.mem_of_mem_take hx)) (by omega) hw0 hbb hlu hFb hl2 ho2 hk2 (by rw [hti]; rw [Nat.zero_add] at hb2; exact hb2) hS2⟩ (fun x w w' S S' hj hb' hg' => ⟨hj.1, hj.2.stay hb' hg'⟩) (by show ds.length - (i + 1) < ds.length - i; omega) ⟨rfl, rfl, rfl, trivial⟩ rfl
  · obtain rfl : i = ds.length := by omega
    rw [List.take_length] at hfl
    obtain ⟨cs, vs0, F0, hw0, hsz0, _⟩ := id hfl.has
    have hroom : 0 + (ds.length + 1) * es ≤ cs.size := by rw [hsz0]; omega
    refine rgq <| mvq rfl rfl <| mvq rfl rfl <| sq (f_lenList rfl rfl hu (lt rfl)) rfl rfl <| sq (f_bin rfl rfl (bT (decide_eq_false (by omega))) (lt rfl)) rfl rfl <| nxq <| cnF rfl <| hits_exit ?_
    refine to_exit <| to_exit <| in_hit rfl <| toq <| sqq <| rgq <| mvq rfl rfl <| sq (hsp _ _ _ _ _ _ (lt rfl)) rfl rfl ?_
    refine sq (f_build1 hsk rfl rfl hspl hz (by omega) (by omega) (lt rfl)) rfl rfl ?_
    refine sq_appR rfl rfl hp hsp1 (by omega) hw0 (hroom) hfl.free rfl (lt rfl) (fun w2 S2 us2 hk2 hg2 hb2 hr2 hl2 ho2 hS2 => ?_)
    obtain ⟨hbe, F, hle, hFe⟩ := hfl.done hcl hw0 (by rw [hsz0, hl2, Nat.add_mul]; omega) (by omega) (by omega) hk2 (by rw [Nat.zero_add] at hb2; exact hb2)
    refine mvq rfl rfl <| sq (f_lenList rfl rfl hu (lt rfl)) rfl rfl <| sq (f_sliceR rfl rfl hu hkd (by omega) (lt rfl)) rfl rfl <| asq rfl rfl <| nxq <| rtq ?_
    exact hits_doneR (.inl rfl) (by rw [hr]; rfl) rfl (fun u' w' S' _ hr' hb' => ⟨u', F, rfl, below_comp hbe hb', by rw [rel_sc hr']; exact hle.stay hb', hFe⟩)
set_option maxHeartbeats 2000000 in
theorem twinB {t te : TypeId} {es nb : Nat} {zs : List Value} {parts : Array (Nat × Operand)} {s0 s1 s2 s3 s4 s5 s6 s7 s8 s9 s10 s11 s12 s13 s14 s15 s16 s17 s18 s19 s20 s21 s22 s23 s24 s25 s26 s27 s28 s29 : String} {n : FuncId} {fn : Func} {sp : List D} (hf : Tryz.prog.funcs[n]? = some fn) (hb : fn.body = some (Code.seq (Code.region 0 #[{ dst := (some 2), op := (Op.assign (Operand.const (Value.slice none 0 0))), type := t, pos := s0, after := #[], guard := none }] false) (Code.seq (Code.region 1 #[{ dst := (some 5), op := (Op.move (Operand.tmp 0)), type := t, pos := s1, after := #[], guard := none }, { dst := (some 6), op := (Op.call { callee := (Callee.builtin Builtin.len), args := #[(Operand.tmp 5)], argTypes := #[t] }), type := 3, pos := s2, after := #[{ on := 0, ground := Ground.data }], guard := none }, { dst := (some 7), op := (Op.binOp BinOp.add 3 (Operand.tmp 6) (Operand.const (Value.int IntKind.i64 1)) 3), type := 3, pos := s3, after := #[{ on := 1, ground := Ground.data }], guard := none }, { dst := (some 8), op := (Op.makeSlice t (Operand.const (Value.int IntKind.i64 0)) (Operand.tmp 7)), type := t, pos := s4, after := #[{ on := 2, ground := Ground.data }], guard := none }, { dst := (some 3), op := (Op.assign (Operand.tmp 8)), type := t, pos := s5, after := #[{ on := 3, ground := Ground.data }, { on := 0, ground := Ground.phase }, { on := 1, ground := Ground.phase }, { on := 2, ground := Ground.phase }, { on := 3, ground := Ground.phase }], guard := none }] false) (Code.seq (Code.seq (Code.region 2 #[{ dst := (some 4), op := (Op.assign (Operand.const (Value.int IntKind.i64 0))), type := 3, pos := s6, after := #[], guard := none }] false) (Code.block 0 (Code.loop (Code.seq (Code.seq (Code.region 3 #[{ dst := (some 9), op := (Op.move (Operand.tmp 4)), type := 3, pos := s7, after := #[], guard := none }, { dst := (some 10), op := (Op.move (Operand.tmp 0)), type := t, pos := s8, after := #[], guard := none }, { dst := (some 11), op := (Op.call { callee := (Callee.builtin Builtin.len), args := #[(Operand.tmp 10)], argTypes := #[t] }), type := 3, pos := s9, after := #[{ on := 1, ground := Ground.data }], guard := none }, { dst := (some 12), op := (Op.binOp BinOp.lss 3 (Operand.tmp 9) (Operand.tmp 11) 3), type := 4, pos := s10, after := #[{ on := 0, ground := Ground.data }, { on := 2, ground := Ground.data }], guard := none }] false) (Code.cond (Operand.tmp 12) Code.skip (Code.exit 0))) (Code.seq (Code.block 1 (Code.region 5 #[{ dst := (some 15), op := (Op.move (Operand.tmp 3)), type := t, pos := s11, after := #[], guard := none }, { dst := (some 16), op := (Op.move (Operand.tmp 0)), type := t, pos := s12, after := #[], guard := none }, { dst := (some 17), op := (Op.move (Operand.tmp 4)), type := 3, pos := s13, after := #[], guard := none }, { dst := (some 18), op := (Op.indexAddr t (Operand.tmp 16) (Operand.tmp 17)), type := 0, pos := s14, after := #[{ on := 1, ground := Ground.data }, { on := 2, ground := Ground.data }], guard := none }, { dst := (some 19), op := (Op.load te (Operand.tmp 18)), type := te, pos := s15, after := #[{ on := 3, ground := Ground.data }], guard := none }, { dst := (some 20), op := (Op.buildSlice t 1 #[(0, (Operand.tmp 19))]), type := t, pos := s16, after := #[{ on := 4, ground := Ground.data }], guard := none }, { dst := (some 21), op := (Op.call { callee := (Callee.builtin Builtin.append), args := #[(Operand.tmp 15), (Operand.tmp 20)], argTypes := #[t, t] }), type := t, pos := s17, after := #[{ on := 0, ground := Ground.data }, { on := 5, ground := Ground.data }], guard := none }, { dst := (some 3), op := (Op.assign (Operand.tmp 21)), type := t, pos := s18, after := #[{ on := 6, ground := Ground.data }, { on := 6, ground := Ground.chain }, { on := 0, ground := Ground.phase }, { on := 1, ground := Ground.phase }, { on := 2, ground := Ground.phase }, { on := 3, ground := Ground.phase }, { on := 4, ground := Ground.phase }, { on := 5, ground := Ground.phase }, { on := 6, ground := Ground.phase }], guard := none }] false)) (Code.region 4 #[{ dst := (some 13), op := (Op.move (Operand.tmp 4)), type := 3, pos := s19, after := #[], guard := none }, { dst := (some 14), op := (Op.binOp BinOp.add 3 (Operand.tmp 13) (Operand.const (Value.int IntKind.i64 1)) 3), type := 3, pos := s20, after := #[{ on := 0, ground := Ground.data }], guard := none }, { dst := (some 4), op := (Op.assign (Operand.tmp 14)), type := 3, pos := s21, after := #[{ on := 1, ground := Ground.data }, { on := 0, ground := Ground.phase }, { on := 1, ground := Ground.phase }], guard := none }] false)))))) (Code.seq (Code.region 6 #[{ dst := (some 22), op := (Op.move (Operand.tmp 3)), type := t, pos := s22, after := #[], guard := none }, { dst := (some 23), op := (Op.build te parts), type := te, pos := s23, after := #[], guard := none }, { dst := (some 24), op := (Op.buildSlice t 1 #[(0, (Operand.tmp 23))]), type := t, pos := s24, after := #[{ on := 1, ground := Ground.data }], guard := none }, { dst := (some 25), op := (Op.call { callee := (Callee.builtin Builtin.append), args := #[(Operand.tmp 22), (Operand.tmp 24)], argTypes := #[t, t] }), type := t, pos := s25, after := #[{ on := 0, ground := Ground.data }, { on := 2, ground := Ground.data }], guard := none }, { dst := (some 26), op := (Op.move (Operand.tmp 0)), type := t, pos := s26, after := #[], guard := none }, { dst := (some 27), op := (Op.call { callee := (Callee.builtin Builtin.len), args := #[(Operand.tmp 26)], argTypes := #[t] }), type := 3, pos := s27, after := #[{ on := 4, ground := Ground.data }], guard := none }, { dst := (some 28), op := (Op.slice t (Operand.tmp 25) none (some (Operand.tmp 27)) none), type := t, pos := s28, after := #[{ on := 3, ground := Ground.data }, { on := 5, ground := Ground.data }], guard := none }, { dst := (some 2), op := (Op.assign (Operand.tmp 28)), type := t, pos := s29, after := #[{ on := 6, ground := Ground.data }, { on := 3, ground := Ground.chain }, { on := 0, ground := Ground.phase }, { on := 1, ground := Ground.phase }, { on := 2, ground := Ground.phase }, { on := 3, ground := Ground.phase }, { on := 4, ground := Ground.phase }, { on := 5, ground := Ground.phase }, { on := 6, ground := Ground.phase }], guard := none }] false) Code.ret))))) (hn : fn.ntmps = 29) (hr : fn.results = #[.tmp 2]) (hu : Tryz.prog.underlying t = some (.slice te)) (hkd : kd Tryz.prog te = some (true, es)) (hp : apk Tryz.prog t t = some (te, es, nb)) (hsk : sk Tryz.prog t = some (te, es, zs)) (hz : zs.length = es) (hes : 0 < es ∧ es ≤ 100) (hnb : nb ≤ 1000) (hsp : ∀ (E : Env) (st : St) (d : Nat) (ty : TypeId) (pos : String) (af : Array Edge), d < E.N → FOk Tryz.prog E ⟨some d, .build te parts, ty, pos, af, none⟩ st [] [] [(.slot d, some (.d (.agg sp)))]) (hspl : sp.length = es) (hsp1 : ∀ c ∈ sp, (V.d c).one = true) (ds : List D) (hds : ∀ q ∈ ds, (∃ vs : List Value, q = .agg (vs.map .sc)) ∧ q.cells.length = es ∧ ∀ x ∈ q.cells, (V.d x).one = true) (hlen : ds.length ≤ 1048576) : TwinC Tryz.prog n (.list es ds) := by
  intro S w u hst hrel
  have hcl : ∀ q ∈ ds, q.cells.length = es := fun q hq => by exact (hds q hq).2.1
  refine calls_raw hf hb hn rfl hst (.cons hrel .nil) <| sqq <| rgq <| asq rfl rfl <| nxq <| sqq <| rgq <| mvq rfl rfl ?_
  refine sq (f_lenList rfl rfl hu (lt rfl)) rfl rfl <| sq (f_bin rfl rfl (iT (((IntWalk.i64_in _ (by omega)).trans (by omega) : _ = ((ds.length + 1 : Nat) : Int)))) (lt rfl)) rfl rfl ?_
  refine sq_makeR hp rfl rfl (Nat.le_trans (Nat.mul_le_mul hnb (Nat.succ_le_succ hlen)) (by decide)) (by omega) rfl (lt rfl) (fun w1 S1 b cs1 hb1 hg1 hnb1 hlt1 hw1 hsz1 hS1 => ?_)
  refine asq rfl rfl <| nxq <| sqq <| sqq <| rgq <| asq rfl rfl <| nxq <| hits_block ?_
  refine hits_loopS (fun i : Nat => [(.slot 0, some (.d (.list es ds))), (.slot 3, some (.d (.sc (.slice (some ⟨b, 0, none⟩) (i) (ds.length + 1))))), (.slot 4, some (.d (.sc (.int .i64 ((i : Nat) : Int)))))]) (fun i w1 S1 => i ≤ ds.length ∧ Fills w w1 S1 b es (ds.length + 1) te (ds.take i)) (fun i => ds.length - i) 0 ⟨Nat.zero_le _, ⟨hb1, hnb1, hS1, _, [], [], hw1, hsz1, by rw [List.take_zero]; exact .nil, by simp, by simp, by simp, by simp⟩⟩ (fun _ => rfl) (fun x w w' S S' hj hb' hg' => ⟨hj.1, hj.2.stay hb' hg'⟩) ⟨rfl, rfl, rfl, trivial⟩ ?_
  clear hw1 hsz1
  intro i w1 S1 hJ0
  obtain ⟨hi0, hfl⟩ := hJ0
  refine sqq <| sqq ?_
  by_cases hi : i < ds.length
  · obtain ⟨q, hq⟩ : ∃ q, ds[i]? = some q := ⟨_, List.getElem?_eq_getElem hi⟩
    have hmem := List.mem_of_getElem? hq
    obtain ⟨⟨vs, rfl⟩, hc, h1c⟩ := hds q hmem
    obtain ⟨cs, vs0, F0, hw0, hsz0, _⟩ := id hfl.has
    have hti : (ds.take i).length = i := by rw [List.length_take]; omega
    have hroom : 0 + (ds.length + 1) * es ≤ cs.size := by rw [hsz0]; omega
    have htk : ds.take i ++ [.agg (vs.map .sc)] = ds.take (i + 1) := by rw [List.take_add_one, hq]; rfl
    refine rgq <| mvq rfl rfl <| mvq rfl rfl <| sq (f_lenList rfl rfl hu (lt rfl)) rfl rfl <| sq (f_bin rfl rfl (bT (decide_eq_true (by omega))) (lt rfl)) rfl rfl <| nxq <| cnT rfl <| skq ?_
    refine toq <| sqq <| hits_block <| rgq <| mvq rfl rfl <| mvq rfl rfl <| mvq rfl rfl <| sq (f_idxList rfl rfl rfl hu hkd (Int.natCast_nonneg _) (by rw [Int.toNat_natCast]; exact hq) (lt rfl)) rfl rfl ?_
    refine sq (f_load hkd rfl (ld_all hc) (lt rfl)) rfl rfl <| sq (f_build1 hsk rfl rfl hc hz (by omega) (by omega) (lt rfl)) rfl rfl ?_
    refine sq_appR rfl rfl hp h1c (by omega) hw0 (hroom) hfl.free rfl (lt rfl) (fun w2 S2 us2 hk2 hg2 hb2 hr2 hl2 ho2 hS2 => ?_)
    obtain rfl : us2 = vs := scs_inj hr2
    refine asq rfl rfl <| nlq <| inq <| toq <| rgq <| mvq rfl rfl <| sq (f_bin rfl rfl (iT (((IntWalk.i64_in _ (by omega)).trans (by omega) : _ = ((i + 1 : Nat) : Int)))) (lt rfl)) rfl rfl <| asq rfl rfl ?_
    refine nxq ?_
    refine roundS (i + 1) ⟨by omega, by rw [← htk]; exact hfl.more (fun x hx => hcl x (List.mem_of_mem_take hx)) (by omega) hw0 (Below.refl _ _) (LinL.scs _) (by simp) hl2 ho2 hk2 (by rw [hti]; rw [Nat.zero_add] at hb2; exact hb2) hS2⟩ (fun x w w' S S' hj hb' hg' => ⟨hj.1, hj.2.stay hb' hg'⟩) (by show ds.length - (i + 1) < ds.length - i; omega) ⟨rfl, rfl, rfl, trivial⟩ rfl
  · obtain rfl : i = ds.length := by omega
    rw [List.take_length] at hfl
    obtain ⟨cs, vs0, F0, hw0, hsz0, _⟩ := id hfl.has
    have hroom : 0 + (ds.length + 1) * es ≤ cs.size := by rw [hsz0]; omega
    refine rgq <| mvq rfl rfl <| mvq rfl rfl <| sq (f_lenList rfl rfl hu (lt rfl)) rfl rfl <| sq (f_bin rfl rfl (bT (decide_eq_false (by omega))) (lt rfl)) rfl rfl <| nxq <| cnF rfl <| hits_exit ?_
    refine to_exit <| to_exit <| in_hit rfl <| toq <| sqq <| rgq <| mvq rfl rfl <| sq (hsp _ _ _ _ _ _ (lt rfl)) rfl rfl ?_
    refine sq (f_build1 hsk rfl rfl hspl hz (by omega) (by omega) (lt rfl)) rfl rfl ?_
    refine sq_appR rfl rfl hp hsp1 (by omega) hw0 (hroom) hfl.free rfl (lt rfl) (fun w2 S2 us2 hk2 hg2 hb2 hr2 hl2 ho2 hS2 => ?_)
    obtain ⟨hbe, F, hle, hFe⟩ := hfl.done hcl hw0 (by rw [hsz0, hl2, Nat.add_mul]; omega) (by omega) (by omega) hk2 (by rw [Nat.zero_add] at hb2; exact hb2)
    refine mvq rfl rfl <| sq (f_lenList rfl rfl hu (lt rfl)) rfl rfl <| sq (f_sliceR rfl rfl hu hkd (by omega) (lt rfl)) rfl rfl <| asq rfl rfl <| nxq <| rtq ?_
    exact hits_doneR (.inl rfl) (by rw [hr]; rfl) rfl (fun u' w' S' _ hr' hb' => ⟨u', F, rfl, below_comp hbe hb', by rw [rel_sc hr']; exact hle.stay hb', hFe⟩)
set_option maxHeartbeats 2000000 in
theorem twinT {t te : TypeId} {es nb : Nat} {zs : List Value} {cv : Value} {s0 s1 s2 s3 s4 s5 s6 s7 s8 s9 s10 s11 s12 s13 s14 s15 s16 s17 s18 s19 s20 s21 s22 s23 s24 s25 s26 s27 s28 : String} {n : FuncId} {fn : Func} (hf : Tryz.prog.funcs[n]? = some fn) (hb : fn.body = some (Code.seq (Code.region 0 #[{ dst := (some 2), op := (Op.assign (Operand.const (Value.slice none 0 0))), type := t, pos := s0, after := #[], guard := none }] false) (Code.seq (Code.region 1 #[{ dst := (some 5), op := (Op.move (Operand.tmp 0)), type := t, pos := s1, after := #[], guard := none }, { dst := (some 6), op := (Op.call { callee := (Callee.builtin Builtin.len), args := #[(Operand.tmp 5)], argTypes := #[t] }), type := 3, pos := s2, after := #[{ on := 0, ground := Ground.data }], guard := none }, { dst := (some 7), op := (Op.binOp BinOp.add 3 (Operand.tmp 6) (Operand.const (Value.int IntKind.i64 1)) 3), type := 3, pos := s3, after := #[{ on := 1, ground := Ground.data }], guard := none }, { dst := (some 8), op := (Op.makeSlice t (Operand.const (Value.int IntKind.i64 0)) (Operand.tmp 7)), type := t, pos := s4, after := #[{ on := 2, ground := Ground.data }], guard := none }, { dst := (some 3), op := (Op.assign (Operand.tmp 8)), type := t, pos := s5, after := #[{ on := 3, ground := Ground.data }, { on := 0, ground := Ground.phase }, { on := 1, ground := Ground.phase }, { on := 2, ground := Ground.phase }, { on := 3, ground := Ground.phase }], guard := none }] false) (Code.seq (Code.seq (Code.region 2 #[{ dst := (some 4), op := (Op.assign (Operand.const (Value.int IntKind.i64 0))), type := 3, pos := s6, after := #[], guard := none }] false) (Code.block 0 (Code.loop (Code.seq (Code.seq (Code.region 3 #[{ dst := (some 9), op := (Op.move (Operand.tmp 4)), type := 3, pos := s7, after := #[], guard := none }, { dst := (some 10), op := (Op.move (Operand.tmp 0)), type := t, pos := s8, after := #[], guard := none }, { dst := (some 11), op := (Op.call { callee := (Callee.builtin Builtin.len), args := #[(Operand.tmp 10)], argTypes := #[t] }), type := 3, pos := s9, after := #[{ on := 1, ground := Ground.data }], guard := none }, { dst := (some 12), op := (Op.binOp BinOp.lss 3 (Operand.tmp 9) (Operand.tmp 11) 3), type := 4, pos := s10, after := #[{ on := 0, ground := Ground.data }, { on := 2, ground := Ground.data }], guard := none }] false) (Code.cond (Operand.tmp 12) Code.skip (Code.exit 0))) (Code.seq (Code.block 1 (Code.region 5 #[{ dst := (some 15), op := (Op.move (Operand.tmp 3)), type := t, pos := s11, after := #[], guard := none }, { dst := (some 16), op := (Op.move (Operand.tmp 0)), type := t, pos := s12, after := #[], guard := none }, { dst := (some 17), op := (Op.move (Operand.tmp 4)), type := 3, pos := s13, after := #[], guard := none }, { dst := (some 18), op := (Op.indexAddr t (Operand.tmp 16) (Operand.tmp 17)), type := 0, pos := s14, after := #[{ on := 1, ground := Ground.data }, { on := 2, ground := Ground.data }], guard := none }, { dst := (some 19), op := (Op.load te (Operand.tmp 18)), type := te, pos := s15, after := #[{ on := 3, ground := Ground.data }], guard := none }, { dst := (some 20), op := (Op.buildSlice t 1 #[(0, (Operand.tmp 19))]), type := t, pos := s16, after := #[{ on := 4, ground := Ground.data }], guard := none }, { dst := (some 21), op := (Op.call { callee := (Callee.builtin Builtin.append), args := #[(Operand.tmp 15), (Operand.tmp 20)], argTypes := #[t, t] }), type := t, pos := s17, after := #[{ on := 0, ground := Ground.data }, { on := 5, ground := Ground.data }], guard := none }, { dst := (some 3), op := (Op.assign (Operand.tmp 21)), type := t, pos := s18, after := #[{ on := 6, ground := Ground.data }, { on := 6, ground := Ground.chain }, { on := 0, ground := Ground.phase }, { on := 1, ground := Ground.phase }, { on := 2, ground := Ground.phase }, { on := 3, ground := Ground.phase }, { on := 4, ground := Ground.phase }, { on := 5, ground := Ground.phase }, { on := 6, ground := Ground.phase }], guard := none }] false)) (Code.region 4 #[{ dst := (some 13), op := (Op.move (Operand.tmp 4)), type := 3, pos := s19, after := #[], guard := none }, { dst := (some 14), op := (Op.binOp BinOp.add 3 (Operand.tmp 13) (Operand.const (Value.int IntKind.i64 1)) 3), type := 3, pos := s20, after := #[{ on := 0, ground := Ground.data }], guard := none }, { dst := (some 4), op := (Op.assign (Operand.tmp 14)), type := 3, pos := s21, after := #[{ on := 1, ground := Ground.data }, { on := 0, ground := Ground.phase }, { on := 1, ground := Ground.phase }], guard := none }] false)))))) (Code.seq (Code.region 6 #[{ dst := (some 22), op := (Op.move (Operand.tmp 3)), type := t, pos := s22, after := #[], guard := none }, { dst := (some 23), op := (Op.buildSlice t 1 #[(0, (Operand.const cv))]), type := t, pos := s23, after := #[], guard := none }, { dst := (some 24), op := (Op.call { callee := (Callee.builtin Builtin.append), args := #[(Operand.tmp 22), (Operand.tmp 23)], argTypes := #[t, t] }), type := t, pos := s24, after := #[{ on := 0, ground := Ground.data }, { on := 1, ground := Ground.data }], guard := none }, { dst := (some 25), op := (Op.move (Operand.tmp 0)), type := t, pos := s25, after := #[], guard := none }, { dst := (some 26), op := (Op.call { callee := (Callee.builtin Builtin.len), args := #[(Operand.tmp 25)], argTypes := #[t] }), type := 3, pos := s26, after := #[{ on := 3, ground := Ground.data }], guard := none }, { dst := (some 27), op := (Op.slice t (Operand.tmp 24) none (some (Operand.tmp 26)) none), type := t, pos := s27, after := #[{ on := 2, ground := Ground.data }, { on := 4, ground := Ground.data }], guard := none }, { dst := (some 2), op := (Op.assign (Operand.tmp 27)), type := t, pos := s28, after := #[{ on := 5, ground := Ground.data }, { on := 2, ground := Ground.chain }, { on := 0, ground := Ground.phase }, { on := 1, ground := Ground.phase }, { on := 2, ground := Ground.phase }, { on := 3, ground := Ground.phase }, { on := 4, ground := Ground.phase }, { on := 5, ground := Ground.phase }], guard := none }] false) Code.ret))))) (hn : fn.ntmps = 28) (hr : fn.results = #[.tmp 2]) (hu : Tryz.prog.underlying t = some (.slice te)) (hkd : kd Tryz.prog te = some (false, es)) (hp : apk Tryz.prog t t = some (te, es, nb)) (hsk : sk Tryz.prog t = some (te, es, zs)) (hz : zs.length = es) (hes : 0 < es ∧ es ≤ 100) (hnb : nb ≤ 1000) (hspl : (D.ofVal cv).cells.length = es) (hspp : (D.ofVal cv).plain = true) (hsp1 : ∀ c ∈ (D.ofVal cv).cells, (V.d c).one = true) (ds : List D) (hds : ∀ q ∈ ds, (∃ vs : ByteArray, q = .sc (.string vs)) ∧ q.cells.length = es ∧ ∀ x ∈ q.cells, (V.d x).one = true) (hlen : ds.length ≤ 1048576) : TwinC Tryz.prog n (.list es ds) := by
  intro S w u hst hrel
  have hcl : ∀ q ∈ ds, q.cells.length = es := fun q hq => by exact (hds q hq).2.1
  refine calls_raw hf hb hn rfl hst (.cons hrel .nil) <| sqq <| rgq <| asq rfl rfl <| nxq <| sqq <| rgq <| mvq rfl rfl ?_
  refine sq (f_lenList rfl rfl hu (lt rfl)) rfl rfl <| sq (f_bin rfl rfl (iT (((IntWalk.i64_in _ (by omega)).trans (by omega) : _ = ((ds.length + 1 : Nat) : Int)))) (lt rfl)) rfl rfl ?_
  refine sq_makeR hp rfl rfl (Nat.le_trans (Nat.mul_le_mul hnb (Nat.succ_le_succ hlen)) (by decide)) (by omega) rfl (lt rfl) (fun w1 S1 b cs1 hb1 hg1 hnb1 hlt1 hw1 hsz1 hS1 => ?_)
  refine asq rfl rfl <| nxq <| sqq <| sqq <| rgq <| asq rfl rfl <| nxq <| hits_block ?_
  refine hits_loopS (fun i : Nat => [(.slot 0, some (.d (.list es ds))), (.slot 3, some (.d (.sc (.slice (some ⟨b, 0, none⟩) (i) (ds.length + 1))))), (.slot 4, some (.d (.sc (.int .i64 ((i : Nat) : Int)))))]) (fun i w1 S1 => i ≤ ds.length ∧ Fills w w1 S1 b es (ds.length + 1) te (ds.take i)) (fun i => ds.length - i) 0 ⟨Nat.zero_le _, ⟨hb1, hnb1, hS1, _, [], [], hw1, hsz1, by rw [List.take_zero]; exact .nil, by simp, by simp, by simp, by simp⟩⟩ (fun _ => rfl) (fun x w w' S S' hj hb' hg' => ⟨hj.1, hj.2.stay hb' hg'⟩) ⟨rfl, rfl, rfl, trivial⟩ ?_
  clear hw1 hsz1
  intro i w1 S1 hJ0
  obtain ⟨hi0, hfl⟩ := hJ0
  refine sqq <| sqq ?_
  by_cases hi : i < ds.length
  · obtain ⟨q, hq⟩ : ∃ q, ds[i]? = some q := ⟨_, List.getElem?_eq_getElem hi⟩
    have hmem := List.mem_of_getElem? hq
    obtain ⟨⟨vs, rfl⟩, hc, h1c⟩ := hds q hmem
    obtain ⟨cs, vs0, F0, hw0, hsz0, _⟩ := id hfl.has
    have hti : (ds.take i).length = i := by rw [List.length_take]; omega
    have hroom : 0 + (ds.length + 1) * es ≤ cs.size := by rw [hsz0]; omega
    have htk : ds.take i ++ [.sc (.string vs)] = ds.take (i + 1) := by rw [List.take_add_one, hq]; rfl
    refine rgq <| mvq rfl rfl <| mvq rfl rfl <| sq (f_lenList rfl rfl hu (lt rfl)) rfl rfl <| sq (f_bin rfl rfl (bT (decide_eq_true (by omega))) (lt rfl)) rfl rfl <| nxq <| cnT rfl <| skq ?_
    refine toq <| sqq <| hits_block <| rgq <| mvq rfl rfl <| mvq rfl rfl <| mvq rfl rfl <| sq (f_idxList rfl rfl rfl hu hkd (Int.natCast_nonneg _) (by rw [Int.toNat_natCast]; exact hq) (lt rfl)) rfl rfl ?_
    refine sq (f_load hkd rfl rfl (lt rfl)) rfl rfl <| sq (f_build1 hsk rfl rfl hc hz (by omega) (by omega) (lt rfl)) rfl rfl ?_
    refine sq_appR rfl rfl hp h1c (by omega) hw0 (hroom) hfl.free rfl (lt rfl) (fun w2 S2 us2 hk2 hg2 hb2 hr2 hl2 ho2 hS2 => ?_)
    obtain rfl : us2 = [.string vs] := scs_inj (us := [.string vs]) hr2
    refine asq rfl rfl <| nlq <| inq <| toq <| rgq <| mvq rfl rfl <| sq (f_bin rfl rfl (iT (((IntWalk.i64_in _ (by omega)).trans (by omega) : _ = ((i + 1 : Nat) : Int)))) (lt rfl)) rfl rfl <| asq rfl rfl ?_
    refine nxq ?_
    refine roundS (i + 1) ⟨by omega, by rw [← htk]; exact hfl.more (fun x hx => hcl x (List.mem_of_mem_take hx)) (by omega) hw0 (Below.refl _ _) (LinL.scs [_]) (by simp) hl2 ho2 hk2 (by rw [hti]; rw [Nat.zero_add] at hb2; exact hb2) hS2⟩ (fun x w w' S S' hj hb' hg' => ⟨hj.1, hj.2.stay hb' hg'⟩) (by show ds.length - (i + 1) < ds.length - i; omega) ⟨rfl, rfl, rfl, trivial⟩ rfl
  · obtain rfl : i = ds.length := by omega
    rw [List.take_length] at hfl
    obtain ⟨cs, vs0, F0, hw0, hsz0, _⟩ := id hfl.has
    have hroom : 0 + (ds.length + 1) * es ≤ cs.size := by rw [hsz0]; omega
    refine rgq <| mvq rfl rfl <| mvq rfl rfl <| sq (f_lenList rfl rfl hu (lt rfl)) rfl rfl <| sq (f_bin rfl rfl (bT (decide_eq_false (by omega))) (lt rfl)) rfl rfl <| nxq <| cnF rfl <| hits_exit ?_
    refine to_exit <| to_exit <| in_hit rfl <| toq <| sqq <| rgq <| mvq rfl rfl <| sq (f_build1 hsk rfl hspp hspl hz (by omega) (by omega) (lt rfl)) rfl rfl ?_
    refine sq_appR rfl rfl hp hsp1 (by omega) hw0 (hroom) hfl.free rfl (lt rfl) (fun w2 S2 us2 hk2 hg2 hb2 hr2 hl2 ho2 hS2 => ?_)
    obtain ⟨hbe, F, hle, hFe⟩ := hfl.done hcl hw0 (by rw [hsz0, hl2, Nat.add_mul]; omega) (by omega) (by omega) hk2 (by rw [Nat.zero_add] at hb2; exact hb2)
    refine mvq rfl rfl <| sq (f_lenList rfl rfl hu (lt rfl)) rfl rfl <| sq (f_sliceR rfl rfl hu hkd (by omega) (lt rfl)) rfl rfl <| asq rfl rfl <| nxq <| rtq ?_
    exact hits_doneR (.inl rfl) (by rw [hr]; rfl) rfl (fun u' w' S' _ hr' hb' => ⟨u', F, rfl, below_comp hbe hb', by rw [rel_sc hr']; exact hle.stay hb', hFe⟩)
theorem twinExpr (x : Ex) (hT : TwinC Tryz.prog 231 (.list 10 (exDs (argsE x)))) : TwinC Tryz.prog 233 (exD x) := by
  obtain ⟨op, lw, lh, ll, nm, fl, n0, m0, args, line⟩ := x
  rw [exD_cs]
  exact twinF (ds := exCs (.mk op lw lh ll nm fl n0 m0 args line)) [.addr 3 0, .load 4 3 0 1 false, .addr 5 1, .load 6 5 1 3 true, .addr 7 4, .load 8 7 4 1 false, .addr 9 5, .load 10 9 5 1 false, .addr 11 6, .load 12 11 6 1 false, .addr 13 7, .load 14 13 7 1 false, .addr 15 8, .load 16 15 8 1 false, .call 17 16 8 1 false, .addr 18 9, .load 19 18 9 1 false, .bld 20, .sto 20] [⟨4, 0, 1, false⟩, ⟨6, 1, 3, true⟩, ⟨8, 4, 1, false⟩, ⟨10, 5, 1, false⟩, ⟨12, 6, 1, false⟩, ⟨14, 7, 1, false⟩, ⟨17, 8, 1, false⟩, ⟨19, 9, 1, false⟩] Tryz.func233 rfl Tryz.ntmps233 rfl rfl mixed kd67 zc67 rfl rfl (by kernel_rfl) (by decide) rfl rfl ⟨⟨_, _, _, _, _, rfl, kf67_0⟩, ⟨_, _, _, _, rfl, kd64, by decide, (by decide : 1 ≤ 10), 0, dep_of rfl, rfl⟩, ⟨_, _, _, _, _, rfl, kf67_1⟩, ⟨_, _, _, _, rfl, kd35, by decide, (by decide : 4 ≤ 10), 2, dep_of rfl, rfl⟩, ⟨_, _, _, _, _, rfl, kf67_2⟩, ⟨_, _, _, _, rfl, kd9, by decide, (by decide : 5 ≤ 10), 4, dep_of rfl, rfl⟩, ⟨_, _, _, _, _, rfl, kf67_3⟩, ⟨_, _, _, _, rfl, kd9, by decide, (by decide : 6 ≤ 10), 6, dep_of rfl, rfl⟩, ⟨_, _, _, _, _, rfl, kf67_4⟩, ⟨_, _, _, _, rfl, kd3, by decide, (by decide : 7 ≤ 10), 8, dep_of rfl, rfl⟩, ⟨_, _, _, _, _, rfl, kf67_5⟩, ⟨_, _, _, _, rfl, kd3, by decide, (by decide : 8 ≤ 10), 10, dep_of rfl, rfl⟩, ⟨_, _, _, _, _, rfl, kf67_6⟩, ⟨_, _, _, _, rfl, kd65, by decide, (by decide : 9 ≤ 10), 12, dep_of rfl, rfl⟩, ⟨_, _, _, _, _, 15, rfl, en231, hT, by decide, 13, dep_of rfl, rfl⟩, ⟨_, _, _, _, _, rfl, kf67_7⟩, ⟨_, _, _, _, rfl, kd3, by decide, (by decide : 10 ≤ 10), 15, dep_of rfl, rfl⟩, ⟨_, _, _, _, _, _, rfl, bu67, rfl, ⟨rfl, rfl, rfl, rfl, rfl, rfl, rfl, rfl, rfl⟩, by decide, ⟨rfl, rfl, rfl, rfl, rfl, rfl, rfl, rfl, trivial⟩, allF_mem ⟨⟨1, 3, dep_of rfl, by decide, .inl ⟨rfl, scs_of rfl⟩⟩, ⟨3, 5, dep_of rfl, by decide, .inl ⟨rfl, scs_of rfl⟩⟩, ⟨5, 7, dep_of rfl, by decide, .inl ⟨rfl, scs_of rfl⟩⟩, ⟨7, 9, dep_of rfl, by decide, .inl ⟨rfl, scs_of rfl⟩⟩, ⟨9, 11, dep_of rfl, by decide, .inl ⟨rfl, scs_of rfl⟩⟩, ⟨11, 13, dep_of rfl, by decide, .inl ⟨rfl, scs_of rfl⟩⟩, ⟨14, 16, dep_of rfl, by decide, .inr rfl⟩, ⟨16, 18, dep_of rfl, by decide, .inl ⟨rfl, scs_of rfl⟩⟩, trivial⟩⟩, ⟨_, _, _, _, _, rfl, kd67, last_of rfl, 17, dep_of rfl, rfl⟩, trivial⟩ ⟨18, 20, rfl⟩
theorem ones_of {l : List D} (h : (l.all fun x => (V.d x).one) = true) : ∀ c ∈ l, (V.d c).one = true := List.all_eq_true.1 h
theorem twinExprs (l : List Ex) (h : ∀ x ∈ l, TwinC Tryz.prog 233 (exD x)) (hl : l.length ≤ 1048576) : TwinC Tryz.prog 231 (.list 10 (l.map exD)) :=
  twinA Tryz.func231 rfl Tryz.ntmps231 rfl en233 un65 kd67 apk65 sk65 rfl ⟨by decide, by decide⟩ (by decide) (fun _ _ _ _ _ _ hd => f_build bu67 rfl rfl hd) rfl (ones_of rfl) _ (fun q hq => by obtain ⟨x, hx, rfl⟩ := List.mem_map.1 hq; exact ⟨h x hx, _, exD_cs x, by cases x; rfl, by cases x; exact ones_of rfl⟩) (by rw [List.length_map]; exact hl)
mutual
def fitE : Ex → Prop
  | .mk _ _ _ _ _ _ _ _ args _ => args.length ≤ 1048576 ∧ fitEs args
def fitEs : List Ex → Prop
  | [] => True
  | x :: l => fitE x ∧ fitEs l
end
mutual
def fitS : Sm → Prop
  | .mk _ _ _ _ _ args body els _ => (args.length ≤ 1048576 ∧ fitEs args) ∧ (body.length ≤ 1048576 ∧ fitSs body) ∧ els.length ≤ 1048576 ∧ fitSs els
def fitSs : List Sm → Prop
  | [] => True
  | x :: l => fitS x ∧ fitSs l
end
mutual
theorem twE : ∀ x : Ex, fitE x → TwinC Tryz.prog 233 (exD x)
  | .mk op lw lh ll nm fl n m args line, h => by
    rw [fitE] at h
    exact twinExpr _ (by show TwinC _ _ (.list 10 (exDs args)); rw [exDs_map]; exact twinExprs args (twEs args h.2) h.1)
theorem twEs : ∀ l : List Ex, fitEs l → ∀ x ∈ l, TwinC Tryz.prog 233 (exD x)
  | [], _, x, h => by cases h
  | y :: l, hf, x, h => by
    rw [fitEs] at hf
    by_cases hx : x = y
    · rw [hx]; exact twE y hf.1
    · exact twEs l hf.2 x (by rcases List.mem_cons.mp h with h | h; exact absurd h hx; exact h)
end
theorem twEL (l : List Ex) (h : fitEs l) (hl : l.length ≤ 1048576) : TwinC Tryz.prog 231 (.list 10 (exDs l)) := by rw [exDs_map]; exact twinExprs l (twEs l h) hl
theorem twinStmt (x : Sm) (hA : TwinC Tryz.prog 231 (.list 10 (exDs (argsS x)))) (hB : TwinC Tryz.prog 169 (.list 9 (smDs (bodyS x)))) (hC : TwinC Tryz.prog 169 (.list 9 (smDs (elsS x)))) : TwinC Tryz.prog 213 (smD x) := by
  obtain ⟨kd, nm, fl, arr, n0, args, body, els, line⟩ := x
  rw [smD_cs]
  exact twinF (ds := smCs (.mk kd nm fl arr n0 args body els line)) [.addr 3 0, .load 4 3 0 1 false, .addr 5 1, .load 6 5 1 1 false, .addr 7 2, .load 8 7 2 1 false, .addr 9 3, .load 10 9 3 1 false, .addr 11 4, .load 12 11 4 1 false, .addr 13 5, .load 14 13 5 1 false, .call 15 14 5 1 false, .addr 16 6, .load 17 16 6 1 false, .call 18 17 6 1 false, .addr 19 7, .load 20 19 7 1 false, .call 21 20 7 1 false, .addr 22 8, .load 23 22 8 1 false, .bld 24, .sto 24] [⟨4, 0, 1, false⟩, ⟨6, 1, 1, false⟩, ⟨8, 2, 1, false⟩, ⟨10, 3, 1, false⟩, ⟨12, 4, 1, false⟩, ⟨15, 5, 1, false⟩, ⟨18, 6, 1, false⟩, ⟨21, 7, 1, false⟩, ⟨23, 8, 1, false⟩] Tryz.func213 rfl Tryz.ntmps213 rfl rfl mixed kd70 zc70 rfl rfl (by kernel_rfl) (by decide) rfl rfl ⟨⟨_, _, _, _, _, rfl, kf70_0⟩, ⟨_, _, _, _, rfl, kd68, by decide, (by decide : 1 ≤ 9), 0, dep_of rfl, rfl⟩, ⟨_, _, _, _, _, rfl, kf70_1⟩, ⟨_, _, _, _, rfl, kd9, by decide, (by decide : 2 ≤ 9), 2, dep_of rfl, rfl⟩, ⟨_, _, _, _, _, rfl, kf70_2⟩, ⟨_, _, _, _, rfl, kd9, by decide, (by decide : 3 ≤ 9), 4, dep_of rfl, rfl⟩, ⟨_, _, _, _, _, rfl, kf70_3⟩, ⟨_, _, _, _, rfl, kd9, by decide, (by decide : 4 ≤ 9), 6, dep_of rfl, rfl⟩, ⟨_, _, _, _, _, rfl, kf70_4⟩, ⟨_, _, _, _, rfl, kd3, by decide, (by decide : 5 ≤ 9), 8, dep_of rfl, rfl⟩, ⟨_, _, _, _, _, rfl, kf70_5⟩, ⟨_, _, _, _, rfl, kd65, by decide, (by decide : 6 ≤ 9), 10, dep_of rfl, rfl⟩, ⟨_, _, _, _, _, 13, rfl, en231, hA, by decide, 11, dep_of rfl, rfl⟩, ⟨_, _, _, _, _, rfl, kf70_6⟩, ⟨_, _, _, _, rfl, kd54, by decide, (by decide : 7 ≤ 9), 13, dep_of rfl, rfl⟩, ⟨_, _, _, _, _, 16, rfl, en169, hB, by decide, 14, dep_of rfl, rfl⟩, ⟨_, _, _, _, _, rfl, kf70_7⟩, ⟨_, _, _, _, rfl, kd54, by decide, (by decide : 8 ≤ 9), 16, dep_of rfl, rfl⟩, ⟨_, _, _, _, _, 19, rfl, en169, hC, by decide, 17, dep_of rfl, rfl⟩, ⟨_, _, _, _, _, rfl, kf70_8⟩, ⟨_, _, _, _, rfl, kd3, by decide, (by decide : 9 ≤ 9), 19, dep_of rfl, rfl⟩, ⟨_, _, _, _, _, _, rfl, bu70, rfl, ⟨rfl, rfl, rfl, rfl, rfl, rfl, rfl, rfl, rfl, rfl⟩, by decide, ⟨rfl, rfl, rfl, rfl, rfl, rfl, rfl, rfl, rfl, trivial⟩, allF_mem ⟨⟨1, 3, dep_of rfl, by decide, .inl ⟨rfl, scs_of rfl⟩⟩, ⟨3, 5, dep_of rfl, by decide, .inl ⟨rfl, scs_of rfl⟩⟩, ⟨5, 7, dep_of rfl, by decide, .inl ⟨rfl, scs_of rfl⟩⟩, ⟨7, 9, dep_of rfl, by decide, .inl ⟨rfl, scs_of rfl⟩⟩, ⟨9, 11, dep_of rfl, by decide, .inl ⟨rfl, scs_of rfl⟩⟩, ⟨12, 14, dep_of rfl, by decide, .inr rfl⟩, ⟨15, 17, dep_of rfl, by decide, .inr rfl⟩, ⟨18, 20, dep_of rfl, by decide, .inr rfl⟩, ⟨20, 22, dep_of rfl, by decide, .inl ⟨rfl, scs_of rfl⟩⟩, trivial⟩⟩, ⟨_, _, _, _, _, rfl, kd70, last_of rfl, 21, dep_of rfl, rfl⟩, trivial⟩ ⟨22, 24, rfl⟩
theorem twinStmts (l : List Sm) (h : ∀ x ∈ l, TwinC Tryz.prog 213 (smD x)) (hl : l.length ≤ 1048576) : TwinC Tryz.prog 169 (.list 9 (l.map smD)) :=
  twinA Tryz.func169 rfl Tryz.ntmps169 rfl en213 un54 kd70 apk54 sk54 rfl ⟨by decide, by decide⟩ (by decide) (fun _ _ _ _ _ _ hd => f_build bu70 rfl rfl hd) rfl (ones_of rfl) _ (fun q hq => by obtain ⟨x, hx, rfl⟩ := List.mem_map.1 hq; exact ⟨h x hx, _, smD_cs x, by cases x; rfl, by cases x; exact ones_of rfl⟩) (by rw [List.length_map]; exact hl)
mutual
theorem twS : ∀ x : Sm, fitS x → TwinC Tryz.prog 213 (smD x)
  | .mk kd nm fl arr n args body els line, h => by
    rw [fitS] at h
    exact twinStmt _ (twEL args h.1.2 h.1.1) (by show TwinC _ _ (.list 9 (smDs body)); rw [smDs_map]; exact twinStmts body (twSs body h.2.1.2) h.2.1.1) (by show TwinC _ _ (.list 9 (smDs els)); rw [smDs_map]; exact twinStmts els (twSs els h.2.2.2) h.2.2.1)
theorem twSs : ∀ l : List Sm, fitSs l → ∀ x ∈ l, TwinC Tryz.prog 213 (smD x)
  | [], _, x, h => by cases h
  | y :: l, hf, x, h => by
    rw [fitSs] at hf
    by_cases hx : x = y
    · rw [hx]; exact twS y hf.1
    · exact twSs l hf.2 x (by rcases List.mem_cons.mp h with h | h; exact absurd h hx; exact h)
end
theorem twSL (l : List Sm) (h : fitSs l) (hl : l.length ≤ 1048576) : TwinC Tryz.prog 169 (.list 9 (l.map smD)) := twinStmts l (twSs l h) hl
theorem twTexts (l : List Tx) (hl : l.length ≤ 1048576) : TwinC Tryz.prog 167 (.list 1 (l.map txD)) :=
  twinT Tryz.func167 rfl Tryz.ntmps167 rfl un52 kd9 apk52 sk52 rfl ⟨by decide, by decide⟩ (by decide) rfl rfl (ones_of rfl) _ (fun q hq => by obtain ⟨x, hx, rfl⟩ := List.mem_map.1 hq; exact ⟨⟨_, rfl⟩, rfl, ones_of rfl⟩) (by rw [List.length_map]; exact hl)
theorem twNums (l : List N3) (hl : l.length ≤ 1048576) : TwinC Tryz.prog 168 (.list 3 (l.map n3D)) :=
  twinB Tryz.func168 rfl Tryz.ntmps168 rfl un53 kd35 apk53 sk53 rfl ⟨by decide, by decide⟩ (by decide) (fun _ _ _ _ _ _ hd => f_build bu35 rfl rfl hd) rfl (ones_of rfl) _ (fun q hq => by obtain ⟨x, hx, rfl⟩ := List.mem_map.1 hq; exact ⟨⟨[.int .i64 (x.1 : Int), .int .u64 (x.2.1 : Int), .int .u64 (x.2.2 : Int)], rfl⟩, rfl, ones_of rfl⟩) (by rw [List.length_map]; exact hl)
theorem twFields (l : List (Tx × Nat)) (hl : l.length ≤ 1048576) : TwinC Tryz.prog 164 (.list 2 (l.map fdD)) :=
  twinB Tryz.func164 rfl Tryz.ntmps164 rfl un49 kd132 apk49 sk49 rfl ⟨by decide, by decide⟩ (by decide) (fun _ _ _ _ _ _ hd => f_build bu132 rfl rfl hd) rfl (ones_of rfl) _ (fun q hq => by obtain ⟨x, hx, rfl⟩ := List.mem_map.1 hq; exact ⟨⟨[.string (B x.1), .int .i64 (x.2 : Int)], rfl⟩, rfl, ones_of rfl⟩) (by rw [List.length_map]; exact hl)
theorem twCases (l : List Cs) (hl : l.length ≤ 1048576) : TwinC Tryz.prog 232 (.list 7 (l.map csD)) :=
  twinB Tryz.func232 rfl Tryz.ntmps232 rfl un74 kd172 apk74 sk74 rfl ⟨by decide, by decide⟩ (by decide) (fun _ _ _ _ _ _ hd => f_build bu172 rfl rfl hd) rfl (ones_of rfl) _ (fun q hq => by obtain ⟨x, hx, rfl⟩ := List.mem_map.1 hq; exact ⟨⟨[.int .i64 (x.v.1 : Int), .int .u64 (x.v.2.1 : Int), .int .u64 (x.v.2.2 : Int), .int .i64 (x.m.1 : Int), .int .u64 (x.m.2.1 : Int), .int .u64 (x.m.2.2 : Int), .string (B x.dest)], rfl⟩, rfl, ones_of rfl⟩) (by rw [List.length_map]; exact hl)
theorem twState (s : Stt) (h1 : s.headers.length ≤ 1048576) (h2 : s.sel.length ≤ 1048576 ∧ fitEs s.sel) (h3 : s.cases.length ≤ 1048576) : TwinC Tryz.prog 211 (stD s) := by
  have hE : TwinC Tryz.prog 231 (.list 10 (s.sel.map exD)) := twinExprs s.sel (twEs _ h2.2) h2.1
  exact twinF (ds := [txD s.name, .list 1 (s.headers.map txD), .list 10 (s.sel.map exD), .list 7 (s.cases.map csD), txD s.dest, nD s.line]) [.addr 3 0, .load 4 3 0 1 false, .addr 5 1, .load 6 5 1 1 false, .call 7 6 1 1 false, .addr 8 2, .load 9 8 2 1 false, .call 10 9 2 1 false, .addr 11 3, .load 12 11 3 1 false, .call 13 12 3 1 false, .addr 14 4, .load 15 14 4 1 false, .addr 16 5, .load 17 16 5 1 false, .bld 18, .sto 18] [⟨4, 0, 1, false⟩, ⟨7, 1, 1, false⟩, ⟨10, 2, 1, false⟩, ⟨13, 3, 1, false⟩, ⟨15, 4, 1, false⟩, ⟨17, 5, 1, false⟩] Tryz.func211 rfl Tryz.ntmps211 rfl rfl mixed kd76 zc76 rfl rfl (by kernel_rfl) (by decide) rfl rfl ⟨⟨_, _, _, _, _, rfl, kf76_0⟩, ⟨_, _, _, _, rfl, kd9, by decide, (by decide : 1 ≤ 6), 0, dep_of rfl, rfl⟩, ⟨_, _, _, _, _, rfl, kf76_1⟩, ⟨_, _, _, _, rfl, kd52, by decide, (by decide : 2 ≤ 6), 2, dep_of rfl, rfl⟩, ⟨_, _, _, _, _, 5, rfl, en167, twTexts s.headers h1, by decide, 3, dep_of rfl, rfl⟩, ⟨_, _, _, _, _, rfl, kf76_2⟩, ⟨_, _, _, _, rfl, kd65, by decide, (by decide : 3 ≤ 6), 5, dep_of rfl, rfl⟩, ⟨_, _, _, _, _, 8, rfl, en231, hE, by decide, 6, dep_of rfl, rfl⟩, ⟨_, _, _, _, _, rfl, kf76_3⟩, ⟨_, _, _, _, rfl, kd74, by decide, (by decide : 4 ≤ 6), 8, dep_of rfl, rfl⟩, ⟨_, _, _, _, _, 11, rfl, en232, twCases s.cases h3, by decide, 9, dep_of rfl, rfl⟩, ⟨_, _, _, _, _, rfl, kf76_4⟩, ⟨_, _, _, _, rfl, kd9, by decide, (by decide : 5 ≤ 6), 11, dep_of rfl, rfl⟩, ⟨_, _, _, _, _, rfl, kf76_5⟩, ⟨_, _, _, _, rfl, kd3, by decide, (by decide : 6 ≤ 6), 13, dep_of rfl, rfl⟩, ⟨_, _, _, _, _, _, rfl, bu76, rfl, ⟨rfl, rfl, rfl, rfl, rfl, rfl, rfl⟩, by decide, ⟨rfl, rfl, rfl, rfl, rfl, rfl, trivial⟩, allF_mem ⟨⟨1, 3, dep_of rfl, by decide, .inl ⟨rfl, scs_of rfl⟩⟩, ⟨4, 6, dep_of rfl, by decide, .inr rfl⟩, ⟨7, 9, dep_of rfl, by decide, .inr rfl⟩, ⟨10, 12, dep_of rfl, by decide, .inr rfl⟩, ⟨12, 14, dep_of rfl, by decide, .inl ⟨rfl, scs_of rfl⟩⟩, ⟨14, 16, dep_of rfl, by decide, .inl ⟨rfl, scs_of rfl⟩⟩, trivial⟩⟩, ⟨_, _, _, _, _, rfl, kd76, last_of rfl, 15, dep_of rfl, rfl⟩, trivial⟩ ⟨16, 18, rfl⟩
theorem twStates (l : List Stt) (h : ∀ x ∈ l, TwinC Tryz.prog 211 (stD x)) (hl : l.length ≤ 1048576) : TwinC Tryz.prog 165 (.list 6 (l.map stD)) :=
  twinA Tryz.func165 rfl Tryz.ntmps165 rfl en211 un50 kd76 apk50 sk50 rfl ⟨by decide, by decide⟩ (by decide) (fun _ _ _ _ _ _ hd => f_build bu76 rfl rfl hd) rfl (ones_of rfl) _ (fun q hq => by obtain ⟨x, hx, rfl⟩ := List.mem_map.1 hq; exact ⟨h x hx, _, rfl, rfl, ones_of rfl⟩) (by rw [List.length_map]; exact hl)
theorem twKey (k : Ex × Nat) (h : fitE k.1) : TwinC Tryz.prog 212 (kdD k) := by
  obtain ⟨⟨op, lw, lh, ll, nm, fl, n0, m0, args, line⟩, kk⟩ := k
  have hE := twE _ h
  rw [exD_cs] at hE
  exact twinF (ds := exCs (.mk op lw lh ll nm fl n0 m0 args line) ++ [D.sc (Value.int .u8 (kk : Int))]) [.addr 3 0, .load 4 3 0 10 true, .call 5 4 0 10 true, .addr 6 10, .load 7 6 10 1 false, .bld 8, .sto 8] [⟨5, 0, 10, true⟩, ⟨7, 10, 1, false⟩] Tryz.func212 rfl Tryz.ntmps212 rfl rfl mixed kd82 zc82 rfl rfl (by kernel_rfl) (by decide) rfl rfl ⟨⟨_, _, _, _, _, rfl, kf82_0⟩, ⟨_, _, _, _, rfl, kd67, by decide, (by decide : 10 ≤ 11), 0, dep_of rfl, rfl⟩, ⟨_, _, _, _, _, 3, rfl, en233, hE, by decide, 1, dep_of rfl, rfl⟩, ⟨_, _, _, _, _, rfl, kf82_1⟩, ⟨_, _, _, _, rfl, kd80, by decide, (by decide : 11 ≤ 11), 3, dep_of rfl, rfl⟩, ⟨_, _, _, _, _, _, rfl, bu82, rfl, ⟨rfl, rfl, rfl⟩, by decide, ⟨rfl, rfl, trivial⟩, allF_mem ⟨⟨2, 4, dep_of rfl, by decide, .inr rfl⟩, ⟨4, 6, dep_of rfl, by decide, .inl ⟨rfl, scs_of rfl⟩⟩, trivial⟩⟩, ⟨_, _, _, _, _, rfl, kd82, last_of rfl, 5, dep_of rfl, rfl⟩, trivial⟩ ⟨6, 8, rfl⟩
theorem twKeys (l : List (Ex × Nat)) (h : ∀ x ∈ l, TwinC Tryz.prog 212 (kdD x)) (hl : l.length ≤ 1048576) : TwinC Tryz.prog 166 (.list 11 (l.map kdD)) :=
  twinA Tryz.func166 rfl Tryz.ntmps166 rfl en212 un51 kd82 apk51 sk51 rfl ⟨by decide, by decide⟩ (by decide) (fun _ _ _ _ _ _ hd => f_build bu82 rfl rfl hd) rfl (ones_of rfl) _ (fun q hq => by obtain ⟨x, hx, rfl⟩ := List.mem_map.1 hq; exact ⟨h x hx, _, rfl, by obtain ⟨x, k⟩ := x; cases x; rfl, by obtain ⟨x, k⟩ := x; cases x; exact ones_of rfl⟩) (by rw [List.length_map]; exact hl)
structure FitD (d : Dc) : Prop where
  fields : d.fields.length ≤ 1048576
  states : d.states.length ≤ 1048576
  state : ∀ s ∈ d.states, s.headers.length ≤ 1048576 ∧ (s.sel.length ≤ 1048576 ∧ fitEs s.sel) ∧ s.cases.length ≤ 1048576
  keys : d.keys.length ≤ 1048576
  key : ∀ k ∈ d.keys, fitE k.1
  actions : d.actions.length ≤ 1048576
  args : d.args.length ≤ 1048576
  body : d.body.length ≤ 1048576 ∧ fitSs d.body
  emits : d.emits.length ≤ 1048576
def twDecl_k : List TK := [.addr 3 0, .load 4 3 0 1 false, .addr 5 1, .load 6 5 1 1 false, .addr 7 2, .load 8 7 2 1 false, .call 9 8 2 1 false, .addr 10 3, .load 11 10 3 1 false, .addr 12 4, .load 13 12 4 1 false, .addr 14 5] ++ [.load 15 14 5 1 false, .addr 16 6, .load 17 16 6 1 false, .addr 18 7, .load 19 18 7 1 false, .call 20 19 7 1 false, .addr 21 8, .load 22 21 8 1 false, .call 23 22 8 1 false, .addr 24 9, .load 25 24 9 1 false, .call 26 25 9 1 false] ++ [.addr 27 10, .load 28 27 10 1 false, .addr 29 11, .load 30 29 11 1 false, .call 31 30 11 1 false, .addr 32 12, .load 33 32 12 1 false, .call 34 33 12 1 false, .addr 35 13, .load 36 35 13 1 false, .call 37 36 13 1 false, .addr 38 14] ++ [.load 39 38 14 1 false, .bld 40, .sto 40]
theorem twDecl (d : Dc) (h : FitD d) : TwinC Tryz.prog 108 (dcD d) := by
  have hS := twStates d.states (fun s hs => twState s (h.state s hs).1 (h.state s hs).2.1 (h.state s hs).2.2) h.states
  have hK := twKeys d.keys (fun k hk => twKey k (h.key k hk)) h.keys
  exact twinF (ds := [.sc (.int .u8 (d.kind : Int)), txD d.name, .list 2 (d.fields.map fdD), nD d.w, nD d.n, nD d.rate, nD d.burst, .list 6 (d.states.map stD), .list 11 (d.keys.map kdD), .list 1 (d.actions.map txD), txD d.default, .list 3 (d.args.map n3D), .list 9 (d.body.map smD), .list 1 (d.emits.map txD), nD d.line]) twDecl_k [⟨4, 0, 1, false⟩, ⟨6, 1, 1, false⟩, ⟨9, 2, 1, false⟩, ⟨11, 3, 1, false⟩, ⟨13, 4, 1, false⟩, ⟨15, 5, 1, false⟩, ⟨17, 6, 1, false⟩, ⟨20, 7, 1, false⟩, ⟨23, 8, 1, false⟩, ⟨26, 9, 1, false⟩, ⟨28, 10, 1, false⟩, ⟨31, 11, 1, false⟩, ⟨34, 12, 1, false⟩, ⟨37, 13, 1, false⟩, ⟨39, 14, 1, false⟩] Tryz.func108 rfl Tryz.ntmps108 rfl rfl mixed kd56 zc56 rfl rfl (by kernel_rfl) (by decide) rfl rfl ⟨⟨_, _, _, _, _, rfl, kf56_0⟩, ⟨_, _, _, _, rfl, kd48, by decide, (by decide : 1 ≤ 15), 0, dep_of rfl, rfl⟩, ⟨_, _, _, _, _, rfl, kf56_1⟩, ⟨_, _, _, _, rfl, kd9, by decide, (by decide : 2 ≤ 15), 2, dep_of rfl, rfl⟩, ⟨_, _, _, _, _, rfl, kf56_2⟩, ⟨_, _, _, _, rfl, kd49, by decide, (by decide : 3 ≤ 15), 4, dep_of rfl, rfl⟩, ⟨_, _, _, _, _, 7, rfl, en164, twFields _ h.fields, by decide, 5, dep_of rfl, rfl⟩, ⟨_, _, _, _, _, rfl, kf56_3⟩, ⟨_, _, _, _, rfl, kd3, by decide, (by decide : 4 ≤ 15), 7, dep_of rfl, rfl⟩, ⟨_, _, _, _, _, rfl, kf56_4⟩, ⟨_, _, _, _, rfl, kd3, by decide, (by decide : 5 ≤ 15), 9, dep_of rfl, rfl⟩, ⟨_, _, _, _, _, rfl, kf56_5⟩, ⟨_, _, _, _, rfl, kd3, by decide, (by decide : 6 ≤ 15), 11, dep_of rfl, rfl⟩, ⟨_, _, _, _, _, rfl, kf56_6⟩, ⟨_, _, _, _, rfl, kd3, by decide, (by decide : 7 ≤ 15), 13, dep_of rfl, rfl⟩, ⟨_, _, _, _, _, rfl, kf56_7⟩, ⟨_, _, _, _, rfl, kd50, by decide, (by decide : 8 ≤ 15), 15, dep_of rfl, rfl⟩, ⟨_, _, _, _, _, 18, rfl, en165, hS, by decide, 16, dep_of rfl, rfl⟩, ⟨_, _, _, _, _, rfl, kf56_8⟩, ⟨_, _, _, _, rfl, kd51, by decide, (by decide : 9 ≤ 15), 18, dep_of rfl, rfl⟩, ⟨_, _, _, _, _, 21, rfl, en166, hK, by decide, 19, dep_of rfl, rfl⟩, ⟨_, _, _, _, _, rfl, kf56_9⟩, ⟨_, _, _, _, rfl, kd52, by decide, (by decide : 10 ≤ 15), 21, dep_of rfl, rfl⟩, ⟨_, _, _, _, _, 24, rfl, en167, twTexts _ h.actions, by decide, 22, dep_of rfl, rfl⟩, ⟨_, _, _, _, _, rfl, kf56_10⟩, ⟨_, _, _, _, rfl, kd9, by decide, (by decide : 11 ≤ 15), 24, dep_of rfl, rfl⟩, ⟨_, _, _, _, _, rfl, kf56_11⟩, ⟨_, _, _, _, rfl, kd53, by decide, (by decide : 12 ≤ 15), 26, dep_of rfl, rfl⟩, ⟨_, _, _, _, _, 29, rfl, en168, twNums _ h.args, by decide, 27, dep_of rfl, rfl⟩, ⟨_, _, _, _, _, rfl, kf56_12⟩, ⟨_, _, _, _, rfl, kd54, by decide, (by decide : 13 ≤ 15), 29, dep_of rfl, rfl⟩, ⟨_, _, _, _, _, 32, rfl, en169, twSL _ h.body.2 h.body.1, by decide, 30, dep_of rfl, rfl⟩, ⟨_, _, _, _, _, rfl, kf56_13⟩, ⟨_, _, _, _, rfl, kd52, by decide, (by decide : 14 ≤ 15), 32, dep_of rfl, rfl⟩, ⟨_, _, _, _, _, 35, rfl, en167, twTexts _ h.emits, by decide, 33, dep_of rfl, rfl⟩, ⟨_, _, _, _, _, rfl, kf56_14⟩, ⟨_, _, _, _, rfl, kd3, by decide, (by decide : 15 ≤ 15), 35, dep_of rfl, rfl⟩, ⟨_, _, _, _, _, _, rfl, bu56, rfl, ⟨rfl, rfl, rfl, rfl, rfl, rfl, rfl, rfl, rfl, rfl, rfl, rfl, rfl, rfl, rfl, rfl⟩, by decide, ⟨rfl, rfl, rfl, rfl, rfl, rfl, rfl, rfl, rfl, rfl, rfl, rfl, rfl, rfl, rfl, trivial⟩, allF_mem ⟨⟨1, 3, dep_of rfl, by decide, .inl ⟨rfl, scs_of rfl⟩⟩, ⟨3, 5, dep_of rfl, by decide, .inl ⟨rfl, scs_of rfl⟩⟩, ⟨6, 8, dep_of rfl, by decide, .inr rfl⟩, ⟨8, 10, dep_of rfl, by decide, .inl ⟨rfl, scs_of rfl⟩⟩, ⟨10, 12, dep_of rfl, by decide, .inl ⟨rfl, scs_of rfl⟩⟩, ⟨12, 14, dep_of rfl, by decide, .inl ⟨rfl, scs_of rfl⟩⟩, ⟨14, 16, dep_of rfl, by decide, .inl ⟨rfl, scs_of rfl⟩⟩, ⟨17, 19, dep_of rfl, by decide, .inr rfl⟩, ⟨20, 22, dep_of rfl, by decide, .inr rfl⟩, ⟨23, 25, dep_of rfl, by decide, .inr rfl⟩, ⟨25, 27, dep_of rfl, by decide, .inl ⟨rfl, scs_of rfl⟩⟩, ⟨28, 30, dep_of rfl, by decide, .inr rfl⟩, ⟨31, 33, dep_of rfl, by decide, .inr rfl⟩, ⟨34, 36, dep_of rfl, by decide, .inr rfl⟩, ⟨36, 38, dep_of rfl, by decide, .inl ⟨rfl, scs_of rfl⟩⟩, trivial⟩⟩, ⟨_, _, _, _, _, rfl, kd56, last_of rfl, 37, dep_of rfl, rfl⟩, trivial⟩ ⟨38, 40, rfl⟩
theorem twDecls (l : List Dc) (h : ∀ x ∈ l, TwinC Tryz.prog 108 (dcD x)) (hl : l.length ≤ 1048576) : TwinC Tryz.prog 55 (.list 15 (l.map dcD)) :=
  twinA Tryz.func55 rfl Tryz.ntmps55 rfl en108 un22 kd56 apk22 sk22 rfl ⟨by decide, by decide⟩ (by decide) (fun _ _ _ _ _ _ hd => f_build bu56 rfl rfl hd) rfl (ones_of rfl) _ (fun q hq => by obtain ⟨x, hx, rfl⟩ := List.mem_map.1 hq; exact ⟨h x hx, _, rfl, rfl, ones_of rfl⟩) (by rw [List.length_map]; exact hl)
theorem twProgram (l : List Dc) (h : ∀ d ∈ l, FitD d) (hl : l.length ≤ 1048576) : TwinC Tryz.prog 24 (.list 15 (l.map dcD)) := by
  intro S w u hst hrel
  refine calls_raw Tryz.func24 rfl Tryz.ntmps24 rfl hst (.cons hrel .nil) <| sqq <| rgq <| asq rfl rfl <| nxq <| sqq <| rgq <| mvq rfl rfl ?_
  refine sq_callT en55 rfl rfl (twDecls l (fun x hx => twDecl x (h x hx)) hl) (lt rfl) (fun wb Sb v F1 hbb hgb hlv hFb => ?_)
  obtain ⟨b, o, cap, rfl⟩ := hlv.slice
  refine asq rfl rfl <| nxq <| rtq ?_
  exact hits_doneR (.inl rfl) rfl rfl (fun u' w' S' _ hr' hb' => ⟨u', F1, rfl, below_comp hbb hb', by rw [rel_sc hr']; exact hlv.stay hb', hFb⟩)
end Go.Proofs.YtogodijfdkffaaaGreatDoor.Ln

