/- Strings and lists under a walk: elements, lengths, parts, what is put behind. No program. -/
import Derived.Test.YtbgeejmhkmjfdaaGreatDoorAbDraw
import Derived.Deep.AppendSrc
namespace Go.Ab
open Go Go.RowKit
set_option linter.unusedVariables false
set_option linter.unusedSimpArgs false
variable {P : Program} {E : Env} {st : St} {G : Gh} {a : Act} {w : World}
variable {d : Nat} {ty : TypeId} {pos : String} {af : Array Edge} {g : Option (Nat × Bool)} {x y z : Operand}
def asList : V → Option (Nat × List D)
  | .d (.list es l) => some (es, l)
  | .d (.room es l _) => some (es, l)
  | .own _ es l => some (es, l)
  | _ => none
theorem relE_left {S : Stab} {es : Nat} {m : List D} : ∀ {l : List D} {b o : Nat}, RelE S es (l ++ m) b o → RelE S es l b o
  | [], _, _, _ => .nil
  | _ :: _, _, _, .cons hn hp hl => .cons hn hp (relE_left hl)
theorem rel_room {S : Stab} {es : Nat} {l m : List D} {u : Value} (h : Rel S (.room es l m) u) : Rel S (.list es l) u := by
  cases h with
  | room hc he => exact .list (Nat.le_trans (Nat.le_add_right _ _) hc) (relE_left he)
theorem relV_list {v : V} {u : Value} {es : Nat} {l : List D} (h : RelV G v u) (ha : asList v = some (es, l)) : Rel G.S (.list es l) u := by
  cases v with
  | d q =>
    cases q with
    | list e l' => obtain ⟨rfl, rfl⟩ := Prod.mk.inj (Option.some.inj ha); exact h
    | room e l' m => obtain ⟨rfl, rfl⟩ := Prod.mk.inj (Option.some.inj ha); exact rel_room h
    | _ => cases ha
  | own id e l' => obtain ⟨rfl, rfl⟩ := Prod.mk.inj (Option.some.inj ha); exact relV_own h
  | _ => cases ha
theorem f_lenStr {t : TypeId} {s : ByteArray} (hx : ev st x = some (.d (.sc (.string s)))) (ht : P.underlying t = some .string) (hd : d < E.N) :
    FOk P E ⟨some d, .call ⟨.builtin .len, #[x], #[t]⟩, ty, pos, af, g⟩ st (evL x) [] [(.slot d, some (.d (.sc (.int .i64 (s.size : Int)))))] :=
  fok_val rfl hd fun st' G a w hL hs => by
    have e1 := hs.sc ((ev_same hL fun l h => h).trans hx)
    exact ⟨_, by simp [execOp, resolve, invoke, builtin, e1, Builtin.len_, run_underlying ht, goInt], .sc _⟩
theorem f_lenList {t e : TypeId} {v : V} {es : Nat} {l : List D} (hx : ev st x = some v) (ha : asList v = some (es, l)) (ht : P.underlying t = some (.slice e)) (hd : d < E.N) :
    FOk P E ⟨some d, .call ⟨.builtin .len, #[x], #[t]⟩, ty, pos, af, g⟩ st (evL x) [] [(.slot d, some (.d (.sc (.int .i64 (l.length : Int)))))] :=
  fok_val rfl hd fun st' G a w hL hs => by
    have e1 := relV_list (hs.ev ((ev_same hL fun l h => h).trans hx)) ha
    cases hc : a.eval x <;> rw [hc] at e1 <;> cases e1
    · exact ⟨_, by simp [execOp, resolve, invoke, builtin, hc, Builtin.len_, run_underlying ht, goInt], .sc _⟩
    · exact ⟨_, by simp [execOp, resolve, invoke, builtin, hc, Builtin.len_, run_underlying ht, goInt], .sc _⟩
def byteAt (s : ByteArray) (i : Int) : Int := ((s.data[i.toNat]?.getD 0).toNat : Int)
theorem f_idxStr {t : TypeId} {s : ByteArray} {k : IntKind} {i : Int} (hx : ev st x = some (.d (.sc (.string s)))) (hy : ev st y = some (.d (.sc (.int k i)))) (ht : P.underlying t = some .string) (h0 : 0 ≤ i) (h1 : i < (s.size : Int)) (hd : d < E.N) :
    FOk P E ⟨some d, .index t x y, ty, pos, af, g⟩ st (evL x ++ evL y) [] [(.slot d, some (.d (.sc (.int .u8 (byteAt s i)))))] :=
  fok_val rfl hd fun st' G a w hL hs => by
    have e1 := hs.sc ((ev_same hL fun l h => mem_l h).trans hx)
    have e2 := hs.sc ((ev_same hL fun l h => mem_r h).trans hy)
    refine ⟨_, ?_, .sc _⟩
    have hlt : i.toNat < s.size := by omega
    have hg : s[i.toNat]? = some (s.data[i.toNat]?.getD 0) := by
      have h2 : i.toNat < s.data.size := hlt
      rw [getElem?_pos s i.toNat hlt, Array.getElem?_eq_getElem h2]
      rfl
    simp only [execOp, e1, e2, Instr.index, asIntOf, Sem.run_bind, Sem.run_pure, Result.andThen_ok, run_underlying ht, if_pos h0, hg]
    rfl
theorem f_idxList {t e : TypeId} {v : V} {es : Nat} {b : Bool} {l : List D} {k : IntKind} {i : Int} {q : D} (hx : ev st x = some v) (ha : asList v = some (es, l)) (hy : ev st y = some (.d (.sc (.int k i)))) (ht : P.underlying t = some (.slice e)) (hk : kd P e = some (b, es))
    (h0 : 0 ≤ i) (h1 : l[i.toNat]? = some q) (hd : d < E.N) :
    FOk P E ⟨some d, .indexAddr t x y, ty, pos, af, g⟩ st (evL x ++ evL y) [] [(.slot d, some (.d (.eptr q.cells)))] :=
  fok_val rfl hd fun st' G a w hL hs => by
    have e1 := relV_list (hs.ev ((ev_same hL fun l h => mem_l h).trans hx)) ha
    have e2 := hs.sc ((ev_same hL fun l h => mem_r h).trans hy)
    have hlt : i.toNat < l.length := (List.getElem?_eq_some_iff.1 h1).1
    cases hc : a.eval x <;> rw [hc] at e1 <;> cases e1
    · rename_i cap b' o he hcap
      have key : ∀ {l : List D} {o n : Nat} {q : D}, RelE G.S es l b' o → l[n]? = some q → RelP G.S q.cells b' (o + n * es) := by
        intro l
        induction l with
        | nil => intro o n q _ h; simp at h
        | cons p l ih =>
          intro o n q h hn
          cases h with
          | cons h3 h4 h5 =>
            cases n with
            | zero => simp at hn; subst hn; simpa using h4
            | succ n =>
              have := ih h5 (by simpa using hn)
              rwa [show o + es + n * es = o + (n + 1) * es from by rw [Nat.add_mul]; omega] at this
      obtain ⟨_, hsz, _⟩ := kd_spec hk
      refine ⟨.pointer (some ⟨b', o + i.toNat * es, none⟩), ?_, .eptr (key he h1)⟩
      have hin : 0 ≤ i ∧ i < (l.length : Int) := ⟨h0, by omega⟩
      simp [execOp, hc, e2, Instr.indexAt, asIntOf, run_underlying ht, hin, hsz, add_at]
    · simp at hlt
def bnd (st : St) (dflt : Int) : Option Operand → Option Int
  | none => some dflt
  | some x => match ev st x with
    | some (.d (.sc (.int _ i))) => some i
    | _ => none
def bndL : Option Operand → List Loc
  | none => []
  | some x => evL x
theorem f_sliceStr {t : TypeId} {s : ByteArray} {lo hi : Option Operand} {i j : Int} (hx : ev st x = some (.d (.sc (.string s)))) (hlo : bnd st 0 lo = some i) (hhi : bnd st s.size hi = some j) (ht : P.underlying t = some .string)
    (h0 : 0 ≤ i) (h1 : i ≤ j) (h2 : j ≤ (s.size : Int)) (hd : d < E.N) :
    FOk P E ⟨some d, .slice t x lo hi none, ty, pos, af, g⟩ st (evL x ++ (bndL lo ++ bndL hi)) [] [(.slot d, some (.d (.sc (.string (s.extract i.toNat j.toNat)))))] :=
  fok_val rfl hd fun st' G a w hL hs => by
    have e1 := hs.sc ((ev_same hL fun l h => mem_l h).trans hx)
    have key : ∀ (o : Option Operand) (df r : Int), (∀ l ∈ bndL o, look st' l = look st l) → bnd st df o = some r → (o = none ∧ r = df) ∨ ∃ q k, o = some q ∧ a.eval q = .int k r := by
      intro o df r hl hb
      cases o with
      | none => exact .inl ⟨rfl, (Option.some.inj hb).symm⟩
      | some q =>
        right
        simp only [bnd] at hb
        split at hb
        · rename_i k i he
          obtain rfl := Option.some.inj hb
          exact ⟨q, k, rfl, hs.sc ((ev_same hl fun l h => h).trans he)⟩
        · cases hb
    refine ⟨_, ?_, .sc _⟩
    have b1 : ∀ (k : IntKind), (Instr.sliceBound (.int k i) j.toNat .sliceB).run P w = .ok i.toNat w := fun k => by
      have : 0 ≤ i ∧ i ≤ (j.toNat : Int) := ⟨h0, by omega⟩
      simp only [Instr.sliceBound, asIntOf, Sem.run_bind, Sem.run_pure, Result.andThen_ok, if_pos this]
    have b2 : ∀ (k : IntKind), (Instr.sliceBound (.int k j) s.size .sliceAlen).run P w = .ok j.toNat w := fun k => by
      have : 0 ≤ j ∧ j ≤ (s.size : Int) := ⟨by omega, h2⟩
      simp only [Instr.sliceBound, asIntOf, Sem.run_bind, Sem.run_pure, Result.andThen_ok, if_pos this]
    have hjs : ∀ (k : IntKind), s.size = j.toNat → (Instr.sliceBound (.int k i) s.size .sliceB).run P w = .ok i.toNat w := fun k h => by rw [h]; exact b1 k
    rcases key lo 0 i (fun l h => hL l (mem_r (mem_l h))) hlo with ⟨rfl, rfl⟩ | ⟨q, k, rfl, hq⟩ <;> rcases key hi s.size j (fun l h => hL l (mem_r (mem_r h))) hhi with ⟨rfl, rfl⟩ | ⟨q', k', rfl, hq'⟩
    · simp [execOp, e1, Instr.sliceAt, Instr.slice, run_underlying ht, Instr.sliceBounds]
    · simp [execOp, e1, hq', Instr.sliceAt, Instr.slice, run_underlying ht, Instr.sliceBounds, b2]
    · simp [execOp, e1, hq, Instr.sliceAt, Instr.slice, run_underlying ht, Instr.sliceBounds, hjs]
    · simp [execOp, e1, hq, hq', Instr.sliceAt, Instr.slice, run_underlying ht, Instr.sliceBounds, b2, b1]
theorem Sim.retell {t : Nat} {v : V} (s1 : Sim E st G a w) (hv0 : RelV G v (a.tmps.getD t undef)) : Sim E ((.slot t, some v) :: st) G a w := by
  refine ⟨s1.kw, s1.s0, s1.snew, s1.tmps, s1.defers, fun q v' hv => ?_, fun i o v hv => ?_, fun i hi => ?_, fun i j hi hj => ?_, s1.stable, fun i hi ht => ?_, fun i j hi hj => ?_, fun p hp => ⟨(s1.rcv p hp).1, fun hi => (s1.rcv p hp).2 (by rw [look_ne _ _ (by simp)] at hi; exact hi)⟩, fun i qv l hl hcl ht => s1.conts i qv l (by rw [look_ne _ _ (by simp)] at hl; exact hl) hcl ht, fun i v hv => by rw [look_ne _ _ (by simp)] at hv; rw [look_ne _ _ (by simp)]; exact s1.iters i v hv, fun k v hv => s1.olds k v (by rw [look_ne _ _ (by simp)] at hv; exact hv)⟩
  · rw [look_cons] at hv
    split at hv
    · rename_i he
      obtain rfl : t = q := by simpa using he
      obtain rfl := Option.some.inj hv
      exact hv0
    · exact s1.slots q _ hv
  · rw [look_ne _ _ (by simp)] at hv; rw [look_ne _ _ (by simp)]; exact s1.cells i o v hv
  · rw [look_ne _ _ (by simp)] at hi; exact s1.boxes i hi
  · rw [look_ne _ _ (by simp)] at hi hj; exact s1.inj i j hi hj
  · rw [look_ne _ _ (by simp)] at hi
    obtain ⟨q1, q2, q3, q4⟩ := s1.tips i hi ht
    exact ⟨q1, q2, q3, fun j hj => q4 j (by rw [look_ne _ _ (by simp)] at hj; exact hj)⟩
  · rw [look_ne _ _ (by simp)] at hi hj; exact s1.tinj i j hi hj
theorem hits_own {K : Act → World → Prop} (t id es : Nat) (hl : look st (.slot t) = some (.d (.sc (.slice none 0 0)))) (h : Hits E ((.slot t, some (.own id es [])) :: (.tip id, some (.ptr id 0)) :: dull id st) K) : Hits E st K := by
  intro G a w s
  have s1 := s.retip (id := id) (b := 0) (n := 0) (z := 0) (k := false) (fun c => by cases c)
  exact h _ a w (s1.retell (t := t) (v := .own id es []) (.inl ⟨by simp [upd], rfl, rel_sc (s.slots t _ hl)⟩))
def apk (P : Program) (t tx : TypeId) : Option (TypeId × Nat × Nat) :=
  match P.underlying t, P.underlying tx with
  | some (.slice e), some (.slice _) => match P.info? e with
    | some i => match i.zero with
      | some z => if z.cells.size = i.size ∧ 0 < i.size then some (e, i.size, i.bytes) else none
      | none => none
    | none => none
  | _, _ => none
theorem apk_spec {t tx e : TypeId} {es nb : Nat} (h : apk P t tx = some (e, es, nb)) : P.underlying t = some (.slice e) ∧ (∃ e', P.underlying tx = some (.slice e')) ∧ ∃ i z, P.info? e = some i ∧ i.zero = some z ∧ z.cells.size = es ∧ i.size = es ∧ i.bytes = nb ∧ 0 < es := by
  unfold apk at h
  split at h
  · rename_i e0 e1 h1 h2
    split at h
    · rename_i i hi
      split at h
      · rename_i z hz
        split at h
        · rename_i hc
          simp only [Option.some.injEq, Prod.mk.injEq] at h
          obtain ⟨rfl, rfl, rfl⟩ := h
          exact ⟨h1, ⟨_, h2⟩, i, z, hi, hz, hc.1, rfl, rfl, hc.2⟩
        · cases h
      · cases h
    · cases h
  · cases h
theorem relL_one {S : Stab} : ∀ {l : List D} {us : List Value}, RelL S l us → (∀ q ∈ l, (V.d q).one = true) → ∀ u ∈ us, u.oneCell' = true
  | [], [], _, _, u, hu => by simp at hu
  | q :: l, v :: us, .cons h1 h2, h, u, hu => by
    rcases List.mem_cons.1 hu with rfl | hu
    · exact (relV_one (G := ⟨S, fun _ => 0, fun _ => 0, fun _ => false, fun _ => 0, fun _ => 0⟩) (v := .d q) h1 (h q (by simp))).1
    · exact relL_one h2 (fun x hx => h x (by simp [hx])) u hu
theorem flat_append (xs ys : List D) : flat (xs ++ ys) = flat xs ++ flat ys := by simp [flat]
theorem src_of {es : Nat} {tx e' : TypeId} (s : Sim E st G a w) {ys : List D} {u : Value} (hk : P.underlying tx = some (.slice e')) (h : Rel G.S (.list es ys) u) (h1 : ∀ q ∈ flat ys, (V.d q).one = true) :
    ∃ us, Src P es tx u ys.length us w ∧ RelL G.S (flat ys) us ∧ us.length = ys.length * es ∧ ∀ q ∈ ys, q.cells.length = es := by
  cases h with
  | lnil => exact ⟨[], Src.ofNil w hk 0, .nil, by simp, by simp⟩
  | list hc he =>
    rename_i b o cap
    obtain ⟨hp, hlen, hall⟩ := relE_flat he
    obtain ⟨us, h2, h3, h4⟩ := relP_vals hp
    exact ⟨us, Src.ofSlice w hk ⟨b, o, none⟩ _ cap us (by rw [h2, hlen]) (fun j v hv => by rw [add_at]; exact s.stable _ _ _ (h4 j v hv)) (relL_one h3 h1), h3, by rw [h2, hlen], hall⟩
theorem row_get {S : Stab} {b n : Nat} {cs : Array Value} {k : Nat} (h : k < n) : S.row b n cs b k = cs[k]? := by unfold Stab.row; rw [if_pos rfl, if_pos h]
variable {Q : Exit → Act → World → Prop}
theorem sq_append {ops : Array Oper} {l : List Oper} {t tx e : TypeId} {id es nb : Nat} {xs ys : List D} {v vt : V} (hx : ev st x = some (.own id es xs)) (htip : look st (.tip id) = some vt) (hy : ev st y = some v) (ha : asList v = some (es, ys))
    (hp : apk P t tx = some (e, es, nb)) (hroom : (xs.length + ys.length) * nb ≤ 140737488355328) (hbig : xs.length + ys.length ≤ 9223372036854775807) (hone0 : ((flat ys).all fun q => (V.d q).one) = true) (hd : d < E.N)
    (h : Hits E ((.slot d, some (.own id es (xs ++ ys))) :: (.tip id, some (.ptr id 0)) :: dull id st) (wpList P ops Q l)) :
    Hits E st (wpList P ops Q (⟨some d, .call ⟨.builtin .append, #[x, y], #[t, tx]⟩, ty, pos, af, none⟩ :: l)) := by
  intro G a w s
  have hone : ∀ q ∈ flat ys, (V.d q).one = true := fun q hq => List.all_eq_true.1 hone0 q hq
  obtain ⟨ht, ⟨e', htx⟩, i, z, hi, hz, hzs, his, hib, hes⟩ := apk_spec hp
  have hvx := s.ev hx
  have hvy := relV_list (s.ev hy) ha
  obtain ⟨us, hsrc, hrus, hlus, hcells⟩ := src_of (tx := tx) s htx hvy hone
  subst his
  -- it is enough to tell the operation's run, and what is known behind it
  suffices hh : ∃ u w' G', (Builtin.append_ #[t, tx] ty #[a.eval x, a.eval y]).run P w = .ok u w' ∧ Sim E ((.tip id, some (.ptr id 0)) :: dull id st) G' a w' ∧ RelV G' (.own id i.size (xs ++ ys)) u by
    obtain ⟨u, w', G', h1, h2, h3⟩ := hh
    unfold wpList
    rw [if_pos (by simp [Region.wanted])]
    refine .inl ?_
    show Oper.upon P _ a _ Q ((execOp a.eval _).run P w)
    have hrun : (execOp a.eval (⟨some d, .call ⟨.builtin .append, #[x, y], #[t, tx]⟩, ty, pos, af, none⟩ : Oper)).run P w = .ok (.value u) w' := by
      simp [execOp, resolve, invoke, builtin, h1]
    rw [hrun]
    exact h _ _ _ (h2.put hd h3)
  -- a new row for both
  have grow : ∀ (base : Option Addr) (cap : Nat) (olds : List Value), a.eval x = .slice base xs.length cap → (Builtin.firstCells i.size xs.length (.slice base xs.length cap)).run P w.drew = .ok olds.toArray w.drew → RelL G.S (flat xs) olds → olds.length = xs.length * i.size →
      (∀ q ∈ xs, q.cells.length = i.size) → cap < xs.length + ys.length → ∃ u w' G', (Builtin.append_ #[t, tx] ty #[a.eval x, a.eval y]).run P w = .ok u w' ∧ Sim E ((.tip id, some (.ptr id 0)) :: dull id st) G' a w' ∧ RelV G' (.own id i.size (xs ++ ys)) u := by
    intro base cap olds hex hold hro hlo hcx hlt
    have hr := run_append_grow_src (P := P) w t tx ty e i z ht hi hz base xs.length cap olds hold (a.eval y) ys.length us hsrc hlt (by omega) (growslice_fits hlt (by rw [hib]; exact hroom))
    have hge := grownCap_ge w (xs.length + ys.length) cap e
    have hb : Below w.heap.size w w.drew := ⟨rfl, rfl, rfl, Nat.le_refl _, fun _ _ => rfl⟩
    have s1 := s.later0 hb
    have hlen : (olds ++ us).length = (xs.length + ys.length) * i.size := by rw [List.length_append, hlo, hlus, Nat.add_mul]
    generalize hcs : (olds ++ us).toArray ++ Builtin.zeroCells z.cells (grownCap w (xs.length + ys.length) cap e - (xs.length + ys.length)) = cs at hr
    have hsize : cs.size = grownCap w (xs.length + ys.length) cap e * i.size := by
      rw [← hcs, Array.size_append, List.size_toArray, hlen, size_zeroCells, hzs, ← Nat.add_mul]
      congr 1
      omega
    have hn : (xs.length + ys.length) * i.size ≤ cs.size := by rw [hsize]; exact Nat.mul_le_mul_right _ hge
    have s2 := s1.row ((xs.length + ys.length) * i.size) cs e (0, 0) hn
    have hget : ∀ k u, (olds ++ us)[k]? = some u → cs[k]? = some u := fun k u hk => by
      rw [← hcs, Array.getElem?_append_left (by rw [List.size_toArray]; exact (List.getElem?_eq_some_iff.1 hk).1), List.getElem?_toArray]; exact hk
    have s3 := s2.retip (id := id) (b := w.heap.size) (n := (xs.length + ys.length) * i.size) (z := cs.size) (k := true) (fun _ => by
      refine ⟨.inl s.size, ⟨cs, e, by show (w.heap.push _)[w.heap.size]? = _; rw [Array.getElem?_push, if_pos rfl], Nat.le_refl _⟩, fun o ho => ?_, fun j hj hc => ?_, fun j hj hl hk hc => ?_⟩
      · show Stab.row _ _ _ _ _ _ = none
        unfold Stab.row
        rw [if_pos (show w.heap.size = w.drew.heap.size from rfl), if_neg (by omega)]
      · have := (s.boxes j hj).2.1
        have hc' : G.μ j = w.heap.size := hc
        omega
      · obtain ⟨_, ⟨cs', ty', q2, _⟩, _⟩ := s.tips j hl hk
        have := lt_of_block q2
        have hc' : G.tb j = w.heap.size := hc
        omega)
    refine ⟨_, _, _, (by rw [hex]; exact hr), s3, .inr ⟨by simp [upd], 0, grownCap w (xs.length + ys.length) cap e, ?_, ?_, ?_, ?_, ?_⟩⟩
    · simp [upd, List.length_append]
    · rw [List.length_append]; exact hge
    · show RelE (Stab.row G.S w.heap.size _ cs) i.size (xs ++ ys) ((upd G.tb id w.heap.size) id) 0
      simp only [upd, if_true]
      refine relE_of (fun q hq => (List.mem_append.1 hq).elim (hcx q) (hcells q)) ?_
      rw [flat_append]
      have hle := s1.row_le ((xs.length + ys.length) * i.size) cs
      refine relP_of (RelL.mono hle (relL_append hro hrus)) fun k u hk => ?_
      rw [Nat.zero_add]
      show Stab.row _ w.heap.size _ cs w.heap.size k = some u
      rw [row_get (by rw [← hlen]; exact (List.getElem?_eq_some_iff.1 hk).1)]
      exact hget k u hk
    · simp [upd, List.length_append]
    · simp [upd, hsize]
  rcases hvx with ⟨hk, rfl, hu⟩ | ⟨hk, o, cap, hu, hcap, he, hte, htz⟩
  · -- it was none
    by_cases hz0 : ys.length = 0
    · have hys : ys = [] := List.length_eq_zero_iff.1 hz0
      subst hys
      have hus : us = [] := List.length_eq_zero_iff.1 (by simpa using hlus)
      subst hus
      have s1 := s.retip (id := id) (b := 0) (n := 0) (z := 0) (k := false) (fun c => by cases c)
      refine ⟨.slice none 0 0, w, _, ?_, s1, .inl ⟨by simp [upd], rfl, rfl⟩⟩
      have h2 := hsrc.cells
      simp only [List.length_nil] at h2
      rw [hu]
      simp [Builtin.append_, run_underlying ht, run_underlying htx, sizeOf, run_typeInfo w hi, hsrc.len, h2]
    · exact grow none 0 [] hu (run_firstCells_none w.drew i.size 0 0 0) .nil (by simp) (by simp) (by simp; omega)
  · obtain ⟨hpx, hlx, hcx⟩ := relE_flat he
    obtain ⟨olds, ho1, ho2, ho3⟩ := relP_vals hpx
    by_cases hr : xs.length + ys.length ≤ cap
    · obtain ⟨t1, ⟨old, oty, t2, t3⟩, t4, t5⟩ := s.tips id (by rw [htip]; simp) hk
      have hfit : G.te id + us.length ≤ G.tz id := by rw [hte, htz, hlus, Nat.add_assoc, ← Nat.add_mul]; exact Nat.add_le_add_left (Nat.mul_le_mul_right _ hr) _
      have s1 := s.extend (us := us) (by rw [htip]; simp) hk t2 (by omega)
      have s2 := s1.retip (id := id) (b := G.tb id) (n := G.te id + us.length) (z := G.tz id) (k := true) (fun _ => by
        refine ⟨t1, ⟨_, oty, heap_setRow_same _ t2, by rw [splice_size (by omega)]; exact t3⟩, fun p hp => ?_, fun j hj => ?_, fun j hj hl hk' hc => ?_⟩
        · show Stab.more _ _ _ _ _ _ = none
          unfold Stab.more
          rw [if_neg (by omega)]; exact t4 p (by omega)
        · rw [look_ne _ _ (by simp)] at hj; exact t5 j hj
        · rw [look_ne _ _ (by simpa using fun c => hj c.symm)] at hl
          exact hj (s.tinj j id hl (by rw [htip]; simp) hk' hk hc))
      have s3 := s2.same (st' := (.tip id, some (.ptr id 0)) :: dull id st) (fun q => by
        rw [look_cons, look_cons]
        by_cases hq : Loc.tip id = q
        · rw [if_pos hq, if_pos hq]
        · rw [if_neg hq, if_neg hq, look_dull, look_dull, look_ne _ _ hq])
      have hone' : ∀ u ∈ us, u.oneCell' = true := relL_one hrus hone
      have hst := run_storeCells_at P (G.tb id) (o + xs.length * i.size) oty us 0 old w t2 (by rw [hte] at hfit; omega) hone'
      refine ⟨.slice (some ⟨G.tb id, o, none⟩) (xs.length + ys.length) cap, _, _, ?_, s3, .inr ⟨by simp [upd], o, cap, ?_, ?_, ?_, ?_, ?_⟩⟩
      · have e1 : (Builtin.append_ #[t, tx] ty #[a.eval x, a.eval y]).run P w = .ok (.slice (some ⟨G.tb id, o, none⟩) (xs.length + ys.length) cap) (w.setRow (G.tb id) (splice old (G.te id) us)) := by
          rw [hu]
          have h2 := hsrc.cells
          simp [Builtin.append_, run_underlying ht, run_underlying htx, sizeOf, run_typeInfo w hi, hsrc.len, hr, h2, add_at, hst, splice, hte]
        exact e1
      · simp [upd, List.length_append]
      · rw [List.length_append]; exact hr
      · show RelE (Stab.more G.S (G.tb id) (G.te id) us) i.size (xs ++ ys) ((upd G.tb id (G.tb id)) id) o
        simp only [upd, if_true]
        have hle : G.S.le (G.S.more (G.tb id) (G.te id) us) := fun b p v hv => by
          unfold Stab.more
          rw [if_neg]
          · exact hv
          · rintro ⟨rfl, h1, _⟩; rw [t4 p h1] at hv; cases hv
        refine relE_append (RelE.mono hle he) (relE_of hcells (relP_of (RelL.mono hle hrus) fun k u hku => ?_))
        show Stab.more G.S (G.tb id) (G.te id) us (G.tb id) _ = some u
        have hklt := (List.getElem?_eq_some_iff.1 hku).1
        unfold Stab.more
        rw [if_pos ⟨rfl, by omega, by omega⟩, hte, show o + xs.length * i.size + k - (o + xs.length * i.size) = k from by omega]
        exact hku
      · simp [upd, List.length_append, hte, hlus, Nat.add_mul, Nat.add_assoc]
      · simp [upd, htz]
    · refine grow _ cap olds hu ?_ ho2 (by rw [ho1, hlx]) hcx (by omega)
      have h3 := run_loadCells_list (P := P) w.drew ⟨G.tb id, o, none⟩ olds (fun j u hj => by rw [add_at]; exact s.stable _ _ _ (ho3 j u hj))
      have h4 : olds.length = xs.length * i.size := by rw [ho1, hlx]
      rw [h4] at h3
      simpa [Builtin.firstCells] using h3
end Go.Ab
