/- One operation at a time: what a walk knows behind it. No program. -/
import Derived.Test.YtbgeejmhkmjfdaaGreatDoorAb
import Derived.Test.YtbgeejmhkmjfdaaGreatDoorAbMem
import Derived.ChangeKeysEq
import Derived.Laws.Cells
namespace Go.Ab
open Go Go.RowKit
set_option linter.unusedVariables false
set_option linter.unusedSimpArgs false
variable {P : Program} {E : Env} {st : St} {G : Gh} {a : Act} {w : World}
def Hits (E : Env) (st : St) (K : Act → World → Prop) : Prop := ∀ G a w, Sim E st G a w → K a w
theorem Hits.mono {K K' : Act → World → Prop} (h : Hits E st K) (hk : ∀ a w, K a w → K' a w) : Hits E st K' := fun G a w s => hk _ _ (h G a w s)
theorem Hits.keep {st' : St} {K : Act → World → Prop} (hk : st'.kept st) (hb : st'.boxed = true) (h : Hits E st' K) : Hits E st K := fun G a w s => h G a w (s.keep hk hb)
def FOk (P : Program) (E : Env) (o : Oper) (st0 : St) (L : List Loc) (fr : List Nat) (W : St) : Prop :=
  ∀ (Q : Exit → Act → World → Prop) (K : Act → World → Prop) (st : St), (∀ l ∈ L, look st l = look st0 l) → (∀ i ∈ fr, st.unused i = true) → Hits E (W ++ st) K → Hits E st fun a w => o.wp P a w K Q
def D.ofVal : Value → D
  | .agg cs => .agg (cs.toList.map .sc)
  | v => .sc v
theorem rel_ofVal (S : Stab) (v : Value) : Rel S (D.ofVal v) v := by
  cases v with
  | agg cs =>
    obtain ⟨l⟩ := cs
    refine .agg ?_
    show RelL S (l.map .sc) l
    induction l with
    | nil => exact .nil
    | cons x l ih => exact .cons (.sc x) ih
  | _ => exact .sc _
def ev (st : St) : Operand → Option V
  | .tmp t => look st (.slot t)
  | .const v => some (.d (D.ofVal v))
  | .global g => some (.d (.sc (.pointer (some ⟨g, 0, none⟩))))
  | .func f => some (.d (.sc (.func (.func f) #[] #[])))
def evL : Operand → List Loc
  | .tmp t => [.slot t]
  | _ => []
theorem Sim.ev (h : Sim E st G a w) {x : Operand} {v : V} (he : ev st x = some v) : RelV G v (a.eval x) := by
  cases x with
  | tmp t => exact h.slots t v he
  | const c => obtain rfl := Option.some.inj he; exact rel_ofVal _ c
  | global g => obtain rfl := Option.some.inj he; exact .sc _
  | func f => obtain rfl := Option.some.inj he; exact .sc _
theorem ev_same {st st0 : St} {x : Operand} {L : List Loc} (hL : ∀ l ∈ L, look st l = look st0 l) (hx : ∀ l ∈ evL x, l ∈ L) : ev st x = ev st0 x := by
  cases x with
  | tmp t => exact hL _ (hx _ (by simp [evL]))
  | _ => rfl
def evs (st : St) : List Operand → Option (List D)
  | [] => some []
  | x :: r => match ev st x, evs st r with
    | some (.d d), some l => some (d :: l)
    | some (.own _ es q), some l => some (.list es q :: l)
    | _, _ => none
def evsL (l : List Operand) : List Loc := l.flatMap evL
theorem Sim.evs (h : Sim E st G a w) : ∀ {xs : List Operand} {ds : List D}, evs st xs = some ds → RelL G.S ds (xs.map a.eval)
  | [], ds, he => by obtain rfl := Option.some.inj he; exact .nil
  | x :: r, ds, he => by
    unfold Ab.evs at he
    cases hx : Ab.ev st x with
    | none => rw [hx] at he; cases he
    | some v =>
      cases hr : Ab.evs st r with
      | none => rw [hx, hr] at he; cases v <;> cases he
      | some l =>
        rw [hx, hr] at he
        have h1 := h.ev hx
        have h2 := Sim.evs h hr
        cases v with
        | d d => obtain rfl := Option.some.inj he; exact .cons h1 h2
        | own id es q => obtain rfl := Option.some.inj he; exact .cons (relV_own h1) h2
        | _ => cases he
theorem evs_same {st st0 : St} {L : List Loc} (hL : ∀ l ∈ L, look st l = look st0 l) : ∀ {xs : List Operand}, (∀ l ∈ evsL xs, l ∈ L) → evs st xs = evs st0 xs
  | [], _ => rfl
  | x :: r, hx => by
    unfold evs
    rw [ev_same hL (fun l hl => hx l (by simp [evsL, hl])), evs_same hL (xs := r) (fun l hl => hx l (by simp only [evsL, List.flatMap_cons, List.mem_append]; exact .inr hl))]
theorem fok_later {o : Oper} {d : Nat} {v : V} {L : List Loc} (ho : o.dst = some d) (hd : d < E.N)
    (run : ∀ (st' : St) (G : Gh) (a : Act) (w : World), (∀ l ∈ L, look st' l = look st l) → Sim E st' G a w → ∃ u w' S', (execOp a.eval o).run P w = .ok (.value u) w' ∧ Below w.heap.size w w' ∧ G.S.le S' ∧
      (∀ b o v, S' b o = some v → G.S b o = some v ∨ (w.heap.size ≤ b ∧ w'.cell? ⟨b, o, none⟩ = some v)) ∧ RelV { G with S := S' } v u) :
    FOk P E o st L [] [(.slot d, some v)] := by
  intro Q K st' hL _ hK G a w hs
  obtain ⟨u, w', S', hr, hb, hS, hn, hv⟩ := run st' G a w hL hs
  show o.upon P a K Q ((execOp a.eval o).run P w)
  rw [hr]
  show K (a.put o.dst u) w'
  rw [ho]
  exact hK _ _ _ ((hs.later hb hS hn).put hd hv)
theorem fok_val {o : Oper} {d : Nat} {v : V} {L : List Loc} (ho : o.dst = some d) (hd : d < E.N)
    (run : ∀ (st' : St) (G : Gh) (a : Act) (w : World), (∀ l ∈ L, look st' l = look st l) → Sim E st' G a w → ∃ u, (execOp a.eval o).run P w = .ok (.value u) w ∧ RelV G v u) :
    FOk P E o st L [] [(.slot d, some v)] :=
  fok_later ho hd fun st' G a w hL hs =>
    let ⟨u, hr, hv⟩ := run st' G a w hL hs
    ⟨u, w, G.S, hr, Below.refl _ _, Stab.le.refl _, fun _ _ _ e => .inl e, hv⟩
variable {d : Nat} {ty : TypeId} {pos : String} {af : Array Edge} {g : Option (Nat × Bool)} {x y z : Operand}
theorem mem_l {α : Type} {A B : List α} {l : α} (h : l ∈ A) : l ∈ A ++ B := List.mem_append_left _ h
theorem mem_r {α : Type} {A B : List α} {l : α} (h : l ∈ B) : l ∈ A ++ B := List.mem_append_right _ h
theorem f_move {v : V} (hx : ev st x = some v) (hd : d < E.N) : FOk P E ⟨some d, .move x, ty, pos, af, g⟩ st (evL x) [] [(.slot d, some v)] :=
  fok_val rfl hd fun st' G a w hL hs => ⟨a.eval x, rfl, hs.ev ((ev_same hL fun l h => h).trans hx)⟩
theorem f_assign {v : V} (hx : ev st x = some v) (hd : d < E.N) : FOk P E ⟨some d, .assign x, ty, pos, af, g⟩ st (evL x) [] [(.slot d, some v)] :=
  fok_val rfl hd fun st' G a w hL hs => ⟨a.eval x, rfl, hs.ev ((ev_same hL fun l h => h).trans hx)⟩
theorem rel_sc {S : Stab} {v u : Value} (h : Rel S (.sc v) u) : u = v := by cases h; rfl
theorem Sim.sc (h : Sim E st G a w) {x : Operand} {v : Value} (he : Ab.ev st x = some (.d (.sc v))) : a.eval x = v := rel_sc (h.ev he)
def pickV (st : St) (x y : Operand) : Bool → Option V
  | true => ev st x
  | false => ev st y
theorem f_pick {c : Bool} {v : V} (hz : ev st z = some (.d (.sc (.bool c)))) (hx : pickV st x y c = some v) (hd : d < E.N) :
    FOk P E ⟨some d, .pick z x y, ty, pos, af, g⟩ st (evL z ++ (evL x ++ evL y)) [] [(.slot d, some v)] :=
  fok_val rfl hd fun st' G a w hL hs => by
    have e1 := hs.sc ((ev_same hL fun l h => mem_l h).trans hz)
    refine ⟨if c then a.eval x else a.eval y, by simp [execOp, e1, asBool], ?_⟩
    cases c with
    | true => exact hs.ev ((ev_same hL fun l h => mem_r (mem_l h)).trans hx)
    | false => exact hs.ev ((ev_same hL fun l h => mem_r (mem_r h)).trans hx)
def binS (op : BinOp) : Value → Value → Option Value
  | .int k p, .int k' q => if k = k' then match op with
      | .add => some (.int k (k.wrap (p + q)))
      | .sub => some (.int k (k.wrap (p - q)))
      | .mul => some (.int k (k.wrap (p * q)))
      | .and => some (.int k (bits .and k p q))
      | .or => some (.int k (bits .or k p q))
      | .xor => some (.int k (bits .xor k p q))
      | .andNot => some (.int k (bits .andNot k p q))
      | .eql => some (.bool (p == q))
      | .neq => some (.bool (p != q))
      | .lss => some (.bool (decide (p < q)))
      | .leq => some (.bool (decide (p ≤ q)))
      | .gtr => some (.bool (decide (p > q)))
      | .geq => some (.bool (decide (p ≥ q)))
      | _ => none else none
  | .string p, .string q => match op with
      | .eql => some (.bool (p.toList == q.toList))
      | .neq => some (.bool (!(p.toList == q.toList)))
      | _ => none
  | _, _ => none
theorem run_binS {op : BinOp} {t : TypeId} {x y : Operand} {p q v : Value} (h : binS op p q = some v) (w : World) :
    ((do eqGuard op t x y p q; binOp op t p q) : Sem Value).run P w = .ok v w := by
  cases p <;> cases q <;> simp only [binS] at h <;> try (cases h; done)
  · split at h
    · rename_i hk; subst hk
      cases op <;> simp only at h <;> first
        | (cases h; done)
        | (obtain rfl := Option.some.inj h; simp [eqGuard, binOp, Op.intArith, Op.intCmp, Op.intBits, bits])
    · cases h
  · cases op <;> simp only at h <;> first
      | (cases h; done)
      | (obtain rfl := Option.some.inj h; simp [eqGuard, binOp, Op.stringOp])
theorem f_bin {op : BinOp} {t yt : TypeId} {p q v : Value} (hx : ev st x = some (.d (.sc p))) (hy : ev st y = some (.d (.sc q))) (hv : binS op p q = some v) (hd : d < E.N) :
    FOk P E ⟨some d, .binOp op t x y yt, ty, pos, af, g⟩ st (evL x ++ evL y) [] [(.slot d, some (.d (.sc v)))] :=
  fok_val rfl hd fun st' G a w hL hs => by
    have e1 := hs.sc ((ev_same hL fun l h => mem_l h).trans hx)
    have e2 := hs.sc ((ev_same hL fun l h => mem_r h).trans hy)
    have e3 := run_binS (P := P) (t := t) (x := x) (y := y) hv w
    exact ⟨v, by simp only [execOp, e1, e2]; rw [Sem.run_bind, e3]; rfl, .sc _⟩
def unS (op : UnOp) : Value → Option Value
  | .bool b => match op with
    | .not => some (.bool !b)
    | _ => none
  | .int k n => match op with
    | .neg => some (.int k (k.wrap (0 - n)))
    | .xor => some (.int k (bits .xor k (if k.signed then -1 else k.max) n))
    | _ => none
  | _ => none
theorem f_un {op : UnOp} {t : TypeId} {p v : Value} (hx : ev st x = some (.d (.sc p))) (hv : unS op p = some v) (hd : d < E.N) :
    FOk P E ⟨some d, .unOp op t x, ty, pos, af, g⟩ st (evL x) [] [(.slot d, some (.d (.sc v)))] :=
  fok_val rfl hd fun st' G a w hL hs => by
    have e1 := hs.sc ((ev_same hL fun l h => h).trans hx)
    refine ⟨v, ?_, .sc _⟩
    have e2 : Op.unary op p = pure v := by
      cases p <;> simp only [unS] at hv <;> try (cases hv; done)
      all_goals (cases op <;> simp only at hv <;> first | (cases hv; done) | (obtain rfl := Option.some.inj hv; rfl))
    simp only [execOp, e1, e2]; rfl
theorem f_shl {t yt : TypeId} {k k' : IntKind} {p q : Int} (hx : ev st x = some (.d (.sc (.int k p)))) (hy : ev st y = some (.d (.sc (.int k' q)))) (h0 : 0 ≤ q) (hd : d < E.N) :
    FOk P E ⟨some d, .binOp .shl t x y yt, ty, pos, af, g⟩ st (evL x ++ evL y) [] [(.slot d, some (.d (.sc (.int k (k.wrap (p * 2 ^ (min q.toNat k.bits)))))))] :=
  fok_val rfl hd fun st' G a w hL hs => by
    have e1 := hs.sc ((ev_same hL fun l h => mem_l h).trans hx)
    have e2 := hs.sc ((ev_same hL fun l h => mem_r h).trans hy)
    have e3 : Op.shift .shl k p k' q = pure (.int k (k.wrap (p * 2 ^ (min q.toNat k.bits)))) := by unfold Op.shift; rw [if_neg (by omega)]
    exact ⟨_, by simp [execOp, e1, e2, eqGuard, binOp, e3], .sc _⟩
theorem f_shr {t yt : TypeId} {k k' : IntKind} {p q : Int} (hx : ev st x = some (.d (.sc (.int k p)))) (hy : ev st y = some (.d (.sc (.int k' q)))) (h0 : 0 ≤ q) (hd : d < E.N) :
    FOk P E ⟨some d, .binOp .shr t x y yt, ty, pos, af, g⟩ st (evL x ++ evL y) [] [(.slot d, some (.d (.sc (.int k (p.fdiv (2 ^ (min q.toNat k.bits)))))))] :=
  fok_val rfl hd fun st' G a w hL hs => by
    have e1 := hs.sc ((ev_same hL fun l h => mem_l h).trans hx)
    have e2 := hs.sc ((ev_same hL fun l h => mem_r h).trans hy)
    have e3 : Op.shift .shr k p k' q = pure (.int k (p.fdiv (2 ^ (min q.toNat k.bits)))) := by unfold Op.shift; rw [if_neg (by omega)]
    exact ⟨_, by simp [execOp, e1, e2, eqGuard, binOp, e3], .sc _⟩
theorem f_div {t yt : TypeId} {k : IntKind} {p q : Int} (hx : ev st x = some (.d (.sc (.int k p)))) (hy : ev st y = some (.d (.sc (.int k q)))) (h0 : q ≠ 0) (hd : d < E.N) :
    FOk P E ⟨some d, .binOp .quo t x y yt, ty, pos, af, g⟩ st (evL x ++ evL y) [] [(.slot d, some (.d (.sc (.int k (k.wrap (p.tdiv q))))))] :=
  fok_val rfl hd fun st' G a w hL hs => by
    have e1 := hs.sc ((ev_same hL fun l h => mem_l h).trans hx)
    have e2 := hs.sc ((ev_same hL fun l h => mem_r h).trans hy)
    exact ⟨_, by simp [execOp, e1, e2, eqGuard, binOp, Op.intDiv, h0], .sc _⟩
theorem f_rem {t yt : TypeId} {k : IntKind} {p q : Int} (hx : ev st x = some (.d (.sc (.int k p)))) (hy : ev st y = some (.d (.sc (.int k q)))) (h0 : q ≠ 0) (hd : d < E.N) :
    FOk P E ⟨some d, .binOp .rem t x y yt, ty, pos, af, g⟩ st (evL x ++ evL y) [] [(.slot d, some (.d (.sc (.int k (p.tmod q)))))] :=
  fok_val rfl hd fun st' G a w hL hs => by
    have e1 := hs.sc ((ev_same hL fun l h => mem_l h).trans hx)
    have e2 := hs.sc ((ev_same hL fun l h => mem_r h).trans hy)
    exact ⟨_, by simp [execOp, e1, e2, eqGuard, binOp, Op.intDiv, h0], .sc _⟩
theorem f_cat {t yt : TypeId} {p q : ByteArray} (hx : ev st x = some (.d (.sc (.string p)))) (hy : ev st y = some (.d (.sc (.string q)))) (h0 : p.size + q.size ≤ 9223372036854775807) (hd : d < E.N) :
    FOk P E ⟨some d, .binOp .add t x y yt, ty, pos, af, g⟩ st (evL x ++ evL y) [] [(.slot d, some (.d (.sc (.string (p ++ q)))))] :=
  fok_val rfl hd fun st' G a w hL hs => by
    have e1 := hs.sc ((ev_same hL fun l h => mem_l h).trans hx)
    have e2 := hs.sc ((ev_same hL fun l h => mem_r h).trans hy)
    have e3 : Op.stringOp .add p q = pure (.string (p ++ q)) := by
      unfold Op.stringOp
      simp only
      rw [if_neg]
      have : IntKind.i64.max = 9223372036854775807 := by decide
      omega
    exact ⟨_, by simp [execOp, e1, e2, eqGuard, binOp, e3], .sc _⟩
theorem f_binW {op : BinOp} {t yt : TypeId} {p q v : Value} (hx : ev st x = some (.d (.sc p))) (hy : ev st y = some (.d (.sc q))) (hv : ∀ w, ((do eqGuard op t x y p q; binOp op t p q) : Sem Value).run P w = .ok v w) (hd : d < E.N) :
    FOk P E ⟨some d, .binOp op t x y yt, ty, pos, af, g⟩ st (evL x ++ evL y) [] [(.slot d, some (.d (.sc v)))] :=
  fok_val rfl hd fun st' G a w hL hs => by
    have e1 := hs.sc ((ev_same hL fun l h => mem_l h).trans hx)
    have e2 := hs.sc ((ev_same hL fun l h => mem_r h).trans hy)
    exact ⟨v, by simp only [execOp, e1, e2]; rw [Sem.run_bind, hv]; rfl, .sc _⟩
def scs : List D → Option (List Value)
  | [] => some []
  | .sc v :: r => (scs r).map (v :: ·)
  | _ => none
theorem rel_scs {S : Stab} : ∀ {l : List D} {vs us : List Value}, scs l = some vs → RelL S l us → us = vs
  | [], vs, us, h, hr => by cases hr; exact (Option.some.inj h)
  | .sc v :: r, vs, u :: us, h, .cons h1 h2 => by
    unfold scs at h
    cases hr : scs r with
    | none => rw [hr] at h; cases h
    | some q =>
      rw [hr] at h
      obtain rfl := Option.some.inj h
      rw [rel_sc h1, rel_scs hr h2]
  | .agg _ :: _, _, _, h, _ => by cases h
  | .tup _ :: _, _, _, h, _ => by cases h
  | .list _ _ :: _, _, _, h, _ => by cases h
  | .eptr _ :: _, _, _, h, _ => by cases h
theorem f_eqA {op : BinOp} {t yt : TypeId} {l l' : List D} {p q : List Value} {v : Bool} (hx : ev st x = some (.d (.agg l))) (hy : ev st y = some (.d (.agg l'))) (hp : scs l = some p) (hq : scs l' = some q)
    (hv : ∀ w, ((do eqGuard op t x y (.agg ⟨p⟩) (.agg ⟨q⟩); binOp op t (.agg ⟨p⟩) (.agg ⟨q⟩)) : Sem Value).run P w = .ok (.bool v) w) (hd : d < E.N) :
    FOk P E ⟨some d, .binOp op t x y yt, ty, pos, af, g⟩ st (evL x ++ evL y) [] [(.slot d, some (.d (.sc (.bool v))))] :=
  fok_val rfl hd fun st' G a w hL hs => by
    have e1 := hs.ev ((ev_same hL fun l h => mem_l h).trans hx)
    have e2 := hs.ev ((ev_same hL fun l h => mem_r h).trans hy)
    cases hc : a.eval x <;> rw [hc] at e1 <;> cases e1
    cases hc' : a.eval y <;> rw [hc'] at e2 <;> cases e2
    rename_i h1 _ h2
    obtain rfl := rel_scs hp h1
    obtain rfl := rel_scs hq h2
    exact ⟨.bool v, by simp only [execOp, hc, hc']; rw [Sem.run_bind, hv]; rfl, .sc _⟩
theorem f_conv {src dst : TypeId} {k k' : IntKind} {n : Int} (hx : ev st x = some (.d (.sc (.int k n)))) (hs : (P.underlying src).isSome = true) (ht : P.underlying dst = some (.int k')) (hd : d < E.N) :
    FOk P E ⟨some d, .convert src dst x, ty, pos, af, g⟩ st (evL x) [] [(.slot d, some (.d (.sc (.int k' (k'.wrap n)))))] :=
  fok_val rfl hd fun st' G a w hL hsim => by
    have e1 := hsim.sc ((ev_same hL fun l h => h).trans hx)
    obtain ⟨u, hu⟩ := Option.isSome_iff_exists.mp hs
    exact ⟨_, by simp [execOp, e1, convert, run_underlying hu, run_underlying ht, Conv.intToInt], .sc _⟩
theorem f_extract {k : Nat} {l : List D} {v : D} (hx : ev st x = some (.d (.tup l))) (hk : l[k]? = some v) (hd : d < E.N) :
    FOk P E ⟨some d, .extract x k, ty, pos, af, g⟩ st (evL x) [] [(.slot d, some (.d v))] :=
  fok_val rfl hd fun st' G a w hL hs => by
    have e1 := hs.ev ((ev_same hL fun l h => h).trans hx)
    cases hc : a.eval x <;> rw [hc] at e1 <;> cases e1
    rename_i cs hl
    have : ∀ {l : List D} {us : List Value} {k : Nat} {v : D}, RelL G.S l us → l[k]? = some v → ∃ u, us[k]? = some u ∧ Rel G.S v u := by
      intro l
      induction l with
      | nil => intro us k v _ h; simp at h
      | cons d l ih =>
        intro us k v h hk
        cases h with
        | cons h1 h2 =>
          cases k with
          | zero => simp at hk; subst hk; exact ⟨_, rfl, h1⟩
          | succ k => simpa using ih h2 (by simpa using hk)
    obtain ⟨u, hu, hr⟩ := this hl hk
    exact ⟨u, by simp [execOp, hc, Instr.extract, hu], hr⟩
def kd (P : Program) (t : TypeId) : Option (Bool × Nat) :=
  match P.underlying t, P.info? t with
  | some u, some i => some (match u with | .struct _ | .array _ _ => true | _ => false, i.size)
  | _, _ => none
theorem kd_spec {t : TypeId} {b : Bool} {n : Nat} (h : kd P t = some (b, n)) : (∀ w, (isAgg t).run P w = .ok b w) ∧ (∀ w, (sizeOf t).run P w = .ok n w) ∧ ∃ i, P.info? t = some i ∧ i.size = n := by
  unfold kd at h
  cases hu : P.underlying t with
  | none => simp [hu] at h
  | some u =>
    cases hi : P.info? t with
    | none => simp [hu, hi] at h
    | some i =>
      simp only [hu, hi, Option.some.injEq, Prod.mk.injEq] at h
      obtain ⟨h1, h2⟩ := h
      refine ⟨fun w => ?_, fun w => by simp [sizeOf, run_typeInfo w hi, h2], i, rfl, h2⟩
      cases u <;> simp_all [isAgg, run_underlying hu]
theorem run_loadVar1 {t : TypeId} {n : Nat} {ad : Addr} {v : Value} (hk : kd P t = some (false, n)) (hc : w.cell? ad = some v) : (loadVar t ad).run P w = .ok v w := by
  obtain ⟨h1, _, _⟩ := kd_spec hk
  simp [loadVar, h1, hc]
theorem add_at (b o j : Nat) : (⟨b, o, none⟩ : Addr).add j = ⟨b, o + j, none⟩ := by unfold Addr.add; split <;> simp_all
theorem run_loadVarN {t : TypeId} {n b o : Nat} {us : List Value} (hk : kd P t = some (true, n)) (hn : us.length = n) (hc : ∀ j v, us[j]? = some v → w.cell? ⟨b, o + j, none⟩ = some v) :
    (loadVar t ⟨b, o, none⟩).run P w = .ok (.agg us.toArray) w := by
  obtain ⟨h1, h2, _⟩ := kd_spec hk
  have h3 := run_loadCells_list (P := P) w ⟨b, o, none⟩ us (fun j v hv => by rw [add_at]; exact hc j v hv)
  rw [hn] at h3
  simp [loadVar, h1, h2, h3]
def cellsD (st : St) (id : Nat) : Nat → Nat → Option (List D)
  | _, 0 => some []
  | o, n + 1 => match look st (.cell id o), cellsD st id (o + 1) n with
    | some (.d x), some l => some (x :: l)
    | _, _ => none
def cellsL (id : Nat) : Nat → Nat → List Loc
  | _, 0 => []
  | o, n + 1 => .cell id o :: cellsL id (o + 1) n
theorem cellsD_same {st st0 : St} {id : Nat} : ∀ {n o : Nat}, (∀ l ∈ cellsL id o n, look st l = look st0 l) → cellsD st id o n = cellsD st0 id o n
  | 0, _, _ => rfl
  | n + 1, o, h => by
    unfold cellsD
    rw [h (.cell id o) (by simp [cellsL]), cellsD_same (n := n) (fun l hl => h l (by simp [cellsL, hl]))]
theorem Sim.cellsD (h : Sim E st G a w) {id : Nat} : ∀ {n o : Nat} {l : List D}, Ab.cellsD st id o n = some l → ∃ us : List Value, us.length = n ∧ RelL G.S l us ∧ ∀ j v, us[j]? = some v → w.cell? ⟨G.μ id, o + j, none⟩ = some v
  | 0, o, l, hl => by obtain rfl := Option.some.inj hl; exact ⟨[], rfl, .nil, by simp⟩
  | n + 1, o, l, hl => by
    unfold Ab.cellsD at hl
    cases hc : look st (.cell id o) with
    | none => rw [hc] at hl; cases hl
    | some v =>
      cases hr : Ab.cellsD st id (o + 1) n with
      | none => rw [hc, hr] at hl; cases v <;> cases hl
      | some r =>
        rw [hc, hr] at hl
        cases v with
        | d x =>
          obtain rfl := Option.some.inj hl
          obtain ⟨us, h1, h2, h3⟩ := Sim.cellsD h hr
          obtain ⟨_, cs, ty, cv, h4, h5, h6⟩ := h.cells id o _ hc
          refine ⟨cv :: us, by simp [h1], .cons h6 h2, fun j u hu => ?_⟩
          cases j with
          | zero => simp at hu; subst hu; rw [Nat.add_zero, cell_of_block h4]; exact h5
          | succ j => rw [show o + (j + 1) = o + 1 + j from by omega]; exact h3 j u (by simpa using hu)
        | _ => cases hl
def ldV (st : St) : Bool × Nat → V → Option V
  | (false, _), .ptr id off => look st (.cell id off)
  | (true, n), .ptr id off => (cellsD st id off n).map fun l => .d (.agg l)
  | (false, _), .d (.eptr (x :: _)) => some (.d x)
  | (true, n), .d (.eptr l) => match Nat.ble n l.length with
    | true => some (.d (.agg (l.take n)))
    | false => none
  | _, _ => none
def ldL : Bool × Nat → V → List Loc
  | (false, _), .ptr id off => [.cell id off]
  | (true, n), .ptr id off => cellsL id off n
  | _, _ => []
theorem relL_take {S : Stab} : ∀ {l : List D} {us : List Value} (n : Nat), RelL S l us → RelL S (l.take n) (us.take n)
  | [], [], n, _ => by simp; exact .nil
  | _ :: _, _ :: _, 0, _ => .nil
  | _ :: _, _ :: _, n + 1, .cons h1 h2 => .cons h1 (relL_take n h2)
theorem f_load {t : TypeId} {k : Bool × Nat} {p v : V} (hk : kd P t = some k) (hx : ev st x = some p) (hv : ldV st k p = some v) (hd : d < E.N) :
    FOk P E ⟨some d, .load t x, ty, pos, af, g⟩ st (evL x ++ ldL k p) [] [(.slot d, some v)] :=
  fok_val rfl hd fun st' G a w hL hs => by
    have e1 := hs.ev ((ev_same hL fun l h => mem_l h).trans hx)
    have hL2 : ∀ l ∈ ldL k p, look st' l = look st l := fun l h => hL l (mem_r h)
    obtain ⟨b, n⟩ := k
    cases p with
    | ptr id off =>
      have e2 : a.eval x = .pointer (some ⟨G.μ id, off, none⟩) := e1
      cases b with
      | false =>
        have hv' : look st' (.cell id off) = some v := (hL2 _ (by simp [ldL])).trans hv
        obtain ⟨_, cs, ty', cv, h4, h5, h6⟩ := hs.cells id off v hv'
        exact ⟨cv, by simp [execOp, e2, Instr.loadAt, Instr.sureAddr, run_loadVar1 hk ((cell_of_block h4).trans h5)], h6⟩
      | true =>
        simp only [ldV, Option.map_eq_some_iff] at hv
        obtain ⟨l, hl, rfl⟩ := hv
        obtain ⟨us, h1, h2, h3⟩ := hs.cellsD ((cellsD_same hL2).trans hl)
        exact ⟨.agg us.toArray, by simp [execOp, e2, Instr.loadAt, Instr.sureAddr, run_loadVarN hk h1 h3], .agg h2⟩
    | d q =>
      cases q with
      | eptr l =>
        cases hc : a.eval x <;> rw [hc] at e1 <;> cases e1
        rename_i b' o hp
        obtain ⟨us, h1, h2, h3⟩ := relP_vals hp
        have h3' : ∀ j u, us[j]? = some u → w.cell? ⟨b', o + j, none⟩ = some u := fun j u hu => hs.stable _ _ _ (h3 j u hu)
        cases b with
        | false =>
          cases l with
          | nil => simp [ldV] at hv
          | cons q l =>
            simp only [ldV, Option.some.injEq] at hv
            subst hv
            cases h2 with
            | cons h4 h5 =>
              rename_i u us'
              exact ⟨u, by simp [execOp, hc, Instr.loadAt, Instr.sureAddr, run_loadVar1 hk (show w.cell? ⟨b', o, none⟩ = some u from h3' 0 u (by simp))], h4⟩
        | true =>
          simp only [ldV] at hv
          split at hv
          · rename_i hle
            have hle' : n ≤ l.length := Nat.le_of_ble_eq_true hle
            obtain rfl := Option.some.inj hv
            have h6 := run_loadVarN (P := P) (w := w) (us := us.take n) hk (by simp; omega) (b := b') (o := o) (fun j u hu => h3' j u (by rw [List.getElem?_take] at hu; split at hu; exact hu; cases hu))
            exact ⟨_, by simp [execOp, hc, Instr.loadAt, Instr.sureAddr, h6], .agg (relL_take n h2)⟩
          · cases hv
      | _ => simp [ldV] at hv
    | _ => simp [ldV] at hv
def V.one : V → Bool
  | .d (.sc c) => c.oneCell'
  | .d (.agg _) => false
  | .d (.tup _) => false
  | .agg _ => false
  | .tup _ => false
  | .cont _ => false
  | .contD _ => false
  | _ => true
theorem relVL_nil : RelVL G [] [] := by simp only [RelVL]
theorem relVL_cons {v : V} {u : Value} {vs : List V} {us : List Value} (h : RelV G v u) (h' : RelVL G vs us) : RelVL G (v :: vs) (u :: us) := by
  simp only [RelVL]; exact ⟨u, us, rfl, h, h'⟩
theorem relV_one {v : V} {u : Value} (h : RelV G v u) (h1 : v.one = true) : u.oneCell' = true ∧ u.cells = #[u] := by
  have key : ∀ u : Value, u.oneCell' = true → u.cells = #[u] := fun u h => by cases u <;> first | rfl | (simp [Value.oneCell'] at h)
  suffices h : u.oneCell' = true from ⟨h, key u h⟩
  cases v with
  | d x =>
    cases x with
    | sc c => rw [rel_sc h]; exact h1
    | list es l => cases h <;> rfl
    | eptr l => cases h; rfl
    | any => cases h; assumption
    | ifc t d => cases h; rfl
    | room es l m => cases h; rfl
    | clo f l => cases h; rfl
    | _ => cases h1
  | ptr id off => have : u = _ := h; rw [this]; rfl
  | mapp id => have : u = _ := h; rw [this]; rfl
  | fn f ids => have : u = _ := h; rw [this]; rfl
  | own id es l =>
    rcases h with ⟨_, _, rfl⟩ | ⟨_, o, cap, rfl, _⟩ <;> rfl
  | mo id es n =>
    rcases h with ⟨_, _, rfl⟩ | ⟨_, o, cap, rfl, _⟩ <;> rfl
  | mptr id n off =>
    obtain ⟨_, o, rfl, _⟩ := h; rfl
  | agg l => cases h1
  | tup l => cases h1
  | cont l => cases h1
  | contD l => cases h1
theorem relVL_d {S : Stab} : ∀ {l : List D} {us : List Value}, RelL G.S l us → RelVL G (l.map .d) us
  | [], [], _ => relVL_nil
  | _ :: _, _ :: _, .cons h1 h2 => relVL_cons h1 (relVL_d (S := S) h2)
theorem relVs_of {vs : List V} {us : List Value} (h : RelVL G vs us) : RelVs G vs ⟨us⟩ := by
  obtain ⟨h1, h2⟩ := relVL_get h
  exact ⟨by simpa using h1, fun i v hv => by simpa using h2 i v hv⟩
def zc (P : Program) (t : TypeId) : Option (List Value) :=
  match P.info? t with
  | some i => match i.zero with
    | some z => some z.cells.toList
    | none => none
  | none => none
theorem zc_spec {t : TypeId} {zs : List Value} (h : zc P t = some zs) : ∃ z, (∀ w, (zeroValue t).run P w = .ok z w) ∧ z.cells = ⟨zs⟩ := by
  unfold zc at h
  cases hi : P.info? t with
  | none => simp [hi] at h
  | some i =>
    cases hz : i.zero with
    | none => simp [hi, hz] at h
    | some z =>
      simp only [hi, hz, Option.some.injEq] at h
      exact ⟨z, fun w => by simp [zeroValue, run_typeInfo w hi, hz], by rw [← h]⟩
def newRows (d : Nat) (vs : List V) : St := (.slot d, some (.ptr d 0)) :: (cellRows d 0 vs ++ [(.box d, some (.ptr d 0))])
theorem fok_new {o : Oper} {vs : List V} {L : List Loc} (ho : o.dst = some d) (hd : d < E.N)
    (run : ∀ (st' : St) (G : Gh) (a : Act) (w : World), (∀ l ∈ L, look st' l = look st l) → st'.unused d = true → Sim E st' G a w → ∃ us t, (execOp a.eval o).run P w = .ok (.value (.pointer (some ⟨w.heap.size, 0, none⟩))) (w.alloc (.cells ⟨us⟩ t)) ∧
      RelVL G vs us ∧ vs.all (V.free d) = true) :
    FOk P E o st L [d] (newRows d vs) := by
  intro Q K st' hL hf hK G a w hs
  have hu := hf d (by simp)
  obtain ⟨us, t, hr, hv, hfree⟩ := run st' G a w hL hu hs
  show o.upon P a K Q ((execOp a.eval o).run P w)
  rw [hr]
  show K (a.put o.dst _) _
  rw [ho]
  have h1 := hs.alloc (ty := t) hd hu (relVs_of hv) hfree
  have h2 := h1.put (d := d) (v := .ptr d 0) (u := .pointer (some ⟨w.heap.size, 0, none⟩)) hd (by show _ = _; simp [upd])
  have e : newRows d vs ++ st' = (Loc.slot d, some (V.ptr d 0)) :: (cellRows d 0 vs ++ (Loc.box d, some (V.ptr d 0)) :: st') := by simp [newRows]
  rw [← e] at h2
  exact hK _ _ _ h2
theorem f_alloc {t : TypeId} {zs : List Value} (hz : zc P t = some zs) (hd : d < E.N) : FOk P E ⟨some d, .alloc t, ty, pos, af, g⟩ st [] [d] (newRows d (zs.map fun z => .d (.sc z))) :=
  fok_new rfl hd fun st' G a w hL hu hs => by
    obtain ⟨z, h1, h2⟩ := zc_spec hz
    refine ⟨zs, t, ?_, ?_, ?_⟩
    · simp [execOp, Instr.alloc, h1, newVar, newRow, h2]
    · clear hz h2
      induction zs with
      | nil => exact relVL_nil
      | cons z zs ih => exact relVL_cons (show Rel _ _ _ from .sc z) ih
    · simp [V.free]
def vcells : V → Option (List V)
  | .d (.agg l) => some (l.map .d)
  | .agg l => some l
  | v => if v.one then some [v] else none
theorem vcells_spec {v : V} {u : Value} {vs : List V} (h : RelV G v u) (hc : vcells v = some vs) : RelVL G vs u.cells.toList := by
  unfold vcells at hc
  split at hc
  · rename_i l
    obtain rfl := Option.some.inj hc
    cases h with
    | agg hl => exact relVL_d (S := G.S) hl
  · obtain rfl := Option.some.inj hc
    obtain ⟨cs, rfl, h2⟩ := h
    exact h2
  · split at hc
    · rename_i h1
      obtain rfl := Option.some.inj hc
      rw [(relV_one h h1).2]
      exact relVL_cons h relVL_nil
    · cases hc
theorem frees_all {id : Nat} : ∀ {l : List V}, V.frees id l = true → l.all (V.free id) = true
  | [], _ => rfl
  | v :: l, h => by
    simp only [V.frees, Bool.and_eq_true] at h
    simp only [List.all_cons, Bool.and_eq_true]
    exact ⟨h.1, frees_all h.2⟩
theorem vcells_free {v : V} {vs : List V} {id : Nat} (hc : vcells v = some vs) (hf : v.free id = true) : vs.all (V.free id) = true := by
  unfold vcells at hc
  split at hc
  · obtain rfl := Option.some.inj hc; simp [V.free]
  · obtain rfl := Option.some.inj hc
    simp only [V.free] at hf
    exact frees_all hf
  · split at hc
    · obtain rfl := Option.some.inj hc; simp [hf]
    · cases hc
theorem ev_free {x : Operand} {v : V} {id : Nat} (hu : st.unused id = true) (hx : ev st x = some v) : v.free id = true := by
  cases x with
  | tmp t => exact unused_slot hu hx
  | _ => obtain rfl := Option.some.inj hx; rfl
theorem f_box {t : TypeId} {v : V} {vs : List V} (hx : ev st x = some v) (hv : vcells v = some vs) (hd : d < E.N) : FOk P E ⟨some d, .box t x, ty, pos, af, g⟩ st (evL x) [d] (newRows d vs) :=
  fok_new rfl hd fun st' G a w hL hu hs => by
    have hx' := (ev_same hL fun l h => h).trans hx
    have e1 := hs.ev hx'
    exact ⟨(a.eval x).cells.toList, t, by simp [execOp, Instr.box, newVar, newRow], vcells_spec e1 hv, vcells_free hv (ev_free hu hx')⟩
def stW (st : St) : Bool × Nat → V → V → Option St
  | (_, n), .ptr id off, v => match vcells v with
    | some vs => match vs.length == n && (cellsL id off n).all (fun l => (look st l).isSome) && !vs.isEmpty with
      | true => some (cellRows id off vs)
      | false => none
    | none => none
  | _, _, _ => none
theorem cellsL_mem {id : Nat} : ∀ {n o k : Nat}, k < n → Loc.cell id (o + k) ∈ cellsL id o n
  | 0, _, _, h => absurd h (Nat.not_lt_zero _)
  | n + 1, o, 0, _ => by simp [cellsL]
  | n + 1, o, k + 1, h => by
    rw [show o + (k + 1) = o + 1 + k from by omega]
    exact List.mem_cons_of_mem _ (cellsL_mem (by omega))
theorem relVL_one : ∀ {vs : List V} {us : List Value}, RelVL G vs us → vs.all V.one = true → ∀ u ∈ us, u.oneCell' = true
  | [], us, h, _, u, hu => by simp only [RelVL] at h; subst h; simp at hu
  | v :: vs, us, h, h1, u, hu => by
    simp only [RelVL] at h
    obtain ⟨x, r, rfl, h2, h3⟩ := h
    simp only [List.all_cons, Bool.and_eq_true] at h1
    rcases List.mem_cons.1 hu with rfl | hu
    · exact (relV_one h2 h1.1).1
    · exact relVL_one h3 h1.2 u hu
theorem f_store {t : TypeId} {k : Bool × Nat} {p v : V} {vs : List V} {W : St} (hk : kd P t = some k) (hx : ev st x = some p) (hy : ev st y = some v) (hc : vcells v = some vs) (h1 : vs.all V.one = true) (hv : stW st k p v = some W) :
    FOk P E ⟨none, .store t x y, ty, pos, af, g⟩ st (evL x ++ (evL y ++ ldL (true, k.2) p)) [] W := by
  intro Q K st' hL _ hK G a w hs
  have e1 := hs.ev ((ev_same hL fun l h => mem_l h).trans hx)
  have e2 := hs.ev ((ev_same hL fun l h => mem_r (mem_l h)).trans hy)
  have hL2 : ∀ l ∈ ldL (true, k.2) p, look st' l = look st l := fun l h => hL l (mem_r (mem_r h))
  obtain ⟨b, n⟩ := k
  cases p with
  | ptr id off =>
    simp only [stW, hc] at hv
    split at hv
    · rename_i hcond
      simp only [Bool.and_eq_true, beq_iff_eq, Bool.not_eq_true', List.isEmpty_eq_false_iff] at hcond
      obtain ⟨⟨hn, hall⟩, hne⟩ := hcond
      obtain rfl := Option.some.inj hv
      have hr := vcells_spec e2 hc
      obtain ⟨hlen, _⟩ := relVL_get hr
      have hlen' : (a.eval y).cells.size = n := by rw [← hn, hlen]; simp
      have hpos : 0 < n := by rw [← hn]; exact List.length_pos_iff.mpr hne
      have hthere : ∀ k, k < n → ∃ x, look st' (.cell id (off + k)) = some x := fun k hk => by
        have := List.all_eq_true.1 hall _ (cellsL_mem (id := id) (o := off) hk)
        rw [← hL2 _ (cellsL_mem (id := id) (o := off) hk)] at this
        exact Option.isSome_iff_exists.mp this
      obtain ⟨x0, hx0⟩ := hthere 0 hpos
      obtain ⟨hb, cs, ty', cv, h4, h5, h6⟩ := hs.cells id _ _ hx0
      have hfit : off + n ≤ cs.size := by
        obtain ⟨x1, hx1⟩ := hthere (n - 1) (by omega)
        obtain ⟨_, cs', ty'', cv', h4', h5', _⟩ := hs.cells id _ _ hx1
        rw [h4] at h4'
        obtain ⟨rfl, rfl⟩ : cs = cs' ∧ ty' = ty'' := by simpa using h4'
        have := (Array.getElem?_eq_some_iff.1 h5').1
        omega
      obtain ⟨_, hsz, _⟩ := kd_spec hk
      have hst := run_storeCells_at P (G.μ id) off ty' (a.eval y).cells.toList 0 cs w h4 (by simp [hlen']; exact hfit) (relVL_one hr h1)
      have e3 : a.eval x = .pointer (some ⟨G.μ id, off, none⟩) := e1
      show Oper.upon P _ a K Q ((execOp a.eval _).run P w)
      have hrun : (execOp a.eval (⟨none, .store t x y, ty, pos, af, g⟩ : Oper)).run P w = .ok .skip (w.setRow (G.μ id) (splice cs off (a.eval y).cells.toList)) := by
        simp only [execOp, e3, Instr.storeAt, Instr.sureAddr, storeVar, Sem.run_bind, Sem.run_pure, Result.andThen_ok, hsz, hlen', ne_eq, not_true_eq_false, if_false, hst]
        simp [splice]
      rw [hrun]
      show K (a.put none undef) _
      exact hK _ _ _ (hs.store hr hb h4 (by simp [hlen']; exact hfit))
    · cases hv
  | _ => simp [stW] at hv
theorem f_nil {v : V} (hx : ev st x = some v) (hn : (match v with | .ptr _ _ => true | .mptr _ _ _ => true | .fn _ _ => true | .d (.eptr _) => true | .d (.sc (.pointer (some _))) => true | .d (.sc (.func (.func _) _ _)) => true | _ => false) = true) (hd : d < E.N) :
    FOk P E ⟨some d, .nilCheck x, ty, pos, af, g⟩ st (evL x) [] [(.slot d, some v)] :=
  fok_val rfl hd fun st' G a w hL hs => by
    have e1 := hs.ev ((ev_same hL fun l h => h).trans hx)
    refine ⟨a.eval x, ?_, e1⟩
    cases v with
    | ptr id off => have e2 : a.eval x = _ := e1; simp [execOp, e2]
    | fn f ids => have e2 : a.eval x = _ := e1; simp [execOp, e2]
    | own _ _ _ => cases hn
    | mapp _ => cases hn
    | mo _ _ _ => cases hn
    | agg _ => cases hn
    | tup _ => cases hn
    | cont _ => cases hn
    | contD _ => cases hn
    | mptr id n off => obtain ⟨_, o, e2, _⟩ := e1; simp [execOp, e2]
    | d q =>
      cases q with
      | eptr l => cases hc : a.eval x <;> rw [hc] at e1 <;> cases e1; simp [execOp, hc]
      | sc c =>
        have e2 := rel_sc e1
        cases c <;> first
          | (cases hn; done)
          | skip
        · rename_i p
          cases p with
          | none => cases hn
          | some p => simp [execOp, e2]
        · rename_i fn _ _
          cases fn <;> first
            | (cases hn; done)
            | (simp [execOp, e2])
      | _ => cases hn
def kf (P : Program) (s : TypeId) (k : Nat) : Option Nat :=
  match P.underlying s with
  | some (.struct fs) => match fs[k]? with
    | some f => match P.info? f.type with
      | some i => if i.size = 0 then none else some f.offset
      | none => none
    | none => none
  | _ => none
theorem run_fieldAt {s : TypeId} {k off b o : Nat} (h : kf P s k = some off) : (Instr.fieldAt s (.pointer (some ⟨b, o, none⟩)) k).run P w = .ok (.pointer (some ⟨b, o + off, none⟩)) w := by
  unfold kf at h
  cases hu : P.underlying s with
  | none => simp [hu] at h
  | some u =>
    cases u <;> simp only [hu] at h <;> try (cases h; done)
    rename_i fs
    cases hf : fs[k]? with
    | none => simp [hf] at h
    | some f =>
      cases hi : P.info? f.type with
      | none => simp [hf, hi] at h
      | some i =>
        simp only [hf, hi] at h
        split at h
        · cases h
        · rename_i hz
          obtain rfl := Option.some.inj h
          simp [Instr.fieldAt, run_underlying hu, hf, Instr.sureAddr, fieldPlace, sizeOf, run_typeInfo w hi, hz, add_at]
def faV (off : Nat) : V → Option V
  | .ptr id o => some (.ptr id (o + off))
  | .d (.eptr l) => some (.d (.eptr (l.drop off)))
  | _ => none
theorem relP_drop {S : Stab} {b : Nat} : ∀ {l : List D} {o : Nat} (n : Nat), RelP S l b o → RelP S (l.drop n) b (o + n)
  | l, o, 0, h => h
  | [], o, n + 1, h => .nil
  | _ :: l, o, n + 1, .cons _ _ h => by rw [show o + (n + 1) = o + 1 + n from by omega]; exact relP_drop n h
theorem f_fieldAddr {s : TypeId} {k off : Nat} {p v : V} (hx : ev st x = some p) (hk : kf P s k = some off) (hv : faV off p = some v) (hd : d < E.N) :
    FOk P E ⟨some d, .fieldAddr s x k, ty, pos, af, g⟩ st (evL x) [] [(.slot d, some v)] :=
  fok_val rfl hd fun st' G a w hL hs => by
    have e1 := hs.ev ((ev_same hL fun l h => h).trans hx)
    cases p with
    | ptr id o =>
      have e2 : a.eval x = _ := e1
      obtain rfl := Option.some.inj hv
      exact ⟨_, by simp [execOp, e2, run_fieldAt hk], rfl⟩
    | d q =>
      cases q with
      | eptr l =>
        obtain rfl := Option.some.inj hv
        cases hc : a.eval x <;> rw [hc] at e1 <;> cases e1
        rename_i b o hp
        exact ⟨_, by simp [execOp, hc, run_fieldAt hk], .eptr (relP_drop off hp)⟩
      | _ => cases hv
    | _ => cases hv
end Go.Ab
