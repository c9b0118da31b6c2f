/- Calls walked in place: the caller's slots are kept as old ones, the callee's code is walked on the same world. No program. -/
import Derived.Test.YtbgeejmhkmjfdaaGreatDoorAbMut
import Derived.LoopN
namespace Go.Ab
open Go Go.RowKit
set_option linter.unusedVariables false
set_option linter.unusedSimpArgs false
variable {P : Program} {E : Env} {st : St} {G : Gh} {a : Act} {w : World} {Q : Exit → Act → World → Prop} {d : Nat} {ty : TypeId} {pos : String} {af : Array Edge} {g : Option (Nat × Bool)} {x y : Operand}
def enterSt (N : Nat) : St → St
  | [] => []
  | (.slot t, v) :: r => match Nat.blt t N with
    | true => (.old t, v) :: enterSt N r
    | false => enterSt N r
  | (.old k, v) :: r => (.old (k + N), v) :: enterSt N r
  | (.cell i o, v) :: r => (.cell i o, v) :: enterSt N r
  | (.box i, v) :: r => (.box i, v) :: enterSt N r
  | (.tip i, v) :: r => (.tip i, v) :: enterSt N r
  | (.iter i, v) :: r => (.iter i, v) :: enterSt N r
def leaveSt (N : Nat) : St → St
  | [] => []
  | (.slot _, _) :: r => leaveSt N r
  | (.old k, v) :: r => match Nat.blt k N with
    | true => (.slot k, v) :: leaveSt N r
    | false => (.old (k - N), v) :: leaveSt N r
  | (.cell i o, v) :: r => (.cell i o, v) :: leaveSt N r
  | (.box i, v) :: r => (.box i, v) :: leaveSt N r
  | (.tip i, v) :: r => (.tip i, v) :: leaveSt N r
  | (.iter i, v) :: r => (.iter i, v) :: leaveSt N r
def Loc.high : Loc → Bool
  | .slot _ => false
  | .old _ => false
  | _ => true
theorem look_enter (N : Nat) (k : Loc) (hk : k.high = true) : ∀ st : St, look (enterSt N st) k = look st k
  | [] => rfl
  | (l, v) :: r => by
    have ih := look_enter N k hk r
    cases l with
    | slot t =>
      have h1 : Loc.slot t ≠ k := by rintro rfl; cases hk
      rw [look_ne _ _ h1]
      unfold enterSt
      split
      · rw [look_ne _ _ (by rintro rfl; cases hk)]; exact ih
      · exact ih
    | old t =>
      have h1 : Loc.old t ≠ k := by rintro rfl; cases hk
      rw [look_ne _ _ h1]
      unfold enterSt
      rw [look_ne _ _ (by rintro rfl; cases hk)]; exact ih
    | cell i o => unfold enterSt; rw [look_cons, look_cons, ih]
    | box i => unfold enterSt; rw [look_cons, look_cons, ih]
    | tip i => unfold enterSt; rw [look_cons, look_cons, ih]
    | iter i => unfold enterSt; rw [look_cons, look_cons, ih]
theorem look_enter_slot (N t : Nat) : ∀ st : St, look (enterSt N st) (.slot t) = none
  | [] => rfl
  | (l, v) :: r => by
    have ih := look_enter_slot N t r
    cases l with
    | slot u =>
      unfold enterSt
      split
      · rw [look_ne _ _ (by simp)]; exact ih
      · exact ih
    | old u => unfold enterSt; rw [look_ne _ _ (by simp)]; exact ih
    | cell i o => unfold enterSt; rw [look_ne _ _ (by simp)]; exact ih
    | box i => unfold enterSt; rw [look_ne _ _ (by simp)]; exact ih
    | tip i => unfold enterSt; rw [look_ne _ _ (by simp)]; exact ih
    | iter i => unfold enterSt; rw [look_ne _ _ (by simp)]; exact ih
theorem look_enter_old (N k : Nat) : ∀ st : St, look (enterSt N st) (.old k) = if k < N then look st (.slot k) else look st (.old (k - N))
  | [] => by simp [enterSt, look]
  | (l, v) :: r => by
    have ih := look_enter_old N k r
    cases l with
    | slot u =>
      unfold enterSt
      split
      · rename_i hb
        have hu : u < N := Nat.le_of_ble_eq_true hb
        rw [look_cons, ih]
        by_cases hk : u = k
        · subst hk; rw [if_pos rfl, if_pos hu, look_same]
        · rw [if_neg (by simpa using hk), look_ne _ _ (by simpa using hk), look_ne _ _ (by simp)]
      · rename_i hb
        have hu : ¬ u < N := fun c => by rw [show Nat.blt u N = true from Nat.ble_eq_true_of_le c] at hb; cases hb
        rw [ih]
        by_cases hk : k < N
        · rw [if_pos hk, if_pos hk, look_ne _ _ (by simp; omega)]
        · rw [if_neg hk, if_neg hk, look_ne _ _ (by simp)]
    | old u =>
      unfold enterSt
      rw [look_cons, ih]
      by_cases hk : u + N = k
      · rw [if_pos (by rw [hk]), if_neg (by omega), show k - N = u from by omega, look_same]
      · rw [if_neg (by simpa using hk), look_ne _ _ (by simp)]
        by_cases hk2 : k < N
        · rw [if_pos hk2, if_pos hk2]
        · rw [if_neg hk2, if_neg hk2, look_ne _ _ (by simp; omega)]
    | cell i o => unfold enterSt; rw [look_ne _ _ (by simp), ih, look_ne _ _ (by simp), look_ne _ _ (by simp)]
    | box i => unfold enterSt; rw [look_ne _ _ (by simp), ih, look_ne _ _ (by simp), look_ne _ _ (by simp)]
    | tip i => unfold enterSt; rw [look_ne _ _ (by simp), ih, look_ne _ _ (by simp), look_ne _ _ (by simp)]
    | iter i => unfold enterSt; rw [look_ne _ _ (by simp), ih, look_ne _ _ (by simp), look_ne _ _ (by simp)]
theorem look_leave (N : Nat) (k : Loc) (hk : k.high = true) : ∀ st : St, look (leaveSt N st) k = look st k
  | [] => rfl
  | (l, v) :: r => by
    have ih := look_leave N k hk r
    cases l with
    | slot t =>
      have h1 : Loc.slot t ≠ k := by rintro rfl; cases hk
      rw [look_ne _ _ h1]
      exact ih
    | old t =>
      have h1 : Loc.old t ≠ k := by rintro rfl; cases hk
      rw [look_ne _ _ h1]
      unfold leaveSt
      split
      · rw [look_ne _ _ (by rintro rfl; cases hk)]; exact ih
      · rw [look_ne _ _ (by rintro rfl; cases hk)]; exact ih
    | cell i o => unfold leaveSt; rw [look_cons, look_cons, ih]
    | box i => unfold leaveSt; rw [look_cons, look_cons, ih]
    | tip i => unfold leaveSt; rw [look_cons, look_cons, ih]
    | iter i => unfold leaveSt; rw [look_cons, look_cons, ih]
theorem look_leave_slot (N t : Nat) : ∀ st : St, look (leaveSt N st) (.slot t) = if t < N then look st (.old t) else none
  | [] => by simp [leaveSt, look]
  | (l, v) :: r => by
    have ih := look_leave_slot N t r
    cases l with
    | slot u => rw [show leaveSt N ((Loc.slot u, v) :: r) = leaveSt N r from rfl, ih, look_ne _ _ (by simp)]
    | old u =>
      unfold leaveSt
      split
      · rename_i hb
        have hu : u < N := Nat.le_of_ble_eq_true hb
        rw [look_cons, ih]
        by_cases hk : u = t
        · subst hk; rw [if_pos rfl, if_pos hu, look_same]
        · rw [if_neg (by simpa using hk), look_ne _ _ (by simpa using hk)]
      · rename_i hb
        have hu : ¬ u < N := fun c => by rw [show Nat.blt u N = true from Nat.ble_eq_true_of_le c] at hb; cases hb
        rw [look_ne _ _ (by simp), ih]
        by_cases hk : t < N
        · rw [if_pos hk, if_pos hk, look_ne _ _ (by simp; omega)]
        · rw [if_neg hk, if_neg hk]
    | cell i o => unfold leaveSt; rw [look_ne _ _ (by simp), ih, look_ne _ _ (by simp)]
    | box i => unfold leaveSt; rw [look_ne _ _ (by simp), ih, look_ne _ _ (by simp)]
    | tip i => unfold leaveSt; rw [look_ne _ _ (by simp), ih, look_ne _ _ (by simp)]
    | iter i => unfold leaveSt; rw [look_ne _ _ (by simp), ih, look_ne _ _ (by simp)]
theorem look_leave_old (N k : Nat) : ∀ st : St, look (leaveSt N st) (.old k) = look st (.old (k + N))
  | [] => rfl
  | (l, v) :: r => by
    have ih := look_leave_old N k r
    cases l with
    | slot u => rw [show leaveSt N ((Loc.slot u, v) :: r) = leaveSt N r from rfl, ih, look_ne _ _ (by simp)]
    | old u =>
      unfold leaveSt
      split
      · rename_i hb
        have hu : u < N := Nat.le_of_ble_eq_true hb
        rw [look_ne _ _ (by simp), ih, look_ne _ _ (by simp; omega)]
      · rename_i hb
        have hu : ¬ u < N := fun c => by rw [show Nat.blt u N = true from Nat.ble_eq_true_of_le c] at hb; cases hb
        rw [look_cons, ih]
        by_cases hk : u - N = k
        · rw [if_pos (by rw [hk]), show k + N = u from by omega, look_same]
        · rw [if_neg (by simpa using hk), look_ne _ _ (by simp; omega)]
    | cell i o => unfold leaveSt; rw [look_ne _ _ (by simp), ih, look_ne _ _ (by simp)]
    | box i => unfold leaveSt; rw [look_ne _ _ (by simp), ih, look_ne _ _ (by simp)]
    | tip i => unfold leaveSt; rw [look_ne _ _ (by simp), ih, look_ne _ _ (by simp)]
    | iter i => unfold leaveSt; rw [look_ne _ _ (by simp), ih, look_ne _ _ (by simp)]
def evVs (st : St) : List Operand → Option (List V)
  | [] => some []
  | x :: r => match ev st x, evVs st r with
    | some v, some l => some (v :: l)
    | _, _ => none
theorem Sim.evVs (h : Sim E st G a w) : ∀ {xs : List Operand} {vs : List V}, Ab.evVs st xs = some vs → RelVL G vs (xs.map a.eval)
  | [], vs, he => by obtain rfl := Option.some.inj he; exact relVL_nil
  | x :: r, vs, he => by
    unfold Ab.evVs at he
    split at he
    · rename_i v l h1 h2
      obtain rfl := Option.some.inj he
      exact relVL_cons (h.ev h1) (Sim.evVs h h2)
    · cases he
def vrows (k : Nat) : List V → St
  | [] => []
  | v :: l => (.slot k, some v) :: vrows (k + 1) l
theorem look_vrows (t : Nat) (r : St) : ∀ (vs : List V) (k : Nat), look (vrows k vs ++ r) (.slot t) = if k ≤ t ∧ t < k + vs.length then vs[t - k]? else look r (.slot t)
  | [], k => by simp [vrows]; intro h1 h2; omega
  | v :: l, k => by
    simp only [vrows, List.cons_append, look_cons, Loc.slot.injEq, List.length_cons]
    by_cases h : k = t
    · subst h; simp
    · rw [if_neg h, look_vrows t r l (k + 1)]
      by_cases h' : k + 1 ≤ t ∧ t < k + 1 + l.length
      · rw [if_pos h', if_pos (by omega), show t - k = (t - (k + 1)) + 1 from by omega, List.getElem?_cons_succ]
      · rw [if_neg h', if_neg (by omega)]
theorem look_vrows_ne {l : Loc} (h : ∀ t, l ≠ .slot t) (r : St) : ∀ (vs : List V) (k : Nat), look (vrows k vs ++ r) l = look r l
  | [], k => rfl
  | v :: t, k => by simp only [vrows, List.cons_append]; rw [look_ne _ _ (fun c => h k c.symm), look_vrows_ne h r t (k + 1)]
def Env.into (E : Env) (n : Nat) (a : Act) : Env := { E with N := n, keep := a.tmps ++ E.keep }
def Back (P : Program) (a : Act) (d : Nat) (ops : Array Oper) (Q : Exit → Act → World → Prop) (l : List Oper) (e : Ending) (w' : World) : Prop :=
  (∃ u, e = .returned u ∧ wpList P ops Q l (a.put (some d) u) w') ∨ ∃ ch, e = .panicked ch ∧ Q (.panic ch) a w'
theorem sq_inline0 {ops : Array Oper} {l : List Oper} {op : Oper} {f : FuncId} {fn : Func} {c : Code} {vs : List V} {n : Nat} (hdst : op.dst = some d) (hgd : op.guard = none)
    (hrun0 : ∀ G a w, Sim E st G a w → ∃ us, (execOp a.eval op).run P w = .ok (.enter f ⟨us⟩) w ∧ RelVL G vs us) (hf : P.funcs[f]? = some fn) (hb : fn.body = some c) (hn : fn.ntmps = n)
    (hfix : (E.fix.all fun p => Nat.ble n p.1) = true) (hlen : Nat.ble vs.length n = true)
    (h : ∀ a : Act, a.tmps.size = E.N → a.defers = [] → Hits (E.into n a) (vrows 0 vs ++ enterSt E.N st) (c.wp P (bodyPost P fn (Back P a d ops Q l)))) :
    Hits E st (wpList P ops Q (op :: l)) := by
  intro G a w s
  obtain ⟨us, hrun, hvs⟩ := hrun0 G a w s
  unfold wpList
  rw [if_pos (by simp [Region.wanted, hgd])]
  refine .inl ?_
  show Oper.upon P op a _ Q ((execOp a.eval op).run P w)
  rw [hrun]
  obtain ⟨hl, hget⟩ := relVL_get hvs
  have hle : vs.length ≤ n := Nat.le_of_ble_eq_true hlen
  have hs : Sim (E.into n a) (vrows 0 vs ++ enterSt E.N st) G { tmps := (⟨us⟩ : Array Value) ++ Array.replicate (fn.ntmps - (⟨us⟩ : Array Value).size) undef, defers := [] } w := by
    have hi : ∀ k : Loc, k.high = true → look (vrows 0 vs ++ enterSt E.N st) k = look st k := fun k hk => by
      rw [look_vrows_ne (fun t c => by subst c; cases hk), look_enter _ _ hk]
    refine ⟨s.kw, s.s0, s.snew, ?_, rfl, fun t v hv => ?_, fun i o v hv => ?_, fun i h1 => ?_, fun i j h1 h2 => ?_, s.stable, fun i h1 h2 => ?_, fun i j h1 h2 => ?_, fun p hp => ⟨?_, fun h1 => ?_⟩, fun i qv l h1 hcl h2 => ?_, fun i v hv => ?_, fun k v hv => ?_⟩
    · show _ = n
      have : us.length = vs.length := hl.symm
      simp [hn] at this ⊢; omega
    · rw [look_vrows] at hv
      split at hv
      · rename_i ht
        rw [Nat.sub_zero] at hv
        obtain ⟨u, hu, hr⟩ := hget t v hv
        have e : ((⟨us⟩ : Array Value) ++ Array.replicate (fn.ntmps - (⟨us⟩ : Array Value).size) undef).getD t undef = u := by
          have ht : t < us.length := (List.getElem?_eq_some_iff.1 hu).1
          rw [Array.getD_eq_getD_getElem?, Array.getElem?_append_left (by simpa using ht)]
          simp only [List.getElem?_toArray, hu, Option.getD_some]
        show RelV G v _
        rw [e]; exact hr
      · rw [look_enter_slot] at hv; cases hv
    · rw [hi _ rfl] at hv; rw [hi _ rfl]; exact s.cells i o v hv
    · rw [hi _ rfl] at h1; exact s.boxes i h1
    · rw [hi _ rfl] at h1 h2; exact s.inj i j h1 h2
    · rw [hi _ rfl] at h1
      obtain ⟨q1, q2, q3, q4⟩ := s.tips i h1 h2
      exact ⟨q1, q2, q3, fun j hj => q4 j (by rw [hi _ rfl] at hj; exact hj)⟩
    · rw [hi _ rfl] at h1 h2; exact s.tinj i j h1 h2
    · exact Nat.le_of_ble_eq_true (List.all_eq_true.mp hfix p hp)
    · rw [hi _ rfl] at h1; exact (s.rcv p hp).2 h1
    · rw [hi _ rfl] at h1; exact s.conts i qv l h1 hcl h2
    · rw [hi _ rfl] at hv; rw [hi _ rfl]; exact s.iters i v hv
    · rw [look_vrows_ne (fun t => by simp), look_enter_old] at hv
      show RelV G v ((a.tmps ++ E.keep).getD k undef)
      split at hv
      · rename_i hk
        have := s.slots k v hv
        rwa [show (a.tmps ++ E.keep).getD k undef = a.tmps.getD k undef from by rw [Array.getD_eq_getD_getElem?, Array.getD_eq_getD_getElem?, Array.getElem?_append_left (by rw [s.tmps]; exact hk)]]
      · rename_i hk
        have := s.olds (k - E.N) v hv
        rwa [show (a.tmps ++ E.keep).getD k undef = E.keep.getD (k - E.N) undef from by rw [Array.getD_eq_getD_getElem?, Array.getD_eq_getD_getElem?, Array.getElem?_append_right (by rw [s.tmps]; omega), s.tmps]]
  refine (calls_of_wp hf hb (h a s.tmps s.defers G _ w hs)).mono ?_
  rintro e w' (⟨u, rfl, hu⟩ | ⟨ch, rfl, hu⟩)
  · rw [← hdst] at hu; exact hu
  · exact hu
theorem sq_inline {ops : Array Oper} {l : List Oper} {f : FuncId} {fn : Func} {c : Code} {xs : List Operand} {ats : Array TypeId} {vs : List V} {n : Nat} (hen : enters P f = true) (hf : P.funcs[f]? = some fn) (hb : fn.body = some c) (hn : fn.ntmps = n)
    (hfix : (E.fix.all fun p => Nat.ble n p.1) = true) (ha : evVs st xs = some vs) (hlen : Nat.ble vs.length n = true)
    (h : ∀ a : Act, a.tmps.size = E.N → a.defers = [] → Hits (E.into n a) (vrows 0 vs ++ enterSt E.N st) (c.wp P (bodyPost P fn (Back P a d ops Q l)))) :
    Hits E st (wpList P ops Q (⟨some d, .call ⟨.value (.func f), xs.toArray, ats⟩, ty, pos, af, none⟩ :: l)) :=
  sq_inline0 rfl rfl (fun G a w s => ⟨xs.map a.eval, by
    have ef : a.eval (.func f) = .func (.func f) #[] #[] := rfl
    simp [execOp, resolve, ef, Deferred.ofValue, invoke, run_callFunc hen], s.evVs ha⟩) hf hb hn hfix hlen h
theorem sq_inlineV {ops : Array Oper} {l : List Oper} {f : FuncId} {fn : Func} {c : Code} {v : Operand} {xs : List Operand} {ats : Array TypeId} {vs : List V} {n b : Nat} (hen : enters P f = true) (hf : P.funcs[f]? = some fn) (hb : fn.body = some c) (hn : fn.ntmps = n)
    (hfix : (E.fix.all fun p => Nat.ble n p.1) = true) (hv : ev st v = some (.d (.sc (.func (.func f) #[.pointer (some ⟨b, 0, none⟩)] #[])))) (hfx : E.fix = [(1000000, b)]) (hbox : (look st (.box 1000000)).isSome = true) (ha : evVs st xs = some vs) (hlen : Nat.ble (vs.length + 1) n = true)
    (h : ∀ a : Act, a.tmps.size = E.N → a.defers = [] → Hits (E.into n a) (vrows 0 (.ptr 1000000 0 :: vs) ++ enterSt E.N st) (c.wp P (bodyPost P fn (Back P a d ops Q l)))) :
    Hits E st (wpList P ops Q (⟨some d, .call ⟨.value v, xs.toArray, ats⟩, ty, pos, af, none⟩ :: l)) :=
  sq_inline0 (vs := .ptr 1000000 0 :: vs) rfl rfl (fun G a w s => by
    have e1 := s.sc hv
    have hm : G.μ 1000000 = b := (s.rcv (1000000, b) (by rw [hfx]; simp)).2 (by intro c; rw [c] at hbox; cases hbox)
    refine ⟨.pointer (some ⟨b, 0, none⟩) :: xs.map a.eval, ?_, relVL_cons (by show _ = _; rw [hm]) (s.evVs ha)⟩
    simp [execOp, resolve, e1, Deferred.ofValue, invoke, run_callFunc hen]) hf hb hn hfix hlen h
theorem Sim.back {n : Nat} {a0 : Act} {r : V} {u : Value} (h0 : a0.tmps.size = E.N) (hd0 : a0.defers = []) (hd : d < E.N) (hfix : (E.fix.all fun p => Nat.ble E.N p.1) = true) (s : Sim (E.into n a0) st G a w) (hr : RelV G r u) : Sim E ((.slot d, some r) :: leaveSt E.N st) G (a0.put (some d) u) w := by
  have hi : ∀ k : Loc, k.high = true → look (leaveSt E.N st) k = look st k := fun k hk => look_leave _ _ hk st
  have s1 : Sim E (leaveSt E.N st) G a0 w := by
    refine ⟨s.kw, s.s0, s.snew, h0, hd0, fun t v hv => ?_, fun i o v hv => ?_, fun i h1 => ?_, fun i j h1 h2 => ?_, s.stable, fun i h1 h2 => ?_, fun i j h1 h2 => ?_, fun p hp => ⟨Nat.le_of_ble_eq_true (List.all_eq_true.mp hfix p hp), fun h1 => ?_⟩, fun i qv l h1 hcl h2 => ?_, fun i v hv => ?_, fun k v hv => ?_⟩
    · rw [look_leave_slot] at hv
      split at hv
      · rename_i ht
        have : RelV G v ((a0.tmps ++ E.keep).getD t undef) := s.olds t v hv
        rwa [show (a0.tmps ++ E.keep).getD t undef = a0.tmps.getD t undef from by rw [Array.getD_eq_getD_getElem?, Array.getD_eq_getD_getElem?, Array.getElem?_append_left (by rw [h0]; exact ht)]] at this
      · cases hv
    · rw [hi _ rfl] at hv; rw [hi _ rfl]; exact s.cells i o v hv
    · rw [hi _ rfl] at h1; exact s.boxes i h1
    · rw [hi _ rfl] at h1 h2; exact s.inj i j h1 h2
    · rw [hi _ rfl] at h1
      obtain ⟨q1, q2, q3, q4⟩ := s.tips i h1 h2
      exact ⟨q1, q2, q3, fun j hj => q4 j (by rw [hi _ rfl] at hj; exact hj)⟩
    · rw [hi _ rfl] at h1 h2; exact s.tinj i j h1 h2
    · rw [hi _ rfl] at h1; exact (s.rcv p hp).2 h1
    · rw [hi _ rfl] at h1; exact s.conts i qv l h1 hcl h2
    · rw [hi _ rfl] at hv; rw [hi _ rfl]; exact s.iters i v hv
    · rw [look_leave_old] at hv
      have : RelV G v ((a0.tmps ++ E.keep).getD (k + E.N) undef) := s.olds (k + E.N) v hv
      rwa [show (a0.tmps ++ E.keep).getD (k + E.N) undef = E.keep.getD k undef from by rw [Array.getD_eq_getD_getElem?, Array.getD_eq_getD_getElem?, Array.getElem?_append_right (by rw [h0]; omega), h0, Nat.add_sub_cancel]] at this
  exact s1.put hd hr
theorem hits_back {fn : Func} {ops : Array Oper} {l : List Oper} {n : Nat} {a0 : Act} {ds : List D} {r : D} {e : Exit} (he : e = .ret ∨ e = .normal) (h0 : a0.tmps.size = E.N) (hd0 : a0.defers = []) (hr : resDs P st fn.results.toList = some ds) (hp : packD ds = r) (hd : d < E.N) (hfix : (E.fix.all fun p => Nat.ble E.N p.1) = true)
    (h : Hits E ((.slot d, some (.d r)) :: leaveSt E.N st) (wpList P ops Q l)) : Hits (E.into n a0) st (bodyPost P fn (Back P a0 d ops Q l) e) := by
  intro G a w s
  obtain ⟨us, h1, h2⟩ := s.resDs hr
  have key : ∃ u, (results fn a.tmps).run P w = .ok u w ∧ Rel G.S r u := by
    rw [results_eq, Array.mapM_eq_mapM_toList]
    simp only [Sem.run_bind, Sem.run_map, h1, Result.andThen_ok, Sem.run_pure]
    subst hp
    cases h2 with
    | nil => exact ⟨_, rfl, .tup .nil⟩
    | cons h3 h4 =>
      cases h4 with
      | nil => exact ⟨_, rfl, h3⟩
      | cons h5 h6 => exact ⟨_, by simp, .tup (.cons h3 (.cons h5 h6))⟩
  obtain ⟨u, hu, hrel⟩ := key
  have hs := s.back h0 hd0 hd hfix (r := .d r) hrel
  rcases he with rfl | rfl
  · exact ⟨s.defers, u, hu, .inl ⟨u, rfl, h _ _ _ hs⟩⟩
  · exact ⟨s.defers, u, hu, .inl ⟨u, rfl, h _ _ _ hs⟩⟩
end Go.Ab
