/- Rules whose result is told by an equation; structs held against one another; bytes as a string. No program. -/
import Derived.Test.YtbgeejmhkmjfdaaGreatDoorAbIter
import Derived.Laws.StructEq
import Derived.Laws.IdiomStrings
import Derived.IntWalk
import Derived.Scope
namespace Go.Ab
open Go Go.RowKit
set_option linter.unusedVariables false
set_option linter.unusedSimpArgs false
variable {P : Program} {E : Env} {st : St} {G : Gh} {a : Act} {w : World} {d : Nat} {ty : TypeId} {pos : String} {af : Array Edge} {g : Option (Nat × Bool)} {x y : Operand}
theorem bT {b b' : Bool} (h : b = b') : some (Value.bool b) = some (Value.bool b') := congrArg (fun b => some (Value.bool b)) h
theorem iT {k : IntKind} {a b : Int} (h : a = b) : some (Value.int k a) = some (Value.int k b) := congrArg (fun b => some (Value.int k b)) h
theorem f_convI {src dst : TypeId} {k k' : IntKind} {n r : Int} (hx : ev st x = some (.d (.sc (.int k n)))) (hs : (P.underlying src).isSome = true) (ht : P.underlying dst = some (.int k')) (hr : k'.wrap n = r) (hd : d < E.N) :
    FOk P E ⟨some d, .convert src dst x, ty, pos, af, g⟩ st (evL x) [] [(.slot d, some (.d (.sc (.int k' r))))] := by subst hr; exact f_conv hx hs ht hd
theorem f_shlI {t yt : TypeId} {k k' : IntKind} {p q r : Int} (hx : ev st x = some (.d (.sc (.int k p)))) (hy : ev st y = some (.d (.sc (.int k' q)))) (h0 : 0 ≤ q) (hr : k.wrap (p * 2 ^ (min q.toNat k.bits)) = r) (hd : d < E.N) :
    FOk P E ⟨some d, .binOp .shl t x y yt, ty, pos, af, g⟩ st (evL x ++ evL y) [] [(.slot d, some (.d (.sc (.int k r))))] := by subst hr; exact f_shl hx hy h0 hd
theorem f_shrI {t yt : TypeId} {k k' : IntKind} {p q r : Int} (hx : ev st x = some (.d (.sc (.int k p)))) (hy : ev st y = some (.d (.sc (.int k' q)))) (h0 : 0 ≤ q) (hr : p.fdiv (2 ^ (min q.toNat k.bits)) = r) (hd : d < E.N) :
    FOk P E ⟨some d, .binOp .shr t x y yt, ty, pos, af, g⟩ st (evL x ++ evL y) [] [(.slot d, some (.d (.sc (.int k r))))] := by subst hr; exact f_shr hx hy h0 hd
theorem f_divI {t yt : TypeId} {k : IntKind} {p q r : Int} (hx : ev st x = some (.d (.sc (.int k p)))) (hy : ev st y = some (.d (.sc (.int k q)))) (h0 : q ≠ 0) (hr : k.wrap (p.tdiv q) = r) (hd : d < E.N) :
    FOk P E ⟨some d, .binOp .quo t x y yt, ty, pos, af, g⟩ st (evL x ++ evL y) [] [(.slot d, some (.d (.sc (.int k r))))] := by subst hr; exact f_div hx hy h0 hd
theorem f_remI {t yt : TypeId} {k : IntKind} {p q r : Int} (hx : ev st x = some (.d (.sc (.int k p)))) (hy : ev st y = some (.d (.sc (.int k q)))) (h0 : q ≠ 0) (hr : p.tmod q = r) (hd : d < E.N) :
    FOk P E ⟨some d, .binOp .rem t x y yt, ty, pos, af, g⟩ st (evL x ++ evL y) [] [(.slot d, some (.d (.sc (.int k r))))] := by subst hr; exact f_rem hx hy h0 hd
theorem f_catI {t yt : TypeId} {p q r : ByteArray} (hx : ev st x = some (.d (.sc (.string p)))) (hy : ev st y = some (.d (.sc (.string q)))) (h0 : p.size + q.size ≤ 9223372036854775807) (hr : p ++ q = r) (hd : d < E.N) :
    FOk P E ⟨some d, .binOp .add t x y yt, ty, pos, af, g⟩ st (evL x ++ evL y) [] [(.slot d, some (.d (.sc (.string r))))] := by subst hr; exact f_cat hx hy h0 hd
theorem f_maxI {t1 t2 : TypeId} {k : IntKind} {p q r : Int} (hx : ev st x = some (.d (.sc (.int k p)))) (hy : ev st y = some (.d (.sc (.int k q)))) (hr : (if q > p then q else p) = r) (hd : d < E.N) :
    FOk P E ⟨some d, .call ⟨.builtin .max, #[x, y], #[t1, t2]⟩, ty, pos, af, g⟩ st (evL x ++ evL y) [] [(.slot d, some (.d (.sc (.int k r))))] := by subst hr; exact f_max hx hy hd
theorem f_idxS {t : TypeId} {s : ByteArray} {k : IntKind} {i : Nat} {c : UInt8} (hx : ev st x = some (.d (.sc (.string s)))) (hy : ev st y = some (.d (.sc (.int k (i : Int))))) (ht : P.underlying t = some .string) (hat : s.data.toList[i]? = some c) (hd : d < E.N) :
    FOk P E ⟨some d, .index t x y, ty, pos, af, g⟩ st (evL x ++ evL y) [] [(.slot d, some (.d (.sc (.int .u8 (c.toNat : Int)))))] := by
  have h1 : i < s.size := by have := (List.getElem?_eq_some_iff.mp hat).1; simpa using this
  have h2 := f_idxStr (P := P) (E := E) (ty := ty) (pos := pos) (af := af) (g := g) hx hy ht (by omega) (by omega) hd
  have e : byteAt s (i : Int) = (c.toNat : Int) := by
    unfold byteAt
    rw [Int.toNat_natCast, ← Array.getElem?_toList, hat]; rfl
  rwa [e] at h2
def B (l : List UInt8) : ByteArray := ⟨l.toArray⟩
theorem B_toList (l : List UInt8) : (B l).data.toList = l := by simp [B]
theorem B_of (s : ByteArray) : B s.data.toList = s := by cases s; simp [B]
theorem B_size (l : List UInt8) : (B l).size = l.length := by show l.toArray.size = _; simp
theorem B_app (a b : List UInt8) : B a ++ B b = B (a ++ b) := by
  rw [← B_of (B a ++ B b)]
  congr 1
theorem B_ext (l : List UInt8) (i j : Nat) : (B l).extract i j = B ((l.drop i).take (j - i)) := by
  rw [← B_of ((B l).extract i j)]
  congr 1
  rw [ByteArray.data_extract]
  simp [B, List.extract_eq_take_drop]
theorem B_beq (a b : List UInt8) : ((B a).toList == (B b).toList) = decide (a = b) := by
  rw [ByteArray.toList_eq, ByteArray.toList_eq, B_toList, B_toList]
  by_cases h : a = b
  · subst h; simp
  · simp [h]
def partV (P : Program) (t : TypeId) (xs : Array Value) (off : Nat) : Option Value :=
  match kd P t with
  | some (true, n) => some (.agg (xs.extract off (off + n)))
  | some (false, _) => xs[off]?
  | none => none
theorem run_partV {t : TypeId} {xs : Array Value} {off : Nat} {v : Value} (h : partV P t xs off = some v) (w : World) : (part t xs off).run P w = .ok v w := by
  unfold partV at h
  split at h
  · rename_i n hk
    obtain ⟨h1, h2, _⟩ := kd_spec hk
    obtain rfl := Option.some.inj h
    simp [part, h1, h2]
  · rename_i n hk
    obtain ⟨h1, h2, _⟩ := kd_spec hk
    simp [part, h1, h]
  · cases h
def asAgg : Value → Option (Array Value)
  | .agg xs => some xs
  | _ => none
theorem asAgg_spec {v : Value} {xs : Array Value} (h : asAgg v = some xs) : v = .agg xs := by
  cases v <;> simp [asAgg] at h
  subst h; rfl
def eqLeaf (u : TypeDesc) (x y : Value) : Option Bool :=
  match u, x, y with
  | .bool, .bool a, .bool b => some (a == b)
  | .int _, .int k a, .int k' b => bif k == k' then some (a == b) else none
  | .string, .string a, .string b => some (a.toList == b.toList)
  | _, _, _ => none
theorem run_eqLeaf {t : TypeId} {u : TypeDesc} {x y : Value} {b : Bool} (hu : P.underlying t = some u) (h : eqLeaf u x y = some b) (d : Nat) (w : World) : (Op.equalIn (d + 1) t x y).run P w = .ok b w := by
  unfold eqLeaf at h
  split at h
  · obtain rfl := Option.some.inj h
    exact run_equalIn_bool' w d t _ _ hu
  · rename_i k1 a k2 b'
    cases hk : (k1 == k2) with
    | false => rw [hk] at h; cases h
    | true =>
      rw [hk] at h
      obtain rfl : k1 = k2 := by cases k1 <;> cases k2 <;> first | rfl | (exact absurd hk (by decide))
      obtain rfl := Option.some.inj h
      exact run_equalIn_int w d t _ _ _ _ hu
  · obtain rfl := Option.some.inj h
    exact run_equalIn_string w d t _ _ hu
  · cases h
def asStruct : TypeDesc → Option (List Field)
  | .struct fs => some fs.toList
  | _ => none
theorem asStruct_spec {u : TypeDesc} {l : List Field} (h : asStruct u = some l) : ∃ fs : Array Field, u = .struct fs ∧ l = fs.toList := by
  cases u <;> simp [asStruct] at h
  exact ⟨_, rfl, h.symm⟩
def eqVF (P : Program) (rec : TypeId → Value → Value → Option Bool) (xs ys : Array Value) : List Field → Option Bool
  | [] => some true
  | f :: r => bif f.name == "_" then none else
    match partV P f.type xs f.offset, partV P f.type ys f.offset with
    | some a, some b => match rec f.type a b, eqVF P rec xs ys r with
      | some p, some q => some (p && q)
      | _, _ => none
    | _, _ => none
def eqV (P : Program) : Nat → TypeId → Value → Value → Option Bool
  | 0, _, _, _ => none
  | d + 1, t, x, y => match P.underlying t with
    | none => none
    | some u => match asStruct u with
      | none => eqLeaf u x y
      | some l => match asAgg x, asAgg y with
        | some xs, some ys => bif P.stoodInHeld t then none else eqVF P (eqV P d) xs ys l
        | _, _ => none
theorem run_eqVF {rec : TypeId → Value → Value → Option Bool} {m : Nat} (hrec : ∀ (t : TypeId) (x y : Value) (b : Bool) (w : World), rec t x y = some b → (Op.equalIn m t x y).run P w = .ok b w) (xs ys : Array Value) :
    ∀ (fs : List Field) (b : Bool) (w : World), eqVF P rec xs ys fs = some b → (Op.eqFields m xs ys fs).run P w = .ok b w
  | [], b, w, h => by simp [eqVF] at h; subst h; simp [Op.eqFields]
  | f :: fs, b, w, h => by
    unfold eqVF at h
    cases hn : (f.name == "_") with
    | true => rw [hn] at h; cases h
    | false =>
      rw [hn] at h
      simp only [cond_false] at h
      cases h1 : partV P f.type xs f.offset with
      | none => rw [h1] at h; cases h
      | some p =>
        cases h2 : partV P f.type ys f.offset with
        | none => rw [h1, h2] at h; cases h
        | some q =>
          rw [h1, h2] at h
          simp only at h
          cases h3 : rec f.type p q with
          | none => rw [h3] at h; cases h
          | some r =>
            cases h4 : eqVF P rec xs ys fs with
            | none => rw [h3, h4] at h; cases h
            | some r' =>
              rw [h3, h4] at h
              simp only at h
              obtain rfl := Option.some.inj h
              have e1 := run_partV h1 w
              have e2 := run_partV h2 w
              have e3 := hrec f.type p q r w h3
              have e4 := run_eqVF hrec xs ys fs r' w h4
              have hne : f.name ≠ "_" := by simpa using hn
              simp only [Op.eqFields, hne, ne_eq, not_false_eq_true, if_true, Sem.run_bind, e1, e2, e3, Result.andThen_ok]
              cases r
              · simp
              · simpa using e4
theorem run_eqV : ∀ (m : Nat) (t : TypeId) (x y : Value) (b : Bool) (k : Nat) (w : World), eqV P m t x y = some b → (Op.equalIn (k + m) t x y).run P w = .ok b w
  | 0, t, x, y, b, k, w, h => by simp [eqV] at h
  | m + 1, t, x, y, b, k, w, h => by
    unfold eqV at h
    rw [← Nat.add_assoc]
    cases hu : P.underlying t with
    | none => rw [hu] at h; simp at h
    | some u =>
      rw [hu] at h
      simp only at h
      cases hl : asStruct u with
      | none => rw [hl] at h; exact run_eqLeaf hu h (k + m) w
      | some l =>
        rw [hl] at h
        simp only at h
        cases hx : asAgg x with
        | none => rw [hx] at h; cases h
        | some xs =>
          cases hy : asAgg y with
          | none => rw [hx, hy] at h; cases h
          | some ys =>
            rw [hx, hy] at h
            simp only at h
            cases hs : P.stoodInHeld t with
            | true => rw [hs] at h; cases h
            | false =>
              rw [hs] at h
              obtain ⟨fs, rfl, rfl⟩ := asStruct_spec hl
              obtain rfl := asAgg_spec hx
              obtain rfl := asAgg_spec hy
              have hf : P.fieldsOf t = fs := by simp [Program.fieldsOf, hu]
              rw [run_equalIn_struct w (k + m) t xs ys (by rw [hf]; exact hu) hs, hf]
              exact run_eqVF (fun t x y b w h => run_eqV m t x y b k w h) xs ys fs.toList b w h
theorem run_eq_struct {m : Nat} {t : TypeId} {xs ys : Array Value} {b : Bool} (hm : m ≤ 10000) (h : eqV P m t (.agg xs) (.agg ys) = some b) (hg : P.eqGuardType P.depth t = false) (x y : Operand) (w : World) :
    ((do eqGuard .eql t x y (.agg xs) (.agg ys); binOp .eql t (.agg xs) (.agg ys)) : Sem Value).run P w = .ok (.bool b) w := by
  have h1 := run_eqV m t _ _ b (10000 - m) w h
  rw [show 10000 - m + m = 10000 from by omega] at h1
  simp only [Sem.run_bind, run_eqGuard_agg w .eql t x y xs ys hg, Result.andThen_ok, run_eql_struct, h1]
theorem f_eqS {t yt : TypeId} {m : Nat} {l l' : List D} {p q : List Value} {b v : Bool} (hx : ev st x = some (.d (.agg l))) (hy : ev st y = some (.d (.agg l'))) (hp : scs l = some p) (hq : scs l' = some q) (hg : P.eqGuardType P.depth t = false)
    (he : eqV P m t (.agg ⟨p⟩) (.agg ⟨q⟩) = some b) (hm : m ≤ 10000) (hv : b = v) (hd : d < E.N) :
    FOk P E ⟨some d, .binOp .eql t x y yt, ty, pos, af, g⟩ st (evL x ++ evL y) [] [(.slot d, some (.d (.sc (.bool v))))] := by
  subst hv; exact f_eqA hx hy hp hq (fun w => run_eq_struct hm he hg x y w) hd
variable {Q : Exit → Act → World → Prop}
theorem hits_scope {c : Code} (h : Hits E st (c.wp P (Exit.noGoto Q))) : Hits E st ((Code.scope c).wp P Q) := fun G a w s => wp_scope_straight (h G a w s)
theorem ng_ret (h : Hits E st (Q .ret)) : Hits E st (Exit.noGoto Q .ret) := h
theorem f_ifEq0 {t yt : TypeId} (hx : ev st x = some (.d (.sc .nilIface))) (ht : P.isIface t = true) (hd : d < E.N) :
    FOk P E ⟨some d, .binOp .eql t x (.const .nilIface) yt, ty, pos, af, g⟩ st (evL x) [] [(.slot d, some (.d (.sc (.bool true))))] :=
  fok_val rfl hd fun st' G a w hL hs => by
    have e1 := hs.sc ((ev_same hL fun l h => h).trans hx)
    refine ⟨_, ?_, .sc _⟩
    have e2 : a.eval (.const .nilIface) = .nilIface := rfl
    have e3 : (eqGuard .eql t x (.const .nilIface) .nilIface .nilIface).run P w = .ok () w := by cases x <;> rfl
    simp only [execOp, e1, e2, Sem.run_bind, e3, Result.andThen_ok, run_eql_nil_nil_at w t ht]
    rfl
theorem f_ifEqN {t yt : TypeId} {s : TypeId} {q : D} (hx : ev st x = some (.d (.ifc s q))) (ht : P.isIface t = true) (hd : d < E.N) :
    FOk P E ⟨some d, .binOp .eql t x (.const .nilIface) yt, ty, pos, af, g⟩ st (evL x) [] [(.slot d, some (.d (.sc (.bool false))))] :=
  fok_val rfl hd fun st' G a w hL hs => by
    have e1 := hs.ev ((ev_same hL fun l h => h).trans hx)
    refine ⟨_, ?_, .sc _⟩
    generalize hu : a.eval x = u at e1
    obtain ⟨c, rfl⟩ : ∃ c, u = .iface s c := by
      have e1' : Rel G.S (.ifc s q) u := e1
      cases e1' with
      | ifc h => exact ⟨_, rfl⟩
    have e2 : a.eval (.const .nilIface) = .nilIface := rfl
    have e3 : (eqGuard .eql t x (.const .nilIface) (.iface s c) .nilIface).run P w = .ok () w := rfl
    simp only [execOp, hu, e2, Sem.run_bind, e3, Result.andThen_ok, run_eql_iface_nil w t ht]
    rfl
theorem lift_ifc {Γ : World → Prop} {f : FuncId} {args : List D} {vs : List Value} {n : Value} {t : TypeId} (ha : plainVs args = some vs)
    (h : ∀ w, Γ w → Calls P f ⟨vs⟩ w fun e w' => ∃ u, e = .returned (.tuple #[n, .iface t u]) ∧ u.oneCell' = true ∧ Below w.heap.size w w') : CallsP P Γ f args (.tup [.sc n, .ifc t .any]) := by
  intro S w us hg hS hus
  obtain rfl := rels_plain ha hus
  refine (h w hg).mono ?_
  rintro e w' ⟨u, he, h1, hb⟩
  exact ⟨_, S, he, .tup (.cons (.sc _) (.cons (.ifc (.any h1)) .nil)), Stab.le.refl _, hb, fun _ _ _ q => .inl q⟩
end Go.Ab
