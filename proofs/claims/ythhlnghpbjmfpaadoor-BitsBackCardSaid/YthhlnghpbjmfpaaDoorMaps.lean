/- Maps that the call makes and fills with constants: an entry laid under a new key; a look-up. Over any program. -/
import Derived.MapKept
import Derived.OwnWalk
import Derived.Maps.OwnOps
import Derived.Test.YthhlnghpbjmfpaaDoorWMore
namespace Go.Proofs.YthhlnghpbjmfpaaDoor.Maps
open Go.Proofs.YthhlnghpbjmfpaaDoorW.PrintWords Go.Proofs.YthhlnghpbjmfpaaDoorW.PrintLast Go.Proofs.YthhlnghpbjmfpaaDoorW.PrintMore

variable {P : Program} {w : World}

/-- An entry under a key that the map lacks. -/
theorem run_insert {mty kt et : TypeId} {r clock : Nat} {es : Array MapEntry} {key val : Value} {d : TypeDesc} (hm : P.underlying mty = some (.map kt et)) (hd : P.underlying kt = some d) (hk : MapKept.IsKey d key)
    (hb : w.heap[r]? = some (.map es clock)) (hf : Instr.findNow d key es.toList 0 = some none) :
    (Instr.mapUpdate mty (.map (some r)) key val).run P w = .ok () { w with heap := w.heap.setIfInBounds r (.map (es.push { key, val, born := clock }) (clock + 1)) } := by
  have hc : (Instr.checkKey false 10000 kt key).run P w = .ok () w := MapKept.run_checkKey hd hk false 9999
  simp [Instr.mapUpdate, run_underlying hm, MapKept.run_getObj_map hb, hc, MapKept.run_findKey hd hf, MapKept.run_setObj_map _ hb, Result.andThen]

theorem wpList_insert {ops : Array Oper} {rest : List Oper} {o : Oper} {a : Act} {Q : Exit → Act → World → Prop} (hg : o.guard = none) (m x v : Operand) (t : TypeId) (hop : o.op = Op.insert t m x v)
    {kt et : TypeId} {r clock : Nat} {es : Array MapEntry} {d : TypeDesc} (hm : P.underlying t = some (.map kt et)) (hd : P.underlying kt = some d) (key val : Value) (hev : a.eval m = .map (some r)) (hx : a.eval x = key) (hv : a.eval v = val)
    (hk : MapKept.IsKey d key) (hb : w.heap[r]? = some (.map es clock)) (hf : Instr.findNow d key es.toList 0 = some none)
    (hK : ∀ w1, w1.heap[r]? = some (.map (es.push { key, val, born := clock }) (clock + 1)) → w.grownBy w1 (some r) → wpList P ops Q rest (a.put o.dst undef) w1) :
    wpList P ops Q (o :: rest) a w := by
  refine wpList_plain hg fun K hK' => ?_
  have hrun := run_insert (val := val) hm hd hk hb hf
  have h2 := MapKept.heap_set (o' := .map (es.push { key, val, born := clock }) (clock + 1)) hb
  unfold Oper.wp
  simp [execOp, hop, hev, hx, hv, hrun, Result.andThen]
  refine hK' _ _ (hK _ h2.1 ⟨rfl, rfl, rfl, by simp, fun i hi hne => h2.2 i (fun e => hne (by rw [e]))⟩)

/-- What a look-up with 'ok' yields. -/
def yields (z : Value) : Option (Nat × Value) → Value
  | some x => .tuple #[x.2, .bool true]
  | none => .tuple #[z, .bool false]
/-- 'v, ok := m[k]'. -/
theorem run_look {mty kt et : TypeId} {r clock : Nat} {es : Array MapEntry} {key : Value} {d : TypeDesc} (hm : P.underlying mty = some (.map kt et)) (hd : P.underlying kt = some d) (hk : MapKept.IsKey d key)
    (hb : w.heap[r]? = some (.map es clock)) {f : Option (Nat × Value)} (hf : Instr.findNow d key es.toList 0 = some f) {z : Value} (hz : (zeroValue et).run P w = .ok z w) :
    (Instr.lookup mty (.map (some r)) key true).run P w = .ok (yields z f) w := by
  have hc : ∀ b, (Instr.checkKey b 10000 kt key).run P w = .ok () w := fun b => MapKept.run_checkKey hd hk b 9999
  cases f with
  | none => simp [yields, Instr.lookup, run_underlying hm, MapKept.run_getObj_map hb, hc, MapKept.run_findKey hd hf, hz, Result.andThen]
  | some x => simp [yields, Instr.lookup, run_underlying hm, MapKept.run_getObj_map hb, hc, MapKept.run_findKey hd hf, Result.andThen]

theorem wpList_look {ops : Array Oper} {rest : List Oper} {o : Oper} {a : Act} {Q : Exit → Act → World → Prop} (hg : o.guard = none) (m x : Operand) (t : TypeId) (hop : o.op = Op.lookup t m x true)
    {kt et : TypeId} {r clock : Nat} {es : Array MapEntry} {d : TypeDesc} (hm : P.underlying t = some (.map kt et)) (hd : P.underlying kt = some d) (key : Value) (hev : a.eval m = .map (some r)) (hx : a.eval x = key)
    (hk : MapKept.IsKey d key) (hb : w.heap[r]? = some (.map es clock)) {f : Option (Nat × Value)} (hf : Instr.findNow d key es.toList 0 = some f) {z : Value} (hz : (zeroValue et).run P w = .ok z w)
    {res : Value} (hres : yields z f = res) (hK : wpList P ops Q rest (a.put o.dst res) w) :
    wpList P ops Q (o :: rest) a w := by
  subst hres
  refine wpList_plain hg fun K hK' => ?_
  have hrun := run_look hm hd hk hb hf hz
  unfold Oper.wp
  simp [execOp, hop, hev, hx, hrun, Result.andThen]
  exact hK' _ _ hK
end Go.Proofs.YthhlnghpbjmfpaaDoor.Maps
