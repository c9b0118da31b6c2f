/- Interface values, and the bytes of a string as a list. No program. -/
import Derived.Test.YtbgeejmhkmjfdaaGreatDoorAbLift
import Derived.Lib.ConvBytes
import Derived.Lib.AtoiErrMem
import Derived.Laws.AppendOwn
import Derived.Stop.IfaceNil
namespace Go.Ab
open Go Go.RowKit
set_option linter.unusedVariables false
set_option linter.unusedSimpArgs false
variable {P : Program} {E : Env} {st : St} {d : Nat} {ty : TypeId} {pos : String} {af : Array Edge} {g : Option (Nat × Bool)} {x y : Operand}
def nif (P : Program) (t : TypeId) : Bool :=
  match P.underlying t with
  | some (.interface _) => false
  | some _ => true
  | none => false
theorem f_mkIface {t : TypeId} {u : Value} (hx : ev st x = some (.d (.sc u))) (ht : nif P t = true) (hd : d < E.N) :
    FOk P E ⟨some d, .makeInterface t x, ty, pos, af, g⟩ st (evL x) [] [(.slot d, some (.d (.sc (.iface t u))))] :=
  fok_val rfl hd fun st' G a w hL hs => by
    have e1 := hs.sc ((ev_same hL fun l h => h).trans hx)
    refine ⟨_, ?_, .sc _⟩
    unfold nif at ht
    split at ht
    · cases ht
    · rename_i u hu hne
      simp only [execOp, e1, Instr.makeInterface, Sem.run_bind, run_underlying hne, Result.andThen_ok]
      cases u <;> first | rfl | (exact absurd rfl (hu _))
    · cases ht
def bytesL (s : ByteArray) : List D := s.data.toList.map fun b => .sc (.int .u8 b.toNat)
theorem bytesL_length (s : ByteArray) : (bytesL s).length = s.size := by simp [bytesL]
theorem f_bytes {src dst e : TypeId} {s : ByteArray} (hx : ev st x = some (.d (.sc (.string s)))) (hs : (P.underlying src).isSome = true) (ht : P.underlying dst = some (.slice e)) (he : P.underlying e = some (.int .u8)) (hd : d < E.N) :
    FOk P E ⟨some d, .convert src dst x, ty, pos, af, g⟩ st (evL x) [] [(.slot d, some (.d (.list 1 (bytesL s))))] :=
  fok_later rfl hd fun st' G a w hL hsim => by
    have e1 := hsim.sc ((ev_same hL fun l h => h).trans hx)
    obtain ⟨u, hu⟩ := Option.isSome_iff_exists.mp hs
    have hr := Lib.run_convert_string_bytes (P := P) w src dst e s hu ht he
    have hcap : s.size ≤ grownCap w s.size 0 e := grownCap_ge _ _ _ _
    let cs : Array Value := ⟨s.data.toList.map fun b => Value.int .u8 b.toNat⟩
    have hcs : ∀ (o : Nat) (v : Value), (Stab.row G.S w.heap.size s.size cs) w.heap.size o = some v → (Lib.bytesWorld w e s).cell? ⟨w.heap.size, o, none⟩ = some v := by
      intro o v hv
      simp only [Stab.row, if_true] at hv
      split at hv
      · rename_i ho
        rw [Lib.bytesWorld_cell w e s o ho, ← hv]
        have ho' : o < s.data.size := ho
        simp only [cs, List.getElem?_toArray, List.getElem?_map, List.getD, Array.getElem?_toList, Array.getElem?_eq_getElem ho', Option.map_some, Option.getD_some]
      · cases hv
    refine ⟨_, _, Stab.row G.S w.heap.size s.size cs, by simp only [execOp, e1, Sem.run_bind, hr]; rfl, Lib.bytesWorld_below _ _ _, hsim.row_le _ _, fun b o v hv => ?_, ?_⟩
    · by_cases hb : b = w.heap.size
      · subst hb; exact .inr ⟨Nat.le_refl _, hcs o v hv⟩
      · left; simpa [Stab.row, hb] using hv
    · show Rel _ (.list 1 (bytesL s)) _
      rw [show s.size = (bytesL s).length from (bytesL_length s).symm]
      refine .list (by rw [bytesL_length]; exact hcap) (relE_of (fun q hq => ?_) ?_)
      · obtain ⟨b, _, rfl⟩ := List.mem_map.mp hq; rfl
      · have hf : flat (bytesL s) = bytesL s := by
          unfold flat bytesL
          induction s.data.toList with
          | nil => rfl
          | cons c l ih => simp only [List.map_cons, List.flatMap_cons, ih]; rfl
        rw [hf]
        have hrel : RelL G.S (bytesL s) cs.toList := by
          show RelL G.S (s.data.toList.map _) (s.data.toList.map _)
          induction s.data.toList with
          | nil => exact .nil
          | cons c l ih => exact .cons (.sc _) ih
        refine relP_of (us := cs.toList) (RelL.mono (hsim.row_le _ _) hrel) fun k u hk => ?_
        have hk' : k < s.size := by
          have h := (List.getElem?_eq_some_iff.mp hk).1
          simpa [cs] using h
        simp only [Nat.zero_add, Stab.row, if_true]
        rw [if_pos (by rw [bytesL_length]; exact hk')]
        simpa using hk
theorem f_ifNe {t yt : TypeId} {s : TypeId} {c : Value} (hx : ev st x = some (.d (.sc (.iface s c)))) (ht : P.isIface t = true) (hd : d < E.N) :
    FOk P E ⟨some d, .binOp .neq t x (.const .nilIface) yt, ty, pos, af, g⟩ st (evL x) [] [(.slot d, some (.d (.sc (.bool true))))] :=
  fok_val rfl hd fun st' G a w hL hs => by
    have e1 := hs.sc ((ev_same hL fun l h => h).trans hx)
    refine ⟨_, ?_, .sc _⟩
    have e2 : a.eval (.const .nilIface) = .nilIface := rfl
    have e3 : (eqGuard .neq t x (.const .nilIface) (.iface s c) .nilIface).run P w = .ok () w := rfl
    simp only [execOp, e1, e2, Sem.run_bind, e3, Result.andThen_ok, run_neq_iface_nil w t ht]
    rfl
theorem f_ifNe0 {t yt : TypeId} (hx : ev st x = some (.d (.sc .nilIface))) (ht : P.isIface t = true) (hd : d < E.N) :
    FOk P E ⟨some d, .binOp .neq t x (.const .nilIface) yt, ty, pos, af, g⟩ st (evL x) [] [(.slot d, some (.d (.sc (.bool false))))] :=
  fok_val rfl hd fun st' G a w hL hs => by
    have e1 := hs.sc ((ev_same hL fun l h => h).trans hx)
    refine ⟨_, ?_, .sc _⟩
    have e2 : a.eval (.const .nilIface) = .nilIface := rfl
    have e3 : (eqGuard .neq t x (.const .nilIface) .nilIface .nilIface).run P w = .ok () w := by cases x <;> rfl
    simp only [execOp, e1, e2, Sem.run_bind, e3, Result.andThen_ok, run_neq_nil_nil_at w t ht]
    rfl
theorem hits_via {X : Type} {c : Code} {Q : Exit → Act → World → Prop} (I : X → St) (J : X → Prop) (b : Nat) (h : (∀ x, J x → Hits E (I x) (Q (.exit b))) → Hits E st ((Code.loop c).wp P Q)) (h' : ∀ x, J x → Hits E (I x) (Q (.exit b))) : Hits E st ((Code.loop c).wp P Q) := h h'
theorem hits_out {X : Type} {I : X → St} {J : X → Prop} {K : Act → World → Prop} (h : ∀ x, J x → Hits E (I x) K) (x : X) (hJ : J x) (hk : (I x).kept st) (hb : (I x).boxed = true) : Hits E st K := fun G a w s => h x hJ G a w (s.keep hk hb)
end Go.Ab
