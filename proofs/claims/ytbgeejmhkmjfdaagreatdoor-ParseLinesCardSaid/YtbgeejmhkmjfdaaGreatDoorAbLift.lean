/- Contracts told over worlds, told over data. No program. -/
import Derived.Test.YtbgeejmhkmjfdaaGreatDoorAbLists
import Derived.Test.YtbgeejmhkmjfdaaGreatDoorAbMake
namespace Go.Ab
open Go Go.RowKit
set_option linter.unusedVariables false
mutual
def plainV : D → Option Value
  | .sc v => some v
  | .agg l => match plainVs l with
    | some vs => some (.agg ⟨vs⟩)
    | none => none
  | .tup l => match plainVs l with
    | some vs => some (.tuple ⟨vs⟩)
    | none => none
  | .list _ _ => none
  | .eptr _ => none
  | .any => none
  | .ifc _ _ => none
  | .room _ _ _ => none
  | .clo _ _ => none
def plainVs : List D → Option (List Value)
  | [] => some []
  | x :: l => match plainV x, plainVs l with
    | some v, some vs => some (v :: vs)
    | _, _ => none
end
mutual
theorem plain_rel {S : Stab} : ∀ {x : D} {v : Value}, plainV x = some v → Rel S x v
  | .sc _, v, h => by simp only [plainV, Option.some.injEq] at h; subst h; exact .sc _
  | .agg l, v, h => by
    simp only [plainV] at h
    split at h
    · rename_i vs hv; obtain rfl := Option.some.inj h; exact .agg (plains_rel hv)
    · cases h
  | .tup l, v, h => by
    simp only [plainV] at h
    split at h
    · rename_i vs hv; obtain rfl := Option.some.inj h; exact .tup (plains_rel hv)
    · cases h
  | .list _ _, v, h => by simp [plainV] at h
  | .eptr _, v, h => by simp [plainV] at h
  | .any, v, h => by simp [plainV] at h
  | .ifc _ _, v, h => by simp [plainV] at h
  | .room _ _ _, v, h => by simp [plainV] at h
  | .clo _ _, v, h => by simp [plainV] at h
theorem plains_rel {S : Stab} : ∀ {l : List D} {vs : List Value}, plainVs l = some vs → RelL S l vs
  | [], vs, h => by simp only [plainVs, Option.some.injEq] at h; subst h; exact .nil
  | x :: l, vs, h => by
    simp only [plainVs] at h
    split at h
    · rename_i v r hv hr; obtain rfl := Option.some.inj h; exact .cons (plain_rel hv) (plains_rel hr)
    · cases h
end
mutual
theorem rel_plain {S : Stab} : ∀ {x : D} {v u : Value}, plainV x = some v → Rel S x u → u = v
  | .sc _, v, u, h, hr => by simp only [plainV, Option.some.injEq] at h; rw [rel_sc hr, h]
  | .agg l, v, u, h, hr => by
    simp only [plainV] at h
    split at h
    · rename_i vs hv; obtain rfl := Option.some.inj h; cases hr with | agg hl => rw [rels_plain hv hl]
    · cases h
  | .tup l, v, u, h, hr => by
    simp only [plainV] at h
    split at h
    · rename_i vs hv; obtain rfl := Option.some.inj h; cases hr with | tup hl => rw [rels_plain hv hl]
    · cases h
  | .list _ _, v, u, h, _ => by simp [plainV] at h
  | .eptr _, v, u, h, _ => by simp [plainV] at h
  | .any, v, u, h, _ => by simp [plainV] at h
  | .ifc _ _, v, u, h, _ => by simp [plainV] at h
  | .room _ _ _, v, u, h, _ => by simp [plainV] at h
  | .clo _ _, v, u, h, _ => by simp [plainV] at h
theorem rels_plain {S : Stab} : ∀ {l : List D} {vs us : List Value}, plainVs l = some vs → RelL S l us → us = vs
  | [], vs, us, h, hr => by simp only [plainVs, Option.some.injEq] at h; cases hr; exact h
  | x :: l, vs, us, h, hr => by
    simp only [plainVs] at h
    split at h
    · rename_i v r hv hr'
      obtain rfl := Option.some.inj h
      cases hr with
      | cons h1 h2 => rw [rel_plain hv h1, rels_plain hr' h2]
    · cases h
end
theorem lift {P : Program} {Γ : World → Prop} {f : FuncId} {args : List D} {r : D} {vs : List Value} {u : Value} (ha : plainVs args = some vs) (hr : plainV r = some u)
    (h : ∀ w, Γ w → Calls P f ⟨vs⟩ w fun e w' => e = .returned u ∧ Below w.heap.size w w') : CallsP P Γ f args r := by
  intro S w us hg hS hus
  obtain rfl := rels_plain ha hus
  refine (h w hg).mono ?_
  rintro e w' ⟨he, hb⟩
  exact ⟨u, S, he, plain_rel hr, Stab.le.refl _, hb, fun _ _ _ q => .inl q⟩
theorem CallsP.calls {P : Program} {Γ : World → Prop} {f : FuncId} {args : List D} {r : D} {vs : List Value} {u : Value} (h : CallsP P Γ f args r) (ha : plainVs args = some vs) (hr : plainV r = some u) (w : World) (hg : Γ w) :
    Calls P f ⟨vs⟩ w fun e w' => e = .returned u ∧ Below w.heap.size w w' := by
  refine (h (fun _ _ => none) w vs hg (fun _ _ _ q => by cases q) (plains_rel ha)).mono ?_
  rintro e w' ⟨u', S', rfl, hrel, _, hb, _⟩
  rw [rel_plain hr hrel]
  exact ⟨rfl, hb⟩
end Go.Ab
