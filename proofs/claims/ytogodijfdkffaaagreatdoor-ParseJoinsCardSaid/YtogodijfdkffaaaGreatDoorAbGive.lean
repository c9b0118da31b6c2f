/- Calls that hand back a list in memory of its own: it may be appended to. No program. -/
import Derived.Test.YtogodijfdkffaaaGreatDoorJ12
import Derived.Test.YtogodijfdkffaaaGreatDoorJ10
set_option linter.unusedVariables false
set_option linter.unusedSimpArgs false
set_option maxRecDepth 100000
namespace Go.Ab
open Go Go.RowKit
variable {P : Program} {E : Env} {st : St} {G : Gh} {a : Act} {w : World} {Q : Exit → Act → World → Prop} {K : Act → World → Prop}
variable {d : Nat} {ty : TypeId} {pos : String} {af : Array Edge} {g : Option (Nat × Bool)} {x y z : Operand}
theorem f_giveO (id : Nat) {f : FuncId} {ats : Array TypeId} {q : D} {es : Nat} {l : List D} (hen : enters P f = true) (hx : ev st x = some (.d q)) (hc : GivesC P f q (.list es l)) (hd : d < E.N) :
    FOk P E ⟨some d, .call ⟨.value (.func f), #[x], ats⟩, ty, pos, af, g⟩ st (evL x) [id] [(.slot d, some (.own id es l)), (.tip id, some (.ptr id 0))] := by
  intro Q K st' hL hfr hK G a w s
  have hu := hfr id (by simp)
  have e1 := s.ev ((ev_same hL fun l h => h).trans hx)
  show Oper.upon P _ a K Q ((execOp a.eval _).run P w)
  have hrun : (execOp a.eval (⟨some d, .call ⟨.value (.func f), #[x], ats⟩, ty, pos, af, g⟩ : Oper)).run P w = .ok (.enter f ⟨[a.eval x]⟩) w := by
    have ef : a.eval (.func f) = .func (.func f) #[] #[] := rfl
    simp [execOp, resolve, ef, Deferred.ofValue, invoke, run_callFunc hen]
  rw [hrun]
  refine (hc G.S w _ s.stable e1).mono ?_
  rintro e w' ⟨v, F, rfl, hb, hl, hF⟩
  cases hl with
  | list hcp hblk hn hll h1 hv hbn =>
    rename_i b o cap F0 cs t vs
    have hnb : ∀ b' o' v, G.S b' o' = some v → b' < w.heap.size := fun b' o' v h => lt_of_cell (s.stable b' o' v h)
    have hvl : vs.length = l.length * es := by rw [← hll.length, flat_len_of hn]
    have hbw := hF b (by simp)
    let S' : Stab := fun b' o' => if b' = b then (if o ≤ o' then vs[o' - o]? else none) else if b' ∈ F0 then w'.cell? ⟨b', o', none⟩ else G.S b' o'
    have s1 : Sim E st' { G with S := S' } a w' := s.later hb (fun b' o' v h => by
      have hlt := hnb b' o' v h
      show (if b' = b then _ else if b' ∈ F0 then _ else G.S b' o') = some v
      rw [if_neg (by omega), if_neg (fun c => by have := hF b' (by simp [c]); omega)]; exact h) (fun b' o' v h => by
      change (if b' = b then (if o ≤ o' then vs[o' - o]? else none) else if b' ∈ F0 then w'.cell? ⟨b', o', none⟩ else G.S b' o') = some v at h
      by_cases hbb : b' = b
      · subst hbb
        rw [if_pos rfl] at h
        split at h
        · rename_i hoo
          refine .inr ⟨hbw, ?_⟩
          rw [cell_of_block hblk]
          have := hv _ v h
          rwa [show o + (o' - o) = o' from by omega] at this
        · cases h
      · rw [if_neg hbb] at h
        by_cases hbf : b' ∈ F0
        · rw [if_pos hbf] at h
          exact .inr ⟨hF b' (by simp [hbf]), h⟩
        · rw [if_neg hbf] at h
          exact .inl h)
    have s2 := s1.retip (id := id) (b := b) (n := o + l.length * es) (z := o + cap * es) (k := true) (fun _ => by
      refine ⟨.inl (Nat.le_trans s.size hbw), ⟨cs, t, hblk, hcp.2.2⟩, fun o' ho => ?_, fun j hj hcc => ?_, fun j hj hlj hk hcc => ?_⟩
      · show (if b = b then (if o ≤ o' then vs[o' - o]? else none) else _) = none
        rw [if_pos rfl, if_pos (by omega)]
        exact List.getElem?_eq_none (by omega)
      · have := (s.boxes j hj).2.1
        have hc' : G.μ j = b := hcc
        omega
      · obtain ⟨_, ⟨cs', ty', q2, _⟩, _⟩ := s.tips j hlj hk
        have := lt_of_block q2
        have hc' : G.tb j = b := hcc
        omega)
    have s3 := s2.same (st' := (.tip id, some (.ptr id 0)) :: st') (fun q => by
      by_cases hq : Loc.tip id = q
      · rw [← hq, look_same, look_same]
      · rw [look_ne _ _ hq, look_ne _ _ hq, look_dull_unused hu])
    refine hK _ _ _ (s3.put hd ?_)
    refine .inr ⟨by simp [upd], o, cap, by simp [upd], hcp.1, ?_, by simp [upd], by simp [upd]⟩
    show RelE S' es l ((upd G.tb id b) id) o
    simp only [upd, if_true]
    refine relE_of hn (relP_of (RelL.mono (fun b' o' v h => ?_) (LinL.rel hll)) fun k u hk => ?_)
    · unfold Stab.of at h
      split at h
      · rename_i hbf
        show (if b' = b then _ else if b' ∈ F0 then w'.cell? ⟨b', o', none⟩ else _) = some v
        have hne : ¬ b' = b := fun c => hbn (c ▸ hbf)
        rw [if_neg hne, if_pos hbf]; exact h
      · cases h
    · show (if b = b then (if o ≤ o + k then vs[o + k - o]? else none) else _) = some u
      rw [if_pos rfl, if_pos (by omega), show o + k - o = k from by omega]; exact hk
end Go.Ab
