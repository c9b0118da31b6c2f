/- Lists that may be written to, as data for a call that only reads; told as data for good. No program. -/
import Derived.Test.YtbgeejmhkmjfdaaGreatDoorAbIn
namespace Go.Ab
open Go Go.RowKit
set_option linter.unusedVariables false
set_option linter.unusedSimpArgs false
variable {P : Program} {E : Env} {st : St} {G : Gh} {a : Act} {w : World} {Q : Exit → Act → World → Prop} {d : Nat} {ty : TypeId} {pos : String} {af : Array Edge} {g : Option (Nat × Bool)} {x y : Operand}
inductive Snap0 (L : List Loc) (st : St) : V → D → Prop
  | d (x : D) : Snap0 L st (.d x) x
  | own {id es : Nat} {l : List D} : Snap0 L st (.own id es l) (.list es l)
  | mo {id es n : Nat} {ls : List D} {q : V} (h1 : has L (.tip id) = true) (h2 : look st (.tip id) = some q) (h2' : q.contL = some ((flat ls).map .d)) (h3 : n = ls.length) (h4 : ∀ q ∈ ls, q.cells.length = es) : Snap0 L st (.mo id es n) (.list es ls)
  | any {v : V} (h : v.one = true) : Snap0 L st v .any
  | nil {es : Nat} : Snap0 L st (.d (.sc (.slice none 0 0))) (.list es [])
inductive SnapC (L : List Loc) (st : St) (id : Nat) : Nat → List D → Prop
  | nil {k : Nat} : SnapC L st id k []
  | cons {k : Nat} {v : V} {q : D} {l : List D} (h1 : has L (.cell id k) = true) (h2 : look st (.cell id k) = some v) (h3 : Snap0 L st v q) (h4 : SnapC L st id (k + 1) l) : SnapC L st id k (q :: l)
inductive Snap (L : List Loc) (st : St) : V → D → Prop
  | of {v : V} {q : D} (h : Snap0 L st v q) : Snap L st v q
  | box {id : Nat} {ds : List D} (h : SnapC L st id 0 ds) : Snap L st (.ptr id 0) (.eptr ds)
inductive SnapL (L : List Loc) (st : St) : List V → List D → Prop
  | nil : SnapL L st [] []
  | cons {v : V} {q : D} {vs : List V} {l : List D} (h1 : Snap L st v q) (h2 : SnapL L st vs l) : SnapL L st (v :: vs) (q :: l)
def Stab.all (w : World) : Stab := fun b o => w.cell? ⟨b, o, none⟩
theorem has_mem {L : List Loc} {l : Loc} (h : has L l = true) : l ∈ L := by
  obtain ⟨k, h1, h2⟩ := List.any_eq_true.mp h
  obtain rfl := (Loc.eqb_iff _ _).1 h2
  exact h1
variable {L : List Loc}
theorem Snap0.same {st' : St} (hL : ∀ l ∈ L, look st' l = look st l) {v : V} {q : D} (h : Snap0 L st v q) : Snap0 L st' v q := by
  cases h with
  | d => exact .d _
  | own => exact .own
  | mo h1 h2 h2' h3 h4 => exact .mo h1 ((hL _ (has_mem h1)).trans h2) h2' h3 h4
  | any h => exact .any h
  | nil => exact .nil
theorem SnapC.same {st' : St} (hL : ∀ l ∈ L, look st' l = look st l) {id : Nat} : ∀ {k : Nat} {ds : List D}, SnapC L st id k ds → SnapC L st' id k ds
  | _, [], _ => .nil
  | k, q :: l, .cons h1 h2 h3 h4 => .cons h1 ((hL _ (has_mem h1)).trans h2) (h3.same hL) (h4.same hL)
theorem SnapL.same {st' : St} (hL : ∀ l ∈ L, look st' l = look st l) : ∀ {vs : List V} {ds : List D}, SnapL L st vs ds → SnapL L st' vs ds
  | [], [], _ => .nil
  | v :: vs, q :: ds, .cons h1 h2 => .cons (by cases h1 with | of h => exact .of (h.same hL) | box h => exact .box (h.same hL)) (h2.same hL)
theorem evVs_same {st' : St} : ∀ {xs : List Operand}, (∀ l ∈ evsL xs, look st' l = look st l) → evVs st' xs = evVs st xs
  | [], _ => rfl
  | x :: r, h => by
    unfold evVs
    rw [ev_same (fun l hl => h l (mem_l hl)) (fun l hl => hl), evVs_same (fun l hl => h l (mem_r hl))]
def Gh.tip (G : Gh) (d b n z : Nat) : Gh := { G with tb := upd G.tb d b, tk := upd G.tk d true, te := upd G.te d n, tz := upd G.tz d z }
mutual
def settleV (id : Nat) (r : D) : V → V
  | .own i es l => .own i es l
  | .mo i es n => bif i == id then .d r else .mo i es n
  | .mptr i n o => .mptr i n o
  | .agg l => .agg (settleVs id r l)
  | .tup l => .tup (settleVs id r l)
  | .cont l => .cont (settleVs id r l)
  | .contD l => .contD l
  | .d x => .d x
  | .ptr i o => .ptr i o
  | .mapp i => .mapp i
  | .fn f l => .fn f l
def settleVs (id : Nat) (r : D) : List V → List V
  | [] => []
  | v :: l => settleV id r v :: settleVs id r l
end
mutual
/-- Each time that the list is told it is told with these numbers. -/
def V.mos (id es n : Nat) : V → Prop
  | .mo i e m => match i == id with
    | true => e = es ∧ m = n
    | false => True
  | .agg l => V.moss id es n l
  | .tup l => V.moss id es n l
  | .cont l => V.moss id es n l
  | .contD _ => True
  | .d _ => True
  | .ptr _ _ => True
  | .mapp _ => True
  | .fn _ _ => True
  | .own _ _ _ => True
  | .mptr _ _ _ => True
def V.moss (id es n : Nat) : List V → Prop
  | [] => True
  | v :: l => V.mos id es n v ∧ V.moss id es n l
end
theorem moss_d (id es n : Nat) : ∀ l : List D, V.moss id es n (l.map .d)
  | [] => by simp only [List.map_nil, V.moss]
  | x :: l => by simp only [List.map_cons, V.moss, V.mos, true_and]; exact moss_d id es n l
theorem settleVs_d (id : Nat) (r : D) : ∀ l : List D, settleVs id r (l.map .d) = l.map .d
  | [] => by simp only [List.map_nil, settleVs]
  | x :: l => by simp only [List.map_cons, settleVs, settleV, settleVs_d id r l]
mutual
theorem RelV.settle {id es n : Nat} {r : D} (hm : ∀ u, RelV G (.mo id es n) u → Rel G.S r u) : ∀ {v : V} {u : Value}, V.mos id es n v → RelV G v u → RelV G (settleV id r v) u
  | .d x, _, _, hr => by simp only [settleV]; exact hr
  | .ptr i off, _, _, hr => by simp only [settleV]; exact hr
  | .mapp i, _, _, hr => by simp only [settleV]; exact hr
  | .fn f ids, _, _, hr => by simp only [settleV]; exact hr
  | .own i es l, _, _, hr => by simp only [settleV]; exact hr
  | .mptr i n off, _, _, hr => by simp only [settleV]; exact hr
  | .mo i e m, u, hv, hr => by
    simp only [settleV]
    simp only [V.mos] at hv
    cases hi : (i == id) with
    | true =>
      rw [hi] at hv
      obtain ⟨rfl, rfl⟩ := hv
      obtain rfl : i = id := by simpa using hi
      simp only [cond_true]
      show Rel G.S r u
      exact hm u hr
    | false => simp only [cond_false]; exact hr
  | .agg l, _, hv, hr => by
    simp only [settleV]
    simp only [V.mos] at hv
    simp only [RelV] at *
    obtain ⟨cs, h1, h2⟩ := hr
    exact ⟨cs, h1, RelVL.settle hm hv h2⟩
  | .tup l, _, hv, hr => by
    simp only [settleV]
    simp only [V.mos] at hv
    simp only [RelV] at *
    obtain ⟨cs, h1, h2⟩ := hr
    exact ⟨cs, h1, RelVL.settle hm hv h2⟩
  | .cont l, _, _, hr => by simp only [RelV] at hr
  | .contD l, _, _, hr => by simp only [RelV] at hr
theorem RelVL.settle {id es n : Nat} {r : D} (hm : ∀ u, RelV G (.mo id es n) u → Rel G.S r u) : ∀ {l : List V} {us : List Value}, V.moss id es n l → RelVL G l us → RelVL G (settleVs id r l) us
  | [], _, _, hr => by simp only [settleVs]; exact hr
  | v :: l, _, hv, hr => by
    simp only [settleVs]
    simp only [V.moss] at hv
    simp only [RelVL] at *
    obtain ⟨u, q, h1, h2, h3⟩ := hr
    exact ⟨u, q, h1, RelV.settle hm hv.1 h2, RelVL.settle hm hv.2 h3⟩
end
theorem settleVs_length (id : Nat) (r : D) : ∀ l : List V, (settleVs id r l).length = l.length
  | [] => by simp only [settleVs]
  | v :: l => by simp only [settleVs, List.length_cons, settleVs_length id r l]
def settle (id : Nat) (r : D) : St → St
  | [] => []
  | e :: t => (e.1, e.2.map (settleV id r)) :: settle id r t
def St.mos (id es n : Nat) : St → Prop
  | [] => True
  | (_, none) :: t => St.mos id es n t
  | (_, some v) :: t => V.mos id es n v ∧ St.mos id es n t
theorem look_settle (id : Nat) (r : D) (st : St) (l : Loc) : look (settle id r st) l = (look st l).map (settleV id r) := by
  induction st with
  | nil => rfl
  | cons e t ih =>
    rw [settle, look_cons, look_cons, ih]
    simp only
    split <;> rfl
theorem mos_look {id es n : Nat} : ∀ {st : St} {l : Loc} {v : V}, St.mos id es n st → look st l = some v → V.mos id es n v
  | [], _, _, _, h => by cases h
  | (k, none) :: t, l, v, hm, h => by
    rw [look_cons] at h
    split at h
    · cases h
    · exact mos_look (st := t) hm h
  | (k, some x) :: t, l, v, hm, h => by
    rw [look_cons] at h
    split at h
    · cases h; exact hm.1
    · exact mos_look hm.2 h
theorem settle_contL {id : Nat} {r : D} {v0 : V} {l : List V} (hc : (settleV id r v0).contL = some l) : ∃ l0, v0.contL = some l0 ∧ l = settleVs id r l0 := by
  cases v0 with
  | cont l0 => simp only [settleV] at hc; cases hc; exact ⟨l0, rfl, rfl⟩
  | contD ds => simp only [settleV] at hc; cases hc; exact ⟨_, rfl, (settleVs_d id r ds).symm⟩
  | mo i es l => simp only [settleV] at hc; cases hb : (i == id) <;> rw [hb] at hc <;> cases hc
  | _ => simp only [settleV] at hc; cases hc
theorem mos_contL {id es n : Nat} {v : V} {l : List V} (h : V.mos id es n v) (hc : v.contL = some l) : V.moss id es n l := by
  cases v with
  | cont l0 => cases hc; simpa only [V.mos] using h
  | contD ds => cases hc; exact moss_d id es n ds
  | _ => cases hc
theorem Sim.settle {id es n : Nat} {r : D} (s : Sim E st G a w) (hm : ∀ u, RelV G (.mo id es n) u → Rel G.S r u) (hst : St.mos id es n st) : Sim E (Ab.settle id r st) G a w := by
  have en : ∀ l, look (Ab.settle id r st) l ≠ none → look st l ≠ none := fun l h c => by rw [look_settle, c] at h; exact h rfl
  have ev : ∀ l v, look (Ab.settle id r st) l = some v → ∃ v0, look st l = some v0 ∧ settleV id r v0 = v := fun l v h => by rw [look_settle] at h; simpa using h
  refine ⟨s.kw, s.s0, s.snew, s.tmps, s.defers, fun t v hl => ?_, fun i o v hl => ?_, fun i hi => s.boxes i (en _ hi), fun i j hi hj => s.inj i j (en _ hi) (en _ hj), s.stable, fun i hi ht => ?_, fun i j hi hj => s.tinj i j (en _ hi) (en _ hj), fun p hp => ⟨(s.rcv p hp).1, fun hi => (s.rcv p hp).2 (en _ hi)⟩, fun i qv l hl hcl ht => ?_, fun i v hl => ?_, fun k v hl => ?_⟩
  · obtain ⟨v0, h1, rfl⟩ := ev _ v hl
    exact (s.slots t v0 h1).settle hm (mos_look hst h1)
  · obtain ⟨v0, h1, rfl⟩ := ev _ v hl
    obtain ⟨q1, cs, ty, cv, q2, q3, q4⟩ := s.cells i o v0 h1
    exact ⟨by rw [look_settle]; simpa using q1, cs, ty, cv, q2, q3, q4.settle hm (mos_look hst h1)⟩
  · obtain ⟨h1, h2, h3, h4⟩ := s.tips i (en _ hi) ht
    exact ⟨h1, h2, h3, fun j hj => h4 j (en _ hj)⟩
  · obtain ⟨v0, h1, h2⟩ := ev _ _ hl
    subst h2
    obtain ⟨l0, hc0, rfl⟩ := settle_contL hcl
    obtain ⟨q1, o, us, cs, ty, q2, q3, q4, q5, q6⟩ := s.conts i v0 l0 h1 hc0 ht
    have hv := mos_contL (mos_look hst h1) hc0
    exact ⟨q1, o, us, cs, ty, q2, by rw [settleVs_length]; exact q3, q4, q5.settle hm hv, q6⟩
  · obtain ⟨v0, h1, h2⟩ := ev _ v hl
    obtain ⟨q1, s', pos, q2, q3⟩ := s.iters i v0 h1
    exact ⟨by rw [look_settle]; simpa using q1, s', pos, by rw [← h2, q2]; simp only [itV, settleV], q3⟩
  · obtain ⟨v0, h1, rfl⟩ := ev _ v hl
    exact (s.olds k v0 h1).settle hm (mos_look hst h1)
end Go.Ab
