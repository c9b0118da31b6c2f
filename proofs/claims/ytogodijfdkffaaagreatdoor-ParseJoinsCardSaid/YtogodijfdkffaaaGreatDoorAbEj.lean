/- Beginnings of longer rows of words; joined texts. -/
import Derived.Test.YtogodijfdkffaaaGreatDoorJ13
set_option linter.unusedVariables false
set_option linter.unusedSimpArgs false
set_option maxRecDepth 100000
namespace Go.Proofs.YtogodijfdkffaaaGreatDoor.Ln
open Go Go.RowKit Go.Ab Go.Proofs 
inductive Cl where
  | t | l | e
def Cl.seq : Cl → Cl → Cl
  | .t, c => c
  | .e, .l => .l
  | .e, _ => .e
  | .l, .e => .e
  | .l, _ => .l
def Cl.alt : Cl → Cl → Cl
  | .l, _ => .l
  | _, .e => .e
  | _, _ => .l
def Cl.ite : Cl → Cl → Cl
  | .l, _ => .l
  | _, .l => .l
  | .e, .e => .e
  | _, _ => .t
def Cl.lk : Cl → Cl
  | .e => .e
  | _ => .l
def Cl.tk : Cl → Cl
  | .l => .l
  | _ => .e
def Cl.x : Cl → Nat
  | .l => 1
  | _ => 0
def Agr (L L' : List Wd) (i i' n : Nat) : Prop := ∀ k, k < n → strip (wordAt wEnd L (i + k)) = strip (wordAt wEnd L' (i' + k))
theorem Agr.less {L L' : List Wd} {i i' n m : Nat} (h : Agr L L' i i' n) (hm : m ≤ n) : Agr L L' i i' m := fun k hk => h k (by omega)
theorem Agr.shift {L L' : List Wd} {i i' n m k : Nat} (h : Agr L L' i i' n) (hm : k + m ≤ n) : Agr L L' (i + k) (i' + k) m := fun q hq => by
  rw [Nat.add_assoc, Nat.add_assoc]; exact h (k + q) (by omega)
structure Ext {α γ : Type} (c : Cl) (f : α → γ) (p q : PW α) : Prop where
  ok : ∀ (L L' : List Wd) (i i' n : Nat) (a : α), p.run wEnd L i = .ok a (i + n) → Agr L L' i i' (n + c.x) → ∃ b, q.run wEnd L' i' = .ok b (i' + n) ∧ f a = f b
  eat : c = .e → ∀ (L : List Wd) (i n : Nat) (a : α), p.run wEnd L i = .ok a (i + n) → 0 < n
  bad : ∀ (L L' : List Wd) (i i' n : Nat), p.run wEnd L i = .bad (i + n) → Agr L L' i i' (n + 1) → q.run wEnd L' i' = .bad (i' + n)
theorem ok_le {α : Type} (L : List Wd) : ∀ (p : PW α) (i j : Nat) (a : α), p.run wEnd L i = .ok a j → i ≤ j
  | .ret a, i, j, b, h => by cases h; exact Nat.le_refl _
  | .bad, i, j, b, h => by cases h
  | .oof, i, j, b, h => by cases h
  | .look f, i, j, b, h => ok_le L (f (wordAt wEnd L i)) i j b h
  | .take p, i, j, b, h => Nat.le_of_succ_le (ok_le L p (i + 1) j b h)
section
variable {α β γ δ : Type} {f : α → γ} {g : β → δ} {c c1 c2 : Cl}
theorem ext_ret {a b : α} (h : f a = f b) : Ext .t f (.ret a) (.ret b) := by
  refine ⟨fun L L' i i' n x e _ => ?_, (fun e => by cases e), fun L L' i i' n e _ => by cases e⟩
  have e1 : Rs.ok a i = Rs.ok x (i + n) := e
  injection e1 with e2 e3
  subst e2
  exact ⟨b, by show Rs.ok b i' = _; rw [show i' + n = i' from by omega], h⟩
theorem ext_bad : Ext c f (.bad : PW α) .bad := by
  refine ⟨(fun L L' i i' n x e _ => by cases e), (fun _ L i n x e => by cases e), fun L L' i i' n e _ => ?_⟩
  have e1 : (Rs.bad i : Rs α) = Rs.bad (i + n) := e
  injection e1 with e2
  show Rs.bad i' = _
  rw [show i' + n = i' from by omega]
theorem ext_oof {q : PW α} : Ext c f .oof q := ⟨(fun L L' i i' n x e _ => by cases e), (fun _ L i n x e => by cases e), fun L L' i i' n e _ => by cases e⟩
theorem ext_bind {p q : PW α} {k k' : α → PW β} (hp : Ext c1 f p q) (hk : ∀ a b, f a = f b → Ext c2 g (k a) (k' b)) : Ext (c1.seq c2) g (p.bind k) (q.bind k') := by
  refine ⟨fun L L' i i' n a h ha => ?_, fun hc L i n a h => ?_, fun L L' i i' n h ha => ?_⟩
  · rw [run_bind] at h
    rw [run_bind]
    cases h1 : p.run wEnd L i with
    | oof => rw [h1] at h; cases h
    | bad j => rw [h1] at h; cases h
    | ok x j =>
      rw [h1] at h
      have hj := ok_le L p i j x h1
      have hn := ok_le L (k x) j (i + n) a h
      obtain ⟨n1, rfl⟩ : ∃ n1, j = i + n1 := ⟨j - i, by omega⟩
      obtain ⟨n2, rfl⟩ : ∃ n2, n = n1 + n2 := ⟨n - n1, by omega⟩
      rw [← Nat.add_assoc] at h
      have he := (hk x x rfl).eat
      obtain ⟨y, h3, h4⟩ := hp.ok L L' i i' n1 x h1 (ha.less (by
        cases c1 <;> cases c2 <;> simp only [Cl.x, Cl.seq] <;> first | omega | (have := he rfl L (i + n1) n2 a h; omega)))
      obtain ⟨b, h5, h6⟩ := (hk x y h4).ok L L' (i + n1) (i' + n1) n2 a h (ha.shift (by cases c1 <;> cases c2 <;> simp only [Cl.x, Cl.seq] <;> omega))
      rw [h3]
      exact ⟨b, by show (k' y).run wEnd L' (i' + n1) = _; rw [h5, Nat.add_assoc], h6⟩
  · rw [run_bind] at h
    cases h1 : p.run wEnd L i with
    | oof => rw [h1] at h; cases h
    | bad j => rw [h1] at h; cases h
    | ok x j =>
      rw [h1] at h
      have hj := ok_le L p i j x h1
      have hn := ok_le L (k x) j (i + n) a h
      obtain ⟨n1, rfl⟩ : ∃ n1, j = i + n1 := ⟨j - i, by omega⟩
      obtain ⟨n2, rfl⟩ : ∃ n2, n = n1 + n2 := ⟨n - n1, by omega⟩
      rw [← Nat.add_assoc] at h
      have he := (hk x x rfl).eat
      have he1 := hp.eat
      cases c1 <;> cases c2 <;> first | (have := he rfl L (i + n1) n2 a h; omega) | (have := he1 rfl L i n1 x h1; omega) | (exact absurd hc (fun c => by cases c))
  · rw [run_bind] at h
    rw [run_bind]
    cases h1 : p.run wEnd L i with
    | oof => rw [h1] at h; cases h
    | bad j =>
      rw [h1] at h
      injection h with h
      subst h
      rw [hp.bad L L' i i' n h1 ha]
    | ok x j =>
      rw [h1] at h
      have hj := ok_le L p i j x h1
      have hn := bad_le L (k x) j (i + n) h
      obtain ⟨n1, rfl⟩ : ∃ n1, j = i + n1 := ⟨j - i, by omega⟩
      obtain ⟨n2, rfl⟩ : ∃ n2, n = n1 + n2 := ⟨n - n1, by omega⟩
      rw [← Nat.add_assoc] at h
      obtain ⟨y, h3, h4⟩ := hp.ok L L' i i' n1 x h1 (ha.less (by cases c1 <;> simp only [Cl.x] <;> omega))
      have h5 := (hk x y h4).bad L L' (i + n1) (i' + n1) n2 h (ha.shift (by omega))
      rw [h3]
      show (k' y).run wEnd L' (i' + n1) = _
      rw [h5, Nat.add_assoc]
theorem ext_look {k k' : Wd → PW α} (h : ∀ w n, Ext c f (k w) (k' { w with ln := n })) : Ext c.lk f (.look k) (.look k') := by
  have key : ∀ {L L' : List Wd} {i i' n : Nat}, Agr L L' i i' (n + 1) → wordAt wEnd L' i' = { wordAt wEnd L i with ln := (wordAt wEnd L' i').ln } := fun {L L' i i' n} ha => by
    have := ha 0 (by omega)
    rw [Nat.add_zero, Nat.add_zero] at this
    generalize wordAt wEnd L' i' = w' at this ⊢
    generalize wordAt wEnd L i = w at this ⊢
    cases w; cases w'
    simp only [strip, Wd.mk.injEq] at this ⊢
    obtain ⟨h1, h2, h3, h4, h5, _⟩ := this
    exact ⟨h1.symm, h2.symm, h3.symm, h4.symm, h5.symm, trivial⟩
  refine ⟨fun L L' i i' n a e ha => ?_, fun hc L i n a e => ?_, fun L L' i i' n e ha => ?_⟩
  · have e1 : (k (wordAt wEnd L i)).run wEnd L i = .ok a (i + n) := e
    show ∃ b, (k' (wordAt wEnd L' i')).run wEnd L' i' = .ok b (i' + n) ∧ _
    have hone : ∃ m, n + c.lk.x = m + 1 := by
      have he := (h (wordAt wEnd L i) 0).eat
      cases c with
      | e => have := he rfl L i n a e1; exact ⟨n - 1, by simp only [Cl.lk, Cl.x]; omega⟩
      | l => exact ⟨n, rfl⟩
      | t => exact ⟨n, rfl⟩
    obtain ⟨m, hm⟩ := hone
    rw [key (hm ▸ ha)]
    exact (h _ _).ok L L' i i' n a e1 (ha.less (by cases c <;> simp only [Cl.lk, Cl.x] <;> omega))
  · have e1 : (k (wordAt wEnd L i)).run wEnd L i = .ok a (i + n) := e
    cases c with
    | e => exact (h (wordAt wEnd L i) 0).eat rfl L i n a e1
    | l => cases hc
    | t => cases hc
  · show (k' (wordAt wEnd L' i')).run wEnd L' i' = _
    rw [key ha]
    exact (h _ _).bad L L' i i' n e ha
theorem ext_take {p q : PW α} (h : Ext c f p q) : Ext c.tk f (.take p) (.take q) := by
  refine ⟨fun L L' i i' n a e ha => ?_, fun hc L i n a e => ?_, fun L L' i i' n e ha => ?_⟩
  · have e1 : p.run wEnd L (i + 1) = .ok a (i + n) := e
    have := ok_le L p _ _ _ e1
    obtain ⟨m, rfl⟩ : ∃ m, n = 1 + m := ⟨n - 1, by omega⟩
    rw [← Nat.add_assoc] at e1
    obtain ⟨b, h1, h2⟩ := h.ok L L' (i + 1) (i' + 1) m a e1 (ha.shift (by cases c <;> simp only [Cl.tk, Cl.x] <;> omega))
    exact ⟨b, by show q.run wEnd L' (i' + 1) = _; rw [h1, Nat.add_assoc], h2⟩
  · have := ok_le L p _ _ _ (show p.run wEnd L (i + 1) = .ok a (i + n) from e)
    omega
  · have e1 : p.run wEnd L (i + 1) = .bad (i + n) := e
    have := bad_le L p _ _ e1
    obtain ⟨m, rfl⟩ : ∃ m, n = 1 + m := ⟨n - 1, by omega⟩
    rw [← Nat.add_assoc] at e1
    show q.run wEnd L' (i' + 1) = _
    rw [h.bad L L' (i + 1) (i' + 1) m e1 (ha.shift (by omega)), Nat.add_assoc]
theorem Ext.up {p q : PW α} (h : Ext c f p q) (c' : Cl) (h1 : c.x ≤ c'.x) (h2 : c' = .e → c = .e) : Ext c' f p q :=
  ⟨fun L L' i i' n a e ha => h.ok L L' i i' n a e (ha.less (by omega)), fun hc => h.eat (h2 hc), h.bad⟩
theorem ext_ite {b : Prop} [Decidable b] {p q p' q' : PW α} (hp : Ext c1 f p p') (hq : Ext c2 f q q') : Ext (c1.ite c2) f (if b then p else q) (if b then p' else q') := by
  split
  · exact hp.up _ (by cases c1 <;> cases c2 <;> simp [Cl.x, Cl.ite]) (by cases c1 <;> cases c2 <;> simp [Cl.ite])
  · exact hq.up _ (by cases c1 <;> cases c2 <;> simp [Cl.x, Cl.ite]) (by cases c1 <;> cases c2 <;> simp [Cl.ite])
theorem ext_may (s : Tx) : Ext .l id (mayP s) (mayP s) := ext_look (c := .t) fun w n => ext_ite (c1 := .e) (c2 := .t) (ext_take (c := .t) (ext_ret rfl)) (ext_ret rfl)
theorem ext_mayif {s : Tx} {A B A' B' : PW α} (hA : Ext c1 f A A') (hB : Ext c2 f B B') : Ext (c1.alt c2) f ((mayP s).bind fun b => if b = true then A else B) ((mayP s).bind fun b => if b = true then A' else B') := by
  have h0 : Ext ((c1.tk).ite c2).lk f ((mayP s).bind fun b => if b = true then A else B) ((mayP s).bind fun b => if b = true then A' else B') := by
    refine ext_look fun w n => ?_
    show Ext _ f (Pr.bind (if (w.k = 4 ∨ w.k = 1) ∧ w.s = s then .take (.ret true) else .ret false) fun b => if b = true then A else B) (Pr.bind (if (w.k = 4 ∨ w.k = 1) ∧ w.s = s then .take (.ret true) else .ret false) fun b => if b = true then A' else B')
    by_cases h : (w.k = 4 ∨ w.k = 1) ∧ w.s = s
    · rw [if_pos h]
      exact (ext_take hA).up _ (by cases c1 <;> cases c2 <;> simp [Cl.x, Cl.ite, Cl.tk]) (by cases c1 <;> cases c2 <;> simp [Cl.ite, Cl.tk])
    · rw [if_neg h]
      exact hB.up _ (by cases c1 <;> cases c2 <;> simp [Cl.x, Cl.ite, Cl.tk]) (by cases c1 <;> cases c2 <;> simp [Cl.ite, Cl.tk])
  exact h0.up _ (by cases c1 <;> cases c2 <;> simp [Cl.x, Cl.ite, Cl.tk, Cl.lk, Cl.alt]) (by cases c1 <;> cases c2 <;> simp [Cl.ite, Cl.tk, Cl.lk, Cl.alt])
theorem ext_need0 : ∀ ts : List Tx, Ext .t id (needP ts) (needP ts)
  | [] => ext_ret rfl
  | s :: r => (ext_mayif (ext_need0 r) (ext_bad (c := .e))).up .t (Nat.le_refl _) (fun c => by cases c)
theorem ext_need (s : Tx) (r : List Tx) : Ext .e id (needP (s :: r)) (needP (s :: r)) := ext_mayif (ext_need0 r) (ext_bad (c := .e))
theorem ext_needk {s : Tx} {r : List Tx} {k k' : Unit → PW α} (h : Ext c f (k ()) (k' ())) : Ext (Cl.e.seq c) f ((needP (s :: r)).bind k) ((needP (s :: r)).bind k') := ext_bind (ext_need s r) fun _ _ _ => h
theorem ext_must (b : Bool) : Ext .e strip (mustP b) (mustP b) := ext_ite (c1 := .e) (c2 := .e) (ext_look (c := .e) fun w n => ext_take (c := .t) (ext_ret rfl)) ext_bad
theorem ext_name : Ext .e id nameP nameP := ext_look (c := .e) fun w n => ext_bind (c1 := .e) (c2 := .t) (ext_must _) fun a b h => ext_ret (by have := congrArg Wd.s h; exact this)
theorem ext_whole : Ext .e id wholeP wholeP := ext_look (c := .e) fun w n => ext_bind (c1 := .e) (c2 := .t) (ext_must _) fun a b h => ext_ret (by have := congrArg Wd.lo h; exact this)
theorem ext_lit : Ext .e id litP litP := ext_look (c := .e) fun w n => ext_bind (c1 := .e) (c2 := .t) (ext_must _) fun a b h => ext_ret (by have := congrArg (fun w : Wd => (w.w, w.hi, w.lo)) h; exact this)
theorem ext_namek {k k' : Tx → PW α} (h : ∀ s, Ext c f (k s) (k' s)) : Ext (Cl.e.seq c) f (nameP.bind k) (nameP.bind k') := ext_bind ext_name fun a b e => by obtain rfl : a = b := e; exact h a
theorem ext_wholek {k k' : Nat → PW α} (h : ∀ s, Ext c f (k s) (k' s)) : Ext (Cl.e.seq c) f (wholeP.bind k) (wholeP.bind k') := ext_bind ext_whole fun a b e => by obtain rfl : a = b := e; exact h a
theorem ext_litk {k k' : N3 → PW α} (h : ∀ s, Ext c f (k s) (k' s)) : Ext (Cl.e.seq c) f (litP.bind k) (litP.bind k') := ext_bind ext_lit fun a b e => by obtain rfl : a = b := e; exact h a
theorem ext_owner : Ext .e id ownerP ownerP := ext_mayif (ext_ret rfl) ext_name
theorem ext_ownerk {k k' : Tx → PW α} (h : ∀ s, Ext c f (k s) (k' s)) : Ext (Cl.e.seq c) f (ownerP.bind k) (ownerP.bind k') := ext_bind ext_owner fun a b e => by obtain rfl : a = b := e; exact h a
theorem ext_field : Ext .e id fieldP fieldP := ext_ownerk (c := .e) fun a => ext_needk (c := .e) (ext_namek (c := .t) fun b => ext_ret rfl)
theorem ext_fieldk {k k' : Tx × Tx → PW α} (h : ∀ s, Ext c f (k s) (k' s)) : Ext (Cl.e.seq c) f (fieldP.bind k) (fieldP.bind k') := ext_bind ext_field fun a b e => by obtain rfl : a = b := e; exact h a
theorem ext_typed : Ext .e id typedP typedP := ext_namek (c := .e) fun a => ext_wholek (c := .t) fun n => ext_ret rfl
theorem ext_each {p q : PW α} (hp : Ext c f p q) : ∀ (n m : Nat), n ≤ m → ∀ (acc acc' : List α), acc.map f = acc'.map f → Ext .e (List.map f) (eachP p n acc) (eachP q m acc')
  | 0, m, _, acc, acc', h => ext_oof
  | n + 1, 0, hn, acc, acc', h => absurd hn (by omega)
  | n + 1, m + 1, hn, acc, acc', h => ext_mayif (ext_ret h) ((ext_bind hp fun a b e => ext_each hp n m (by omega) _ _ (map_snoc_eq h e)).up .e (by cases c <;> exact Nat.le_refl _) (fun _ => by cases c <;> rfl))
theorem ext_some {p q : PW α} (hp : Ext c f p q) (e : Tx) : ∀ (n m : Nat), n ≤ m → ∀ (acc acc' : List α), acc.map f = acc'.map f → Ext .e (List.map f) (someP p e n acc) (someP q e m acc')
  | 0, m, _, acc, acc', h => ext_oof
  | n + 1, 0, hn, acc, acc', h => absurd hn (by omega)
  | n + 1, m + 1, hn, acc, acc', h => (ext_bind hp fun a b e' => (ext_mayif (ext_some hp e n m (by omega) _ _ (map_snoc_eq h e')) (ext_needk (c := .t) (ext_ret (map_snoc_eq h e'))))).up .e (by cases c <;> exact Nat.le_refl _) (fun _ => by cases c <;> rfl)
theorem ext_row {p q : PW α} (hp : Ext c f p q) (e : Tx) {n m : Nat} (hn : n ≤ m) : Ext .e (List.map f) (rowP p e n) (rowP q e m) := ext_mayif (ext_ret rfl) (ext_some hp e n m hn _ _ rfl)
theorem ext_ended {p q : PW α} (hp : Ext c f p q) : Ext .e f (endedP p) (endedP q) := Ext.up (c := c.seq .e) (p := endedP p) (q := endedP q) (ext_bind (c2 := .e) hp fun a b e => ext_needk (c := .t) (ext_ret e)) .e (by cases c <;> exact Nat.le_refl _) (fun _ => by cases c <;> rfl)
theorem Ext.l {p q : PW α} (h : Ext .e f p q) : Ext .l f p q := h.up .l (Nat.zero_le _) (fun c => by cases c)
theorem Ext.tl {p q : PW α} (h : Ext .t f p q) : Ext .l f p q := h.up .l (Nat.zero_le _) (fun c => by cases c)
end
theorem ext_ex : ∀ f g : Nat, f ≤ g → (∀ lv, Ext .l eEx (exP f lv) (exP g lv)) ∧ (∀ lv l l' x x', eEx x = eEx x' → Ext .l eEx (exL f lv l x) (exL g lv l' x')) ∧ (∀ l l' x x', eEx x = eEx x' → Ext .l eEx (exS f l x) (exS g l' x')) ∧ (∀ e acc acc', eExs acc = eExs acc' → Ext .e eExs (exR f e acc) (exR g e acc'))
  | 0, g, _ => ⟨fun lv => by rw [exP]; exact ext_oof, fun lv l l' x x' h => by rw [exL]; exact ext_oof, fun l l' x x' h => by rw [exS]; exact ext_oof, fun e acc acc' h => by rw [exR]; exact ext_oof⟩
  | f + 1, 0, h => absurd h (by omega)
  | f + 1, g + 1, hfg => by
    obtain ⟨ih1, ih2, ih3, ih4⟩ := ext_ex f g (by omega)
    refine ⟨fun lv => ?_, fun lv l l' x x' h => ?_, fun l l' x x' h => ?_, fun e acc acc' h => ?_⟩
    · rw [exP, exP]
      refine (ext_ite (c1 := .l) (c2 := .l) (ext_look (c := .l) fun w n => ext_bind (ih1 _) fun a b h => ih2 _ _ _ _ _ h) (ext_ite (c1 := .l) (c2 := .l) (ext_look (c := .l) fun w n => ext_mayif (c1 := .l) (c2 := .l) (ext_bind (ih1 8) fun a b h => ext_ret (eEx_mk (eExs_1 h))) (ext_bind (ih1 9) fun a b h => ih3 _ _ _ _ h)) (ext_look (c := .l) fun w n => ext_ite (c1 := .e) (c2 := .l) (ext_litk (c := .t) fun l => ext_ret (eEx_mk rfl)) ?_)))
      refine (ext_mayif (c1 := .e) (c2 := .l) (ext_namek (c := .t) fun s => ext_ret (eEx_mk rfl)) ?_)
      refine (ext_mayif (c1 := .e) (c2 := .l) (ext_wholek (c := .e) fun n => ext_needk (c := .e) (ext_bind (c2 := .e) (ih1 0) fun a b h => ext_needk (c := .t) (ext_ret (eEx_mk (eExs_1 h))))) ?_)
      refine (ext_mayif (c1 := .e) (c2 := .l) (ext_namek (c := .e) fun s => ext_needk (c := .e) (ext_bind (c2 := .t) (ih4 _ _ _ rfl) fun a b h => ext_ret (eEx_mk h))) ?_)
      refine (ext_mayif (c1 := .e) (c2 := .l) (ext_bind (c2 := .e) (ih1 0) fun a b h => ext_needk (c := .t) (ext_ret h)) ?_)
      refine (ext_ownerk (c := .l) fun s => ext_ite (c1 := .e) (c2 := .l) (ext_needk (c := .e) (ext_namek (c := .t) fun t => ext_ret (eEx_mk rfl))) ?_)
      exact (ext_mayif (c1 := .e) (c2 := .t) (ext_namek (c := .t) fun t => ext_ret (eEx_mk rfl)) (ext_ret (eEx_mk rfl)))
    · rw [exL, exL]
      refine ext_look (c := .l) fun w n => ?_
      show Ext .l eEx (match twoOf w.s with | none => Pr.ret x | some (op, b) => if w.k = 4 ∧ b = lv then .take ((exP f (lv + 1)).bind fun y => if lv = 2 then .ret (exUn op [x, y] l) else exL f lv l (exUn op [x, y] l)) else .ret x) (match twoOf w.s with | none => Pr.ret x' | some (op, b) => if w.k = 4 ∧ b = lv then .take ((exP g (lv + 1)).bind fun y => if lv = 2 then .ret (exUn op [x', y] l') else exL g lv l' (exUn op [x', y] l')) else .ret x')
      cases twoOf w.s with
      | none => exact (ext_ret h).tl
      | some p =>
        obtain ⟨op, b⟩ := p
        exact (ext_ite (c1 := .l) (c2 := .t) (ext_take (c := .l) (ext_bind (c2 := .l) (ih1 _) fun y y' hy => ext_ite (c1 := .t) (c2 := .l) (ext_ret (eEx_mk (eExs_2 h hy))) (ih2 _ _ _ _ _ (eEx_mk (eExs_2 h hy))))) (ext_ret h))
    · rw [exS, exS]
      exact (ext_mayif (c1 := .l) (c2 := .t) (ext_wholek (c := .l) fun n => ext_needk (c := .l) (ext_wholek (c := .l) fun m => ext_needk (c := .l) (ih3 _ _ _ _ (eEx_mk (eExs_1 h))))) (ext_ret h))
    · rw [exR, exR]
      have hs : ∀ a b, eEx a = eEx b → eExs (acc ++ [a]) = eExs (acc' ++ [b]) := fun a b e => by rw [eExs_snoc, eExs_snoc, h, e]
      exact (ext_bind (c2 := .e) (ih1 0) fun a b e => (ext_mayif (c1 := .e) (c2 := .e) (ih4 _ _ _ (hs a b e)) (ext_needk (c := .t) (ext_ret (hs a b e)))))
theorem ext_exp {f g : Nat} (h : f ≤ g) : Ext .l eEx (exP f 0) (exP g 0) := (ext_ex f g h).1 0
theorem ext_index {f g : Nat} (h : f ≤ g) : Ext .e eEx (indexP f) (indexP g) := ext_needk (c := .e) (ext_bind (c2 := .e) (ext_exp h) fun a b h => ext_needk (c := .t) (ext_ret h))
theorem ext_semi {x y : Sm} (h : eSm x = eSm y) : Ext .e eSm (semi x) (semi y) := ext_needk (c := .t) (ext_ret h)
theorem ext_form {f g : Nat} (hfg : f ≤ g) (kind ln ln' : Nat) : ∀ form, Ext .e eSm (formK f kind ln form) (formK g kind ln' form)
  | 0 => ext_namek (c := .e) fun s => ext_semi (eSm_mk rfl rfl rfl)
  | 1 => ext_namek (c := .e) fun s => ext_bind (c2 := .e) (ext_index hfg) fun a b h => ext_semi (eSm_mk (eExs_1 h) rfl rfl)
  | 2 => ext_fieldk (c := .e) fun p => ext_needk (c := .e) (ext_namek (c := .e) fun a => ext_bind (c2 := .e) (ext_index hfg) fun a b h => ext_semi (eSm_mk (eExs_1 h) rfl rfl))
  | 3 => ext_namek (c := .e) fun s => ext_bind (c2 := .e) (ext_index hfg) fun a b h => ext_needk (c := .e) (ext_bind (c2 := .e) (ext_exp hfg) fun c d h' => ext_semi (eSm_mk (eExs_2 h h') rfl rfl))
  | 4 => ext_fieldk (c := .e) fun p => ext_semi (eSm_mk rfl rfl rfl)
  | 5 => ext_semi (eSm_mk rfl rfl rfl)
  | n + 6 => ext_wholek (c := .e) fun n => ext_semi (eSm_mk rfl rfl rfl)
theorem ext_set {f g : Nat} (hfg : f ≤ g) (w : Wd) (n : Nat) (s : Tx) : Ext .e eSm (setK f w s) (setK g { w with ln := n } s) := ext_needk (c := .e) (ext_namek (c := .e) fun t => ext_needk (c := .e) (ext_bind (c2 := .e) (ext_exp hfg) fun a b h => ext_semi (eSm_mk (eExs_1 h) rfl rfl)))
theorem ext_sm : ∀ f g : Nat, f ≤ g → Ext .l eSm (smP f) (smP g) ∧ Ext .e eSms (blP f) (blP g) ∧ ∀ acc acc', eSms acc = eSms acc' → Ext .e eSms (smsP f acc) (smsP g acc')
  | 0, g, _ => ⟨by rw [smP]; exact ext_oof, by rw [blP]; exact ext_oof, fun acc acc' h => by rw [smsP]; exact ext_oof⟩
  | f + 1, 0, h => absurd h (by omega)
  | f + 1, g + 1, hfg => by
    have hle : f ≤ g := by omega
    obtain ⟨ih1, ih2, ih3⟩ := ext_sm f g hle
    refine ⟨?_, ?_, fun acc acc' h => ?_⟩
    · rw [smP_eq, smP_eq]
      refine ext_look (c := .l) fun w n => ?_
      unfold stK
      show Ext .l eSm (match (if w.k = 1 then simpleOf w.s else none) with | some (kind, form) => Pr.take (formK f kind w.ln form) | none => restK f w) (match (if w.k = 1 then simpleOf w.s else none) with | some (kind, form) => Pr.take (formK g kind n form) | none => restK g { w with ln := n })
      cases (if w.k = 1 then simpleOf w.s else none) with
      | some p => obtain ⟨kind, form⟩ := p; exact (ext_take (ext_form hle kind _ _ form)).l
      | none =>
        show Ext .l eSm (restK f w) (restK g { w with ln := n })
        unfold restK
        refine (ext_mayif (c1 := .l) (c2 := .l) (ext_bind (c2 := .l) (ext_exp hle) fun a b h => ext_bind (c2 := .l) ih2 fun l l' h' => ext_mayif (c1 := .e) (c2 := .t) (ext_bind ih2 fun m m' h2 => ext_ret (eSm_mk (eExs_1 h) h' h2)) (ext_ret (eSm_mk (eExs_1 h) h' rfl))) ?_)
        refine (ext_mayif (c1 := .e) (c2 := .l) (ext_bind ((ext_ex f g hle).2.2.2 _ _ _ rfl) fun a b h => ext_ret (eSm_mk h rfl rfl)) ?_)
        refine (ext_ownerk (c := .l) fun s => ext_ite (c1 := .e) (c2 := .l) (ext_set hle w n s) (ext_mayif (c1 := .e) (c2 := .e) ?_ (ext_set hle w n s)).l)
        exact ext_bind (f := eExs) (ext_mayif (c1 := .t) (c2 := .e) (ext_ret rfl) ((ext_ex f g hle).2.2.2 _ _ _ rfl)) fun a b h => ext_semi (eSm_mk h rfl rfl)
    · rw [blP, blP]; exact ext_needk (c := .e) (ih3 _ _ rfl)
    · rw [smsP, smsP]
      exact (ext_mayif (c1 := .t) (c2 := .e) (ext_ret h) (ext_bind (c2 := .e) ih1 fun a b e => ih3 _ _ (by rw [eSms_snoc, eSms_snoc, h, e])))
theorem ext_kase : Ext .e id kaseP kaseP := ext_litk (c := .e) fun v => ext_bind (c2 := .e) (ext_may _) fun b b' h => by
  obtain rfl : b = b' := h
  exact (ext_bind (f := id) (c1 := .t) (c2 := .e) ((ext_ite (c1 := .t) (c2 := .t) (ext_lit.up .t (Nat.le_refl _) (fun c => by cases c)) (ext_ret rfl))) fun m m' h => by
    obtain rfl : m = m' := h
    exact ext_needk (c := .e) (ext_namek (c := .e) fun t => ext_needk (c := .t) (ext_ret rfl)))
theorem ext_takes : ∀ (n m : Nat), n ≤ m → ∀ (acc : List Tx), Ext .l id (takesP n acc) (takesP m acc)
  | 0, m, _, acc => ext_oof
  | n + 1, 0, h, acc => absurd h (by omega)
  | n + 1, m + 1, h, acc => ext_mayif (c1 := .l) (c2 := .t) (ext_namek (c := .l) fun s => ext_needk (c := .l) (ext_takes n m (by omega) _)) (ext_ret rfl)
theorem ext_cases : ∀ (n m : Nat), n ≤ m → ∀ (acc : List Cs), Ext .l id (casesP n acc) (casesP m acc)
  | 0, m, _, acc => ext_oof
  | n + 1, 0, h, acc => absurd h (by omega)
  | n + 1, m + 1, h, acc => ext_look (c := .l) fun w k => ext_ite (c1 := .l) (c2 := .t) (ext_bind (c2 := .l) ext_kase fun a b e => by obtain rfl : a = b := e; exact ext_cases n m (by omega) _) (ext_ret rfl)
theorem ext_names : ∀ (n m : Nat), n ≤ m → ∀ (acc : List Tx), Ext .e id (namesP n acc) (namesP m acc)
  | 0, m, _, acc => ext_oof
  | n + 1, 0, h, acc => absurd h (by omega)
  | n + 1, m + 1, h, acc => ext_mayif (c1 := .t) (c2 := .e) (ext_ret rfl) (ext_namek (c := .e) fun s => ext_names n m (by omega) _)
theorem ext_kind : ∀ l : List (Tx × Nat), Ext .e id (kindP l) (kindP l)
  | [] => ext_bad
  | p :: r => ext_mayif (c1 := .t) (c2 := .e) (ext_ret rfl) (ext_kind r)
theorem ext_state {n m : Nat} (hn : n ≤ m) : Ext .e eSt (stateP n) (stateP m) := by
  rw [stateP_eq, stateP_eq]
  refine ext_look (c := .e) fun w k => ext_namek (c := .e) fun s => ext_needk (c := .e) (ext_bind (c2 := .e) (ext_takes n m hn []) fun hs hs' h => ?_)
  obtain rfl : hs = hs' := h
  refine ext_mayif (c1 := .e) (c2 := .e) (ext_bind (c2 := .e) (ext_exp hn) fun a b h => ext_needk (c := .e) (ext_bind (c2 := .e) (ext_cases n m hn []) fun cs cs' h2 => ?_)) (ext_needk (c := .e) (ext_namek (c := .e) fun t => ext_needk (c := .t) (ext_ret rfl)))
  obtain rfl : cs = cs' := h2
  refine ext_needk (c := .e) (ext_namek (c := .e) fun t => ext_needk (c := .t) (ext_ret ?_))
  simp only [eSt, eExs_1 h]
theorem ext_key {n m : Nat} (hn : n ≤ m) : Ext .e eKd (keyP n) (keyP m) := ext_bind (c2 := .e) (ext_exp hn) fun a b h => ext_bind (c2 := .t) (ext_kind _) fun k k' h' => by
  obtain rfl : k = k' := h'
  exact ext_ret (by simp only [eKd, h])
theorem ext_fieldsk {α γ : Type} {f : α → γ} {c : Cl} {n m : Nat} (hn : n ≤ m) {k k' : List (Tx × Nat) → PW α} (h : ∀ s, Ext c f (k s) (k' s)) : Ext (Cl.e.seq c) f ((fieldsP n).bind k) ((fieldsP m).bind k') := ext_bind (f := List.map id) (ext_needk (c := .e) (ext_each (ext_ended ext_typed) n m hn _ _ rfl)) fun a b e => by obtain rfl := map_id_eq e; exact h a
theorem ext_on {n m : Nat} (hn : n ≤ m) (ln ln' : Nat) : ∀ k : Nat, Ext .e eDc (onP n ln k) (onP m ln' k)
  | 0 => ext_bad
  | 1 => ext_namek (c := .e) fun s => ext_fieldsk (c := .t) hn fun l => ext_ret rfl
  | 2 => ext_fieldsk (c := .t) hn fun l => ext_ret rfl
  | 3 => ext_namek (c := .e) fun s => ext_wholek (c := .e) fun w => ext_wholek (c := .e) fun m => ext_needk (c := .t) (ext_ret rfl)
  | 4 => ext_namek (c := .e) fun s => ext_wholek (c := .e) fun m => ext_needk (c := .t) (ext_ret rfl)
  | 5 => ext_namek (c := .e) fun s => ext_wholek (c := .e) fun m => ext_wholek (c := .e) fun r => ext_wholek (c := .e) fun u => ext_needk (c := .t) (ext_ret rfl)
  | 6 => ext_needk (c := .e) (ext_bind (c2 := .t) (ext_each (ext_state hn) n m hn _ _ rfl) fun a b h => ext_ret (by simp only [eDc, dc0, h]))
  | 7 => ext_namek (c := .e) fun s => ext_needk (c := .e) (ext_bind (c2 := .e) (ext_row ext_typed _ hn) fun l l' h => by
      obtain rfl := map_id_eq h
      exact ext_bind (c2 := .t) (ext_sm n m hn).2.1 fun a b h => ext_ret (by simp only [eDc, dc0, h]))
  | 8 => ext_namek (c := .e) fun s => ext_needk (c := .e) (ext_bind (c2 := .e) (ext_each (ext_ended (ext_key hn)) n m hn _ _ rfl) fun ks ks' hk => ext_needk (c := .e) (ext_namek (c := .e) fun a => ext_bind (c2 := .e) (ext_names n m hn _) fun al al' ha => by
      obtain rfl : al = al' := ha
      exact ext_needk (c := .e) (ext_namek (c := .e) fun d => ext_needk (c := .e) (ext_bind (c2 := .e) (ext_row ext_lit _ hn) fun l l' h => by
        obtain rfl := map_id_eq h
        exact ext_needk (c := .e) (ext_wholek (c := .e) fun m => ext_needk (c := .t) (ext_ret (by simp only [eDc, dc0, hk])))))))
  | 9 => ext_bind (c2 := .t) (ext_sm n m hn).2.1 fun a b h => ext_ret (by simp only [eDc, dc0, h])
  | 10 => ext_needk (c := .e) (ext_bind (c2 := .t) (ext_each (ext_ended ext_name) n m hn _ _ rfl) fun a b h => by obtain rfl := map_id_eq h; exact ext_ret rfl)
  | _ + 11 => ext_bad
theorem ext_decl {n m : Nat} (hn : n ≤ m) : Ext .e eDc (declP n) (declP m) := ext_look (c := .e) fun w k => ext_bind (c2 := .e) (ext_must _) fun _ _ _ => ext_on hn _ _ _
theorem ext_prog : ∀ (n m : Nat), n ≤ m → ∀ (acc acc' : List Dc), acc.map eDc = acc'.map eDc → Ext .l (List.map eDc) (progP n acc) (progP m acc')
  | 0, m, _, acc, acc', h => ext_oof
  | n + 1, 0, hn, acc, acc', h => absurd hn (by omega)
  | n + 1, m + 1, hn, acc, acc', h => ext_look (c := .l) fun w k => ext_ite (c1 := .t) (c2 := .l) (ext_ret h) (ext_bind (c2 := .l) (ext_decl (by omega)) fun a b e => ext_prog n m (by omega) _ _ (map_snoc_eq h e))
theorem prog_ahead {L L' : List Wd} : ∀ (f : Nat) (acc : List Dc) (i : Nat) (ds : List Dc) (j : Nat), (progP f acc).run wEnd L i = .ok ds j → ∃ n l, j = i + n ∧ ds = acc ++ l ∧ (wordAt wEnd L j).k = 0 ∧
    ∀ (i' g : Nat) (acc' : List Dc), Agr L L' i i' n → ∃ l' g', l'.map eDc = l.map eDc ∧ g ≤ g' ∧ (progP (f + g) acc').run wEnd L' i' = (progP g' (acc' ++ l')).run wEnd L' (i' + n)
  | 0, acc, i, ds, j, h => by cases h
  | f + 1, acc, i, ds, j, h => by
    by_cases hk : (wordAt wEnd L i).k = 0
    · have h1 : (Rs.ok acc i : Rs (List Dc)) = .ok ds j := by
        rw [← h, progP]
        show _ = ((if (wordAt wEnd L i).k = 0 then Pr.ret acc else (declP f).bind fun d => progP f (acc ++ [d])) : PW _).run wEnd L i
        rw [if_pos hk]; rfl
      injection h1 with h2 h3
      subst h2; subst h3
      exact ⟨0, [], rfl, by simp, hk, fun i' g acc' _ => ⟨[], f + 1 + g, rfl, by omega, by simp⟩⟩
    · rw [prog_more hk, run_bind] at h
      cases h1 : (declP f).run wEnd L i with
      | oof => rw [h1] at h; cases h
      | bad q => rw [h1] at h; cases h
      | ok d q =>
        rw [h1] at h
        have hq := ok_le L _ _ _ _ h1
        obtain ⟨m, rfl⟩ : ∃ m, q = i + m := ⟨q - i, by omega⟩
        obtain ⟨n, l, rfl, rfl, hj, hr⟩ := prog_ahead f (acc ++ [d]) (i + m) ds j h
        have hm := (ext_decl (Nat.le_refl f)).eat rfl L i m d h1
        refine ⟨m + n, d :: l, by omega, by simp, hj, fun i' g acc' ha => ?_⟩
        obtain ⟨d', h3, h4⟩ := (ext_decl (show f ≤ f + g by omega)).ok L L' i i' m d h1 (ha.less (by simp only [Cl.x]; omega))
        obtain ⟨l', g', h5, h6, h7⟩ := hr (i' + m) g (acc' ++ [d']) (ha.shift (by omega))
        refine ⟨d' :: l', g', by rw [List.map_cons, List.map_cons, h4, h5], h6, ?_⟩
        have hk' : (wordAt wEnd L' i').k ≠ 0 := by
          have := congrArg Wd.k (ha 0 (by omega))
          rw [Nat.add_zero, Nat.add_zero] at this
          exact fun c => hk (by rw [← c]; exact this)
        rw [show f + 1 + g = (f + g) + 1 from by omega, prog_more hk', run_bind, h3]
        show (progP (f + g) (acc' ++ [d'])).run wEnd L' (i' + m) = _
        rw [h7]; simp [Nat.add_assoc]
theorem word_inK {L : List Wd} (hk : ∀ x ∈ L, x.k ≠ 0) {j : Nat} (h : (wordAt wEnd L j).k = 0) : L.length ≤ j := by
  rcases Nat.lt_or_ge j L.length with hj | hj
  · obtain ⟨x, hx, hw⟩ := word_at hj
    exact absurd (hw ▸ h) (hk x (List.mem_of_getElem? hx))
  · exact hj
theorem prog_join {L1 L2 L2' : List Wd} {F : Nat} {d1 d2 : List Dc} {j1 j2 : Nat} (k1 : ∀ x ∈ L1, x.k ≠ 0) (h1 : (progP F []).run wEnd L1 0 = .ok d1 j1) (e1 : j1 = L1.length) (h2 : (progP F []).run wEnd L2 0 = .ok d2 j2) (e2 : j2 = L2.length) (hl : ∀ i, strip (wordAt wEnd L2 i) = strip (wordAt wEnd L2' i)) (hlen : L2'.length = L2.length)
    (hno : (progP F []).run wEnd (L1 ++ L2') 0 ≠ .oof) : ∃ ds, (progP F []).run wEnd (L1 ++ L2') 0 = .ok ds (L1 ++ L2').length ∧ ds.map eDc = d1.map eDc ++ d2.map eDc := by
  have a1 : Agr L1 (L1 ++ L2') 0 0 L1.length := fun k hk => by
    unfold wordAt
    rw [Nat.zero_add, List.getElem?_append_left hk]
  have a2 : Agr L2 (L1 ++ L2') 0 L1.length L2.length := fun k hk => by
    rw [Nat.zero_add, hl k]
    unfold wordAt
    rw [List.getElem?_append_right (by omega), show L1.length + k - L1.length = k from by omega]
  obtain ⟨n1, l1, q1, q2, _, q3⟩ := prog_ahead (L' := L1 ++ L2') F [] 0 d1 j1 h1
  obtain ⟨n2, l2, r1, r2, _, r3⟩ := prog_ahead (L' := L1 ++ L2') F [] 0 d2 j2 h2
  obtain rfl : n1 = L1.length := by omega
  obtain rfl : n2 = L2.length := by omega
  obtain ⟨m1, g1, s1, s2, s3⟩ := q3 0 (F + 1) [] a1
  obtain ⟨m2, g2, t1, t2, t3⟩ := r3 L1.length (g1 - F) m1 a2
  rw [List.nil_append, Nat.zero_add] at s3
  rw [show F + (g1 - F) = g1 from by omega] at t3
  obtain ⟨g3, rfl⟩ : ∃ g3, g2 = g3 + 1 := ⟨g2 - 1, by omega⟩
  rw [t3, prog_end (by rw [List.length_append]; omega)] at s3
  have hlast : L1.length + L2.length = (L1 ++ L2').length := by rw [List.length_append]; omega
  rw [hlast] at s3
  have hmap : (m1 ++ m2).map eDc = d1.map eDc ++ d2.map eDc := by
    rw [List.nil_append] at q2 r2
    rw [List.map_append, s1, t1, q2, r2]
  have hx := ext_prog F (F + (F + 1)) (by omega) [] [] rfl
  have ar : ∀ n, Agr (L1 ++ L2') (L1 ++ L2') 0 0 n := fun n k _ => rfl
  cases h : (progP F []).run wEnd (L1 ++ L2') 0 with
  | oof => exact absurd h hno
  | bad j =>
    have := hx.bad _ _ 0 0 j (by rw [Nat.zero_add]; exact h) (ar _)
    rw [s3] at this
    cases this
  | ok ds j =>
    obtain ⟨b, h3, h4⟩ := hx.ok _ _ 0 0 j ds (by rw [Nat.zero_add]; exact h) (ar _)
    rw [s3] at h3
    injection h3 with h5 h6
    subst h5
    rw [Nat.zero_add] at h6
    subst h6
    exact ⟨ds, rfl, by rw [← hmap]; exact h4⟩
def addLn (k : Nat) (x : Wd) : Wd := { x with ln := x.ln + k }
theorem join_3 {a b : List UInt8} {la lb : List Wd} (h : W a 0 = .inr la) (h2 : W b 0 = .inr lb) : W ((a ++ [10]) ++ b) 0 = .inr (la ++ lb.map (addLn (1 + a.count 10))) := by
  rw [show (a ++ [10]) ++ b = a ++ 10 :: b from by simp, W_join b (a.length + 1) a 0 (Nat.lt_succ_self _), h]
  simp only
  rw [show 0 + a.count 10 + 1 = 0 + (1 + a.count 10) from by omega, W_add (b.length + 1) b 0 _ (Nat.lt_succ_self _), h2]
  rfl
theorem like_add (L : List Wd) (m : Nat) : Like L (L.map (addLn m)) := ⟨fun i => by
  unfold wordAt
  rw [List.getElem?_map]
  cases L[i]? <;> rfl⟩
theorem parse_join {a b : Tx} {d1 d2 : List Dc} {n1 n2 : Nat} (h1 : parseS a = (d1, n1, 0)) (h2 : parseS b = (d2, n2, 0)) (hl : a.length + b.length ≤ 65535) :
    parseS ((a ++ [10]) ++ b) = ([], 0, 3) ∨ ∃ ds, parseS ((a ++ [10]) ++ b) = (ds, 0, 0) ∧ ds.map eDc = d1.map eDc ++ d2.map eDc := by
  obtain ⟨ha, rfl, L1, j1, hW1, q1, b1⟩ := parse_ok h1
  obtain ⟨hb, rfl, L2, j2, hW2, q2, b2⟩ := parse_ok h2
  have hW := join_3 hW1 hW2
  have hk1 := (W_facts hW1).2.2.2
  have hk2 := (W_facts hW2).2.2.2
  have hcnt := (W_facts hW).1
  have hlen : ((a ++ [10]) ++ b).length = a.length + 1 + b.length := by simp; omega
  rw [hlen] at hcnt
  have ht : ∀ (L : List Wd) ds j, (∀ x ∈ L, x.k ≠ 0) → (progP 786433 []).run wEnd L 0 = .ok ds j → j = L.length := fun L ds j hk h => by
    have h0 := prog_le h
    obtain ⟨n, l, _, _, h4, _⟩ := prog_ahead (L' := L) _ _ _ _ _ h
    have := word_inK hk h4
    omega
  have hno := prog_sure (L := L1 ++ L2.map (addLn (1 + a.count 10))) (by omega)
  change (progP 786433 []).run wEnd _ 0 ≠ .oof at hno
  obtain ⟨ds, h3, h4⟩ := prog_join hk1 q1 (ht _ _ _ hk1 q1) q2 (ht _ _ _ hk2 q2) (like_add L2 _).go (List.length_map _) hno
  rw [parse_words_is hW (by omega), h3, parseR]
  by_cases hs : smallB ds = true
  · rw [if_pos hs]; exact .inr ⟨ds, rfl, h4⟩
  · rw [if_neg hs]; exact .inl rfl
end Go.Proofs.YtogodijfdkffaaaGreatDoor.Ln
