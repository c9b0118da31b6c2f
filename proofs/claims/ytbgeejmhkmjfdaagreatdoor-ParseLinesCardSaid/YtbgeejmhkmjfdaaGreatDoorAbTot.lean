/- The plain parser: trees are no greater than their words, and there is fuel enough. -/
import Derived.Test.YtbgeejmhkmjfdaaGreatDoorAbPr
namespace Go.Proofs.YtbgeejmhkmjfdaaGreatDoor.Ln
open Go Go.RowKit Go.Ab Go.Proofs 
set_option linter.unusedVariables false
set_option linter.unusedSimpArgs false
structure Cost {α : Type} (p : PW α) (e : Nat) (m : α → Nat) : Prop where
  go : ∀ {L : List Wd} {i j : Nat} {a : α}, p.run wEnd L i = .ok a j → m a + i ≤ j + e
theorem cost_ret {α : Type} {a : α} {e : Nat} {m : α → Nat} (h : m a ≤ e) : Cost (.ret a) e m := .mk fun hr => by cases hr; omega
theorem cost_bad {α : Type} {e : Nat} {m : α → Nat} : Cost (.bad : PW α) e m := .mk fun hr => by cases hr
theorem cost_oof {α : Type} {e : Nat} {m : α → Nat} : Cost (.oof : PW α) e m := .mk fun hr => by cases hr
theorem cost_bind {α β : Type} {p : PW α} {k : α → PW β} {e : Nat} {m : α → Nat} {n : β → Nat} (hp : Cost p 0 m) (hk : ∀ a, Cost (k a) (e + m a) n) : Cost (p.bind k) e n := .mk fun hr => by
  obtain ⟨a, j1, h1, h2⟩ := run_ok hr
  have := hp.go h1
  have := (hk a).go h2
  omega
theorem cost_look {α : Type} {k : Wd → PW α} {e : Nat} {m : α → Nat} (h : ∀ w, Cost (k w) e m) : Cost (.look k) e m := .mk fun hr => (h _).go hr
theorem cost_take {α : Type} {p : PW α} {e : Nat} {m : α → Nat} (h : Cost p (e + 1) m) : Cost (.take p) e m := .mk fun {L i j a} hr => by
  have := h.go (show p.run wEnd L (i + 1) = _ from hr)
  omega
theorem cost_ite {α : Type} {c : Prop} [Decidable c] {p q : PW α} {e : Nat} {m : α → Nat} (hp : Cost p e m) (hq : Cost q e m) : Cost (if c then p else q) e m := by split; exact hp; exact hq
theorem cost_may {α : Type} {s : Tx} {A B : PW α} {e : Nat} {m : α → Nat} (hA : Cost A (e + 1) m) (hB : Cost B e m) : Cost ((mayP s).bind fun b => if b = true then A else B) e m := .mk fun hr => by
  obtain ⟨b, j1, h1, h2⟩ := run_ok hr
  rcases may_at h1 with ⟨rfl, rfl, _⟩ | ⟨rfl, rfl⟩
  · have := hA.go h2; omega
  · have := hB.go h2; omega
theorem cost_need : ∀ ts : List Tx, Cost (needP ts) 0 fun _ => ts.length
  | [] => cost_ret (Nat.le_refl _)
  | s :: r => cost_may (.mk fun hr => by have := (cost_need r).go hr; simp only [List.length_cons]; omega) cost_bad
theorem cost_must {α : Type} {c : Wd → Bool} {k : Wd → Wd → α} : Cost (.look fun w => (mustP (c w)).bind fun x => .ret (k w x) : PW α) 0 fun _ => 1 := .mk fun hr => by
  obtain ⟨a, m, h1, h2⟩ := run_ok (p := mustP (c (wordAt wEnd _ _))) hr
  obtain ⟨q1, _, rfl⟩ := must_ok h1
  cases h2
  omega
theorem cost_name : Cost nameP 0 fun _ => 1 := cost_must (c := fun w => decide (w.k = 1) && !keyB w.s) (k := fun _ x => x.s)
theorem cost_whole : Cost wholeP 0 fun _ => 1 := cost_must (c := fun w => decide (w.k = 2)) (k := fun _ x => x.lo)
theorem cost_lit : Cost litP 0 fun _ => 1 := cost_must (c := fun w => decide (w.k = 3)) (k := fun _ x => (x.w, x.hi, x.lo))
theorem cost_owner : Cost ownerP 0 fun _ => 1 := cost_may (cost_ret (Nat.le_refl _)) cost_name
theorem cost_field : Cost fieldP 0 fun _ => 1 := cost_bind cost_owner fun a => cost_bind (cost_need _) fun _ => cost_bind cost_name fun b => cost_ret (by show 1 ≤ _; omega)
theorem cost_typed : Cost typedP 0 fun _ => 1 := cost_bind cost_name fun a => cost_bind cost_whole fun n => cost_ret (by show 1 ≤ _; omega)
mutual
def nEx : Ex → Nat
  | .mk _ _ _ _ _ _ _ _ args _ => args.length + nExs args
def nExs : List Ex → Nat
  | [] => 0
  | x :: l => nEx x + nExs l
end
mutual
def nSm : Sm → Nat
  | .mk _ _ _ _ _ args body els _ => args.length + nExs args + (body.length + nSms body) + (els.length + nSms els)
def nSms : List Sm → Nat
  | [] => 0
  | x :: l => nSm x + nSms l
end
theorem nExs_snoc (x : Ex) : ∀ l : List Ex, nExs (l ++ [x]) = nExs l + nEx x
  | [] => by rw [List.nil_append, nExs, nExs, nExs]; omega
  | y :: l => by rw [List.cons_append, nExs, nExs, nExs_snoc x l]; omega
theorem nSms_snoc (x : Sm) : ∀ l : List Sm, nSms (l ++ [x]) = nSms l + nSm x
  | [] => by rw [List.nil_append, nSms, nSms, nSms]; omega
  | y :: l => by rw [List.cons_append, nSms, nSms, nSms_snoc x l]; omega
theorem nExs_nil : nExs [] = 0 := by rw [nExs]
theorem nExs_one (x : Ex) : nExs [x] = nEx x := by rw [nExs, nExs]; omega
theorem nExs_two (x y : Ex) : nExs [x, y] = nEx x + nEx y := by rw [nExs, nExs, nExs]; omega
theorem nSms_nil : nSms [] = 0 := by rw [nSms]
theorem nEx_mk (op lw lh ll : Nat) (nm fl : Tx) (n m : Nat) (args : List Ex) (ln : Nat) : nEx (.mk op lw lh ll nm fl n m args ln) = args.length + nExs args := by rw [nEx]
theorem nEx_un (op : Nat) (args : List Ex) (ln : Nat) : nEx (exUn op args ln) = args.length + nExs args := by unfold exUn; rw [nEx]
theorem nSm_mk (k : Nat) (a b c : Tx) (n : Nat) (args : List Ex) (body els : List Sm) (ln : Nat) : nSm (.mk k a b c n args body els ln) = args.length + nExs args + (body.length + nSms body) + (els.length + nSms els) := by rw [nSm]
theorem cost_ex : ∀ f : Nat, (∀ lv, Cost (exP f lv) 0 fun x => 1 + nEx x) ∧ (∀ lv line x, Cost (exL f lv line x) (1 + nEx x) fun y => 1 + nEx y) ∧ (∀ line x, Cost (exS f line x) (1 + nEx x) fun y => 1 + nEx y) ∧ (∀ e acc, Cost (exR f e acc) (acc.length + nExs acc) fun l => l.length + nExs l)
  | 0 => ⟨fun lv => by rw [exP]; exact cost_oof, fun lv line x => by rw [exL]; exact cost_oof, fun line x => by rw [exS]; exact cost_oof, fun e acc => by rw [exR]; exact cost_oof⟩
  | f + 1 => by
    obtain ⟨ih1, ih2, ih3, ih4⟩ := cost_ex f
    have up2 : ∀ lv line x, Cost (exL f lv line x) (0 + (1 + nEx x)) fun y => 1 + nEx y := fun lv line x => by rw [Nat.zero_add]; exact ih2 lv line x
    refine ⟨fun lv => ?_, fun lv line x => ?_, fun line x => ?_, fun e acc => ?_⟩
    · rw [exP]
      refine cost_ite (cost_look fun w => cost_bind (ih1 _) fun x => up2 _ _ _) (cost_ite (cost_look fun w => cost_may (cost_bind (ih1 8) fun x => cost_ret (by rw [nEx_un, nExs_one]; simp only [List.length_cons, List.length_nil]; omega)) (cost_bind (ih1 9) fun x => by rw [Nat.zero_add]; exact ih3 _ _)) (cost_look fun w => cost_ite (cost_bind cost_lit fun l => cost_ret (by rw [nEx_mk, nExs_nil]; simp only [List.length_nil]; omega)) ?_))
      refine cost_may (cost_bind cost_name fun s => cost_ret (by rw [nEx_mk, nExs_nil]; simp only [List.length_nil]; omega)) ?_
      refine cost_may (cost_bind cost_whole fun n => cost_bind (cost_need _) fun _ => cost_bind (ih1 0) fun x => cost_bind (cost_need _) fun _ => cost_ret (by rw [nEx_mk, nExs_one]; simp only [List.length_cons, List.length_nil]; omega)) ?_
      refine cost_may (cost_bind cost_name fun s => cost_bind (cost_need _) fun _ => cost_bind (m := fun l => l.length + nExs l) (.mk fun h => by have := (ih4 [41] []).go h; rw [nExs_nil] at this; simpa using this) fun l => cost_ret (by rw [nEx_mk]; simp only [List.length_cons, List.length_nil]; omega)) ?_
      refine cost_may (cost_bind (ih1 0) fun x => cost_bind (cost_need _) fun _ => cost_ret (by omega)) ?_
      refine cost_bind cost_owner fun s => cost_ite (cost_bind (cost_need _) fun _ => cost_bind cost_name fun t => cost_ret (by rw [nEx_mk, nExs_nil]; simp only [List.length_nil]; omega)) ?_
      exact cost_may (cost_bind cost_name fun t => cost_ret (by rw [nEx_mk, nExs_nil]; simp only [List.length_nil]; omega)) (cost_ret (by rw [nEx_mk, nExs_nil]; simp only [List.length_nil]; omega))
    · rw [exL]
      refine cost_look fun w => ?_
      split
      · exact cost_ret (Nat.le_refl _)
      · refine cost_ite (cost_take (cost_bind (ih1 _) fun y => cost_ite (cost_ret (by rw [nEx_un, nExs_two]; simp only [List.length_cons, List.length_nil]; omega)) (.mk fun h => ?_))) (cost_ret (Nat.le_refl _))
        have := (ih2 lv line _).go h
        rw [nEx_un, nExs_two] at this
        simp only [List.length_cons, List.length_nil] at this
        omega
    · rw [exS]
      refine cost_may (cost_bind cost_whole fun n => cost_bind (cost_need _) fun _ => cost_bind cost_whole fun m => cost_bind (cost_need _) fun _ => (.mk fun h => ?_)) (cost_ret (Nat.le_refl _))
      have := (ih3 line _).go h
      rw [nEx_mk, nExs_one] at this
      simp only [List.length_cons, List.length_nil] at this ⊢
      omega
    · rw [exR]
      refine cost_bind (ih1 0) fun x => cost_may ((.mk fun h => ?_)) (cost_bind (cost_need _) fun _ => cost_ret (by rw [nExs_snoc]; simp only [List.length_append, List.length_cons, List.length_nil]; omega))
      have := (ih4 e _).go h
      rw [nExs_snoc] at this
      simp only [List.length_append, List.length_cons, List.length_nil] at this
      omega
theorem cost_exp (f lv : Nat) : Cost (exP f lv) 0 fun x => 1 + nEx x := (cost_ex f).1 lv
theorem cost_exr (f : Nat) (e : Tx) : Cost (exR f e []) 0 fun l => l.length + nExs l := .mk fun h => by have := ((cost_ex f).2.2.2 e []).go h; rw [nExs_nil] at this; simpa using this
theorem cost_index (f : Nat) : Cost (indexP f) 0 fun x => 1 + nEx x := cost_bind (cost_need _) fun _ => cost_bind (cost_exp f 0) fun x => cost_bind (cost_need _) fun _ => cost_ret (by omega)
theorem cost_semi {x : Sm} {e : Nat} (h : nSm x ≤ e) : Cost (semi x) e fun y => nSm y := cost_bind (cost_need _) fun _ => cost_ret (by omega)
theorem cost_form (f kind line : Nat) : ∀ form, Cost (formK f kind line form) 0 fun x => nSm x
  | 0 => cost_bind cost_name fun s => cost_semi (by rw [nSm_mk, nExs_nil, nSms_nil]; simp only [List.length_nil]; omega)
  | 1 => cost_bind cost_name fun s => cost_bind (cost_index f) fun x => cost_semi (by rw [nSm_mk, nExs_one, nSms_nil]; simp only [List.length_cons, List.length_nil]; omega)
  | 2 => cost_bind cost_field fun p => cost_bind (cost_need _) fun _ => cost_bind cost_name fun a => cost_bind (cost_index f) fun x => cost_semi (by rw [nSm_mk, nExs_one, nSms_nil]; simp only [List.length_cons, List.length_nil]; omega)
  | 3 => cost_bind cost_name fun a => cost_bind (cost_index f) fun x => cost_bind (cost_need _) fun _ => cost_bind (cost_exp f 0) fun y => cost_semi (by rw [nSm_mk, nExs_two, nSms_nil]; simp only [List.length_cons, List.length_nil]; omega)
  | 4 => cost_bind cost_field fun p => cost_semi (by rw [nSm_mk, nExs_nil, nSms_nil]; simp only [List.length_nil]; omega)
  | 5 => cost_semi (by rw [nSm_mk, nExs_nil, nSms_nil]; simp only [List.length_nil]; omega)
  | n + 6 => cost_bind cost_whole fun n => cost_semi (by rw [nSm_mk, nExs_nil, nSms_nil]; simp only [List.length_nil]; omega)
theorem cost_up {α : Type} {p : PW α} {e : Nat} {m : α → Nat} (c : Nat) (h : Cost p e m) : Cost p (e + c) fun a => c + m a := .mk fun hr => by have := h.go hr; omega
theorem cost_set (f : Nat) (w : Wd) (s : Tx) (e : Nat) : Cost (setK f w s) e fun x => nSm x := cost_bind (cost_need _) fun _ => cost_bind cost_name fun t => cost_bind (cost_need _) fun _ => cost_bind (cost_exp f 0) fun x => cost_semi (by rw [nSm_mk, nExs_one, nSms_nil]; simp only [List.length_cons, List.length_nil]; omega)
theorem cost_sm : ∀ f : Nat, Cost (smP f) 0 (fun x => 1 + nSm x) ∧ Cost (blP f) 0 (fun l => l.length + nSms l) ∧ ∀ acc, Cost (smsP f acc) (acc.length + nSms acc) fun l => l.length + nSms l
  | 0 => ⟨by rw [smP]; exact cost_oof, by rw [blP]; exact cost_oof, fun acc => by rw [smsP]; exact cost_oof⟩
  | f + 1 => by
    obtain ⟨ih1, ih2, ih3⟩ := cost_sm f
    refine ⟨?_, ?_, fun acc => ?_⟩
    · rw [smP_eq]
      refine cost_look fun w => ?_
      unfold stK
      split
      · exact cost_take (cost_up 1 (cost_form f _ _ _))
      · unfold restK
        refine cost_may (cost_bind (cost_exp f 0) fun x => cost_bind ih2 fun l => cost_may (cost_bind ih2 fun m => cost_ret (by rw [nSm_mk, nExs_one]; simp only [List.length_cons, List.length_nil]; omega)) (cost_ret (by rw [nSm_mk, nExs_one, nSms_nil]; simp only [List.length_cons, List.length_nil]; omega))) ?_
        refine cost_may (cost_bind (cost_exr f _) fun l => cost_ret (by rw [nSm_mk, nSms_nil]; simp only [List.length_nil]; omega)) ?_
        refine cost_bind cost_owner fun s => ?_
        have hset : Cost (setK f w s) (0 + 1) fun x => 1 + nSm x := cost_up 1 (cost_set f w s 0)
        refine cost_ite hset (cost_may (cost_bind (m := fun l => l.length + nExs l) (cost_may (cost_ret (by rw [nExs_nil]; simp)) (cost_exr f _)) fun l => ?_) hset)
        refine .mk fun h => ?_
        have := (cost_semi (Nat.le_refl _)).go h
        rw [nSm_mk, nSms_nil] at this
        simp only [List.length_nil] at this
        omega
    · rw [blP]
      refine cost_bind (cost_need _) fun _ => (.mk fun h => ?_)
      have := (ih3 []).go h
      rw [nSms_nil] at this
      simp only [List.length_nil] at this
      omega
    · rw [smsP]
      refine cost_may (cost_ret (by omega)) (cost_bind ih1 fun x => (.mk fun h => ?_))
      have := (ih3 _).go h
      rw [nSms_snoc] at this
      simp only [List.length_append, List.length_cons, List.length_nil] at this
      omega
def sumN {α : Type} (m : α → Nat) : List α → Nat
  | [] => 0
  | x :: l => m x + sumN m l
theorem sumN_snoc {α : Type} (m : α → Nat) (x : α) : ∀ l : List α, sumN m (l ++ [x]) = sumN m l + m x
  | [] => by simp [sumN]
  | y :: l => by rw [List.cons_append, sumN, sumN, sumN_snoc m x l]; omega
theorem sumN_one {α : Type} : ∀ l : List α, sumN (fun _ => 1) l = l.length
  | [] => rfl
  | y :: l => by rw [sumN, sumN_one l, List.length_cons]; omega
theorem sumN_add {α : Type} (m : α → Nat) : ∀ l : List α, sumN (fun x => 1 + m x) l = l.length + sumN m l
  | [] => rfl
  | y :: l => by rw [sumN, sumN, sumN_add m l, List.length_cons]; omega
theorem cost_each {α : Type} {p : PW α} {m : α → Nat} (hp : Cost p 0 m) : ∀ (f : Nat) (acc : List α), Cost (eachP p f acc) (sumN m acc) (sumN m)
  | 0, acc => cost_oof
  | f + 1, acc => cost_may (cost_ret (by omega)) (cost_bind hp fun x => .mk fun h => by have := (cost_each hp f _).go h; rw [sumN_snoc] at this; omega)
theorem cost_some {α : Type} {p : PW α} {m : α → Nat} (hp : Cost p 0 m) (e : Tx) : ∀ (f : Nat) (acc : List α), Cost (someP p e f acc) (sumN m acc) (sumN m)
  | 0, acc => cost_oof
  | f + 1, acc => cost_bind hp fun x => cost_may (.mk fun h => by have := (cost_some hp e f _).go h; rw [sumN_snoc] at this; omega) (cost_bind (cost_need _) fun _ => cost_ret (by rw [sumN_snoc]; omega))
theorem cost_row {α : Type} {p : PW α} {m : α → Nat} (hp : Cost p 0 m) (e : Tx) (f : Nat) : Cost (rowP p e f) 0 (sumN m) := cost_may (cost_ret (by simp [sumN])) (cost_some hp e f [])
theorem cost_ended {α : Type} {p : PW α} {m : α → Nat} (hp : Cost p 0 m) : Cost (endedP p) 0 m := cost_bind hp fun x => cost_bind (cost_need _) fun _ => cost_ret (by omega)
theorem may_mono {L : List Wd} {i j : Nat} {s : Tx} {b : Bool} (h : (mayP s).run wEnd L i = .ok b j) : i ≤ j := by rcases may_at h with ⟨_, h, _⟩ | ⟨_, h⟩ <;> omega
theorem cost_kase : Cost kaseP 0 fun _ => 1 := cost_bind cost_lit fun v => .mk fun h => by
  obtain ⟨b, j1, h1, h2⟩ := run_ok h
  obtain ⟨m, j2, h3, h4⟩ := run_ok h2
  have e2 := may_mono h1
  have e3 : j1 ≤ j2 := by
    cases b with
    | true => have := cost_lit.go h3; omega
    | false => cases h3; exact Nat.le_refl _
  have e4 : Cost ((needP [[58]]).bind fun _ => nameP.bind fun t => (needP [[59]]).bind fun _ => .ret (⟨v, m, t⟩ : Cs)) 0 fun _ => 0 := cost_bind (cost_need _) fun _ => cost_bind cost_name fun t => cost_bind (cost_need _) fun _ => cost_ret (Nat.zero_le _)
  have := e4.go h4
  omega
theorem cost_takes : ∀ (f : Nat) (acc : List Tx), Cost (takesP f acc) 0 fun _ => 0
  | 0, acc => cost_oof
  | f + 1, acc => cost_may (cost_bind cost_name fun s => cost_bind (cost_need _) fun _ => .mk fun h => by have := (cost_takes f _).go h; omega) (cost_ret (Nat.le_refl _))
theorem cost_cases : ∀ (f : Nat) (acc : List Cs), Cost (casesP f acc) acc.length fun l => l.length
  | 0, acc => cost_oof
  | f + 1, acc => cost_look fun w => cost_ite (cost_bind cost_kase fun c => .mk fun h => by have := (cost_cases f _).go h; simp only [List.length_append, List.length_cons, List.length_nil] at this; omega) (cost_ret (Nat.le_refl _))
theorem cost_names : ∀ (f : Nat) (acc : List Tx), Cost (namesP f acc) 0 fun _ => 0
  | 0, acc => cost_oof
  | f + 1, acc => cost_may (cost_ret (Nat.zero_le _)) (cost_bind cost_name fun s => .mk fun h => by have := (cost_names f _).go h; omega)
theorem cost_kind : ∀ l : List (Tx × Nat), Cost (kindP l) 0 fun _ => 0
  | [] => cost_bad
  | p :: r => cost_may (cost_ret (Nat.zero_le _)) (cost_kind r)
def nSt (s : Stt) : Nat := s.cases.length + (s.sel.length + nExs s.sel)
def nDc (d : Dc) : Nat := d.fields.length + (d.states.length + sumN nSt d.states) + sumN (fun k : Ex × Nat => 1 + nEx k.1) d.keys + (d.body.length + nSms d.body)
theorem cost_state (f : Nat) : Cost (stateP f) 0 fun s => 1 + nSt s := by
  rw [stateP_eq]
  refine cost_look fun w => cost_bind cost_name fun s => cost_bind (cost_need _) fun _ => cost_bind (cost_takes f []) fun hs => ?_
  refine cost_may (cost_bind (cost_exp f 0) fun x => cost_bind (cost_need _) fun _ => cost_bind (m := fun l => l.length) (cost_cases f []) fun cs => cost_bind (cost_need _) fun _ => cost_bind cost_name fun t => cost_bind (cost_need _) fun _ => cost_ret ?_) (cost_bind (cost_need _) fun _ => cost_bind cost_name fun t => cost_bind (cost_need _) fun _ => cost_ret ?_)
  · simp only [nSt, nExs_one, List.length_cons, List.length_nil]; omega
  · simp only [nSt, nExs_nil, List.length_cons, List.length_nil]; omega
theorem cost_key (f : Nat) : Cost (keyP f) 0 fun k => 1 + nEx k.1 := cost_bind (cost_exp f 0) fun x => cost_bind (cost_kind _) fun k => cost_ret (by simp only; omega)
theorem cost_fields {α : Type} (f : Nat) {K : List (Tx × Nat) → PW α} {e : Nat} {n : α → Nat} (h : ∀ l : List (Tx × Nat), Cost (K l) (e + l.length) n) : Cost ((fieldsP f).bind K) e n := by
  refine cost_bind (m := fun l => l.length) (cost_bind (cost_need _) fun _ => .mk fun hr => ?_) h
  have := (cost_each (cost_ended cost_typed) f []).go hr
  rw [sumN_one] at this
  simp only [sumN] at this
  omega
theorem cost_on (f line : Nat) : ∀ k : Nat, Cost (onP f line k) 0 nDc
  | 0 => cost_bad
  | 1 => cost_bind cost_name fun s => cost_fields f fun l => cost_ret (by simp only [nDc, dc0, sumN, nSms_nil, List.length_nil]; omega)
  | 2 => cost_fields f fun l => cost_ret (by simp only [nDc, dc0, sumN, nSms_nil, List.length_nil]; omega)
  | 3 => cost_bind cost_name fun s => cost_bind cost_whole fun w => cost_bind cost_whole fun n => cost_bind (cost_need _) fun _ => cost_ret (by simp only [nDc, dc0, sumN, nSms_nil, List.length_nil]; omega)
  | 4 => cost_bind cost_name fun s => cost_bind cost_whole fun n => cost_bind (cost_need _) fun _ => cost_ret (by simp only [nDc, dc0, sumN, nSms_nil, List.length_nil]; omega)
  | 5 => cost_bind cost_name fun s => cost_bind cost_whole fun n => cost_bind cost_whole fun r => cost_bind cost_whole fun u => cost_bind (cost_need _) fun _ => cost_ret (by simp only [nDc, dc0, sumN, nSms_nil, List.length_nil]; omega)
  | 6 => cost_bind (cost_need _) fun _ => cost_bind (m := fun l => l.length + sumN nSt l) (.mk fun h => by have := (cost_each (cost_state f) f []).go h; rw [sumN_add] at this; simp only [sumN] at this; omega) fun l => cost_ret (by simp only [nDc, dc0, sumN, nSms_nil, List.length_nil]; omega)
  | 7 => cost_bind cost_name fun s => cost_bind (cost_need _) fun _ => cost_bind (m := fun l => l.length) (.mk fun h => by have := (cost_row cost_typed _ f).go h; rw [sumN_one] at this; exact this) fun l => cost_bind (cost_sm f).2.1 fun m => cost_ret (by simp only [nDc, dc0, sumN, List.length_nil]; omega)
  | 8 => cost_bind cost_name fun s => cost_bind (cost_need _) fun _ => cost_bind (m := sumN fun k : Ex × Nat => 1 + nEx k.1) (.mk fun h => by have := (cost_each (cost_ended (cost_key f)) f []).go h; simp only [sumN] at this; omega) fun ks => cost_bind (cost_need _) fun _ => cost_bind cost_name fun a => cost_bind (cost_names f _) fun al => cost_bind (cost_need _) fun _ => cost_bind cost_name fun d => cost_bind (cost_need _) fun _ => cost_bind (m := fun l => l.length) (.mk fun h => by have := (cost_row cost_lit _ f).go h; rw [sumN_one] at this; exact this) fun l => cost_bind (cost_need _) fun _ => cost_bind cost_whole fun n => cost_bind (cost_need _) fun _ => cost_ret (by simp only [nDc, dc0, sumN, nSms_nil, List.length_nil]; omega)
  | 9 => cost_bind (cost_sm f).2.1 fun m => cost_ret (by simp only [nDc, dc0, sumN, List.length_nil]; omega)
  | 10 => cost_bind (cost_need _) fun _ => cost_bind (m := fun l => l.length) (.mk fun h => by have := (cost_each (cost_ended cost_name) f []).go h; rw [sumN_one] at this; simp only [sumN] at this; omega) fun l => cost_ret (by simp only [nDc, dc0, sumN, nSms_nil, List.length_nil]; omega)
  | _ + 11 => cost_bad
theorem cost_decl (f : Nat) : Cost (declP f) 0 fun d => 1 + nDc d := cost_look fun w => .mk fun h => by
  obtain ⟨a, m, h1, h2⟩ := run_ok h
  obtain ⟨_, _, rfl⟩ := must_ok h1
  have := (cost_on f _ _).go h2
  omega
theorem cost_prog : ∀ (f : Nat) (acc : List Dc), Cost (progP f acc) (acc.length + sumN nDc acc) fun l => l.length + sumN nDc l
  | 0, acc => cost_oof
  | f + 1, acc => cost_look fun w => cost_ite (cost_ret (Nat.le_refl _)) (cost_bind (cost_decl f) fun d => .mk fun h => by have := (cost_prog f _).go h; rw [sumN_snoc] at this; simp only [List.length_append, List.length_cons, List.length_nil] at this; omega)
mutual
theorem exA_n : ∀ (x : Ex) (d : Nat) (c : Ct), (exA x d c).1 = c.1 + nEx x
  | .mk _ _ _ _ _ _ _ _ args _, d, c => by rw [exA, exF_n args, nEx]; show c.1 + args.length + nExs args = _; omega
theorem exF_n : ∀ (l : List Ex) (d : Nat) (c : Ct), (exF l d c).1 = c.1 + nExs l
  | [], d, c => by rw [exF, nExs]; rfl
  | x :: l, d, c => by rw [exF, exF_n l, exA_n x, nExs]; omega
end
theorem exprsC_n (l : List Ex) (d : Nat) (c : Ct) : (exprsC l d c).1 = c.1 + (l.length + nExs l) := by unfold exprsC; rw [exF_n]; show c.1 + l.length + nExs l = _; omega
mutual
theorem smA_n : ∀ (x : Sm) (d : Nat) (c : Ct), (smA x d c).1 = c.1 + nSm x
  | .mk _ _ _ _ _ args body els _, d, c => by
    rw [smA, smF_n els, nSm]
    show (smF body _ _).1 + els.length + nSms els = _
    rw [smF_n body]
    show (exprsC args d c).1 + body.length + nSms body + els.length + nSms els = _
    rw [exprsC_n]; omega
theorem smF_n : ∀ (l : List Sm) (d : Nat) (c : Ct), (smF l d c).1 = c.1 + nSms l
  | [], d, c => by rw [smF, nSms]; rfl
  | x :: l, d, c => by rw [smF, smF_n l, smA_n x, nSms]; omega
end
theorem statesF_n : ∀ (l : List Stt) (c : Ct), (statesF l c).1 = c.1 + sumN nSt l
  | [], c => rfl
  | s :: l, c => by
    rw [statesF, statesF_n l, sumN]
    show (exprsC s.sel 3 (partsC s.cases.length 3 c)).1 + _ = _
    rw [exprsC_n]; show c.1 + s.cases.length + _ + _ = _; unfold nSt; omega
theorem keysF_n : ∀ (l : List (Ex × Nat)) (c : Ct), (keysF l c).1 = c.1 + sumN (fun k : Ex × Nat => 1 + nEx k.1) l
  | [], c => rfl
  | k :: l, c => by rw [keysF, keysF_n l, exprsC_n, sumN, nExs_one]; simp only [List.length_cons, List.length_nil]; omega
theorem declC_n (d : Dc) (c : Ct) : (declC d c).1 = c.1 + nDc d := by
  unfold declC stmtsC
  rw [smF_n]
  show (keysF _ _).1 + d.body.length + _ = _
  rw [keysF_n, statesF_n]
  show c.1 + d.fields.length + d.states.length + _ + _ + _ + _ = _
  unfold nDc; omega
theorem declsF_n : ∀ (l : List Dc) (c : Ct), (declsF l c).1 = c.1 + sumN nDc l
  | [], c => rfl
  | d :: l, c => by rw [declsF, declsF_n l, declC_n, sumN]; omega
theorem progC_n (l : List Dc) : (progC l).1 = l.length + sumN nDc l := by unfold progC; rw [declsF_n]; show 0 + l.length + _ = _; omega
theorem prog_count {L : List Wd} {f : Nat} {ds : List Dc} {j : Nat} (h : (progP f []).run wEnd L 0 = .ok ds j) : (progC ds).1 ≤ j := by
  have := (cost_prog f []).go h
  rw [progC_n]
  simp only [List.length_nil, sumN] at this
  omega
def Nf {α : Type} (p : PW α) (L : List Wd) (i : Nat) : Prop := p.run wEnd L i ≠ .oof
structure Sure {α : Type} (p : PW α) : Prop where
  go : ∀ (L : List Wd) (i : Nat), Nf p L i
theorem nf_ret {α : Type} {a : α} {L : List Wd} {i : Nat} : Nf (.ret a) L i := fun c => by cases c
theorem nf_bad {α : Type} {L : List Wd} {i : Nat} : Nf (.bad : PW α) L i := fun c => by cases c
theorem nf_look {α : Type} {k : Wd → PW α} {L : List Wd} {i : Nat} (h : Nf (k (wordAt wEnd L i)) L i) : Nf (.look k) L i := h
theorem nf_ite {α : Type} {c : Prop} [Decidable c] {p q : PW α} {L : List Wd} {i : Nat} (hp : Nf p L i) (hq : Nf q L i) : Nf (if c then p else q) L i := by split; exact hp; exact hq
theorem nf_bind {α β : Type} {p : PW α} {k : α → PW β} {L : List Wd} {i : Nat} (hp : Nf p L i) (hk : ∀ a m, p.run wEnd L i = .ok a m → Nf (k a) L m) : Nf (p.bind k) L i := by
  unfold Nf
  rw [run_bind]
  cases hr : p.run wEnd L i with
  | ok a m => exact hk a m hr
  | bad m => intro c; cases c
  | oof => exact absurd hr hp
theorem nf_bindT {α β : Type} {p : PW α} {k : α → PW β} {L : List Wd} {i : Nat} (ht : Tame p) (hi : i ≤ L.length) (hp : Nf p L i) (hk : ∀ a m, i ≤ m → m ≤ L.length → Nf (k a) L m) : Nf (p.bind k) L i :=
  nf_bind hp fun a m hr => hk a m (ht hr hi).1 (ht hr hi).2
theorem nf_bindE {α β : Type} {p : PW α} {k : α → PW β} {L : List Wd} {i : Nat} (ht : Eager p) (hi : i ≤ L.length) (hp : Nf p L i) (hk : ∀ a m, i < m → m ≤ L.length → Nf (k a) L m) : Nf (p.bind k) L i :=
  nf_bind hp fun a m hr => hk a m (ht hr hi).1 (ht hr hi).2
theorem nf_mayb {s : Tx} {L : List Wd} {i : Nat} : Nf (mayP s) L i := nf_look (nf_ite (fun c => by cases c) nf_ret)
theorem nf_may {α : Type} {s : Tx} {A B : PW α} {L : List Wd} {i : Nat} (hA : i < L.length → Nf A L (i + 1)) (hB : Nf B L i) : Nf ((mayP s).bind fun b => if b = true then A else B) L i :=
  nf_bind nf_mayb fun b m hr => by
    rcases may_at hr with ⟨rfl, rfl, h⟩ | ⟨rfl, rfl⟩
    · exact hA h
    · exact hB
theorem nf_needb : ∀ (ts : List Tx) {L : List Wd} {i : Nat}, Nf (needP ts) L i
  | [], _, _ => nf_ret
  | s :: r, _, _ => nf_bind nf_mayb fun b m _ => nf_ite (nf_needb r) nf_bad
theorem nf_need {α : Type} {ts : List Tx} {k : Unit → PW α} {L : List Wd} {i : Nat} (hi : i ≤ L.length) (hk : ∀ a m, i ≤ m → m ≤ L.length → Nf (k a) L m) : Nf ((needP ts).bind k) L i := nf_bindT (tame_need ts) hi (nf_needb ts) hk
theorem nf_must {α : Type} {c : Wd → Bool} {k : Wd → Wd → α} {L : List Wd} {i : Nat} : Nf (.look fun w => (mustP (c w)).bind fun x => .ret (k w x) : PW α) L i := nf_look (nf_bind (by cases c (wordAt wEnd L i) <;> exact fun c => by cases c) fun a m _ => nf_ret)
theorem nf_nameb {L : List Wd} {i : Nat} : Nf nameP L i := nf_must (c := fun w => decide (w.k = 1) && !keyB w.s) (k := fun _ x => x.s)
theorem nf_wholeb {L : List Wd} {i : Nat} : Nf wholeP L i := nf_must (c := fun w => decide (w.k = 2)) (k := fun _ x => x.lo)
theorem nf_litb {L : List Wd} {i : Nat} : Nf litP L i := nf_must (c := fun w => decide (w.k = 3)) (k := fun _ x => (x.w, x.hi, x.lo))
theorem nf_name {α : Type} {k : Tx → PW α} {L : List Wd} {i : Nat} (hi : i ≤ L.length) (hk : ∀ a m, i < m → m ≤ L.length → Nf (k a) L m) : Nf (nameP.bind k) L i := nf_bindE eager_name hi nf_nameb hk
theorem nf_whole {α : Type} {k : Nat → PW α} {L : List Wd} {i : Nat} (hi : i ≤ L.length) (hk : ∀ a m, i < m → m ≤ L.length → Nf (k a) L m) : Nf (wholeP.bind k) L i := nf_bindE eager_whole hi nf_wholeb hk
theorem nf_lit {α : Type} {k : N3 → PW α} {L : List Wd} {i : Nat} (hi : i ≤ L.length) (hk : ∀ a m, i < m → m ≤ L.length → Nf (k a) L m) : Nf (litP.bind k) L i := nf_bindE eager_lit hi nf_litb hk
theorem nf_ownerb {L : List Wd} {i : Nat} : Nf ownerP L i := nf_may (fun _ => nf_ret) nf_nameb
theorem nf_owner {α : Type} {k : Tx → PW α} {L : List Wd} {i : Nat} (hi : i ≤ L.length) (hk : ∀ a m, i < m → m ≤ L.length → Nf (k a) L m) : Nf (ownerP.bind k) L i := nf_bindE eager_owner hi nf_ownerb hk
theorem eager_field : Eager fieldP := eager_bind eager_owner fun a => tame_bind (tame_need _) fun _ => tame_bind eager_name.tame fun b => tame_ret _
theorem nf_field {α : Type} {k : Tx × Tx → PW α} {L : List Wd} {i : Nat} (hi : i ≤ L.length) (hk : ∀ a m, i < m → m ≤ L.length → Nf (k a) L m) : Nf (fieldP.bind k) L i :=
  nf_bindE eager_field hi (nf_owner hi fun a m h1 h2 => nf_need h2 fun _ m2 h3 h4 => nf_name h4 fun b m3 _ _ => nf_ret) hk
theorem nf_ex {L : List Wd} : ∀ f : Nat, (∀ lv i, lv ≤ 9 → i ≤ L.length → 12 * (L.length - i) + 11 ≤ f + lv → Nf (exP f lv) L i) ∧ (∀ lv line x i, lv ≤ 7 → i ≤ L.length → 12 * (L.length - i) + 1 ≤ f → Nf (exL f lv line x) L i) ∧ (∀ line x i, i ≤ L.length → 12 * (L.length - i) + 1 ≤ f → Nf (exS f line x) L i) ∧ (∀ e acc i, i ≤ L.length → 12 * (L.length - i) + 12 ≤ f → Nf (exR f e acc) L i)
  | 0 => ⟨fun lv i h1 h2 h3 => by omega, fun lv line x i h1 h2 h3 => by omega, fun line x i h1 h2 => by omega, fun e acc i h1 h2 => by omega⟩
  | f + 1 => by
    obtain ⟨ih1, ih2, ih3, ih4⟩ := nf_ex (L := L) f
    refine ⟨fun lv i h1 h2 h3 => ?_, fun lv line x i h1 h2 h3 => ?_, fun line x i h1 h2 => ?_, fun e acc i h1 h2 => ?_⟩
    · by_cases h7 : lv ≤ 7
      · rw [exP, if_pos h7]
        exact nf_look (nf_bindT (tame_ex f _) h2 (ih1 _ _ (by omega) h2 (by omega)) fun x m q1 q2 => ih2 _ _ _ _ h7 q2 (by omega))
      by_cases h8 : lv = 8
      · subst h8
        rw [exP, if_neg h7, if_pos rfl]
        exact nf_look (nf_may (fun hlt => nf_bindT (tame_ex f _) hlt (ih1 _ _ (by omega) hlt (by omega)) fun x m q1 q2 => nf_ret) (nf_bindT (tame_ex f _) h2 (ih1 _ _ (by omega) h2 (by omega)) fun x m q1 q2 => ih3 _ _ _ q2 (by omega)))
      obtain rfl : lv = 9 := by omega
      rw [exP_prim]
      refine nf_look ?_
      unfold primK
      refine nf_ite (nf_lit h2 fun _ _ _ _ => nf_ret) ?_
      refine nf_may (fun hlt => nf_name hlt fun _ _ _ _ => nf_ret) ?_
      refine nf_may (fun hlt => nf_whole hlt fun _ m q1 q2 => nf_need q2 fun _ m2 q3 q4 => nf_bindT (tame_ex f _) q4 (ih1 _ _ (by omega) q4 (by omega)) fun x m3 q5 q6 => nf_need q6 fun _ _ _ _ => nf_ret) ?_
      refine nf_may (fun hlt => nf_name hlt fun _ m q1 q2 => nf_need q2 fun _ m2 q3 q4 => nf_bindT (tame_exR f _ _) q4 (ih4 _ _ _ q4 (by omega)) fun l m3 q5 q6 => nf_ret) ?_
      refine nf_may (fun hlt => nf_bindT (tame_ex f _) hlt (ih1 _ _ (by omega) hlt (by omega)) fun x m q1 q2 => nf_need q2 fun _ _ _ _ => nf_ret) ?_
      refine nf_owner h2 fun s m q1 q2 => nf_ite (nf_need q2 fun _ m2 q3 q4 => nf_name q4 fun _ _ _ _ => nf_ret) (nf_may (fun hlt => nf_name hlt fun _ _ _ _ => nf_ret) nf_ret)
    · rw [exL]
      refine nf_look ?_
      split
      · exact nf_ret
      · rename_i op b _
        by_cases hc : (wordAt wEnd L i).k = 4 ∧ b = lv
        · rw [if_pos hc]
          have hlt := word_in (L := L) (i := i) (by rw [hc.1]; decide)
          show Nf ((exP f (lv + 1)).bind _) L (i + 1)
          exact nf_bindT (tame_ex f _) hlt (ih1 _ _ (by omega) hlt (by omega)) fun y m q1 q2 => nf_ite nf_ret (ih2 _ _ _ _ h1 q2 (by omega))
        · rw [if_neg hc]; exact nf_ret
    · rw [exS]
      exact nf_may (fun hlt => nf_whole hlt fun _ m q1 q2 => nf_need q2 fun _ m2 q3 q4 => nf_whole q4 fun _ m3 q5 q6 => nf_need q6 fun _ m4 q7 q8 => ih3 _ _ _ q8 (by omega)) nf_ret
    · rw [exR]
      refine nf_bindT (tame_ex f _) h1 (ih1 _ _ (by omega) h1 (by omega)) fun x m q1 q2 => nf_may (fun hlt => ih4 _ _ _ hlt (by omega)) (nf_need q2 fun _ _ _ _ => nf_ret)
theorem nf_exp {L : List Wd} {f i : Nat} (hi : i ≤ L.length) (hf : 12 * (L.length - i) + 11 ≤ f) : Nf (exP f 0) L i := (nf_ex f).1 0 i (by omega) hi hf
theorem nf_exr {L : List Wd} {f i : Nat} {e : Tx} {acc : List Ex} (hi : i ≤ L.length) (hf : 12 * (L.length - i) + 12 ≤ f) : Nf (exR f e acc) L i := (nf_ex f).2.2.2 e acc i hi hf
theorem nf_index {α : Type} {L : List Wd} {f i : Nat} {k : Ex → PW α} (hi : i ≤ L.length) (hf : 12 * (L.length - i) + 11 ≤ f) (hk : ∀ a m, i ≤ m → m ≤ L.length → Nf (k a) L m) : Nf ((indexP f).bind k) L i :=
  nf_bindT (tame_index f) hi (nf_need hi fun _ m q1 q2 => nf_bindT (tame_ex f _) q2 (nf_exp q2 (by omega)) fun x m2 q3 q4 => nf_need q4 fun _ _ _ _ => nf_ret) hk
theorem nf_semi {L : List Wd} {i : Nat} {x : Sm} (hi : i ≤ L.length) : Nf (semi x) L i := nf_need hi fun _ _ _ _ => nf_ret
theorem nf_form {L : List Wd} {f kind line i : Nat} (hi : i ≤ L.length) (hf : 12 * (L.length - i) + 11 ≤ f) : ∀ form, Nf (formK f kind line form) L i
  | 0 => nf_name hi fun _ m q1 q2 => nf_semi q2
  | 1 => nf_name hi fun _ m q1 q2 => nf_index q2 (by omega) fun x m2 q3 q4 => nf_semi q4
  | 2 => nf_field hi fun _ m q1 q2 => nf_need q2 fun _ m2 q3 q4 => nf_name q4 fun _ m3 q5 q6 => nf_index q6 (by omega) fun x m4 q7 q8 => nf_semi q8
  | 3 => nf_name hi fun _ m q1 q2 => nf_index q2 (by omega) fun x m2 q3 q4 => nf_need q4 fun _ m3 q5 q6 => nf_bindT (tame_ex f _) q6 (nf_exp q6 (by omega)) fun y m4 q7 q8 => nf_semi q8
  | 4 => nf_field hi fun _ m q1 q2 => nf_semi q2
  | 5 => nf_semi hi
  | n + 6 => nf_whole hi fun _ m q1 q2 => nf_semi q2
theorem nf_set {L : List Wd} {f i : Nat} {w : Wd} {s : Tx} (hi : i ≤ L.length) (hf : 12 * (L.length - i) + 11 ≤ f) : Nf (setK f w s) L i := nf_need hi fun _ m q1 q2 => nf_name q2 fun _ m2 q3 q4 => nf_need q4 fun _ m3 q5 q6 => nf_bindT (tame_ex f _) q6 (nf_exp q6 (by omega)) fun y m4 q7 q8 => nf_semi q8
theorem nf_sm {L : List Wd} : ∀ f : Nat, (∀ i, i ≤ L.length → 12 * (L.length - i) + 1 ≤ f → Nf (smP f) L i) ∧ (∀ i, i ≤ L.length → 12 * (L.length - i) + 1 ≤ f → Nf (blP f) L i) ∧ (∀ acc i, i ≤ L.length → 12 * (L.length - i) + 2 ≤ f → Nf (smsP f acc) L i)
  | 0 => ⟨fun i h1 h2 => by omega, fun i h1 h2 => by omega, fun acc i h1 h2 => by omega⟩
  | f + 1 => by
    obtain ⟨ih1, ih2, ih3⟩ := nf_sm (L := L) f
    refine ⟨fun i h1 h2 => ?_, fun i h1 h2 => ?_, fun acc i h1 h2 => ?_⟩
    · rw [smP_eq]
      refine nf_look ?_
      unfold stK
      split
      · rename_i kind form he
        have hk : (wordAt wEnd L i).k = 1 := by
          by_cases h : (wordAt wEnd L i).k = 1
          · exact h
          · rw [if_neg h] at he; cases he
        have hlt := word_in (L := L) (i := i) (by rw [hk]; decide)
        exact nf_form (i := i + 1) hlt (by omega) form
      · unfold restK
        refine nf_may (fun hlt => nf_bindT (tame_ex f _) hlt (nf_exp hlt (by omega)) fun x m q1 q2 => nf_bindT (tame_bl f) q2 (ih2 _ q2 (by omega)) fun l m2 q3 q4 => nf_may (fun hl2 => nf_bindT (tame_bl f) hl2 (ih2 _ hl2 (by omega)) fun _ _ _ _ => nf_ret) nf_ret) ?_
        refine nf_may (fun hlt => nf_bindT (tame_exR f _ _) hlt (nf_exr hlt (by omega)) fun _ _ _ _ => nf_ret) ?_
        refine nf_owner h1 fun s m q1 q2 => nf_ite (nf_set q2 (by omega)) (nf_may (fun hlt => ?_) (nf_set q2 (by omega)))
        exact nf_bindT (tame_bind (tame_may _) fun c => tame_ite (tame_ret _) (tame_exR f _ _)) hlt (nf_may (fun _ => nf_ret) (nf_exr hlt (by omega))) fun l m2 q3 q4 => nf_semi q4
    · rw [blP]
      refine nf_bind (nf_needb _) fun _ m hr => ?_
      obtain ⟨b, j1, r1, r2⟩ := run_ok (p := mayP [123]) (k := fun b => if b = true then needP [] else .bad) hr
      rcases may_at r1 with ⟨rfl, rfl, hlt⟩ | ⟨rfl, rfl⟩
      · cases r2; exact ih3 _ _ hlt (by omega)
      · cases r2
    · rw [smsP]
      exact nf_may (fun hlt => nf_ret) (nf_bindE (p := smP f) (eager_sm f) h1 (ih1 _ h1 (by omega)) fun x m q1 q2 => ih3 _ _ q2 (by omega))
theorem nf_bl {α : Type} {L : List Wd} {f i : Nat} {k : List Sm → PW α} (hi : i ≤ L.length) (hf : 12 * (L.length - i) + 1 ≤ f) (hk : ∀ a m, i ≤ m → m ≤ L.length → Nf (k a) L m) : Nf ((blP f).bind k) L i := nf_bindT (tame_bl f) hi ((nf_sm f).2.1 i hi hf) hk
theorem nf_each {α : Type} {p : PW α} {L : List Wd} (he : Eager p) {i0 : Nat} (hn : ∀ i, i0 ≤ i → i ≤ L.length → Nf p L i) : ∀ (f : Nat) (acc : List α) (i : Nat), i0 ≤ i → i ≤ L.length → L.length - i + 1 ≤ f → Nf (eachP p f acc) L i
  | 0, acc, i, h0, h1, h2 => by omega
  | f + 1, acc, i, h0, h1, h2 => nf_may (fun _ => nf_ret) (nf_bindE he h1 (hn i h0 h1) fun x m q1 q2 => nf_each he hn f _ m (by omega) q2 (by omega))
theorem nf_some {α : Type} {p : PW α} {e : Tx} {L : List Wd} (he : Eager p) (hn : ∀ i, i ≤ L.length → Nf p L i) : ∀ (f : Nat) (acc : List α) (i : Nat), i ≤ L.length → L.length - i + 1 ≤ f → Nf (someP p e f acc) L i
  | 0, acc, i, h1, h2 => by omega
  | f + 1, acc, i, h1, h2 => nf_bindE he h1 (hn i h1) fun x m q1 q2 => nf_may (fun hlt => nf_some he hn f _ _ hlt (by omega)) (nf_need q2 fun _ _ _ _ => nf_ret)
theorem nf_row {α β : Type} {p : PW α} {e : Tx} {L : List Wd} {f i : Nat} {k : List α → PW β} (he : Eager p) (hn : ∀ i, i ≤ L.length → Nf p L i) (hi : i ≤ L.length) (hf : L.length - i + 1 ≤ f) (hk : ∀ a m, i ≤ m → m ≤ L.length → Nf (k a) L m) : Nf ((rowP p e f).bind k) L i :=
  nf_bindT (tame_row (Eager.tame he) e f) hi (nf_may (fun _ => nf_ret) (nf_some he hn f [] i hi hf)) hk
theorem nf_takes {L : List Wd} : ∀ (f : Nat) (acc : List Tx) (i : Nat), i ≤ L.length → L.length - i + 1 ≤ f → Nf (takesP f acc) L i
  | 0, acc, i, h1, h2 => by omega
  | f + 1, acc, i, h1, h2 => nf_may (fun hlt => nf_name hlt fun _ m q1 q2 => nf_need q2 fun _ m2 q3 q4 => nf_takes f _ m2 q4 (by omega)) nf_ret
theorem nf_kaseb {L : List Wd} {i : Nat} (hi : i ≤ L.length) : Nf kaseP L i := by
  rw [kaseP_eq]
  have hE : ∀ (v m : N3) (i : Nat), i ≤ L.length → Nf (kaseE v m) L i := fun v m i hi => nf_need hi fun _ m q1 q2 => nf_name q2 fun _ m2 q3 q4 => nf_need q4 fun _ _ _ _ => nf_ret
  exact nf_lit hi fun v m q1 q2 => nf_may (fun hlt => nf_lit hlt fun _ m2 q3 q4 => hE _ _ _ q4) (hE _ _ _ q2)
theorem nf_cases {L : List Wd} : ∀ (f : Nat) (acc : List Cs) (i : Nat), i ≤ L.length → L.length - i + 1 ≤ f → Nf (casesP f acc) L i
  | 0, acc, i, h1, h2 => by omega
  | f + 1, acc, i, h1, h2 => nf_look (nf_ite (nf_bindE eager_kase h1 (nf_kaseb h1) fun c m q1 q2 => nf_cases f _ m q2 (by omega)) nf_ret)
theorem nf_names {L : List Wd} : ∀ (f : Nat) (acc : List Tx) (i : Nat), i ≤ L.length → L.length - i + 1 ≤ f → Nf (namesP f acc) L i
  | 0, acc, i, h1, h2 => by omega
  | f + 1, acc, i, h1, h2 => nf_may (fun _ => nf_ret) (nf_name h1 fun _ m q1 q2 => nf_names f _ m q2 (by omega))
theorem nf_kind {L : List Wd} {i : Nat} : ∀ l : List (Tx × Nat), Nf (kindP l) L i
  | [] => nf_bad
  | p :: r => nf_may (fun _ => nf_ret) (nf_kind r)
theorem nf_state {L : List Wd} {f i : Nat} (hi : i ≤ L.length) (hf : 12 * (L.length - i) + 11 ≤ f) : Nf (stateP f) L i := by
  rw [stateP_eq]
  refine nf_look ?_
  unfold stateK
  refine nf_name hi fun _ m q1 q2 => nf_need q2 fun _ m2 q3 q4 => nf_bindT (tame_takes f []) q4 (nf_takes f [] _ q4 (by omega)) fun hs m3 q5 q6 => ?_
  unfold stateT
  refine nf_may (fun hlt => nf_bindT (tame_ex f _) hlt (nf_exp hlt (by omega)) fun x m4 q7 q8 => nf_need q8 fun _ m5 q9 q10 => nf_bindT (tame_cases f []) q10 (nf_cases f [] _ q10 (by omega)) fun cs m6 q11 q12 => ?_) (nf_need q6 fun _ m4 q7 q8 => nf_name q8 fun _ m5 q9 q10 => nf_need q10 fun _ _ _ _ => nf_ret)
  exact nf_need q12 fun _ m7 q13 q14 => nf_name q14 fun _ m8 q15 q16 => nf_need q16 fun _ _ _ _ => nf_ret
theorem nf_key {L : List Wd} {f i : Nat} (hi : i ≤ L.length) (hf : 12 * (L.length - i) + 11 ≤ f) : Nf (keyP f) L i := nf_bindT (tame_ex f _) hi (nf_exp hi hf) fun x m q1 q2 => nf_bind (nf_kind _) fun _ _ _ => nf_ret
theorem nf_ended {α : Type} {p : PW α} {L : List Wd} {i : Nat} (he : Eager p) (hi : i ≤ L.length) (hn : Nf p L i) : Nf (endedP p) L i := nf_bindE he hi hn fun x m q1 q2 => nf_need q2 fun _ _ _ _ => nf_ret
theorem nf_typed {L : List Wd} {i : Nat} (hi : i ≤ L.length) : Nf typedP L i := nf_name hi fun _ m q1 q2 => nf_whole q2 fun _ _ _ _ => nf_ret
theorem nf_fields {α : Type} {L : List Wd} {f i : Nat} {k : List (Tx × Nat) → PW α} (hi : i ≤ L.length) (hf : L.length - i + 1 ≤ f) (hk : ∀ a m, i ≤ m → m ≤ L.length → Nf (k a) L m) : Nf ((fieldsP f).bind k) L i :=
  nf_bindT (tame_fields f) hi (nf_need hi fun _ m q1 q2 => nf_each (i0 := 0) (eager_ended eager_typed) (fun i _ h => nf_ended eager_typed h (nf_typed h)) f [] m (Nat.zero_le _) q2 (by omega)) hk
theorem nf_on {L : List Wd} {f line i : Nat} (hi : i ≤ L.length) (hf : 12 * (L.length - i) + 12 ≤ f) : ∀ k, Nf (onP f line k) L i
  | 0 => nf_bad
  | 1 => nf_name hi fun _ m q1 q2 => nf_fields q2 (by omega) fun _ _ _ _ => nf_ret
  | 2 => nf_fields hi (by omega) fun _ _ _ _ => nf_ret
  | 3 => nf_name hi fun _ m q1 q2 => nf_whole q2 fun _ m2 q3 q4 => nf_whole q4 fun _ m3 q5 q6 => nf_need q6 fun _ _ _ _ => nf_ret
  | 4 => nf_name hi fun _ m q1 q2 => nf_whole q2 fun _ m2 q3 q4 => nf_need q4 fun _ _ _ _ => nf_ret
  | 5 => nf_name hi fun _ m q1 q2 => nf_whole q2 fun _ m2 q3 q4 => nf_whole q4 fun _ m3 q5 q6 => nf_whole q6 fun _ m4 q7 q8 => nf_need q8 fun _ _ _ _ => nf_ret
  | 6 => nf_need hi fun _ m q1 q2 => nf_bindT (tame_each (tame_state f) f []) q2 (nf_each (i0 := m) (p := stateP f) (eager_state f) (fun i h h' => nf_state h' (by omega)) f [] m (Nat.le_refl _) q2 (by omega)) fun _ _ _ _ => nf_ret
  | 7 => nf_name hi fun _ m q1 q2 => nf_need q2 fun _ m2 q3 q4 => nf_row eager_typed (fun i h => nf_typed h) q4 (by omega) fun l m3 q5 q6 => nf_bl q6 (by omega) fun _ _ _ _ => nf_ret
  | 8 => by
    rw [onTab_eq]
    refine nf_name hi fun _ m q1 q2 => nf_need q2 fun _ m2 q3 q4 => nf_bindT (tame_each (tame_ended (eager_key f)) f []) q4 (nf_each (i0 := m2) (p := endedP (keyP f)) (eager_ended (eager_key f)) (fun i h h' => nf_ended (p := keyP f) (eager_key f) h' (nf_key h' (by omega))) f [] m2 (Nat.le_refl _) q4 (by omega)) fun ks m3 q5 q6 => ?_
    refine nf_need q6 fun _ m4 q7 q8 => nf_name q8 fun a m5 q9 q10 => nf_bindT (tame_names f [a]) q10 (nf_names f _ _ q10 (by omega)) fun al m6 q11 q12 => ?_
    exact nf_need q12 fun _ m7 q13 q14 => nf_name q14 fun _ m8 q15 q16 => nf_need q16 fun _ m9 q17 q18 => nf_row eager_lit (fun i h => nf_litb) q18 (by omega) fun l m10 q19 q20 => nf_need q20 fun _ m11 q21 q22 => nf_whole q22 fun _ m12 q23 q24 => nf_need q24 fun _ _ _ _ => nf_ret
  | 9 => nf_bl hi (by omega) fun _ _ _ _ => nf_ret
  | 10 => nf_need hi fun _ m q1 q2 => nf_bindT (tame_each (tame_ended eager_name) f []) q2 (nf_each (i0 := 0) (p := endedP nameP) (eager_ended eager_name) (fun i _ h' => nf_ended eager_name h' nf_nameb) f [] m (Nat.zero_le _) q2 (by omega)) fun _ _ _ _ => nf_ret
  | _ + 11 => nf_bad
theorem nf_decl {L : List Wd} {f i : Nat} (hf : 12 * (L.length - i) ≤ f) : Nf (declP f) L i := nf_look (nf_bind (by cases (decide ((wordAt wEnd L i).k = 1) && (declOf (wordAt wEnd L i).s).isSome) <;> exact fun c => by cases c) fun _ m hr => by
  obtain ⟨q1, _, rfl⟩ := must_ok hr
  have hk : (wordAt wEnd L i).k = 1 := of_decide_eq_true (Bool.and_eq_true _ _ ▸ q1 : decide ((wordAt wEnd L i).k = 1) = true ∧ _).1
  have hlt := word_in (L := L) (i := i) (by rw [hk]; decide)
  exact nf_on hlt (by omega) _)
theorem nf_prog {L : List Wd} : ∀ (f : Nat) (acc : List Dc) (i : Nat), i ≤ L.length → 12 * (L.length - i) + 1 ≤ f → Nf (progP f acc) L i
  | 0, acc, i, h1, h2 => by omega
  | f + 1, acc, i, h1, h2 => by
    rw [progP]
    exact nf_look (nf_ite nf_ret (nf_bindE (p := declP f) (eager_decl f) h1 (nf_decl (by omega)) fun d m q1 q2 => nf_prog f _ m q2 (by omega)))
theorem prog_sure {L : List Wd} (hL : L.length ≤ 65536) : (progP (fuel L) []).run wEnd L 0 ≠ .oof := nf_prog (fuel L) [] 0 (Nat.zero_le _) (by unfold fuel; omega)
end Go.Proofs.YtbgeejmhkmjfdaaGreatDoor.Ln
