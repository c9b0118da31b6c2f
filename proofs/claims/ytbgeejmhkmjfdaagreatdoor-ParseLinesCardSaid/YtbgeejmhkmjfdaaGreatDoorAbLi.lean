/- What is read does not hang on lines; beginnings of what is read. -/
import Derived.Test.YtbgeejmhkmjfdaaGreatDoorAbPc
namespace Go.Proofs.YtbgeejmhkmjfdaaGreatDoor.Ln
open Go Go.RowKit Go.Ab Go.Proofs 
set_option linter.unusedVariables false
set_option linter.unusedSimpArgs false

/-! ### Trees but for lines -/
mutual
def eEx : Ex → Ex
  | .mk op lw lh ll nm fl n m args _ => .mk op lw lh ll nm fl n m (eExs args) 0
def eExs : List Ex → List Ex
  | [] => []
  | x :: l => eEx x :: eExs l
end
mutual
def eSm : Sm → Sm
  | .mk k a b c n args body els _ => .mk k a b c n (eExs args) (eSms body) (eSms els) 0
def eSms : List Sm → List Sm
  | [] => []
  | x :: l => eSm x :: eSms l
end
def eSt (s : Stt) : Stt := { s with sel := eExs s.sel, line := 0 }
def eKd (k : Ex × Nat) : Ex × Nat := (eEx k.1, k.2)
def eDc (d : Dc) : Dc := { d with states := d.states.map eSt, keys := d.keys.map eKd, body := eSms d.body, line := 0 }
theorem eExs_snoc (x : Ex) : ∀ l : List Ex, eExs (l ++ [x]) = eExs l ++ [eEx x]
  | [] => by rw [List.nil_append, eExs, eExs, eExs]; rfl
  | y :: l => by rw [List.cons_append, eExs, eExs, eExs_snoc x l]; rfl
theorem eSms_snoc (x : Sm) : ∀ l : List Sm, eSms (l ++ [x]) = eSms l ++ [eSm x]
  | [] => by rw [List.nil_append, eSms, eSms, eSms]; rfl
  | y :: l => by rw [List.cons_append, eSms, eSms, eSms_snoc x l]; rfl
theorem eExs_len : ∀ l : List Ex, (eExs l).length = l.length
  | [] => by rw [eExs]
  | x :: l => by rw [eExs, List.length_cons, List.length_cons, eExs_len l]
theorem eSms_len : ∀ l : List Sm, (eSms l).length = l.length
  | [] => by rw [eSms]
  | x :: l => by rw [eSms, List.length_cons, List.length_cons, eSms_len l]
mutual
theorem exA_e : ∀ (x : Ex) (d : Nat) (c : Ct), exA (eEx x) d c = exA x d c
  | .mk _ _ _ _ _ _ _ _ args _, d, c => by rw [eEx, exA, exA, exF_e args, eExs_len]
theorem exF_e : ∀ (l : List Ex) (d : Nat) (c : Ct), exF (eExs l) d c = exF l d c
  | [], d, c => by rw [eExs]
  | x :: l, d, c => by rw [eExs, exF, exF, exA_e x, exF_e l]
end
theorem exprsC_e (l : List Ex) (d : Nat) (c : Ct) : exprsC (eExs l) d c = exprsC l d c := by unfold exprsC; rw [exF_e, eExs_len]
mutual
theorem smA_e : ∀ (x : Sm) (d : Nat) (c : Ct), smA (eSm x) d c = smA x d c
  | .mk _ _ _ _ _ args body els _, d, c => by rw [eSm, smA, smA, smF_e els, smF_e body, eSms_len, eSms_len, exprsC_e]
theorem smF_e : ∀ (l : List Sm) (d : Nat) (c : Ct), smF (eSms l) d c = smF l d c
  | [], d, c => by rw [eSms]
  | x :: l, d, c => by rw [eSms, smF, smF, smA_e x, smF_e l]
end
theorem statesF_e : ∀ (l : List Stt) (c : Ct), statesF (l.map eSt) c = statesF l c
  | [], c => rfl
  | s :: l, c => by
    rw [List.map_cons, statesF, statesF, statesF_e l]
    congr 1
    show exprsC (eExs s.sel) 3 _ = exprsC s.sel 3 _
    rw [exprsC_e]; rfl
theorem keysF_e : ∀ (l : List (Ex × Nat)) (c : Ct), keysF (l.map eKd) c = keysF l c
  | [], c => rfl
  | k :: l, c => by
    rw [List.map_cons, keysF, keysF, keysF_e l]
    congr 1
    show exprsC [eEx k.1] 2 c = _
    rw [show [eEx k.1] = eExs [k.1] from by rw [eExs, eExs], exprsC_e]
theorem declC_e (d : Dc) (c : Ct) : declC (eDc d) c = declC d c := by
  unfold declC stmtsC
  show smF (eSms d.body) 3 (partsC (eSms d.body).length 2 (keysF (d.keys.map eKd) (statesF (d.states.map eSt) (partsC (d.states.map eSt).length 2 (partsC d.fields.length 2 c))))) = _
  rw [smF_e, eSms_len, keysF_e, statesF_e, List.length_map]
theorem declsF_e : ∀ (l : List Dc) (c : Ct), declsF (l.map eDc) c = declsF l c
  | [], c => rfl
  | d :: l, c => by rw [List.map_cons, declsF, declsF, declC_e, declsF_e l]
theorem small_e {l l' : List Dc} (h : l.map eDc = l'.map eDc) : smallB l = smallB l' := by
  have key : ∀ l : List Dc, progC (l.map eDc) = progC l := fun l => by unfold progC; rw [declsF_e, List.length_map]
  unfold smallB
  rw [← key l, h, key l']
/-! ### What is read does not hang on lines -/
def strip (w : Wd) : Wd := { w with ln := 0 }
structure Like (L L' : List Wd) : Prop where
  go : ∀ i, strip (wordAt wEnd L i) = strip (wordAt wEnd L' i)
def RsR {α γ : Type} (f : α → γ) : Rs α → Rs α → Prop
  | .ok a j, .ok b j' => f a = f b ∧ j = j'
  | .bad j, .bad j' => j = j'
  | .oof, .oof => True
  | _, _ => False
structure Same {α γ : Type} (f : α → γ) (p q : PW α) : Prop where
  go : ∀ {L L' : List Wd}, Like L L' → ∀ i, RsR f (p.run wEnd L i) (q.run wEnd L' i)
variable {α β γ δ : Type} {f : α → γ} {g : β → δ}
theorem same_ret {a b : α} (h : f a = f b) : Same f (.ret a) (.ret b) := ⟨fun _ i => ⟨h, rfl⟩⟩
theorem same_bad : Same f (.bad : PW α) .bad := ⟨fun _ i => rfl⟩
theorem same_oof : Same f (.oof : PW α) .oof := ⟨fun _ i => trivial⟩
theorem same_bind {p q : PW α} {k k' : α → PW β} (hp : Same f p q) (hk : ∀ a b, f a = f b → Same g (k a) (k' b)) : Same g (p.bind k) (q.bind k') := ⟨fun {L L'} hl i => by
  have h := hp.go hl i
  rw [run_bind, run_bind]
  cases h1 : p.run wEnd L i <;> cases h2 : q.run wEnd L' i <;> rw [h1, h2] at h
  · obtain ⟨h3, rfl⟩ := h
    exact (hk _ _ h3).go hl _
  all_goals first | exact h | exact h.elim⟩
theorem same_look {k k' : Wd → PW α} (h : ∀ w n, Same f (k w) (k' { w with ln := n })) : Same f (.look k) (.look k') := ⟨fun {L L'} hl i => by
  show RsR f ((k (wordAt wEnd L i)).run wEnd L i) ((k' (wordAt wEnd L' i)).run wEnd L' i)
  have e : wordAt wEnd L' i = { wordAt wEnd L i with ln := (wordAt wEnd L' i).ln } := by
    have := hl.go i
    generalize wordAt wEnd L' i = w' at this ⊢
    generalize wordAt wEnd L i = w at this ⊢
    cases w; cases w'
    simp only [strip, Wd.mk.injEq] at this ⊢
    obtain ⟨h1, h2, h3, h4, h5, _⟩ := this
    exact ⟨h1.symm, h2.symm, h3.symm, h4.symm, h5.symm, trivial⟩
  rw [e]
  exact (h (wordAt wEnd L i) _).go hl i⟩
theorem same_take {p q : PW α} (h : Same f p q) : Same f (.take p) (.take q) := ⟨fun hl i => h.go hl (i + 1)⟩
theorem same_ite {c : Prop} [Decidable c] {p q p' q' : PW α} (hp : Same f p p') (hq : Same f q q') : Same f (if c then p else q) (if c then p' else q') := by split; exact hp; exact hq
theorem same_may (s : Tx) : Same id (mayP s) (mayP s) := same_look fun w n => same_ite (same_take (same_ret rfl)) (same_ret rfl)
theorem same_mayif {s : Tx} {A B A' B' : PW α} (hA : Same f A A') (hB : Same f B B') : Same f ((mayP s).bind fun b => if b = true then A else B) ((mayP s).bind fun b => if b = true then A' else B') := same_bind (same_may s) fun a b h => by
  obtain rfl : a = b := h
  exact same_ite hA hB
theorem same_need : ∀ ts : List Tx, Same id (needP ts) (needP ts)
  | [] => same_ret rfl
  | s :: r => same_mayif (same_need r) same_bad
theorem same_needk {ts : List Tx} {k k' : Unit → PW α} (h : Same f (k ()) (k' ())) : Same f ((needP ts).bind k) ((needP ts).bind k') := same_bind (same_need ts) fun _ _ _ => h
theorem same_must (c : Bool) : Same strip (mustP c) (mustP c) := same_ite (same_look fun w n => same_take (same_ret rfl)) same_bad
theorem same_name : Same id nameP nameP := same_look fun w n => same_bind (same_must _) fun a b h => same_ret (by have := congrArg Wd.s h; exact this)
theorem same_whole : Same id wholeP wholeP := same_look fun w n => same_bind (same_must _) fun a b h => same_ret (by have := congrArg Wd.lo h; exact this)
theorem same_lit : Same id litP litP := same_look fun w n => same_bind (same_must _) fun a b h => same_ret (by have := congrArg (fun w : Wd => (w.w, w.hi, w.lo)) h; exact this)
theorem same_namek {k k' : Tx → PW α} (h : ∀ s, Same f (k s) (k' s)) : Same f (nameP.bind k) (nameP.bind k') := same_bind same_name fun a b e => by obtain rfl : a = b := e; exact h a
theorem same_wholek {k k' : Nat → PW α} (h : ∀ s, Same f (k s) (k' s)) : Same f (wholeP.bind k) (wholeP.bind k') := same_bind same_whole fun a b e => by obtain rfl : a = b := e; exact h a
theorem same_litk {k k' : N3 → PW α} (h : ∀ s, Same f (k s) (k' s)) : Same f (litP.bind k) (litP.bind k') := same_bind same_lit fun a b e => by obtain rfl : a = b := e; exact h a
theorem same_owner : Same id ownerP ownerP := same_mayif (same_ret rfl) same_name
theorem same_ownerk {k k' : Tx → PW α} (h : ∀ s, Same f (k s) (k' s)) : Same f (ownerP.bind k) (ownerP.bind k') := same_bind same_owner fun a b e => by obtain rfl : a = b := e; exact h a
theorem same_field : Same id fieldP fieldP := same_ownerk fun a => same_needk (same_namek fun b => same_ret rfl)
theorem same_fieldk {k k' : Tx × Tx → PW α} (h : ∀ s, Same f (k s) (k' s)) : Same f (fieldP.bind k) (fieldP.bind k') := same_bind same_field fun a b e => by obtain rfl : a = b := e; exact h a
theorem same_typed : Same id typedP typedP := same_namek fun a => same_wholek fun n => same_ret rfl
theorem eEx_mk {op lw lh ll : Nat} {nm fl : Tx} {n m : Nat} {args args' : List Ex} {ln ln' : Nat} (h : eExs args = eExs args') : eEx (.mk op lw lh ll nm fl n m args ln) = eEx (.mk op lw lh ll nm fl n m args' ln') := by rw [eEx, eEx, h]
theorem eExs_1 {x y : Ex} (h : eEx x = eEx y) : eExs [x] = eExs [y] := by rw [eExs, eExs, eExs, h, eExs]
theorem eExs_2 {x y x' y' : Ex} (h : eEx x = eEx x') (h' : eEx y = eEx y') : eExs [x, y] = eExs [x', y'] := by rw [eExs, eExs, eExs, eExs, eExs, h, h', eExs]
theorem same_ex : ∀ f : Nat, (∀ lv, Same eEx (exP f lv) (exP f lv)) ∧ (∀ lv l l' x x', eEx x = eEx x' → Same eEx (exL f lv l x) (exL f lv l' x')) ∧ (∀ l l' x x', eEx x = eEx x' → Same eEx (exS f l x) (exS f l' x')) ∧ (∀ e acc acc', eExs acc = eExs acc' → Same eExs (exR f e acc) (exR f e acc'))
  | 0 => ⟨fun lv => by rw [exP]; exact same_oof, fun lv l l' x x' h => by rw [exL, exL]; exact same_oof, fun l l' x x' h => by rw [exS, exS]; exact same_oof, fun e acc acc' h => by rw [exR, exR]; exact same_oof⟩
  | f + 1 => by
    obtain ⟨ih1, ih2, ih3, ih4⟩ := same_ex f
    refine ⟨fun lv => ?_, fun lv l l' x x' h => ?_, fun l l' x x' h => ?_, fun e acc acc' h => ?_⟩
    · rw [exP]
      refine same_ite (same_look fun w n => same_bind (ih1 _) fun a b h => ih2 _ _ _ _ _ h) (same_ite (same_look fun w n => same_mayif (same_bind (ih1 8) fun a b h => same_ret (eEx_mk (eExs_1 h))) (same_bind (ih1 9) fun a b h => ih3 _ _ _ _ h)) (same_look fun w n => same_ite (same_litk fun l => same_ret (eEx_mk rfl)) ?_))
      refine same_mayif (same_namek fun s => same_ret (eEx_mk rfl)) ?_
      refine same_mayif (same_wholek fun n => same_needk (same_bind (ih1 0) fun a b h => same_needk (same_ret (eEx_mk (eExs_1 h))))) ?_
      refine same_mayif (same_namek fun s => same_needk (same_bind (ih4 _ _ _ rfl) fun a b h => same_ret (eEx_mk h))) ?_
      refine same_mayif (same_bind (ih1 0) fun a b h => same_needk (same_ret h)) ?_
      refine same_ownerk fun s => same_ite (same_needk (same_namek fun t => same_ret (eEx_mk rfl))) ?_
      exact same_mayif (same_namek fun t => same_ret (eEx_mk rfl)) (same_ret (eEx_mk rfl))
    · rw [exL, exL]
      refine same_look fun w n => ?_
      show Same eEx (match twoOf w.s with | none => Pr.ret x | some (op, b) => if w.k = 4 ∧ b = lv then .take ((exP f (lv + 1)).bind fun y => if lv = 2 then .ret (exUn op [x, y] l) else exL f lv l (exUn op [x, y] l)) else .ret x) (match twoOf w.s with | none => Pr.ret x' | some (op, b) => if w.k = 4 ∧ b = lv then .take ((exP f (lv + 1)).bind fun y => if lv = 2 then .ret (exUn op [x', y] l') else exL f lv l' (exUn op [x', y] l')) else .ret x')
      cases twoOf w.s with
      | none => exact same_ret h
      | some p =>
        obtain ⟨op, b⟩ := p
        exact same_ite (same_take (same_bind (ih1 _) fun y y' hy => same_ite (same_ret (eEx_mk (eExs_2 h hy))) (ih2 _ _ _ _ _ (eEx_mk (eExs_2 h hy))))) (same_ret h)
    · rw [exS, exS]
      exact same_mayif (same_wholek fun n => same_needk (same_wholek fun m => same_needk (ih3 _ _ _ _ (eEx_mk (eExs_1 h))))) (same_ret h)
    · rw [exR, exR]
      have hs : ∀ a b, eEx a = eEx b → eExs (acc ++ [a]) = eExs (acc' ++ [b]) := fun a b e => by rw [eExs_snoc, eExs_snoc, h, e]
      exact same_bind (ih1 0) fun a b e => same_mayif (ih4 _ _ _ (hs a b e)) (same_needk (same_ret (hs a b e)))
theorem same_exp (f : Nat) : Same eEx (exP f 0) (exP f 0) := (same_ex f).1 0
theorem same_index (f : Nat) : Same eEx (indexP f) (indexP f) := same_needk (same_bind (same_exp f) fun a b h => same_needk (same_ret h))
theorem eSm_mk {k : Nat} {a b c : Tx} {n : Nat} {args args' : List Ex} {bd bd' el el' : List Sm} {ln ln' : Nat} (h1 : eExs args = eExs args') (h2 : eSms bd = eSms bd') (h3 : eSms el = eSms el') : eSm (.mk k a b c n args bd el ln) = eSm (.mk k a b c n args' bd' el' ln') := by rw [eSm, eSm, h1, h2, h3]
theorem same_semi {x y : Sm} (h : eSm x = eSm y) : Same eSm (semi x) (semi y) := same_needk (same_ret h)
theorem same_form (f kind ln ln' : Nat) : ∀ form, Same eSm (formK f kind ln form) (formK f kind ln' form)
  | 0 => same_namek fun s => same_semi (eSm_mk rfl rfl rfl)
  | 1 => same_namek fun s => same_bind (same_index f) fun a b h => same_semi (eSm_mk (eExs_1 h) rfl rfl)
  | 2 => same_fieldk fun p => same_needk (same_namek fun a => same_bind (same_index f) fun a b h => same_semi (eSm_mk (eExs_1 h) rfl rfl))
  | 3 => same_namek fun s => same_bind (same_index f) fun a b h => same_needk (same_bind (same_exp f) fun c d h' => same_semi (eSm_mk (eExs_2 h h') rfl rfl))
  | 4 => same_fieldk fun p => same_semi (eSm_mk rfl rfl rfl)
  | 5 => same_semi (eSm_mk rfl rfl rfl)
  | n + 6 => same_wholek fun n => same_semi (eSm_mk rfl rfl rfl)
theorem same_set (f : Nat) (w : Wd) (n : Nat) (s : Tx) : Same eSm (setK f w s) (setK f { w with ln := n } s) := same_needk (same_namek fun t => same_needk (same_bind (same_exp f) fun a b h => same_semi (eSm_mk (eExs_1 h) rfl rfl)))
theorem same_sm : ∀ f : Nat, Same eSm (smP f) (smP f) ∧ Same eSms (blP f) (blP f) ∧ ∀ acc acc', eSms acc = eSms acc' → Same eSms (smsP f acc) (smsP f acc')
  | 0 => ⟨by rw [smP]; exact same_oof, by rw [blP]; exact same_oof, fun acc acc' h => by rw [smsP, smsP]; exact same_oof⟩
  | f + 1 => by
    obtain ⟨ih1, ih2, ih3⟩ := same_sm f
    refine ⟨?_, ?_, fun acc acc' h => ?_⟩
    · rw [smP_eq]
      refine same_look fun w n => ?_
      unfold stK
      show Same eSm (match (if w.k = 1 then simpleOf w.s else none) with | some (kind, form) => Pr.take (formK f kind w.ln form) | none => restK f w) (match (if w.k = 1 then simpleOf w.s else none) with | some (kind, form) => Pr.take (formK f kind n form) | none => restK f { w with ln := n })
      cases (if w.k = 1 then simpleOf w.s else none) with
      | some p => obtain ⟨kind, form⟩ := p; exact same_take (same_form f kind _ _ form)
      | none =>
        show Same eSm (restK f w) (restK f { w with ln := n })
        unfold restK
        refine same_mayif (same_bind (same_exp f) fun a b h => same_bind ih2 fun l l' h' => same_mayif (same_bind ih2 fun m m' h2 => same_ret (eSm_mk (eExs_1 h) h' h2)) (same_ret (eSm_mk (eExs_1 h) h' rfl))) ?_
        refine same_mayif (same_bind ((same_ex f).2.2.2 _ _ _ rfl) fun a b h => same_ret (eSm_mk h rfl rfl)) ?_
        refine same_ownerk fun s => same_ite (same_set f w n s) (same_mayif ?_ (same_set f w n s))
        exact same_bind (f := eExs) (same_mayif (same_ret rfl) ((same_ex f).2.2.2 _ _ _ rfl)) fun a b h => same_semi (eSm_mk h rfl rfl)
    · rw [blP]; exact same_needk (ih3 _ _ rfl)
    · rw [smsP, smsP]
      exact same_mayif (same_ret h) (same_bind ih1 fun a b e => ih3 _ _ (by rw [eSms_snoc, eSms_snoc, h, e]))
theorem map_snoc_eq {α β : Type} {g : α → β} {l l' : List α} {a b : α} (h : l.map g = l'.map g) (e : g a = g b) : (l ++ [a]).map g = (l' ++ [b]).map g := by rw [List.map_append, List.map_append, h, List.map_cons, List.map_cons, e]
theorem same_each {p : PW α} (hp : Same f p p) : ∀ (n : Nat) (acc acc' : List α), acc.map f = acc'.map f → Same (List.map f) (eachP p n acc) (eachP p n acc')
  | 0, acc, acc', h => same_oof
  | n + 1, acc, acc', h => same_mayif (same_ret h) (same_bind hp fun a b e => same_each hp n _ _ (map_snoc_eq h e))
theorem same_some {p : PW α} (hp : Same f p p) (e : Tx) : ∀ (n : Nat) (acc acc' : List α), acc.map f = acc'.map f → Same (List.map f) (someP p e n acc) (someP p e n acc')
  | 0, acc, acc', h => same_oof
  | n + 1, acc, acc', h => same_bind hp fun a b e' => same_mayif (same_some hp e n _ _ (map_snoc_eq h e')) (same_needk (same_ret (map_snoc_eq h e')))
theorem same_row {p : PW α} (hp : Same f p p) (e : Tx) (n : Nat) : Same (List.map f) (rowP p e n) (rowP p e n) := same_mayif (same_ret rfl) (same_some hp e n _ _ rfl)
theorem same_ended {p : PW α} (hp : Same f p p) : Same f (endedP p) (endedP p) := same_bind hp fun a b e => same_needk (same_ret e)
theorem map_id_eq {l l' : List α} (h : l.map id = l'.map id) : l = l' := by rwa [List.map_id, List.map_id] at h
theorem same_kase : Same id kaseP kaseP := same_litk fun v => same_bind (same_may _) fun b b' h => by
  obtain rfl : b = b' := h
  exact same_bind (f := id) (same_ite same_lit (same_ret rfl)) fun m m' h => by
    obtain rfl : m = m' := h
    exact same_needk (same_namek fun t => same_needk (same_ret rfl))
theorem same_takes : ∀ (n : Nat) (acc : List Tx), Same id (takesP n acc) (takesP n acc)
  | 0, acc => same_oof
  | n + 1, acc => same_mayif (same_namek fun s => same_needk (same_takes n _)) (same_ret rfl)
theorem same_cases : ∀ (n : Nat) (acc : List Cs), Same id (casesP n acc) (casesP n acc)
  | 0, acc => same_oof
  | n + 1, acc => same_look fun w k => same_ite (same_bind same_kase fun a b h => by obtain rfl : a = b := h; exact same_cases n _) (same_ret rfl)
theorem same_names : ∀ (n : Nat) (acc : List Tx), Same id (namesP n acc) (namesP n acc)
  | 0, acc => same_oof
  | n + 1, acc => same_mayif (same_ret rfl) (same_namek fun s => same_names n _)
theorem same_kind : ∀ l : List (Tx × Nat), Same id (kindP l) (kindP l)
  | [] => same_bad
  | p :: r => same_mayif (same_ret rfl) (same_kind r)
theorem same_state (n : Nat) : Same eSt (stateP n) (stateP n) := by
  rw [stateP_eq]
  refine same_look fun w k => same_namek fun s => same_needk (same_bind (same_takes n []) fun hs hs' h => ?_)
  obtain rfl : hs = hs' := h
  refine same_mayif (same_bind (same_exp n) fun a b h => same_needk (same_bind (same_cases n []) fun cs cs' h2 => ?_)) (same_needk (same_namek fun t => same_needk (same_ret rfl)))
  obtain rfl : cs = cs' := h2
  refine same_needk (same_namek fun t => same_needk (same_ret ?_))
  simp only [eSt, eExs_1 h]
theorem same_key (n : Nat) : Same eKd (keyP n) (keyP n) := same_bind (same_exp n) fun a b h => same_bind (same_kind _) fun k k' h' => by
  obtain rfl : k = k' := h'
  exact same_ret (by simp only [eKd, h])
theorem same_fieldsk {n : Nat} {k k' : List (Tx × Nat) → PW α} (h : ∀ s, Same f (k s) (k' s)) : Same f ((fieldsP n).bind k) ((fieldsP n).bind k') := same_bind (f := List.map id) (same_needk (same_each (same_ended same_typed) n _ _ rfl)) fun a b e => by obtain rfl := map_id_eq e; exact h a
theorem same_on (n ln ln' : Nat) : ∀ k : Nat, Same eDc (onP n ln k) (onP n ln' k)
  | 0 => same_bad
  | 1 => same_namek fun s => same_fieldsk fun l => same_ret rfl
  | 2 => same_fieldsk fun l => same_ret rfl
  | 3 => same_namek fun s => same_wholek fun w => same_wholek fun m => same_needk (same_ret rfl)
  | 4 => same_namek fun s => same_wholek fun m => same_needk (same_ret rfl)
  | 5 => same_namek fun s => same_wholek fun m => same_wholek fun r => same_wholek fun u => same_needk (same_ret rfl)
  | 6 => same_needk (same_bind (same_each (same_state n) n _ _ rfl) fun a b h => same_ret (by simp only [eDc, dc0, h]))
  | 7 => same_namek fun s => same_needk (same_bind (same_row same_typed _ n) fun l l' h => by
      obtain rfl := map_id_eq h
      exact same_bind (same_sm n).2.1 fun a b h => same_ret (by simp only [eDc, dc0, h]))
  | 8 => same_namek fun s => same_needk (same_bind (same_each (same_ended (same_key n)) n _ _ rfl) fun ks ks' hk => same_needk (same_namek fun a => same_bind (same_names n _) fun al al' ha => by
      obtain rfl : al = al' := ha
      exact same_needk (same_namek fun d => same_needk (same_bind (same_row same_lit _ n) fun l l' h => by
        obtain rfl := map_id_eq h
        exact same_needk (same_wholek fun m => same_needk (same_ret (by simp only [eDc, dc0, hk])))))))
  | 9 => same_bind (same_sm n).2.1 fun a b h => same_ret (by simp only [eDc, dc0, h])
  | 10 => same_needk (same_bind (same_each (same_ended same_name) n _ _ rfl) fun a b h => by obtain rfl := map_id_eq h; exact same_ret rfl)
  | _ + 11 => same_bad
theorem same_decl (n : Nat) : Same eDc (declP n) (declP n) := same_look fun w k => same_bind (same_must _) fun _ _ _ => same_on n _ _ _
theorem same_prog : ∀ (n : Nat) (acc acc' : List Dc), acc.map eDc = acc'.map eDc → Same (List.map eDc) (progP n acc) (progP n acc')
  | 0, acc, acc', h => same_oof
  | n + 1, acc, acc', h => same_look fun w k => same_ite (same_ret h) (same_bind (same_decl n) fun a b e => same_prog n _ _ (map_snoc_eq h e))

/-! ### Beginnings -/
theorem bad_le {α : Type} (L : List Wd) : ∀ (p : PW α) (i j : Nat), p.run wEnd L i = .bad j → i ≤ j
  | .ret a, i, j, h => by cases h
  | .bad, i, j, h => by cases h; exact Nat.le_refl _
  | .oof, i, j, h => by cases h
  | .look f, i, j, h => bad_le L (f (wordAt wEnd L i)) i j h
  | .take p, i, j, h => Nat.le_of_succ_le (bad_le L p (i + 1) j h)
/-- What stands behind the place where it gives up is of no account. -/
theorem bad_pre {α : Type} {L L' : List Wd} {n : Nat} (hw : ∀ q, q < n → wordAt wEnd L q = wordAt wEnd L' q) : ∀ (p : PW α) (i j : Nat), p.run wEnd L i = .bad j → j < n → p.run wEnd L' i = .bad j
  | .ret a, i, j, h, hj => by cases h
  | .bad, i, j, h, hj => by cases h; rfl
  | .oof, i, j, h, hj => by cases h
  | .look f, i, j, h, hj => by
    have hi := bad_le L (.look f) i j h
    show (f (wordAt wEnd L' i)).run wEnd L' i = _
    rw [← hw i (by omega)]
    exact bad_pre hw (f (wordAt wEnd L i)) i j h hj
  | .take p, i, j, h, hj => bad_pre hw p (i + 1) j h hj
/-! ### Words, a line each -/
def linesT : List Wd → Tx
  | [] => []
  | x :: l => (told x ++ [10]) ++ linesT l
def numb : Nat → List Wd → List Wd
  | _, [] => []
  | n, x :: l => { x with ln := n } :: numb (n + 1) l
theorem numb_len : ∀ (l : List Wd) (n : Nat), (numb n l).length = l.length
  | [], n => rfl
  | x :: l, n => by rw [numb, List.length_cons, List.length_cons, numb_len l]
theorem numb_at : ∀ (l : List Wd) (n q : Nat), (numb n l)[q]? = (l[q]?).map fun x => { x with ln := n + q }
  | [], n, q => by simp [numb]
  | x :: l, n, 0 => rfl
  | x :: l, n, q + 1 => by
    rw [numb, List.getElem?_cons_succ, List.getElem?_cons_succ, numb_at l (n + 1) q, show n + 1 + q = n + (q + 1) from by omega]
theorem numb_take : ∀ (l : List Wd) (n i : Nat), numb n (l.take i) = (numb n l).take i
  | [], n, i => by simp [numb]
  | x :: l, n, 0 => by simp [numb]
  | x :: l, n, i + 1 => by rw [List.take_succ_cons, numb, numb, List.take_succ_cons, numb_take l]
theorem W_nl (r : Tx) (n : Nat) : W (10 :: r) n = W r (n + 1) := W_skip (by rw [skip, if_pos rfl])
theorem app_cons (x : Wd) (l : List Wd) (r : Nat ⊕ List Wd) : words_app (x :: l) r = (match words_app l r with | .inl e => .inl e | .inr l => .inr (x :: l)) := by cases r <;> rfl
theorem W_linesR (rest : Tx) : ∀ {l : List Wd}, Row l → ∀ m, W (linesT l ++ rest) m = words_app (numb m l) (W rest (m + l.length))
  | [], _, m => by
    show W rest m = words_app [] (W rest m)
    cases W rest m <;> rfl
  | _ :: l, .cons (x := x) (k := k) hw hr, m => by
    obtain ⟨h1, h2, h3, h4, _⟩ := word_told hw
    have ih := W_linesR rest hr (m + 1)
    have he : EndsS (10 :: (linesT l ++ rest)) := .inr (.inr ⟨_, rfl⟩)
    rw [linesT, told_ln, List.append_assoc, List.append_assoc]
    show W (told x ++ (10 :: (linesT l ++ rest))) m = _
    rw [W_word m h3 (h4 _ he), W_nl, ih, List.length_cons, show m + (l.length + 1) = m + 1 + l.length from by omega, numb, app_cons]
    rfl
theorem W_linesL {l : List Wd} (h : Row l) : W (linesT l) 0 = .inr (numb 0 l) := by
  have := W_linesR [] h 0
  rw [List.append_nil] at this
  rw [this, W_nil (by rfl)]
  show Sum.inr (numb 0 l ++ []) = _
  rw [List.append_nil]
theorem row_take : ∀ {l : List Wd}, Row l → ∀ i, Row (l.take i)
  | [], _, i => by rw [List.take_nil]; exact .nil
  | _ :: l, .cons hw hr, 0 => by rw [List.take_zero]; exact .nil
  | _ :: l, .cons hw hr, i + 1 => by rw [List.take_succ_cons]; exact .cons hw (row_take hr i)
theorem lines_snoc (x : Wd) : ∀ l : List Wd, linesT (l ++ [x]) = (linesT l ++ told x) ++ [10]
  | [] => by simp [linesT]
  | y :: l => by rw [List.cons_append, linesT, linesT, lines_snoc x l]; simp
theorem lines_take {l : List Wd} {i : Nat} {x : Wd} (h : l[i]? = some x) : linesT (l.take (i + 1)) = (linesT (l.take i) ++ told x) ++ [10] := by
  rw [List.take_add_one, h]; exact lines_snoc x _
theorem lines_len {l : List Wd} {m : Nat} (h : ∀ x ∈ l, (told x).length ≤ m) : (linesT l).length ≤ l.length * (m + 1) := by
  induction l with
  | nil => simp [linesT]
  | cons x l ih =>
    have h1 := h x (by simp)
    have h2 := ih fun y hy => h y (by simp [hy])
    rw [linesT]
    simp only [List.length_append, List.length_cons, List.length_nil]
    rw [Nat.add_mul]
    omega
theorem lines_more : ∀ (l : List Wd) (i : Nat), (linesT (l.take i)).length ≤ (linesT l).length ∧ ((∀ x ∈ l, told x ≠ []) → (linesT (l.take i)).length + 2 * (l.length - i) ≤ (linesT l).length)
  | [], i => by simp [linesT]
  | x :: l, 0 => by
    refine ⟨by simp [linesT], fun h => ?_⟩
    have h1 := (lines_more l 0).2 fun y hy => h y (by simp [hy])
    have h2 : 1 ≤ (told x).length := List.length_pos_iff.mpr (h x (by simp))
    rw [List.take_zero] at h1 ⊢
    rw [linesT.eq_def (x :: l)]
    simp only [linesT, List.length_append, List.length_cons, List.length_nil] at h1 ⊢
    omega
  | x :: l, i + 1 => by
    obtain ⟨h1, h2⟩ := lines_more l i
    rw [List.take_succ_cons, linesT, linesT]
    simp only [List.length_append, List.length_cons, List.length_nil]
    refine ⟨by omega, fun h => ?_⟩
    have := h2 fun y hy => h y (by simp [hy])
    omega
theorem like_numb (L : List Wd) : Like L (numb 0 L) := ⟨fun i => by
  unfold wordAt
  rw [numb_at]
  cases L[i]? <;> rfl⟩
theorem line_numb {L : List Wd} (hne : L ≠ []) (j : Nat) : lineAt (numb 0 L) j = min j (L.length - 1) := by
  have hpos := List.length_pos_iff.mpr hne
  unfold lineAt wordAt
  rw [numb_len, numb_at]
  obtain ⟨x, hx⟩ : ∃ x, L[min j (L.length - 1)]? = some x := ⟨_, List.getElem?_eq_getElem (by omega)⟩
  rw [hx]
  show 0 + min j (L.length - 1) = _
  omega
theorem wordAt_take {L : List Wd} {i q : Nat} (h : q < i) : wordAt wEnd (L.take i) q = wordAt wEnd L q := by unfold wordAt; rw [List.getElem?_take_of_lt h]
theorem parse_words_is {s : Tx} {L : List Wd} (h : W s 0 = .inr L) (hs : s.length ≤ 65536) : parseS s = parseR L ((progP 786433 []).run wEnd L 0) := by
  unfold parseS
  rw [if_neg (by omega), h]; rfl
theorem lines_facts {s : Tx} {L : List Wd} (hW : W s 0 = .inr L) (hs : s.length ≤ 20000) (hne : L ≠ []) (hT : (linesT L).length ≤ 65536) (h3 : (parseS s).2.2 ≠ 3) :
    ((parseS s).2.2 = 0 ∧ (parseS (linesT L)).2.2 = 0 ∧ (parseS (linesT L)).2.1 = 0) ∨
    ∃ n, n < L.length ∧ (parseS s).2.2 = 5 ∧ (parseS (linesT L)).2.2 = 5 ∧ (parseS (linesT L)).2.1 = n ∧ (∀ i, i ≤ n → (parseS (linesT (L.take i))).2.2 = 5 → (parseS (linesT (L.take i))).2.1 = i - 1) ∧
      (n ≠ L.length - 1 → (parseS (linesT (L.take (n + 1)) ++ [93, 10])).2.2 = 5 ∧ (parseS (linesT (L.take (n + 1)) ++ [93, 10])).2.1 = n) := by
  have hrow := W_row (s.length + 1) s 0 L (by omega) hW
  have hpos := List.length_pos_iff.mpr hne
  have hlen := (W_facts hW).1
  have e1 := parse_words_is hW (by omega)
  have e2 := parse_words_is (W_linesL hrow) hT
  have hR := (same_prog 786433 [] [] rfl).go (like_numb L) 0
  have hno := prog_sure (L := L) (by omega)
  change (progP 786433 []).run wEnd L 0 ≠ .oof at hno
  rw [e1] at h3 ⊢
  rw [e2]
  cases h1 : (progP 786433 []).run wEnd L 0 with
  | oof => exact absurd h1 hno
  | ok ds j =>
    rw [h1] at hR h3
    cases h2 : (progP 786433 []).run wEnd (numb 0 L) 0 with
    | oof => rw [h2] at hR; exact hR.elim
    | bad j' => rw [h2] at hR; exact hR.elim
    | ok ds' j' =>
      rw [h2] at hR
      have hsm := small_e hR.1
      left
      have hb : smallB ds = true := by
        cases hb : smallB ds with
        | true => rfl
        | false => exact absurd (show (parseR L (.ok ds j)).2.2 = 3 from by rw [parseR, if_neg (by rw [hb]; decide)]) h3
      have hb' : smallB ds' = true := hsm ▸ hb
      rw [parseR, if_pos hb, parseR, if_pos hb']
      exact ⟨rfl, rfl, rfl⟩
  | bad j =>
    rw [h1] at hR
    cases h2 : (progP 786433 []).run wEnd (numb 0 L) 0 with
    | oof => rw [h2] at hR; exact hR.elim
    | ok ds' j' => rw [h2] at hR; exact hR.elim
    | bad j' =>
      rw [h2] at hR
      obtain rfl : j = j' := hR
      right
      refine ⟨min j (L.length - 1), by omega, rfl, rfl, line_numb hne j, fun i hi h5 => ?_, fun hn => ?_⟩
      · have ht := (lines_more L i).1
        have e3 := parse_words_is (W_linesL (row_take hrow i)) (by omega)
        rw [e3] at h5 ⊢
        cases h4 : (progP 786433 []).run wEnd (numb 0 (L.take i)) 0 with
        | oof => rw [h4] at h5; cases h5
        | ok ds'' j'' =>
          rw [h4, parseR] at h5
          split at h5 <;> cases h5
        | bad j'' =>
          show lineAt (numb 0 (L.take i)) j'' = i - 1
          have hge : i ≤ j'' := by
            rcases Nat.lt_or_ge j'' i with hlt | hge
            · have := bad_pre (L' := numb 0 L) (n := i) (fun q hq => by rw [numb_take]; exact wordAt_take hq) _ 0 j'' h4 hlt
              rw [h2] at this
              cases this
              omega
            · exact hge
          cases i with
          | zero => rfl
          | succ i =>
            have hne2 : L.take (i + 1) ≠ [] := by
              intro c
              have := congrArg List.length c
              rw [List.length_take, List.length_nil] at this
              omega
            rw [line_numb hne2, List.length_take]
            omega
      · have hj : min j (L.length - 1) = j := by omega
        rw [hj] at hn ⊢
        have hjl : j + 1 < L.length := by omega
        have hg := row_good hrow
        have hlt := (lines_more L (j + 1)).2 fun x hx => (hg x hx).2
        have hw : W (linesT (L.take (j + 1)) ++ [93, 10]) 0 = .inr (numb 0 (L.take (j + 1)) ++ [⟨4, [93], 0, 0, 0, j + 1⟩]) := by
          have hl : (L.take (j + 1)).length = j + 1 := by rw [List.length_take]; omega
          rw [W_linesR [93, 10] (row_take hrow (j + 1)) 0, hl, Nat.zero_add]
          have h9 : W [93, 10] (j + 1) = .inr [⟨4, [93], 0, 0, 0, j + 1⟩] := by
            rw [show ([93, 10] : Tx) = [93] ++ [10] from rfl, W_word (j + 1) (x := ⟨4, [93], 0, 0, 0, 0⟩) ⟨_, _, rfl, by decide, by decide⟩ (by rfl), W_nl, W_nil (by rfl)]
          rw [h9]; rfl
        have e3 := parse_words_is hw (by rw [List.length_append]; simp only [List.length_cons, List.length_nil]; omega)
        have hl2 : (numb 0 (L.take (j + 1))).length = j + 1 := by rw [numb_len, List.length_take]; omega
        have h4 := bad_pre (L := numb 0 L) (L' := numb 0 (L.take (j + 1)) ++ [⟨4, [93], 0, 0, 0, j + 1⟩]) (n := j + 1) (fun q hq => by
          unfold wordAt
          rw [List.getElem?_append_left (by omega), numb_take, List.getElem?_take_of_lt hq]) _ 0 j h2 (by omega)
        rw [e3, h4]
        refine ⟨rfl, ?_⟩
        show lineAt _ j = j
        unfold lineAt wordAt
        rw [List.length_append, hl2]
        simp only [List.length_cons, List.length_nil]
        rw [show min j (j + 1 + 1 - 1) = j from by omega, List.getElem?_append_left (by omega), numb_at, List.getElem?_take_of_lt (by omega)]
        obtain ⟨x, hx⟩ : ∃ x, L[j]? = some x := ⟨_, List.getElem?_eq_getElem (by omega)⟩
        rw [hx]
        show 0 + j = j
        omega
theorem W_told : ∀ (f : Nat) (s : List UInt8) (n : Nat) (l : List Wd), s.length < f → W s n = .inr l → ∀ x ∈ l, (told x).length ≤ s.length
  | f + 1, s, n, l, hf, h => by
    have hl := skip_le false s n
    rw [W_eq] at h
    split at h
    · cases h; simp
    · rename_i c r hs
      rw [hs] at hl
      split at h
      · cases h
      · rename_i x t hw
        have hlt := word_lt hw
        obtain ⟨ht, _, _⟩ := word_told hw
        have hln := congrArg List.length ht
        rw [List.length_append] at hln
        split at h
        · cases h
        · rename_i l' hl'
          cases h
          intro y hy
          rcases List.mem_cons.mp hy with rfl | hy
          · rw [told_ln]; omega
          · have := W_told f t _ l' (by omega) hl' y hy; omega

end Go.Proofs.YtbgeejmhkmjfdaaGreatDoor.Ln
