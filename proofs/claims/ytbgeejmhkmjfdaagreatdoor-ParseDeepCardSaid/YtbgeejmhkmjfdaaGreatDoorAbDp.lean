/- How deep, how great a tree may be: the plain law. -/
import Derived.Test.YtbgeejmhkmjfdaaGreatDoorAbTot
namespace Go.Proofs.YtbgeejmhkmjfdaaGreatDoor.Ln
open Go Go.RowKit Go.Ab Go.Proofs 
set_option linter.unusedVariables false
set_option linter.unusedSimpArgs false
inductive Rg (α : Type) where
  | ok (a : α) (r : List Wd)
  | bad (r : List Wd)
  | oof
def go {α : Type} : PW α → List Wd → Rg α
  | .ret a, l => .ok a l
  | .bad, l => .bad l
  | .oof, _ => .oof
  | .look f, l => go (f (l.head?.getD wEnd)) l
  | .take p, l => go p l.tail
theorem go_bind {α β : Type} (k : α → PW β) : ∀ (p : PW α) (l : List Wd), go (p.bind k) l = match go p l with
    | .ok a r => go (k a) r
    | .bad r => .bad r
    | .oof => .oof
  | .ret a, l => rfl
  | .bad, l => rfl
  | .oof, l => rfl
  | .look f, l => go_bind k (f _) l
  | .take p, l => go_bind k p l.tail
theorem go_ok {α β : Type} {k : α → PW β} {p : PW α} {l r : List Wd} {a : α} (h : go p l = .ok a r) : go (p.bind k) l = go (k a) r := by rw [go_bind, h]
theorem go_run {α : Type} (L : List Wd) : ∀ (p : PW α) (i : Nat), match go p (L.drop i) with
    | .ok a r => ∃ j, p.run wEnd L i = .ok a j ∧ r = L.drop j
    | .bad r => ∃ j, p.run wEnd L i = .bad j ∧ r = L.drop j
    | .oof => p.run wEnd L i = .oof
  | .ret a, i => ⟨i, rfl, rfl⟩
  | .bad, i => ⟨i, rfl, rfl⟩
  | .oof, i => rfl
  | .look f, i => by
    have := go_run L (f (wordAt wEnd L i)) i
    have e : (L.drop i).head?.getD wEnd = wordAt wEnd L i := by rw [List.head?_drop]; rfl
    show match go (f ((L.drop i).head?.getD wEnd)) (L.drop i) with | .ok a r => _ | .bad r => _ | .oof => _
    rw [e]; exact this
  | .take p, i => by
    have := go_run L p (i + 1)
    show match go p (L.drop i).tail with | .ok a r => _ | .bad r => _ | .oof => _
    rw [List.tail_drop]; exact this
theorem run_go {α : Type} {p : PW α} {L r : List Wd} {a : α} (h : go p L = .ok a r) : ∃ j, p.run wEnd L 0 = .ok a j := by
  have := go_run L p 0
  rw [List.drop_zero, h] at this
  exact ⟨_, this.choose_spec.1⟩
def nm (s : Tx) : Wd := ⟨1, s, 0, 0, 0, 0⟩
def sg (s : Tx) : Wd := ⟨4, s, 0, 0, 0, 0⟩
abbrev wSemi := sg [59]
abbrev wRp := sg [41]
abbrev wClose := sg [125]
theorem go_may_yes {s : Tx} {x : Wd} {l : List Wd} (h : (x.k = 4 ∨ x.k = 1) ∧ x.s = s) : go (mayP s) (x :: l) = .ok true l := by
  show go (if (x.k = 4 ∨ x.k = 1) ∧ x.s = s then _ else _) _ = _
  rw [if_pos h]; rfl
theorem go_may_no {s : Tx} {x : Wd} {l : List Wd} (h : ¬ ((x.k = 4 ∨ x.k = 1) ∧ x.s = s)) : go (mayP s) (x :: l) = .ok false (x :: l) := by
  show go (if (x.k = 4 ∨ x.k = 1) ∧ x.s = s then _ else _) _ = _
  rw [if_neg h]; rfl
theorem go_yes {α : Type} {s : Tx} {x : Wd} {l : List Wd} {A B : PW α} (h : (x.k = 4 ∨ x.k = 1) ∧ x.s = s) : go ((mayP s).bind fun b => if b = true then A else B) (x :: l) = go A l := by rw [go_ok (go_may_yes h), if_pos rfl]
theorem go_no {α : Type} {s : Tx} {x : Wd} {l : List Wd} {A B : PW α} (h : ¬ ((x.k = 4 ∨ x.k = 1) ∧ x.s = s)) : go ((mayP s).bind fun b => if b = true then A else B) (x :: l) = go B (x :: l) := by rw [go_ok (go_may_no h), if_neg Bool.false_ne_true]
theorem go_need1 {α : Type} {s : Tx} {x : Wd} {l : List Wd} {k : Unit → PW α} (h : (x.k = 4 ∨ x.k = 1) ∧ x.s = s) : go ((needP [s]).bind k) (x :: l) = go (k ()) l := go_ok (by show go ((mayP s).bind fun b => if b = true then needP [] else .bad) _ = _; rw [go_yes h]; rfl)
theorem go_yesS {α : Type} {s : Tx} {l : List Wd} {A B : PW α} : go ((mayP s).bind fun b => if b = true then A else B) (sg s :: l) = go A l := go_yes ⟨.inl rfl, rfl⟩
theorem go_needS {α : Type} {s : Tx} {l : List Wd} {k : Unit → PW α} : go ((needP [s]).bind k) (sg s :: l) = go (k ()) l := go_need1 ⟨.inl rfl, rfl⟩
theorem go_name {α : Type} {x : Wd} {l : List Wd} {k : Tx → PW α} (h1 : x.k = 1) (h2 : keyB x.s = false) : go (nameP.bind k) (x :: l) = go (k x.s) l := go_ok (by
  show go ((mustP (decide (x.k = 1) && !keyB x.s)).bind fun y => .ret y.s) (x :: l) = _
  rw [h1, h2]; rfl)
theorem go_prog {f : Nat} {ws : List Wd} {body : List Sm} (h : go (smsP (f + 1) []) ws = .ok body []) : go (progP (f + 3) []) (nm [99, 111, 110, 116, 114, 111, 108] :: sg [123] :: ws) = .ok [{ dc0 9 0 with body := body }] [] := by
  have hd : go (declP (f + 2)) (nm [99, 111, 110, 116, 114, 111, 108] :: sg [123] :: ws) = .ok { dc0 9 0 with body := body } [] := by
    have h9 : go (onP (f + 2) 0 9) (sg [123] :: ws) = .ok { dc0 9 0 with body := body } [] := by
      show go ((blP (f + 2)).bind fun m => .ret { dc0 9 0 with body := m }) _ = _
      have hb2 : go (blP (f + 2)) (sg [123] :: ws) = .ok body [] := by rw [blP, go_needS]; exact h
      rw [go_ok hb2]; rfl
    have hk : declOf [99, 111, 110, 116, 114, 111, 108] = some 9 := by decide
    show go ((mustP (decide ((1 : Nat) = 1) && (declOf [99, 111, 110, 116, 114, 111, 108]).isSome)).bind fun _ => onP (f + 2) 0 ((declOf [99, 111, 110, 116, 114, 111, 108]).getD 0)) _ = _
    rw [hk]
    exact h9
  rw [progP]
  show go ((declP (f + 2)).bind fun d => progP (f + 2) ([] ++ [d])) _ = _
  rw [go_ok hd]
  rfl
abbrev wDrop := nm [100, 114, 111, 112]
def smDrop : Sm := .mk 12 [] [] [] 0 [] [] [] 0
theorem go_drop (f : Nat) (l : List Wd) : go (smP (f + 1)) (wDrop :: wSemi :: l) = .ok smDrop l := by
  rw [smP_eq]
  show go (stK f wDrop) (wDrop :: wSemi :: l) = _
  have h : (if wDrop.k = 1 then simpleOf wDrop.s else none) = some (12, 5) := by decide
  have e : stK f wDrop = .take (formK f 12 0 5) := by unfold stK; rw [h]; rfl
  rw [e]
  show go ((needP [[59]]).bind fun _ => .ret smDrop) (wSemi :: l) = _
  rw [go_needS]; rfl
def drops : Nat → List Wd
  | 0 => []
  | k + 1 => wDrop :: wSemi :: drops k
theorem go_drops : ∀ (k f : Nat) (acc : List Sm) (l : List Wd), go (smsP (f + k + 2) acc) (drops k ++ wClose :: l) = .ok (acc ++ List.replicate k smDrop) l
  | 0, f, acc, l => by
    rw [smsP]
    show go ((mayP [125]).bind _) (wClose :: l) = _
    rw [go_yesS]
    show Rg.ok acc l = _
    rw [List.replicate_zero, List.append_nil]
  | k + 1, f, acc, l => by
    rw [show f + (k + 1) + 2 = (f + k + 2) + 1 from by omega, smsP]
    show go ((mayP [125]).bind _) (wDrop :: wSemi :: (drops k ++ wClose :: l)) = _
    rw [go_no (by rintro ⟨_, h⟩; exact absurd h (by decide)), go_ok (go_drop (f + k + 1) (drops k ++ wClose :: l)), go_drops k f (acc ++ [smDrop]) l, List.append_assoc]
    rfl
abbrev wP := nm [112]
def pX : Ex := .mk 3 0 0 0 [112] [] 0 0 [] 0
def Stop (t : Wd) : Prop := t = wSemi ∨ t = wRp
theorem stop_two {t : Wd} (h : Stop t) : twoOf t.s = none := by rcases h with rfl | rfl <;> decide
theorem stop_may {t : Wd} (h : Stop t) {s : Tx} (h1 : s ≠ [59]) (h2 : s ≠ [41]) : ¬ ((t.k = 4 ∨ t.k = 1) ∧ t.s = s) := by
  rintro ⟨_, h3⟩
  rcases h with rfl | rfl
  · exact h1 h3.symm
  · exact h2 h3.symm
theorem go_p9 {t : Wd} (ht : Stop t) (f : Nat) (l : List Wd) : go (exP (f + 1) 9) (wP :: t :: l) = .ok pX (t :: l) := by
  rw [exP_prim]
  show go (primK f wP) (wP :: t :: l) = _
  unfold primK
  rw [if_neg (by decide), go_no (by rintro ⟨_, h⟩; exact absurd h (by decide)), go_no (by rintro ⟨_, h⟩; exact absurd h (by decide)), go_no (by rintro ⟨_, h⟩; exact absurd h (by decide)), go_no (by rintro ⟨_, h⟩; exact absurd h (by decide))]
  have ho : go ownerP (wP :: t :: l) = .ok [112] (t :: l) := by
    show go ((mayP txMeta).bind fun b => if b = true then .ret txMeta else nameP) _ = _
    rw [go_no (by rintro ⟨_, h⟩; exact absurd h (by decide))]
    rw [← bind_ret nameP, go_name rfl (by decide)]; rfl
  rw [go_ok ho, if_neg (by decide), go_no (stop_may ht (by decide) (by decide))]
  rfl
theorem go_8 {ws l : List Wd} {t : Wd} (ht : Stop t) {f : Nat} {x : Ex} (hx : go (exP (f + 1) 9) ws = .ok x (t :: l)) (hn : ∃ y l', ws = y :: l' ∧ y.s ≠ [126]) : go (exP (f + 2) 8) ws = .ok x (t :: l) := by
  rw [exP, if_neg (by decide), if_pos rfl]
  have hm : go (mayP [126]) ws = .ok false ws := by
    obtain ⟨y, l', rfl, hy⟩ := hn
    exact go_may_no (by rintro ⟨_, h⟩; exact hy h)
  show go ((mayP [126]).bind _) ws = _
  rw [go_ok hm, if_neg Bool.false_ne_true, go_ok hx, exS, go_no (stop_may ht (by decide) (by decide))]
  rfl
theorem go_lv {ws l : List Wd} {t : Wd} (ht : Stop t) {f lv : Nat} (hl : lv ≤ 7) {x : Ex} (hx : go (exP (f + 1) (lv + 1)) ws = .ok x (t :: l)) : go (exP (f + 2) lv) ws = .ok x (t :: l) := by
  rw [exP, if_pos hl]
  show go ((exP (f + 1) (lv + 1)).bind _) ws = _
  rw [go_ok hx, exL]
  show go (match twoOf t.s with | none => .ret x | some (op, b) => _) (t :: l) = _
  rw [stop_two ht]; rfl
theorem go_up {ws l : List Wd} {t : Wd} (ht : Stop t) {f : Nat} {x : Ex} (hx : go (exP (f + 1) 8) ws = .ok x (t :: l)) : go (exP (f + 9) 0) ws = .ok x (t :: l) :=
  go_lv ht (by decide) (go_lv ht (by decide) (go_lv ht (by decide) (go_lv ht (by decide) (go_lv ht (by decide) (go_lv ht (by decide) (go_lv ht (by decide) (go_lv ht (by decide) hx)))))))
def tildes : Nat → List Wd
  | 0 => []
  | d + 1 => sg [126] :: tildes d
def unN : Nat → Ex
  | 0 => pX
  | d + 1 => exUn 11 [unN d] 0
theorem go_tildes {t : Wd} (ht : Stop t) (l : List Wd) : ∀ (d f : Nat), go (exP (f + d + 2) 8) (tildes d ++ wP :: t :: l) = .ok (unN d) (t :: l)
  | 0, f => go_8 ht (go_p9 ht f l) ⟨wP, _, rfl, by decide⟩
  | d + 1, f => by
    rw [show f + (d + 1) + 2 = (f + d + 2) + 1 from by omega, exP, if_neg (by decide), if_pos rfl]
    show go ((mayP [126]).bind _) (sg [126] :: (tildes d ++ wP :: t :: l)) = _
    rw [go_yesS, go_ok (go_tildes ht l d f)]
    rfl
abbrev wLp := sg [40]
def lps : Nat → List Wd
  | 0 => []
  | b + 1 => wLp :: lps b
theorem go_br : ∀ (b f : Nat) {t : Wd} (ht : Stop t) (l : List Wd), go (exP (f + 10 * b + 10) 0) (lps b ++ wP :: (List.replicate b wRp ++ t :: l)) = .ok pX (t :: l)
  | 0, f, t, ht, l => go_up ht (go_8 ht (go_p9 ht f l) ⟨wP, _, rfl, by decide⟩)
  | b + 1, f, t, ht, l => by
    rw [show f + 10 * (b + 1) + 10 = (f + 10 * b + 10) + 10 from by omega]
    have ih := go_br b f (.inr rfl) (t :: l)
    generalize f + 10 * b + 10 = F at ih ⊢
    refine go_up (f := F + 1) ht (go_8 (f := F) ht ?_ ⟨wLp, _, rfl, by decide⟩)
    rw [exP_prim]
    show go (primK F wLp) (wLp :: (lps b ++ wP :: (List.replicate (b + 1) wRp ++ t :: l))) = _
    have e : List.replicate (b + 1) wRp ++ t :: l = List.replicate b wRp ++ wRp :: (t :: l) := by rw [List.replicate_succ', List.append_assoc]; rfl
    rw [e]
    unfold primK
    rw [if_neg (by decide), go_no (by rintro ⟨_, h⟩; exact absurd h (by decide)), go_no (by rintro ⟨_, h⟩; exact absurd h (by decide)), go_no (by rintro ⟨_, h⟩; exact absurd h (by decide)), go_yesS, go_ok ih, go_needS]
    rfl
theorem go_set {f : Nat} {x : Ex} {ws l : List Wd} (h : go (exP f 0) ws = .ok x (wSemi :: l)) : go (smP (f + 1)) (nm [104] :: sg [46] :: nm [97] :: sg [61] :: ws) = .ok (.mk 1 [104] [97] [] 0 [x] [] [] 0) l := by
  rw [smP_eq]
  show go (stK f (nm [104])) _ = _
  have h0 : (if (nm [104]).k = 1 then simpleOf (nm [104]).s else none) = none := by decide
  have e : stK f (nm [104]) = restK f (nm [104]) := by unfold stK; rw [h0]
  rw [e]
  unfold restK
  rw [go_no (by rintro ⟨_, h⟩; exact absurd h (by decide)), go_no (by rintro ⟨_, h⟩; exact absurd h (by decide))]
  have ho : go ownerP (nm [104] :: sg [46] :: nm [97] :: sg [61] :: ws) = .ok [104] (sg [46] :: nm [97] :: sg [61] :: ws) := by
    show go ((mayP txMeta).bind fun b => if b = true then .ret txMeta else nameP) _ = _
    rw [go_no (by rintro ⟨_, h⟩; exact absurd h (by decide))]
    rw [← bind_ret nameP, go_name rfl (by decide)]; rfl
  rw [go_ok ho, if_neg (by decide), go_no (by rintro ⟨_, h⟩; exact absurd h (by decide)), setK, go_needS, go_name rfl (by decide), go_needS, go_ok h]
  show go ((needP [[59]]).bind _) _ = _
  rw [go_needS]; rfl
theorem go_one {f : Nat} {x : Ex} {ws l : List Wd} (h : go (exP f 0) ws = .ok x (wSemi :: wClose :: l)) : go (smsP (f + 2) []) (nm [104] :: sg [46] :: nm [97] :: sg [61] :: ws) = .ok [.mk 1 [104] [97] [] 0 [x] [] [] 0] l := by
  rw [smsP, go_no (by rintro ⟨_, h⟩; exact absurd h (by decide)), go_ok (go_set h), smsP, go_yesS]
  rfl
theorem count_un : ∀ (d e : Nat) (c : Ct), exprsC [unN d] e c = (c.1 + d + 1, max c.2 (e + d))
  | 0, e, c => by
    show exF [unN 0] (e + 1) (partsC 1 e c) = _
    rw [exF, exF, unN, pX, exA, exF]
    show (c.1 + 1 + 0, _) = _
    simp only [partsC, List.length_nil, Nat.lt_irrefl, if_false, if_pos (show 0 < 1 by decide)]
    rfl
  | d + 1, e, c => by
    show exF [unN (d + 1)] (e + 1) (partsC 1 e c) = _
    rw [exF, exF, unN, exA_args]
    show exprsC [unN d] (e + 1) (partsC 1 e c) = _
    rw [count_un d (e + 1)]
    simp only [partsC, if_pos (show 0 < 1 by decide)]
    exact Prod.ext (by simp only; omega) (by simp only; omega)
def dcB (l : List Sm) : Dc := { dc0 9 0 with body := l }
theorem count_body (l : List Sm) : progC [dcB l] = stmtsC l 2 (1, 1) := by
  show declC (dcB l) (partsC 1 1 (0, 0)) = _
  rfl
theorem count_one (x : Ex) : progC [dcB [.mk 1 [104] [97] [] 0 [x] [] [] 0]] = exprsC [x] 3 (2, 2) := by
  rw [count_body]
  unfold stmtsC
  rw [smF, smF, smA, smF, smF]
  rfl
theorem smA_drop (d : Nat) (c : Ct) : smA smDrop d c = c := by
  unfold smDrop
  rw [smA, smF, smF]
  show (partsC 0 d (partsC 0 d (exprsC [] d c))) = c
  unfold exprsC
  rw [List.length_nil, exF]
  rfl
theorem smF_drops (d : Nat) (c : Ct) : ∀ k : Nat, smF (List.replicate k smDrop) d c = c
  | 0 => by rw [List.replicate_zero, smF]
  | k + 1 => by rw [List.replicate_succ, smF, smA_drop, smF_drops d c k]
theorem count_drops (k : Nat) : progC [dcB (List.replicate k smDrop)] = (1 + k, if 0 < k then 2 else 1) := by
  rw [count_body]
  unfold stmtsC
  rw [smF_drops, List.length_replicate]
  unfold partsC
  by_cases h : 0 < k
  · rw [if_pos h, if_pos h]; rfl
  · rw [if_neg h, if_neg h]
theorem parse_go {L : List Wd} {ds : List Dc} (h : go (progP (fuel L) []) L = .ok ds []) : parseL L = if smallB ds = true then (ds, 0, 0) else ([], 0, 3) := by
  obtain ⟨j, hj⟩ := run_go h
  unfold parseL
  rw [hj]; rfl
abbrev wCtl := nm [99, 111, 110, 116, 114, 111, 108]
def L1 (k : Nat) : List Wd := wCtl :: sg [123] :: (drops k ++ [wClose])
def L2 (d : Nat) : List Wd := wCtl :: sg [123] :: nm [104] :: sg [46] :: nm [97] :: sg [61] :: (tildes d ++ wP :: wSemi :: [wClose])
def L3 (b : Nat) : List Wd := wCtl :: sg [123] :: nm [104] :: sg [46] :: nm [97] :: sg [61] :: (lps b ++ wP :: (List.replicate b wRp ++ wSemi :: [wClose]))
theorem parse1 {k : Nat} (hk : k < 5000) : parseL (L1 k) = if 1 + k ≤ 4096 then ([dcB (List.replicate k smDrop)], 0, 0) else ([], 0, 3) := by
  have hg : go (progP (fuel (L1 k)) []) (L1 k) = .ok [dcB (List.replicate k smDrop)] [] := by
    obtain ⟨F, hF⟩ : ∃ F, fuel (L1 k) = (F + k + 1) + 3 := ⟨786429 - k, by unfold fuel; omega⟩
    rw [hF]
    exact go_prog (f := F + k + 1) (go_drops k F [] [])
  rw [parse_go hg]
  unfold smallB
  rw [count_drops]
  by_cases h : 1 + k ≤ 4096
  · rw [if_pos h, decide_eq_true h, decide_eq_true (by simp only; split <;> omega)]; rfl
  · rw [if_neg h, decide_eq_false h, Bool.false_and]; rfl
theorem parse2 (d : Nat) (hd : d < 256) : ∃ ds, parseL (L2 d) = if d + 3 ≤ 64 then (ds, 0, 0) else ([], 0, 3) := by
  refine ⟨[dcB [.mk 1 [104] [97] [] 0 [unN d] [] [] 0]], ?_⟩
  have hg : go (progP (fuel (L2 d)) []) (L2 d) = .ok [dcB [.mk 1 [104] [97] [] 0 [unN d] [] [] 0]] [] := by
    obtain ⟨F, hF⟩ : ∃ F, fuel (L2 d) = (F + d + 11) + 3 := ⟨786419 - d, by unfold fuel; omega⟩
    rw [hF]
    exact go_prog (f := F + d + 11) (go_one (f := F + d + 10) (go_up (f := F + d + 1) (.inl rfl) (go_tildes (.inl rfl) [wClose] d F)))
  rw [parse_go hg]
  unfold smallB
  rw [count_one, count_un]
  have h1 : decide (((2, 2) : Ct).1 + d + 1 ≤ 4096) = true := decide_eq_true (by simp only; omega)
  rw [h1]
  by_cases h : d + 3 ≤ 64
  · rw [if_pos h, decide_eq_true (by simp only; omega)]; rfl
  · rw [if_neg h, decide_eq_false (by simp only; omega)]; rfl
theorem parse3 {b : Nat} (hb : b < 256) : ∃ ds, parseL (L3 b) = (ds, 0, 0) := by
  refine ⟨[dcB [.mk 1 [104] [97] [] 0 [pX] [] [] 0]], ?_⟩
  have hg : go (progP (fuel (L3 b)) []) (L3 b) = .ok [dcB [.mk 1 [104] [97] [] 0 [pX] [] [] 0]] [] := by
    obtain ⟨F, hF⟩ : ∃ F, fuel (L3 b) = (F + 10 * b + 11) + 3 := ⟨786419 - 10 * b, by unfold fuel; omega⟩
    rw [hF]
    have h := go_br b F (.inl rfl) [wClose]
    exact go_prog (f := F + 10 * b + 11) (go_one (f := F + 10 * b + 10) h)
  rw [parse_go hg]
  have hc : progC [dcB [.mk 1 [104] [97] [] 0 [pX] [] [] 0]] = (3, 3) := by
    rw [count_one]
    exact count_un 0 3 (2, 2)
  unfold smallB
  rw [hc]
  rfl
def pre1 (x : Wd) : Nat ⊕ List Wd → Nat ⊕ List Wd
  | .inl e => .inl e
  | .inr l => .inr (x :: l)
theorem W_tok {a rest : Tx} {x : Wd} (n : Nat) (hs : ∃ c r, a = c :: r ∧ blank c = false ∧ c ≠ 47) (hw : word (a ++ rest) = some (x, rest)) : W (a ++ rest) n = pre1 { x with ln := n } (W rest n) := by
  rw [W_word n hs hw]
  cases W rest n <;> rfl
def rep (t : Tx) : Nat → Tx
  | 0 => []
  | n + 1 => rep t n ++ t
theorem rep_front (t : Tx) : ∀ n : Nat, rep t (n + 1) = t ++ rep t n
  | 0 => by simp [rep]
  | n + 1 => by
    show rep t (n + 1) ++ t = t ++ (rep t n ++ t)
    rw [rep_front t n, List.append_assoc]
theorem rep_len (t : Tx) : ∀ n : Nat, (rep t n).length = n * t.length
  | 0 => by simp [rep]
  | n + 1 => by rw [rep, List.length_append, rep_len t n, Nat.add_mul, Nat.one_mul]
theorem W_drops (rest : Tx) {l : List Wd} (h : W rest 0 = .inr l) : ∀ k : Nat, W (rep [100, 114, 111, 112, 59] k ++ rest) 0 = .inr (drops k ++ l)
  | 0 => h
  | k + 1 => by
    rw [rep_front, List.append_assoc]
    rw [show [100, 114, 111, 112, 59] ++ (rep [100, 114, 111, 112, 59] k ++ rest) = [100, 114, 111, 112] ++ ([59] ++ (rep [100, 114, 111, 112, 59] k ++ rest)) from rfl, W_tok 0 (x := nm [100, 114, 111, 112]) ⟨_, _, rfl, by decide, by decide⟩ rfl, W_tok 0 (x := sg [59]) ⟨_, _, rfl, by decide, by decide⟩ rfl, W_drops rest h k]
    rfl
theorem W_tildes (rest : Tx) {l : List Wd} (h : W rest 0 = .inr l) : ∀ k : Nat, W (rep [126] k ++ rest) 0 = .inr (tildes k ++ l)
  | 0 => h
  | k + 1 => by
    rw [rep_front, List.append_assoc, W_tok 0 (x := sg [126]) ⟨_, _, rfl, by decide, by decide⟩ rfl, W_tildes rest h k]
    rfl
theorem W_lps (rest : Tx) {l : List Wd} (h : W rest 0 = .inr l) : ∀ k : Nat, W (rep [40] k ++ rest) 0 = .inr (lps k ++ l)
  | 0 => h
  | k + 1 => by
    rw [rep_front, List.append_assoc, W_tok 0 (x := sg [40]) ⟨_, _, rfl, by decide, by decide⟩ rfl, W_lps rest h k]
    rfl
theorem W_rps (rest : Tx) {l : List Wd} (h : W rest 0 = .inr l) : ∀ k : Nat, W (rep [41] k ++ rest) 0 = .inr (List.replicate k wRp ++ l)
  | 0 => h
  | k + 1 => by
    rw [rep_front, List.append_assoc, W_tok 0 (x := sg [41]) ⟨_, _, rfl, by decide, by decide⟩ rfl, W_rps rest h k]
    rfl
def ctlT : Tx := [99, 111, 110, 116, 114, 111, 108, 32, 123]
def setT : Tx := [99, 111, 110, 116, 114, 111, 108, 32, 123, 32, 104, 46, 97, 32, 61, 32]
def S1 (k : Nat) : Tx := (ctlT ++ rep [100, 114, 111, 112, 59] k) ++ [125]
def S2 (d : Nat) : Tx := (setT ++ rep [126] d) ++ [112, 59, 32, 125]
def S3 (b : Nat) : Tx := (((setT ++ rep [40] b) ++ [112]) ++ rep [41] b) ++ [59, 32, 125]
theorem W_ctl (rest : Tx) {l : List Wd} (h : W rest 0 = .inr l) : W (ctlT ++ rest) 0 = .inr (wCtl :: sg [123] :: l) := by
  rw [show ctlT ++ rest = [99, 111, 110, 116, 114, 111, 108] ++ (32 :: ([123] ++ rest)) from rfl, W_tok 0 (x := wCtl) ⟨_, _, rfl, by decide, by decide⟩ rfl, W_blank, W_tok 0 (x := sg [123]) ⟨_, _, rfl, by decide, by decide⟩ rfl, h]
  rfl
theorem W_set (rest : Tx) {l : List Wd} (h : W rest 0 = .inr l) : W (setT ++ rest) 0 = .inr (wCtl :: sg [123] :: nm [104] :: sg [46] :: nm [97] :: sg [61] :: l) := by
  rw [show setT ++ rest = ctlT ++ (32 :: ([104] ++ ([46] ++ ([97] ++ (32 :: ([61] ++ (32 :: rest))))))) from rfl]
  refine W_ctl _ ?_
  rw [W_blank, W_tok 0 (x := nm [104]) ⟨_, _, rfl, by decide, by decide⟩ rfl, W_tok 0 (x := sg [46]) ⟨_, _, rfl, by decide, by decide⟩ rfl, W_tok 0 (x := nm [97]) ⟨_, _, rfl, by decide, by decide⟩ rfl, W_blank, W_tok 0 (x := sg [61]) ⟨_, _, rfl, by decide, by decide⟩ rfl, W_blank, h]
  rfl
theorem parseS_of {s : Tx} {L : List Wd} (h : W s 0 = .inr L) (hs : s.length ≤ 65536) : parseS s = parseL L := by
  unfold parseS
  rw [if_neg (by omega), h]
theorem deep1 {k : Nat} (hk : k < 5000) : parseS (S1 k) = if 1 + k ≤ 4096 then ([dcB (List.replicate k smDrop)], 0, 0) else ([], 0, 3) := by
  rw [parseS_of (L := L1 k) (by unfold S1; rw [List.append_assoc]; exact W_ctl _ (W_drops [125] (l := [wClose]) (by kernel_rfl) k)) (by unfold S1 ctlT; simp only [List.length_append, rep_len, List.length_cons, List.length_nil]; omega), parse1 hk]
theorem deep2 {d : Nat} (hd : d < 256) : ∃ ds, parseS (S2 d) = if d + 3 ≤ 64 then (ds, 0, 0) else ([], 0, 3) := by
  obtain ⟨ds, h⟩ := parse2 d hd
  refine ⟨ds, ?_⟩
  rw [parseS_of (L := L2 d) (by unfold S2; rw [List.append_assoc]; exact W_set _ (W_tildes [112, 59, 32, 125] (l := [wP, wSemi, wClose]) (by kernel_rfl) d)) (by unfold S2 setT; simp only [List.length_append, rep_len, List.length_cons, List.length_nil]; omega), h]
theorem W_p (b : Nat) : W ([112] ++ (rep [41] b ++ [59, 32, 125])) 0 = .inr (wP :: (List.replicate b wRp ++ [wSemi, wClose])) := by
  have hw : word ([112] ++ (rep [41] b ++ [59, 32, 125])) = some (nm [112], rep [41] b ++ [59, 32, 125]) := by
    cases b with
    | zero => rfl
    | succ b => rw [rep_front]; rfl
  rw [W_tok 0 (x := nm [112]) ⟨_, _, rfl, by decide, by decide⟩ hw, W_rps [59, 32, 125] (l := [wSemi, wClose]) (by kernel_rfl) b]
  rfl
theorem deep3 {b : Nat} (hb : b < 256) : ∃ ds, parseS (S3 b) = (ds, 0, 0) := by
  obtain ⟨ds, h⟩ := parse3 hb
  refine ⟨ds, ?_⟩
  rw [parseS_of (L := L3 b) (by unfold S3; rw [List.append_assoc, List.append_assoc, List.append_assoc]; exact W_set _ (W_lps _ (W_p b) b)) (by unfold S3 setT; simp only [List.length_append, rep_len, List.length_cons, List.length_nil]; omega), h]
end Go.Proofs.YtbgeejmhkmjfdaaGreatDoor.Ln
