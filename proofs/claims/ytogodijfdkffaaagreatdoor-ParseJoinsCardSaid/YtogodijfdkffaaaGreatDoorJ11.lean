/- Parts of the walk, joined. -/
import Derived.Test.YtogodijfdkffaaaGreatDoorJ10
import Derived.Test.YtogodijfdkffaaaGreatDoorJ4
set_option linter.unusedVariables false
set_option linter.unusedSimpArgs false
set_option maxRecDepth 100000
/- Some answers of the parser. -/
namespace Go.Proofs.YtogodijfdkffaaaGreatDoor.Ln
open Go Go.RowKit Go.Ab Go.Proofs 
theorem en7 : enters Tryz.prog 7 = true := by kernel_rfl
theorem cat_ok (a b : List UInt8) (h : a.length + b.length ≤ 9223372036854775807) : (B a).size + (B b).size ≤ 9223372036854775807 := by rw [B_size, B_size]; exact h
theorem parse_is {s : Tx} {r : List Dc × Nat × Nat} {x : D} (h : parseS s = r) (e : parsedD r = x) : CallsP Tryz.prog Lw 7 [txD s] x := by
  rw [← e, ← h]; exact parse_c s
theorem al1 : CallsP Tryz.prog Lw 7 [txD [97, 99, 116, 105, 111, 110, 32, 102, 40, 112, 32, 56, 41, 32, 123, 32, 104, 46, 97, 32, 61, 32, 126, 112, 91, 51, 58, 48, 93, 32, 43, 43, 32, 99, 97, 115, 116, 32, 52, 40, 104, 46, 98, 41, 32, 43, 32, 56, 119, 49, 59, 32, 125]] (.tup [.list 15 [.agg [.sc (.int .u8 7), txD [102], .list 2 [.agg [txD [112], nD 8]], nD 0, nD 0, nD 0, nD 0, .list 6 [], .list 11 [], .list 1 [], txD [], .list 3 [], .list 9 [.agg [.sc (.int .u8 1), txD [104], txD [97], txD [], nD 0, .list 10 [.agg [.sc (.int .u8 5), nD 0, .sc (.int .u64 0), .sc (.int .u64 0), txD [], txD [], nD 0, nD 0, .list 10 [.agg [.sc (.int .u8 14), nD 0, .sc (.int .u64 0), .sc (.int .u64 0), txD [], txD [], nD 0, nD 0, .list 10 [.agg [.sc (.int .u8 11), nD 0, .sc (.int .u64 0), .sc (.int .u64 0), txD [], txD [], nD 0, nD 0, .list 10 [.agg [.sc (.int .u8 15), nD 0, .sc (.int .u64 0), .sc (.int .u64 0), txD [], txD [], nD 3, nD 0, .list 10 [.agg [.sc (.int .u8 3), nD 0, .sc (.int .u64 0), .sc (.int .u64 0), txD [112], txD [], nD 0, nD 0, .list 10 [], nD 0]], nD 0]], nD 0], .agg [.sc (.int .u8 16), nD 0, .sc (.int .u64 0), .sc (.int .u64 0), txD [], txD [], nD 4, nD 0, .list 10 [.agg [.sc (.int .u8 2), nD 0, .sc (.int .u64 0), .sc (.int .u64 0), txD [104], txD [98], nD 0, nD 0, .list 10 [], nD 0]], nD 0]], nD 0], .agg [.sc (.int .u8 1), nD 8, .sc (.int .u64 0), .sc (.int .u64 1), txD [], txD [], nD 0, nD 0, .list 10 [], nD 0]], nD 0]], .list 9 [], .list 9 [], nD 0]], .list 1 [], nD 0]], nD 0, nD 0]) := parse_is (r := ([(⟨7, [102], [([112], 8)], 0, 0, 0, 0, [], [], [], [], [], [(Sm.mk 1 [104] [97] [] 0 [(Ex.mk 5 0 0 0 [] [] 0 0 [(Ex.mk 14 0 0 0 [] [] 0 0 [(Ex.mk 11 0 0 0 [] [] 0 0 [(Ex.mk 15 0 0 0 [] [] 3 0 [(Ex.mk 3 0 0 0 [112] [] 0 0 [] 0)] 0)] 0), (Ex.mk 16 0 0 0 [] [] 4 0 [(Ex.mk 2 0 0 0 [104] [98] 0 0 [] 0)] 0)] 0), (Ex.mk 1 8 0 1 [] [] 0 0 [] 0)] 0)] [] [] 0)], [], 0⟩ : Dc)], 0, 0)) (by kernel_rfl) (by kernel_rfl)
theorem al2 : CallsP Tryz.prog Lw 7 [txD [99, 111, 110, 116, 114, 111, 108, 32, 123, 10, 100, 114, 111, 112, 59]] (.tup [.list 15 [], nD 1, nD 5]) := parse_is (r := ([], 1, 5)) (by kernel_rfl) (by kernel_rfl)
theorem al3 : CallsP Tryz.prog Lw 7 [txD [99, 111, 110, 116, 114, 111, 108, 32, 123, 32, 97, 32, 61, 61, 32, 98, 32, 61, 61, 32, 99, 59, 32, 125]] (.tup [.list 15 [], nD 0, nD 5]) := parse_is (r := ([], 0, 5)) (by kernel_rfl) (by kernel_rfl)
theorem alive_c : CallsP Tryz.prog Lw 9 [] (.sc (.bool true)) := by
  refine callsP_of gs_lw Tryz.func9 rfl Tryz.ntmps9 rfl fun w0 S0 stab => ?_
  refine sqq <| rgq <| asq rfl rfl <| nxq <| sqq <| rgq <| sq (f_call en7 rfl al1 (lt rfl)) rfl rfl <| mvq rfl rfl ?_
  refine exq rfl rfl rfl <| exq rfl rfl rfl <| exq rfl rfl rfl <| asq rfl rfl <| asq rfl rfl <| asq rfl rfl <| nxq <| sqq ?_
  refine rgq <| sq (f_call en7 rfl al2 (lt rfl)) rfl rfl <| mvq rfl rfl <| exq rfl rfl rfl <| exq rfl rfl rfl <| exq rfl rfl rfl <| asq rfl rfl <| asq rfl rfl ?_
  refine asq rfl rfl <| nxq <| sqq <| rgq <| sq (f_call en7 rfl al3 (lt rfl)) rfl rfl <| mvq rfl rfl <| exq rfl rfl rfl <| exq rfl rfl rfl ?_
  refine exq rfl rfl rfl <| asq rfl rfl <| asq rfl rfl <| asq rfl rfl <| nxq <| sqq <| sqq <| rgq ?_
  refine mvq rfl rfl <| sq (f_bin rfl rfl (bT (b' := false) rfl) (lt rfl)) rfl rfl <| mvq rfl rfl <| sq_yes (f_move rfl (lt rfl)) rfl rfl rfl rfl (lt rfl) <| sq_yes (f_bin rfl rfl (bT (b' := false) rfl) (lt rfl)) rfl rfl rfl rfl (lt rfl) <| pkq rfl rfl rfl <| mvq rfl rfl <| sq_yes (f_move rfl (lt rfl)) rfl rfl rfl rfl (lt rfl) ?_
  refine sq_yes (f_bin rfl rfl (bT (b' := false) rfl) (lt rfl)) rfl rfl rfl rfl (lt rfl) <| pkq rfl rfl rfl <| mvq rfl rfl <| sq_yes (f_move rfl (lt rfl)) rfl rfl rfl rfl (lt rfl) <| sq_yes (f_bin rfl rfl (bT (b' := false) rfl) (lt rfl)) rfl rfl rfl rfl (lt rfl) <| pkq rfl rfl rfl <| mvq rfl rfl <| sq_yes (f_move rfl (lt rfl)) rfl rfl rfl rfl (lt rfl) ?_
  refine sq_yes (f_bin rfl rfl (bT (b' := false) rfl) (lt rfl)) rfl rfl rfl rfl (lt rfl) <| pkq rfl rfl rfl <| mvq rfl rfl <| sq_yes (f_move rfl (lt rfl)) rfl rfl rfl rfl (lt rfl) <| sq_yes (f_lenList rfl rfl un23 (lt rfl)) rfl rfl rfl rfl (lt rfl) <| sq_yes (f_bin rfl rfl (bT (b' := false) rfl) (lt rfl)) rfl rfl rfl rfl (lt rfl) <| pkq rfl rfl rfl <| mvq rfl rfl ?_
  refine sq_yes (f_move rfl (lt rfl)) rfl rfl rfl rfl (lt rfl) <| sq_yes (f_idxList rfl rfl rfl un23 kd56 (by decide) rfl (lt rfl)) rfl rfl rfl rfl (lt rfl) <| sq_yes (f_fieldAddr rfl kf56_0 rfl (lt rfl)) rfl rfl rfl rfl (lt rfl) <| sq_yes (f_load kd48 rfl rfl (lt rfl)) rfl rfl rfl rfl (lt rfl) <| sq_yes (f_bin rfl rfl (bT (b' := false) rfl) (lt rfl)) rfl rfl rfl rfl (lt rfl) <| pkq rfl rfl rfl <| mvq rfl rfl <| sq_yes (f_move rfl (lt rfl)) rfl rfl rfl rfl (lt rfl) ?_
  refine sq_yes (f_idxList rfl rfl rfl un23 kd56 (by decide) rfl (lt rfl)) rfl rfl rfl rfl (lt rfl) <| sq_yes (f_fieldAddr rfl kf56_1 rfl (lt rfl)) rfl rfl rfl rfl (lt rfl) <| sq_yes (f_load kd9 rfl rfl (lt rfl)) rfl rfl rfl rfl (lt rfl) <| sq_yes (f_bin rfl rfl (bT ((congrArg not ((B_beq [102] [102]).trans (decide_eq_true rfl))))) (lt rfl)) rfl rfl rfl rfl (lt rfl) <| pkq rfl rfl rfl <| mvq rfl rfl <| sq_yes (f_move rfl (lt rfl)) rfl rfl rfl rfl (lt rfl) <| sq_yes (f_idxList rfl rfl rfl un23 kd56 (by decide) rfl (lt rfl)) rfl rfl rfl rfl (lt rfl) ?_
  refine sq_yes (f_fieldAddr rfl kf56_12 rfl (lt rfl)) rfl rfl rfl rfl (lt rfl) <| sq_yes (f_load kd54 rfl rfl (lt rfl)) rfl rfl rfl rfl (lt rfl) <| sq_yes (f_lenList rfl rfl un54 (lt rfl)) rfl rfl rfl rfl (lt rfl) <| sq_yes (f_bin rfl rfl (bT (b' := false) rfl) (lt rfl)) rfl rfl rfl rfl (lt rfl) <| pkq rfl rfl rfl <| nxq <| cnF rfl <| skq ?_
  refine toq <| sqq <| rgq <| mvq rfl rfl <| sq (f_idxList rfl rfl rfl un23 kd56 (by decide) rfl (lt rfl)) rfl rfl <| faq rfl kf56_12 rfl rfl <| ldq kd54 rfl rfl rfl <| sq (f_idxList rfl rfl rfl un54 kd70 (by decide) rfl (lt rfl)) rfl rfl ?_
  refine faq rfl kf70_5 rfl rfl <| ldq kd65 rfl rfl rfl <| sq (f_idxList rfl rfl rfl un65 kd67 (by decide) rfl (lt rfl)) rfl rfl <| ldq kd67 rfl rfl rfl <| sq (f_alloc zc67 (lt rfl)) rfl rfl <| soq kd67 rfl rfl rfl rfl rfl <| nxq <| sqq ?_
  refine rgq <| faq rfl kf67_0 rfl rfl <| ldq kd64 rfl rfl rfl <| sq (f_bin rfl rfl (bT (b' := true) rfl) (lt rfl)) rfl rfl <| mvq rfl rfl <| sq_yes (f_fieldAddr rfl kf67_6 rfl (lt rfl)) rfl rfl rfl rfl (lt rfl) <| sq_yes (f_load kd65 rfl rfl (lt rfl)) rfl rfl rfl rfl (lt rfl) <| sq_yes (f_idxList rfl rfl rfl un65 kd67 (by decide) rfl (lt rfl)) rfl rfl rfl rfl (lt rfl) ?_
  refine sq_yes (f_fieldAddr rfl kf67_0 rfl (lt rfl)) rfl rfl rfl rfl (lt rfl) <| sq_yes (f_load kd64 rfl rfl (lt rfl)) rfl rfl rfl rfl (lt rfl) <| sq_yes (f_bin rfl rfl (bT (b' := true) rfl) (lt rfl)) rfl rfl rfl rfl (lt rfl) <| pkq rfl rfl rfl <| mvq rfl rfl <| sq_yes (f_fieldAddr rfl kf67_6 rfl (lt rfl)) rfl rfl rfl rfl (lt rfl) <| sq_yes (f_load kd65 rfl rfl (lt rfl)) rfl rfl rfl rfl (lt rfl) <| sq_yes (f_idxList rfl rfl rfl un65 kd67 (by decide) rfl (lt rfl)) rfl rfl rfl rfl (lt rfl) ?_
  refine sq_yes (f_fieldAddr rfl kf67_6 rfl (lt rfl)) rfl rfl rfl rfl (lt rfl) <| sq_yes (f_load kd65 rfl rfl (lt rfl)) rfl rfl rfl rfl (lt rfl) <| sq_yes (f_idxList rfl rfl rfl un65 kd67 (by decide) rfl (lt rfl)) rfl rfl rfl rfl (lt rfl) <| sq_yes (f_fieldAddr rfl kf67_0 rfl (lt rfl)) rfl rfl rfl rfl (lt rfl) <| sq_yes (f_load kd64 rfl rfl (lt rfl)) rfl rfl rfl rfl (lt rfl) <| sq_yes (f_bin rfl rfl (bT (b' := true) rfl) (lt rfl)) rfl rfl rfl rfl (lt rfl) <| pkq rfl rfl rfl <| mvq rfl rfl ?_
  refine sq_yes (f_fieldAddr rfl kf67_6 rfl (lt rfl)) rfl rfl rfl rfl (lt rfl) <| sq_yes (f_load kd65 rfl rfl (lt rfl)) rfl rfl rfl rfl (lt rfl) <| sq_yes (f_idxList rfl rfl rfl un65 kd67 (by decide) rfl (lt rfl)) rfl rfl rfl rfl (lt rfl) <| sq_yes (f_fieldAddr rfl kf67_6 rfl (lt rfl)) rfl rfl rfl rfl (lt rfl) <| sq_yes (f_load kd65 rfl rfl (lt rfl)) rfl rfl rfl rfl (lt rfl) <| sq_yes (f_idxList rfl rfl rfl un65 kd67 (by decide) rfl (lt rfl)) rfl rfl rfl rfl (lt rfl) <| sq_yes (f_fieldAddr rfl kf67_6 rfl (lt rfl)) rfl rfl rfl rfl (lt rfl) <| sq_yes (f_load kd65 rfl rfl (lt rfl)) rfl rfl rfl rfl (lt rfl) ?_
  refine sq_yes (f_idxList rfl rfl rfl un65 kd67 (by decide) rfl (lt rfl)) rfl rfl rfl rfl (lt rfl) <| sq_yes (f_fieldAddr rfl kf67_0 rfl (lt rfl)) rfl rfl rfl rfl (lt rfl) <| sq_yes (f_load kd64 rfl rfl (lt rfl)) rfl rfl rfl rfl (lt rfl) <| sq_yes (f_bin rfl rfl (bT (b' := true) rfl) (lt rfl)) rfl rfl rfl rfl (lt rfl) <| pkq rfl rfl rfl <| mvq rfl rfl <| sq_yes (f_fieldAddr rfl kf67_6 rfl (lt rfl)) rfl rfl rfl rfl (lt rfl) <| sq_yes (f_load kd65 rfl rfl (lt rfl)) rfl rfl rfl rfl (lt rfl) ?_
  refine sq_yes (f_idxList rfl rfl rfl un65 kd67 (by decide) rfl (lt rfl)) rfl rfl rfl rfl (lt rfl) <| sq_yes (f_fieldAddr rfl kf67_1 rfl (lt rfl)) rfl rfl rfl rfl (lt rfl) <| sq_yes (f_load kd35 rfl rfl (lt rfl)) rfl rfl rfl rfl (lt rfl) <| sq_yes (f_build bu35 rfl rfl (lt rfl)) rfl rfl rfl rfl (lt rfl) <| sq_yes (f_eqS rfl rfl rfl rfl eqg35 (ev35 ..) (by decide) (rfl : _ = true) (lt rfl)) rfl rfl rfl rfl (lt rfl) <| pkq rfl rfl rfl <| asq rfl rfl <| nxq ?_
  refine rtq ?_
  exact hits_done (.inl rfl) rfl rfl rfl
end Go.Proofs.YtogodijfdkffaaaGreatDoor.Ln

/- What is read does not hang on lines; beginnings of what is read. -/
namespace Go.Proofs.YtogodijfdkffaaaGreatDoor.Ln
open Go Go.RowKit Go.Ab Go.Proofs 
mutual
def eEx : Ex → Ex
  | .mk op lw lh ll nm fl n m args _ => .mk op lw lh ll nm fl n m (eExs args) 0
def eExs : List Ex → List Ex
  | [] => []
  | x :: l => eEx x :: eExs l
end
mutual
def eSm : Sm → Sm
  | .mk k a b c n args body els _ => .mk k a b c n (eExs args) (eSms body) (eSms els) 0
def eSms : List Sm → List Sm
  | [] => []
  | x :: l => eSm x :: eSms l
end
def eSt (s : Stt) : Stt := { s with sel := eExs s.sel, line := 0 }
def eKd (k : Ex × Nat) : Ex × Nat := (eEx k.1, k.2)
def eDc (d : Dc) : Dc := { d with states := d.states.map eSt, keys := d.keys.map eKd, body := eSms d.body, line := 0 }
theorem eExs_snoc (x : Ex) : ∀ l : List Ex, eExs (l ++ [x]) = eExs l ++ [eEx x]
  | [] => by rw [List.nil_append, eExs, eExs, eExs]; rfl
  | y :: l => by rw [List.cons_append, eExs, eExs, eExs_snoc x l]; rfl
theorem eSms_snoc (x : Sm) : ∀ l : List Sm, eSms (l ++ [x]) = eSms l ++ [eSm x]
  | [] => by rw [List.nil_append, eSms, eSms, eSms]; rfl
  | y :: l => by rw [List.cons_append, eSms, eSms, eSms_snoc x l]; rfl
theorem eExs_len : ∀ l : List Ex, (eExs l).length = l.length
  | [] => by rw [eExs]
  | x :: l => by rw [eExs, List.length_cons, List.length_cons, eExs_len l]
theorem eSms_len : ∀ l : List Sm, (eSms l).length = l.length
  | [] => by rw [eSms]
  | x :: l => by rw [eSms, List.length_cons, List.length_cons, eSms_len l]
mutual
theorem exA_e : ∀ (x : Ex) (d : Nat) (c : Ct), exA (eEx x) d c = exA x d c
  | .mk _ _ _ _ _ _ _ _ args _, d, c => by rw [eEx, exA, exA, exF_e args, eExs_len]
theorem exF_e : ∀ (l : List Ex) (d : Nat) (c : Ct), exF (eExs l) d c = exF l d c
  | [], d, c => by rw [eExs]
  | x :: l, d, c => by rw [eExs, exF, exF, exA_e x, exF_e l]
end
theorem exprsC_e (l : List Ex) (d : Nat) (c : Ct) : exprsC (eExs l) d c = exprsC l d c := by unfold exprsC; rw [exF_e, eExs_len]
mutual
theorem smA_e : ∀ (x : Sm) (d : Nat) (c : Ct), smA (eSm x) d c = smA x d c
  | .mk _ _ _ _ _ args body els _, d, c => by rw [eSm, smA, smA, smF_e els, smF_e body, eSms_len, eSms_len, exprsC_e]
theorem smF_e : ∀ (l : List Sm) (d : Nat) (c : Ct), smF (eSms l) d c = smF l d c
  | [], d, c => by rw [eSms]
  | x :: l, d, c => by rw [eSms, smF, smF, smA_e x, smF_e l]
end
theorem statesF_e : ∀ (l : List Stt) (c : Ct), statesF (l.map eSt) c = statesF l c
  | [], c => rfl
  | s :: l, c => by
    rw [List.map_cons, statesF, statesF, statesF_e l]
    congr 1
    show exprsC (eExs s.sel) 3 _ = exprsC s.sel 3 _
    rw [exprsC_e]; rfl
theorem keysF_e : ∀ (l : List (Ex × Nat)) (c : Ct), keysF (l.map eKd) c = keysF l c
  | [], c => rfl
  | k :: l, c => by
    rw [List.map_cons, keysF, keysF, keysF_e l]
    congr 1
    show exprsC [eEx k.1] 2 c = _
    rw [show [eEx k.1] = eExs [k.1] from by rw [eExs, eExs], exprsC_e]
theorem declC_e (d : Dc) (c : Ct) : declC (eDc d) c = declC d c := by
  unfold declC stmtsC
  show smF (eSms d.body) 3 (partsC (eSms d.body).length 2 (keysF (d.keys.map eKd) (statesF (d.states.map eSt) (partsC (d.states.map eSt).length 2 (partsC d.fields.length 2 c))))) = _
  rw [smF_e, eSms_len, keysF_e, statesF_e, List.length_map]
theorem declsF_e : ∀ (l : List Dc) (c : Ct), declsF (l.map eDc) c = declsF l c
  | [], c => rfl
  | d :: l, c => by rw [List.map_cons, declsF, declsF, declC_e, declsF_e l]
theorem small_e {l l' : List Dc} (h : l.map eDc = l'.map eDc) : smallB l = smallB l' := by
  have key : ∀ l : List Dc, progC (l.map eDc) = progC l := fun l => by unfold progC; rw [declsF_e, List.length_map]
  unfold smallB
  rw [← key l, h, key l']
def strip (w : Wd) : Wd := { w with ln := 0 }
structure Like (L L' : List Wd) : Prop where
  go : ∀ i, strip (wordAt wEnd L i) = strip (wordAt wEnd L' i)
def RsR {α γ : Type} (f : α → γ) : Rs α → Rs α → Prop
  | .ok a j, .ok b j' => f a = f b ∧ j = j'
  | .bad j, .bad j' => j = j'
  | .oof, .oof => True
  | _, _ => False
structure Same {α γ : Type} (f : α → γ) (p q : PW α) : Prop where
  go : ∀ {L L' : List Wd}, Like L L' → ∀ i, RsR f (p.run wEnd L i) (q.run wEnd L' i)
variable {α β γ δ : Type} {f : α → γ} {g : β → δ}
theorem same_ret {a b : α} (h : f a = f b) : Same f (.ret a) (.ret b) := ⟨fun _ i => ⟨h, rfl⟩⟩
theorem same_bad : Same f (.bad : PW α) .bad := ⟨fun _ i => rfl⟩
theorem same_oof : Same f (.oof : PW α) .oof := ⟨fun _ i => trivial⟩
theorem same_bind {p q : PW α} {k k' : α → PW β} (hp : Same f p q) (hk : ∀ a b, f a = f b → Same g (k a) (k' b)) : Same g (p.bind k) (q.bind k') := ⟨fun {L L'} hl i => by
  have h := hp.go hl i
  rw [run_bind, run_bind]
  cases h1 : p.run wEnd L i <;> cases h2 : q.run wEnd L' i <;> rw [h1, h2] at h
  · obtain ⟨h3, rfl⟩ := h
    exact (hk _ _ h3).go hl _
  all_goals first | exact h | exact h.elim⟩
theorem same_look {k k' : Wd → PW α} (h : ∀ w n, Same f (k w) (k' { w with ln := n })) : Same f (.look k) (.look k') := ⟨fun {L L'} hl i => by
  show RsR f ((k (wordAt wEnd L i)).run wEnd L i) ((k' (wordAt wEnd L' i)).run wEnd L' i)
  have e : wordAt wEnd L' i = { wordAt wEnd L i with ln := (wordAt wEnd L' i).ln } := by
    have := hl.go i
    generalize wordAt wEnd L' i = w' at this ⊢
    generalize wordAt wEnd L i = w at this ⊢
    cases w; cases w'
    simp only [strip, Wd.mk.injEq] at this ⊢
    obtain ⟨h1, h2, h3, h4, h5, _⟩ := this
    exact ⟨h1.symm, h2.symm, h3.symm, h4.symm, h5.symm, trivial⟩
  rw [e]
  exact (h (wordAt wEnd L i) _).go hl i⟩
theorem same_take {p q : PW α} (h : Same f p q) : Same f (.take p) (.take q) := ⟨fun hl i => h.go hl (i + 1)⟩
theorem same_ite {c : Prop} [Decidable c] {p q p' q' : PW α} (hp : Same f p p') (hq : Same f q q') : Same f (if c then p else q) (if c then p' else q') := by split; exact hp; exact hq
theorem same_may (s : Tx) : Same id (mayP s) (mayP s) := same_look fun w n => same_ite (same_take (same_ret rfl)) (same_ret rfl)
theorem same_mayif {s : Tx} {A B A' B' : PW α} (hA : Same f A A') (hB : Same f B B') : Same f ((mayP s).bind fun b => if b = true then A else B) ((mayP s).bind fun b => if b = true then A' else B') := same_bind (same_may s) fun a b h => by
  obtain rfl : a = b := h
  exact same_ite hA hB
theorem same_need : ∀ ts : List Tx, Same id (needP ts) (needP ts)
  | [] => same_ret rfl
  | s :: r => same_mayif (same_need r) same_bad
theorem same_needk {ts : List Tx} {k k' : Unit → PW α} (h : Same f (k ()) (k' ())) : Same f ((needP ts).bind k) ((needP ts).bind k') := same_bind (same_need ts) fun _ _ _ => h
theorem same_must (c : Bool) : Same strip (mustP c) (mustP c) := same_ite (same_look fun w n => same_take (same_ret rfl)) same_bad
theorem same_name : Same id nameP nameP := same_look fun w n => same_bind (same_must _) fun a b h => same_ret (by have := congrArg Wd.s h; exact this)
theorem same_whole : Same id wholeP wholeP := same_look fun w n => same_bind (same_must _) fun a b h => same_ret (by have := congrArg Wd.lo h; exact this)
theorem same_lit : Same id litP litP := same_look fun w n => same_bind (same_must _) fun a b h => same_ret (by have := congrArg (fun w : Wd => (w.w, w.hi, w.lo)) h; exact this)
theorem same_namek {k k' : Tx → PW α} (h : ∀ s, Same f (k s) (k' s)) : Same f (nameP.bind k) (nameP.bind k') := same_bind same_name fun a b e => by obtain rfl : a = b := e; exact h a
theorem same_wholek {k k' : Nat → PW α} (h : ∀ s, Same f (k s) (k' s)) : Same f (wholeP.bind k) (wholeP.bind k') := same_bind same_whole fun a b e => by obtain rfl : a = b := e; exact h a
theorem same_litk {k k' : N3 → PW α} (h : ∀ s, Same f (k s) (k' s)) : Same f (litP.bind k) (litP.bind k') := same_bind same_lit fun a b e => by obtain rfl : a = b := e; exact h a
theorem same_owner : Same id ownerP ownerP := same_mayif (same_ret rfl) same_name
theorem same_ownerk {k k' : Tx → PW α} (h : ∀ s, Same f (k s) (k' s)) : Same f (ownerP.bind k) (ownerP.bind k') := same_bind same_owner fun a b e => by obtain rfl : a = b := e; exact h a
theorem same_field : Same id fieldP fieldP := same_ownerk fun a => same_needk (same_namek fun b => same_ret rfl)
theorem same_fieldk {k k' : Tx × Tx → PW α} (h : ∀ s, Same f (k s) (k' s)) : Same f (fieldP.bind k) (fieldP.bind k') := same_bind same_field fun a b e => by obtain rfl : a = b := e; exact h a
theorem same_typed : Same id typedP typedP := same_namek fun a => same_wholek fun n => same_ret rfl
theorem eEx_mk {op lw lh ll : Nat} {nm fl : Tx} {n m : Nat} {args args' : List Ex} {ln ln' : Nat} (h : eExs args = eExs args') : eEx (.mk op lw lh ll nm fl n m args ln) = eEx (.mk op lw lh ll nm fl n m args' ln') := by rw [eEx, eEx, h]
theorem eExs_1 {x y : Ex} (h : eEx x = eEx y) : eExs [x] = eExs [y] := by rw [eExs, eExs, eExs, h, eExs]
theorem eExs_2 {x y x' y' : Ex} (h : eEx x = eEx x') (h' : eEx y = eEx y') : eExs [x, y] = eExs [x', y'] := by rw [eExs, eExs, eExs, eExs, eExs, h, h', eExs]
theorem same_ex : ∀ f : Nat, (∀ lv, Same eEx (exP f lv) (exP f lv)) ∧ (∀ lv l l' x x', eEx x = eEx x' → Same eEx (exL f lv l x) (exL f lv l' x')) ∧ (∀ l l' x x', eEx x = eEx x' → Same eEx (exS f l x) (exS f l' x')) ∧ (∀ e acc acc', eExs acc = eExs acc' → Same eExs (exR f e acc) (exR f e acc'))
  | 0 => ⟨fun lv => by rw [exP]; exact same_oof, fun lv l l' x x' h => by rw [exL, exL]; exact same_oof, fun l l' x x' h => by rw [exS, exS]; exact same_oof, fun e acc acc' h => by rw [exR, exR]; exact same_oof⟩
  | f + 1 => by
    obtain ⟨ih1, ih2, ih3, ih4⟩ := same_ex f
    refine ⟨fun lv => ?_, fun lv l l' x x' h => ?_, fun l l' x x' h => ?_, fun e acc acc' h => ?_⟩
    · rw [exP]
      refine same_ite (same_look fun w n => same_bind (ih1 _) fun a b h => ih2 _ _ _ _ _ h) (same_ite (same_look fun w n => same_mayif (same_bind (ih1 8) fun a b h => same_ret (eEx_mk (eExs_1 h))) (same_bind (ih1 9) fun a b h => ih3 _ _ _ _ h)) (same_look fun w n => same_ite (same_litk fun l => same_ret (eEx_mk rfl)) ?_))
      refine same_mayif (same_namek fun s => same_ret (eEx_mk rfl)) ?_
      refine same_mayif (same_wholek fun n => same_needk (same_bind (ih1 0) fun a b h => same_needk (same_ret (eEx_mk (eExs_1 h))))) ?_
      refine same_mayif (same_namek fun s => same_needk (same_bind (ih4 _ _ _ rfl) fun a b h => same_ret (eEx_mk h))) ?_
      refine same_mayif (same_bind (ih1 0) fun a b h => same_needk (same_ret h)) ?_
      refine same_ownerk fun s => same_ite (same_needk (same_namek fun t => same_ret (eEx_mk rfl))) ?_
      exact same_mayif (same_namek fun t => same_ret (eEx_mk rfl)) (same_ret (eEx_mk rfl))
    · rw [exL, exL]
      refine same_look fun w n => ?_
      show Same eEx (match twoOf w.s with | none => Pr.ret x | some (op, b) => if w.k = 4 ∧ b = lv then .take ((exP f (lv + 1)).bind fun y => if lv = 2 then .ret (exUn op [x, y] l) else exL f lv l (exUn op [x, y] l)) else .ret x) (match twoOf w.s with | none => Pr.ret x' | some (op, b) => if w.k = 4 ∧ b = lv then .take ((exP f (lv + 1)).bind fun y => if lv = 2 then .ret (exUn op [x', y] l') else exL f lv l' (exUn op [x', y] l')) else .ret x')
      cases twoOf w.s with
      | none => exact same_ret h
      | some p =>
        obtain ⟨op, b⟩ := p
        exact same_ite (same_take (same_bind (ih1 _) fun y y' hy => same_ite (same_ret (eEx_mk (eExs_2 h hy))) (ih2 _ _ _ _ _ (eEx_mk (eExs_2 h hy))))) (same_ret h)
    · rw [exS, exS]
      exact same_mayif (same_wholek fun n => same_needk (same_wholek fun m => same_needk (ih3 _ _ _ _ (eEx_mk (eExs_1 h))))) (same_ret h)
    · rw [exR, exR]
      have hs : ∀ a b, eEx a = eEx b → eExs (acc ++ [a]) = eExs (acc' ++ [b]) := fun a b e => by rw [eExs_snoc, eExs_snoc, h, e]
      exact same_bind (ih1 0) fun a b e => same_mayif (ih4 _ _ _ (hs a b e)) (same_needk (same_ret (hs a b e)))
theorem same_exp (f : Nat) : Same eEx (exP f 0) (exP f 0) := (same_ex f).1 0
theorem same_index (f : Nat) : Same eEx (indexP f) (indexP f) := same_needk (same_bind (same_exp f) fun a b h => same_needk (same_ret h))
theorem eSm_mk {k : Nat} {a b c : Tx} {n : Nat} {args args' : List Ex} {bd bd' el el' : List Sm} {ln ln' : Nat} (h1 : eExs args = eExs args') (h2 : eSms bd = eSms bd') (h3 : eSms el = eSms el') : eSm (.mk k a b c n args bd el ln) = eSm (.mk k a b c n args' bd' el' ln') := by rw [eSm, eSm, h1, h2, h3]
theorem same_semi {x y : Sm} (h : eSm x = eSm y) : Same eSm (semi x) (semi y) := same_needk (same_ret h)
theorem same_form (f kind ln ln' : Nat) : ∀ form, Same eSm (formK f kind ln form) (formK f kind ln' form)
  | 0 => same_namek fun s => same_semi (eSm_mk rfl rfl rfl)
  | 1 => same_namek fun s => same_bind (same_index f) fun a b h => same_semi (eSm_mk (eExs_1 h) rfl rfl)
  | 2 => same_fieldk fun p => same_needk (same_namek fun a => same_bind (same_index f) fun a b h => same_semi (eSm_mk (eExs_1 h) rfl rfl))
  | 3 => same_namek fun s => same_bind (same_index f) fun a b h => same_needk (same_bind (same_exp f) fun c d h' => same_semi (eSm_mk (eExs_2 h h') rfl rfl))
  | 4 => same_fieldk fun p => same_semi (eSm_mk rfl rfl rfl)
  | 5 => same_semi (eSm_mk rfl rfl rfl)
  | n + 6 => same_wholek fun n => same_semi (eSm_mk rfl rfl rfl)
theorem same_set (f : Nat) (w : Wd) (n : Nat) (s : Tx) : Same eSm (setK f w s) (setK f { w with ln := n } s) := same_needk (same_namek fun t => same_needk (same_bind (same_exp f) fun a b h => same_semi (eSm_mk (eExs_1 h) rfl rfl)))
theorem same_sm : ∀ f : Nat, Same eSm (smP f) (smP f) ∧ Same eSms (blP f) (blP f) ∧ ∀ acc acc', eSms acc = eSms acc' → Same eSms (smsP f acc) (smsP f acc')
  | 0 => ⟨by rw [smP]; exact same_oof, by rw [blP]; exact same_oof, fun acc acc' h => by rw [smsP, smsP]; exact same_oof⟩
  | f + 1 => by
    obtain ⟨ih1, ih2, ih3⟩ := same_sm f
    refine ⟨?_, ?_, fun acc acc' h => ?_⟩
    · rw [smP_eq]
      refine same_look fun w n => ?_
      unfold stK
      show Same eSm (match (if w.k = 1 then simpleOf w.s else none) with | some (kind, form) => Pr.take (formK f kind w.ln form) | none => restK f w) (match (if w.k = 1 then simpleOf w.s else none) with | some (kind, form) => Pr.take (formK f kind n form) | none => restK f { w with ln := n })
      cases (if w.k = 1 then simpleOf w.s else none) with
      | some p => obtain ⟨kind, form⟩ := p; exact same_take (same_form f kind _ _ form)
      | none =>
        show Same eSm (restK f w) (restK f { w with ln := n })
        unfold restK
        refine same_mayif (same_bind (same_exp f) fun a b h => same_bind ih2 fun l l' h' => same_mayif (same_bind ih2 fun m m' h2 => same_ret (eSm_mk (eExs_1 h) h' h2)) (same_ret (eSm_mk (eExs_1 h) h' rfl))) ?_
        refine same_mayif (same_bind ((same_ex f).2.2.2 _ _ _ rfl) fun a b h => same_ret (eSm_mk h rfl rfl)) ?_
        refine same_ownerk fun s => same_ite (same_set f w n s) (same_mayif ?_ (same_set f w n s))
        exact same_bind (f := eExs) (same_mayif (same_ret rfl) ((same_ex f).2.2.2 _ _ _ rfl)) fun a b h => same_semi (eSm_mk h rfl rfl)
    · rw [blP]; exact same_needk (ih3 _ _ rfl)
    · rw [smsP, smsP]
      exact same_mayif (same_ret h) (same_bind ih1 fun a b e => ih3 _ _ (by rw [eSms_snoc, eSms_snoc, h, e]))
theorem map_snoc_eq {α β : Type} {g : α → β} {l l' : List α} {a b : α} (h : l.map g = l'.map g) (e : g a = g b) : (l ++ [a]).map g = (l' ++ [b]).map g := by rw [List.map_append, List.map_append, h, List.map_cons, List.map_cons, e]
theorem same_each {p : PW α} (hp : Same f p p) : ∀ (n : Nat) (acc acc' : List α), acc.map f = acc'.map f → Same (List.map f) (eachP p n acc) (eachP p n acc')
  | 0, acc, acc', h => same_oof
  | n + 1, acc, acc', h => same_mayif (same_ret h) (same_bind hp fun a b e => same_each hp n _ _ (map_snoc_eq h e))
theorem same_some {p : PW α} (hp : Same f p p) (e : Tx) : ∀ (n : Nat) (acc acc' : List α), acc.map f = acc'.map f → Same (List.map f) (someP p e n acc) (someP p e n acc')
  | 0, acc, acc', h => same_oof
  | n + 1, acc, acc', h => same_bind hp fun a b e' => same_mayif (same_some hp e n _ _ (map_snoc_eq h e')) (same_needk (same_ret (map_snoc_eq h e')))
theorem same_row {p : PW α} (hp : Same f p p) (e : Tx) (n : Nat) : Same (List.map f) (rowP p e n) (rowP p e n) := same_mayif (same_ret rfl) (same_some hp e n _ _ rfl)
theorem same_ended {p : PW α} (hp : Same f p p) : Same f (endedP p) (endedP p) := same_bind hp fun a b e => same_needk (same_ret e)
theorem map_id_eq {l l' : List α} (h : l.map id = l'.map id) : l = l' := by rwa [List.map_id, List.map_id] at h
theorem same_kase : Same id kaseP kaseP := same_litk fun v => same_bind (same_may _) fun b b' h => by
  obtain rfl : b = b' := h
  exact same_bind (f := id) (same_ite same_lit (same_ret rfl)) fun m m' h => by
    obtain rfl : m = m' := h
    exact same_needk (same_namek fun t => same_needk (same_ret rfl))
theorem same_takes : ∀ (n : Nat) (acc : List Tx), Same id (takesP n acc) (takesP n acc)
  | 0, acc => same_oof
  | n + 1, acc => same_mayif (same_namek fun s => same_needk (same_takes n _)) (same_ret rfl)
theorem same_cases : ∀ (n : Nat) (acc : List Cs), Same id (casesP n acc) (casesP n acc)
  | 0, acc => same_oof
  | n + 1, acc => same_look fun w k => same_ite (same_bind same_kase fun a b h => by obtain rfl : a = b := h; exact same_cases n _) (same_ret rfl)
theorem same_names : ∀ (n : Nat) (acc : List Tx), Same id (namesP n acc) (namesP n acc)
  | 0, acc => same_oof
  | n + 1, acc => same_mayif (same_ret rfl) (same_namek fun s => same_names n _)
theorem same_kind : ∀ l : List (Tx × Nat), Same id (kindP l) (kindP l)
  | [] => same_bad
  | p :: r => same_mayif (same_ret rfl) (same_kind r)
theorem same_state (n : Nat) : Same eSt (stateP n) (stateP n) := by
  rw [stateP_eq]
  refine same_look fun w k => same_namek fun s => same_needk (same_bind (same_takes n []) fun hs hs' h => ?_)
  obtain rfl : hs = hs' := h
  refine same_mayif (same_bind (same_exp n) fun a b h => same_needk (same_bind (same_cases n []) fun cs cs' h2 => ?_)) (same_needk (same_namek fun t => same_needk (same_ret rfl)))
  obtain rfl : cs = cs' := h2
  refine same_needk (same_namek fun t => same_needk (same_ret ?_))
  simp only [eSt, eExs_1 h]
theorem same_key (n : Nat) : Same eKd (keyP n) (keyP n) := same_bind (same_exp n) fun a b h => same_bind (same_kind _) fun k k' h' => by
  obtain rfl : k = k' := h'
  exact same_ret (by simp only [eKd, h])
theorem same_fieldsk {n : Nat} {k k' : List (Tx × Nat) → PW α} (h : ∀ s, Same f (k s) (k' s)) : Same f ((fieldsP n).bind k) ((fieldsP n).bind k') := same_bind (f := List.map id) (same_needk (same_each (same_ended same_typed) n _ _ rfl)) fun a b e => by obtain rfl := map_id_eq e; exact h a
theorem same_on (n ln ln' : Nat) : ∀ k : Nat, Same eDc (onP n ln k) (onP n ln' k)
  | 0 => same_bad
  | 1 => same_namek fun s => same_fieldsk fun l => same_ret rfl
  | 2 => same_fieldsk fun l => same_ret rfl
  | 3 => same_namek fun s => same_wholek fun w => same_wholek fun m => same_needk (same_ret rfl)
  | 4 => same_namek fun s => same_wholek fun m => same_needk (same_ret rfl)
  | 5 => same_namek fun s => same_wholek fun m => same_wholek fun r => same_wholek fun u => same_needk (same_ret rfl)
  | 6 => same_needk (same_bind (same_each (same_state n) n _ _ rfl) fun a b h => same_ret (by simp only [eDc, dc0, h]))
  | 7 => same_namek fun s => same_needk (same_bind (same_row same_typed _ n) fun l l' h => by
      obtain rfl := map_id_eq h
      exact same_bind (same_sm n).2.1 fun a b h => same_ret (by simp only [eDc, dc0, h]))
  | 8 => same_namek fun s => same_needk (same_bind (same_each (same_ended (same_key n)) n _ _ rfl) fun ks ks' hk => same_needk (same_namek fun a => same_bind (same_names n _) fun al al' ha => by
      obtain rfl : al = al' := ha
      exact same_needk (same_namek fun d => same_needk (same_bind (same_row same_lit _ n) fun l l' h => by
        obtain rfl := map_id_eq h
        exact same_needk (same_wholek fun m => same_needk (same_ret (by simp only [eDc, dc0, hk])))))))
  | 9 => same_bind (same_sm n).2.1 fun a b h => same_ret (by simp only [eDc, dc0, h])
  | 10 => same_needk (same_bind (same_each (same_ended same_name) n _ _ rfl) fun a b h => by obtain rfl := map_id_eq h; exact same_ret rfl)
  | _ + 11 => same_bad
theorem same_decl (n : Nat) : Same eDc (declP n) (declP n) := same_look fun w k => same_bind (same_must _) fun _ _ _ => same_on n _ _ _
theorem same_prog : ∀ (n : Nat) (acc acc' : List Dc), acc.map eDc = acc'.map eDc → Same (List.map eDc) (progP n acc) (progP n acc')
  | 0, acc, acc', h => same_oof
  | n + 1, acc, acc', h => same_look fun w k => same_ite (same_ret h) (same_bind (same_decl n) fun a b e => same_prog n _ _ (map_snoc_eq h e))
theorem bad_le {α : Type} (L : List Wd) : ∀ (p : PW α) (i j : Nat), p.run wEnd L i = .bad j → i ≤ j
  | .ret a, i, j, h => by cases h
  | .bad, i, j, h => by cases h; exact Nat.le_refl _
  | .oof, i, j, h => by cases h
  | .look f, i, j, h => bad_le L (f (wordAt wEnd L i)) i j h
  | .take p, i, j, h => Nat.le_of_succ_le (bad_le L p (i + 1) j h)
def linesT : List Wd → Tx
  | [] => []
  | x :: l => (told x ++ [10]) ++ linesT l
def numb : Nat → List Wd → List Wd
  | _, [] => []
  | n, x :: l => { x with ln := n } :: numb (n + 1) l
theorem numb_at : ∀ (l : List Wd) (n q : Nat), (numb n l)[q]? = (l[q]?).map fun x => { x with ln := n + q }
  | [], n, q => by simp [numb]
  | x :: l, n, 0 => rfl
  | x :: l, n, q + 1 => by
    rw [numb, List.getElem?_cons_succ, List.getElem?_cons_succ, numb_at l (n + 1) q, show n + 1 + q = n + (q + 1) from by omega]
theorem W_nl (r : Tx) (n : Nat) : W (10 :: r) n = W r (n + 1) := W_skip (by rw [skip, if_pos rfl])
theorem app_cons (x : Wd) (l : List Wd) (r : Nat ⊕ List Wd) : words_app (x :: l) r = (match words_app l r with | .inl e => .inl e | .inr l => .inr (x :: l)) := by cases r <;> rfl
theorem W_linesR (rest : Tx) : ∀ {l : List Wd}, Row l → ∀ m, W (linesT l ++ rest) m = words_app (numb m l) (W rest (m + l.length))
  | [], _, m => by
    show W rest m = words_app [] (W rest m)
    cases W rest m <;> rfl
  | _ :: l, .cons (x := x) (k := k) hw hr, m => by
    obtain ⟨h1, h2, h3, h4, _⟩ := word_told hw
    have ih := W_linesR rest hr (m + 1)
    have he : EndsS (10 :: (linesT l ++ rest)) := .inr (.inr ⟨_, rfl⟩)
    rw [linesT, told_ln, List.append_assoc, List.append_assoc]
    show W (told x ++ (10 :: (linesT l ++ rest))) m = _
    rw [W_word m h3 (h4 _ he), W_nl, ih, List.length_cons, show m + (l.length + 1) = m + 1 + l.length from by omega, numb, app_cons]
    rfl
theorem W_linesL {l : List Wd} (h : Row l) : W (linesT l) 0 = .inr (numb 0 l) := by
  have := W_linesR [] h 0
  rw [List.append_nil] at this
  rw [this, W_nil (by rfl)]
  show Sum.inr (numb 0 l ++ []) = _
  rw [List.append_nil]
theorem lines_snoc (x : Wd) : ∀ l : List Wd, linesT (l ++ [x]) = (linesT l ++ told x) ++ [10]
  | [] => by simp [linesT]
  | y :: l => by rw [List.cons_append, linesT, linesT, lines_snoc x l]; simp
theorem lines_take {l : List Wd} {i : Nat} {x : Wd} (h : l[i]? = some x) : linesT (l.take (i + 1)) = (linesT (l.take i) ++ told x) ++ [10] := by
  rw [List.take_add_one, h]; exact lines_snoc x _
theorem like_numb (L : List Wd) : Like L (numb 0 L) := ⟨fun i => by
  unfold wordAt
  rw [numb_at]
  cases L[i]? <;> rfl⟩
theorem parse_words_is {s : Tx} {L : List Wd} (h : W s 0 = .inr L) (hs : s.length ≤ 65536) : parseS s = parseR L ((progP 786433 []).run wEnd L 0) := by
  unfold parseS
  rw [if_neg (by omega), h]; rfl
theorem W_told : ∀ (f : Nat) (s : List UInt8) (n : Nat) (l : List Wd), s.length < f → W s n = .inr l → ∀ x ∈ l, (told x).length ≤ s.length
  | f + 1, s, n, l, hf, h => by
    have hl := skip_le false s n
    rw [W_eq] at h
    split at h
    · cases h; simp
    · rename_i c r hs
      rw [hs] at hl
      split at h
      · cases h
      · rename_i x t hw
        have hlt := word_lt hw
        obtain ⟨ht, _, _⟩ := word_told hw
        have hln := congrArg List.length ht
        rw [List.length_append] at hln
        split at h
        · cases h
        · rename_i l' hl'
          cases h
          intro y hy
          rcases List.mem_cons.mp hy with rfl | hy
          · rw [told_ln]; omega
          · have := W_told f t _ l' (by omega) hl' y hy; omega
end Go.Proofs.YtogodijfdkffaaaGreatDoor.Ln

/- Trees in memory of their own: each block is used once. No program. -/
namespace Go.Ab
open Go Go.RowKit
mutual
/-- Data in blocks of its own, each used once; every list may be written to. -/
inductive Lin (w : World) : D → Value → List Nat → Prop
  | sc (v : Value) : Lin w (.sc v) v []
  | agg {l : List D} {cs : List Value} {F : List Nat} : LinL w l cs F → Lin w (.agg l) (.agg ⟨cs⟩) F
  | list {es b o cap : Nat} {l : List D} {F : List Nat} {cs : Array Value} {ty : TypeId} {vs : List Value} : l.length ≤ cap ∧ l.length ≤ 1099511627776 ∧ o + cap * es ≤ cs.size → w.heap[b]? = some (.cells cs ty (0, 0)) → (∀ q ∈ l, q.cells.length = es) → LinL w (flat l) vs F →
      (∀ v ∈ vs, v.oneCell' = true) → (∀ (k : Nat) v, vs[k]? = some v → cs[o + k]? = some v) → b ∉ F → Lin w (.list es l) (.slice (some ⟨b, o, none⟩) l.length cap) (b :: F)
inductive LinL (w : World) : List D → List Value → List Nat → Prop
  | nil : LinL w [] [] []
  | cons {d : D} {v : Value} {l : List D} {vs : List Value} {F F' : List Nat} : Lin w d v F → LinL w l vs F' → (∀ b ∈ F, b ∉ F') → LinL w (d :: l) (v :: vs) (F ++ F')
end
mutual
theorem Lin.keep {w w' : World} : {d : D} → {v : Value} → {F : List Nat} → (∀ b ∈ F, w'.heap[b]? = w.heap[b]?) → Lin w d v F → Lin w' d v F
  | _, _, _, _, .sc v => .sc v
  | _, _, _, h, .agg hl => .agg (LinL.keep h hl)
  | _, _, _, h, .list hc hb hn hl h1 hv hbn => .list hc ((h _ (by simp)).trans hb) hn (LinL.keep (fun b hb => h b (by simp [hb])) hl) h1 hv hbn
theorem LinL.keep {w w' : World} : {l : List D} → {vs : List Value} → {F : List Nat} → (∀ b ∈ F, w'.heap[b]? = w.heap[b]?) → LinL w l vs F → LinL w' l vs F
  | _, _, _, _, .nil => .nil
  | _, _, _, h, .cons hd hl hx => .cons (Lin.keep (fun b hb => h b (List.mem_append_left _ hb)) hd) (LinL.keep (fun b hb => h b (List.mem_append_right _ hb)) hl) hx
end
mutual
theorem Lin.lt {w : World} : {d : D} → {v : Value} → {F : List Nat} → Lin w d v F → ∀ b ∈ F, b < w.heap.size
  | _, _, _, .sc v => fun b hb => by simp at hb
  | _, _, _, .agg hl => LinL.lt hl
  | _, _, _, .list hc hb hn hl h1 hv hbn => fun b hb' => by
    rcases List.mem_cons.1 hb' with rfl | h
    · exact lt_of_block hb
    · exact LinL.lt hl b h
theorem LinL.lt {w : World} : {l : List D} → {vs : List Value} → {F : List Nat} → LinL w l vs F → ∀ b ∈ F, b < w.heap.size
  | _, _, _, .nil => fun b hb => by simp at hb
  | _, _, _, .cons hd hl hx => fun b hb => (List.mem_append.1 hb).elim (Lin.lt hd b) (LinL.lt hl b)
end
def Stab.of (w : World) (F : List Nat) : Stab := fun b o => if b ∈ F then w.cell? ⟨b, o, none⟩ else none
theorem Stab.of_le {w : World} {F F' : List Nat} (h : ∀ b ∈ F, b ∈ F') : (Stab.of w F).le (Stab.of w F') := fun b o v hv => by
  unfold Stab.of at hv ⊢
  split at hv
  · rename_i hb; rw [if_pos (h b hb)]; exact hv
  · cases hv
mutual
theorem Lin.rel {w : World} : {d : D} → {v : Value} → {F : List Nat} → Lin w d v F → Rel (Stab.of w F) d v
  | _, _, _, .sc v => .sc v
  | _, _, _, .agg hl => .agg (LinL.rel hl)
  | _, _, _, .list (b := b) (o := o) (F := F) hc hb hn hl h1 hv hbn => by
    refine .list hc.1 (relE_of hn (relP_of (RelL.mono (Stab.of_le fun b hb => by simp [hb]) (LinL.rel hl)) fun k u hk => ?_))
    unfold Stab.of
    rw [if_pos (by simp), cell_of_block hb]
    exact hv k u hk
theorem LinL.rel {w : World} : {l : List D} → {vs : List Value} → {F : List Nat} → LinL w l vs F → RelL (Stab.of w F) l vs
  | _, _, _, .nil => .nil
  | _, _, _, .cons hd hl hx => .cons (Rel.mono (Stab.of_le fun b hb => List.mem_append_left _ hb) (Lin.rel hd)) (RelL.mono (Stab.of_le fun b hb => List.mem_append_right _ hb) (LinL.rel hl))
end
theorem LinL.length {w : World} : ∀ {l : List D} {vs : List Value} {F : List Nat}, LinL w l vs F → l.length = vs.length
  | _, _, _, .nil => rfl
  | _, _, _, .cons _ hl _ => by simp [LinL.length hl]
theorem LinL.append {w : World} : ∀ {l l' : List D} {vs vs' : List Value} {F F' : List Nat}, LinL w l vs F → LinL w l' vs' F' → (∀ b ∈ F, b ∉ F') → LinL w (l ++ l') (vs ++ vs') (F ++ F')
  | [], _, _, _, _, _, .nil, h', _ => h'
  | _ :: _, _, _, _, _, _, .cons hd hl hx, h', hd' => by
    have ih := LinL.append hl h' (fun b hb => hd' b (List.mem_append_right _ hb))
    have := LinL.cons hd ih (fun b hb c => (List.mem_append.1 c).elim (hx b hb) (hd' b (List.mem_append_left _ hb)))
    simpa using this
theorem LinL.scs {w : World} : ∀ vs : List Value, LinL w (vs.map .sc) vs []
  | [] => .nil
  | v :: vs => by simpa using LinL.cons (.sc v) (LinL.scs vs) (by simp)
theorem LinL.focus {w : World} : ∀ {l : List D} {vs : List Value} {F : List Nat} {k : Nat} {d : D}, LinL w l vs F → l[k]? = some d →
    ∃ v F1, vs[k]? = some v ∧ Lin w d v F1 ∧ (∀ b ∈ F1, b ∈ F) ∧ ∀ (w' : World) (d' : D) (v' : Value), (∀ b ∈ F, b ∉ F1 → w'.heap[b]? = w.heap[b]?) → Lin w' d' v' F1 → LinL w' (l.set k d') (vs.set k v') F
  | _, _, _, k, d, .nil, hk => by simp at hk
  | _, _, _, 0, d, .cons (v := v) (F := F) (F' := F') hd hl hx, hk => by
    simp at hk; subst hk
    refine ⟨v, F, rfl, hd, fun b hb => List.mem_append_left _ hb, fun w' d' v' hs hn => ?_⟩
    exact .cons hn (hl.keep fun b hb => hs b (List.mem_append_right _ hb) fun c => hx b c hb) hx
  | _, _, _, k + 1, d, .cons (v := v) (F := F) (F' := F') hd hl hx, hk => by
    obtain ⟨v1, F1, h1, h2, h3, h4⟩ := LinL.focus hl (by simpa using hk)
    refine ⟨v1, F1, by simpa using h1, h2, fun b hb => List.mem_append_right _ (h3 b hb), fun w' d' v' hs hn => ?_⟩
    exact .cons (hd.keep fun b hb => hs b (List.mem_append_left _ hb) fun c => hx b hb (h3 b c)) (h4 w' d' v' (fun b hb hc => hs b (List.mem_append_right _ hb) hc) hn) hx
theorem flat_get {es : Nat} : ∀ {l : List D} {i k : Nat} {c : List D}, (∀ q ∈ l, q.cells.length = es) → l[i]? = some (.agg c) → k < es → (flat l)[i * es + k]? = c[k]?
  | [], i, k, c, _, h, _ => by simp at h
  | x :: l, 0, k, c, hn, h, hk => by
    simp at h; subst h
    have : c.length = es := hn (.agg c) (by simp)
    rw [show flat (.agg c :: l) = c ++ flat l from by simp [flat, D.cells], Nat.zero_mul, Nat.zero_add, List.getElem?_append_left (by omega)]
  | x :: l, i + 1, k, c, hn, h, hk => by
    have hx : x.cells.length = es := hn x (by simp)
    have ih := flat_get (k := k) (l := l) (fun q hq => hn q (List.mem_cons_of_mem _ hq)) (by simpa using h) hk
    rw [show flat (x :: l) = x.cells ++ flat l from by simp [flat], List.getElem?_append_right (by rw [hx, Nat.add_mul]; omega), hx, show (i + 1) * es + k - es = i * es + k from by rw [Nat.add_mul]; omega]
    exact ih
theorem flat_set {es : Nat} : ∀ {l : List D} {i k : Nat} {c : List D} {d : D}, (∀ q ∈ l, q.cells.length = es) → l[i]? = some (.agg c) → k < es → flat (l.set i (.agg (c.set k d))) = (flat l).set (i * es + k) d
  | [], i, k, c, d, _, h, _ => by simp at h
  | x :: l, 0, k, c, d, hn, h, hk => by
    simp at h; subst h
    have : c.length = es := hn (.agg c) (by simp)
    rw [show flat (.agg c :: l) = c ++ flat l from by simp [flat, D.cells], Nat.zero_mul, Nat.zero_add, List.set_append_left _ _ (by omega)]
    simp [flat, D.cells]
  | x :: l, i + 1, k, c, d, hn, h, hk => by
    have hx : x.cells.length = es := hn x (by simp)
    have ih := flat_set (d := d) (l := l) (fun q hq => hn q (List.mem_cons_of_mem _ hq)) (by simpa using h) hk
    rw [show flat (x :: l) = x.cells ++ flat l from by simp [flat], List.set_append_right _ _ (by rw [hx, Nat.add_mul]; omega), hx, show (i + 1) * es + k - es = i * es + k from by rw [Nat.add_mul]; omega, ← ih]
    simp [flat]
theorem Lin.cellAt {w : World} {es i k : Nat} {l : List D} {u : Value} {F : List Nat} {c : List D} {d : D} (h : Lin w (.list es l) u F) (hi : l[i]? = some (.agg c)) (hk : c[k]? = some d) :
    ∃ b o cap cs ty v F1, u = .slice (some ⟨b, o, none⟩) l.length cap ∧ w.heap[b]? = some (.cells cs ty (0, 0)) ∧ cs[o + i * es + k]? = some v ∧ Lin w d v F1 ∧ b ∈ F ∧ b ∉ F1 ∧ (∀ x ∈ F1, x ∈ F) ∧ c.length = es ∧ v.oneCell' = true ∧
      (∀ (w' : World) (d' : D), (∀ x ∈ F, x ∉ F1 → w'.heap[x]? = w.heap[x]?) → Lin w' d' v F1 → Lin w' (.list es (l.set i (.agg (c.set k d')))) u F) ∧
      ∀ (w' : World) (v' : Value), v'.oneCell' = true → F1 = [] → (∀ x ∈ F, x ≠ b → w'.heap[x]? = w.heap[x]?) → w'.heap[b]? = some (.cells (cs.setIfInBounds (o + i * es + k) v') ty (0, 0)) → Lin w' (.list es (l.set i (.agg (c.set k (.sc v'))))) u F := by
  cases h with
  | list hc hb hn hl h1 hv hbn =>
    rename_i b o cap F cs ty vs
    have hce : c.length = es := hn (.agg c) (List.mem_of_getElem? hi)
    have hke : k < es := by have := (List.getElem?_eq_some_iff.1 hk).1; omega
    have hg := flat_get hn hi hke
    obtain ⟨v, F1, q1, q2, q3, q4⟩ := hl.focus (hg.trans hk)
    have hn' : ∀ (d' : D), ∀ q ∈ l.set i (.agg (c.set k d')), q.cells.length = es := fun d' q hq => by
      rcases List.mem_or_eq_of_mem_set hq with h | rfl
      · exact hn q h
      · simpa [D.cells] using hce
    have hq1 := hv _ _ q1
    rw [← Nat.add_assoc] at hq1
    refine ⟨b, o, cap, cs, ty, v, F1, rfl, hb, hq1, q2, by simp, fun c => hbn (q3 b c), fun x hx => by simp [q3 x hx], hce, h1 v (List.mem_of_getElem? q1), fun w' d' hs hL => ?_, fun w' v' ho hF hs hbw => ?_⟩
    · have q5 := q4 w' d' v (fun x hx hx1 => hs x (by simp [hx]) hx1) hL
      have hset : vs.set (i * es + k) v = vs := by
        rw [List.getElem?_eq_some_iff] at q1
        obtain ⟨e1, e2⟩ := q1
        rw [← e2]; exact List.set_getElem_self e1
      rw [hset] at q5
      have := Lin.list (cap := cap) (o := o) (by simpa using hc) ((hs b (by simp) (fun c => hbn (q3 b c))).trans hb) (hn' d') (by rw [flat_set hn hi hke]; exact q5) h1 hv hbn
      simpa using this
    · subst hF
      have q5 := q4 w' (.sc v') v' (fun x hx _ => hs x (by simp [hx]) (fun e => hbn (e ▸ hx))) (.sc v')
      have hlt := (List.getElem?_eq_some_iff.1 q1).1
      have := Lin.list (cap := cap) (o := o) (l := l.set i (.agg (c.set k (.sc v')))) (by simpa using hc) hbw (hn' _) (by rw [flat_set hn hi hke]; exact q5) (fun x hx => by
        rcases List.mem_or_eq_of_mem_set hx with h | rfl
        · exact h1 x h
        · exact ho) (fun j x hj => by
        rw [List.getElem?_set] at hj
        by_cases hjk : i * es + k = j
        · subst hjk
          rw [if_pos rfl, if_pos hlt] at hj
          obtain rfl := Option.some.inj hj
          have hlt2 := (Array.getElem?_eq_some_iff.1 hq1).1
          rw [← Nat.add_assoc, Array.getElem?_setIfInBounds_self_of_lt hlt2]
        · rw [if_neg hjk] at hj
          rw [Array.getElem?_setIfInBounds_ne (by omega)]
          exact hv j x hj) hbn
      simpa using this
end Go.Ab

/- Walks over plain values: what is known of the world is told beside the walk, which begins anew at every world. No program. -/
namespace Go.Ab
open Go Go.RowKit
variable {P : Program} {E : Env} {st : St} {G : Gh} {a : Act} {w : World} {Q : Exit → Act → World → Prop} {K : Act → World → Prop}
variable {d : Nat} {ty : TypeId} {pos : String} {af : Array Edge} {g : Option (Nat × Bool)} {x y z : Operand}
def RE (N : Nat) (S : Stab) (w : World) : Env := ⟨w, [], [], S, N, fun _ => True, fun _ _ => trivial, #[]⟩
def S0 : Stab := fun _ _ => none
def Stands (S : Stab) (w : World) : Prop := ∀ b o v, S b o = some v → w.cell? ⟨b, o, none⟩ = some v
theorem stands0 (w : World) : Stands S0 w := fun b o v h => by cases h
theorem Stands.below {S : Stab} {w w' : World} (h : Stands S w) (hb : Below w.heap.size w w') : Stands S w' := fun b o v hv => by
  have := h b o v hv
  rw [← this]; exact hb.cell (lt_of_cell this)
def St.slotsOnly (st : St) : Bool := st.all fun e => match e with
  | (.slot _, _) => true
  | (_, none) => true
  | _ => false
def St.raw (st : St) : Bool := st.all fun e => match e with
  | (.slot _, some (.d (.sc _))) => true
  | (_, none) => true
  | _ => false
theorem raw_slots : ∀ {st : St}, st.raw = true → st.slotsOnly = true := by
  intro st h
  unfold St.raw at h; unfold St.slotsOnly
  rw [List.all_eq_true] at h ⊢
  intro e he
  have := h e he
  revert this
  obtain ⟨l, v⟩ := e
  cases l <;> cases v <;> simp
theorem slots_look {st : St} (h : st.slotsOnly = true) {l : Loc} (hl : ∀ t, l ≠ .slot t) : look st l = none := by
  induction st with
  | nil => rfl
  | cons e r ih =>
    simp only [St.slotsOnly, List.all_cons, Bool.and_eq_true] at h
    rw [look_cons]
    split
    · rename_i he
      obtain ⟨k, v⟩ := e
      simp only at he
      subst he
      cases k with
      | slot t => exact absurd rfl (hl t)
      | _ => cases v with
        | none => rfl
        | some v => simp at h
    · exact ih h.2
theorem raw_look {st : St} (h : st.raw = true) {t : Nat} {v : V} (hl : look st (.slot t) = some v) : ∃ u, v = .d (.sc u) := by
  induction st with
  | nil => cases hl
  | cons e r ih =>
    simp only [St.raw, List.all_cons, Bool.and_eq_true] at h
    rw [look_cons] at hl
    split at hl
    · rename_i he
      obtain ⟨k, x⟩ := e
      simp only at he hl
      subst he
      subst hl
      cases v with
      | d q => cases q with
        | sc u => exact ⟨u, rfl⟩
        | _ => simp at h
      | _ => simp at h
    · exact ih h.2 hl
theorem Sim.base (s : Sim E st G a w) (hso : st.slotsOnly = true) {S : Stab} {w' : World} (hs : Stands S w') (hr : ∀ t v, look st (.slot t) = some v → RelV { G with S := S } v (a.tmps.getD t undef)) :
    Sim (RE E.N S w') st { G with S := S } a w' := by
  have no : ∀ {l : Loc}, (∀ t, l ≠ .slot t) → look st l = none := fun hl => slots_look hso hl
  refine ⟨⟨rfl, rfl, rfl, Nat.le_refl _, fun _ _ _ => rfl⟩, Stab.le.refl _, fun _ _ _ e => .inl e, s.tmps, s.defers, hr, fun i o v hv => ?_, fun i hi => ?_, fun i j hi => ?_, hs, fun i hi => ?_, fun i j hi => ?_, fun p hp => (List.not_mem_nil hp).elim, fun i qv l hl => ?_, fun i v hl => ?_, fun k v hl => ?_⟩
  · rw [no (by simp)] at hv; cases hv
  · exact absurd (no (by simp)) hi
  · exact absurd (no (by simp)) hi
  · exact absurd (no (by simp)) hi
  · exact absurd (no (by simp)) hi
  · rw [no (by simp)] at hl; cases hl
  · rw [no (by simp)] at hl; cases hl
  · rw [no (by simp)] at hl; cases hl
theorem Sim.raw0 (s : Sim E st G a w) (hr : st.raw = true) (w' : World) : Sim (RE E.N S0 w') st { G with S := S0 } a w' :=
  s.base (raw_slots hr) (stands0 _) fun t v hl => by
    obtain ⟨u, rfl⟩ := raw_look hr hl
    have h1 : Rel G.S (.sc u) (a.tmps.getD t undef) := s.slots t _ hl
    have h2 := rel_sc h1
    show Rel S0 (.sc u) _
    rw [h2]; exact .sc _
theorem Sim.anew (s : Sim E st G a w) (hso : st.slotsOnly = true) : Sim (RE E.N G.S w) st G a w := s.base (S := G.S) hso (fun b o v h => s.stable b o v h) fun t v hl => s.slots t v hl
theorem RE.below {N : Nat} {S : Stab} {w0 : World} (s : Sim (RE N S w0) st G a w) : Below w0.heap.size w0 w := KW.toBelow s.kw
variable {N : Nat} {S : Stab}
theorem f_lenR {t e : TypeId} {base : Option Addr} {n cap : Nat} (hx : ev st x = some (.d (.sc (.slice base n cap)))) (ht : P.underlying t = some (.slice e)) (hd : d < E.N) :
    FOk P E ⟨some d, .call ⟨.builtin .len, #[x], #[t]⟩, ty, pos, af, g⟩ st (evL x) [] [(.slot d, some (.d (.sc (.int .i64 (n : Int)))))] :=
  fok_val rfl hd fun st' G a w hL hs => by
    have e1 := hs.sc ((ev_same hL fun l h => h).trans hx)
    exact ⟨.int .i64 n, by simp [execOp, resolve, e1, invoke, builtin, Builtin.len_, run_underlying ht, goInt], .sc _⟩
theorem f_idxR {t e : TypeId} {b o n cap es : Nat} {bb : Bool} {k : IntKind} {i : Nat} (hx : ev st x = some (.d (.sc (.slice (some ⟨b, o, none⟩) n cap)))) (hy : ev st y = some (.d (.sc (.int k (i : Int))))) (ht : P.underlying t = some (.slice e)) (hk : kd P e = some (bb, es)) (hi : i < n) (hd : d < E.N) :
    FOk P E ⟨some d, .indexAddr t x y, ty, pos, af, g⟩ st (evL x ++ evL y) [] [(.slot d, some (.d (.sc (.pointer (some ⟨b, o + i * es, none⟩)))))] :=
  fok_val rfl hd fun st' G a w hL hs => by
    have e1 := hs.sc ((ev_same hL fun l h => mem_l h).trans hx)
    have e2 := hs.sc ((ev_same hL fun l h => mem_r h).trans hy)
    obtain ⟨_, hsz, _⟩ := kd_spec hk
    refine ⟨.pointer (some ⟨b, o + i * es, none⟩), ?_, .sc _⟩
    have hin : 0 ≤ (i : Int) ∧ (i : Int) < (n : Int) := ⟨by omega, by omega⟩
    simp [execOp, e1, e2, Instr.indexAt, asIntOf, run_underlying ht, hin, hsz, add_at]
    intro q; omega
theorem f_fieldR {s : TypeId} {k off b o : Nat} (hx : ev st x = some (.d (.sc (.pointer (some ⟨b, o, none⟩))))) (hk : kf P s k = some off) (hd : d < E.N) :
    FOk P E ⟨some d, .fieldAddr s x k, ty, pos, af, g⟩ st (evL x) [] [(.slot d, some (.d (.sc (.pointer (some ⟨b, o + off, none⟩)))))] :=
  fok_val rfl hd fun st' G a w hL hs => by
    have e1 := hs.sc ((ev_same hL fun l h => h).trans hx)
    exact ⟨.pointer (some ⟨b, o + off, none⟩), by simp [execOp, e1, run_fieldAt hk], .sc _⟩
theorem f_loadR {t : TypeId} {c b o : Nat} {v : Value} {w : World} (hk : kd P t = some (false, c)) (hx : ev st x = some (.d (.sc (.pointer (some ⟨b, o, none⟩))))) (hw : w.cell? ⟨b, o, none⟩ = some v) (hd : d < N) :
    FOk P (RE N S w) ⟨some d, .load t x, ty, pos, af, g⟩ st (evL x) [] [(.slot d, some (.d (.sc v)))] :=
  fok_val rfl hd fun st' G a w' hL hs => by
    have e1 := hs.sc ((ev_same hL fun l h => h).trans hx)
    have hc : w'.cell? ⟨b, o, none⟩ = some v := by rw [← hw]; exact (RE.below hs).cell (lt_of_cell hw)
    exact ⟨v, by simp [execOp, e1, Instr.loadAt, Instr.sureAddr, run_loadVar1 hk hc], .sc _⟩
theorem splice_one {cs : Array Value} {o : Nat} {v : Value} (h : o < cs.size) : splice cs o [v] = cs.setIfInBounds o v := by
  apply Array.ext_getElem?
  intro i
  rw [splice_get (by simp; omega)]
  by_cases hi : o = i
  · subst hi
    rw [if_pos (by simp), Array.getElem?_setIfInBounds_self_of_lt h]; simp
  · rw [if_neg (by simp; omega), Array.getElem?_setIfInBounds_ne hi]
theorem kw_setRow {w w' : World} {b : Nat} (hb : Below w.heap.size w w') (cs : Array Value) : KW w [b] (w'.setRow b cs) := by
  have e : (w'.setRow b cs).os = w'.os ∧ (w'.setRow b cs).tape = w'.tape ∧ (w'.setRow b cs).output = w'.output ∧ (w'.setRow b cs).heap.size = w'.heap.size := by
    simp [World.setRow]
  exact ⟨by rw [e.1]; exact hb.os, by rw [e.2.1]; exact hb.tape, by rw [e.2.2.1]; exact hb.output, by rw [e.2.2.2]; exact hb.size, fun k hk hn => by
    rw [heap_setRow_ne _ _ _ _ (by simpa using hn)]; exact hb.block k hk⟩
theorem sq_storeR {ops : Array Oper} {l : List Oper} {t tyb : TypeId} {bb : Bool} {b o : Nat} {v : Value} {cs : Array Value} {w : World} (hk : kd P t = some (bb, 1)) (hx : ev st x = some (.d (.sc (.pointer (some ⟨b, o, none⟩))))) (hy : ev st y = some (.d (.sc v))) (h1 : v.oneCell' = true)
    (hb : w.heap[b]? = some (.cells cs tyb (0, 0))) (ho : o < cs.size) (hr : st.raw = true)
    (h : ∀ w', KW w [b] w' → w'.heap[b]? = some (.cells (cs.setIfInBounds o v) tyb (0, 0)) → Hits (RE N S0 w') st (wpList P ops Q l)) :
    Hits (RE N S w) st (wpList P ops Q (⟨none, .store t x y, ty, pos, af, none⟩ :: l)) := by
  intro G a w1 s
  have hbl := RE.below s
  have e1 := s.sc hx
  have e2 := s.sc hy
  have hb1 := (hbl.block b (lt_of_block hb)).trans hb
  obtain ⟨_, hsz, _⟩ := kd_spec hk
  have hcells : v.cells = #[v] := by cases v <;> first | rfl | simp [Value.oneCell'] at h1
  have hst := run_storeCells_at P b o tyb [v] 0 cs w1 hb1 (by simp; omega) (fun u hu => by simp at hu; subst hu; exact h1)
  unfold wpList
  rw [if_pos (by simp [Region.wanted])]
  refine .inl ?_
  show Oper.upon P _ a _ Q ((execOp a.eval _).run P w1)
  have hrun : (execOp a.eval (⟨none, .store t x y, ty, pos, af, none⟩ : Oper)).run P w1 = .ok .skip (w1.setRow b (splice cs o [v])) := by
    simp only [execOp, e1, e2, Instr.storeAt, Instr.sureAddr, storeVar, Sem.run_bind, Sem.run_pure, Result.andThen_ok, hsz, hcells]
    simp [hst, splice]
  rw [hrun, splice_one ho]
  exact h _ (kw_setRow hbl _) (heap_setRow_same _ hb1) _ _ _ (s.raw0 hr _)
theorem sq_callR {ops : Array Oper} {l : List Oper} {f : FuncId} {xs : List Operand} {ats : Array TypeId} {us : List Value} {R : World → World → Prop} {w : World} (hen : enters P f = true) (ha : evs st xs = some (us.map .sc)) (hr : st.raw = true)
    (hc : ∀ w1, Below w.heap.size w w1 → Calls P f ⟨us⟩ w1 fun e w2 => (∃ v, e = .returned v) ∧ R w1 w2)
    (h : ∀ w1 w2, Below w.heap.size w w1 → R w1 w2 → Hits (RE N S0 w2) ((.slot d, none) :: st) (wpList P ops Q l)) :
    Hits (RE N S w) st (wpList P ops Q (⟨some d, .call ⟨.value (.func f), xs.toArray, ats⟩, ty, pos, af, none⟩ :: l)) := by
  intro G a w1 s
  have hbl := RE.below s
  have h1 := s.evs ha
  have e1 : xs.map a.eval = us := by
    have : ∀ (us vs : List Value), RelL G.S (us.map .sc) vs → vs = us := by
      intro us
      induction us with
      | nil => intro vs h; cases h; rfl
      | cons u us ih => intro vs h; cases h with | cons h1 h2 => rw [rel_sc h1, ih _ h2]
    exact this _ _ h1
  unfold wpList
  rw [if_pos (by simp [Region.wanted])]
  refine .inl ?_
  show Oper.upon P _ a _ Q ((execOp a.eval _).run P w1)
  have hrun : (execOp a.eval (⟨some d, .call ⟨.value (.func f), xs.toArray, ats⟩, ty, pos, af, none⟩ : Oper)).run P w1 = .ok (.enter f ⟨us⟩) w1 := by
    have ef : a.eval (.func f) = .func (.func f) #[] #[] := rfl
    simp [execOp, resolve, ef, Deferred.ofValue, invoke, run_callFunc hen, e1]
  rw [hrun]
  refine (hc w1 hbl).mono ?_
  rintro e w2 ⟨⟨v, rfl⟩, hR⟩
  have s2 := s.raw0 hr w2
  exact h w1 w2 hbl hR _ _ _ (s2.lose)
theorem hits_loopR {X : Type} (I : X → St) (J : X → World → Prop) (m : X → Nat) (x0 : X) {c : Code} {w : World} (h0 : J x0 w) (hraw : ∀ x, (I x).raw = true) (hr : st.raw = true) (hJ : ∀ x w w', J x w → Below w.heap.size w w' → J x w') (hk : (I x0).kept st)
    (round : ∀ x w, J x w → Hits (RE N S0 w) (I x) (c.wp P (Exit.then (fun a w => ∃ x', J x' w ∧ m x' < m x ∧ ∃ G w0 S, Sim (RE N S w0) (I x') G a w) Q))) : Hits (RE N S w) st ((Code.loop c).wp P Q) := by
  intro G a w1 s
  classical
  let R : Act → World → Nat → Prop := fun a w n => ∃ x, m x = n ∧ J x w ∧ ∃ G w0 S, Sim (RE N S w0) (I x) G a w
  have hbox : ∀ x, (I x).boxed = true := fun x => by
    have := raw_slots (hraw x)
    unfold St.boxed
    rw [List.all_eq_true]
    intro e he
    unfold St.slotsOnly at this
    rw [List.all_eq_true] at this
    have := this e he
    obtain ⟨l, v⟩ := e
    cases l <;> cases v <;> simp_all
  refine wp_loop (fun a w => ∃ n, R a w n) (fun a w => if h : ∃ n, R a w n then least _ h else 0) ⟨_, x0, rfl, hJ _ _ _ h0 (RE.below s), G, _, _, s.keep hk (hbox x0)⟩ ?_
  intro a w hI
  obtain ⟨x, hx, hj, G', w0, S', hs⟩ := least_spec hI
  refine wp_mono (round x w hj _ a w (hs.raw0 (hraw x) w)) ?_
  intro e a' w' hq
  cases e with
  | normal =>
    obtain ⟨x', hj', hlt, hs'⟩ := hq
    have hI' : ∃ n, R a' w' n := ⟨_, x', rfl, hj', hs'⟩
    refine ⟨hI', ?_⟩
    rw [dif_pos hI', dif_pos hI]
    have h1 : least _ hI' ≤ m x' := least_le hI' ⟨x', rfl, hj', hs'⟩
    omega
  | _ => exact hq
theorem roundR {X : Type} {I : X → St} {J : X → World → Prop} {m : X → Nat} {x : X} {w : World} (x' : X) (hj : J x' w) (hJ : ∀ x w w', J x w → Below w.heap.size w w' → J x w') (hlt : m x' < m x) (hk : (I x').kept st) (hb : (I x').boxed = true) :
    Hits (RE N S w) st (fun a w => ∃ x', J x' w ∧ m x' < m x ∧ ∃ G w0 S, Sim (RE N S w0) (I x') G a w) := fun G a w' s => ⟨x', hJ _ _ _ hj (RE.below s), hlt, G, w, S, s.keep hk hb⟩
theorem hits_doneR {fn : Func} {R : Ending → World → Prop} {ds : List D} {r : D} {e : Exit} {w : World} (he : e = .ret ∨ e = .normal) (hr : resDs P st fn.results.toList = some ds) (hp : packD ds = r)
    (h : ∀ u w' S', Stands S' w' → Rel S' r u → Below w.heap.size w w' → R (.returned u) w') : Hits (RE N S w) st (bodyPost P fn R e) := by
  intro G a w1 s
  obtain ⟨us, h1, h2⟩ := s.resDs hr
  have key : ∃ u, (results fn a.tmps).run P w1 = .ok u w1 ∧ Rel G.S r u := by
    rw [results_eq, Array.mapM_eq_mapM_toList]
    simp only [Sem.run_bind, Sem.run_map, h1, Result.andThen_ok, Sem.run_pure]
    subst hp
    cases h2 with
    | nil => exact ⟨_, rfl, .tup .nil⟩
    | cons h3 h4 =>
      cases h4 with
      | nil => exact ⟨_, rfl, h3⟩
      | cons h5 h6 => exact ⟨_, by simp, .tup (.cons h3 (.cons h5 h6))⟩
  obtain ⟨u, hu, hrel⟩ := key
  have hk := h u w1 G.S s.stable hrel (RE.below s)
  rcases he with rfl | rfl
  · exact ⟨s.defers, u, hu, hk⟩
  · exact ⟨s.defers, u, hu, hk⟩
theorem calls_raw {f : FuncId} {fn : Func} {c : Code} {args : List D} {us : List Value} {R : Ending → World → Prop} {w : World} (hf : P.funcs[f]? = some fn) (hb : fn.body = some c) (hn : fn.ntmps = N) (hl : Nat.ble args.length N = true) (hS : Stands S w) (hr : RelL S args us)
    (h : Hits (RE N S w) (argRows 0 args) (c.wp P (bodyPost P fn R))) : Calls P f ⟨us⟩ w R := by
  have hlen := relL_length hr
  have hle : args.length ≤ N := Nat.le_of_ble_eq_true hl
  have hs : Sim (RE N S w) (argRows 0 args) ⟨S, fun _ => 0, fun _ => 0, fun _ => false, fun _ => 0, fun _ => 0⟩ { tmps := (⟨us⟩ : Array Value) ++ Array.replicate (fn.ntmps - (⟨us⟩ : Array Value).size) undef, defers := [] } w := by
    have nb : ∀ l : Loc, (∀ t, l ≠ .slot t) → look (argRows 0 args) l = none := fun l hl => look_argRows_ne args 0 _ hl
    refine ⟨⟨rfl, rfl, rfl, Nat.le_refl _, fun _ _ _ => rfl⟩, Stab.le.refl _, fun _ _ _ e => .inl e, ?_, rfl, fun t v hv => ?_, fun i o v hv => ?_, fun i hi => absurd (nb _ (by simp)) hi, fun i j hi => absurd (nb _ (by simp)) hi, hS, fun i hi => absurd (nb _ (by simp)) hi, fun i j hi => absurd (nb _ (by simp)) hi, fun p hp => (List.not_mem_nil hp).elim, fun i qv l hl _ _ => (by rw [nb _ (by simp)] at hl; cases hl), fun i v hl => (by rw [nb _ (by simp)] at hl; cases hl), fun k v hl => (by rw [nb _ (by simp)] at hl; cases hl)⟩
    · show _ = N
      simp [hn]; omega
    · rw [look_argRows, if_pos (Nat.zero_le _), Nat.sub_zero] at hv
      simp only [Option.map_eq_some_iff] at hv
      obtain ⟨x, hx, rfl⟩ := hv
      obtain ⟨u, hu, hrel⟩ := relL_getElem hr hx
      show Rel S x _
      have e : ((⟨us⟩ : Array Value) ++ Array.replicate (fn.ntmps - (⟨us⟩ : Array Value).size) undef).getD t undef = u := by
        have ht : t < us.length := (List.getElem?_eq_some_iff.1 hu).1
        rw [Array.getD_eq_getD_getElem?, Array.getElem?_append_left (by simpa using ht)]
        simp [hu]
      rw [e]; exact hrel
    · rw [nb _ (by simp)] at hv; cases hv
  exact calls_of_wp hf hb (h _ _ _ hs)
theorem KW.comp {w w1 w2 : World} {A B F : List Nat} (h1 : KW w A w1) (h2 : KW w1 B w2) (hA : ∀ x ∈ A, x ∈ F) (hB : ∀ x ∈ B, x ∈ F) : KW w F w2 :=
  ⟨h2.os.trans h1.os, h2.tape.trans h1.tape, h2.output.trans h1.output, Nat.le_trans h1.size h2.size, fun k hk hn => (h2.frame k (Nat.lt_of_lt_of_le hk h1.size) fun c => hn (hB k c)).trans (h1.frame k hk fun c => hn (hA k c))⟩
theorem KW.comp' {w w1 w2 : World} {F : List Nat} (h1 : KW w F w1) (h2 : KW w1 F w2) : KW w F w2 := h1.comp h2 (fun _ h => h) (fun _ h => h)
theorem KW.ofBelow {w w' : World} {F : List Nat} (h : Below w.heap.size w w') : KW w F w' := ⟨h.os, h.tape, h.output, h.size, fun k hk _ => h.block k hk⟩
theorem Lin.stay {w w' : World} {q : D} {u : Value} {F : List Nat} (h : Lin w q u F) (hb : Below w.heap.size w w') : Lin w' q u F := h.keep fun b hb' => hb.block b (h.lt b hb')
theorem LinL.stay {w w' : World} {l : List D} {us : List Value} {F : List Nat} (h : LinL w l us F) (hb : Below w.heap.size w w') : LinL w' l us F := h.keep fun b hb' => hb.block b (h.lt b hb')
theorem Lin.slice {w : World} {es : Nat} {l : List D} {u : Value} {F : List Nat} (h : Lin w (.list es l) u F) : ∃ b o cap, u = .slice (some ⟨b, o, none⟩) l.length cap := by
  cases h; exact ⟨_, _, _, rfl⟩
theorem Lin.few {w : World} {es : Nat} {l : List D} {u : Value} {F : List Nat} (h : Lin w (.list es l) u F) : l.length ≤ 1099511627776 := by
  cases h with | list hc => exact hc.2.1
theorem Lin.sub {w : World} {es i : Nat} (k : Nat) {dl c : List D} {n b o cap : Nat} {F : List Nat} {q : D} (h : Lin w (.list es dl) (.slice (some ⟨b, o, none⟩) n cap) F) (hi : dl[i]? = some (.agg c)) (hk : c[k]? = some q) :
    ∃ v F1, w.cell? ⟨b, o + i * es + k, none⟩ = some v ∧ Lin w q v F1 ∧
      ∀ (w1 w2 : World) (q' : D), Below w.heap.size w w1 → KW w1 F1 w2 → Lin w2 q' v F1 → Lin w2 (.list es (dl.set i (.agg (c.set k q')))) (.slice (some ⟨b, o, none⟩) n cap) F ∧ KW w F w2 := by
  obtain ⟨b', o', cap', cs, ty, v, F1, h1, h2, h3, h4, h5, h6, h7, _, _, h8, _⟩ := h.cellAt hi hk
  cases h1
  refine ⟨v, F1, (cell_of_block h2).trans h3, h4, fun w1 w2 q' hb hk2 hl => ⟨h8 w2 q' (fun x hx hx1 => ?_) hl, (KW.ofBelow (F := F) hb).comp hk2 (fun _ h => h) h7⟩⟩
  have hlt := h.lt x hx
  rw [hk2.frame x (Nat.lt_of_lt_of_le hlt hb.size) hx1, hb.block x hlt]
theorem Lin.zero {w : World} {es i : Nat} (k : Nat) {dl c : List D} {n b o cap : Nat} {F : List Nat} {v0 : Value} (h : Lin w (.list es dl) (.slice (some ⟨b, o, none⟩) n cap) F) (hi : dl[i]? = some (.agg c)) (hk : c[k]? = some (.sc v0)) :
    ∃ cs ty, w.heap[b]? = some (.cells cs ty (0, 0)) ∧ o + i * es + k < cs.size ∧
      ∀ (w1 : World) (v' : Value), v'.oneCell' = true → KW w [b] w1 → w1.heap[b]? = some (.cells (cs.setIfInBounds (o + i * es + k) v') ty (0, 0)) → Lin w1 (.list es (dl.set i (.agg (c.set k (.sc v'))))) (.slice (some ⟨b, o, none⟩) n cap) F ∧ KW w F w1 := by
  obtain ⟨b', o', cap', cs, ty, v, F1, h1, h2, h3, h4, h5, h6, h7, _, _, _, h8⟩ := h.cellAt hi hk
  cases h1
  have hF : F1 = [] := by cases h4; rfl
  refine ⟨cs, ty, h2, (Array.getElem?_eq_some_iff.1 h3).1, fun w1 v' ho hk2 hb => ⟨h8 w1 v' ho hF (fun x hx hne => ?_) hb, (KW.ofBelow (F := F) (Below.refl _ w)).comp hk2 (fun _ h => h) (fun x hx => by simp at hx; subst hx; exact h5)⟩⟩
  exact hk2.frame x (h.lt x hx) (by simpa using hne)
def turn {α : Type} (e : α → α) (l : List α) (k : Nat) : List α := (l.take k).map e ++ l.drop k
theorem turn_zero {α : Type} (e : α → α) (l : List α) : turn e l 0 = l := by simp [turn]
theorem turn_end {α : Type} (e : α → α) (l : List α) : turn e l l.length = l.map e := by simp [turn]
theorem turn_len {α : Type} (e : α → α) (l : List α) (k : Nat) : (turn e l k).length = l.length := by simp [turn]; omega
theorem turn_get {α : Type} {e : α → α} {l : List α} {k : Nat} {x : α} (h : l[k]? = some x) : (turn e l k)[k]? = some x := by
  have hk := (List.getElem?_eq_some_iff.1 h).1
  unfold turn
  rw [List.getElem?_append_right (by simp; omega), show k - ((l.take k).map e).length = 0 from by simp; omega, List.getElem?_drop]
  simpa using h
theorem turn_set {α : Type} {e : α → α} {l : List α} {k : Nat} {x : α} (h : l[k]? = some x) : (turn e l k).set k (e x) = turn e l (k + 1) := by
  have hk := (List.getElem?_eq_some_iff.1 h).1
  have hx := (List.getElem?_eq_some_iff.1 h).2
  unfold turn
  rw [List.set_append_right _ _ (by simp; omega), show k - ((l.take k).map e).length = 0 from by simp; omega, List.drop_eq_getElem_cons hk, hx, List.set_cons_zero, List.take_add_one, h]
  simp
end Go.Ab

/- Lines set to 0 in place. -/
namespace Go.Proofs.YtogodijfdkffaaaGreatDoor.Ln
open Go Go.RowKit Go.Ab Go.Proofs 
theorem en25 : enters Tryz.prog 25 = true := by kernel_rfl
theorem en26 : enters Tryz.prog 26 = true := by kernel_rfl
theorem en27 : enters Tryz.prog 27 = true := by kernel_rfl
theorem eExs_m : ∀ l : List Ex, eExs l = l.map eEx
  | [] => rfl
  | x :: l => by rw [eExs, List.map_cons, eExs_m l]
theorem eSms_m : ∀ l : List Sm, eSms l = l.map eSm
  | [] => rfl
  | x :: l => by rw [eSms, List.map_cons, eSms_m l]
theorem map_get {α β : Type} {f : α → β} {l : List α} {k : Nat} {x : α} (h : l[k]? = some x) : (l.map f)[k]? = some (f x) := by rw [List.getElem?_map, h]; rfl
theorem map_set {α β : Type} (f : α → β) (l : List α) (k : Nat) (x : α) : (l.map f).set k (f x) = (l.set k x).map f := (List.map_set).symm
def ExprM (x : Ex) : Prop := ∀ (w : World) (es i n b o cap : Nat) (dl r : List D) (F : List Nat), Lin w (.list es dl) (.slice (some ⟨b, o, none⟩) n cap) F → dl[i]? = some (.agg (exCs x ++ r)) →
  Calls Tryz.prog 26 ⟨[.pointer (some ⟨b, o + i * es, none⟩)]⟩ w fun e w' => (∃ v, e = .returned v) ∧ KW w F w' ∧ Lin w' (.list es (dl.set i (.agg (exCs (eEx x) ++ r)))) (.slice (some ⟨b, o, none⟩) n cap) F
def ExprsM (l : List Ex) : Prop := ∀ (w : World) (u : Value) (F : List Nat), Lin w (.list 10 (exDs l)) u F →
  Calls Tryz.prog 25 ⟨[u]⟩ w fun e w' => (∃ v, e = .returned v) ∧ KW w F w' ∧ Lin w' (.list 10 (exDs (eExs l))) u F
def StmtsM (l : List Sm) : Prop := ∀ (w : World) (u : Value) (F : List Nat), Lin w (.list 9 (smDs l)) u F →
  Calls Tryz.prog 27 ⟨[u]⟩ w fun e w' => (∃ v, e = .returned v) ∧ KW w F w' ∧ Lin w' (.list 9 (smDs (eSms l))) u F
def argsE : Ex → List Ex
  | .mk _ _ _ _ _ _ _ _ args _ => args
def argsS : Sm → List Ex
  | .mk _ _ _ _ _ args _ _ _ => args
def bodyS : Sm → List Sm
  | .mk _ _ _ _ _ _ body _ _ => body
def elsS : Sm → List Sm
  | .mk _ _ _ _ _ _ _ els _ => els
theorem expr_m (x : Ex) (IH : ExprsM (argsE x)) : ExprM x := by
  obtain ⟨op, lw, lh, ll, nm, fl, n0, m0, args, line⟩ := x
  change ExprsM args at IH
  intro w es i n b o cap dl r F h hi
  obtain ⟨cs, ty, hb, hlt, hz⟩ := h.zero 9 hi rfl
  refine calls_raw (S := S0) (args := [.sc (.pointer (some ⟨b, o + i * es, none⟩))]) Tryz.func26 rfl Tryz.ntmps26 rfl (stands0 _) (.cons (.sc _) (.nil)) <| sqq <| rgq <| mvq rfl rfl <| sq (f_nil rfl rfl (lt rfl)) rfl rfl <| sq (f_fieldR rfl kf67_7 (lt rfl)) rfl rfl ?_
  refine sq_storeR kd3 rfl rfl rfl hb hlt rfl (fun w1 hk_w1 hb_w1 => ?_)
  obtain ⟨h1, hk1⟩ := hz w1 _ rfl hk_w1 hb_w1
  have hi1 : (dl.set i (.agg ((exCs (.mk op lw lh ll nm fl n0 m0 args line) ++ r).set 9 (.sc (.int .i64 0)))))[i]? = some _ := List.getElem?_set_self (List.getElem?_eq_some_iff.1 hi).1
  obtain ⟨v, F1, hc2, hl2, hs2⟩ := h1.sub 8 hi1 rfl
  refine nxq <| rgq <| mvq rfl rfl <| sq (f_nil rfl rfl (lt rfl)) rfl rfl <| sq (f_fieldR rfl kf67_6 (lt rfl)) rfl rfl <| sq (f_loadR kd65 rfl hc2 (lt rfl)) rfl rfl ?_
  refine sq_callR (us := [v]) (R := fun wa wb => KW wa F1 wb ∧ Lin wb (.list 10 (exDs (eExs args))) v F1) en25 rfl rfl (fun wa ha => IH wa v F1 (hl2.stay ha)) (fun wa wb ha hR => ?_)
  obtain ⟨h3, hk3⟩ := hs2 wa wb _ ha hR.1 hR.2
  refine nlq ?_
  exact hits_doneR (.inr rfl) rfl rfl (fun u' w' S' _ _ hb' => ⟨⟨_, rfl⟩, (hk1.comp' hk3).comp' (KW.ofBelow hb'), by have h4 := h3.stay hb'; rw [List.set_set] at h4; rw [eEx]; exact h4⟩)
theorem exprs_m (l : List Ex) (IH : ∀ x ∈ l, ExprM x) : ExprsM l := by
  intro w u F h
  rw [exDs_map] at h
  obtain ⟨b, o, cap, rfl⟩ := h.slice
  have hfew := h.few
  have hlm : (l.map exD).length = l.length := List.length_map _
  refine calls_raw (S := S0) (args := [.sc (.slice (some ⟨b, o, none⟩) (l.map exD).length cap)]) Tryz.func25 rfl Tryz.ntmps25 rfl (stands0 _) (.cons (.sc _) (.nil)) <| sqq <| rgq <| asq rfl rfl <| nxq <| hits_block <| hits_loopR (fun k : Nat => [(.slot 0, some (.d (.sc (.slice (some ⟨b, o, none⟩) (l.map exD).length cap)))), (.slot 2, some (.d (.sc (.int .i64 ((k : Nat) : Int)))))]) (fun k w1 => k ≤ l.length ∧ KW w F w1 ∧ Lin w1 (.list 10 ((turn eEx l k).map exD)) (.slice (some ⟨b, o, none⟩) (l.map exD).length cap) F) (fun k => l.length - k) 0 ⟨Nat.zero_le _, KW.ofBelow (Below.refl _ _), by rw [turn_zero]; exact h⟩ (fun _ => rfl) rfl (fun x w w' hj hb' => ⟨hj.1, hj.2.1.comp' (KW.ofBelow hb'), hj.2.2.stay hb'⟩) ⟨rfl, rfl, trivial⟩ ?_
  intro k w1 hJ0
  obtain ⟨hk0, hkw, hl⟩ := hJ0
  refine sqq <| sqq ?_
  by_cases hk : k < l.length
  · obtain ⟨x, hx⟩ : ∃ x, l[k]? = some x := ⟨_, List.getElem?_eq_getElem hk⟩
    have hmem := List.mem_of_getElem? hx
    have hel := map_get (f := exD) (turn_get (e := eEx) hx)
    have hkl : k < (l.map exD).length := by rw [List.length_map]; exact hk
    rw [exD_cs] at hel
    refine rgq <| mvq rfl rfl <| mvq rfl rfl <| sq (f_lenR rfl un65 (lt rfl)) rfl rfl <| sq (f_bin rfl rfl (bT (decide_eq_true (by rw [List.length_map]; omega))) (lt rfl)) rfl rfl ?_
    refine nxq <| cnT rfl <| skq <| toq <| sqq <| hits_block <| rgq <| mvq rfl rfl ?_
    refine mvq rfl rfl <| sq (f_idxR rfl rfl un65 kd67 hkl (lt rfl)) rfl rfl ?_
    refine sq_callR (us := [.pointer (some ⟨b, o + k * 10, none⟩)]) (R := fun wa wb => KW wa F wb ∧ Lin wb (.list 10 (((turn eEx l k).map exD).set k (.agg (exCs (eEx x) ++ [])))) (.slice (some ⟨b, o, none⟩) (l.map exD).length cap) F) en26 rfl rfl (fun wa ha => IH x hmem wa 10 k _ b o cap _ [] F (hl.stay ha) (by rw [List.append_nil]; exact hel)) (fun wa wb ha hR => ?_)
    obtain ⟨hkE0, hE⟩ := hR
    have hkE : KW w1 F wb := (KW.ofBelow ha).comp' hkE0
    rw [List.append_nil, ← exD_cs] at hE
    refine nlq <| inq <| toq <| rgq <| mvq rfl rfl <| sq (f_bin rfl rfl (iT (((IntWalk.i64_in _ (by omega)).trans (by omega) : _ = ((k + 1 : Nat) : Int)))) (lt rfl)) rfl rfl <| asq rfl rfl <| nxq ?_
    refine roundR (k + 1) ⟨by omega, (hkw.comp' hkE), by rw [← turn_set hx, ← map_set]; exact hE⟩ (fun x w w' hj hb' => ⟨hj.1, hj.2.1.comp' (KW.ofBelow hb'), hj.2.2.stay hb'⟩) (by show l.length - (k + 1) < l.length - k; omega) ⟨rfl, rfl, trivial⟩ rfl
  · obtain rfl : k = l.length := by omega
    refine rgq <| mvq rfl rfl <| mvq rfl rfl <| sq (f_lenR rfl un65 (lt rfl)) rfl rfl <| sq (f_bin rfl rfl (bT (decide_eq_false (by rw [List.length_map]; omega))) (lt rfl)) rfl rfl ?_
    refine nxq <| cnF rfl <| hits_exit <| to_exit <| to_exit <| in_hit rfl ?_
    exact hits_doneR (.inr rfl) rfl rfl (fun u' w' S' _ _ hb' => ⟨⟨_, rfl⟩, hkw.comp' (KW.ofBelow hb'), by have h4 := hl.stay hb'; rw [turn_end] at h4; rw [exDs_map, eExs_m]; exact h4⟩)
mutual
theorem exprM_all : ∀ x : Ex, ExprM x
  | .mk op lw lh ll nm fl n m args line => expr_m _ (exprs_m args (exprsM_all args))
theorem exprsM_all : ∀ l : List Ex, ∀ x ∈ l, ExprM x
  | [], x, h => by cases h
  | y :: l, x, h => by
    by_cases hx : x = y
    · rw [hx]; exact exprM_all y
    · exact exprsM_all l x (by rcases List.mem_cons.mp h with h | h; exact absurd h hx; exact h)
end
theorem exprsM (l : List Ex) : ExprsM l := exprs_m l (exprsM_all l)
theorem stmts_m (l : List Sm) (IHa : ∀ x ∈ l, StmtsM (bodyS x)) (IHb : ∀ x ∈ l, StmtsM (elsS x)) : StmtsM l := by
  intro w u F h
  rw [smDs_map] at h
  obtain ⟨b, o, cap, rfl⟩ := h.slice
  have hfew := h.few
  have hlm : (l.map smD).length = l.length := List.length_map _
  refine calls_raw (S := S0) (args := [.sc (.slice (some ⟨b, o, none⟩) (l.map smD).length cap)]) Tryz.func27 rfl Tryz.ntmps27 rfl (stands0 _) (.cons (.sc _) (.nil)) <| sqq <| rgq <| asq rfl rfl <| nxq <| hits_block <| hits_loopR (fun k : Nat => [(.slot 0, some (.d (.sc (.slice (some ⟨b, o, none⟩) (l.map smD).length cap)))), (.slot 2, some (.d (.sc (.int .i64 ((k : Nat) : Int)))))]) (fun k w1 => k ≤ l.length ∧ KW w F w1 ∧ Lin w1 (.list 9 ((turn eSm l k).map smD)) (.slice (some ⟨b, o, none⟩) (l.map smD).length cap) F) (fun k => l.length - k) 0 ⟨Nat.zero_le _, KW.ofBelow (Below.refl _ _), by rw [turn_zero]; exact h⟩ (fun _ => rfl) rfl (fun x w w' hj hb' => ⟨hj.1, hj.2.1.comp' (KW.ofBelow hb'), hj.2.2.stay hb'⟩) ⟨rfl, rfl, trivial⟩ ?_
  intro k w1 hJ0
  obtain ⟨hk0, hkw, hl⟩ := hJ0
  refine sqq <| sqq ?_
  by_cases hk : k < l.length
  · obtain ⟨x, hx⟩ : ∃ x, l[k]? = some x := ⟨_, List.getElem?_eq_getElem hk⟩
    have hmem := List.mem_of_getElem? hx
    have hel := map_get (f := smD) (turn_get (e := eSm) hx)
    have hkl : k < (l.map smD).length := by rw [List.length_map]; exact hk
    rw [smD_cs] at hel
    have hIa := IHa x hmem
    have hIb := IHb x hmem
    obtain ⟨kd, nm, fl, arr, n0, args, body, els, line⟩ := x
    change StmtsM body at hIa
    change StmtsM els at hIb
    obtain ⟨cs, ty, hb, hlt, hz⟩ := hl.zero 8 hel rfl
    refine rgq <| mvq rfl rfl <| mvq rfl rfl <| sq (f_lenR rfl un54 (lt rfl)) rfl rfl <| sq (f_bin rfl rfl (bT (decide_eq_true (by rw [List.length_map]; omega))) (lt rfl)) rfl rfl ?_
    refine nxq <| cnT rfl <| skq <| toq <| sqq <| hits_block <| sqq <| rgq ?_
    refine mvq rfl rfl <| mvq rfl rfl <| sq (f_idxR rfl rfl un54 kd70 hkl (lt rfl)) rfl rfl <| sq (f_fieldR rfl kf70_8 (lt rfl)) rfl rfl ?_
    refine sq_storeR kd3 rfl rfl rfl hb hlt rfl (fun w2 hk_w2 hb_w2 => ?_)
    obtain ⟨h4, hk4⟩ := hz w2 _ rfl hk_w2 hb_w2
    have hi5 : (((turn eSm l k).map smD).set k (.agg ((smCs (.mk kd nm fl arr n0 args body els line)).set 8 (.sc (.int .i64 0)))))[k]? = some _ := List.getElem?_set_self (by rw [List.length_map, turn_len]; exact hk)
    obtain ⟨v5, F5, hc5, hl5, hs5⟩ := h4.sub 5 hi5 rfl
    refine nxq <| sqq <| rgq <| mvq rfl rfl <| mvq rfl rfl <| sq (f_idxR rfl rfl un54 kd70 hkl (lt rfl)) rfl rfl <| sq (f_fieldR rfl kf70_5 (lt rfl)) rfl rfl <| sq (f_loadR kd65 rfl hc5 (lt rfl)) rfl rfl ?_
    refine sq_callR (us := [v5]) (R := fun wa wb => KW wa F5 wb ∧ Lin wb (.list 10 (exDs (eExs args))) v5 F5) en25 rfl rfl (fun wa ha => exprsM args wa v5 F5 (hl5.stay ha)) (fun wa5 wb5 ha5 hR5 => ?_)
    obtain ⟨h5, hk5⟩ := hs5 wa5 wb5 _ ha5 hR5.1 hR5.2
    have hi6 : ((((turn eSm l k).map smD).set k (.agg ((smCs (.mk kd nm fl arr n0 args body els line)).set 8 (.sc (.int .i64 0))))).set k (.agg (((smCs (.mk kd nm fl arr n0 args body els line)).set 8 (.sc (.int .i64 0))).set 5 (.list 10 (exDs (eExs args))))))[k]? = some _ := List.getElem?_set_self (by rw [List.length_set, List.length_map, turn_len]; exact hk)
    obtain ⟨v6, F6, hc6, hl6, hs6⟩ := h5.sub 6 hi6 rfl
    refine nxq <| sqq <| rgq <| mvq rfl rfl <| mvq rfl rfl <| sq (f_idxR rfl rfl un54 kd70 hkl (lt rfl)) rfl rfl <| sq (f_fieldR rfl kf70_6 (lt rfl)) rfl rfl <| sq (f_loadR kd54 rfl hc6 (lt rfl)) rfl rfl ?_
    refine sq_callR (us := [v6]) (R := fun wa wb => KW wa F6 wb ∧ Lin wb (.list 9 (smDs (eSms body))) v6 F6) en27 rfl rfl (fun wa ha => hIa wa v6 F6 (hl6.stay ha)) (fun wa6 wb6 ha6 hR6 => ?_)
    obtain ⟨h6, hk6⟩ := hs6 wa6 wb6 _ ha6 hR6.1 hR6.2
    have hi7 : (((((turn eSm l k).map smD).set k (.agg ((smCs (.mk kd nm fl arr n0 args body els line)).set 8 (.sc (.int .i64 0))))).set k (.agg (((smCs (.mk kd nm fl arr n0 args body els line)).set 8 (.sc (.int .i64 0))).set 5 (.list 10 (exDs (eExs args)))))).set k (.agg ((((smCs (.mk kd nm fl arr n0 args body els line)).set 8 (.sc (.int .i64 0))).set 5 (.list 10 (exDs (eExs args)))).set 6 (.list 9 (smDs (eSms body))))))[k]? = some _ := List.getElem?_set_self (by rw [List.length_set, List.length_set, List.length_map, turn_len]; exact hk)
    obtain ⟨v7, F7, hc7, hl7, hs7⟩ := h6.sub 7 hi7 rfl
    refine nxq <| rgq <| mvq rfl rfl <| mvq rfl rfl <| sq (f_idxR rfl rfl un54 kd70 hkl (lt rfl)) rfl rfl <| sq (f_fieldR rfl kf70_7 (lt rfl)) rfl rfl <| sq (f_loadR kd54 rfl hc7 (lt rfl)) rfl rfl ?_
    refine sq_callR (us := [v7]) (R := fun wa wb => KW wa F7 wb ∧ Lin wb (.list 9 (smDs (eSms els))) v7 F7) en27 rfl rfl (fun wa ha => hIb wa v7 F7 (hl7.stay ha)) (fun wa7 wb7 ha7 hR7 => ?_)
    obtain ⟨h7, hk7⟩ := hs7 wa7 wb7 _ ha7 hR7.1 hR7.2
    have hkE : KW w1 F wb7 := ((hk4.comp' hk5).comp' hk6).comp' hk7
    have hE := h7
    rw [List.set_set, List.set_set, List.set_set] at hE
    change Lin wb7 (.list 9 (((turn eSm l k).map smD).set k (.agg (smCs (.mk kd nm fl arr n0 (eExs args) (eSms body) (eSms els) 0))))) _ F at hE
    rw [← smD_cs, show Sm.mk kd nm fl arr n0 (eExs args) (eSms body) (eSms els) 0 = eSm (.mk kd nm fl arr n0 args body els line) from by rw [eSm]] at hE
    refine nlq <| inq <| toq <| rgq <| mvq rfl rfl <| sq (f_bin rfl rfl (iT (((IntWalk.i64_in _ (by omega)).trans (by omega) : _ = ((k + 1 : Nat) : Int)))) (lt rfl)) rfl rfl <| asq rfl rfl <| nxq ?_
    refine roundR (k + 1) ⟨by omega, (hkw.comp' hkE), by rw [← turn_set hx, ← map_set]; exact hE⟩ (fun x w w' hj hb' => ⟨hj.1, hj.2.1.comp' (KW.ofBelow hb'), hj.2.2.stay hb'⟩) (by show l.length - (k + 1) < l.length - k; omega) ⟨rfl, rfl, trivial⟩ rfl
  · obtain rfl : k = l.length := by omega
    refine rgq <| mvq rfl rfl <| mvq rfl rfl <| sq (f_lenR rfl un54 (lt rfl)) rfl rfl <| sq (f_bin rfl rfl (bT (decide_eq_false (by rw [List.length_map]; omega))) (lt rfl)) rfl rfl ?_
    refine nxq <| cnF rfl <| hits_exit <| to_exit <| to_exit <| in_hit rfl ?_
    exact hits_doneR (.inr rfl) rfl rfl (fun u' w' S' _ _ hb' => ⟨⟨_, rfl⟩, hkw.comp' (KW.ofBelow hb'), by have h4 := hl.stay hb'; rw [turn_end] at h4; rw [smDs_map, eSms_m]; exact h4⟩)
mutual
theorem stmtM_all : ∀ x : Sm, StmtsM (bodyS x) ∧ StmtsM (elsS x)
  | .mk _ _ _ _ _ _ body els _ => ⟨stmts_m body (fun x hx => (stmtsM_all body x hx).1) (fun x hx => (stmtsM_all body x hx).2), stmts_m els (fun x hx => (stmtsM_all els x hx).1) (fun x hx => (stmtsM_all els x hx).2)⟩
theorem stmtsM_all : ∀ l : List Sm, ∀ x ∈ l, StmtsM (bodyS x) ∧ StmtsM (elsS x)
  | [], x, h => by cases h
  | y :: l, x, h => by
    by_cases hx : x = y
    · rw [hx]; exact stmtM_all y
    · exact stmtsM_all l x (by rcases List.mem_cons.mp h with h | h; exact absurd h hx; exact h)
end
theorem stmtsM (l : List Sm) : StmtsM l := stmts_m l (fun x hx => (stmtsM_all l x hx).1) (fun x hx => (stmtsM_all l x hx).2)
end Go.Proofs.YtogodijfdkffaaaGreatDoor.Ln

/- Copies in memory of their own: lists that are made and filled, calls that hand back trees of their own. No program. -/
namespace Go.Ab
open Go Go.RowKit
variable {P : Program} {E : Env} {st : St} {G : Gh} {a : Act} {w : World} {Q : Exit → Act → World → Prop} {K : Act → World → Prop}
variable {d : Nat} {ty : TypeId} {pos : String} {af : Array Edge} {g : Option (Nat × Bool)} {x y z : Operand} {N : Nat} {S : Stab}
def TwinC (P : Program) (f : FuncId) (q : D) : Prop := ∀ (S : Stab) (w : World) (u : Value), Stands S w → Rel S q u →
  Calls P f ⟨[u]⟩ w fun e w' => ∃ v F, e = .returned v ∧ Below w.heap.size w w' ∧ Lin w' q v F ∧ ∀ b ∈ F, w.heap.size ≤ b
structure Grows (S S' : Stab) (w w' : World) : Prop where
  le : S.le S'
  st : Stands S' w'
  new : ∀ b o v, S' b o = some v → S b o = some v ∨ w.heap.size ≤ b
theorem Grows.none {S S' : Stab} {w w' : World} (h : Grows S S' w w') {b : Nat} (hb : b < w.heap.size) (hn : ∀ o, S b o = none) (o : Nat) : S' b o = none := by
  cases hv : S' b o with
  | none => rfl
  | some v => rcases h.new b o v hv with q | q
              · rw [hn] at q; cases q
              · omega
theorem RE.grows {w w' : World} (s : Sim (RE N S w) st G a w') : Grows S G.S w w' := ⟨s.s0, s.stable, fun b o v hv => by
  rcases s.snew b o v hv with q | q | q
  · exact .inl q
  · exact .inr q
  · cases q⟩
theorem D.ofVal_rel {S : Stab} (v : Value) : Rel S (D.ofVal v) v := rel_ofVal S v
theorem sq_callT {ops : Array Oper} {l : List Oper} {f : FuncId} {ats : Array TypeId} {q : D} {w : World} (hen : enters P f = true) (hx : ev st x = some (.d q)) (hso : st.slotsOnly = true) (hc : TwinC P f q) (hd : d < N)
    (h : ∀ w' S' v F, Below w.heap.size w w' → Grows S S' w w' → Lin w' q v F → (∀ b ∈ F, w.heap.size ≤ b) → Hits (RE N S' w') ((.slot d, some (.d (D.ofVal v))) :: st) (wpList P ops Q l)) :
    Hits (RE N S w) st (wpList P ops Q (⟨some d, .call ⟨.value (.func f), #[x], ats⟩, ty, pos, af, none⟩ :: l)) := by
  intro G a w1 s
  have hbl := RE.below s
  have e1 := s.ev hx
  unfold wpList
  rw [if_pos (by simp [Region.wanted])]
  refine .inl ?_
  show Oper.upon P _ a _ Q ((execOp a.eval _).run P w1)
  have hrun : (execOp a.eval (⟨some d, .call ⟨.value (.func f), #[x], ats⟩, ty, pos, af, none⟩ : Oper)).run P w1 = .ok (.enter f ⟨[a.eval x]⟩) w1 := by
    have ef : a.eval (.func f) = .func (.func f) #[] #[] := rfl
    simp [execOp, resolve, ef, Deferred.ofValue, invoke, run_callFunc hen]
  rw [hrun]
  refine (hc G.S w1 _ s.stable e1).mono ?_
  rintro e w2 ⟨v, F, rfl, hb, hl, hF⟩
  have hb2 : Below w.heap.size w w2 := ⟨hb.os.trans hbl.os, hb.tape.trans hbl.tape, hb.output.trans hbl.output, Nat.le_trans hbl.size hb.size, fun k hk => (hb.block k (Nat.lt_of_lt_of_le hk hbl.size)).trans (hbl.block k hk)⟩
  have hg : Grows S G.S w w2 := ⟨s.s0, Stands.below s.stable hb, (RE.grows s).new⟩
  have s2 := s.base (S := G.S) hso hg.st fun t v hl => s.slots t v hl
  exact h w2 G.S v F hb2 hg hl (fun b hb' => Nat.le_trans hbl.size (hF b hb')) _ _ _ (s2.put hd (D.ofVal_rel v))
theorem sq_makeR {ops : Array Oper} {l : List Oper} {t e : TypeId} {es nb n : Nat} {k k' : IntKind} {w : World} (hp : apk P t t = some (e, es, nb)) (hx : ev st x = some (.d (.sc (.int k 0)))) (hy : ev st y = some (.d (.sc (.int k' (n : Int))))) (hroom : nb * n ≤ 140737488355328) (hbig : n ≤ 9223372036854775807) (hso : st.slotsOnly = true) (hd : d < N)
    (h : ∀ w' S' b cs, Below w.heap.size w w' → Grows S S' w w' → w.heap.size ≤ b → b < w'.heap.size → w'.heap[b]? = some (.cells cs e (0, 0)) → cs.size = n * es → (∀ o, S' b o = none) → Hits (RE N S' w') ((.slot d, some (.d (.sc (.slice (some ⟨b, 0, none⟩) 0 n)))) :: st) (wpList P ops Q l)) :
    Hits (RE N S w) st (wpList P ops Q (⟨some d, .makeSlice t x y, ty, pos, af, none⟩ :: l)) := by
  intro G a w1 s
  obtain ⟨ht, ⟨e', htx⟩, i, z, hi, hz, hzs, his, hib, hes⟩ := apk_spec hp
  have hbl := RE.below s
  have e1 := s.sc hx
  have e2 := s.sc hy
  have hbytes : (i.bytes : Int) * (n : Int) ≤ 281474976710656 := by
    have h : ((i.bytes * n : Nat) : Int) ≤ 281474976710656 := by rw [hib]; omega
    rwa [Int.natCast_mul] at h
  have hr := run_make (P := P) w1 t e i z ht hi hz k k' 0 n (Int.le_refl _) (by omega) hbytes (by omega)
  simp only [Int.toNat_zero, Int.toNat_natCast] at hr
  have hb : Below w1.heap.size w1 (w1.alloc (.cells (madeCells z.cells (n * i.size)) e)) := (Below.refl _ _).alloc (Nat.le_refl _) _
  unfold wpList
  rw [if_pos (by simp [Region.wanted])]
  refine .inl ?_
  show Oper.upon P _ a _ Q ((execOp a.eval _).run P w1)
  have hrun : (execOp a.eval (⟨some d, .makeSlice t x y, ty, pos, af, none⟩ : Oper)).run P w1 = .ok (.value (.slice (some ⟨w1.heap.size, 0, none⟩) 0 n)) (w1.alloc (.cells (madeCells z.cells (n * i.size)) e)) := by
    simp [execOp, e1, e2, hr]
  rw [hrun]
  have hb2 : Below w.heap.size w (w1.alloc (.cells (madeCells z.cells (n * i.size)) e)) := ⟨hb.os.trans hbl.os, hb.tape.trans hbl.tape, hb.output.trans hbl.output, Nat.le_trans hbl.size hb.size, fun k hk => (hb.block k (Nat.lt_of_lt_of_le hk hbl.size)).trans (hbl.block k hk)⟩
  have hg : Grows S G.S w (w1.alloc (.cells (madeCells z.cells (n * i.size)) e)) := ⟨s.s0, Stands.below s.stable hb, (RE.grows s).new⟩
  have s2 := s.base (S := G.S) hso hg.st fun t v hl => s.slots t v hl
  have hsz : w1.heap.size < (w1.alloc (.cells (madeCells z.cells (n * i.size)) e)).heap.size := by show _ < (w1.heap.push _).size; rw [Array.size_push]; omega
  exact h _ G.S w1.heap.size _ hb2 hg hbl.size hsz (by show (w1.heap.push _)[w1.heap.size]? = _; rw [Array.getElem?_push, if_pos rfl]) (by rw [size_madeCells, his]) s.fresh_none _ _ _ (s2.put hd (.sc _))
theorem fillD1 {es : Nat} {zs : List Value} {q : D} (hq : q.plain = true) (hc : q.cells.length = es) (hz : zs.length = es) : fillD (fun i => some (i * es, es)) ((zsn zs (1 * es)).map .sc) [(0, q)] = some q.cells := by
  have hlen : ((zsn zs (1 * es)).map D.sc).length = es := by simp [zsn]
  have h1 : (q.cells.length == es && Nat.ble (0 * es + es) ((zsn zs (1 * es)).map D.sc).length && q.plain) = true := by
    rw [hlen, hc, hq]; simp
  simp only [fillD, h1, if_true]
  congr 1
  unfold setL
  rw [show 0 * es = 0 from Nat.zero_mul _, hc, List.drop_eq_nil_of_le (by rw [hlen]; omega)]
  simp
theorem f_build1 {t e : TypeId} {es : Nat} {zs : List Value} {q : D} (hk : sk P t = some (e, es, zs)) (hx : ev st x = some (.d q)) (hq : q.plain = true) (hc : q.cells.length = es) (hz : zs.length = es) (hbig : es ≤ 16777216) (hpos : 0 < es) (hd : d < E.N) :
    FOk P E ⟨some d, .buildSlice t 1 #[(0, x)], ty, pos, af, g⟩ st (evsL [x]) [] [(.slot d, some (.d (.list es [q])))] :=
  f_buildSlice (parts := [(0, x)]) (ps := [(0, q)]) (l := q.cells) (ds := [q]) hk (by simp [evP, hx]) (fillD1 hq hc hz) rfl (by simp [flat]) rfl (by simp [hc]) (by omega) (by omega) hd
theorem sq_appR {ops : Array Oper} {l : List Oper} {t tx e tyb : TypeId} {es nb b o n cap : Nat} {q : D} {cs : Array Value} {w : World} (hx : ev st x = some (.d (.sc (.slice (some ⟨b, o, none⟩) n cap)))) (hy : ev st y = some (.d (.list es [q]))) (hp : apk P t tx = some (e, es, nb))
    (hone0 : ∀ c ∈ q.cells, (V.d c).one = true) (hn : n + 1 ≤ cap) (hb : w.heap[b]? = some (.cells cs tyb (0, 0))) (hcs : o + cap * es ≤ cs.size) (hS : ∀ o, S b o = none) (hso : st.slotsOnly = true) (hd : d < N)
    (h : ∀ w' S' us, KW w [b] w' → Grows S S' w w' → w'.heap[b]? = some (.cells (splice cs (o + n * es) us) tyb (0, 0)) → RelL S' q.cells us → us.length = es → (∀ v ∈ us, v.oneCell' = true) → (∀ o, S' b o = none) → Hits (RE N S' w') ((.slot d, some (.d (.sc (.slice (some ⟨b, o, none⟩) (n + 1) cap)))) :: st) (wpList P ops Q l)) :
    Hits (RE N S w) st (wpList P ops Q (⟨some d, .call ⟨.builtin .append, #[x, y], #[t, tx]⟩, ty, pos, af, none⟩ :: l)) := by
  intro G a w1 s
  have hbl := RE.below s
  obtain ⟨ht, ⟨e', htx⟩, i, z, hi, hz, hzs, his, hib, hes⟩ := apk_spec hp
  have e1 := s.sc hx
  have hvy : Rel G.S (.list es [q]) (a.eval y) := s.ev hy
  have hflat : flat [q] = q.cells := by simp [flat]
  obtain ⟨us, hsrc, hrus, hlus, hcells⟩ := src_of (tx := tx) s htx hvy (by rw [hflat]; exact hone0)
  rw [hflat] at hrus
  have hlus' : us.length = es := by simpa using hlus
  have hone' := relL_one hrus hone0
  subst his
  have hb1 := (hbl.block b (lt_of_block hb)).trans hb
  have hle : (n + 1) * i.size ≤ cap * i.size := Nat.mul_le_mul_right _ hn
  have hfit : o + n * i.size + us.length ≤ cs.size := by rw [hlus']; rw [Nat.add_mul] at hle; omega
  have hst := run_storeCells_at P b (o + n * i.size) tyb us 0 cs w1 hb1 (by omega) hone'
  unfold wpList
  rw [if_pos (by simp [Region.wanted])]
  refine .inl ?_
  show Oper.upon P _ a _ Q ((execOp a.eval _).run P w1)
  have hap : (Builtin.append_ #[t, tx] ty #[a.eval x, a.eval y]).run P w1 = .ok (.slice (some ⟨b, o, none⟩) (n + 1) cap) (w1.setRow b (splice cs (o + n * i.size) us)) := by
    rw [e1]
    have h2 := hsrc.cells
    simp only [List.length_cons, List.length_nil, Nat.zero_add] at h2
    have h3 := hsrc.len
    simp only [List.length_cons, List.length_nil, Nat.zero_add] at h3
    simp [Builtin.append_, run_underlying ht, run_underlying htx, sizeOf, run_typeInfo w1 hi, h3, hn, h2, add_at, hst, splice]
  have hrun : (execOp a.eval (⟨some d, .call ⟨.builtin .append, #[x, y], #[t, tx]⟩, ty, pos, af, none⟩ : Oper)).run P w1 = .ok (.value (.slice (some ⟨b, o, none⟩) (n + 1) cap)) (w1.setRow b (splice cs (o + n * i.size) us)) := by
    simp [execOp, resolve, invoke, builtin, hap]
  rw [hrun]
  have hg0 := RE.grows s
  have hSb := fun o => hg0.none (lt_of_block hb) hS o
  have hg : Grows S G.S w (w1.setRow b (splice cs (o + n * i.size) us)) := ⟨hg0.le, fun b' o' v hv => by
    have hne : b' ≠ b := fun c => by subst c; rw [hSb] at hv; cases hv
    rw [cell_setRow_ne _ _ _ hne]; exact hg0.st b' o' v hv, hg0.new⟩
  have s2 := s.base (S := G.S) hso hg.st fun t v hl => s.slots t v hl
  exact h _ G.S us (kw_setRow hbl _) hg (heap_setRow_same _ hb1) hrus hlus' hone' hSb _ _ _ (s2.put hd (.sc _))
theorem f_sliceR {t e : TypeId} {b o n m cap es : Nat} {k : IntKind} {bb : Bool} (hx : ev st x = some (.d (.sc (.slice (some ⟨b, o, none⟩) n cap)))) (hy : ev st y = some (.d (.sc (.int k (m : Int))))) (ht : P.underlying t = some (.slice e)) (hk : kd P e = some (bb, es)) (hm : m < cap) (hd : d < E.N) :
    FOk P E ⟨some d, .slice t x none (some y) none, ty, pos, af, g⟩ st (evL x ++ evL y) [] [(.slot d, some (.d (.sc (.slice (some ⟨b, o, none⟩) m cap))))] :=
  fok_val rfl hd fun st' G a w hL hs => by
    have e1 := hs.sc ((ev_same hL fun l h => mem_l h).trans hx)
    have e2 := hs.sc ((ev_same hL fun l h => mem_r h).trans hy)
    obtain ⟨_, hsz, _⟩ := kd_spec hk
    have hb : (Instr.sliceBound (.int k (m : Int)) cap .sliceAcap).run P w = .ok m w := by
      have : (0 : Int) ≤ (m : Int) ∧ (m : Int) ≤ (cap : Int) := ⟨by omega, by omega⟩
      simp only [Instr.sliceBound, asIntOf, Sem.run_bind, Sem.run_pure, Result.andThen_ok, if_pos this, Int.toNat_natCast]
    have hne : ¬ (cap = 0) := by omega
    refine ⟨.slice (some ⟨b, o, none⟩) m cap, ?_, .sc _⟩
    simp [execOp, e1, e2, Instr.sliceAt, Instr.slice, run_underlying ht, Instr.sliceBounds, hb, hsz, hne, Addr.add]
theorem slots_boxed {st : St} (h : st.slotsOnly = true) : st.boxed = true := by
  unfold St.boxed
  rw [List.all_eq_true]
  intro e he
  unfold St.slotsOnly at h
  rw [List.all_eq_true] at h
  have := h e he
  obtain ⟨l, v⟩ := e
  cases l <;> cases v <;> simp_all
theorem Grows.refl {S : Stab} {w : World} (h : Stands S w) : Grows S S w w := ⟨Stab.le.refl _, h, fun _ _ _ e => .inl e⟩
theorem Grows.trans {S S' S'' : Stab} {w w' w'' : World} (h : Grows S S' w w') (h' : Grows S' S'' w' w'') (hs : w.heap.size ≤ w'.heap.size) : Grows S S'' w w'' :=
  ⟨h.le.trans h'.le, h'.st, fun b o v hv => by
    rcases h'.new b o v hv with q | q
    · exact h.new b o v q
    · exact .inr (Nat.le_trans hs q)⟩
theorem below_comp {w w1 w2 : World} (h : Below w.heap.size w w1) (h' : Below w1.heap.size w1 w2) : Below w.heap.size w w2 :=
  ⟨h'.os.trans h.os, h'.tape.trans h.tape, h'.output.trans h.output, Nat.le_trans h.size h'.size, fun k hk => (h'.block k (Nat.lt_of_lt_of_le hk h.size)).trans (h.block k hk)⟩
theorem below_kw {w w1 w2 : World} {b : Nat} (h : Below w.heap.size w w1) (h' : KW w1 [b] w2) (hb : w.heap.size ≤ b) : Below w.heap.size w w2 :=
  ⟨h'.os.trans h.os, h'.tape.trans h.tape, h'.output.trans h.output, Nat.le_trans h.size h'.size, fun k hk => (h'.frame k (Nat.lt_of_lt_of_le hk h.size) (by simp; omega)).trans (h.block k hk)⟩
theorem hits_loopS {X : Type} (I : X → St) (J : X → World → Stab → Prop) (m : X → Nat) (x0 : X) {c : Code} {w : World} (h0 : J x0 w S) (hso : ∀ x, (I x).slotsOnly = true) (hJ : ∀ x w w' S S', J x w S → Below w.heap.size w w' → Grows S S' w w' → J x w' S') (hk : (I x0).kept st)
    (round : ∀ x w S, J x w S → Hits (RE N S w) (I x) (c.wp P (Exit.then (fun a w => ∃ x', m x' < m x ∧ ∃ S' G w0 S, G.S = S' ∧ Sim (RE N S w0) (I x') G a w ∧ J x' w S') Q))) : Hits (RE N S w) st ((Code.loop c).wp P Q) := by
  intro G a w1 s
  classical
  let R : Act → World → Nat → Prop := fun a w n => ∃ x, m x = n ∧ ∃ S' G w0 S, G.S = S' ∧ Sim (RE N S w0) (I x) G a w ∧ J x w S'
  refine wp_loop (fun a w => ∃ n, R a w n) (fun a w => if h : ∃ n, R a w n then least _ h else 0) ⟨_, x0, rfl, _, G, _, _, rfl, s.keep hk (slots_boxed (hso x0)), hJ _ _ _ _ _ h0 (RE.below s) (RE.grows s)⟩ ?_
  intro a w hI
  obtain ⟨x, hx, _, G', w0, S', rfl, hs, hj⟩ := least_spec hI
  refine wp_mono (round x w G'.S hj _ a w (hs.anew (hso x))) ?_
  intro e a' w' hq
  cases e with
  | normal =>
    obtain ⟨x', hlt, hs'⟩ := hq
    have hI' : ∃ n, R a' w' n := ⟨_, x', rfl, hs'⟩
    refine ⟨hI', ?_⟩
    rw [dif_pos hI', dif_pos hI]
    have h1 : least _ hI' ≤ m x' := least_le hI' ⟨x', rfl, hs'⟩
    omega
  | _ => exact hq
theorem roundS {X : Type} {I : X → St} {J : X → World → Stab → Prop} {m : X → Nat} {x : X} {w : World} (x' : X) (hj : J x' w S) (hJ : ∀ x w w' S S', J x w S → Below w.heap.size w w' → Grows S S' w w' → J x w' S') (hlt : m x' < m x) (hk : (I x').kept st) (hso : (I x').slotsOnly = true) :
    Hits (RE N S w) st (fun a w => ∃ x', m x' < m x ∧ ∃ S' G w0 S, G.S = S' ∧ Sim (RE N S w0) (I x') G a w ∧ J x' w S') := fun G a w' s => ⟨x', hlt, _, G, w, S, rfl, s.keep hk (slots_boxed hso), hJ _ _ _ _ _ hj (RE.below s) (RE.grows s)⟩
structure Fills (w0 : World) (w : World) (S : Stab) (b es n : Nat) (e : TypeId) (l : List D) : Prop where
  below : Below w0.heap.size w0 w
  new : w0.heap.size ≤ b
  free : ∀ o, S b o = none
  has : ∃ cs vs F, w.heap[b]? = some (.cells cs e (0, 0)) ∧ cs.size = n * es ∧ LinL w (flat l) vs F ∧ (∀ v ∈ vs, v.oneCell' = true) ∧ (∀ (k : Nat) v, vs[k]? = some v → cs[k]? = some v) ∧ b ∉ F ∧ ∀ x ∈ F, w0.heap.size ≤ x
theorem Fills.stay {w0 w w' : World} {S S' : Stab} {b es n : Nat} {e : TypeId} {l : List D} (h : Fills w0 w S b es n e l) (hb : Below w.heap.size w w') (hg : Grows S S' w w') : Fills w0 w' S' b es n e l := by
  obtain ⟨h1, h2, h3, cs, vs, F, h4, h5, h6, h7, h8, h9, h10⟩ := h
  exact ⟨below_comp h1 hb, h2, hg.none (lt_of_block h4) h3, cs, vs, F, (hb.block b (lt_of_block h4)).trans h4, h5, h6.stay hb, h7, h8, h9, h10⟩
theorem Fills.more {w0 w wb w' : World} {S S' : Stab} {b es n : Nat} {e : TypeId} {l : List D} {q : D} {us : List Value} {F1 : List Nat} {cs : Array Value} (h : Fills w0 w S b es n e l) (hes : ∀ x ∈ l, x.cells.length = es) (hl : l.length < n) (hw : w.heap[b]? = some (.cells cs e (0, 0)))
    (hab : Below w.heap.size w wb) (hq : LinL wb q.cells us F1) (hF : ∀ x ∈ F1, w.heap.size ≤ x) (hlen : us.length = es) (hone : ∀ v ∈ us, v.oneCell' = true) (hk : KW wb [b] w') (hb : w'.heap[b]? = some (.cells (splice cs (l.length * es) us) e (0, 0))) (hS : ∀ o, S' b o = none) : Fills w0 w' S' b es n e (l ++ [q]) := by
  obtain ⟨h1, h2, h3, cs', vs, F, h4, h5, h6, h7, h8, h9, h10⟩ := h
  rw [hw] at h4
  cases h4
  have hbl := lt_of_block hw
  have hvl : vs.length = l.length * es := by rw [← h6.length, flat_len_of hes]
  have hfit : l.length * es + us.length ≤ cs.size := by
    rw [h5, hlen]
    calc l.length * es + es = (l.length + 1) * es := by rw [Nat.add_mul]; omega
      _ ≤ n * es := Nat.mul_le_mul_right _ hl
  have keep : ∀ x, x < wb.heap.size → x ≠ b → w'.heap[x]? = wb.heap[x]? := fun x hx hne => hk.frame x hx (by simpa using hne)
  have h6b := h6.stay hab
  have hne : ∀ x ∈ F1, x ≠ b := fun x hx c => by have := hF x hx; omega
  refine ⟨below_kw (below_comp h1 hab) hk h2, h2, hS, _, vs ++ us, F ++ F1, hb, by rw [splice_size hfit, h5], ?_, fun v hv => (List.mem_append.1 hv).elim (h7 v) (hone v), fun k v hv => ?_, fun c => (List.mem_append.1 c).elim h9 (fun c => hne b c rfl), fun x hx => (List.mem_append.1 hx).elim (h10 x) (fun c => Nat.le_trans h1.size (hF x c))⟩
  · rw [flat_append, show flat [q] = q.cells from by simp [flat]]
    exact (h6b.keep fun x hx => keep x (h6b.lt x hx) (fun c => h9 (c ▸ hx))).append (hq.keep fun x hx => keep x (hq.lt x hx) (hne x hx)) (fun x hx c => by have := h6.lt x hx; have := hF x c; omega)
  · rw [splice_get hfit]
    by_cases hlt : k < vs.length
    · rw [List.getElem?_append_left hlt] at hv
      rw [if_neg (by omega)]; exact h8 k v hv
    · rw [List.getElem?_append_right (by omega)] at hv
      have := (List.getElem?_eq_some_iff.1 hv).1
      rw [if_pos (by omega), ← hvl]; exact hv
theorem Fills.done {w0 w w' : World} {S : Stab} {b es n : Nat} {e : TypeId} {l : List D} {us : List Value} {cs : Array Value} (h : Fills w0 w S b es n e l) (hes : ∀ x ∈ l, x.cells.length = es) (hw : w.heap[b]? = some (.cells cs e (0, 0))) (hfit : l.length * es + us.length ≤ cs.size) (hcap : l.length ≤ n) (hfew : l.length ≤ 1099511627776)
    (hk : KW w [b] w') (hb : w'.heap[b]? = some (.cells (splice cs (l.length * es) us) e (0, 0))) : Below w0.heap.size w0 w' ∧ ∃ F, Lin w' (.list es l) (.slice (some ⟨b, 0, none⟩) l.length n) F ∧ ∀ x ∈ F, w0.heap.size ≤ x := by
  obtain ⟨h1, h2, h3, cs', vs, F, h4, h5, h6, h7, h8, h9, h10⟩ := h
  rw [hw] at h4
  cases h4
  have hvl : vs.length = l.length * es := by rw [← h6.length, flat_len_of hes]
  refine ⟨below_kw h1 hk h2, b :: F, ?_, fun x hx => (List.mem_cons.1 hx).elim (fun c => c ▸ h2) (h10 x)⟩
  refine .list ⟨hcap, hfew, by rw [splice_size hfit, h5]; omega⟩ hb hes (h6.keep fun x hx => hk.frame x (h6.lt x hx) (fun c => h9 (List.mem_singleton.1 c ▸ hx))) h7 (fun k v hv => ?_) h9
  have := (List.getElem?_eq_some_iff.1 hv).1
  rw [Nat.zero_add, splice_get hfit, if_neg (by omega)]
  exact h8 k v hv
theorem LinL.one {w : World} {l : List D} {us : List Value} {F : List Nat} (h : LinL w l us F) (h1 : ∀ x ∈ l, (V.d x).one = true) : ∀ u ∈ us, u.oneCell' = true := relL_one h.rel h1
end Go.Ab

/- Regions that draw their order, by what holds when some of the operations are done. No program. -/
namespace Go.Ab
open Go Go.RowKit
variable {P : Program} {Q : Exit → Act → World → Prop}
theorem draw_inv {l : List Oper} (I : List Bool → Act → World → Prop) (hg : ∀ o ∈ l, o.guard = none) (hlow : ∀ (i : Nat) o, l[i]? = some o → ∀ e ∈ o.after, Region.binds .any e = true → e.on < i)
    (step : ∀ (ls : List Bool) (i : Nat) o a w, ls.length = l.length → I ls a w → l[i]? = some o → ls[i]? = some false → (∀ e ∈ o.after, Region.binds .any e = true → ls[e.on]? = some true) → o.wp P a w (I (ls.set i true)) Q)
    (fin : ∀ ls a w, ls.length = l.length → (∀ j, j < l.length → ls[j]? = some true) → I ls a w → Q .normal a w) :
    ∀ (fuel : Nat) (ls : List Bool) (a : Act) (w : World), ls.length = l.length → ls.count false = fuel → I ls a w → wpAny P .any l.toArray Q fuel ls.toArray a w := by
  intro fuel
  induction fuel with
  | zero =>
    intro ls a w hl hc hI
    have hall : ∀ j, j < l.length → ls[j]? = some true := fun j hj => by
      have hj' : j < ls.length := by omega
      rw [List.getElem?_eq_getElem hj']
      have hn : ls[j] ≠ false := fun c => by
        have : 0 < ls.count false := List.count_pos_iff.2 (c ▸ List.getElem_mem hj')
        omega
      simpa using hn
    refine ⟨?_, fin ls a w hl hall hI⟩
    rw [List.eq_nil_iff_forall_not_mem]
    intro j hj
    obtain ⟨h1, o, h2, _⟩ := mem_ready.1 hj
    have hj' : j < l.length := by simpa using (Array.getElem?_eq_some_iff.1 h2).1
    have := hall j hj'
    simp [Array.getD_eq_getD_getElem?, this] at h1
  | succ fuel ih =>
    intro ls a w hl hc hI
    have hrdy : ∀ i, i ∈ Region.ready .any l.toArray ls.toArray ↔ ls[i]? = some false ∧ ∃ o, l[i]? = some o ∧ ∀ e ∈ o.after, Region.binds .any e = true → ls[e.on]? = some true := fun i => by
      rw [mem_ready]
      constructor
      · rintro ⟨h1, o, h2, h3⟩
        have h2' : l[i]? = some o := by simpa using h2
        have hi : i < ls.length := by rw [hl]; exact (List.getElem?_eq_some_iff.1 h2').1
        refine ⟨by rw [List.getElem?_eq_getElem hi]; simpa [Array.getD_eq_getD_getElem?, hi] using h1, o, h2', fun e he hb => ?_⟩
        have := h3 e he hb
        cases hx : ls[e.on]? with
        | none => simp [Array.getD_eq_getD_getElem?, hx] at this
        | some b => simp [Array.getD_eq_getD_getElem?, hx] at this; rw [this]
      · rintro ⟨h1, o, h2, h3⟩
        exact ⟨by simp [Array.getD_eq_getD_getElem?, h1], o, by simpa using h2, fun e he hb => by simp [Array.getD_eq_getD_getElem?, h3 e he hb]⟩
    refine ⟨fun hnil => ?_, fun i hi => ?_⟩
    · exfalso
      have hex : ∃ i : Nat, ls[i]? = some false := by
        have : 0 < ls.count false := by omega
        obtain ⟨i, hi⟩ := List.getElem?_of_mem (List.count_pos_iff.1 this)
        exact ⟨i, hi⟩
      obtain ⟨m, hmin, hle⟩ := exists_least hex
      have hlt : m < ls.length := (List.getElem?_eq_some_iff.1 hmin).1
      obtain ⟨o, ho⟩ : ∃ o, l[m]? = some o := ⟨_, List.getElem?_eq_getElem (by omega)⟩
      have hmem : m ∈ Region.ready .any l.toArray ls.toArray := (hrdy _).2 ⟨hmin, o, ho, fun e he hb => by
        have h1 := hlow _ o ho e he hb
        have h3 : ¬ ls[e.on]? = some false := fun c => by have := hle _ c; omega
        rw [List.getElem?_eq_getElem (by omega : e.on < ls.length)] at h3 ⊢
        simpa using h3⟩
      rw [hnil] at hmem
      cases hmem
    · obtain ⟨hfalse, o, ho, hdeps⟩ := (hrdy i).1 hi
      have hil' : i < ls.length := (List.getElem?_eq_some_iff.1 hfalse).1
      have h1 := step ls i o a w hl hI ho hfalse hdeps
      show wpOp P l.toArray Q i _ a w
      unfold wpOp
      have ho' : l.toArray[i]? = some o := by simpa using ho
      simp only [ho']
      rw [if_pos (by simp [Region.wanted, hg o (List.mem_of_getElem? ho)])]
      refine .inl (Oper.wp_mono (fun a' w' h' => ?_) h1)
      have := ih (ls.set i true) a' w' (by simp [hl]) (by
        rw [List.count_set hil']
        have hx : ls[i] = false := by rw [List.getElem?_eq_getElem hil'] at hfalse; exact Option.some.inj hfalse
        simp [hx]; omega) h'
      simpa using this
theorem wp_drawn_inv {id : Nat} {l : List Oper} {a : Act} {w : World} (I : List Bool → Act → World → Prop) (hm : P.follows .mixedOrders = true) (hg : ∀ o ∈ l, o.guard = none) (hlow : ∀ (i : Nat) o, l[i]? = some o → ∀ e ∈ o.after, Region.binds .any e = true → e.on < i)
    (step : ∀ (ls : List Bool) (i : Nat) o a w, ls.length = l.length → I ls a w → l[i]? = some o → ls[i]? = some false → (∀ e ∈ o.after, Region.binds .any e = true → ls[e.on]? = some true) → o.wp P a w (I (ls.set i true)) Q)
    (fin : ∀ ls a w, ls.length = l.length → (∀ j, j < l.length → ls[j]? = some true) → I ls a w → Q .normal a w) (h0 : I (List.replicate l.length false) a { w with drawn := w.drawn + 1 }) : (Code.region id l.toArray true).wp P Q a w := by
  refine wp_region_any hm ?_
  have := draw_inv (Q := Q) I hg hlow step fin l.length (List.replicate l.length false) a _ (by simp) (by simp) h0
  simpa using this
def Contig (place : Nat → Option (Nat × Nat)) : List (Nat × D) → Nat → Prop
  | [], _ => True
  | (i, q) :: r, off => place i = some (off, q.cells.length) ∧ q.plain = true ∧ Contig place r (off + q.cells.length)
theorem fillD_concat {place : Nat → Option (Nat × Nat)} : ∀ {ps : List (Nat × D)} {pre rest : List D}, Contig place ps pre.length → rest.length = (ps.flatMap fun p => p.2.cells).length → fillD place (pre ++ rest) ps = some (pre ++ ps.flatMap fun p => p.2.cells)
  | [], pre, rest, _, hr => by
    have : rest = [] := List.length_eq_zero_iff.1 (by simpa using hr)
    subst this; simp [fillD]
  | (i, q) :: ps, pre, rest, ⟨h1, h2, h3⟩, hr => by
    simp only [List.flatMap_cons, List.length_append] at hr
    have hc : (q.cells.length == q.cells.length && Nat.ble (pre.length + q.cells.length) (pre ++ rest).length && q.plain) = true := by
      rw [h2]; simp [Nat.ble_eq]; omega
    simp only [fillD, h1, hc, if_true]
    have hs : setL (pre ++ rest) pre.length q.cells = (pre ++ q.cells) ++ rest.drop q.cells.length := by
      unfold setL
      rw [List.take_left, List.drop_append, List.drop_eq_nil_of_le (by omega), List.nil_append, show pre.length + q.cells.length - pre.length = q.cells.length from by omega]
    rw [hs, fillD_concat (by rw [List.length_append]; exact h3) (by rw [List.length_drop, hr]; omega)]
    simp
end Go.Ab

