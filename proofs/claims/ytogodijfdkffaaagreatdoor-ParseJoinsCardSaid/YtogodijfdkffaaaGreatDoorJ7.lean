/- Parts of the walk, joined. -/
import Derived.Test.YtogodijfdkffaaaGreatDoorAbPf
import Derived.Test.YtogodijfdkffaaaGreatDoorJ5
set_option linter.unusedVariables false
set_option linter.unusedSimpArgs false
set_option maxRecDepth 100000
/- The parser's statements over data. -/
namespace Go.Proofs.YtogodijfdkffaaaGreatDoor.Ln
open Go Go.RowKit Go.Ab Go.Proofs 
theorem bu272 : bk Tryz.prog 272 = some ([(0, 1), (1, 1)], [.int .u8 0, .nilFunc]) := by kernel_rfl
theorem mpk274 : mpk Tryz.prog 274 = some (9, 272, .agg ⟨[.int .u8 0, .nilFunc]⟩) := by kernel_rfl
theorem en217 : enters Tryz.prog 217 = true := by kernel_rfl
theorem zc70 : zc Tryz.prog 70 = some [.int .u8 0, .string ByteArray.empty, .string ByteArray.empty, .string ByteArray.empty, .int .i64 0, .slice none 0 0, .slice none 0 0, .slice none 0 0, .int .i64 0] := by kernel_rfl
theorem kf70_8 : kf Tryz.prog 70 8 = some 8 := by kernel_rfl
theorem zc272 : zc Tryz.prog 272 = some [.int .u8 0, .nilFunc] := by kernel_rfl
theorem kd272 : kd Tryz.prog 272 = some (true, 2) := by kernel_rfl
theorem kf70_1 : kf Tryz.prog 70 1 = some 1 := by kernel_rfl
theorem kf70_0 : kf Tryz.prog 70 0 = some 0 := by kernel_rfl
theorem kd68 : kd Tryz.prog 68 = some (false, 1) := by kernel_rfl
theorem kf70_2 : kf Tryz.prog 70 2 = some 2 := by kernel_rfl
theorem kf70_5 : kf Tryz.prog 70 5 = some 5 := by kernel_rfl
theorem kd70 : kd Tryz.prog 70 = some (true, 9) := by kernel_rfl
theorem en220 : enters Tryz.prog 220 = true := by kernel_rfl
theorem en130 : enters Tryz.prog 130 = true := by kernel_rfl
theorem kf70_6 : kf Tryz.prog 70 6 = some 6 := by kernel_rfl
theorem kd54 : kd Tryz.prog 54 = some (false, 1) := by kernel_rfl
theorem kf70_7 : kf Tryz.prog 70 7 = some 7 := by kernel_rfl
theorem kf272_0 : kf Tryz.prog 272 0 = some 0 := by kernel_rfl
theorem kf272_1 : kf Tryz.prog 272 1 = some 1 := by kernel_rfl
theorem kd270 : kd Tryz.prog 270 = some (false, 1) := by kernel_rfl
theorem en236 : enters Tryz.prog 236 = true := by kernel_rfl
theorem en237 : enters Tryz.prog 237 = true := by kernel_rfl
theorem en250 : enters Tryz.prog 250 = true := by kernel_rfl
theorem en238 : enters Tryz.prog 238 = true := by kernel_rfl
theorem en251 : enters Tryz.prog 251 = true := by kernel_rfl
theorem kf70_3 : kf Tryz.prog 70 3 = some 3 := by kernel_rfl
theorem en239 : enters Tryz.prog 239 = true := by kernel_rfl
theorem en240 : enters Tryz.prog 240 = true := by kernel_rfl
theorem en241 : enters Tryz.prog 241 = true := by kernel_rfl
theorem en242 : enters Tryz.prog 242 = true := by kernel_rfl
theorem kf70_4 : kf Tryz.prog 70 4 = some 4 := by kernel_rfl
theorem sk54 : sk Tryz.prog 54 = some (70, 9, [.int .u8 0, .string ByteArray.empty, .string ByteArray.empty, .string ByteArray.empty, .int .i64 0, .slice none 0 0, .slice none 0 0, .slice none 0 0, .int .i64 0]) := by kernel_rfl
theorem apk54 : apk Tryz.prog 54 54 = some (70, 9, 144) := by kernel_rfl
theorem en182 : enters Tryz.prog 182 = true := by kernel_rfl
theorem bind_bind {ω α β γ : Type} (f : α → Pr ω β) (g : β → Pr ω γ) : ∀ p : Pr ω α, (p.bind f).bind g = p.bind fun x => (f x).bind g
  | .ret a => rfl
  | .bad => rfl
  | .oof => rfl
  | .look k => by show Pr.look _ = Pr.look _; congr 1; funext x; exact bind_bind f g (k x)
  | .take p => by show Pr.take _ = Pr.take _; congr 1; exact bind_bind f g p
theorem ret_bind {ω α β : Type} (a : α) (k : α → Pr ω β) : (Pr.ret a).bind k = k a := rfl
theorem bind_congr' {ω α β : Type} {p : Pr ω α} {k k' : α → Pr ω β} (h : ∀ a, k a = k' a) : p.bind k = p.bind k' := by rw [funext h]
def semi (x : Sm) : PW Sm := (needP [[59]]).bind fun _ => .ret x
def formK (f kind line : Nat) : Nat → PW Sm
  | 0 => nameP.bind fun s => semi (.mk kind s [] [] 0 [] [] [] line)
  | 1 => nameP.bind fun s => (indexP f).bind fun x => semi (.mk kind s [] [] 0 [x] [] [] line)
  | 2 => fieldP.bind fun p => (needP [[61]]).bind fun _ => nameP.bind fun a => (indexP f).bind fun x => semi (.mk kind p.1 p.2 a 0 [x] [] [] line)
  | 3 => nameP.bind fun a => (indexP f).bind fun x => (needP [[61]]).bind fun _ => (exP f 0).bind fun y => semi (.mk kind [] [] a 0 [x, y] [] [] line)
  | 4 => fieldP.bind fun p => semi (.mk kind p.1 p.2 [] 0 [] [] [] line)
  | 5 => semi (.mk kind [] [] [] 0 [] [] [] line)
  | _ => wholeP.bind fun n => semi (.mk kind [] [] [] n [] [] [] line)
theorem formK_eq (f kind line : Nat) : ∀ form, ((formP f kind line form).bind fun x => (needP [[59]]).bind fun _ => .ret x) = formK f kind line form
  | 0 => by simp only [formP, formK, semi, bind_bind, ret_bind]
  | 1 => by simp only [formP, formK, semi, bind_bind, ret_bind]
  | 2 => by simp only [formP, formK, semi, bind_bind, ret_bind]
  | 3 => by simp only [formP, formK, semi, bind_bind, ret_bind]
  | 4 => by simp only [formP, formK, semi, bind_bind, ret_bind]
  | 5 => by simp only [formP, formK, semi, bind_bind, ret_bind]
  | n + 6 => by simp only [formP, formK, semi, bind_bind, ret_bind]
def setK (f : Nat) (w : Wd) (s : Tx) : PW Sm := (needP [[46]]).bind fun _ => nameP.bind fun t => (needP [[61]]).bind fun _ => (exP f 0).bind fun x => semi (.mk 1 s t [] 0 [x] [] [] w.ln)
def restK (f : Nat) (w : Wd) : PW Sm := (mayP [105, 102]).bind fun b => if b = true then (exP f 0).bind fun x => (blP f).bind fun l => (mayP [101, 108, 115, 101]).bind fun c => if c = true then (blP f).bind fun m => .ret (.mk 2 [] [] [] 0 [x] l m w.ln) else .ret (.mk 2 [] [] [] 0 [x] l [] w.ln)
  else (mayP [100, 105, 103, 101, 115, 116]).bind fun b => if b = true then (exR f [59] []).bind fun l => .ret (.mk 13 [] [] [] 0 l [] [] w.ln)
  else ownerP.bind fun s => if s = txMeta then setK f w s else (mayP [40]).bind fun b => if b = true then ((mayP [41]).bind fun c => if c = true then .ret [] else exR f [41] []).bind fun l => semi (.mk 4 s [] [] 0 l [] [] w.ln) else setK f w s
def stK (f : Nat) (w : Wd) : PW Sm := match (if w.k = 1 then simpleOf w.s else none) with
  | some (kind, form) => .take (formK f kind w.ln form)
  | none => restK f w
theorem smP_eq (f : Nat) : smP (f + 1) = .look fun w => stK f w := by
  rw [smP]
  congr 1
  funext w
  unfold stK
  cases h : (if w.k = 1 then simpleOf w.s else none) with
  | some p =>
    obtain ⟨kind, form⟩ := p
    show Pr.take _ = Pr.take _
    rw [formK_eq]
  | none =>
    show _ = restK f w
    unfold restK
    refine bind_congr' fun b => ite_congr rfl (fun _ => rfl) fun _ => bind_congr' fun b => ite_congr rfl (fun _ => rfl) fun _ => bind_congr' fun s => ?_
    by_cases hs : s = txMeta
    · rw [if_pos hs, if_pos hs]; rfl
    · rw [if_neg hs, if_neg hs]
      refine bind_congr' fun b => ite_congr rfl (fun _ => ?_) (fun _ => rfl)
      rw [bind_bind]; rfl
theorem eager_may {α : Type} {s : Tx} {A B : PW α} (hA : Tame A) (hB : Eager B) : Eager ((mayP s).bind fun b => if b = true then A else B) := fun h hi => by
  obtain ⟨b, m, h1, h2⟩ := run_ok h
  rcases may_at h1 with ⟨rfl, rfl, q⟩ | ⟨rfl, rfl⟩
  · rw [if_pos rfl] at h2
    have := hA h2 q
    exact ⟨by omega, this.2⟩
  · rw [if_neg Bool.false_ne_true] at h2
    exact hB h2 hi
theorem eager_owner : Eager ownerP := eager_may (tame_ret _) eager_name
theorem tame_index (f : Nat) : Tame (indexP f) := tame_bind (tame_need _) fun _ => tame_bind (tame_ex f 0) fun x => tame_bind (tame_need _) fun _ => tame_ret _
theorem tame_semi (x : Sm) : Tame (semi x) := tame_bind (tame_need _) fun _ => tame_ret _
theorem tame_field : Tame fieldP := tame_bind tame_owner fun a => tame_bind (tame_need _) fun _ => tame_bind eager_name.tame fun b => tame_ret _
theorem tame_form (f kind line : Nat) : ∀ form, Tame (formK f kind line form)
  | 0 => tame_bind eager_name.tame fun s => tame_semi _
  | 1 => tame_bind eager_name.tame fun s => tame_bind (tame_index f) fun x => tame_semi _
  | 2 => tame_bind tame_field fun p => tame_bind (tame_need _) fun _ => tame_bind eager_name.tame fun a => tame_bind (tame_index f) fun x => tame_semi _
  | 3 => tame_bind eager_name.tame fun a => tame_bind (tame_index f) fun x => tame_bind (tame_need _) fun _ => tame_bind (tame_ex f 0) fun y => tame_semi _
  | 4 => tame_bind tame_field fun p => tame_semi _
  | 5 => tame_semi _
  | n + 6 => tame_bind eager_whole.tame fun n => tame_semi _
theorem tame_set (f : Nat) (w : Wd) (s : Tx) : Tame (setK f w s) := tame_bind (tame_need _) fun _ => tame_bind eager_name.tame fun t => tame_bind (tame_need _) fun _ => tame_bind (tame_ex f 0) fun x => tame_semi _
mutual
theorem eager_sm : ∀ f : Nat, Eager (smP f)
  | 0 => by rw [smP]; exact fun h hi => by cases h
  | f + 1 => by
    rw [smP_eq]
    rename_i L i j a
    intro hr hi
    change (stK f (wordAt wEnd L i)).run wEnd L i = _ at hr
    unfold stK at hr
    split at hr
    · rename_i kind form he
      have hk : (wordAt wEnd L i).k = 1 := by
        by_cases h : (wordAt wEnd L i).k = 1
        · exact h
        · rw [if_neg h] at he; cases he
      have h1 := word_in (L := L) (i := i) (by rw [hk]; decide)
      have := tame_form f kind _ form (show (formK f kind _ form).run wEnd L (i + 1) = _ from hr) h1
      exact ⟨by omega, this.2⟩
    · exact (show Eager (restK f (wordAt wEnd L i)) from eager_may (tame_bind (tame_ex f 0) fun x => tame_bind (tame_bl f) fun l => tame_bind (tame_may _) fun c => tame_ite (tame_bind (tame_bl f) fun m => tame_ret _) (tame_ret _))
        (eager_may (tame_bind (tame_exR f _ _) fun l => tame_ret _) (eager_bind eager_owner fun s => tame_ite (tame_set f _ s) (tame_bind (tame_may _) fun b => tame_ite (tame_bind (tame_bind (tame_may _) fun c => tame_ite (tame_ret _) (tame_exR f _ _)) fun l => tame_semi _) (tame_set f _ s))))) hr hi
theorem tame_bl : ∀ f : Nat, Tame (blP f)
  | 0 => by rw [blP]; exact tame_oof
  | f + 1 => by rw [blP]; exact tame_bind (tame_need _) fun _ => tame_sms f []
theorem tame_sms : ∀ (f : Nat) (acc : List Sm), Tame (smsP f acc)
  | 0, acc => by rw [smsP]; exact tame_oof
  | f + 1, acc => by rw [smsP]; exact tame_bind (tame_may _) fun b => tame_ite (tame_ret _) (tame_bind (Eager.tame (p := smP f) (eager_sm f)) fun x => tame_sms f _)
end
theorem simple_form {s : Tx} {k fm : Nat} (h : simpleOf s = some (k, fm)) : fm < 7 := by
  have key : ∀ l : List (Tx × Nat × Nat), (∀ p ∈ l, p.2.2 < 7) → (l.findSome? fun p => if p.1 = s then some p.2 else none) = some (k, fm) → fm < 7 := by
    intro l
    induction l with
    | nil => intro _ h; cases h
    | cons p l ih =>
      intro hp h
      rw [List.findSome?_cons] at h
      by_cases hs : p.1 = s
      · rw [if_pos hs] at h
        have e := Option.some.inj h
        have := hp p (by simp)
        rw [e] at this; exact this
      · rw [if_neg hs] at h
        exact ih (fun q hq => hp q (by simp [hq])) h
  exact key simples (by decide) h
def formF : Nat → Nat
  | 0 => 236
  | 1 => 237
  | 2 => 238
  | 3 => 239
  | 4 => 240
  | 5 => 241
  | _ => 242
def mvV (b f : Nat) : Value := .func (.func f) #[.pointer (some ⟨b, 0, none⟩)] #[]
def saidV (b : Nat) (p : Nat × Nat) : Value := .agg ⟨[.int .u8 (p.1 : Int), mvV b (formF p.2)]⟩
def simpleE (b : Nat) : List (ByteArray × Value) := simples.map fun p => (B p.1, saidV b p.2)
def saidD (b : Nat) : Option (Nat × Nat) → D
  | none => .agg [.sc (.int .u8 0), .sc .nilFunc]
  | some p => .agg [.sc (.int .u8 (p.1 : Int)), .sc (mvV b (formF p.2))]
theorem look_simple (b : Nat) (s : Tx) : aggD ((findE (B s) (simpleE b)).getD (.agg ⟨[.int .u8 0, .nilFunc]⟩)) = saidD b (simpleOf s) ∧ (findE (B s) (simpleE b)).isSome = (simpleOf s).isSome := by
  have : findE (B s) (simpleE b) = (simpleOf s).map (saidV b) := find_map s (saidV b) simples
  rw [this]
  cases simpleOf s <;> exact ⟨rfl, rfl⟩
def smCs : Sm → List D
  | .mk kind name field array n args body els line => [.sc (.int .u8 (kind : Int)), txD name, txD field, txD array, nD n, .list 10 (exDs args), .list 9 (smDs body), .list 9 (smDs els), nD line]
theorem smD_cs (x : Sm) : smD x = .agg (smCs x) := by cases x; rw [smD]; rfl
theorem smDs_map : ∀ l : List Sm, smDs l = l.map smD
  | [] => rfl
  | x :: l => by rw [smDs, List.map_cons, smDs_map l]
def smLD (l : List Sm) : D := .list 9 (l.map smD)
abbrev oS (L : List Wd) (f i : Nat) : Oc := ocOf (LDw L) smD ((smP f).run wEnd L i)
abbrev oB (L : List Wd) (f i : Nat) : Oc := ocOf (LDw L) smLD ((blP f).run wEnd L i)
def exAll (L : List Wd) (f : Nat) : Prop := (∀ lv : Nat, lv ≤ 8 → ∀ {i : Nat}, i ≤ L.length → CallsX Tryz.prog Lw pvN 216 [LDw L, .sc (.int .i64 (i : Int))] (fun _ => [.sc (.int .i64 (lv : Int))]) (oX L f lv i)) ∧ (∀ {i : Nat}, i ≤ L.length → CallsX Tryz.prog Lw pvN 234 [LDw L, .sc (.int .i64 (i : Int))] (fun _ => []) (oX L f 8 i)) ∧ (∀ {i : Nat}, i ≤ L.length → CallsX Tryz.prog Lw pvN 249 [LDw L, .sc (.int .i64 (i : Int))] (fun _ => []) (oX L f 9 i)) ∧ (∀ {i : Nat}, i ≤ L.length → CallsX Tryz.prog Lw pvN 179 [LDw L, .sc (.int .i64 (i : Int))] (fun _ => []) (oX L f 0 i))
theorem ex_all {L : List Wd} (hL : L.length ≤ 65536) (hS : Small L) : ∀ f g, g ≤ f → exAll L g
  | 0, g, hg => by
    obtain rfl : g = 0 := by omega
    have h0 : ∀ lv i, oX L 0 lv i = .any := fun lv i => by unfold oX; rw [exP]; rfl
    exact ⟨fun lv _ i _ => by rw [h0]; exact call_any, fun _ => by rw [h0]; exact call_any, fun _ => by rw [h0]; exact call_any, fun _ => by rw [h0]; exact call_any⟩
  | f + 1, g, hg => by
    by_cases h : g ≤ f
    · exact ex_all hL hS f g h
    obtain rfl : g = f + 1 := by omega
    have ih := ex_all hL hS f
    have hp : ∀ {i : Nat}, i ≤ L.length → CallsX Tryz.prog Lw pvN 249 [LDw L, .sc (.int .i64 (i : Int))] (fun _ => []) (oX L (f + 1) 9 i) := fun hi => prim_c hL hi hS fun g hg => (ih g hg).2.2.2
    have hu : ∀ {i : Nat}, i ≤ L.length → CallsX Tryz.prog Lw pvN 234 [LDw L, .sc (.int .i64 (i : Int))] (fun _ => []) (oX L (f + 1) 8 i) := fun hi => un_c hL hi hS (ih f (Nat.le_refl _)).2.1 (ih f (Nat.le_refl _)).2.2.1
    have hl : ∀ lv : Nat, lv ≤ 8 → ∀ {i : Nat}, i ≤ L.length → CallsX Tryz.prog Lw pvN 216 [LDw L, .sc (.int .i64 (i : Int))] (fun _ => [.sc (.int .i64 (lv : Int))]) (oX L (f + 1) lv i) := fun lv hlv i hi => by
      by_cases h8 : lv = 8
      · subst h8; exact level8_c hL hi hu
      · exact level_c hL hi (by omega) fun g hg => (ih g hg).1 (lv + 1) (by omega)
    exact ⟨hl, hu, hp, fun hi => expr_c hL hi (hl 0 (by omega))⟩
set_option maxHeartbeats 4000000 in
theorem simple_c (b : Nat) : CallsM Tryz.prog Lw 217 [.sc (.pointer (some ⟨b, 0, none⟩))] (simpleE b) := by
  refine callsG_of (R := fun w0 S0 => PostM w0 (simpleE b)) gs_lw Tryz.func217 rfl Tryz.ntmps217 rfl fun w0 S0 stab => ?_
  refine sqq <| rgq <| asq rfl rfl <| nxq <| sqq <| rgq <| sq (f_makeMap (lt rfl)) rfl rfl <| mvq rfl rfl ?_
  refine sq (f_methodValD rfl (lt rfl)) rfl rfl <| sq (f_build bu272 rfl rfl (lt rfl)) rfl rfl <| sq (f_mapIns mpk274 rfl rfl rfl rfl rfl rfl (by kernel_rfl)) rfl rfl <| mvq rfl rfl <| sq (f_methodValD rfl (lt rfl)) rfl rfl <| sq (f_build bu272 rfl rfl (lt rfl)) rfl rfl <| sq (f_mapIns mpk274 rfl rfl rfl rfl rfl rfl (by kernel_rfl)) rfl rfl <| mvq rfl rfl ?_
  refine sq (f_methodValD rfl (lt rfl)) rfl rfl <| sq (f_build bu272 rfl rfl (lt rfl)) rfl rfl <| sq (f_mapIns mpk274 rfl rfl rfl rfl rfl rfl (by kernel_rfl)) rfl rfl <| mvq rfl rfl <| sq (f_methodValD rfl (lt rfl)) rfl rfl <| sq (f_build bu272 rfl rfl (lt rfl)) rfl rfl <| sq (f_mapIns mpk274 rfl rfl rfl rfl rfl rfl (by kernel_rfl)) rfl rfl <| mvq rfl rfl ?_
  refine sq (f_methodValD rfl (lt rfl)) rfl rfl <| sq (f_build bu272 rfl rfl (lt rfl)) rfl rfl <| sq (f_mapIns mpk274 rfl rfl rfl rfl rfl rfl (by kernel_rfl)) rfl rfl <| mvq rfl rfl <| sq (f_methodValD rfl (lt rfl)) rfl rfl <| sq (f_build bu272 rfl rfl (lt rfl)) rfl rfl <| sq (f_mapIns mpk274 rfl rfl rfl rfl rfl rfl (by kernel_rfl)) rfl rfl <| mvq rfl rfl ?_
  refine sq (f_methodValD rfl (lt rfl)) rfl rfl <| sq (f_build bu272 rfl rfl (lt rfl)) rfl rfl <| sq (f_mapIns mpk274 rfl rfl rfl rfl rfl rfl (by kernel_rfl)) rfl rfl <| mvq rfl rfl <| sq (f_methodValD rfl (lt rfl)) rfl rfl <| sq (f_build bu272 rfl rfl (lt rfl)) rfl rfl <| sq (f_mapIns mpk274 rfl rfl rfl rfl rfl rfl (by kernel_rfl)) rfl rfl <| mvq rfl rfl ?_
  refine sq (f_methodValD rfl (lt rfl)) rfl rfl <| sq (f_build bu272 rfl rfl (lt rfl)) rfl rfl <| sq (f_mapIns mpk274 rfl rfl rfl rfl rfl rfl (by kernel_rfl)) rfl rfl <| mvq rfl rfl <| sq (f_methodValD rfl (lt rfl)) rfl rfl <| sq (f_build bu272 rfl rfl (lt rfl)) rfl rfl <| sq (f_mapIns mpk274 rfl rfl rfl rfl rfl rfl (by kernel_rfl)) rfl rfl <| mvq rfl rfl ?_
  refine sq (f_methodValD rfl (lt rfl)) rfl rfl <| sq (f_build bu272 rfl rfl (lt rfl)) rfl rfl <| sq (f_mapIns mpk274 rfl rfl rfl rfl rfl rfl (by kernel_rfl)) rfl rfl <| mvq rfl rfl <| sq (f_methodValD rfl (lt rfl)) rfl rfl <| sq (f_build bu272 rfl rfl (lt rfl)) rfl rfl <| sq (f_mapIns mpk274 rfl rfl rfl rfl rfl rfl (by kernel_rfl)) rfl rfl <| mvq rfl rfl ?_
  refine asq rfl rfl <| nxq <| rtq ?_
  exact hits_doneM (.inl rfl) rfl rfl rfl rfl rfl
set_option maxHeartbeats 8000000 in
set_option maxHeartbeats 4000000 in
theorem stmt_c {L : List Wd} {i : Nat} (hL : L.length ≤ 65536) (hi : i ≤ L.length) (hS : Small L) {f : Nat} (hX : ∀ g, g ≤ f → exAll L g) (hB : ∀ {i : Nat}, i ≤ L.length → CallsX Tryz.prog Lw pvN 130 [LDw L, .sc (.int .i64 (i : Int))] (fun _ => []) (oB L f i)) : CallsX Tryz.prog Lw pvN 183 [LDw L, .sc (.int .i64 (i : Int))] (fun b => []) (ocOf (LDw L) (smD) ((smP (f + 1)).run wEnd L i)) := by
  refine callsX_of (m := 0) Tryz.func183 rfl Tryz.ntmps183 (fun _ => rfl) rfl rfl fun hne w0 S0 b stab => ?_
  obtain ⟨o, hO⟩ : ∃ o, o = ocOf (LDw L) (smD) ((smP (f + 1)).run wEnd L i) := ⟨_, rfl⟩
  rw [← hO] at hne ⊢
  rw [smP_eq] at hO
  change o = ocOf (LDw L) smD ((stK f (wordAt wEnd L i)).run wEnd L i) at hO
  rw [stK] at hO
  have h3 := look_simple b (wordAt wEnd L i).s
  refine sqq <| rgq <| sq (f_alloc zc70 (lt rfl)) rfl rfl <| nxq <| sqq <| rgq <| mvq rfl rfl <| sq_callB en33 rfl rfl (next_c hL hi) ⟨rfl, rfl, trivial⟩ rfl rfl rfl rfl (lt rfl) ?_
  refine sq (f_alloc zc37 (lt rfl)) rfl rfl <| soq kd37 rfl rfl rfl rfl rfl <| nxq <| sqq <| rgq <| faq rfl kf37_3 rfl rfl <| ldq kd3 rfl rfl rfl <| faq rfl kf70_8 rfl rfl ?_
  refine soq kd3 rfl rfl rfl rfl rfl <| nxq <| sqq <| sqq ?_
  rcases h2 : simpleOf (wordAt wEnd L i).s with _ | ⟨kind, form⟩
  · rw [h2] at h3
    have hO : o = ocOf (LDw L) smD ((restK f (wordAt wEnd L i)).run wEnd L i) := by rw [hO, h2, ite_self]
    rw [restK] at hO
    refine hits_cellD 2 5 (q' := .list 10 []) rfl nil_list <| hits_cellD 2 6 (q' := .list 9 []) rfl nil_list <| hits_cellD 2 7 (q' := .list 9 []) rfl nil_list <| hits_drawn mixed <| dq (f_move rfl (lt rfl)) rfl rfl <| dq (f_callMP en217 rfl (simple_c b) rfl rfl (lt rfl)) rfl rfl <| dq (f_fieldAddr rfl kf37_1 rfl (lt rfl)) rfl rfl <| dq (f_load kd9 rfl rfl (lt rfl)) rfl rfl ?_
    refine dq (f_lookup mpk274 rfl rfl rfl h3.1 h3.2 (lt rfl)) rfl rfl <| dq (f_move rfl (lt rfl)) rfl rfl <| dq (f_extract rfl rfl (lt rfl)) rfl rfl <| dq (f_extract rfl rfl (lt rfl)) rfl rfl <| dq (f_alloc zc272 (lt rfl)) rfl rfl <| dq (f_store kd272 rfl rfl rfl rfl rfl) rfl rfl <| dq (f_assign rfl (lt rfl)) rfl rfl <| dq_nil rfl ?_
    refine toq <| sqq <| rgq <| mvq rfl rfl <| mvq rfl rfl <| noq rfl rfl rfl rfl rfl rfl rfl <| noq rfl rfl rfl rfl rfl rfl rfl <| noq rfl rfl rfl rfl rfl rfl rfl ?_
    refine pkq rfl rfl rfl <| nxq <| cnF rfl <| skq <| toq <| sqq <| hits_block <| sqq ?_
    refine rgq <| mvq rfl rfl ?_
    refine sq_pr hO hne (may_c hL hi [105, 102]) rfl en134 rfl rfl rfl rfl ⟨rfl, rfl, trivial⟩ rfl rfl (lt rfl) (fun _ _ hd h => And.intro hd (h)) (fun b2 j2 hq2 hO2 => ?_)
    replace hO := hO2
    clear hO2
    have hj2 := may_le hq2 hi
    cases b2
    · rw [if_neg Bool.false_ne_true] at hO
      refine asq rfl rfl <| nxq <| cnF rfl <| sqq <| rgq <| mvq rfl rfl ?_
      refine sq_pr hO hne (may_c hL hj2 [100, 105, 103, 101, 115, 116]) rfl en134 rfl rfl rfl rfl ⟨rfl, rfl, trivial⟩ rfl rfl (lt rfl) (fun _ _ hd h => And.intro hd (h)) (fun b3 j3 hq3 hO2 => ?_)
      replace hO := hO2
      clear hO2
      have hj3 := may_le hq3 hj2
      cases b3
      · rw [if_neg Bool.false_ne_true] at hO
        refine asq rfl rfl <| nxq <| cnF rfl <| skq <| inq <| toq <| sqq <| rgq ?_
        refine mvq rfl rfl ?_
        refine sq_pr hO hne (owner_c hL hj3) rfl en219 rfl rfl rfl rfl ⟨rfl, rfl, trivial⟩ rfl rfl (lt rfl) (fun _ _ hd h => And.intro hd (h)) (fun s j4 hq4 hO2 => ?_)
        replace hO := hO2
        clear hO2
        have hj4 := (tame_owner hq4 hj3).2
        refine faq rfl kf70_1 rfl rfl <| soq kd9 rfl rfl rfl rfl rfl <| nxq <| sqq <| sqq ?_
        by_cases hs : s = txMeta
        · rw [if_pos hs] at hO
          rw [setK] at hO
          refine rgq <| faq rfl kf70_1 rfl rfl <| ldq kd9 rfl rfl rfl <| sq (f_bin rfl rfl (bT ((congrArg not ((B_beq _ _).trans (decide_eq_true hs))))) (lt rfl)) rfl rfl <| mvq rfl rfl <| noq rfl rfl rfl rfl rfl rfl rfl <| noq rfl rfl rfl rfl rfl rfl rfl <| pkq rfl rfl rfl ?_
          refine nxq <| cnF rfl <| sqq <| rgq <| mvq rfl rfl ?_
          refine sq_pr hO hne (need_c (l := [46]) (ts := [[46]]) hL hj4 (by decide) (fields_g (l := [46]) (ts := [[46]]) (by decide +kernel) (by decide +kernel) (by decide +kernel))) rfl en122 rfl rfl rfl rfl ⟨rfl, rfl, trivial⟩ rfl rfl (lt rfl) (fun _ _ hd h => And.intro hd (h)) (fun um1 m1 g1 hO2 => ?_)
          replace hO := hO2
          clear hO2
          have hm1 := (tame_need _ g1 hj4).2
          refine nxq <| sqq <| rgq <| mvq rfl rfl ?_
          refine sq_pr hO hne (name_c hL hm1) rfl en121 rfl rfl rfl rfl ⟨rfl, rfl, trivial⟩ rfl rfl (lt rfl) (fun _ _ hd h => And.intro hd (h)) (fun t m2 g2 hO2 => ?_)
          replace hO := hO2
          clear hO2
          have hm2 := (eager_name g2 hm1).2
          refine faq rfl kf70_0 rfl rfl <| soq kd68 rfl rfl rfl rfl rfl <| faq rfl kf70_2 rfl rfl <| soq kd9 rfl rfl rfl rfl rfl <| nxq <| sqq <| rgq <| mvq rfl rfl ?_
          refine sq_pr hO hne (need_c (l := [61]) (ts := [[61]]) hL hm2 (by decide) (fields_g (l := [61]) (ts := [[61]]) (by decide +kernel) (by decide +kernel) (by decide +kernel))) rfl en122 rfl rfl rfl rfl ⟨rfl, rfl, trivial⟩ rfl rfl (lt rfl) (fun _ _ hd h => And.intro hd (h)) (fun um3 m3 g3 hO2 => ?_)
          replace hO := hO2
          clear hO2
          have hm3 := (tame_need _ g3 hm2).2
          refine nxq <| rgq <| mvq rfl rfl ?_
          refine sq_pr hO hne ((hX f (Nat.le_refl _)).2.2.2 hm3) rfl en179 rfl rfl rfl rfl ⟨rfl, rfl, trivial⟩ rfl rfl (lt rfl) (fun _ _ hd h => And.intro hd (h)) (fun q m4 g4 hO2 => ?_)
          replace hO := hO2
          clear hO2
          have hm4 := (tame_ex _ _ g4 hm3).2
          obtain ⟨qop, qlw, qlh, qll, qnm, qfl, qn, qm, qar, qln⟩ := q
          rw [exD_cs]
          refine sq (f_buildSlice sk65 rfl rfl rfl rfl rfl rfl (by decide) (by decide) (lt rfl)) rfl rfl <| faq rfl kf70_5 rfl rfl <| soq kd65 rfl rfl rfl rfl rfl <| nxq <| sqq <| rgq <| mvq rfl rfl ?_
          refine sq_pr hO hne (need_c (l := [59]) (ts := [[59]]) hL hm4 (by decide) (fields_g (l := [59]) (ts := [[59]]) (by decide +kernel) (by decide +kernel) (by decide +kernel))) rfl en122 rfl rfl rfl rfl ⟨rfl, rfl, trivial⟩ rfl rfl (lt rfl) (fun _ _ hd h => And.intro hd (h)) (fun u m5 g5 hO2 => ?_)
          replace hO := hO2
          clear hO2
          refine nxq <| sqq <| rgq <| ldq kd70 rfl rfl rfl <| soq kd70 rfl rfl rfl rfl rfl <| nxq <| rtq ?_
          have hO' : o = .ret [LDw L, .sc (.int .i64 (m5 : Int))] (.agg [.sc (.int .u8 1), txD s, txD t, txD [], nD 0, .list 10 [.agg (exCs (Ex.mk qop qlw qlh qll qnm qfl qn qm qar qln))], .list 9 [], .list 9 [], nD (wordAt wEnd L i).ln]) := by rw [hO]; show Oc.ret _ (smD (.mk 1 s t [] 0 [Ex.mk qop qlw qlh qll qnm qfl qn qm qar qln] [] [] (wordAt wEnd L i).ln)) = _; rw [smD_cs]; first | rfl | (simp only [exCs, smCs, exDs_map, smDs_map, List.map_cons, List.map_nil, exD_cs, exLD, smLD]; done) | (simp only [exCs, smCs, exDs_map, smDs_map, List.map_cons, List.map_nil, exD_cs, exLD, smLD]; rfl)
          exact hits_doneX hO' (.inl rfl) rfl rfl rfl rfl rfl ⟨rfl, rfl, trivial⟩ rfl
        · rw [if_neg hs] at hO
          refine rgq <| faq rfl kf70_1 rfl rfl <| ldq kd9 rfl rfl rfl <| sq (f_bin rfl rfl (bT ((congrArg not ((B_beq _ _).trans (decide_eq_false hs))))) (lt rfl)) rfl rfl <| mvq rfl rfl <| sq_yes (f_move rfl (lt rfl)) rfl rfl rfl rfl (lt rfl) <| sq_guard rfl rfl rfl (lt rfl) ?_
          refine sq_pr hO hne (may_c hL hj4 [40]) rfl en134 rfl rfl rfl rfl ⟨rfl, rfl, trivial⟩ rfl rfl (lt rfl) (fun _ _ hd h => And.intro hd (h)) (fun b5 j5 hq5 hO2 => ?_)
          replace hO := hO2
          clear hO2
          have hj5 := may_le hq5 hj4
          cases b5
          · rw [if_neg Bool.false_ne_true] at hO
            rw [setK] at hO
            refine pkq rfl rfl rfl <| nxq <| cnF rfl <| sqq <| rgq <| mvq rfl rfl ?_
            refine sq_pr hO hne (need_c (l := [46]) (ts := [[46]]) hL hj5 (by decide) (fields_g (l := [46]) (ts := [[46]]) (by decide +kernel) (by decide +kernel) (by decide +kernel))) rfl en122 rfl rfl rfl rfl ⟨rfl, rfl, trivial⟩ rfl rfl (lt rfl) (fun _ _ hd h => And.intro hd (h)) (fun um1 m1 g1 hO2 => ?_)
            replace hO := hO2
            clear hO2
            have hm1 := (tame_need _ g1 hj5).2
            refine nxq <| sqq <| rgq <| mvq rfl rfl ?_
            refine sq_pr hO hne (name_c hL hm1) rfl en121 rfl rfl rfl rfl ⟨rfl, rfl, trivial⟩ rfl rfl (lt rfl) (fun _ _ hd h => And.intro hd (h)) (fun t m2 g2 hO2 => ?_)
            replace hO := hO2
            clear hO2
            have hm2 := (eager_name g2 hm1).2
            refine faq rfl kf70_0 rfl rfl <| soq kd68 rfl rfl rfl rfl rfl <| faq rfl kf70_2 rfl rfl <| soq kd9 rfl rfl rfl rfl rfl <| nxq <| sqq <| rgq <| mvq rfl rfl ?_
            refine sq_pr hO hne (need_c (l := [61]) (ts := [[61]]) hL hm2 (by decide) (fields_g (l := [61]) (ts := [[61]]) (by decide +kernel) (by decide +kernel) (by decide +kernel))) rfl en122 rfl rfl rfl rfl ⟨rfl, rfl, trivial⟩ rfl rfl (lt rfl) (fun _ _ hd h => And.intro hd (h)) (fun um3 m3 g3 hO2 => ?_)
            replace hO := hO2
            clear hO2
            have hm3 := (tame_need _ g3 hm2).2
            refine nxq <| rgq <| mvq rfl rfl ?_
            refine sq_pr hO hne ((hX f (Nat.le_refl _)).2.2.2 hm3) rfl en179 rfl rfl rfl rfl ⟨rfl, rfl, trivial⟩ rfl rfl (lt rfl) (fun _ _ hd h => And.intro hd (h)) (fun q m4 g4 hO2 => ?_)
            replace hO := hO2
            clear hO2
            have hm4 := (tame_ex _ _ g4 hm3).2
            obtain ⟨qop, qlw, qlh, qll, qnm, qfl, qn, qm, qar, qln⟩ := q
            rw [exD_cs]
            refine sq (f_buildSlice sk65 rfl rfl rfl rfl rfl rfl (by decide) (by decide) (lt rfl)) rfl rfl <| faq rfl kf70_5 rfl rfl <| soq kd65 rfl rfl rfl rfl rfl <| nxq <| sqq <| rgq <| mvq rfl rfl ?_
            refine sq_pr hO hne (need_c (l := [59]) (ts := [[59]]) hL hm4 (by decide) (fields_g (l := [59]) (ts := [[59]]) (by decide +kernel) (by decide +kernel) (by decide +kernel))) rfl en122 rfl rfl rfl rfl ⟨rfl, rfl, trivial⟩ rfl rfl (lt rfl) (fun _ _ hd h => And.intro hd (h)) (fun u m5 g5 hO2 => ?_)
            replace hO := hO2
            clear hO2
            refine nxq <| sqq <| rgq <| ldq kd70 rfl rfl rfl <| soq kd70 rfl rfl rfl rfl rfl <| nxq <| rtq ?_
            have hO' : o = .ret [LDw L, .sc (.int .i64 (m5 : Int))] (.agg [.sc (.int .u8 1), txD s, txD t, txD [], nD 0, .list 10 [.agg (exCs (Ex.mk qop qlw qlh qll qnm qfl qn qm qar qln))], .list 9 [], .list 9 [], nD (wordAt wEnd L i).ln]) := by rw [hO]; show Oc.ret _ (smD (.mk 1 s t [] 0 [Ex.mk qop qlw qlh qll qnm qfl qn qm qar qln] [] [] (wordAt wEnd L i).ln)) = _; rw [smD_cs]; first | rfl | (simp only [exCs, smCs, exDs_map, smDs_map, List.map_cons, List.map_nil, exD_cs, exLD, smLD]; done) | (simp only [exCs, smCs, exDs_map, smDs_map, List.map_cons, List.map_nil, exD_cs, exLD, smLD]; rfl)
            exact hits_doneX hO' (.inl rfl) rfl rfl rfl rfl rfl ⟨rfl, rfl, trivial⟩ rfl
          · rw [if_pos rfl] at hO
            refine pkq rfl rfl rfl <| nxq <| cnT rfl <| rgq <| mvq rfl rfl <| mvq rfl rfl <| sq (f_methodVal rfl rfl rfl (lt rfl)) rfl rfl ?_
            refine sq_pr hO hne (rowx_c hL hj5 [41] (fields_g (l := [41]) (ts := [[41]]) (by decide +kernel) (by decide +kernel) (by decide +kernel)) f (fun g hg => (hX g hg).2.2.2)) rfl en220 rfl rfl rfl rfl ⟨rfl, rfl, trivial⟩ rfl rfl (lt rfl) (fun _ _ hd h => And.intro hd (h)) (fun l m1 g1 hO2 => ?_)
            replace hO := hO2
            clear hO2
            have hm1 := (tame_bind (tame_may _) (fun c => tame_ite (tame_ret _) (tame_exR _ _ _)) g1 hj5).2
            refine faq rfl kf70_0 rfl rfl <| soq kd68 rfl rfl rfl rfl rfl <| faq rfl kf70_5 rfl rfl <| soq kd65 rfl rfl rfl rfl rfl <| nxq <| sqq <| rgq <| mvq rfl rfl ?_
            refine sq_pr hO hne (need_c (l := [59]) (ts := [[59]]) hL hm1 (by decide) (fields_g (l := [59]) (ts := [[59]]) (by decide +kernel) (by decide +kernel) (by decide +kernel))) rfl en122 rfl rfl rfl rfl ⟨rfl, rfl, trivial⟩ rfl rfl (lt rfl) (fun _ _ hd h => And.intro hd (h)) (fun u m2 g2 hO2 => ?_)
            replace hO := hO2
            clear hO2
            refine nxq <| sqq <| rgq <| ldq kd70 rfl rfl rfl <| soq kd70 rfl rfl rfl rfl rfl <| nxq <| rtq ?_
            have hO' : o = .ret [LDw L, .sc (.int .i64 (m2 : Int))] (.agg [.sc (.int .u8 4), txD s, txD [], txD [], nD 0, exLD l, .list 9 [], .list 9 [], nD (wordAt wEnd L i).ln]) := by rw [hO]; show Oc.ret _ (smD (.mk 4 s [] [] 0 l [] [] (wordAt wEnd L i).ln)) = _; rw [smD_cs]; first | rfl | (simp only [exCs, smCs, exDs_map, smDs_map, List.map_cons, List.map_nil, exD_cs, exLD, smLD]; done) | (simp only [exCs, smCs, exDs_map, smDs_map, List.map_cons, List.map_nil, exD_cs, exLD, smLD]; rfl)
            exact hits_doneX hO' (.inl rfl) rfl rfl rfl rfl rfl ⟨rfl, rfl, trivial⟩ rfl
      · rw [if_pos rfl] at hO
        refine asq rfl rfl <| nxq <| cnT rfl <| sqq <| rgq <| mvq rfl rfl <| mvq rfl rfl <| sq (f_methodVal rfl rfl rfl (lt rfl)) rfl rfl ?_
        refine sq_pr hO hne (somex_c hL hj3 [59] (fields_g (l := [59]) (ts := [[59]]) (by decide +kernel) (by decide +kernel) (by decide +kernel)) f (fun g hg => (hX g hg).2.2.2)) rfl en218 rfl rfl rfl rfl ⟨rfl, rfl, trivial⟩ rfl rfl (lt rfl) (fun _ _ hd h => And.intro hd (h)) (fun l m1 g1 hO2 => ?_)
        replace hO := hO2
        clear hO2
        have hm1 := (tame_exR _ _ _ g1 hj3).2
        refine faq rfl kf70_0 rfl rfl <| soq kd68 rfl rfl rfl rfl rfl <| faq rfl kf70_5 rfl rfl <| soq kd65 rfl rfl rfl rfl rfl <| nxq <| sqq <| rgq <| ldq kd70 rfl rfl rfl ?_
        refine soq kd70 rfl rfl rfl rfl rfl <| nxq <| rtq <| in_ret <| to_ret ?_
        have hO' : o = .ret [LDw L, .sc (.int .i64 (m1 : Int))] (.agg [.sc (.int .u8 13), txD [], txD [], txD [], nD 0, exLD l, .list 9 [], .list 9 [], nD (wordAt wEnd L i).ln]) := by rw [hO]; show Oc.ret _ (smD (.mk 13 [] [] [] 0 l [] [] (wordAt wEnd L i).ln)) = _; rw [smD_cs]; first | rfl | (simp only [exCs, smCs, exDs_map, smDs_map, List.map_cons, List.map_nil, exD_cs, exLD, smLD]; done) | (simp only [exCs, smCs, exDs_map, smDs_map, List.map_cons, List.map_nil, exD_cs, exLD, smLD]; rfl)
        exact hits_doneX hO' (.inl rfl) rfl rfl rfl rfl rfl ⟨rfl, rfl, trivial⟩ rfl
    · rw [if_pos rfl] at hO
      refine asq rfl rfl <| nxq <| cnT rfl <| sqq <| rgq <| mvq rfl rfl ?_
      refine sq_pr hO hne ((hX f (Nat.le_refl _)).2.2.2 hj2) rfl en179 rfl rfl rfl rfl ⟨rfl, rfl, trivial⟩ rfl rfl (lt rfl) (fun _ _ hd h => And.intro hd (h)) (fun q m1 g1 hO2 => ?_)
      replace hO := hO2
      clear hO2
      have hm1 := (tame_ex _ _ g1 hj2).2
      obtain ⟨qop, qlw, qlh, qll, qnm, qfl, qn, qm, qar, qln⟩ := q
      rw [exD_cs]
      refine sq (f_buildSlice sk65 rfl rfl rfl rfl rfl rfl (by decide) (by decide) (lt rfl)) rfl rfl <| faq rfl kf70_0 rfl rfl <| soq kd68 rfl rfl rfl rfl rfl <| faq rfl kf70_5 rfl rfl <| soq kd65 rfl rfl rfl rfl rfl <| nxq <| sqq <| rgq ?_
      refine mvq rfl rfl ?_
      refine sq_pr hO hne (hB hm1) rfl en130 rfl rfl rfl rfl ⟨rfl, rfl, trivial⟩ rfl rfl (lt rfl) (fun _ _ hd h => And.intro hd (h)) (fun l m2 g2 hO2 => ?_)
      replace hO := hO2
      clear hO2
      have hm2 := (tame_bl _ g2 hm1).2
      refine faq rfl kf70_6 rfl rfl <| soq kd54 rfl rfl rfl rfl rfl <| nxq <| sqq <| sqq <| rgq <| mvq rfl rfl ?_
      refine sq_pr hO hne (may_c hL hm2 [101, 108, 115, 101]) rfl en134 rfl rfl rfl rfl ⟨rfl, rfl, trivial⟩ rfl rfl (lt rfl) (fun _ _ hd h => And.intro hd (h)) (fun b3 j3 hq3 hO2 => ?_)
      replace hO := hO2
      clear hO2
      have hj3 := may_le hq3 hm2
      cases b3
      · rw [if_neg Bool.false_ne_true] at hO
        refine nxq <| cnF rfl <| skq <| toq <| sqq <| rgq <| ldq kd70 rfl rfl rfl <| soq kd70 rfl rfl rfl rfl rfl ?_
        refine nxq <| rtq <| in_ret <| to_ret ?_
        have hO' : o = .ret [LDw L, .sc (.int .i64 (j3 : Int))] (.agg [.sc (.int .u8 2), txD [], txD [], txD [], nD 0, .list 10 [.agg (exCs (Ex.mk qop qlw qlh qll qnm qfl qn qm qar qln))], smLD l, .list 9 [], nD (wordAt wEnd L i).ln]) := by rw [hO]; show Oc.ret _ (smD (.mk 2 [] [] [] 0 [Ex.mk qop qlw qlh qll qnm qfl qn qm qar qln] l [] (wordAt wEnd L i).ln)) = _; rw [smD_cs]; first | rfl | (simp only [exCs, smCs, exDs_map, smDs_map, List.map_cons, List.map_nil, exD_cs, exLD, smLD]; done) | (simp only [exCs, smCs, exDs_map, smDs_map, List.map_cons, List.map_nil, exD_cs, exLD, smLD]; rfl)
        exact hits_doneX hO' (.inl rfl) rfl rfl rfl rfl rfl ⟨rfl, rfl, trivial⟩ rfl
      · rw [if_pos rfl] at hO
        refine nxq <| cnT rfl <| rgq <| mvq rfl rfl ?_
        refine sq_pr hO hne (hB hj3) rfl en130 rfl rfl rfl rfl ⟨rfl, rfl, trivial⟩ rfl rfl (lt rfl) (fun _ _ hd h => And.intro hd (h)) (fun l2 m3 g3 hO2 => ?_)
        replace hO := hO2
        clear hO2
        have hm3 := (tame_bl _ g3 hj3).2
        refine faq rfl kf70_7 rfl rfl <| soq kd54 rfl rfl rfl rfl rfl <| nxq <| sqq <| rgq <| ldq kd70 rfl rfl rfl <| soq kd70 rfl rfl rfl rfl rfl <| nxq ?_
        refine rtq <| in_ret <| to_ret ?_
        have hO' : o = .ret [LDw L, .sc (.int .i64 (m3 : Int))] (.agg [.sc (.int .u8 2), txD [], txD [], txD [], nD 0, .list 10 [.agg (exCs (Ex.mk qop qlw qlh qll qnm qfl qn qm qar qln))], smLD l, smLD l2, nD (wordAt wEnd L i).ln]) := by rw [hO]; show Oc.ret _ (smD (.mk 2 [] [] [] 0 [Ex.mk qop qlw qlh qll qnm qfl qn qm qar qln] l l2 (wordAt wEnd L i).ln)) = _; rw [smD_cs]; first | rfl | (simp only [exCs, smCs, exDs_map, smDs_map, List.map_cons, List.map_nil, exD_cs, exLD, smLD]; done) | (simp only [exCs, smCs, exDs_map, smDs_map, List.map_cons, List.map_nil, exD_cs, exLD, smLD]; rfl)
        exact hits_doneX hO' (.inl rfl) rfl rfl rfl rfl rfl ⟨rfl, rfl, trivial⟩ rfl
  · rw [h2] at h3
    rw [h2] at hO
    have hfm := simple_form h2
    by_cases hk : (wordAt wEnd L i).k = 1
    · rw [if_pos hk] at hO
      change o = ocOf (LDw L) smD ((formK f kind (wordAt wEnd L i).ln form).run wEnd L (i + 1)) at hO
      have hi1 : i + 1 ≤ L.length := word_in (by rw [hk]; decide)
      refine hits_cellD 2 5 (q' := .list 10 []) rfl nil_list <| hits_cellD 2 6 (q' := .list 9 []) rfl nil_list <| hits_cellD 2 7 (q' := .list 9 []) rfl nil_list <| hits_drawn mixed <| dq (f_move rfl (lt rfl)) rfl rfl <| dq (f_callMP en217 rfl (simple_c b) rfl rfl (lt rfl)) rfl rfl <| dq (f_fieldAddr rfl kf37_1 rfl (lt rfl)) rfl rfl <| dq (f_load kd9 rfl rfl (lt rfl)) rfl rfl ?_
      refine dq (f_lookup mpk274 rfl rfl rfl h3.1 h3.2 (lt rfl)) rfl rfl <| dq (f_move rfl (lt rfl)) rfl rfl <| dq (f_extract rfl rfl (lt rfl)) rfl rfl <| dq (f_extract rfl rfl (lt rfl)) rfl rfl <| dq (f_alloc zc272 (lt rfl)) rfl rfl <| dq (f_store kd272 rfl rfl rfl rfl rfl) rfl rfl <| dq (f_assign rfl (lt rfl)) rfl rfl <| dq_nil rfl ?_
      refine toq <| sqq <| rgq <| mvq rfl rfl <| mvq rfl rfl <| sq_yes (f_fieldAddr rfl kf37_0 rfl (lt rfl)) rfl rfl rfl rfl (lt rfl) <| sq_yes (f_load kd32 rfl rfl (lt rfl)) rfl rfl rfl rfl (lt rfl) <| sq_yes (f_bin rfl rfl (bT (beq_iff_eq.mpr (by rw [hk]; rfl))) (lt rfl)) rfl rfl rfl rfl (lt rfl) ?_
      refine pkq rfl rfl rfl <| nxq <| cnT rfl <| sqq <| rgq <| mvq rfl rfl <| sq_callB en86 rfl rfl (take_c hL hi) ⟨rfl, rfl, trivial⟩ rfl rfl rfl rfl (lt rfl) <| nxq ?_
      refine sqq <| rgq <| faq rfl kf272_0 rfl rfl <| ldq kd68 rfl rfl rfl <| faq rfl kf70_0 rfl rfl <| soq kd68 rfl rfl rfl rfl rfl <| nxq <| sqq ?_
      obtain rfl | rfl | rfl | rfl | rfl | rfl | rfl : form = 0 ∨ form = 1 ∨ form = 2 ∨ form = 3 ∨ form = 4 ∨ form = 5 ∨ form = 6 := by omega
      · rw [formK] at hO
        unfold semi at hO
        refine rgq <| faq rfl kf272_1 rfl rfl <| ldq kd270 rfl rfl rfl <| hits_to [(.slot 0, some (.ptr 1000000 0)), (.box 1000000, some (.ptr 1000000 0)), (.cell 1000000 0, some (.d (LDw L))), (.cell 1000000 1, some (.d (.sc (.int .i64 ((i + 1 : Nat) : Int))))), (.slot 2, some (.ptr 2 0)), (.box 2, some (.ptr 2 0)), (.cell 2 0, some (.d (.sc (.int .u8 (kind : Int))))), (.cell 2 1, some (.d (.sc (.string ByteArray.empty)))), (.cell 2 2, some (.d (.sc (.string ByteArray.empty)))), (.cell 2 3, some (.d (.sc (.string ByteArray.empty)))), (.cell 2 4, some (.d (.sc (.int .i64 0)))), (.cell 2 5, some (.d (.list 10 []))), (.cell 2 6, some (.d (.list 9 []))), (.cell 2 7, some (.d (.list 9 []))), (.cell 2 8, some (.d (nD (wordAt wEnd L i).ln))), (.slot 31, some (.d (.sc (mvV b 236))))] ⟨rfl, rfl, rfl, rfl, rfl, rfl, rfl, rfl, rfl, rfl, rfl, rfl, rfl, rfl, rfl, rfl, trivial⟩ rfl <| sq_inlineV en236 Tryz.func236 rfl Tryz.ntmps236 rfl rfl rfl rfl rfl rfl fun a1 ha1 hd1 => ?_
        refine rgq <| mvq rfl rfl <| mvq rfl rfl ?_
        refine sq_pr hO hne (name_c hL hi1) rfl en121 rfl rfl rfl rfl ⟨rfl, rfl, trivial⟩ rfl rfl (lt rfl) (fun _ _ hd h => And.intro hd ((Or.inr ⟨_, rfl, And.intro hd1 h⟩))) (fun s k1 e1 hO2 => ?_)
        replace hO := hO2
        clear hO2
        have hk1 := (eager_name e1 hi1).2
        refine sq (f_nil rfl rfl (lt rfl)) rfl rfl <| faq rfl kf70_1 rfl rfl <| soq kd9 rfl rfl rfl rfl rfl <| nlq <| hits_back (.inr rfl) ha1 hd1 rfl rfl (lt rfl) rfl <| nxq <| sqq <| rgq ?_
        refine mvq rfl rfl ?_
        refine sq_pr hO hne (need_c (l := [59]) (ts := [[59]]) hL hk1 (by decide) (fields_g (l := [59]) (ts := [[59]]) (by decide +kernel) (by decide +kernel) (by decide +kernel))) rfl en122 rfl rfl rfl rfl ⟨rfl, rfl, trivial⟩ rfl rfl (lt rfl) (fun _ _ hd h => And.intro hd (h)) (fun u kz ez hO2 => ?_)
        replace hO := hO2
        clear hO2
        refine nxq <| sqq <| rgq <| ldq kd70 rfl rfl rfl <| soq kd70 rfl rfl rfl rfl rfl <| nxq <| rtq <| to_ret ?_
        have hO' : o = .ret [LDw L, .sc (.int .i64 (kz : Int))] (.agg [.sc (.int .u8 (kind : Int)), txD s, txD [], txD [], nD 0, .list 10 [], .list 9 [], .list 9 [], nD (wordAt wEnd L i).ln]) := by rw [hO]; show Oc.ret _ (smD (.mk kind s [] [] 0 [] [] [] (wordAt wEnd L i).ln)) = _; rw [smD_cs]; first | rfl | (simp only [exCs, smCs, exDs_map, smDs_map, List.map_cons, List.map_nil, exD_cs, exLD, smLD]; done) | (simp only [exCs, smCs, exDs_map, smDs_map, List.map_cons, List.map_nil, exD_cs, exLD, smLD]; rfl)
        exact hits_doneX hO' (.inl rfl) rfl rfl rfl rfl rfl ⟨rfl, rfl, trivial⟩ rfl
      · rw [formK] at hO
        unfold semi at hO
        refine rgq <| faq rfl kf272_1 rfl rfl <| ldq kd270 rfl rfl rfl <| hits_to [(.slot 0, some (.ptr 1000000 0)), (.box 1000000, some (.ptr 1000000 0)), (.cell 1000000 0, some (.d (LDw L))), (.cell 1000000 1, some (.d (.sc (.int .i64 ((i + 1 : Nat) : Int))))), (.slot 2, some (.ptr 2 0)), (.box 2, some (.ptr 2 0)), (.cell 2 0, some (.d (.sc (.int .u8 (kind : Int))))), (.cell 2 1, some (.d (.sc (.string ByteArray.empty)))), (.cell 2 2, some (.d (.sc (.string ByteArray.empty)))), (.cell 2 3, some (.d (.sc (.string ByteArray.empty)))), (.cell 2 4, some (.d (.sc (.int .i64 0)))), (.cell 2 5, some (.d (.list 10 []))), (.cell 2 6, some (.d (.list 9 []))), (.cell 2 7, some (.d (.list 9 []))), (.cell 2 8, some (.d (nD (wordAt wEnd L i).ln))), (.slot 31, some (.d (.sc (mvV b 237))))] ⟨rfl, rfl, rfl, rfl, rfl, rfl, rfl, rfl, rfl, rfl, rfl, rfl, rfl, rfl, rfl, rfl, trivial⟩ rfl <| sq_inlineV en237 Tryz.func237 rfl Tryz.ntmps237 rfl rfl rfl rfl rfl rfl fun a2 ha2 hd2 => ?_
        refine sqq <| rgq <| mvq rfl rfl <| mvq rfl rfl ?_
        refine sq_pr hO hne (name_c hL hi1) rfl en121 rfl rfl rfl rfl ⟨rfl, rfl, trivial⟩ rfl rfl (lt rfl) (fun _ _ hd h => And.intro hd ((Or.inr ⟨_, rfl, And.intro hd2 h⟩))) (fun s k1 e1 hO2 => ?_)
        replace hO := hO2
        clear hO2
        have hk1 := (eager_name e1 hi1).2
        refine sq (f_nil rfl rfl (lt rfl)) rfl rfl <| faq rfl kf70_1 rfl rfl <| soq kd9 rfl rfl rfl rfl rfl <| nxq <| rgq <| mvq rfl rfl <| mvq rfl rfl ?_
        refine sq_pr hO hne (index_c hL hk1 (hX f (Nat.le_refl _)).2.2.2) rfl en250 rfl rfl rfl rfl ⟨rfl, rfl, trivial⟩ rfl rfl (lt rfl) (fun _ _ hd h => And.intro hd ((Or.inr ⟨_, rfl, And.intro hd2 h⟩))) (fun q k2 e2 hO2 => ?_)
        replace hO := hO2
        clear hO2
        have hk2 := (tame_index _ e2 hk1).2
        obtain ⟨qop, qlw, qlh, qll, qnm, qfl, qn, qm, qar, qln⟩ := q
        rw [exD_cs]
        refine sq (f_buildSlice sk65 rfl rfl rfl rfl rfl rfl (by decide) (by decide) (lt rfl)) rfl rfl <| sq (f_nil rfl rfl (lt rfl)) rfl rfl <| faq rfl kf70_5 rfl rfl <| soq kd65 rfl rfl rfl rfl rfl <| nlq <| hits_back (.inr rfl) ha2 hd2 rfl rfl (lt rfl) rfl <| nxq <| sqq ?_
        refine rgq <| mvq rfl rfl ?_
        refine sq_pr hO hne (need_c (l := [59]) (ts := [[59]]) hL hk2 (by decide) (fields_g (l := [59]) (ts := [[59]]) (by decide +kernel) (by decide +kernel) (by decide +kernel))) rfl en122 rfl rfl rfl rfl ⟨rfl, rfl, trivial⟩ rfl rfl (lt rfl) (fun _ _ hd h => And.intro hd (h)) (fun u kz ez hO2 => ?_)
        replace hO := hO2
        clear hO2
        refine nxq <| sqq <| rgq <| ldq kd70 rfl rfl rfl <| soq kd70 rfl rfl rfl rfl rfl <| nxq <| rtq <| to_ret ?_
        have hO' : o = .ret [LDw L, .sc (.int .i64 (kz : Int))] (.agg [.sc (.int .u8 (kind : Int)), txD s, txD [], txD [], nD 0, .list 10 [.agg (exCs (Ex.mk qop qlw qlh qll qnm qfl qn qm qar qln))], .list 9 [], .list 9 [], nD (wordAt wEnd L i).ln]) := by rw [hO]; show Oc.ret _ (smD (.mk kind s [] [] 0 [Ex.mk qop qlw qlh qll qnm qfl qn qm qar qln] [] [] (wordAt wEnd L i).ln)) = _; rw [smD_cs]; first | rfl | (simp only [exCs, smCs, exDs_map, smDs_map, List.map_cons, List.map_nil, exD_cs, exLD, smLD]; done) | (simp only [exCs, smCs, exDs_map, smDs_map, List.map_cons, List.map_nil, exD_cs, exLD, smLD]; rfl)
        exact hits_doneX hO' (.inl rfl) rfl rfl rfl rfl rfl ⟨rfl, rfl, trivial⟩ rfl
      · rw [formK] at hO
        unfold semi at hO
        refine rgq <| faq rfl kf272_1 rfl rfl <| ldq kd270 rfl rfl rfl <| hits_to [(.slot 0, some (.ptr 1000000 0)), (.box 1000000, some (.ptr 1000000 0)), (.cell 1000000 0, some (.d (LDw L))), (.cell 1000000 1, some (.d (.sc (.int .i64 ((i + 1 : Nat) : Int))))), (.slot 2, some (.ptr 2 0)), (.box 2, some (.ptr 2 0)), (.cell 2 0, some (.d (.sc (.int .u8 (kind : Int))))), (.cell 2 1, some (.d (.sc (.string ByteArray.empty)))), (.cell 2 2, some (.d (.sc (.string ByteArray.empty)))), (.cell 2 3, some (.d (.sc (.string ByteArray.empty)))), (.cell 2 4, some (.d (.sc (.int .i64 0)))), (.cell 2 5, some (.d (.list 10 []))), (.cell 2 6, some (.d (.list 9 []))), (.cell 2 7, some (.d (.list 9 []))), (.cell 2 8, some (.d (nD (wordAt wEnd L i).ln))), (.slot 31, some (.d (.sc (mvV b 238))))] ⟨rfl, rfl, rfl, rfl, rfl, rfl, rfl, rfl, rfl, rfl, rfl, rfl, rfl, rfl, rfl, rfl, trivial⟩ rfl <| sq_inlineV en238 Tryz.func238 rfl Tryz.ntmps238 rfl rfl rfl rfl rfl rfl fun a3 ha3 hd3 => ?_
        refine sqq <| rgq <| mvq rfl rfl <| mvq rfl rfl <| mvq rfl rfl ?_
        refine sq_pr hO hne (field_c hL hi1) rfl en251 rfl rfl rfl rfl ⟨rfl, rfl, trivial⟩ rfl rfl (lt rfl) (fun _ _ hd h => And.intro hd ((Or.inr ⟨_, rfl, And.intro hd3 h⟩))) (fun p k1 e1 hO2 => ?_)
        replace hO := hO2
        clear hO2
        have hk1 := (tame_field e1 hi1).2
        obtain ⟨fa, fb⟩ := p
        refine mvq rfl rfl <| exq rfl rfl rfl <| exq rfl rfl rfl <| sq (f_nil rfl rfl (lt rfl)) rfl rfl <| faq rfl kf70_1 rfl rfl <| soq kd9 rfl rfl rfl rfl rfl <| sq (f_nil rfl rfl (lt rfl)) rfl rfl <| faq rfl kf70_2 rfl rfl ?_
        refine soq kd9 rfl rfl rfl rfl rfl <| nxq <| sqq <| rgq <| mvq rfl rfl ?_
        refine sq_pr hO hne (need_c (l := [61]) (ts := [[61]]) hL hk1 (by decide) (fields_g (l := [61]) (ts := [[61]]) (by decide +kernel) (by decide +kernel) (by decide +kernel))) rfl en122 rfl rfl rfl rfl ⟨rfl, rfl, trivial⟩ rfl rfl (lt rfl) (fun _ _ hd h => And.intro hd ((Or.inr ⟨_, rfl, And.intro hd3 h⟩))) (fun uk2 k2 e2 hO2 => ?_)
        replace hO := hO2
        clear hO2
        have hk2 := (tame_need _ e2 hk1).2
        refine nxq <| sqq <| rgq <| mvq rfl rfl <| mvq rfl rfl ?_
        refine sq_pr hO hne (name_c hL hk2) rfl en121 rfl rfl rfl rfl ⟨rfl, rfl, trivial⟩ rfl rfl (lt rfl) (fun _ _ hd h => And.intro hd ((Or.inr ⟨_, rfl, And.intro hd3 h⟩))) (fun s k3 e3 hO2 => ?_)
        replace hO := hO2
        clear hO2
        have hk3 := (eager_name e3 hk2).2
        refine sq (f_nil rfl rfl (lt rfl)) rfl rfl <| faq rfl kf70_3 rfl rfl <| soq kd9 rfl rfl rfl rfl rfl <| nxq <| rgq <| mvq rfl rfl <| mvq rfl rfl ?_
        refine sq_pr hO hne (index_c hL hk3 (hX f (Nat.le_refl _)).2.2.2) rfl en250 rfl rfl rfl rfl ⟨rfl, rfl, trivial⟩ rfl rfl (lt rfl) (fun _ _ hd h => And.intro hd ((Or.inr ⟨_, rfl, And.intro hd3 h⟩))) (fun q k4 e4 hO2 => ?_)
        replace hO := hO2
        clear hO2
        have hk4 := (tame_index _ e4 hk3).2
        obtain ⟨qop, qlw, qlh, qll, qnm, qfl, qn, qm, qar, qln⟩ := q
        rw [exD_cs]
        refine sq (f_buildSlice sk65 rfl rfl rfl rfl rfl rfl (by decide) (by decide) (lt rfl)) rfl rfl <| sq (f_nil rfl rfl (lt rfl)) rfl rfl <| faq rfl kf70_5 rfl rfl <| soq kd65 rfl rfl rfl rfl rfl <| nlq <| hits_back (.inr rfl) ha3 hd3 rfl rfl (lt rfl) rfl <| nxq <| sqq ?_
        refine rgq <| mvq rfl rfl ?_
        refine sq_pr hO hne (need_c (l := [59]) (ts := [[59]]) hL hk4 (by decide) (fields_g (l := [59]) (ts := [[59]]) (by decide +kernel) (by decide +kernel) (by decide +kernel))) rfl en122 rfl rfl rfl rfl ⟨rfl, rfl, trivial⟩ rfl rfl (lt rfl) (fun _ _ hd h => And.intro hd (h)) (fun u kz ez hO2 => ?_)
        replace hO := hO2
        clear hO2
        refine nxq <| sqq <| rgq <| ldq kd70 rfl rfl rfl <| soq kd70 rfl rfl rfl rfl rfl <| nxq <| rtq <| to_ret ?_
        have hO' : o = .ret [LDw L, .sc (.int .i64 (kz : Int))] (.agg [.sc (.int .u8 (kind : Int)), txD fa, txD fb, txD s, nD 0, .list 10 [.agg (exCs (Ex.mk qop qlw qlh qll qnm qfl qn qm qar qln))], .list 9 [], .list 9 [], nD (wordAt wEnd L i).ln]) := by rw [hO]; show Oc.ret _ (smD (.mk kind fa fb s 0 [Ex.mk qop qlw qlh qll qnm qfl qn qm qar qln] [] [] (wordAt wEnd L i).ln)) = _; rw [smD_cs]; first | rfl | (simp only [exCs, smCs, exDs_map, smDs_map, List.map_cons, List.map_nil, exD_cs, exLD, smLD]; done) | (simp only [exCs, smCs, exDs_map, smDs_map, List.map_cons, List.map_nil, exD_cs, exLD, smLD]; rfl)
        exact hits_doneX hO' (.inl rfl) rfl rfl rfl rfl rfl ⟨rfl, rfl, trivial⟩ rfl
      · rw [formK] at hO
        unfold semi at hO
        refine rgq <| faq rfl kf272_1 rfl rfl <| ldq kd270 rfl rfl rfl <| hits_to [(.slot 0, some (.ptr 1000000 0)), (.box 1000000, some (.ptr 1000000 0)), (.cell 1000000 0, some (.d (LDw L))), (.cell 1000000 1, some (.d (.sc (.int .i64 ((i + 1 : Nat) : Int))))), (.slot 2, some (.ptr 2 0)), (.box 2, some (.ptr 2 0)), (.cell 2 0, some (.d (.sc (.int .u8 (kind : Int))))), (.cell 2 1, some (.d (.sc (.string ByteArray.empty)))), (.cell 2 2, some (.d (.sc (.string ByteArray.empty)))), (.cell 2 3, some (.d (.sc (.string ByteArray.empty)))), (.cell 2 4, some (.d (.sc (.int .i64 0)))), (.cell 2 5, some (.d (.list 10 []))), (.cell 2 6, some (.d (.list 9 []))), (.cell 2 7, some (.d (.list 9 []))), (.cell 2 8, some (.d (nD (wordAt wEnd L i).ln))), (.slot 31, some (.d (.sc (mvV b 239))))] ⟨rfl, rfl, rfl, rfl, rfl, rfl, rfl, rfl, rfl, rfl, rfl, rfl, rfl, rfl, rfl, rfl, trivial⟩ rfl <| sq_inlineV en239 Tryz.func239 rfl Tryz.ntmps239 rfl rfl rfl rfl rfl rfl fun a4 ha4 hd4 => ?_
        refine sqq <| rgq <| mvq rfl rfl <| mvq rfl rfl ?_
        refine sq_pr hO hne (name_c hL hi1) rfl en121 rfl rfl rfl rfl ⟨rfl, rfl, trivial⟩ rfl rfl (lt rfl) (fun _ _ hd h => And.intro hd ((Or.inr ⟨_, rfl, And.intro hd4 h⟩))) (fun s k1 e1 hO2 => ?_)
        replace hO := hO2
        clear hO2
        have hk1 := (eager_name e1 hi1).2
        refine sq (f_nil rfl rfl (lt rfl)) rfl rfl <| faq rfl kf70_3 rfl rfl <| soq kd9 rfl rfl rfl rfl rfl <| nxq <| sqq <| rgq <| mvq rfl rfl ?_
        refine sq_pr hO hne (index_c hL hk1 (hX f (Nat.le_refl _)).2.2.2) rfl en250 rfl rfl rfl rfl ⟨rfl, rfl, trivial⟩ rfl rfl (lt rfl) (fun _ _ hd h => And.intro hd ((Or.inr ⟨_, rfl, And.intro hd4 h⟩))) (fun q k2 e2 hO2 => ?_)
        replace hO := hO2
        clear hO2
        have hk2 := (tame_index _ e2 hk1).2
        obtain ⟨yop, ylw, ylh, yll, ynm, yfl, yn, ym, yar, yln⟩ := q
        rw [exD_cs]
        refine sq (f_alloc zc67 (lt rfl)) rfl rfl <| soq kd67 rfl rfl rfl rfl rfl <| nxq <| sqq <| rgq <| mvq rfl rfl ?_
        refine sq_pr hO hne (need_c (l := [61]) (ts := [[61]]) hL hk2 (by decide) (fields_g (l := [61]) (ts := [[61]]) (by decide +kernel) (by decide +kernel) (by decide +kernel))) rfl en122 rfl rfl rfl rfl ⟨rfl, rfl, trivial⟩ rfl rfl (lt rfl) (fun _ _ hd h => And.intro hd ((Or.inr ⟨_, rfl, And.intro hd4 h⟩))) (fun uk3 k3 e3 hO2 => ?_)
        replace hO := hO2
        clear hO2
        have hk3 := (tame_need _ e3 hk2).2
        refine nxq <| hits_drawnT (some (1000000, 2)) rfl mixed <| dq (f_move rfl (lt rfl)) rfl rfl <| dq (f_load kd67 rfl rfl (lt rfl)) rfl rfl <| dq (f_move rfl (lt rfl)) rfl rfl ?_
        refine dq_pr (Ex.mk 0 0 0 0 [] [] 0 0 [] 0) hO hne ((hX f (Nat.le_refl _)).2.2.2 hk3) rfl en179 rfl rfl rfl rfl ⟨rfl, rfl, trivial⟩ rfl (lt rfl) (fun _ _ hd h => And.intro hd ((Or.inr ⟨_, rfl, And.intro hd4 h⟩))) (fun q k4 X hX => ?_)
        obtain ⟨qop, qlw, qlh, qll, qnm, qfl, qn, qm, qar, qln⟩ := q
        rw [exD_cs]
        refine dq (f_buildSlice sk65 rfl rfl rfl rfl rfl rfl (by decide) (by decide) (lt rfl)) rfl rfl <| dq (f_nil rfl rfl (lt rfl)) rfl rfl <| dq (f_fieldAddr rfl kf70_5 rfl (lt rfl)) rfl rfl <| dq (f_store kd65 rfl rfl rfl rfl rfl) rfl rfl <| dq_nilT (by kernel_rfl) rfl ?_
        refine drawn_end (id := 1000000) hX rfl (fun hXq hXe => ?_)
        obtain ⟨e4, hO2⟩ := hXq
        subst hXe
        replace hO := hO2
        clear hO2 hX
        have hk4 := (tame_ex _ _ e4 hk3).2
        refine hits_back (.inr rfl) ha4 hd4 rfl rfl (lt rfl) rfl <| nxq <| sqq <| rgq <| mvq rfl rfl ?_
        refine sq_pr hO hne (need_c (l := [59]) (ts := [[59]]) hL hk4 (by decide) (fields_g (l := [59]) (ts := [[59]]) (by decide +kernel) (by decide +kernel) (by decide +kernel))) rfl en122 rfl rfl rfl rfl ⟨rfl, rfl, trivial⟩ rfl rfl (lt rfl) (fun _ _ hd h => And.intro hd (h)) (fun u kz ez hO2 => ?_)
        replace hO := hO2
        clear hO2
        refine nxq <| sqq <| rgq <| ldq kd70 rfl rfl rfl <| soq kd70 rfl rfl rfl rfl rfl <| nxq <| rtq <| to_ret ?_
        have hO' : o = .ret [LDw L, .sc (.int .i64 (kz : Int))] (.agg [.sc (.int .u8 (kind : Int)), txD [], txD [], txD s, nD 0, .list 10 [.agg (exCs (Ex.mk yop ylw ylh yll ynm yfl yn ym yar yln)), .agg (exCs (Ex.mk qop qlw qlh qll qnm qfl qn qm qar qln))], .list 9 [], .list 9 [], nD (wordAt wEnd L i).ln]) := by rw [hO]; show Oc.ret _ (smD (.mk kind [] [] s 0 [Ex.mk yop ylw ylh yll ynm yfl yn ym yar yln, Ex.mk qop qlw qlh qll qnm qfl qn qm qar qln] [] [] (wordAt wEnd L i).ln)) = _; rw [smD_cs]; first | rfl | (simp only [exCs, smCs, exDs_map, smDs_map, List.map_cons, List.map_nil, exD_cs, exLD, smLD]; done) | (simp only [exCs, smCs, exDs_map, smDs_map, List.map_cons, List.map_nil, exD_cs, exLD, smLD]; rfl)
        exact hits_doneX hO' (.inl rfl) rfl rfl rfl rfl rfl ⟨rfl, rfl, trivial⟩ rfl
      · rw [formK] at hO
        unfold semi at hO
        refine rgq <| faq rfl kf272_1 rfl rfl <| ldq kd270 rfl rfl rfl <| hits_to [(.slot 0, some (.ptr 1000000 0)), (.box 1000000, some (.ptr 1000000 0)), (.cell 1000000 0, some (.d (LDw L))), (.cell 1000000 1, some (.d (.sc (.int .i64 ((i + 1 : Nat) : Int))))), (.slot 2, some (.ptr 2 0)), (.box 2, some (.ptr 2 0)), (.cell 2 0, some (.d (.sc (.int .u8 (kind : Int))))), (.cell 2 1, some (.d (.sc (.string ByteArray.empty)))), (.cell 2 2, some (.d (.sc (.string ByteArray.empty)))), (.cell 2 3, some (.d (.sc (.string ByteArray.empty)))), (.cell 2 4, some (.d (.sc (.int .i64 0)))), (.cell 2 5, some (.d (.list 10 []))), (.cell 2 6, some (.d (.list 9 []))), (.cell 2 7, some (.d (.list 9 []))), (.cell 2 8, some (.d (nD (wordAt wEnd L i).ln))), (.slot 31, some (.d (.sc (mvV b 240))))] ⟨rfl, rfl, rfl, rfl, rfl, rfl, rfl, rfl, rfl, rfl, rfl, rfl, rfl, rfl, rfl, rfl, trivial⟩ rfl <| sq_inlineV en240 Tryz.func240 rfl Tryz.ntmps240 rfl rfl rfl rfl rfl rfl fun a5 ha5 hd5 => ?_
        refine rgq <| mvq rfl rfl <| mvq rfl rfl <| mvq rfl rfl ?_
        refine sq_pr hO hne (field_c hL hi1) rfl en251 rfl rfl rfl rfl ⟨rfl, rfl, trivial⟩ rfl rfl (lt rfl) (fun _ _ hd h => And.intro hd ((Or.inr ⟨_, rfl, And.intro hd5 h⟩))) (fun p k1 e1 hO2 => ?_)
        replace hO := hO2
        clear hO2
        have hk1 := (tame_field e1 hi1).2
        obtain ⟨fa, fb⟩ := p
        refine mvq rfl rfl <| exq rfl rfl rfl <| exq rfl rfl rfl <| sq (f_nil rfl rfl (lt rfl)) rfl rfl <| faq rfl kf70_1 rfl rfl <| soq kd9 rfl rfl rfl rfl rfl <| sq (f_nil rfl rfl (lt rfl)) rfl rfl <| faq rfl kf70_2 rfl rfl ?_
        refine soq kd9 rfl rfl rfl rfl rfl <| nlq <| hits_back (.inr rfl) ha5 hd5 rfl rfl (lt rfl) rfl <| nxq <| sqq <| rgq <| mvq rfl rfl ?_
        refine sq_pr hO hne (need_c (l := [59]) (ts := [[59]]) hL hk1 (by decide) (fields_g (l := [59]) (ts := [[59]]) (by decide +kernel) (by decide +kernel) (by decide +kernel))) rfl en122 rfl rfl rfl rfl ⟨rfl, rfl, trivial⟩ rfl rfl (lt rfl) (fun _ _ hd h => And.intro hd (h)) (fun u kz ez hO2 => ?_)
        replace hO := hO2
        clear hO2
        refine nxq <| sqq <| rgq <| ldq kd70 rfl rfl rfl <| soq kd70 rfl rfl rfl rfl rfl <| nxq <| rtq <| to_ret ?_
        have hO' : o = .ret [LDw L, .sc (.int .i64 (kz : Int))] (.agg [.sc (.int .u8 (kind : Int)), txD fa, txD fb, txD [], nD 0, .list 10 [], .list 9 [], .list 9 [], nD (wordAt wEnd L i).ln]) := by rw [hO]; show Oc.ret _ (smD (.mk kind fa fb [] 0 [] [] [] (wordAt wEnd L i).ln)) = _; rw [smD_cs]; first | rfl | (simp only [exCs, smCs, exDs_map, smDs_map, List.map_cons, List.map_nil, exD_cs, exLD, smLD]; done) | (simp only [exCs, smCs, exDs_map, smDs_map, List.map_cons, List.map_nil, exD_cs, exLD, smLD]; rfl)
        exact hits_doneX hO' (.inl rfl) rfl rfl rfl rfl rfl ⟨rfl, rfl, trivial⟩ rfl
      · rw [formK] at hO
        unfold semi at hO
        refine rgq <| faq rfl kf272_1 rfl rfl <| ldq kd270 rfl rfl rfl <| hits_to [(.slot 0, some (.ptr 1000000 0)), (.box 1000000, some (.ptr 1000000 0)), (.cell 1000000 0, some (.d (LDw L))), (.cell 1000000 1, some (.d (.sc (.int .i64 ((i + 1 : Nat) : Int))))), (.slot 2, some (.ptr 2 0)), (.box 2, some (.ptr 2 0)), (.cell 2 0, some (.d (.sc (.int .u8 (kind : Int))))), (.cell 2 1, some (.d (.sc (.string ByteArray.empty)))), (.cell 2 2, some (.d (.sc (.string ByteArray.empty)))), (.cell 2 3, some (.d (.sc (.string ByteArray.empty)))), (.cell 2 4, some (.d (.sc (.int .i64 0)))), (.cell 2 5, some (.d (.list 10 []))), (.cell 2 6, some (.d (.list 9 []))), (.cell 2 7, some (.d (.list 9 []))), (.cell 2 8, some (.d (nD (wordAt wEnd L i).ln))), (.slot 31, some (.d (.sc (mvV b 241))))] ⟨rfl, rfl, rfl, rfl, rfl, rfl, rfl, rfl, rfl, rfl, rfl, rfl, rfl, rfl, rfl, rfl, trivial⟩ rfl <| sq_inlineV en241 Tryz.func241 rfl Tryz.ntmps241 rfl rfl rfl rfl rfl rfl fun a6 ha6 hd6 => ?_
        refine skq <| hits_back (.inr rfl) ha6 hd6 rfl rfl (lt rfl) rfl <| nxq <| sqq <| rgq <| mvq rfl rfl ?_
        refine sq_pr hO hne (need_c (l := [59]) (ts := [[59]]) hL hi1 (by decide) (fields_g (l := [59]) (ts := [[59]]) (by decide +kernel) (by decide +kernel) (by decide +kernel))) rfl en122 rfl rfl rfl rfl ⟨rfl, rfl, trivial⟩ rfl rfl (lt rfl) (fun _ _ hd h => And.intro hd (h)) (fun u kz ez hO2 => ?_)
        replace hO := hO2
        clear hO2
        refine nxq <| sqq <| rgq <| ldq kd70 rfl rfl rfl <| soq kd70 rfl rfl rfl rfl rfl <| nxq <| rtq <| to_ret ?_
        have hO' : o = .ret [LDw L, .sc (.int .i64 (kz : Int))] (.agg [.sc (.int .u8 (kind : Int)), txD [], txD [], txD [], nD 0, .list 10 [], .list 9 [], .list 9 [], nD (wordAt wEnd L i).ln]) := by rw [hO]; show Oc.ret _ (smD (.mk kind [] [] [] 0 [] [] [] (wordAt wEnd L i).ln)) = _; rw [smD_cs]; first | rfl | (simp only [exCs, smCs, exDs_map, smDs_map, List.map_cons, List.map_nil, exD_cs, exLD, smLD]; done) | (simp only [exCs, smCs, exDs_map, smDs_map, List.map_cons, List.map_nil, exD_cs, exLD, smLD]; rfl)
        exact hits_doneX hO' (.inl rfl) rfl rfl rfl rfl rfl ⟨rfl, rfl, trivial⟩ rfl
      · change o = ocOf (LDw L) smD ((wholeP.bind fun n => semi (.mk kind [] [] [] n [] [] [] (wordAt wEnd L i).ln)).run wEnd L (i + 1)) at hO
        unfold semi at hO
        refine rgq <| faq rfl kf272_1 rfl rfl <| ldq kd270 rfl rfl rfl <| hits_to [(.slot 0, some (.ptr 1000000 0)), (.box 1000000, some (.ptr 1000000 0)), (.cell 1000000 0, some (.d (LDw L))), (.cell 1000000 1, some (.d (.sc (.int .i64 ((i + 1 : Nat) : Int))))), (.slot 2, some (.ptr 2 0)), (.box 2, some (.ptr 2 0)), (.cell 2 0, some (.d (.sc (.int .u8 (kind : Int))))), (.cell 2 1, some (.d (.sc (.string ByteArray.empty)))), (.cell 2 2, some (.d (.sc (.string ByteArray.empty)))), (.cell 2 3, some (.d (.sc (.string ByteArray.empty)))), (.cell 2 4, some (.d (.sc (.int .i64 0)))), (.cell 2 5, some (.d (.list 10 []))), (.cell 2 6, some (.d (.list 9 []))), (.cell 2 7, some (.d (.list 9 []))), (.cell 2 8, some (.d (nD (wordAt wEnd L i).ln))), (.slot 31, some (.d (.sc (mvV b 242))))] ⟨rfl, rfl, rfl, rfl, rfl, rfl, rfl, rfl, rfl, rfl, rfl, rfl, rfl, rfl, rfl, rfl, trivial⟩ rfl <| sq_inlineV en242 Tryz.func242 rfl Tryz.ntmps242 rfl rfl rfl rfl rfl rfl fun a7 ha7 hd7 => ?_
        refine rgq <| mvq rfl rfl <| mvq rfl rfl ?_
        refine sq_pr hO hne (whole_c hL hi1 hS) rfl en126 rfl rfl rfl rfl ⟨rfl, rfl, trivial⟩ rfl rfl (lt rfl) (fun _ _ hd h => And.intro hd ((Or.inr ⟨_, rfl, And.intro hd7 h⟩))) (fun n k1 e1 hO2 => ?_)
        replace hO := hO2
        clear hO2
        have hk1 := (eager_whole e1 hi1).2
        refine sq (f_nil rfl rfl (lt rfl)) rfl rfl <| faq rfl kf70_4 rfl rfl <| soq kd3 rfl rfl rfl rfl rfl <| nlq <| hits_back (.inr rfl) ha7 hd7 rfl rfl (lt rfl) rfl <| nxq <| sqq <| rgq ?_
        refine mvq rfl rfl ?_
        refine sq_pr hO hne (need_c (l := [59]) (ts := [[59]]) hL hk1 (by decide) (fields_g (l := [59]) (ts := [[59]]) (by decide +kernel) (by decide +kernel) (by decide +kernel))) rfl en122 rfl rfl rfl rfl ⟨rfl, rfl, trivial⟩ rfl rfl (lt rfl) (fun _ _ hd h => And.intro hd (h)) (fun u kz ez hO2 => ?_)
        replace hO := hO2
        clear hO2
        refine nxq <| sqq <| rgq <| ldq kd70 rfl rfl rfl <| soq kd70 rfl rfl rfl rfl rfl <| nxq <| rtq <| to_ret ?_
        have hO' : o = .ret [LDw L, .sc (.int .i64 (kz : Int))] (.agg [.sc (.int .u8 (kind : Int)), txD [], txD [], txD [], nD n, .list 10 [], .list 9 [], .list 9 [], nD (wordAt wEnd L i).ln]) := by rw [hO]; show Oc.ret _ (smD (.mk kind [] [] [] n [] [] [] (wordAt wEnd L i).ln)) = _; rw [smD_cs]; first | rfl | (simp only [exCs, smCs, exDs_map, smDs_map, List.map_cons, List.map_nil, exD_cs, exLD, smLD]; done) | (simp only [exCs, smCs, exDs_map, smDs_map, List.map_cons, List.map_nil, exD_cs, exLD, smLD]; rfl)
        exact hits_doneX hO' (.inl rfl) rfl rfl rfl rfl rfl ⟨rfl, rfl, trivial⟩ rfl
    · rw [if_neg hk] at hO
      change o = ocOf (LDw L) smD ((restK f (wordAt wEnd L i)).run wEnd L i) at hO
      rw [restK] at hO
      refine hits_cellD 2 5 (q' := .list 10 []) rfl nil_list <| hits_cellD 2 6 (q' := .list 9 []) rfl nil_list <| hits_cellD 2 7 (q' := .list 9 []) rfl nil_list <| hits_drawn mixed <| dq (f_move rfl (lt rfl)) rfl rfl <| dq (f_callMP en217 rfl (simple_c b) rfl rfl (lt rfl)) rfl rfl <| dq (f_fieldAddr rfl kf37_1 rfl (lt rfl)) rfl rfl <| dq (f_load kd9 rfl rfl (lt rfl)) rfl rfl ?_
      refine dq (f_lookup mpk274 rfl rfl rfl h3.1 h3.2 (lt rfl)) rfl rfl <| dq (f_move rfl (lt rfl)) rfl rfl <| dq (f_extract rfl rfl (lt rfl)) rfl rfl <| dq (f_extract rfl rfl (lt rfl)) rfl rfl <| dq (f_alloc zc272 (lt rfl)) rfl rfl <| dq (f_store kd272 rfl rfl rfl rfl rfl) rfl rfl <| dq (f_assign rfl (lt rfl)) rfl rfl <| dq_nil rfl ?_
      refine toq <| sqq <| rgq <| mvq rfl rfl <| mvq rfl rfl <| sq_yes (f_fieldAddr rfl kf37_0 rfl (lt rfl)) rfl rfl rfl rfl (lt rfl) <| sq_yes (f_load kd32 rfl rfl (lt rfl)) rfl rfl rfl rfl (lt rfl) <| sq_yes (f_bin rfl rfl (bT (beq_eq_false_iff_ne.mpr (by omega))) (lt rfl)) rfl rfl rfl rfl (lt rfl) ?_
      refine pkq rfl rfl rfl <| nxq <| cnF rfl <| skq <| toq <| sqq <| hits_block <| sqq ?_
      refine rgq <| mvq rfl rfl ?_
      refine sq_pr hO hne (may_c hL hi [105, 102]) rfl en134 rfl rfl rfl rfl ⟨rfl, rfl, trivial⟩ rfl rfl (lt rfl) (fun _ _ hd h => And.intro hd (h)) (fun b2 j2 hq2 hO2 => ?_)
      replace hO := hO2
      clear hO2
      have hj2 := may_le hq2 hi
      cases b2
      · rw [if_neg Bool.false_ne_true] at hO
        refine asq rfl rfl <| nxq <| cnF rfl <| sqq <| rgq <| mvq rfl rfl ?_
        refine sq_pr hO hne (may_c hL hj2 [100, 105, 103, 101, 115, 116]) rfl en134 rfl rfl rfl rfl ⟨rfl, rfl, trivial⟩ rfl rfl (lt rfl) (fun _ _ hd h => And.intro hd (h)) (fun b3 j3 hq3 hO2 => ?_)
        replace hO := hO2
        clear hO2
        have hj3 := may_le hq3 hj2
        cases b3
        · rw [if_neg Bool.false_ne_true] at hO
          refine asq rfl rfl <| nxq <| cnF rfl <| skq <| inq <| toq <| sqq <| rgq ?_
          refine mvq rfl rfl ?_
          refine sq_pr hO hne (owner_c hL hj3) rfl en219 rfl rfl rfl rfl ⟨rfl, rfl, trivial⟩ rfl rfl (lt rfl) (fun _ _ hd h => And.intro hd (h)) (fun s j4 hq4 hO2 => ?_)
          replace hO := hO2
          clear hO2
          have hj4 := (tame_owner hq4 hj3).2
          refine faq rfl kf70_1 rfl rfl <| soq kd9 rfl rfl rfl rfl rfl <| nxq <| sqq <| sqq ?_
          by_cases hs : s = txMeta
          · rw [if_pos hs] at hO
            rw [setK] at hO
            refine rgq <| faq rfl kf70_1 rfl rfl <| ldq kd9 rfl rfl rfl <| sq (f_bin rfl rfl (bT ((congrArg not ((B_beq _ _).trans (decide_eq_true hs))))) (lt rfl)) rfl rfl <| mvq rfl rfl <| noq rfl rfl rfl rfl rfl rfl rfl <| noq rfl rfl rfl rfl rfl rfl rfl <| pkq rfl rfl rfl ?_
            refine nxq <| cnF rfl <| sqq <| rgq <| mvq rfl rfl ?_
            refine sq_pr hO hne (need_c (l := [46]) (ts := [[46]]) hL hj4 (by decide) (fields_g (l := [46]) (ts := [[46]]) (by decide +kernel) (by decide +kernel) (by decide +kernel))) rfl en122 rfl rfl rfl rfl ⟨rfl, rfl, trivial⟩ rfl rfl (lt rfl) (fun _ _ hd h => And.intro hd (h)) (fun um1 m1 g1 hO2 => ?_)
            replace hO := hO2
            clear hO2
            have hm1 := (tame_need _ g1 hj4).2
            refine nxq <| sqq <| rgq <| mvq rfl rfl ?_
            refine sq_pr hO hne (name_c hL hm1) rfl en121 rfl rfl rfl rfl ⟨rfl, rfl, trivial⟩ rfl rfl (lt rfl) (fun _ _ hd h => And.intro hd (h)) (fun t m2 g2 hO2 => ?_)
            replace hO := hO2
            clear hO2
            have hm2 := (eager_name g2 hm1).2
            refine faq rfl kf70_0 rfl rfl <| soq kd68 rfl rfl rfl rfl rfl <| faq rfl kf70_2 rfl rfl <| soq kd9 rfl rfl rfl rfl rfl <| nxq <| sqq <| rgq <| mvq rfl rfl ?_
            refine sq_pr hO hne (need_c (l := [61]) (ts := [[61]]) hL hm2 (by decide) (fields_g (l := [61]) (ts := [[61]]) (by decide +kernel) (by decide +kernel) (by decide +kernel))) rfl en122 rfl rfl rfl rfl ⟨rfl, rfl, trivial⟩ rfl rfl (lt rfl) (fun _ _ hd h => And.intro hd (h)) (fun um3 m3 g3 hO2 => ?_)
            replace hO := hO2
            clear hO2
            have hm3 := (tame_need _ g3 hm2).2
            refine nxq <| rgq <| mvq rfl rfl ?_
            refine sq_pr hO hne ((hX f (Nat.le_refl _)).2.2.2 hm3) rfl en179 rfl rfl rfl rfl ⟨rfl, rfl, trivial⟩ rfl rfl (lt rfl) (fun _ _ hd h => And.intro hd (h)) (fun q m4 g4 hO2 => ?_)
            replace hO := hO2
            clear hO2
            have hm4 := (tame_ex _ _ g4 hm3).2
            obtain ⟨qop, qlw, qlh, qll, qnm, qfl, qn, qm, qar, qln⟩ := q
            rw [exD_cs]
            refine sq (f_buildSlice sk65 rfl rfl rfl rfl rfl rfl (by decide) (by decide) (lt rfl)) rfl rfl <| faq rfl kf70_5 rfl rfl <| soq kd65 rfl rfl rfl rfl rfl <| nxq <| sqq <| rgq <| mvq rfl rfl ?_
            refine sq_pr hO hne (need_c (l := [59]) (ts := [[59]]) hL hm4 (by decide) (fields_g (l := [59]) (ts := [[59]]) (by decide +kernel) (by decide +kernel) (by decide +kernel))) rfl en122 rfl rfl rfl rfl ⟨rfl, rfl, trivial⟩ rfl rfl (lt rfl) (fun _ _ hd h => And.intro hd (h)) (fun u m5 g5 hO2 => ?_)
            replace hO := hO2
            clear hO2
            refine nxq <| sqq <| rgq <| ldq kd70 rfl rfl rfl <| soq kd70 rfl rfl rfl rfl rfl <| nxq <| rtq ?_
            have hO' : o = .ret [LDw L, .sc (.int .i64 (m5 : Int))] (.agg [.sc (.int .u8 1), txD s, txD t, txD [], nD 0, .list 10 [.agg (exCs (Ex.mk qop qlw qlh qll qnm qfl qn qm qar qln))], .list 9 [], .list 9 [], nD (wordAt wEnd L i).ln]) := by rw [hO]; show Oc.ret _ (smD (.mk 1 s t [] 0 [Ex.mk qop qlw qlh qll qnm qfl qn qm qar qln] [] [] (wordAt wEnd L i).ln)) = _; rw [smD_cs]; first | rfl | (simp only [exCs, smCs, exDs_map, smDs_map, List.map_cons, List.map_nil, exD_cs, exLD, smLD]; done) | (simp only [exCs, smCs, exDs_map, smDs_map, List.map_cons, List.map_nil, exD_cs, exLD, smLD]; rfl)
            exact hits_doneX hO' (.inl rfl) rfl rfl rfl rfl rfl ⟨rfl, rfl, trivial⟩ rfl
          · rw [if_neg hs] at hO
            refine rgq <| faq rfl kf70_1 rfl rfl <| ldq kd9 rfl rfl rfl <| sq (f_bin rfl rfl (bT ((congrArg not ((B_beq _ _).trans (decide_eq_false hs))))) (lt rfl)) rfl rfl <| mvq rfl rfl <| sq_yes (f_move rfl (lt rfl)) rfl rfl rfl rfl (lt rfl) <| sq_guard rfl rfl rfl (lt rfl) ?_
            refine sq_pr hO hne (may_c hL hj4 [40]) rfl en134 rfl rfl rfl rfl ⟨rfl, rfl, trivial⟩ rfl rfl (lt rfl) (fun _ _ hd h => And.intro hd (h)) (fun b5 j5 hq5 hO2 => ?_)
            replace hO := hO2
            clear hO2
            have hj5 := may_le hq5 hj4
            cases b5
            · rw [if_neg Bool.false_ne_true] at hO
              rw [setK] at hO
              refine pkq rfl rfl rfl <| nxq <| cnF rfl <| sqq <| rgq <| mvq rfl rfl ?_
              refine sq_pr hO hne (need_c (l := [46]) (ts := [[46]]) hL hj5 (by decide) (fields_g (l := [46]) (ts := [[46]]) (by decide +kernel) (by decide +kernel) (by decide +kernel))) rfl en122 rfl rfl rfl rfl ⟨rfl, rfl, trivial⟩ rfl rfl (lt rfl) (fun _ _ hd h => And.intro hd (h)) (fun um1 m1 g1 hO2 => ?_)
              replace hO := hO2
              clear hO2
              have hm1 := (tame_need _ g1 hj5).2
              refine nxq <| sqq <| rgq <| mvq rfl rfl ?_
              refine sq_pr hO hne (name_c hL hm1) rfl en121 rfl rfl rfl rfl ⟨rfl, rfl, trivial⟩ rfl rfl (lt rfl) (fun _ _ hd h => And.intro hd (h)) (fun t m2 g2 hO2 => ?_)
              replace hO := hO2
              clear hO2
              have hm2 := (eager_name g2 hm1).2
              refine faq rfl kf70_0 rfl rfl <| soq kd68 rfl rfl rfl rfl rfl <| faq rfl kf70_2 rfl rfl <| soq kd9 rfl rfl rfl rfl rfl <| nxq <| sqq <| rgq <| mvq rfl rfl ?_
              refine sq_pr hO hne (need_c (l := [61]) (ts := [[61]]) hL hm2 (by decide) (fields_g (l := [61]) (ts := [[61]]) (by decide +kernel) (by decide +kernel) (by decide +kernel))) rfl en122 rfl rfl rfl rfl ⟨rfl, rfl, trivial⟩ rfl rfl (lt rfl) (fun _ _ hd h => And.intro hd (h)) (fun um3 m3 g3 hO2 => ?_)
              replace hO := hO2
              clear hO2
              have hm3 := (tame_need _ g3 hm2).2
              refine nxq <| rgq <| mvq rfl rfl ?_
              refine sq_pr hO hne ((hX f (Nat.le_refl _)).2.2.2 hm3) rfl en179 rfl rfl rfl rfl ⟨rfl, rfl, trivial⟩ rfl rfl (lt rfl) (fun _ _ hd h => And.intro hd (h)) (fun q m4 g4 hO2 => ?_)
              replace hO := hO2
              clear hO2
              have hm4 := (tame_ex _ _ g4 hm3).2
              obtain ⟨qop, qlw, qlh, qll, qnm, qfl, qn, qm, qar, qln⟩ := q
              rw [exD_cs]
              refine sq (f_buildSlice sk65 rfl rfl rfl rfl rfl rfl (by decide) (by decide) (lt rfl)) rfl rfl <| faq rfl kf70_5 rfl rfl <| soq kd65 rfl rfl rfl rfl rfl <| nxq <| sqq <| rgq <| mvq rfl rfl ?_
              refine sq_pr hO hne (need_c (l := [59]) (ts := [[59]]) hL hm4 (by decide) (fields_g (l := [59]) (ts := [[59]]) (by decide +kernel) (by decide +kernel) (by decide +kernel))) rfl en122 rfl rfl rfl rfl ⟨rfl, rfl, trivial⟩ rfl rfl (lt rfl) (fun _ _ hd h => And.intro hd (h)) (fun u m5 g5 hO2 => ?_)
              replace hO := hO2
              clear hO2
              refine nxq <| sqq <| rgq <| ldq kd70 rfl rfl rfl <| soq kd70 rfl rfl rfl rfl rfl <| nxq <| rtq ?_
              have hO' : o = .ret [LDw L, .sc (.int .i64 (m5 : Int))] (.agg [.sc (.int .u8 1), txD s, txD t, txD [], nD 0, .list 10 [.agg (exCs (Ex.mk qop qlw qlh qll qnm qfl qn qm qar qln))], .list 9 [], .list 9 [], nD (wordAt wEnd L i).ln]) := by rw [hO]; show Oc.ret _ (smD (.mk 1 s t [] 0 [Ex.mk qop qlw qlh qll qnm qfl qn qm qar qln] [] [] (wordAt wEnd L i).ln)) = _; rw [smD_cs]; first | rfl | (simp only [exCs, smCs, exDs_map, smDs_map, List.map_cons, List.map_nil, exD_cs, exLD, smLD]; done) | (simp only [exCs, smCs, exDs_map, smDs_map, List.map_cons, List.map_nil, exD_cs, exLD, smLD]; rfl)
              exact hits_doneX hO' (.inl rfl) rfl rfl rfl rfl rfl ⟨rfl, rfl, trivial⟩ rfl
            · rw [if_pos rfl] at hO
              refine pkq rfl rfl rfl <| nxq <| cnT rfl <| rgq <| mvq rfl rfl <| mvq rfl rfl <| sq (f_methodVal rfl rfl rfl (lt rfl)) rfl rfl ?_
              refine sq_pr hO hne (rowx_c hL hj5 [41] (fields_g (l := [41]) (ts := [[41]]) (by decide +kernel) (by decide +kernel) (by decide +kernel)) f (fun g hg => (hX g hg).2.2.2)) rfl en220 rfl rfl rfl rfl ⟨rfl, rfl, trivial⟩ rfl rfl (lt rfl) (fun _ _ hd h => And.intro hd (h)) (fun l m1 g1 hO2 => ?_)
              replace hO := hO2
              clear hO2
              have hm1 := (tame_bind (tame_may _) (fun c => tame_ite (tame_ret _) (tame_exR _ _ _)) g1 hj5).2
              refine faq rfl kf70_0 rfl rfl <| soq kd68 rfl rfl rfl rfl rfl <| faq rfl kf70_5 rfl rfl <| soq kd65 rfl rfl rfl rfl rfl <| nxq <| sqq <| rgq <| mvq rfl rfl ?_
              refine sq_pr hO hne (need_c (l := [59]) (ts := [[59]]) hL hm1 (by decide) (fields_g (l := [59]) (ts := [[59]]) (by decide +kernel) (by decide +kernel) (by decide +kernel))) rfl en122 rfl rfl rfl rfl ⟨rfl, rfl, trivial⟩ rfl rfl (lt rfl) (fun _ _ hd h => And.intro hd (h)) (fun u m2 g2 hO2 => ?_)
              replace hO := hO2
              clear hO2
              refine nxq <| sqq <| rgq <| ldq kd70 rfl rfl rfl <| soq kd70 rfl rfl rfl rfl rfl <| nxq <| rtq ?_
              have hO' : o = .ret [LDw L, .sc (.int .i64 (m2 : Int))] (.agg [.sc (.int .u8 4), txD s, txD [], txD [], nD 0, exLD l, .list 9 [], .list 9 [], nD (wordAt wEnd L i).ln]) := by rw [hO]; show Oc.ret _ (smD (.mk 4 s [] [] 0 l [] [] (wordAt wEnd L i).ln)) = _; rw [smD_cs]; first | rfl | (simp only [exCs, smCs, exDs_map, smDs_map, List.map_cons, List.map_nil, exD_cs, exLD, smLD]; done) | (simp only [exCs, smCs, exDs_map, smDs_map, List.map_cons, List.map_nil, exD_cs, exLD, smLD]; rfl)
              exact hits_doneX hO' (.inl rfl) rfl rfl rfl rfl rfl ⟨rfl, rfl, trivial⟩ rfl
        · rw [if_pos rfl] at hO
          refine asq rfl rfl <| nxq <| cnT rfl <| sqq <| rgq <| mvq rfl rfl <| mvq rfl rfl <| sq (f_methodVal rfl rfl rfl (lt rfl)) rfl rfl ?_
          refine sq_pr hO hne (somex_c hL hj3 [59] (fields_g (l := [59]) (ts := [[59]]) (by decide +kernel) (by decide +kernel) (by decide +kernel)) f (fun g hg => (hX g hg).2.2.2)) rfl en218 rfl rfl rfl rfl ⟨rfl, rfl, trivial⟩ rfl rfl (lt rfl) (fun _ _ hd h => And.intro hd (h)) (fun l m1 g1 hO2 => ?_)
          replace hO := hO2
          clear hO2
          have hm1 := (tame_exR _ _ _ g1 hj3).2
          refine faq rfl kf70_0 rfl rfl <| soq kd68 rfl rfl rfl rfl rfl <| faq rfl kf70_5 rfl rfl <| soq kd65 rfl rfl rfl rfl rfl <| nxq <| sqq <| rgq <| ldq kd70 rfl rfl rfl ?_
          refine soq kd70 rfl rfl rfl rfl rfl <| nxq <| rtq <| in_ret <| to_ret ?_
          have hO' : o = .ret [LDw L, .sc (.int .i64 (m1 : Int))] (.agg [.sc (.int .u8 13), txD [], txD [], txD [], nD 0, exLD l, .list 9 [], .list 9 [], nD (wordAt wEnd L i).ln]) := by rw [hO]; show Oc.ret _ (smD (.mk 13 [] [] [] 0 l [] [] (wordAt wEnd L i).ln)) = _; rw [smD_cs]; first | rfl | (simp only [exCs, smCs, exDs_map, smDs_map, List.map_cons, List.map_nil, exD_cs, exLD, smLD]; done) | (simp only [exCs, smCs, exDs_map, smDs_map, List.map_cons, List.map_nil, exD_cs, exLD, smLD]; rfl)
          exact hits_doneX hO' (.inl rfl) rfl rfl rfl rfl rfl ⟨rfl, rfl, trivial⟩ rfl
      · rw [if_pos rfl] at hO
        refine asq rfl rfl <| nxq <| cnT rfl <| sqq <| rgq <| mvq rfl rfl ?_
        refine sq_pr hO hne ((hX f (Nat.le_refl _)).2.2.2 hj2) rfl en179 rfl rfl rfl rfl ⟨rfl, rfl, trivial⟩ rfl rfl (lt rfl) (fun _ _ hd h => And.intro hd (h)) (fun q m1 g1 hO2 => ?_)
        replace hO := hO2
        clear hO2
        have hm1 := (tame_ex _ _ g1 hj2).2
        obtain ⟨qop, qlw, qlh, qll, qnm, qfl, qn, qm, qar, qln⟩ := q
        rw [exD_cs]
        refine sq (f_buildSlice sk65 rfl rfl rfl rfl rfl rfl (by decide) (by decide) (lt rfl)) rfl rfl <| faq rfl kf70_0 rfl rfl <| soq kd68 rfl rfl rfl rfl rfl <| faq rfl kf70_5 rfl rfl <| soq kd65 rfl rfl rfl rfl rfl <| nxq <| sqq <| rgq ?_
        refine mvq rfl rfl ?_
        refine sq_pr hO hne (hB hm1) rfl en130 rfl rfl rfl rfl ⟨rfl, rfl, trivial⟩ rfl rfl (lt rfl) (fun _ _ hd h => And.intro hd (h)) (fun l m2 g2 hO2 => ?_)
        replace hO := hO2
        clear hO2
        have hm2 := (tame_bl _ g2 hm1).2
        refine faq rfl kf70_6 rfl rfl <| soq kd54 rfl rfl rfl rfl rfl <| nxq <| sqq <| sqq <| rgq <| mvq rfl rfl ?_
        refine sq_pr hO hne (may_c hL hm2 [101, 108, 115, 101]) rfl en134 rfl rfl rfl rfl ⟨rfl, rfl, trivial⟩ rfl rfl (lt rfl) (fun _ _ hd h => And.intro hd (h)) (fun b3 j3 hq3 hO2 => ?_)
        replace hO := hO2
        clear hO2
        have hj3 := may_le hq3 hm2
        cases b3
        · rw [if_neg Bool.false_ne_true] at hO
          refine nxq <| cnF rfl <| skq <| toq <| sqq <| rgq <| ldq kd70 rfl rfl rfl <| soq kd70 rfl rfl rfl rfl rfl ?_
          refine nxq <| rtq <| in_ret <| to_ret ?_
          have hO' : o = .ret [LDw L, .sc (.int .i64 (j3 : Int))] (.agg [.sc (.int .u8 2), txD [], txD [], txD [], nD 0, .list 10 [.agg (exCs (Ex.mk qop qlw qlh qll qnm qfl qn qm qar qln))], smLD l, .list 9 [], nD (wordAt wEnd L i).ln]) := by rw [hO]; show Oc.ret _ (smD (.mk 2 [] [] [] 0 [Ex.mk qop qlw qlh qll qnm qfl qn qm qar qln] l [] (wordAt wEnd L i).ln)) = _; rw [smD_cs]; first | rfl | (simp only [exCs, smCs, exDs_map, smDs_map, List.map_cons, List.map_nil, exD_cs, exLD, smLD]; done) | (simp only [exCs, smCs, exDs_map, smDs_map, List.map_cons, List.map_nil, exD_cs, exLD, smLD]; rfl)
          exact hits_doneX hO' (.inl rfl) rfl rfl rfl rfl rfl ⟨rfl, rfl, trivial⟩ rfl
        · rw [if_pos rfl] at hO
          refine nxq <| cnT rfl <| rgq <| mvq rfl rfl ?_
          refine sq_pr hO hne (hB hj3) rfl en130 rfl rfl rfl rfl ⟨rfl, rfl, trivial⟩ rfl rfl (lt rfl) (fun _ _ hd h => And.intro hd (h)) (fun l2 m3 g3 hO2 => ?_)
          replace hO := hO2
          clear hO2
          have hm3 := (tame_bl _ g3 hj3).2
          refine faq rfl kf70_7 rfl rfl <| soq kd54 rfl rfl rfl rfl rfl <| nxq <| sqq <| rgq <| ldq kd70 rfl rfl rfl <| soq kd70 rfl rfl rfl rfl rfl <| nxq ?_
          refine rtq <| in_ret <| to_ret ?_
          have hO' : o = .ret [LDw L, .sc (.int .i64 (m3 : Int))] (.agg [.sc (.int .u8 2), txD [], txD [], txD [], nD 0, .list 10 [.agg (exCs (Ex.mk qop qlw qlh qll qnm qfl qn qm qar qln))], smLD l, smLD l2, nD (wordAt wEnd L i).ln]) := by rw [hO]; show Oc.ret _ (smD (.mk 2 [] [] [] 0 [Ex.mk qop qlw qlh qll qnm qfl qn qm qar qln] l l2 (wordAt wEnd L i).ln)) = _; rw [smD_cs]; first | rfl | (simp only [exCs, smCs, exDs_map, smDs_map, List.map_cons, List.map_nil, exD_cs, exLD, smLD]; done) | (simp only [exCs, smCs, exDs_map, smDs_map, List.map_cons, List.map_nil, exD_cs, exLD, smLD]; rfl)
          exact hits_doneX hO' (.inl rfl) rfl rfl rfl rfl rfl ⟨rfl, rfl, trivial⟩ rfl
set_option maxHeartbeats 1000000 in
theorem eachs_c {L : List Wd} {i : Nat} (hL : L.length ≤ 65536) (hi : i ≤ L.length) (f : Nat) (IH : ∀ g, g ≤ f → ∀ {i : Nat}, i ≤ L.length → CallsX Tryz.prog Lw pvN 183 [LDw L, .sc (.int .i64 (i : Int))] (fun _ => []) (oS L g i)) : CallsX Tryz.prog Lw pvN 182 [LDw L, .sc (.int .i64 (i : Int))] (fun b => [.sc (.func (.func 183) #[.pointer (some ⟨b, 0, none⟩)] #[])]) (ocOf (LDw L) (smLD) ((smsP (f + 1) []).run wEnd L i)) := by
  refine callsX_of (m := 1) Tryz.func182 rfl Tryz.ntmps182 (fun _ => rfl) rfl rfl fun hne w0 S0 b stab => ?_
  obtain ⟨o, hO⟩ : ∃ o, o = ocOf (LDw L) (smLD) ((smsP (f + 1) []).run wEnd L i) := ⟨_, rfl⟩
  rw [← hO] at hne ⊢
  refine sqq <| rgq <| asq rfl rfl <| nxq <| sqq <| hits_block <| hits_own 4 4 9 rfl <| hits_loop (fun x : Nat × List Sm × Nat => [(.slot 0, some (.ptr 1000000 0)), (.box 1000000, some (.ptr 1000000 0)), (.cell 1000000 0, some (.d (LDw L))), (.cell 1000000 1, some (.d (.sc (.int .i64 (x.2.2 : Int))))), (.slot 1, some (.d (.sc (.func (.func 183) #[.pointer (some ⟨b, 0, none⟩)] #[])))), (.slot 4, some (.own 4 9 (x.2.1.map smD))), (.tip 4, some (.ptr 4 0))]) (fun x : Nat × List Sm × Nat => x.1 ≤ f + 1 ∧ x.2.1.length ≤ x.2.2 ∧ x.2.2 ≤ L.length ∧ o = ocOf (LDw L) smLD ((smsP x.1 x.2.1).run wEnd L x.2.2)) (fun x : Nat × List Sm × Nat => x.1) (f + 1, [], i) ⟨Nat.le_refl _, Nat.zero_le _, hi, hO⟩ ⟨rfl, rfl, rfl, rfl, rfl, rfl, rfl, trivial⟩ rfl ?_
  intro x hx0
  obtain ⟨g, acc, i'⟩ := x
  obtain ⟨hg, ha, hi', hO⟩ := hx0
  change g ≤ f + 1 at hg
  change acc.length ≤ i' at ha
  change i' ≤ L.length at hi'
  change o = ocOf (LDw L) smLD ((smsP g acc).run wEnd L i') at hO
  change Hits _ [(.slot 0, some (.ptr 1000000 0)), (.box 1000000, some (.ptr 1000000 0)), (.cell 1000000 0, some (.d (LDw L))), (.cell 1000000 1, some (.d (.sc (.int .i64 (i' : Int))))), (.slot 1, some (.d (.sc (.func (.func 183) #[.pointer (some ⟨b, 0, none⟩)] #[])))), (.slot 4, some (.own 4 9 (acc.map smD))), (.tip 4, some (.ptr 4 0))] _
  cases g with
  | zero => rw [smsP] at hO; exact absurd hO hne
  | succ g =>
  rw [smsP] at hO
  refine sqq <| sqq <| rgq <| mvq rfl rfl ?_
  refine sq_pr hO hne (may_c hL hi' [125]) rfl en134 rfl rfl rfl rfl ⟨rfl, rfl, trivial⟩ rfl rfl (lt rfl) (fun _ _ hd h => And.intro hd (h)) (fun b2 j hq hO2 => ?_)
  replace hO := hO2
  clear hO2
  have hj := may_le hq hi'
  have hjj := may_at hq
  cases b2
  · rw [if_neg Bool.false_ne_true] at hO
    have hji : j = i' := by rcases hjj with ⟨h, _⟩ | ⟨_, h⟩; cases h; exact h
    refine sq (f_un rfl rfl (lt rfl)) rfl rfl <| nxq <| cnT rfl <| skq <| toq <| hits_block <| rgq <| mvq rfl rfl ?_
    refine mvq rfl rfl ?_
    refine sq_prV hO hne (IH g (by omega) hj) rfl rfl rfl rfl ⟨rfl, rfl, trivial⟩ rfl rfl (lt rfl) (fun _ _ hd h => And.intro hd (h)) (fun q j2 hq2 hO2 => ?_)
    replace hO := hO2
    clear hO2
    have hj2 := eager_sm _ hq2 hj
    obtain ⟨kd, nm, fl, arr, n, ar, bd, el, ln⟩ := q
    rw [smD_cs]
    refine sq (f_buildSlice sk54 rfl rfl rfl rfl rfl rfl (by decide) (by decide) (lt rfl)) rfl rfl <| sq_append rfl rfl rfl rfl apk54 (by simp only [snds, List.length_map, List.length_cons, List.length_nil]; omega) (by simp only [snds, List.length_map, List.length_cons, List.length_nil]; omega) rfl (lt rfl) ?_
    refine asq rfl rfl <| nlq <| inq <| toq ?_
    refine round_end (g, acc ++ [Sm.mk kd nm fl arr n ar bd el ln], j2) ⟨by simp only; omega, by simp only [List.length_append, List.length_cons, List.length_nil]; omega, hj2.2, hO⟩ (by simp only; omega) ⟨rfl, rfl, rfl, rfl, rfl, (by show _ = some (V.own 4 9 ((acc ++ [Sm.mk kd nm fl arr n ar bd el ln]).map smD)); rw [List.map_append, List.map_cons, List.map_nil, smD_cs]; rfl), rfl, trivial⟩ rfl
  · rw [if_pos rfl] at hO
    refine sq (f_un rfl rfl (lt rfl)) rfl rfl <| nxq <| cnF rfl <| hits_exit <| to_exit <| to_exit <| in_hit rfl <| toq ?_
    refine sqq <| rgq <| mvq rfl rfl <| asq rfl rfl <| nxq <| rtq ?_
    exact hits_doneX hO (.inl rfl) rfl rfl rfl rfl rfl ⟨rfl, rfl, trivial⟩ rfl
theorem block_c {L : List Wd} {i : Nat} (hL : L.length ≤ 65536) (hi : i ≤ L.length) {f : Nat} (hE : ∀ {i : Nat}, i ≤ L.length → CallsX Tryz.prog Lw pvN 182 [LDw L, .sc (.int .i64 (i : Int))] (fun b => [.sc (.func (.func 183) #[.pointer (some ⟨b, 0, none⟩)] #[])]) (ocOf (LDw L) smLD ((smsP f []).run wEnd L i))) : CallsX Tryz.prog Lw pvN 130 [LDw L, .sc (.int .i64 (i : Int))] (fun b => []) (ocOf (LDw L) (smLD) ((blP (f + 1)).run wEnd L i)) := by
  refine callsX_of (m := 0) Tryz.func130 rfl Tryz.ntmps130 (fun _ => rfl) rfl rfl fun hne w0 S0 b stab => ?_
  obtain ⟨o, hO⟩ : ∃ o, o = ocOf (LDw L) (smLD) ((blP (f + 1)).run wEnd L i) := ⟨_, rfl⟩
  rw [← hO] at hne ⊢
  rw [blP] at hO
  have hO : o = ocOf (LDw L) smLD (((needP [[123]]).bind fun _ => (smsP f []).bind .ret).run wEnd L i) := by rw [hO, bind_ret]
  refine sqq <| rgq <| asq rfl rfl <| nxq <| sqq <| rgq <| mvq rfl rfl ?_
  refine sq_pr hO hne (need_c (l := [123]) (ts := [[123]]) hL hi (by decide) (fields_g (l := [123]) (ts := [[123]]) (by decide +kernel) (by decide +kernel) (by decide +kernel))) rfl en122 rfl rfl rfl rfl ⟨rfl, rfl, trivial⟩ rfl rfl (lt rfl) (fun _ _ hd h => And.intro hd (h)) (fun uj j hq hO2 => ?_)
  replace hO := hO2
  clear hO2
  have hj := (tame_need _ hq hi).2
  refine nxq <| sqq <| rgq <| mvq rfl rfl <| mvq rfl rfl <| sq (f_methodVal rfl rfl rfl (lt rfl)) rfl rfl ?_
  refine sq_pr hO hne (hE hj) rfl en182 rfl rfl rfl rfl ⟨rfl, rfl, trivial⟩ rfl rfl (lt rfl) (fun _ _ hd h => And.intro hd (h)) (fun l j2 hq2 hO2 => ?_)
  replace hO := hO2
  clear hO2
  refine asq rfl rfl <| nxq <| rtq ?_
  exact hits_doneX hO (.inl rfl) rfl rfl rfl rfl rfl ⟨rfl, rfl, trivial⟩ rfl
theorem sm_all {L : List Wd} (hL : L.length ≤ 65536) (hS : Small L) : ∀ f g, g ≤ f → (∀ {i : Nat}, i ≤ L.length → CallsX Tryz.prog Lw pvN 183 [LDw L, .sc (.int .i64 (i : Int))] (fun _ => []) (oS L g i)) ∧ (∀ {i : Nat}, i ≤ L.length → CallsX Tryz.prog Lw pvN 130 [LDw L, .sc (.int .i64 (i : Int))] (fun _ => []) (oB L g i))
  | 0, g, hg => by
    obtain rfl : g = 0 := by omega
    exact ⟨fun {i} _ => by rw [show oS L 0 i = .any from by unfold oS; rw [smP]; rfl]; exact call_any, fun {i} _ => by rw [show oB L 0 i = .any from by unfold oB; rw [blP]; rfl]; exact call_any⟩
  | f + 1, g, hg => by
    by_cases h : g ≤ f
    · exact sm_all hL hS f g h
    obtain rfl : g = f + 1 := by omega
    have ih := sm_all hL hS f
    refine ⟨fun hi => stmt_c hL hi hS (fun g hg => ex_all hL hS f g hg) (ih f (Nat.le_refl _)).2, fun hi => block_c hL hi fun {i} hi => ?_⟩
    cases f with
    | zero => rw [show ocOf (LDw L) smLD ((smsP 0 []).run wEnd L i) = .any from by rw [smsP]; rfl]; exact call_any
    | succ f => exact eachs_c hL hi f fun g hg => (ih g (by omega)).1
end Go.Proofs.YtogodijfdkffaaaGreatDoor.Ln

/- Closures over variables that stay as they are, told as data; functions that reach the parser through such a variable. No program. -/
namespace Go.Ab
open Go Go.RowKit
variable {P : Program} {E : Env} {st : St} {G : Gh} {a : Act} {w : World} {Q : Exit → Act → World → Prop}
variable {d : Nat} {ty : TypeId} {pos : String} {af : Array Edge} {g : Option (Nat × Bool)} {x y z : Operand}
def CallsW (P : Program) (Γ : World → Prop) (pv : Value) (f : FuncId) (ins : List D) (args : Nat → List D) (o : Oc) : Prop :=
  o ≠ .any → ∀ (S : Stab) (w : World) (b : Nat) (us : List Value), (∀ w', KW w [b] w' → Γ w') → (∀ b o v, S b o = some v → w.cell? ⟨b, o, none⟩ = some v) → (∀ o, S b o = none) → RelL S (args b) us →
    (∃ cs ty, w.heap[b]? = some (.cells cs ty (0, 0)) ∧ Cells S ins cs) →
    Calls P f ⟨us⟩ w fun e w' => EndsX pv S w b e w' o
def cloRows (ins args : List D) : St := (.box 1000000, some (.ptr 1000000 0)) :: (cellRows 1000000 0 (ins.map .d) ++ argRows 0 args)
theorem look_clo_box {ins args : List D} (i : Nat) : look (cloRows ins args) (.box i) = if i = 1000000 then some (.ptr 1000000 0) else none := by
  unfold cloRows
  rw [look_cons]
  by_cases h : i = 1000000
  · subst h; simp
  · rw [if_neg (by simp; exact fun c => h c.symm), if_neg h, look_cellRows_ne _ (fun o => by simp), look_argRows_ne args 0 _ (by simp)]
theorem callsW_at {Γ : World → Prop} {f : FuncId} {fn : Func} {c : Code} {ins args : List D} {R : World → Stab → Nat → Ending → World → Prop} {n : Nat} (hf : P.funcs[f]? = some fn) (hb : fn.body = some c) (hn : fn.ntmps = n) (hl : Nat.ble args.length n = true) (hbig : Nat.ble n 1000000 = true)
    (S : Stab) (w : World) (b : Nat) (us : List Value) (hΓ : ∀ w', KW w [b] w' → Γ w') (hS : ∀ b o v, S b o = some v → w.cell? ⟨b, o, none⟩ = some v) (hSb : ∀ o, S b o = none) (hr : RelL S args us)
    (hc : ∃ cs ty, w.heap[b]? = some (.cells cs ty (0, 0)) ∧ Cells S ins cs)
    (h1 : Hits ⟨w, [b], [(1000000, b)], S, n, Γ, hΓ, #[]⟩ (cloRows ins args) (c.wp P (bodyPost P fn (R w S b)))) : Calls P f ⟨us⟩ w (R w S b) := by
  obtain ⟨cs0, ty0, hcs, hcells⟩ := hc
  let E : Env := ⟨w, [b], [(1000000, b)], S, n, Γ, hΓ, #[]⟩
  have hlen := relL_length hr
  have hle : args.length ≤ n := Nat.le_of_ble_eq_true hl
  have hs : Sim E (cloRows ins args) ⟨S, fun _ => b, fun _ => 0, fun _ => false, fun _ => 0, fun _ => 0⟩ { tmps := (⟨us⟩ : Array Value) ++ Array.replicate (fn.ntmps - (⟨us⟩ : Array Value).size) undef, defers := [] } w := by
    have nt : ∀ i, look (cloRows ins args) (.tip i) = none := fun i => by
      unfold cloRows
      rw [look_ne _ _ (by simp), look_cellRows_ne _ (fun o => by simp), look_argRows_ne args 0 _ (by simp)]
    have only : ∀ i, look (cloRows ins args) (.box i) ≠ none → i = 1000000 := fun i hi => by
      rw [look_clo_box] at hi
      by_cases h : i = 1000000
      · exact h
      · rw [if_neg h] at hi; exact absurd rfl hi
    refine ⟨⟨rfl, rfl, rfl, Nat.le_refl _, fun _ _ _ => rfl⟩, Stab.le.refl _, fun _ _ _ e => .inl e, ?_, rfl, fun t v hv => ?_, fun i o v hv => ?_, fun i hi => ?_, fun i j hi hj _ => (only i hi).trans (only j hj).symm, hS, fun i hi => absurd (nt i) hi, fun i j hi => absurd (nt i) hi, fun p hp => ?_, fun i qv l hl _ _ => (by rw [nt i] at hl; cases hl), fun i v hl => (by
      unfold cloRows at hl
      rw [look_ne _ _ (by simp), look_cellRows_ne _ (fun o => by simp), look_argRows_ne args 0 _ (by simp)] at hl
      cases hl), fun k v hl => (by
      unfold cloRows at hl
      rw [look_ne _ _ (by simp), look_cellRows_ne _ (fun o => by simp), look_argRows_ne args 0 _ (by simp)] at hl
      cases hl)⟩
    · show _ = n
      simp [hn]; omega
    · unfold cloRows at hv
      rw [look_ne _ _ (by simp), look_cellRows_ne _ (fun o => by simp), look_argRows, if_pos (Nat.zero_le _)] at hv
      simp only [Option.map_eq_some_iff, Nat.sub_zero] at hv
      obtain ⟨x, hx, rfl⟩ := hv
      obtain ⟨u, hu, hrel⟩ := relL_getElem hr hx
      show Rel S x _
      have e : ((⟨us⟩ : Array Value) ++ Array.replicate (fn.ntmps - (⟨us⟩ : Array Value).size) undef).getD t undef = u := by
        have ht : t < us.length := (List.getElem?_eq_some_iff.1 hu).1
        rw [Array.getD_eq_getD_getElem?, Array.getElem?_append_left (by simpa using ht)]
        simp [hu]
      rw [e]; exact hrel
    · unfold cloRows at hv
      rw [look_ne _ _ (by simp)] at hv
      by_cases hi : i = 1000000
      · subst hi
        rw [look_cellRows] at hv
        split at hv
        · rw [Nat.sub_zero, List.getElem?_map] at hv
          cases hq : ins[o]? with
          | none => rw [hq] at hv; cases hv
          | some q =>
            rw [hq] at hv
            obtain rfl := Option.some.inj hv
            obtain ⟨cv, q1, q2⟩ := hcells o q hq
            exact ⟨by rw [look_clo_box]; simp, cs0, ty0, cv, hcs, q1, q2⟩
        · rw [look_argRows_ne args 0 _ (by simp)] at hv; cases hv
      · rw [look_cellRows_ne _ (fun o' => by simp; intro c; exact absurd c hi), look_argRows_ne args 0 _ (by simp)] at hv; cases hv
    · exact ⟨.inr (by simp [E]), lt_of_block hcs, hSb⟩
    · obtain rfl := List.mem_singleton.mp hp
      exact ⟨Nat.le_of_ble_eq_true hbig, fun _ => rfl⟩
  exact calls_of_wp hf hb (h1 _ _ _ hs)
theorem callsW_of {Γ : World → Prop} {pv : Value} {f : FuncId} {fn : Func} {c : Code} {ins : List D} {args : Nat → List D} {o : Oc} {n m : Nat} (hf : P.funcs[f]? = some fn) (hb : fn.body = some c) (hn : fn.ntmps = n) (hm : ∀ b, (args b).length = m) (hl : Nat.ble m n = true) (hbig : Nat.ble n 1000000 = true)
    (h : o ≠ .any → ∀ (w0 : World) (S0 : Stab) (b : Nat) (stab : ∀ w, KW w0 [b] w → Γ w), Hits ⟨w0, [b], [(1000000, b)], S0, n, Γ, stab, #[]⟩ (cloRows ins (args b)) (c.wp P (bodyPost P fn fun e w' => EndsX pv S0 w0 b e w' o))) : CallsW P Γ pv f ins args o := by
  intro ho S w b us hΓ hS hSb hr hc
  exact callsW_at (R := fun w0 S0 b e w' => EndsX pv S0 w0 b e w' o) hf hb hn (by rw [hm]; exact hl) hbig S w b us hΓ hS hSb hr hc (h ho w S b hΓ)
theorem hits_ptrOf {K : Act → World → Prop} (t : Nat) {b : Nat} (hl : look st (.slot t) = some (.d (.sc (.pointer (some ⟨b, 0, none⟩))))) (hf : E.fix = [(1000000, b)]) (hbox : (look st (.box 1000000)).isSome = true) (h : Hits E ((.slot t, some (.ptr 1000000 0)) :: st) K) : Hits E st K := by
  intro G a w s
  have hm : G.μ 1000000 = b := (s.rcv (1000000, b) (by rw [hf]; simp)).2 (by intro c; rw [c] at hbox; cases hbox)
  exact h G a w (s.retell (t := t) (v := .ptr 1000000 0) (by show _ = _; rw [hm]; exact rel_sc (s.slots t _ hl)))
theorem hits_fn2 {K : Act → World → Prop} (t : Nat) (f : FuncId) (i j : Nat) {q0 q1 : D} (hij : i ≠ j) (h : Hits E [(.slot t, some (.d (.clo f [.eptr [q0], .eptr [q1]])))] K) :
    Hits E [(.slot t, some (.fn f [i, j])), (.box i, some (.ptr i 0)), (.cell i 0, some (.d q0)), (.box j, some (.ptr j 0)), (.cell j 0, some (.d q1))] K := by
  intro G a w s
  have bi : look [(Loc.slot t, some (V.fn f [i, j])), (.box i, some (.ptr i 0)), (.cell i 0, some (.d q0)), (.box j, some (.ptr j 0)), (.cell j 0, some (.d q1))] (.box i) ≠ none := by
    rw [look_ne _ _ (by simp), look_same]; simp
  have bj : look [(Loc.slot t, some (V.fn f [i, j])), (.box i, some (.ptr i 0)), (.cell i 0, some (.d q0)), (.box j, some (.ptr j 0)), (.cell j 0, some (.d q1))] (.box j) ≠ none := by
    rw [look_ne _ _ (by simp), look_ne _ _ (by simpa using hij), look_ne _ _ (by simp), look_same]; simp
  obtain ⟨i1, i2, i3⟩ := s.boxes i bi
  obtain ⟨j1, j2, j3⟩ := s.boxes j bj
  have hne : G.μ i ≠ G.μ j := fun c => hij (s.inj i j bi bj c)
  obtain ⟨_, ci, tyi, vi, i4, i5, i6⟩ := s.cells i 0 (.d q0) (by rw [look_ne _ _ (by simp), look_ne _ _ (by simp), look_same])
  obtain ⟨_, cj, tyj, vj, j4, j5, j6⟩ := s.cells j 0 (.d q1) (by rw [look_ne _ _ (by simp), look_ne _ _ (by simp), look_ne _ _ (by simpa using hij), look_ne _ _ (by simp), look_same])
  let S' : Stab := fun b o => if b = G.μ i ∧ o = 0 then some vi else if b = G.μ j ∧ o = 0 then some vj else G.S b o
  have hle : G.S.le S' := fun b o v hv => by
    show (if _ then _ else _) = _
    rw [if_neg (by rintro ⟨rfl, _⟩; rw [i3 o] at hv; cases hv), if_neg (by rintro ⟨rfl, _⟩; rw [j3 o] at hv; cases hv)]; exact hv
  have si : S' (G.μ i) 0 = some vi := if_pos ⟨rfl, rfl⟩
  have sj : S' (G.μ j) 0 = some vj := (if_neg (by rintro ⟨c, _⟩; exact hne c.symm)).trans (if_pos ⟨rfl, rfl⟩)
  have wi : w.cell? ⟨G.μ i, 0, none⟩ = some vi := by rw [cell_of_block i4]; exact i5
  have wj : w.cell? ⟨G.μ j, 0, none⟩ = some vj := by rw [cell_of_block j4]; exact j5
  have nb : ∀ k : Loc, (∀ u, k ≠ .slot u) → look [(Loc.slot t, some (V.d (.clo f [.eptr [q0], .eptr [q1]])))] k = none := fun k hk => by rw [look_ne _ _ (fun c => hk t c.symm)]; rfl
  refine h { G with S := S' } a w ⟨s.kw, s.s0.trans hle, fun b o v hv => ?_, s.tmps, s.defers, fun u v hv => ?_, fun k o v hv => (by rw [nb _ (by simp)] at hv; cases hv), fun k hk => absurd (nb _ (by simp)) hk, fun k l hk => absurd (nb _ (by simp)) hk, fun b o v hv => ?_, fun k hk => absurd (nb _ (by simp)) hk, fun k l hk => absurd (nb _ (by simp)) hk, fun p hp => ⟨(s.rcv p hp).1, fun hk => absurd (nb _ (by simp)) hk⟩, fun k qv l hv => (by rw [nb _ (by simp)] at hv; cases hv), fun k v hv => (by rw [nb _ (by simp)] at hv; cases hv), fun k v hv => (by rw [nb _ (by simp)] at hv; cases hv)⟩
  · change (if _ then _ else _) = _ at hv
    split at hv
    · rename_i hc; rw [hc.1]; exact .inr i1
    · split at hv
      · rename_i hc; rw [hc.1]; exact .inr j1
      · exact s.snew b o v hv
  · rw [look_cons] at hv
    split at hv
    · rename_i he
      obtain rfl : t = u := by simpa using he
      obtain rfl := Option.some.inj hv
      have hs : RelV G (.fn f [i, j]) (a.tmps.getD t undef) := s.slots t _ (look_same ..)
      simp only [RelV, List.map_cons, List.map_nil] at hs
      show Rel S' _ _
      rw [hs]
      exact .clo (.cons (.eptr (.cons si (Rel.mono hle i6) .nil)) (.cons (.eptr (.cons sj (Rel.mono hle j6) .nil)) .nil))
    · cases hv
  · change (if _ then _ else _) = _ at hv
    split at hv
    · rename_i hc; obtain ⟨rfl, rfl⟩ := hc; cases hv; exact wi
    · split at hv
      · rename_i hc; obtain ⟨rfl, rfl⟩ := hc; cases hv; exact wj
      · exact s.stable b o v hv
def evIds (st : St) : List Operand → Option (List Nat)
  | [] => some []
  | x :: r => match ev st x, evIds st r with
    | some (.ptr i 0), some l => some (i :: l)
    | _, _ => none
theorem evIds_spec : ∀ {xs : List Operand} {ids : List Nat}, evIds st xs = some ids → evVs st xs = some (ids.map fun i => V.ptr i 0)
  | [], ids, h => by obtain rfl := Option.some.inj h; rfl
  | x :: r, ids, h => by
    unfold evIds at h
    split at h
    · rename_i i l h1 h2
      obtain rfl := Option.some.inj h
      unfold evVs
      rw [h1, evIds_spec h2]; rfl
    · cases h
theorem Sim.cellsOf {ins : List D} {id : Nat} (s : Sim E st G a w) (hin : insAt st id 0 ins) (hpos : Nat.blt 0 ins.length = true) : ∃ cs ty, w.heap[G.μ id]? = some (.cells cs ty (0, 0)) ∧ Cells G.S ins cs := by
  obtain ⟨q0, hq0⟩ : ∃ q, ins[0]? = some q := ⟨_, List.getElem?_eq_getElem (Nat.le_of_ble_eq_true hpos)⟩
  obtain ⟨_, cs, ty', cv, h1, _, _⟩ := s.cells id _ _ (insAt_get hin hq0)
  refine ⟨cs, ty', h1, fun k q hk => ?_⟩
  have hl := insAt_get hin hk
  rw [Nat.zero_add] at hl
  obtain ⟨_, cs2, ty2, cv2, h2, h3, h4⟩ := s.cells id _ _ hl
  rw [h1] at h2
  cases h2
  exact ⟨cv2, h3, h4⟩
theorem Sim.recell (s : Sim E st G a w) {id k : Nat} {v0 v : V} (hl : look st (.cell id k) = some v0) (hR : ∀ u, RelV G v0 u → RelV G v u) : Sim E ((.cell id k, some v) :: st) G a w := by
  have e1 : ∀ i, look ((Loc.cell id k, some v) :: st) (.box i) = look st (.box i) := fun i => look_ne _ _ (by simp)
  have e2 : ∀ i, look ((Loc.cell id k, some v) :: st) (.tip i) = look st (.tip i) := fun i => look_ne _ _ (by simp)
  refine ⟨s.kw, s.s0, s.snew, s.tmps, s.defers, fun t v hv => s.slots t v (by rw [look_ne _ _ (by simp)] at hv; exact hv), fun i o v hv => ?_, fun i hi => s.boxes i (by rw [e1] at hi; exact hi), fun i j hi hj => s.inj i j (by rw [e1] at hi; exact hi) (by rw [e1] at hj; exact hj), s.stable, fun i hi ht => ?_, fun i j hi hj => s.tinj i j (by rw [e2] at hi; exact hi) (by rw [e2] at hj; exact hj), fun p hp => ⟨(s.rcv p hp).1, fun hi => (s.rcv p hp).2 (by rw [e1] at hi; exact hi)⟩, fun i qv l hv hcl ht => s.conts i qv l (by rw [e2] at hv; exact hv) hcl ht, fun i v hv => ?_, fun j v hv => s.olds j v (by rw [look_ne _ _ (by simp)] at hv; exact hv)⟩
  · rw [look_cons] at hv
    split at hv
    · rename_i he
      obtain ⟨rfl, rfl⟩ : id = i ∧ k = o := by simpa using he
      obtain rfl := Option.some.inj hv
      obtain ⟨h1, cs, ty, cv, h2, h3, h4⟩ := s.cells id k _ hl
      exact ⟨by rw [e1]; exact h1, cs, ty, cv, h2, h3, hR _ h4⟩
    · obtain ⟨h1, h2⟩ := s.cells i o v hv
      exact ⟨by rw [e1]; exact h1, h2⟩
  · rw [e2] at hi
    obtain ⟨h1, h2, h3, h4⟩ := s.tips i hi ht
    exact ⟨h1, h2, h3, fun j hj => h4 j (by rw [e1] at hj; exact hj)⟩
  · rw [look_ne _ _ (by simp)] at hv
    obtain ⟨h1, h2⟩ := s.iters i v hv
    exact ⟨by rw [e1]; exact h1, h2⟩
theorem f_makeClo {f : FuncId} {xs : List Operand} {ids : List Nat} (hx : evIds st xs = some ids) (hd : d < E.N) :
    FOk P E ⟨some d, .makeFunc (.func f) #[] xs.toArray, ty, pos, af, g⟩ st (evsL xs) [] [(.slot d, some (.fn f ids))] :=
  fok_val rfl hd fun st' G a w hL hs => by
    have e1 := hs.evVs ((evVs_same hL).trans (evIds_spec hx))
    refine ⟨.func (.func f) #[] (xs.map a.eval).toArray, by simp [execOp, Instr.makeFunc], ?_⟩
    show _ = _
    congr 1
    have key : ∀ (ids : List Nat) (us : List Value), RelVL G (ids.map fun i => V.ptr i 0) us → us = ids.map fun i => Value.pointer (some ⟨G.μ i, 0, none⟩) := by
      intro ids
      induction ids with
      | nil => intro us h; simp only [List.map_nil, RelVL] at h; rw [h]; rfl
      | cons i r ih =>
        intro us h
        simp only [List.map_cons, RelVL] at h
        obtain ⟨u, l, rfl, h1, h2⟩ := h
        rw [ih l h2, List.map_cons]
        congr 1
    rw [key ids _ e1]
theorem f_lenListN {t e : TypeId} {v : V} {es n : Nat} {l : List D} (hx : ev st x = some v) (ha : asList v = some (es, l)) (ht : P.underlying t = some (.slice e)) (hn : l.length = n) (hd : d < E.N) :
    FOk P E ⟨some d, .call ⟨.builtin .len, #[x], #[t]⟩, ty, pos, af, g⟩ st (evL x) [] [(.slot d, some (.d (.sc (.int .i64 (n : Int)))))] := by subst hn; exact f_lenList hx ha ht hd
theorem hits_cellL {K : Act → World → Prop} (c k : Nat) {es : Nat} {l : List D} {v : V} (hl : look st (.cell c k) = some v) (ha : asList v = some (es, l)) (h : Hits E ((.cell c k, some (.d (.list es l))) :: st) K) : Hits E st K :=
  fun G a w s => h G a w (s.recell hl fun u hu => relV_list hu ha)
theorem hits_dataOf {K : Act → World → Prop} (t : Nat) {b : Nat} (hl : look st (.slot t) = some (.ptr 1000000 0)) (hf : E.fix = [(1000000, b)]) (hbox : (look st (.box 1000000)).isSome = true) (h : Hits E ((.slot t, some (.d (.sc (.pointer (some ⟨b, 0, none⟩))))) :: st) K) : Hits E st K := by
  intro G a w s
  have hm : G.μ 1000000 = b := (s.rcv (1000000, b) (by rw [hf]; simp)).2 (by intro c; rw [c] at hbox; cases hbox)
  refine h G a w (s.retell (t := t) (v := .d (.sc (.pointer (some ⟨b, 0, none⟩)))) ?_)
  have e : a.tmps.getD t undef = .pointer (some ⟨G.μ 1000000, 0, none⟩) := s.slots t _ hl
  rw [e, hm]
  exact .sc _
theorem sq_callG0 {ops : Array Oper} {l : List Oper} {op : Oper} {f : FuncId} {ins : List D} {id : Nat} {pv : Value} {o1 : Oc} (hdst : op.dst = some d) (hgd : op.guard = none)
    (hrun : ∀ G a w, Sim E st G a w → ∃ us, (execOp a.eval op).run P w = .ok (.enter f us) w ∧ Calls P f us w fun e w' => EndsX pv G.S w (G.μ id) e w' o1)
    (ho1 : o1 ≠ .any) (hfit : o1.fits ins.length) (hin : insAt st id 0 ins) (hbox : (look st (.box id)).isSome = true) (htop : st.topOk id ins.length = true) (hpos : Nat.blt 0 ins.length = true) (hd : d < E.N)
    (hret : ∀ outs r, o1 = .ret outs r → Hits E ((.slot d, some (.d r)) :: (cellRows id 0 (outs.map .d) ++ st)) (wpList P ops Q l))
    (hpan : ∀ outs, o1 = .pan outs → Hits E (cellRows id 0 (outs.map .d) ++ st) fun a w => Q (.panic (ch0 pv)) a w) :
    Hits E st (wpList P ops Q (op :: l)) := by
  intro G a w s
  obtain ⟨us, hr, hcall⟩ := hrun G a w s
  unfold wpList
  rw [if_pos (by simp [Region.wanted, hgd])]
  refine .inl ?_
  show Oper.upon P op a _ Q ((execOp a.eval op).run P w)
  rw [hr]
  have hb0 : look st (.box id) ≠ none := by intro c; rw [c] at hbox; cases hbox
  obtain ⟨hb1, hb2, hb3⟩ := s.boxes id hb0
  have hcells := s.cellsOf hin hpos
  refine hcall.mono ?_
  intro e w' h2
  cases o1 with
  | any => exact absurd rfl ho1
  | ret outs r =>
    obtain ⟨u, S', rfl, hr, hT⟩ := h2
    have := hret outs r rfl _ _ _ ((s.afterB hb0 htop hfit hcells hT).put hd hr)
    rw [← hdst] at this
    exact this
  | pan outs =>
    obtain ⟨S', rfl, hT⟩ := h2
    exact hpan outs rfl _ _ _ (s.afterB hb0 htop hfit hcells hT)
theorem sq_prC {ω α β : Type} {w0 : ω} {L : List ω} {p1 : Pr ω α} {k : α → Pr ω β} {i : Nat} {hdD : D} {tD : β → D} {tD1 : α → D} {o : Oc} {ops : Array Oper} {l : List Oper} {f : FuncId} {ats : Array TypeId} {args : Nat → List D} {ds : List D} {pv : Value} {b : Nat}
    (hO : o = ocOf hdD tD ((p1.bind k).run w0 L i)) (hne : o ≠ .any) (hc : CallsW P E.Γ pv f [hdD, .sc (.int .i64 (i : Int))] args (ocOf hdD tD1 (p1.run w0 L i))) (hargs : args b = ds) (hen : enters P f = true) (hx : ev st x = some (.d (.clo f ds)))
    (ho : E.outs = [b]) (hf : E.fix = [(1000000, b)]) (hin : insAt st 1000000 0 [hdD, .sc (.int .i64 (i : Int))]) (hbox : (look st (.box 1000000)).isSome = true) (htop : st.topOk 1000000 2 = true) (hd : d < E.N)
    (hpan : ∀ a w, a.defers = [] → EndsX pv E.S0 E.w0 b (.panicked (ch0 pv)) w o → Q (.panic (ch0 pv)) a w)
    (h : ∀ q j, p1.run w0 L i = .ok q j → o = ocOf hdD tD ((k q).run w0 L j) → Hits E ((.slot d, some (.d (tD1 q))) :: (.cell 1000000 0, some (.d hdD)) :: (.cell 1000000 1, some (.d (.sc (.int .i64 (j : Int))))) :: st) (wpList P ops Q l)) :
    Hits E st (wpList P ops Q (⟨some d, .call ⟨.value x, #[], ats⟩, ty, pos, af, none⟩ :: l)) := by
  have hb0 : look st (.box 1000000) ≠ none := by intro c; rw [c] at hbox; cases hbox
  have hrun : ocOf hdD tD1 (p1.run w0 L i) ≠ .any → ∀ G a w, Sim E st G a w → ∃ us, (execOp a.eval (⟨some d, .call ⟨.value x, #[], ats⟩, ty, pos, af, none⟩ : Oper)).run P w = .ok (.enter f us) w ∧ Calls P f us w fun e w' => EndsX pv G.S w (G.μ 1000000) e w' (ocOf hdD tD1 (p1.run w0 L i)) := fun hany G a w s => by
    have hm : G.μ 1000000 = b := (s.rcv (1000000, b) (by rw [hf]; simp)).2 hb0
    have e1 : Rel G.S (.clo f ds) (a.eval x) := s.ev hx
    obtain ⟨cs, hv, hl⟩ : ∃ cs : List Value, a.eval x = .func (.func f) #[] ⟨cs⟩ ∧ RelL G.S ds cs := by
      cases hv : a.eval x with
      | func fv bnd cap =>
        rw [hv] at e1
        cases e1 with
        | clo hl => exact ⟨_, rfl, hl⟩
      | _ => rw [hv] at e1; cases e1
    refine ⟨⟨cs⟩, by simp [execOp, resolve, hv, Deferred.ofValue, invoke, run_callFunc hen], ?_⟩
    rw [← hargs, ← hm] at hl
    exact hc hany G.S w (G.μ 1000000) cs (fun w' k => E.stab w' (s.kw.trans k (s.boxes 1000000 hb0).1)) s.stable (s.boxes 1000000 hb0).2.2 hl (s.cellsOf hin rfl)
  rw [run_bind] at hO
  cases hr : p1.run w0 L i with
  | oof => rw [hr] at hO; exact absurd hO hne
  | ok q j =>
    rw [hr] at hO hrun
    refine sq_callG0 (ins := [hdD, .sc (.int .i64 (i : Int))]) rfl rfl (hrun (fun c => by cases c)) (fun c => by cases c) rfl hin hbox htop rfl hd (fun outs r e => ?_) (fun outs e => by cases e)
    cases e
    exact h q j hr hO
  | bad j =>
    rw [hr] at hO hrun
    refine sq_callG0 (ins := [hdD, .sc (.int .i64 (i : Int))]) rfl rfl (hrun (fun c => by cases c)) (fun c => by cases c) rfl hin hbox htop rfl hd (fun outs r e => by cases e) (fun outs e => ?_)
    cases e
    intro G a w s
    refine hpan a w s.defers ?_
    rw [hO]
    exact ⟨G.S, rfl, sim_tail s ho hf (by rw [look_cellRows_ne 1000000 (fun o => by simp)]; exact hbox) ⟨look_same .., by show look ((Loc.cell 1000000 0, some (V.d hdD)) :: (Loc.cell 1000000 1, some (V.d (D.sc (Value.int IntKind.i64 (j : Int))))) :: st) (.cell 1000000 1) = _; rw [look_ne _ _ (by simp)]; exact look_same .., trivial⟩ rfl⟩
end Go.Ab

