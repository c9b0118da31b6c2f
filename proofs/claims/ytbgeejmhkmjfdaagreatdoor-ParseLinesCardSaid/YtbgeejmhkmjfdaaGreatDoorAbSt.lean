/- The parser's statements over data. -/
import Derived.Test.YtbgeejmhkmjfdaaGreatDoorAbPf
namespace Go.Proofs.YtbgeejmhkmjfdaaGreatDoor.Ln
open Go Go.RowKit Go.Ab Go.Proofs 
set_option linter.unusedVariables false
set_option linter.unusedSimpArgs false
theorem bu225 : bk Tryz.prog 225 = some ([(0, 1), (1, 1)], [.int .u8 0, .nilFunc]) := by kernel_rfl
theorem mpk227 : mpk Tryz.prog 227 = some (9, 225, .agg ⟨[.int .u8 0, .nilFunc]⟩) := by kernel_rfl
theorem en152 : enters Tryz.prog 152 = true := by kernel_rfl
theorem zc65 : zc Tryz.prog 65 = some [.int .u8 0, .string ByteArray.empty, .string ByteArray.empty, .string ByteArray.empty, .int .i64 0, .slice none 0 0, .slice none 0 0, .slice none 0 0, .int .i64 0] := by kernel_rfl
theorem kf65_8 : kf Tryz.prog 65 8 = some 8 := by kernel_rfl
theorem zc225 : zc Tryz.prog 225 = some [.int .u8 0, .nilFunc] := by kernel_rfl
theorem kd225 : kd Tryz.prog 225 = some (true, 2) := by kernel_rfl
theorem kf65_1 : kf Tryz.prog 65 1 = some 1 := by kernel_rfl
theorem kf65_0 : kf Tryz.prog 65 0 = some 0 := by kernel_rfl
theorem kd63 : kd Tryz.prog 63 = some (false, 1) := by kernel_rfl
theorem kf65_2 : kf Tryz.prog 65 2 = some 2 := by kernel_rfl
theorem kf65_5 : kf Tryz.prog 65 5 = some 5 := by kernel_rfl
theorem kd65 : kd Tryz.prog 65 = some (true, 9) := by kernel_rfl
theorem en155 : enters Tryz.prog 155 = true := by kernel_rfl
theorem en91 : enters Tryz.prog 91 = true := by kernel_rfl
theorem kf65_6 : kf Tryz.prog 65 6 = some 6 := by kernel_rfl
theorem kd60 : kd Tryz.prog 60 = some (false, 1) := by kernel_rfl
theorem kf65_7 : kf Tryz.prog 65 7 = some 7 := by kernel_rfl
theorem kf225_0 : kf Tryz.prog 225 0 = some 0 := by kernel_rfl
theorem kf225_1 : kf Tryz.prog 225 1 = some 1 := by kernel_rfl
theorem kd223 : kd Tryz.prog 223 = some (false, 1) := by kernel_rfl
theorem en167 : enters Tryz.prog 167 = true := by kernel_rfl
theorem en168 : enters Tryz.prog 168 = true := by kernel_rfl
theorem en178 : enters Tryz.prog 178 = true := by kernel_rfl
theorem en169 : enters Tryz.prog 169 = true := by kernel_rfl
theorem en179 : enters Tryz.prog 179 = true := by kernel_rfl
theorem kf65_3 : kf Tryz.prog 65 3 = some 3 := by kernel_rfl
theorem en170 : enters Tryz.prog 170 = true := by kernel_rfl
theorem en171 : enters Tryz.prog 171 = true := by kernel_rfl
theorem en172 : enters Tryz.prog 172 = true := by kernel_rfl
theorem en173 : enters Tryz.prog 173 = true := by kernel_rfl
theorem kf65_4 : kf Tryz.prog 65 4 = some 4 := by kernel_rfl
theorem sk60 : sk Tryz.prog 60 = some (65, 9, [.int .u8 0, .string ByteArray.empty, .string ByteArray.empty, .string ByteArray.empty, .int .i64 0, .slice none 0 0, .slice none 0 0, .slice none 0 0, .int .i64 0]) := by kernel_rfl
theorem apk60 : apk Tryz.prog 60 60 = some (65, 9, 144) := by kernel_rfl
theorem en127 : enters Tryz.prog 127 = true := by kernel_rfl
theorem bind_bind {ω α β γ : Type} (f : α → Pr ω β) (g : β → Pr ω γ) : ∀ p : Pr ω α, (p.bind f).bind g = p.bind fun x => (f x).bind g
  | .ret a => rfl
  | .bad => rfl
  | .oof => rfl
  | .look k => by show Pr.look _ = Pr.look _; congr 1; funext x; exact bind_bind f g (k x)
  | .take p => by show Pr.take _ = Pr.take _; congr 1; exact bind_bind f g p
theorem ret_bind {ω α β : Type} (a : α) (k : α → Pr ω β) : (Pr.ret a).bind k = k a := rfl
theorem bind_congr' {ω α β : Type} {p : Pr ω α} {k k' : α → Pr ω β} (h : ∀ a, k a = k' a) : p.bind k = p.bind k' := by rw [funext h]
def semi (x : Sm) : PW Sm := (needP [[59]]).bind fun _ => .ret x
def formK (f kind line : Nat) : Nat → PW Sm
  | 0 => nameP.bind fun s => semi (.mk kind s [] [] 0 [] [] [] line)
  | 1 => nameP.bind fun s => (indexP f).bind fun x => semi (.mk kind s [] [] 0 [x] [] [] line)
  | 2 => fieldP.bind fun p => (needP [[61]]).bind fun _ => nameP.bind fun a => (indexP f).bind fun x => semi (.mk kind p.1 p.2 a 0 [x] [] [] line)
  | 3 => nameP.bind fun a => (indexP f).bind fun x => (needP [[61]]).bind fun _ => (exP f 0).bind fun y => semi (.mk kind [] [] a 0 [x, y] [] [] line)
  | 4 => fieldP.bind fun p => semi (.mk kind p.1 p.2 [] 0 [] [] [] line)
  | 5 => semi (.mk kind [] [] [] 0 [] [] [] line)
  | _ => wholeP.bind fun n => semi (.mk kind [] [] [] n [] [] [] line)
theorem formK_eq (f kind line : Nat) : ∀ form, ((formP f kind line form).bind fun x => (needP [[59]]).bind fun _ => .ret x) = formK f kind line form
  | 0 => by simp only [formP, formK, semi, bind_bind, ret_bind]
  | 1 => by simp only [formP, formK, semi, bind_bind, ret_bind]
  | 2 => by simp only [formP, formK, semi, bind_bind, ret_bind]
  | 3 => by simp only [formP, formK, semi, bind_bind, ret_bind]
  | 4 => by simp only [formP, formK, semi, bind_bind, ret_bind]
  | 5 => by simp only [formP, formK, semi, bind_bind, ret_bind]
  | n + 6 => by simp only [formP, formK, semi, bind_bind, ret_bind]
def setK (f : Nat) (w : Wd) (s : Tx) : PW Sm := (needP [[46]]).bind fun _ => nameP.bind fun t => (needP [[61]]).bind fun _ => (exP f 0).bind fun x => semi (.mk 1 s t [] 0 [x] [] [] w.ln)
def restK (f : Nat) (w : Wd) : PW Sm := (mayP [105, 102]).bind fun b => if b = true then (exP f 0).bind fun x => (blP f).bind fun l => (mayP [101, 108, 115, 101]).bind fun c => if c = true then (blP f).bind fun m => .ret (.mk 2 [] [] [] 0 [x] l m w.ln) else .ret (.mk 2 [] [] [] 0 [x] l [] w.ln)
  else (mayP [100, 105, 103, 101, 115, 116]).bind fun b => if b = true then (exR f [59] []).bind fun l => .ret (.mk 13 [] [] [] 0 l [] [] w.ln)
  else ownerP.bind fun s => if s = txMeta then setK f w s else (mayP [40]).bind fun b => if b = true then ((mayP [41]).bind fun c => if c = true then .ret [] else exR f [41] []).bind fun l => semi (.mk 4 s [] [] 0 l [] [] w.ln) else setK f w s
def stK (f : Nat) (w : Wd) : PW Sm := match (if w.k = 1 then simpleOf w.s else none) with
  | some (kind, form) => .take (formK f kind w.ln form)
  | none => restK f w
theorem smP_eq (f : Nat) : smP (f + 1) = .look fun w => stK f w := by
  rw [smP]
  congr 1
  funext w
  unfold stK
  cases h : (if w.k = 1 then simpleOf w.s else none) with
  | some p =>
    obtain ⟨kind, form⟩ := p
    show Pr.take _ = Pr.take _
    rw [formK_eq]
  | none =>
    show _ = restK f w
    unfold restK
    refine bind_congr' fun b => ite_congr rfl (fun _ => rfl) fun _ => bind_congr' fun b => ite_congr rfl (fun _ => rfl) fun _ => bind_congr' fun s => ?_
    by_cases hs : s = txMeta
    · rw [if_pos hs, if_pos hs]; rfl
    · rw [if_neg hs, if_neg hs]
      refine bind_congr' fun b => ite_congr rfl (fun _ => ?_) (fun _ => rfl)
      rw [bind_bind]; rfl
theorem eager_may {α : Type} {s : Tx} {A B : PW α} (hA : Tame A) (hB : Eager B) : Eager ((mayP s).bind fun b => if b = true then A else B) := fun h hi => by
  obtain ⟨b, m, h1, h2⟩ := run_ok h
  rcases may_at h1 with ⟨rfl, rfl, q⟩ | ⟨rfl, rfl⟩
  · rw [if_pos rfl] at h2
    have := hA h2 q
    exact ⟨by omega, this.2⟩
  · rw [if_neg Bool.false_ne_true] at h2
    exact hB h2 hi
theorem eager_owner : Eager ownerP := eager_may (tame_ret _) eager_name
theorem tame_index (f : Nat) : Tame (indexP f) := tame_bind (tame_need _) fun _ => tame_bind (tame_ex f 0) fun x => tame_bind (tame_need _) fun _ => tame_ret _
theorem tame_semi (x : Sm) : Tame (semi x) := tame_bind (tame_need _) fun _ => tame_ret _
theorem tame_field : Tame fieldP := tame_bind tame_owner fun a => tame_bind (tame_need _) fun _ => tame_bind eager_name.tame fun b => tame_ret _
theorem tame_form (f kind line : Nat) : ∀ form, Tame (formK f kind line form)
  | 0 => tame_bind eager_name.tame fun s => tame_semi _
  | 1 => tame_bind eager_name.tame fun s => tame_bind (tame_index f) fun x => tame_semi _
  | 2 => tame_bind tame_field fun p => tame_bind (tame_need _) fun _ => tame_bind eager_name.tame fun a => tame_bind (tame_index f) fun x => tame_semi _
  | 3 => tame_bind eager_name.tame fun a => tame_bind (tame_index f) fun x => tame_bind (tame_need _) fun _ => tame_bind (tame_ex f 0) fun y => tame_semi _
  | 4 => tame_bind tame_field fun p => tame_semi _
  | 5 => tame_semi _
  | n + 6 => tame_bind eager_whole.tame fun n => tame_semi _
theorem tame_set (f : Nat) (w : Wd) (s : Tx) : Tame (setK f w s) := tame_bind (tame_need _) fun _ => tame_bind eager_name.tame fun t => tame_bind (tame_need _) fun _ => tame_bind (tame_ex f 0) fun x => tame_semi _
mutual
theorem eager_sm : ∀ f : Nat, Eager (smP f)
  | 0 => by rw [smP]; exact fun h hi => by cases h
  | f + 1 => by
    rw [smP_eq]
    rename_i L i j a
    intro hr hi
    change (stK f (wordAt wEnd L i)).run wEnd L i = _ at hr
    unfold stK at hr
    split at hr
    · rename_i kind form he
      have hk : (wordAt wEnd L i).k = 1 := by
        by_cases h : (wordAt wEnd L i).k = 1
        · exact h
        · rw [if_neg h] at he; cases he
      have h1 := word_in (L := L) (i := i) (by rw [hk]; decide)
      have := tame_form f kind _ form (show (formK f kind _ form).run wEnd L (i + 1) = _ from hr) h1
      exact ⟨by omega, this.2⟩
    · exact (show Eager (restK f (wordAt wEnd L i)) from eager_may (tame_bind (tame_ex f 0) fun x => tame_bind (tame_bl f) fun l => tame_bind (tame_may _) fun c => tame_ite (tame_bind (tame_bl f) fun m => tame_ret _) (tame_ret _))
        (eager_may (tame_bind (tame_exR f _ _) fun l => tame_ret _) (eager_bind eager_owner fun s => tame_ite (tame_set f _ s) (tame_bind (tame_may _) fun b => tame_ite (tame_bind (tame_bind (tame_may _) fun c => tame_ite (tame_ret _) (tame_exR f _ _)) fun l => tame_semi _) (tame_set f _ s))))) hr hi
theorem tame_bl : ∀ f : Nat, Tame (blP f)
  | 0 => by rw [blP]; exact tame_oof
  | f + 1 => by rw [blP]; exact tame_bind (tame_need _) fun _ => tame_sms f []
theorem tame_sms : ∀ (f : Nat) (acc : List Sm), Tame (smsP f acc)
  | 0, acc => by rw [smsP]; exact tame_oof
  | f + 1, acc => by rw [smsP]; exact tame_bind (tame_may _) fun b => tame_ite (tame_ret _) (tame_bind (Eager.tame (p := smP f) (eager_sm f)) fun x => tame_sms f _)
end
theorem simple_form {s : Tx} {k fm : Nat} (h : simpleOf s = some (k, fm)) : fm < 7 := by
  have key : ∀ l : List (Tx × Nat × Nat), (∀ p ∈ l, p.2.2 < 7) → (l.findSome? fun p => if p.1 = s then some p.2 else none) = some (k, fm) → fm < 7 := by
    intro l
    induction l with
    | nil => intro _ h; cases h
    | cons p l ih =>
      intro hp h
      rw [List.findSome?_cons] at h
      by_cases hs : p.1 = s
      · rw [if_pos hs] at h
        have e := Option.some.inj h
        have := hp p (by simp)
        rw [e] at this; exact this
      · rw [if_neg hs] at h
        exact ih (fun q hq => hp q (by simp [hq])) h
  exact key simples (by decide) h
def formF : Nat → Nat
  | 0 => 167
  | 1 => 168
  | 2 => 169
  | 3 => 170
  | 4 => 171
  | 5 => 172
  | _ => 173
def mvV (b f : Nat) : Value := .func (.func f) #[.pointer (some ⟨b, 0, none⟩)] #[]
def saidV (b : Nat) (p : Nat × Nat) : Value := .agg ⟨[.int .u8 (p.1 : Int), mvV b (formF p.2)]⟩
def simpleE (b : Nat) : List (ByteArray × Value) := simples.map fun p => (B p.1, saidV b p.2)
def saidD (b : Nat) : Option (Nat × Nat) → D
  | none => .agg [.sc (.int .u8 0), .sc .nilFunc]
  | some p => .agg [.sc (.int .u8 (p.1 : Int)), .sc (mvV b (formF p.2))]
theorem look_simple (b : Nat) (s : Tx) : aggD ((findE (B s) (simpleE b)).getD (.agg ⟨[.int .u8 0, .nilFunc]⟩)) = saidD b (simpleOf s) ∧ (findE (B s) (simpleE b)).isSome = (simpleOf s).isSome := by
  have : findE (B s) (simpleE b) = (simpleOf s).map (saidV b) := find_map s (saidV b) simples
  rw [this]
  cases simpleOf s <;> exact ⟨rfl, rfl⟩
def smCs : Sm → List D
  | .mk kind name field array n args body els line => [.sc (.int .u8 (kind : Int)), txD name, txD field, txD array, nD n, .list 10 (exDs args), .list 9 (smDs body), .list 9 (smDs els), nD line]
theorem smD_cs (x : Sm) : smD x = .agg (smCs x) := by cases x; rw [smD]; rfl
theorem smDs_map : ∀ l : List Sm, smDs l = l.map smD
  | [] => rfl
  | x :: l => by rw [smDs, List.map_cons, smDs_map l]
def smLD (l : List Sm) : D := .list 9 (l.map smD)
abbrev oS (L : List Wd) (f i : Nat) : Oc := ocOf (LDw L) smD ((smP f).run wEnd L i)
abbrev oB (L : List Wd) (f i : Nat) : Oc := ocOf (LDw L) smLD ((blP f).run wEnd L i)
def exAll (L : List Wd) (f : Nat) : Prop := (∀ lv : Nat, lv ≤ 8 → ∀ {i : Nat}, i ≤ L.length → CallsX Tryz.prog Lw pvN 150 [LDw L, .sc (.int .i64 (i : Int))] (fun _ => [.sc (.int .i64 (lv : Int))]) (oX L f lv i)) ∧ (∀ {i : Nat}, i ≤ L.length → CallsX Tryz.prog Lw pvN 165 [LDw L, .sc (.int .i64 (i : Int))] (fun _ => []) (oX L f 8 i)) ∧ (∀ {i : Nat}, i ≤ L.length → CallsX Tryz.prog Lw pvN 176 [LDw L, .sc (.int .i64 (i : Int))] (fun _ => []) (oX L f 9 i)) ∧ (∀ {i : Nat}, i ≤ L.length → CallsX Tryz.prog Lw pvN 124 [LDw L, .sc (.int .i64 (i : Int))] (fun _ => []) (oX L f 0 i))
theorem ex_all {L : List Wd} (hL : L.length ≤ 65536) (hS : Small L) : ∀ f g, g ≤ f → exAll L g
  | 0, g, hg => by
    obtain rfl : g = 0 := by omega
    have h0 : ∀ lv i, oX L 0 lv i = .any := fun lv i => by unfold oX; rw [exP]; rfl
    exact ⟨fun lv _ i _ => by rw [h0]; exact call_any, fun _ => by rw [h0]; exact call_any, fun _ => by rw [h0]; exact call_any, fun _ => by rw [h0]; exact call_any⟩
  | f + 1, g, hg => by
    by_cases h : g ≤ f
    · exact ex_all hL hS f g h
    obtain rfl : g = f + 1 := by omega
    have ih := ex_all hL hS f
    have hp : ∀ {i : Nat}, i ≤ L.length → CallsX Tryz.prog Lw pvN 176 [LDw L, .sc (.int .i64 (i : Int))] (fun _ => []) (oX L (f + 1) 9 i) := fun hi => prim_c hL hi hS fun g hg => (ih g hg).2.2.2
    have hu : ∀ {i : Nat}, i ≤ L.length → CallsX Tryz.prog Lw pvN 165 [LDw L, .sc (.int .i64 (i : Int))] (fun _ => []) (oX L (f + 1) 8 i) := fun hi => un_c hL hi hS (ih f (Nat.le_refl _)).2.1 (ih f (Nat.le_refl _)).2.2.1
    have hl : ∀ lv : Nat, lv ≤ 8 → ∀ {i : Nat}, i ≤ L.length → CallsX Tryz.prog Lw pvN 150 [LDw L, .sc (.int .i64 (i : Int))] (fun _ => [.sc (.int .i64 (lv : Int))]) (oX L (f + 1) lv i) := fun lv hlv i hi => by
      by_cases h8 : lv = 8
      · subst h8; exact level8_c hL hi hu
      · exact level_c hL hi (by omega) fun g hg => (ih g hg).1 (lv + 1) (by omega)
    exact ⟨hl, hu, hp, fun hi => expr_c hL hi (hl 0 (by omega))⟩
set_option maxHeartbeats 4000000 in
set_option maxRecDepth 100000 in
theorem simple_c (b : Nat) : CallsM Tryz.prog Lw 152 [.sc (.pointer (some ⟨b, 0, none⟩))] (simpleE b) := by
  refine callsG_of (R := fun w0 S0 => PostM w0 (simpleE b)) gs_lw Tryz.func152 rfl Tryz.ntmps152 rfl fun w0 S0 stab => ?_
  refine hits_seq ?_
  refine hits_region ?_
  refine sq (f_assign rfl (lt rfl)) rfl rfl ?_
  refine hits_nil ?_
  refine to_next ?_
  refine hits_seq ?_
  refine hits_region ?_
  refine sq (f_makeMap (lt rfl)) rfl rfl ?_
  refine sq (f_move rfl (lt rfl)) rfl rfl ?_
  refine sq (f_methodValD rfl (lt rfl)) rfl rfl ?_
  refine sq (f_build bu225 rfl rfl (lt rfl)) rfl rfl ?_
  refine sq (f_mapIns mpk227 rfl rfl rfl rfl rfl rfl (by kernel_rfl)) rfl rfl ?_
  refine sq (f_move rfl (lt rfl)) rfl rfl ?_
  refine sq (f_methodValD rfl (lt rfl)) rfl rfl ?_
  refine sq (f_build bu225 rfl rfl (lt rfl)) rfl rfl ?_
  refine sq (f_mapIns mpk227 rfl rfl rfl rfl rfl rfl (by kernel_rfl)) rfl rfl ?_
  refine sq (f_move rfl (lt rfl)) rfl rfl ?_
  refine sq (f_methodValD rfl (lt rfl)) rfl rfl ?_
  refine sq (f_build bu225 rfl rfl (lt rfl)) rfl rfl ?_
  refine sq (f_mapIns mpk227 rfl rfl rfl rfl rfl rfl (by kernel_rfl)) rfl rfl ?_
  refine sq (f_move rfl (lt rfl)) rfl rfl ?_
  refine sq (f_methodValD rfl (lt rfl)) rfl rfl ?_
  refine sq (f_build bu225 rfl rfl (lt rfl)) rfl rfl ?_
  refine sq (f_mapIns mpk227 rfl rfl rfl rfl rfl rfl (by kernel_rfl)) rfl rfl ?_
  refine sq (f_move rfl (lt rfl)) rfl rfl ?_
  refine sq (f_methodValD rfl (lt rfl)) rfl rfl ?_
  refine sq (f_build bu225 rfl rfl (lt rfl)) rfl rfl ?_
  refine sq (f_mapIns mpk227 rfl rfl rfl rfl rfl rfl (by kernel_rfl)) rfl rfl ?_
  refine sq (f_move rfl (lt rfl)) rfl rfl ?_
  refine sq (f_methodValD rfl (lt rfl)) rfl rfl ?_
  refine sq (f_build bu225 rfl rfl (lt rfl)) rfl rfl ?_
  refine sq (f_mapIns mpk227 rfl rfl rfl rfl rfl rfl (by kernel_rfl)) rfl rfl ?_
  refine sq (f_move rfl (lt rfl)) rfl rfl ?_
  refine sq (f_methodValD rfl (lt rfl)) rfl rfl ?_
  refine sq (f_build bu225 rfl rfl (lt rfl)) rfl rfl ?_
  refine sq (f_mapIns mpk227 rfl rfl rfl rfl rfl rfl (by kernel_rfl)) rfl rfl ?_
  refine sq (f_move rfl (lt rfl)) rfl rfl ?_
  refine sq (f_methodValD rfl (lt rfl)) rfl rfl ?_
  refine sq (f_build bu225 rfl rfl (lt rfl)) rfl rfl ?_
  refine sq (f_mapIns mpk227 rfl rfl rfl rfl rfl rfl (by kernel_rfl)) rfl rfl ?_
  refine sq (f_move rfl (lt rfl)) rfl rfl ?_
  refine sq (f_methodValD rfl (lt rfl)) rfl rfl ?_
  refine sq (f_build bu225 rfl rfl (lt rfl)) rfl rfl ?_
  refine sq (f_mapIns mpk227 rfl rfl rfl rfl rfl rfl (by kernel_rfl)) rfl rfl ?_
  refine sq (f_move rfl (lt rfl)) rfl rfl ?_
  refine sq (f_methodValD rfl (lt rfl)) rfl rfl ?_
  refine sq (f_build bu225 rfl rfl (lt rfl)) rfl rfl ?_
  refine sq (f_mapIns mpk227 rfl rfl rfl rfl rfl rfl (by kernel_rfl)) rfl rfl ?_
  refine sq (f_move rfl (lt rfl)) rfl rfl ?_
  refine sq (f_methodValD rfl (lt rfl)) rfl rfl ?_
  refine sq (f_build bu225 rfl rfl (lt rfl)) rfl rfl ?_
  refine sq (f_mapIns mpk227 rfl rfl rfl rfl rfl rfl (by kernel_rfl)) rfl rfl ?_
  refine sq (f_move rfl (lt rfl)) rfl rfl ?_
  refine sq (f_methodValD rfl (lt rfl)) rfl rfl ?_
  refine sq (f_build bu225 rfl rfl (lt rfl)) rfl rfl ?_
  refine sq (f_mapIns mpk227 rfl rfl rfl rfl rfl rfl (by kernel_rfl)) rfl rfl ?_
  refine sq (f_move rfl (lt rfl)) rfl rfl ?_
  refine sq (f_assign rfl (lt rfl)) rfl rfl ?_
  refine hits_nil ?_
  refine to_next ?_
  refine hits_ret ?_
  exact hits_doneM (.inl rfl) rfl rfl rfl rfl rfl
set_option maxHeartbeats 8000000 in
set_option maxHeartbeats 4000000 in
set_option maxRecDepth 100000 in
theorem stmt_c {L : List Wd} {i : Nat} (hL : L.length ≤ 65536) (hi : i ≤ L.length) (hS : Small L) {f : Nat} (hX : ∀ g, g ≤ f → exAll L g) (hB : ∀ {i : Nat}, i ≤ L.length → CallsX Tryz.prog Lw pvN 91 [LDw L, .sc (.int .i64 (i : Int))] (fun _ => []) (oB L f i)) : CallsX Tryz.prog Lw pvN 128 [LDw L, .sc (.int .i64 (i : Int))] (fun b => []) (ocOf (LDw L) (smD) ((smP (f + 1)).run wEnd L i)) := by
  refine callsX_of (m := 0) Tryz.func128 rfl Tryz.ntmps128 (fun _ => rfl) rfl rfl fun hne w0 S0 b stab => ?_
  obtain ⟨o, hO⟩ : ∃ o, o = ocOf (LDw L) (smD) ((smP (f + 1)).run wEnd L i) := ⟨_, rfl⟩
  rw [← hO] at hne ⊢
  rw [smP_eq] at hO
  change o = ocOf (LDw L) smD ((stK f (wordAt wEnd L i)).run wEnd L i) at hO
  rw [stK] at hO
  have h3 := look_simple b (wordAt wEnd L i).s
  refine hits_seq ?_
  refine hits_region ?_
  refine sq (f_alloc zc65 (lt rfl)) rfl rfl ?_
  refine hits_nil ?_
  refine to_next ?_
  refine hits_seq ?_
  refine hits_region ?_
  refine sq (f_move rfl (lt rfl)) rfl rfl ?_
  refine sq_callB en31 rfl rfl (next_c hL hi) ⟨rfl, rfl, trivial⟩ rfl rfl rfl rfl (lt rfl) ?_
  refine sq (f_alloc zc37 (lt rfl)) rfl rfl ?_
  refine sq (f_store kd37 rfl rfl rfl rfl rfl) rfl rfl ?_
  refine hits_nil ?_
  refine to_next ?_
  refine hits_seq ?_
  refine hits_region ?_
  refine sq (f_fieldAddr rfl kf37_3 rfl (lt rfl)) rfl rfl ?_
  refine sq (f_load kd3 rfl rfl (lt rfl)) rfl rfl ?_
  refine sq (f_fieldAddr rfl kf65_8 rfl (lt rfl)) rfl rfl ?_
  refine sq (f_store kd3 rfl rfl rfl rfl rfl) rfl rfl ?_
  refine hits_nil ?_
  refine to_next ?_
  refine hits_seq ?_
  refine hits_seq ?_
  rcases h2 : simpleOf (wordAt wEnd L i).s with _ | ⟨kind, form⟩
  · rw [h2] at h3
    have hO : o = ocOf (LDw L) smD ((restK f (wordAt wEnd L i)).run wEnd L i) := by rw [hO, h2, ite_self]
    rw [restK] at hO
    refine hits_cellD 2 5 (q' := .list 10 []) rfl nil_list ?_
    refine hits_cellD 2 6 (q' := .list 9 []) rfl nil_list ?_
    refine hits_cellD 2 7 (q' := .list 9 []) rfl nil_list ?_
    refine hits_drawn mixed ?_
    refine dq (f_move rfl (lt rfl)) rfl rfl ?_
    refine dq (f_callMP en152 rfl (simple_c b) rfl rfl (lt rfl)) rfl rfl ?_
    refine dq (f_fieldAddr rfl kf37_1 rfl (lt rfl)) rfl rfl ?_
    refine dq (f_load kd9 rfl rfl (lt rfl)) rfl rfl ?_
    refine dq (f_lookup mpk227 rfl rfl rfl h3.1 h3.2 (lt rfl)) rfl rfl ?_
    refine dq (f_move rfl (lt rfl)) rfl rfl ?_
    refine dq (f_extract rfl rfl (lt rfl)) rfl rfl ?_
    refine dq (f_extract rfl rfl (lt rfl)) rfl rfl ?_
    refine dq (f_alloc zc225 (lt rfl)) rfl rfl ?_
    refine dq (f_store kd225 rfl rfl rfl rfl rfl) rfl rfl ?_
    refine dq (f_assign rfl (lt rfl)) rfl rfl ?_
    refine dq_nil rfl ?_
    refine to_next ?_
    refine hits_seq ?_
    refine hits_region ?_
    refine sq (f_move rfl (lt rfl)) rfl rfl ?_
    refine sq (f_move rfl (lt rfl)) rfl rfl ?_
    refine sq_no rfl rfl rfl rfl rfl (lt rfl) (lt rfl) ?_
    refine sq_no rfl rfl rfl rfl rfl (lt rfl) (lt rfl) ?_
    refine sq_no rfl rfl rfl rfl rfl (lt rfl) (lt rfl) ?_
    refine sq (f_pick rfl rfl (lt rfl)) rfl rfl ?_
    refine hits_nil ?_
    refine to_next ?_
    refine hits_cond rfl (fun c0 => absurd c0 Bool.false_ne_true) (fun c0 => ?_)
    refine hits_skip ?_
    refine to_next ?_
    refine hits_seq ?_
    refine hits_block ?_
    refine hits_seq ?_
    refine hits_region ?_
    refine sq (f_move rfl (lt rfl)) rfl rfl ?_
    refine sq_pr hO hne (may_c hL hi [105, 102]) rfl en95 rfl rfl rfl rfl ⟨rfl, rfl, trivial⟩ rfl rfl (lt rfl) (fun _ _ hd h => And.intro hd (h)) (fun b2 j2 hq2 hO2 => ?_)
    replace hO := hO2
    clear hO2
    have hj2 := may_le hq2 hi
    cases b2
    · rw [if_neg Bool.false_ne_true] at hO
      refine sq (f_assign rfl (lt rfl)) rfl rfl ?_
      refine hits_nil ?_
      refine to_next ?_
      refine hits_cond rfl (fun c1 => absurd c1 Bool.false_ne_true) (fun c1 => ?_)
      refine hits_seq ?_
      refine hits_region ?_
      refine sq (f_move rfl (lt rfl)) rfl rfl ?_
      refine sq_pr hO hne (may_c hL hj2 [100, 105, 103, 101, 115, 116]) rfl en95 rfl rfl rfl rfl ⟨rfl, rfl, trivial⟩ rfl rfl (lt rfl) (fun _ _ hd h => And.intro hd (h)) (fun b3 j3 hq3 hO2 => ?_)
      replace hO := hO2
      clear hO2
      have hj3 := may_le hq3 hj2
      cases b3
      · rw [if_neg Bool.false_ne_true] at hO
        refine sq (f_assign rfl (lt rfl)) rfl rfl ?_
        refine hits_nil ?_
        refine to_next ?_
        refine hits_cond rfl (fun c3 => absurd c3 Bool.false_ne_true) (fun c3 => ?_)
        refine hits_skip ?_
        refine in_next ?_
        refine to_next ?_
        refine hits_seq ?_
        refine hits_region ?_
        refine sq (f_move rfl (lt rfl)) rfl rfl ?_
        refine sq_pr hO hne (owner_c hL hj3) rfl en154 rfl rfl rfl rfl ⟨rfl, rfl, trivial⟩ rfl rfl (lt rfl) (fun _ _ hd h => And.intro hd (h)) (fun s j4 hq4 hO2 => ?_)
        replace hO := hO2
        clear hO2
        have hj4 := (tame_owner hq4 hj3).2
        refine sq (f_fieldAddr rfl kf65_1 rfl (lt rfl)) rfl rfl ?_
        refine sq (f_store kd9 rfl rfl rfl rfl rfl) rfl rfl ?_
        refine hits_nil ?_
        refine to_next ?_
        refine hits_seq ?_
        refine hits_seq ?_
        by_cases hs : s = txMeta
        · rw [if_pos hs] at hO
          rw [setK] at hO
          refine hits_region ?_
          refine sq (f_fieldAddr rfl kf65_1 rfl (lt rfl)) rfl rfl ?_
          refine sq (f_load kd9 rfl rfl (lt rfl)) rfl rfl ?_
          refine sq (f_bin rfl rfl (bT ((congrArg not ((B_beq _ _).trans (decide_eq_true hs))))) (lt rfl)) rfl rfl ?_
          refine sq (f_move rfl (lt rfl)) rfl rfl ?_
          refine sq_no rfl rfl rfl rfl rfl (lt rfl) (lt rfl) ?_
          refine sq_no rfl rfl rfl rfl rfl (lt rfl) (lt rfl) ?_
          refine sq (f_pick rfl rfl (lt rfl)) rfl rfl ?_
          refine hits_nil ?_
          refine to_next ?_
          refine hits_cond rfl (fun c4 => absurd c4 Bool.false_ne_true) (fun c4 => ?_)
          refine hits_seq ?_
          refine hits_region ?_
          refine sq (f_move rfl (lt rfl)) rfl rfl ?_
          refine sq_pr hO hne (need_c (l := [46]) (ts := [[46]]) hL hj4 (by decide) (fields_g (l := [46]) (ts := [[46]]) (by decide +kernel) (by decide +kernel) (by decide +kernel))) rfl en83 rfl rfl rfl rfl ⟨rfl, rfl, trivial⟩ rfl rfl (lt rfl) (fun _ _ hd h => And.intro hd (h)) (fun um1 m1 g1 hO2 => ?_)
          replace hO := hO2
          clear hO2
          have hm1 := (tame_need _ g1 hj4).2
          refine hits_nil ?_
          refine to_next ?_
          refine hits_seq ?_
          refine hits_region ?_
          refine sq (f_move rfl (lt rfl)) rfl rfl ?_
          refine sq_pr hO hne (name_c hL hm1) rfl en82 rfl rfl rfl rfl ⟨rfl, rfl, trivial⟩ rfl rfl (lt rfl) (fun _ _ hd h => And.intro hd (h)) (fun t m2 g2 hO2 => ?_)
          replace hO := hO2
          clear hO2
          have hm2 := (eager_name g2 hm1).2
          refine sq (f_fieldAddr rfl kf65_0 rfl (lt rfl)) rfl rfl ?_
          refine sq (f_store kd63 rfl rfl rfl rfl rfl) rfl rfl ?_
          refine sq (f_fieldAddr rfl kf65_2 rfl (lt rfl)) rfl rfl ?_
          refine sq (f_store kd9 rfl rfl rfl rfl rfl) rfl rfl ?_
          refine hits_nil ?_
          refine to_next ?_
          refine hits_seq ?_
          refine hits_region ?_
          refine sq (f_move rfl (lt rfl)) rfl rfl ?_
          refine sq_pr hO hne (need_c (l := [61]) (ts := [[61]]) hL hm2 (by decide) (fields_g (l := [61]) (ts := [[61]]) (by decide +kernel) (by decide +kernel) (by decide +kernel))) rfl en83 rfl rfl rfl rfl ⟨rfl, rfl, trivial⟩ rfl rfl (lt rfl) (fun _ _ hd h => And.intro hd (h)) (fun um3 m3 g3 hO2 => ?_)
          replace hO := hO2
          clear hO2
          have hm3 := (tame_need _ g3 hm2).2
          refine hits_nil ?_
          refine to_next ?_
          refine hits_region ?_
          refine sq (f_move rfl (lt rfl)) rfl rfl ?_
          refine sq_pr hO hne ((hX f (Nat.le_refl _)).2.2.2 hm3) rfl en124 rfl rfl rfl rfl ⟨rfl, rfl, trivial⟩ rfl rfl (lt rfl) (fun _ _ hd h => And.intro hd (h)) (fun q m4 g4 hO2 => ?_)
          replace hO := hO2
          clear hO2
          have hm4 := (tame_ex _ _ g4 hm3).2
          obtain ⟨qop, qlw, qlh, qll, qnm, qfl, qn, qm, qar, qln⟩ := q
          rw [exD_cs]
          refine sq (f_buildSlice sk44 rfl rfl rfl rfl rfl rfl (by decide) (by decide) (lt rfl)) rfl rfl ?_
          refine sq (f_fieldAddr rfl kf65_5 rfl (lt rfl)) rfl rfl ?_
          refine sq (f_store kd44 rfl rfl rfl rfl rfl) rfl rfl ?_
          refine hits_nil ?_
          refine to_next ?_
          refine hits_seq ?_
          refine hits_region ?_
          refine sq (f_move rfl (lt rfl)) rfl rfl ?_
          refine sq_pr hO hne (need_c (l := [59]) (ts := [[59]]) hL hm4 (by decide) (fields_g (l := [59]) (ts := [[59]]) (by decide +kernel) (by decide +kernel) (by decide +kernel))) rfl en83 rfl rfl rfl rfl ⟨rfl, rfl, trivial⟩ rfl rfl (lt rfl) (fun _ _ hd h => And.intro hd (h)) (fun u m5 g5 hO2 => ?_)
          replace hO := hO2
          clear hO2
          refine hits_nil ?_
          refine to_next ?_
          refine hits_seq ?_
          refine hits_region ?_
          refine sq (f_load kd65 rfl rfl (lt rfl)) rfl rfl ?_
          refine sq (f_store kd65 rfl rfl rfl rfl rfl) rfl rfl ?_
          refine hits_nil ?_
          refine to_next ?_
          refine hits_ret ?_
          have hO' : o = .ret [LDw L, .sc (.int .i64 (m5 : Int))] (.agg [.sc (.int .u8 1), txD s, txD t, txD [], nD 0, .list 10 [.agg (exCs (Ex.mk qop qlw qlh qll qnm qfl qn qm qar qln))], .list 9 [], .list 9 [], nD (wordAt wEnd L i).ln]) := by rw [hO]; show Oc.ret _ (smD (.mk 1 s t [] 0 [Ex.mk qop qlw qlh qll qnm qfl qn qm qar qln] [] [] (wordAt wEnd L i).ln)) = _; rw [smD_cs]; first | rfl | (simp only [exCs, smCs, exDs_map, smDs_map, List.map_cons, List.map_nil, exD_cs, exLD, smLD]; done) | (simp only [exCs, smCs, exDs_map, smDs_map, List.map_cons, List.map_nil, exD_cs, exLD, smLD]; rfl)
          exact hits_doneX hO' (.inl rfl) rfl rfl rfl rfl rfl ⟨rfl, rfl, trivial⟩ rfl
        · rw [if_neg hs] at hO
          refine hits_region ?_
          refine sq (f_fieldAddr rfl kf65_1 rfl (lt rfl)) rfl rfl ?_
          refine sq (f_load kd9 rfl rfl (lt rfl)) rfl rfl ?_
          refine sq (f_bin rfl rfl (bT ((congrArg not ((B_beq _ _).trans (decide_eq_false hs))))) (lt rfl)) rfl rfl ?_
          refine sq (f_move rfl (lt rfl)) rfl rfl ?_
          refine sq_yes (f_move rfl (lt rfl)) rfl rfl rfl rfl (lt rfl) ?_
          refine sq_guard rfl rfl rfl (lt rfl) ?_
          refine sq_pr hO hne (may_c hL hj4 [40]) rfl en95 rfl rfl rfl rfl ⟨rfl, rfl, trivial⟩ rfl rfl (lt rfl) (fun _ _ hd h => And.intro hd (h)) (fun b5 j5 hq5 hO2 => ?_)
          replace hO := hO2
          clear hO2
          have hj5 := may_le hq5 hj4
          cases b5
          · rw [if_neg Bool.false_ne_true] at hO
            rw [setK] at hO
            refine sq (f_pick rfl rfl (lt rfl)) rfl rfl ?_
            refine hits_nil ?_
            refine to_next ?_
            refine hits_cond rfl (fun c4 => absurd c4 Bool.false_ne_true) (fun c4 => ?_)
            refine hits_seq ?_
            refine hits_region ?_
            refine sq (f_move rfl (lt rfl)) rfl rfl ?_
            refine sq_pr hO hne (need_c (l := [46]) (ts := [[46]]) hL hj5 (by decide) (fields_g (l := [46]) (ts := [[46]]) (by decide +kernel) (by decide +kernel) (by decide +kernel))) rfl en83 rfl rfl rfl rfl ⟨rfl, rfl, trivial⟩ rfl rfl (lt rfl) (fun _ _ hd h => And.intro hd (h)) (fun um1 m1 g1 hO2 => ?_)
            replace hO := hO2
            clear hO2
            have hm1 := (tame_need _ g1 hj5).2
            refine hits_nil ?_
            refine to_next ?_
            refine hits_seq ?_
            refine hits_region ?_
            refine sq (f_move rfl (lt rfl)) rfl rfl ?_
            refine sq_pr hO hne (name_c hL hm1) rfl en82 rfl rfl rfl rfl ⟨rfl, rfl, trivial⟩ rfl rfl (lt rfl) (fun _ _ hd h => And.intro hd (h)) (fun t m2 g2 hO2 => ?_)
            replace hO := hO2
            clear hO2
            have hm2 := (eager_name g2 hm1).2
            refine sq (f_fieldAddr rfl kf65_0 rfl (lt rfl)) rfl rfl ?_
            refine sq (f_store kd63 rfl rfl rfl rfl rfl) rfl rfl ?_
            refine sq (f_fieldAddr rfl kf65_2 rfl (lt rfl)) rfl rfl ?_
            refine sq (f_store kd9 rfl rfl rfl rfl rfl) rfl rfl ?_
            refine hits_nil ?_
            refine to_next ?_
            refine hits_seq ?_
            refine hits_region ?_
            refine sq (f_move rfl (lt rfl)) rfl rfl ?_
            refine sq_pr hO hne (need_c (l := [61]) (ts := [[61]]) hL hm2 (by decide) (fields_g (l := [61]) (ts := [[61]]) (by decide +kernel) (by decide +kernel) (by decide +kernel))) rfl en83 rfl rfl rfl rfl ⟨rfl, rfl, trivial⟩ rfl rfl (lt rfl) (fun _ _ hd h => And.intro hd (h)) (fun um3 m3 g3 hO2 => ?_)
            replace hO := hO2
            clear hO2
            have hm3 := (tame_need _ g3 hm2).2
            refine hits_nil ?_
            refine to_next ?_
            refine hits_region ?_
            refine sq (f_move rfl (lt rfl)) rfl rfl ?_
            refine sq_pr hO hne ((hX f (Nat.le_refl _)).2.2.2 hm3) rfl en124 rfl rfl rfl rfl ⟨rfl, rfl, trivial⟩ rfl rfl (lt rfl) (fun _ _ hd h => And.intro hd (h)) (fun q m4 g4 hO2 => ?_)
            replace hO := hO2
            clear hO2
            have hm4 := (tame_ex _ _ g4 hm3).2
            obtain ⟨qop, qlw, qlh, qll, qnm, qfl, qn, qm, qar, qln⟩ := q
            rw [exD_cs]
            refine sq (f_buildSlice sk44 rfl rfl rfl rfl rfl rfl (by decide) (by decide) (lt rfl)) rfl rfl ?_
            refine sq (f_fieldAddr rfl kf65_5 rfl (lt rfl)) rfl rfl ?_
            refine sq (f_store kd44 rfl rfl rfl rfl rfl) rfl rfl ?_
            refine hits_nil ?_
            refine to_next ?_
            refine hits_seq ?_
            refine hits_region ?_
            refine sq (f_move rfl (lt rfl)) rfl rfl ?_
            refine sq_pr hO hne (need_c (l := [59]) (ts := [[59]]) hL hm4 (by decide) (fields_g (l := [59]) (ts := [[59]]) (by decide +kernel) (by decide +kernel) (by decide +kernel))) rfl en83 rfl rfl rfl rfl ⟨rfl, rfl, trivial⟩ rfl rfl (lt rfl) (fun _ _ hd h => And.intro hd (h)) (fun u m5 g5 hO2 => ?_)
            replace hO := hO2
            clear hO2
            refine hits_nil ?_
            refine to_next ?_
            refine hits_seq ?_
            refine hits_region ?_
            refine sq (f_load kd65 rfl rfl (lt rfl)) rfl rfl ?_
            refine sq (f_store kd65 rfl rfl rfl rfl rfl) rfl rfl ?_
            refine hits_nil ?_
            refine to_next ?_
            refine hits_ret ?_
            have hO' : o = .ret [LDw L, .sc (.int .i64 (m5 : Int))] (.agg [.sc (.int .u8 1), txD s, txD t, txD [], nD 0, .list 10 [.agg (exCs (Ex.mk qop qlw qlh qll qnm qfl qn qm qar qln))], .list 9 [], .list 9 [], nD (wordAt wEnd L i).ln]) := by rw [hO]; show Oc.ret _ (smD (.mk 1 s t [] 0 [Ex.mk qop qlw qlh qll qnm qfl qn qm qar qln] [] [] (wordAt wEnd L i).ln)) = _; rw [smD_cs]; first | rfl | (simp only [exCs, smCs, exDs_map, smDs_map, List.map_cons, List.map_nil, exD_cs, exLD, smLD]; done) | (simp only [exCs, smCs, exDs_map, smDs_map, List.map_cons, List.map_nil, exD_cs, exLD, smLD]; rfl)
            exact hits_doneX hO' (.inl rfl) rfl rfl rfl rfl rfl ⟨rfl, rfl, trivial⟩ rfl
          · rw [if_pos rfl] at hO
            refine sq (f_pick rfl rfl (lt rfl)) rfl rfl ?_
            refine hits_nil ?_
            refine to_next ?_
            refine hits_cond rfl (fun c4 => ?_) (fun c4 => absurd c4 Bool.false_ne_true.symm)
            refine hits_region ?_
            refine sq (f_move rfl (lt rfl)) rfl rfl ?_
            refine sq (f_move rfl (lt rfl)) rfl rfl ?_
            refine sq (f_methodVal rfl rfl rfl (lt rfl)) rfl rfl ?_
            refine sq_pr hO hne (rowx_c hL hj5 [41] (fields_g (l := [41]) (ts := [[41]]) (by decide +kernel) (by decide +kernel) (by decide +kernel)) f (fun g hg => (hX g hg).2.2.2)) rfl en155 rfl rfl rfl rfl ⟨rfl, rfl, trivial⟩ rfl rfl (lt rfl) (fun _ _ hd h => And.intro hd (h)) (fun l m1 g1 hO2 => ?_)
            replace hO := hO2
            clear hO2
            have hm1 := (tame_bind (tame_may _) (fun c => tame_ite (tame_ret _) (tame_exR _ _ _)) g1 hj5).2
            refine sq (f_fieldAddr rfl kf65_0 rfl (lt rfl)) rfl rfl ?_
            refine sq (f_store kd63 rfl rfl rfl rfl rfl) rfl rfl ?_
            refine sq (f_fieldAddr rfl kf65_5 rfl (lt rfl)) rfl rfl ?_
            refine sq (f_store kd44 rfl rfl rfl rfl rfl) rfl rfl ?_
            refine hits_nil ?_
            refine to_next ?_
            refine hits_seq ?_
            refine hits_region ?_
            refine sq (f_move rfl (lt rfl)) rfl rfl ?_
            refine sq_pr hO hne (need_c (l := [59]) (ts := [[59]]) hL hm1 (by decide) (fields_g (l := [59]) (ts := [[59]]) (by decide +kernel) (by decide +kernel) (by decide +kernel))) rfl en83 rfl rfl rfl rfl ⟨rfl, rfl, trivial⟩ rfl rfl (lt rfl) (fun _ _ hd h => And.intro hd (h)) (fun u m2 g2 hO2 => ?_)
            replace hO := hO2
            clear hO2
            refine hits_nil ?_
            refine to_next ?_
            refine hits_seq ?_
            refine hits_region ?_
            refine sq (f_load kd65 rfl rfl (lt rfl)) rfl rfl ?_
            refine sq (f_store kd65 rfl rfl rfl rfl rfl) rfl rfl ?_
            refine hits_nil ?_
            refine to_next ?_
            refine hits_ret ?_
            have hO' : o = .ret [LDw L, .sc (.int .i64 (m2 : Int))] (.agg [.sc (.int .u8 4), txD s, txD [], txD [], nD 0, exLD l, .list 9 [], .list 9 [], nD (wordAt wEnd L i).ln]) := by rw [hO]; show Oc.ret _ (smD (.mk 4 s [] [] 0 l [] [] (wordAt wEnd L i).ln)) = _; rw [smD_cs]; first | rfl | (simp only [exCs, smCs, exDs_map, smDs_map, List.map_cons, List.map_nil, exD_cs, exLD, smLD]; done) | (simp only [exCs, smCs, exDs_map, smDs_map, List.map_cons, List.map_nil, exD_cs, exLD, smLD]; rfl)
            exact hits_doneX hO' (.inl rfl) rfl rfl rfl rfl rfl ⟨rfl, rfl, trivial⟩ rfl
      · rw [if_pos rfl] at hO
        refine sq (f_assign rfl (lt rfl)) rfl rfl ?_
        refine hits_nil ?_
        refine to_next ?_
        refine hits_cond rfl (fun c3 => ?_) (fun c3 => absurd c3 Bool.false_ne_true.symm)
        refine hits_seq ?_
        refine hits_region ?_
        refine sq (f_move rfl (lt rfl)) rfl rfl ?_
        refine sq (f_move rfl (lt rfl)) rfl rfl ?_
        refine sq (f_methodVal rfl rfl rfl (lt rfl)) rfl rfl ?_
        refine sq_pr hO hne (somex_c hL hj3 [59] (fields_g (l := [59]) (ts := [[59]]) (by decide +kernel) (by decide +kernel) (by decide +kernel)) f (fun g hg => (hX g hg).2.2.2)) rfl en153 rfl rfl rfl rfl ⟨rfl, rfl, trivial⟩ rfl rfl (lt rfl) (fun _ _ hd h => And.intro hd (h)) (fun l m1 g1 hO2 => ?_)
        replace hO := hO2
        clear hO2
        have hm1 := (tame_exR _ _ _ g1 hj3).2
        refine sq (f_fieldAddr rfl kf65_0 rfl (lt rfl)) rfl rfl ?_
        refine sq (f_store kd63 rfl rfl rfl rfl rfl) rfl rfl ?_
        refine sq (f_fieldAddr rfl kf65_5 rfl (lt rfl)) rfl rfl ?_
        refine sq (f_store kd44 rfl rfl rfl rfl rfl) rfl rfl ?_
        refine hits_nil ?_
        refine to_next ?_
        refine hits_seq ?_
        refine hits_region ?_
        refine sq (f_load kd65 rfl rfl (lt rfl)) rfl rfl ?_
        refine sq (f_store kd65 rfl rfl rfl rfl rfl) rfl rfl ?_
        refine hits_nil ?_
        refine to_next ?_
        refine hits_ret ?_
        refine in_ret ?_
        refine to_ret ?_
        have hO' : o = .ret [LDw L, .sc (.int .i64 (m1 : Int))] (.agg [.sc (.int .u8 13), txD [], txD [], txD [], nD 0, exLD l, .list 9 [], .list 9 [], nD (wordAt wEnd L i).ln]) := by rw [hO]; show Oc.ret _ (smD (.mk 13 [] [] [] 0 l [] [] (wordAt wEnd L i).ln)) = _; rw [smD_cs]; first | rfl | (simp only [exCs, smCs, exDs_map, smDs_map, List.map_cons, List.map_nil, exD_cs, exLD, smLD]; done) | (simp only [exCs, smCs, exDs_map, smDs_map, List.map_cons, List.map_nil, exD_cs, exLD, smLD]; rfl)
        exact hits_doneX hO' (.inl rfl) rfl rfl rfl rfl rfl ⟨rfl, rfl, trivial⟩ rfl
    · rw [if_pos rfl] at hO
      refine sq (f_assign rfl (lt rfl)) rfl rfl ?_
      refine hits_nil ?_
      refine to_next ?_
      refine hits_cond rfl (fun c1 => ?_) (fun c1 => absurd c1 Bool.false_ne_true.symm)
      refine hits_seq ?_
      refine hits_region ?_
      refine sq (f_move rfl (lt rfl)) rfl rfl ?_
      refine sq_pr hO hne ((hX f (Nat.le_refl _)).2.2.2 hj2) rfl en124 rfl rfl rfl rfl ⟨rfl, rfl, trivial⟩ rfl rfl (lt rfl) (fun _ _ hd h => And.intro hd (h)) (fun q m1 g1 hO2 => ?_)
      replace hO := hO2
      clear hO2
      have hm1 := (tame_ex _ _ g1 hj2).2
      obtain ⟨qop, qlw, qlh, qll, qnm, qfl, qn, qm, qar, qln⟩ := q
      rw [exD_cs]
      refine sq (f_buildSlice sk44 rfl rfl rfl rfl rfl rfl (by decide) (by decide) (lt rfl)) rfl rfl ?_
      refine sq (f_fieldAddr rfl kf65_0 rfl (lt rfl)) rfl rfl ?_
      refine sq (f_store kd63 rfl rfl rfl rfl rfl) rfl rfl ?_
      refine sq (f_fieldAddr rfl kf65_5 rfl (lt rfl)) rfl rfl ?_
      refine sq (f_store kd44 rfl rfl rfl rfl rfl) rfl rfl ?_
      refine hits_nil ?_
      refine to_next ?_
      refine hits_seq ?_
      refine hits_region ?_
      refine sq (f_move rfl (lt rfl)) rfl rfl ?_
      refine sq_pr hO hne (hB hm1) rfl en91 rfl rfl rfl rfl ⟨rfl, rfl, trivial⟩ rfl rfl (lt rfl) (fun _ _ hd h => And.intro hd (h)) (fun l m2 g2 hO2 => ?_)
      replace hO := hO2
      clear hO2
      have hm2 := (tame_bl _ g2 hm1).2
      refine sq (f_fieldAddr rfl kf65_6 rfl (lt rfl)) rfl rfl ?_
      refine sq (f_store kd60 rfl rfl rfl rfl rfl) rfl rfl ?_
      refine hits_nil ?_
      refine to_next ?_
      refine hits_seq ?_
      refine hits_seq ?_
      refine hits_region ?_
      refine sq (f_move rfl (lt rfl)) rfl rfl ?_
      refine sq_pr hO hne (may_c hL hm2 [101, 108, 115, 101]) rfl en95 rfl rfl rfl rfl ⟨rfl, rfl, trivial⟩ rfl rfl (lt rfl) (fun _ _ hd h => And.intro hd (h)) (fun b3 j3 hq3 hO2 => ?_)
      replace hO := hO2
      clear hO2
      have hj3 := may_le hq3 hm2
      cases b3
      · rw [if_neg Bool.false_ne_true] at hO
        refine hits_nil ?_
        refine to_next ?_
        refine hits_cond rfl (fun c2 => absurd c2 Bool.false_ne_true) (fun c2 => ?_)
        refine hits_skip ?_
        refine to_next ?_
        refine hits_seq ?_
        refine hits_region ?_
        refine sq (f_load kd65 rfl rfl (lt rfl)) rfl rfl ?_
        refine sq (f_store kd65 rfl rfl rfl rfl rfl) rfl rfl ?_
        refine hits_nil ?_
        refine to_next ?_
        refine hits_ret ?_
        refine in_ret ?_
        refine to_ret ?_
        have hO' : o = .ret [LDw L, .sc (.int .i64 (j3 : Int))] (.agg [.sc (.int .u8 2), txD [], txD [], txD [], nD 0, .list 10 [.agg (exCs (Ex.mk qop qlw qlh qll qnm qfl qn qm qar qln))], smLD l, .list 9 [], nD (wordAt wEnd L i).ln]) := by rw [hO]; show Oc.ret _ (smD (.mk 2 [] [] [] 0 [Ex.mk qop qlw qlh qll qnm qfl qn qm qar qln] l [] (wordAt wEnd L i).ln)) = _; rw [smD_cs]; first | rfl | (simp only [exCs, smCs, exDs_map, smDs_map, List.map_cons, List.map_nil, exD_cs, exLD, smLD]; done) | (simp only [exCs, smCs, exDs_map, smDs_map, List.map_cons, List.map_nil, exD_cs, exLD, smLD]; rfl)
        exact hits_doneX hO' (.inl rfl) rfl rfl rfl rfl rfl ⟨rfl, rfl, trivial⟩ rfl
      · rw [if_pos rfl] at hO
        refine hits_nil ?_
        refine to_next ?_
        refine hits_cond rfl (fun c2 => ?_) (fun c2 => absurd c2 Bool.false_ne_true.symm)
        refine hits_region ?_
        refine sq (f_move rfl (lt rfl)) rfl rfl ?_
        refine sq_pr hO hne (hB hj3) rfl en91 rfl rfl rfl rfl ⟨rfl, rfl, trivial⟩ rfl rfl (lt rfl) (fun _ _ hd h => And.intro hd (h)) (fun l2 m3 g3 hO2 => ?_)
        replace hO := hO2
        clear hO2
        have hm3 := (tame_bl _ g3 hj3).2
        refine sq (f_fieldAddr rfl kf65_7 rfl (lt rfl)) rfl rfl ?_
        refine sq (f_store kd60 rfl rfl rfl rfl rfl) rfl rfl ?_
        refine hits_nil ?_
        refine to_next ?_
        refine hits_seq ?_
        refine hits_region ?_
        refine sq (f_load kd65 rfl rfl (lt rfl)) rfl rfl ?_
        refine sq (f_store kd65 rfl rfl rfl rfl rfl) rfl rfl ?_
        refine hits_nil ?_
        refine to_next ?_
        refine hits_ret ?_
        refine in_ret ?_
        refine to_ret ?_
        have hO' : o = .ret [LDw L, .sc (.int .i64 (m3 : Int))] (.agg [.sc (.int .u8 2), txD [], txD [], txD [], nD 0, .list 10 [.agg (exCs (Ex.mk qop qlw qlh qll qnm qfl qn qm qar qln))], smLD l, smLD l2, nD (wordAt wEnd L i).ln]) := by rw [hO]; show Oc.ret _ (smD (.mk 2 [] [] [] 0 [Ex.mk qop qlw qlh qll qnm qfl qn qm qar qln] l l2 (wordAt wEnd L i).ln)) = _; rw [smD_cs]; first | rfl | (simp only [exCs, smCs, exDs_map, smDs_map, List.map_cons, List.map_nil, exD_cs, exLD, smLD]; done) | (simp only [exCs, smCs, exDs_map, smDs_map, List.map_cons, List.map_nil, exD_cs, exLD, smLD]; rfl)
        exact hits_doneX hO' (.inl rfl) rfl rfl rfl rfl rfl ⟨rfl, rfl, trivial⟩ rfl
  · rw [h2] at h3
    rw [h2] at hO
    have hfm := simple_form h2
    by_cases hk : (wordAt wEnd L i).k = 1
    · rw [if_pos hk] at hO
      change o = ocOf (LDw L) smD ((formK f kind (wordAt wEnd L i).ln form).run wEnd L (i + 1)) at hO
      have hi1 : i + 1 ≤ L.length := word_in (by rw [hk]; decide)
      refine hits_cellD 2 5 (q' := .list 10 []) rfl nil_list ?_
      refine hits_cellD 2 6 (q' := .list 9 []) rfl nil_list ?_
      refine hits_cellD 2 7 (q' := .list 9 []) rfl nil_list ?_
      refine hits_drawn mixed ?_
      refine dq (f_move rfl (lt rfl)) rfl rfl ?_
      refine dq (f_callMP en152 rfl (simple_c b) rfl rfl (lt rfl)) rfl rfl ?_
      refine dq (f_fieldAddr rfl kf37_1 rfl (lt rfl)) rfl rfl ?_
      refine dq (f_load kd9 rfl rfl (lt rfl)) rfl rfl ?_
      refine dq (f_lookup mpk227 rfl rfl rfl h3.1 h3.2 (lt rfl)) rfl rfl ?_
      refine dq (f_move rfl (lt rfl)) rfl rfl ?_
      refine dq (f_extract rfl rfl (lt rfl)) rfl rfl ?_
      refine dq (f_extract rfl rfl (lt rfl)) rfl rfl ?_
      refine dq (f_alloc zc225 (lt rfl)) rfl rfl ?_
      refine dq (f_store kd225 rfl rfl rfl rfl rfl) rfl rfl ?_
      refine dq (f_assign rfl (lt rfl)) rfl rfl ?_
      refine dq_nil rfl ?_
      refine to_next ?_
      refine hits_seq ?_
      refine hits_region ?_
      refine sq (f_move rfl (lt rfl)) rfl rfl ?_
      refine sq (f_move rfl (lt rfl)) rfl rfl ?_
      refine sq_yes (f_fieldAddr rfl kf37_0 rfl (lt rfl)) rfl rfl rfl rfl (lt rfl) ?_
      refine sq_yes (f_load kd32 rfl rfl (lt rfl)) rfl rfl rfl rfl (lt rfl) ?_
      refine sq_yes (f_bin rfl rfl (bT (beq_iff_eq.mpr (by rw [hk]; rfl))) (lt rfl)) rfl rfl rfl rfl (lt rfl) ?_
      refine sq (f_pick rfl rfl (lt rfl)) rfl rfl ?_
      refine hits_nil ?_
      refine to_next ?_
      refine hits_cond rfl (fun c0 => ?_) (fun c0 => absurd c0 Bool.false_ne_true.symm)
      refine hits_seq ?_
      refine hits_region ?_
      refine sq (f_move rfl (lt rfl)) rfl rfl ?_
      refine sq_callB en59 rfl rfl (take_c hL hi) ⟨rfl, rfl, trivial⟩ rfl rfl rfl rfl (lt rfl) ?_
      refine hits_nil ?_
      refine to_next ?_
      refine hits_seq ?_
      refine hits_region ?_
      refine sq (f_fieldAddr rfl kf225_0 rfl (lt rfl)) rfl rfl ?_
      refine sq (f_load kd63 rfl rfl (lt rfl)) rfl rfl ?_
      refine sq (f_fieldAddr rfl kf65_0 rfl (lt rfl)) rfl rfl ?_
      refine sq (f_store kd63 rfl rfl rfl rfl rfl) rfl rfl ?_
      refine hits_nil ?_
      refine to_next ?_
      refine hits_seq ?_
      obtain rfl | rfl | rfl | rfl | rfl | rfl | rfl : form = 0 ∨ form = 1 ∨ form = 2 ∨ form = 3 ∨ form = 4 ∨ form = 5 ∨ form = 6 := by omega
      · rw [formK] at hO
        unfold semi at hO
        refine hits_region ?_
        refine sq (f_fieldAddr rfl kf225_1 rfl (lt rfl)) rfl rfl ?_
        refine sq (f_load kd223 rfl rfl (lt rfl)) rfl rfl ?_
        refine hits_to [(.slot 0, some (.ptr 1000000 0)), (.box 1000000, some (.ptr 1000000 0)), (.cell 1000000 0, some (.d (LDw L))), (.cell 1000000 1, some (.d (.sc (.int .i64 ((i + 1 : Nat) : Int))))), (.slot 2, some (.ptr 2 0)), (.box 2, some (.ptr 2 0)), (.cell 2 0, some (.d (.sc (.int .u8 (kind : Int))))), (.cell 2 1, some (.d (.sc (.string ByteArray.empty)))), (.cell 2 2, some (.d (.sc (.string ByteArray.empty)))), (.cell 2 3, some (.d (.sc (.string ByteArray.empty)))), (.cell 2 4, some (.d (.sc (.int .i64 0)))), (.cell 2 5, some (.d (.list 10 []))), (.cell 2 6, some (.d (.list 9 []))), (.cell 2 7, some (.d (.list 9 []))), (.cell 2 8, some (.d (nD (wordAt wEnd L i).ln))), (.slot 31, some (.d (.sc (mvV b 167))))] ⟨rfl, rfl, rfl, rfl, rfl, rfl, rfl, rfl, rfl, rfl, rfl, rfl, rfl, rfl, rfl, rfl, trivial⟩ rfl ?_
        refine sq_inlineV en167 Tryz.func167 rfl Tryz.ntmps167 rfl rfl rfl rfl rfl rfl fun a1 ha1 hd1 => ?_
        refine hits_region ?_
        refine sq (f_move rfl (lt rfl)) rfl rfl ?_
        refine sq (f_move rfl (lt rfl)) rfl rfl ?_
        refine sq_pr hO hne (name_c hL hi1) rfl en82 rfl rfl rfl rfl ⟨rfl, rfl, trivial⟩ rfl rfl (lt rfl) (fun _ _ hd h => And.intro hd (Or.inr ⟨_, rfl, And.intro hd1 h⟩)) (fun s k1 e1 hO2 => ?_)
        replace hO := hO2
        clear hO2
        have hk1 := (eager_name e1 hi1).2
        refine sq (f_nil rfl rfl (lt rfl)) rfl rfl ?_
        refine sq (f_fieldAddr rfl kf65_1 rfl (lt rfl)) rfl rfl ?_
        refine sq (f_store kd9 rfl rfl rfl rfl rfl) rfl rfl ?_
        refine hits_nil ?_
        refine hits_back (.inr rfl) ha1 hd1 rfl rfl (lt rfl) rfl ?_
        refine hits_nil ?_
        refine to_next ?_
        refine hits_seq ?_
        refine hits_region ?_
        refine sq (f_move rfl (lt rfl)) rfl rfl ?_
        refine sq_pr hO hne (need_c (l := [59]) (ts := [[59]]) hL hk1 (by decide) (fields_g (l := [59]) (ts := [[59]]) (by decide +kernel) (by decide +kernel) (by decide +kernel))) rfl en83 rfl rfl rfl rfl ⟨rfl, rfl, trivial⟩ rfl rfl (lt rfl) (fun _ _ hd h => And.intro hd (h)) (fun u kz ez hO2 => ?_)
        replace hO := hO2
        clear hO2
        refine hits_nil ?_
        refine to_next ?_
        refine hits_seq ?_
        refine hits_region ?_
        refine sq (f_load kd65 rfl rfl (lt rfl)) rfl rfl ?_
        refine sq (f_store kd65 rfl rfl rfl rfl rfl) rfl rfl ?_
        refine hits_nil ?_
        refine to_next ?_
        refine hits_ret ?_
        refine to_ret ?_
        have hO' : o = .ret [LDw L, .sc (.int .i64 (kz : Int))] (.agg [.sc (.int .u8 (kind : Int)), txD s, txD [], txD [], nD 0, .list 10 [], .list 9 [], .list 9 [], nD (wordAt wEnd L i).ln]) := by rw [hO]; show Oc.ret _ (smD (.mk kind s [] [] 0 [] [] [] (wordAt wEnd L i).ln)) = _; rw [smD_cs]; first | rfl | (simp only [exCs, smCs, exDs_map, smDs_map, List.map_cons, List.map_nil, exD_cs, exLD, smLD]; done) | (simp only [exCs, smCs, exDs_map, smDs_map, List.map_cons, List.map_nil, exD_cs, exLD, smLD]; rfl)
        exact hits_doneX hO' (.inl rfl) rfl rfl rfl rfl rfl ⟨rfl, rfl, trivial⟩ rfl
      · rw [formK] at hO
        unfold semi at hO
        refine hits_region ?_
        refine sq (f_fieldAddr rfl kf225_1 rfl (lt rfl)) rfl rfl ?_
        refine sq (f_load kd223 rfl rfl (lt rfl)) rfl rfl ?_
        refine hits_to [(.slot 0, some (.ptr 1000000 0)), (.box 1000000, some (.ptr 1000000 0)), (.cell 1000000 0, some (.d (LDw L))), (.cell 1000000 1, some (.d (.sc (.int .i64 ((i + 1 : Nat) : Int))))), (.slot 2, some (.ptr 2 0)), (.box 2, some (.ptr 2 0)), (.cell 2 0, some (.d (.sc (.int .u8 (kind : Int))))), (.cell 2 1, some (.d (.sc (.string ByteArray.empty)))), (.cell 2 2, some (.d (.sc (.string ByteArray.empty)))), (.cell 2 3, some (.d (.sc (.string ByteArray.empty)))), (.cell 2 4, some (.d (.sc (.int .i64 0)))), (.cell 2 5, some (.d (.list 10 []))), (.cell 2 6, some (.d (.list 9 []))), (.cell 2 7, some (.d (.list 9 []))), (.cell 2 8, some (.d (nD (wordAt wEnd L i).ln))), (.slot 31, some (.d (.sc (mvV b 168))))] ⟨rfl, rfl, rfl, rfl, rfl, rfl, rfl, rfl, rfl, rfl, rfl, rfl, rfl, rfl, rfl, rfl, trivial⟩ rfl ?_
        refine sq_inlineV en168 Tryz.func168 rfl Tryz.ntmps168 rfl rfl rfl rfl rfl rfl fun a2 ha2 hd2 => ?_
        refine hits_seq ?_
        refine hits_region ?_
        refine sq (f_move rfl (lt rfl)) rfl rfl ?_
        refine sq (f_move rfl (lt rfl)) rfl rfl ?_
        refine sq_pr hO hne (name_c hL hi1) rfl en82 rfl rfl rfl rfl ⟨rfl, rfl, trivial⟩ rfl rfl (lt rfl) (fun _ _ hd h => And.intro hd (Or.inr ⟨_, rfl, And.intro hd2 h⟩)) (fun s k1 e1 hO2 => ?_)
        replace hO := hO2
        clear hO2
        have hk1 := (eager_name e1 hi1).2
        refine sq (f_nil rfl rfl (lt rfl)) rfl rfl ?_
        refine sq (f_fieldAddr rfl kf65_1 rfl (lt rfl)) rfl rfl ?_
        refine sq (f_store kd9 rfl rfl rfl rfl rfl) rfl rfl ?_
        refine hits_nil ?_
        refine to_next ?_
        refine hits_region ?_
        refine sq (f_move rfl (lt rfl)) rfl rfl ?_
        refine sq (f_move rfl (lt rfl)) rfl rfl ?_
        refine sq_pr hO hne (index_c hL hk1 (hX f (Nat.le_refl _)).2.2.2) rfl en178 rfl rfl rfl rfl ⟨rfl, rfl, trivial⟩ rfl rfl (lt rfl) (fun _ _ hd h => And.intro hd (Or.inr ⟨_, rfl, And.intro hd2 h⟩)) (fun q k2 e2 hO2 => ?_)
        replace hO := hO2
        clear hO2
        have hk2 := (tame_index _ e2 hk1).2
        obtain ⟨qop, qlw, qlh, qll, qnm, qfl, qn, qm, qar, qln⟩ := q
        rw [exD_cs]
        refine sq (f_buildSlice sk44 rfl rfl rfl rfl rfl rfl (by decide) (by decide) (lt rfl)) rfl rfl ?_
        refine sq (f_nil rfl rfl (lt rfl)) rfl rfl ?_
        refine sq (f_fieldAddr rfl kf65_5 rfl (lt rfl)) rfl rfl ?_
        refine sq (f_store kd44 rfl rfl rfl rfl rfl) rfl rfl ?_
        refine hits_nil ?_
        refine hits_back (.inr rfl) ha2 hd2 rfl rfl (lt rfl) rfl ?_
        refine hits_nil ?_
        refine to_next ?_
        refine hits_seq ?_
        refine hits_region ?_
        refine sq (f_move rfl (lt rfl)) rfl rfl ?_
        refine sq_pr hO hne (need_c (l := [59]) (ts := [[59]]) hL hk2 (by decide) (fields_g (l := [59]) (ts := [[59]]) (by decide +kernel) (by decide +kernel) (by decide +kernel))) rfl en83 rfl rfl rfl rfl ⟨rfl, rfl, trivial⟩ rfl rfl (lt rfl) (fun _ _ hd h => And.intro hd (h)) (fun u kz ez hO2 => ?_)
        replace hO := hO2
        clear hO2
        refine hits_nil ?_
        refine to_next ?_
        refine hits_seq ?_
        refine hits_region ?_
        refine sq (f_load kd65 rfl rfl (lt rfl)) rfl rfl ?_
        refine sq (f_store kd65 rfl rfl rfl rfl rfl) rfl rfl ?_
        refine hits_nil ?_
        refine to_next ?_
        refine hits_ret ?_
        refine to_ret ?_
        have hO' : o = .ret [LDw L, .sc (.int .i64 (kz : Int))] (.agg [.sc (.int .u8 (kind : Int)), txD s, txD [], txD [], nD 0, .list 10 [.agg (exCs (Ex.mk qop qlw qlh qll qnm qfl qn qm qar qln))], .list 9 [], .list 9 [], nD (wordAt wEnd L i).ln]) := by rw [hO]; show Oc.ret _ (smD (.mk kind s [] [] 0 [Ex.mk qop qlw qlh qll qnm qfl qn qm qar qln] [] [] (wordAt wEnd L i).ln)) = _; rw [smD_cs]; first | rfl | (simp only [exCs, smCs, exDs_map, smDs_map, List.map_cons, List.map_nil, exD_cs, exLD, smLD]; done) | (simp only [exCs, smCs, exDs_map, smDs_map, List.map_cons, List.map_nil, exD_cs, exLD, smLD]; rfl)
        exact hits_doneX hO' (.inl rfl) rfl rfl rfl rfl rfl ⟨rfl, rfl, trivial⟩ rfl
      · rw [formK] at hO
        unfold semi at hO
        refine hits_region ?_
        refine sq (f_fieldAddr rfl kf225_1 rfl (lt rfl)) rfl rfl ?_
        refine sq (f_load kd223 rfl rfl (lt rfl)) rfl rfl ?_
        refine hits_to [(.slot 0, some (.ptr 1000000 0)), (.box 1000000, some (.ptr 1000000 0)), (.cell 1000000 0, some (.d (LDw L))), (.cell 1000000 1, some (.d (.sc (.int .i64 ((i + 1 : Nat) : Int))))), (.slot 2, some (.ptr 2 0)), (.box 2, some (.ptr 2 0)), (.cell 2 0, some (.d (.sc (.int .u8 (kind : Int))))), (.cell 2 1, some (.d (.sc (.string ByteArray.empty)))), (.cell 2 2, some (.d (.sc (.string ByteArray.empty)))), (.cell 2 3, some (.d (.sc (.string ByteArray.empty)))), (.cell 2 4, some (.d (.sc (.int .i64 0)))), (.cell 2 5, some (.d (.list 10 []))), (.cell 2 6, some (.d (.list 9 []))), (.cell 2 7, some (.d (.list 9 []))), (.cell 2 8, some (.d (nD (wordAt wEnd L i).ln))), (.slot 31, some (.d (.sc (mvV b 169))))] ⟨rfl, rfl, rfl, rfl, rfl, rfl, rfl, rfl, rfl, rfl, rfl, rfl, rfl, rfl, rfl, rfl, trivial⟩ rfl ?_
        refine sq_inlineV en169 Tryz.func169 rfl Tryz.ntmps169 rfl rfl rfl rfl rfl rfl fun a3 ha3 hd3 => ?_
        refine hits_seq ?_
        refine hits_region ?_
        refine sq (f_move rfl (lt rfl)) rfl rfl ?_
        refine sq (f_move rfl (lt rfl)) rfl rfl ?_
        refine sq (f_move rfl (lt rfl)) rfl rfl ?_
        refine sq_pr hO hne (field_c hL hi1) rfl en179 rfl rfl rfl rfl ⟨rfl, rfl, trivial⟩ rfl rfl (lt rfl) (fun _ _ hd h => And.intro hd (Or.inr ⟨_, rfl, And.intro hd3 h⟩)) (fun p k1 e1 hO2 => ?_)
        replace hO := hO2
        clear hO2
        have hk1 := (tame_field e1 hi1).2
        obtain ⟨fa, fb⟩ := p
        refine sq (f_move rfl (lt rfl)) rfl rfl ?_
        refine sq (f_extract rfl rfl (lt rfl)) rfl rfl ?_
        refine sq (f_extract rfl rfl (lt rfl)) rfl rfl ?_
        refine sq (f_nil rfl rfl (lt rfl)) rfl rfl ?_
        refine sq (f_fieldAddr rfl kf65_1 rfl (lt rfl)) rfl rfl ?_
        refine sq (f_store kd9 rfl rfl rfl rfl rfl) rfl rfl ?_
        refine sq (f_nil rfl rfl (lt rfl)) rfl rfl ?_
        refine sq (f_fieldAddr rfl kf65_2 rfl (lt rfl)) rfl rfl ?_
        refine sq (f_store kd9 rfl rfl rfl rfl rfl) rfl rfl ?_
        refine hits_nil ?_
        refine to_next ?_
        refine hits_seq ?_
        refine hits_region ?_
        refine sq (f_move rfl (lt rfl)) rfl rfl ?_
        refine sq_pr hO hne (need_c (l := [61]) (ts := [[61]]) hL hk1 (by decide) (fields_g (l := [61]) (ts := [[61]]) (by decide +kernel) (by decide +kernel) (by decide +kernel))) rfl en83 rfl rfl rfl rfl ⟨rfl, rfl, trivial⟩ rfl rfl (lt rfl) (fun _ _ hd h => And.intro hd (Or.inr ⟨_, rfl, And.intro hd3 h⟩)) (fun uk2 k2 e2 hO2 => ?_)
        replace hO := hO2
        clear hO2
        have hk2 := (tame_need _ e2 hk1).2
        refine hits_nil ?_
        refine to_next ?_
        refine hits_seq ?_
        refine hits_region ?_
        refine sq (f_move rfl (lt rfl)) rfl rfl ?_
        refine sq (f_move rfl (lt rfl)) rfl rfl ?_
        refine sq_pr hO hne (name_c hL hk2) rfl en82 rfl rfl rfl rfl ⟨rfl, rfl, trivial⟩ rfl rfl (lt rfl) (fun _ _ hd h => And.intro hd (Or.inr ⟨_, rfl, And.intro hd3 h⟩)) (fun s k3 e3 hO2 => ?_)
        replace hO := hO2
        clear hO2
        have hk3 := (eager_name e3 hk2).2
        refine sq (f_nil rfl rfl (lt rfl)) rfl rfl ?_
        refine sq (f_fieldAddr rfl kf65_3 rfl (lt rfl)) rfl rfl ?_
        refine sq (f_store kd9 rfl rfl rfl rfl rfl) rfl rfl ?_
        refine hits_nil ?_
        refine to_next ?_
        refine hits_region ?_
        refine sq (f_move rfl (lt rfl)) rfl rfl ?_
        refine sq (f_move rfl (lt rfl)) rfl rfl ?_
        refine sq_pr hO hne (index_c hL hk3 (hX f (Nat.le_refl _)).2.2.2) rfl en178 rfl rfl rfl rfl ⟨rfl, rfl, trivial⟩ rfl rfl (lt rfl) (fun _ _ hd h => And.intro hd (Or.inr ⟨_, rfl, And.intro hd3 h⟩)) (fun q k4 e4 hO2 => ?_)
        replace hO := hO2
        clear hO2
        have hk4 := (tame_index _ e4 hk3).2
        obtain ⟨qop, qlw, qlh, qll, qnm, qfl, qn, qm, qar, qln⟩ := q
        rw [exD_cs]
        refine sq (f_buildSlice sk44 rfl rfl rfl rfl rfl rfl (by decide) (by decide) (lt rfl)) rfl rfl ?_
        refine sq (f_nil rfl rfl (lt rfl)) rfl rfl ?_
        refine sq (f_fieldAddr rfl kf65_5 rfl (lt rfl)) rfl rfl ?_
        refine sq (f_store kd44 rfl rfl rfl rfl rfl) rfl rfl ?_
        refine hits_nil ?_
        refine hits_back (.inr rfl) ha3 hd3 rfl rfl (lt rfl) rfl ?_
        refine hits_nil ?_
        refine to_next ?_
        refine hits_seq ?_
        refine hits_region ?_
        refine sq (f_move rfl (lt rfl)) rfl rfl ?_
        refine sq_pr hO hne (need_c (l := [59]) (ts := [[59]]) hL hk4 (by decide) (fields_g (l := [59]) (ts := [[59]]) (by decide +kernel) (by decide +kernel) (by decide +kernel))) rfl en83 rfl rfl rfl rfl ⟨rfl, rfl, trivial⟩ rfl rfl (lt rfl) (fun _ _ hd h => And.intro hd (h)) (fun u kz ez hO2 => ?_)
        replace hO := hO2
        clear hO2
        refine hits_nil ?_
        refine to_next ?_
        refine hits_seq ?_
        refine hits_region ?_
        refine sq (f_load kd65 rfl rfl (lt rfl)) rfl rfl ?_
        refine sq (f_store kd65 rfl rfl rfl rfl rfl) rfl rfl ?_
        refine hits_nil ?_
        refine to_next ?_
        refine hits_ret ?_
        refine to_ret ?_
        have hO' : o = .ret [LDw L, .sc (.int .i64 (kz : Int))] (.agg [.sc (.int .u8 (kind : Int)), txD fa, txD fb, txD s, nD 0, .list 10 [.agg (exCs (Ex.mk qop qlw qlh qll qnm qfl qn qm qar qln))], .list 9 [], .list 9 [], nD (wordAt wEnd L i).ln]) := by rw [hO]; show Oc.ret _ (smD (.mk kind fa fb s 0 [Ex.mk qop qlw qlh qll qnm qfl qn qm qar qln] [] [] (wordAt wEnd L i).ln)) = _; rw [smD_cs]; first | rfl | (simp only [exCs, smCs, exDs_map, smDs_map, List.map_cons, List.map_nil, exD_cs, exLD, smLD]; done) | (simp only [exCs, smCs, exDs_map, smDs_map, List.map_cons, List.map_nil, exD_cs, exLD, smLD]; rfl)
        exact hits_doneX hO' (.inl rfl) rfl rfl rfl rfl rfl ⟨rfl, rfl, trivial⟩ rfl
      · rw [formK] at hO
        unfold semi at hO
        refine hits_region ?_
        refine sq (f_fieldAddr rfl kf225_1 rfl (lt rfl)) rfl rfl ?_
        refine sq (f_load kd223 rfl rfl (lt rfl)) rfl rfl ?_
        refine hits_to [(.slot 0, some (.ptr 1000000 0)), (.box 1000000, some (.ptr 1000000 0)), (.cell 1000000 0, some (.d (LDw L))), (.cell 1000000 1, some (.d (.sc (.int .i64 ((i + 1 : Nat) : Int))))), (.slot 2, some (.ptr 2 0)), (.box 2, some (.ptr 2 0)), (.cell 2 0, some (.d (.sc (.int .u8 (kind : Int))))), (.cell 2 1, some (.d (.sc (.string ByteArray.empty)))), (.cell 2 2, some (.d (.sc (.string ByteArray.empty)))), (.cell 2 3, some (.d (.sc (.string ByteArray.empty)))), (.cell 2 4, some (.d (.sc (.int .i64 0)))), (.cell 2 5, some (.d (.list 10 []))), (.cell 2 6, some (.d (.list 9 []))), (.cell 2 7, some (.d (.list 9 []))), (.cell 2 8, some (.d (nD (wordAt wEnd L i).ln))), (.slot 31, some (.d (.sc (mvV b 170))))] ⟨rfl, rfl, rfl, rfl, rfl, rfl, rfl, rfl, rfl, rfl, rfl, rfl, rfl, rfl, rfl, rfl, trivial⟩ rfl ?_
        refine sq_inlineV en170 Tryz.func170 rfl Tryz.ntmps170 rfl rfl rfl rfl rfl rfl fun a4 ha4 hd4 => ?_
        refine hits_seq ?_
        refine hits_region ?_
        refine sq (f_move rfl (lt rfl)) rfl rfl ?_
        refine sq (f_move rfl (lt rfl)) rfl rfl ?_
        refine sq_pr hO hne (name_c hL hi1) rfl en82 rfl rfl rfl rfl ⟨rfl, rfl, trivial⟩ rfl rfl (lt rfl) (fun _ _ hd h => And.intro hd (Or.inr ⟨_, rfl, And.intro hd4 h⟩)) (fun s k1 e1 hO2 => ?_)
        replace hO := hO2
        clear hO2
        have hk1 := (eager_name e1 hi1).2
        refine sq (f_nil rfl rfl (lt rfl)) rfl rfl ?_
        refine sq (f_fieldAddr rfl kf65_3 rfl (lt rfl)) rfl rfl ?_
        refine sq (f_store kd9 rfl rfl rfl rfl rfl) rfl rfl ?_
        refine hits_nil ?_
        refine to_next ?_
        refine hits_seq ?_
        refine hits_region ?_
        refine sq (f_move rfl (lt rfl)) rfl rfl ?_
        refine sq_pr hO hne (index_c hL hk1 (hX f (Nat.le_refl _)).2.2.2) rfl en178 rfl rfl rfl rfl ⟨rfl, rfl, trivial⟩ rfl rfl (lt rfl) (fun _ _ hd h => And.intro hd (Or.inr ⟨_, rfl, And.intro hd4 h⟩)) (fun q k2 e2 hO2 => ?_)
        replace hO := hO2
        clear hO2
        have hk2 := (tame_index _ e2 hk1).2
        obtain ⟨yop, ylw, ylh, yll, ynm, yfl, yn, ym, yar, yln⟩ := q
        rw [exD_cs]
        refine sq (f_alloc zc46 (lt rfl)) rfl rfl ?_
        refine sq (f_store kd46 rfl rfl rfl rfl rfl) rfl rfl ?_
        refine hits_nil ?_
        refine to_next ?_
        refine hits_seq ?_
        refine hits_region ?_
        refine sq (f_move rfl (lt rfl)) rfl rfl ?_
        refine sq_pr hO hne (need_c (l := [61]) (ts := [[61]]) hL hk2 (by decide) (fields_g (l := [61]) (ts := [[61]]) (by decide +kernel) (by decide +kernel) (by decide +kernel))) rfl en83 rfl rfl rfl rfl ⟨rfl, rfl, trivial⟩ rfl rfl (lt rfl) (fun _ _ hd h => And.intro hd (Or.inr ⟨_, rfl, And.intro hd4 h⟩)) (fun uk3 k3 e3 hO2 => ?_)
        replace hO := hO2
        clear hO2
        have hk3 := (tame_need _ e3 hk2).2
        refine hits_nil ?_
        refine to_next ?_
        refine hits_drawnT (some (1000000, 2)) rfl mixed ?_
        refine dq (f_move rfl (lt rfl)) rfl rfl ?_
        refine dq (f_load kd46 rfl rfl (lt rfl)) rfl rfl ?_
        refine dq (f_move rfl (lt rfl)) rfl rfl ?_
        refine dq_pr (Ex.mk 0 0 0 0 [] [] 0 0 [] 0) hO hne ((hX f (Nat.le_refl _)).2.2.2 hk3) rfl en124 rfl rfl rfl rfl ⟨rfl, rfl, trivial⟩ rfl (lt rfl) (fun _ _ hd h => And.intro hd (Or.inr ⟨_, rfl, And.intro hd4 h⟩)) (fun q k4 X hX => ?_)
        obtain ⟨qop, qlw, qlh, qll, qnm, qfl, qn, qm, qar, qln⟩ := q
        rw [exD_cs]
        refine dq (f_buildSlice sk44 rfl rfl rfl rfl rfl rfl (by decide) (by decide) (lt rfl)) rfl rfl ?_
        refine dq (f_nil rfl rfl (lt rfl)) rfl rfl ?_
        refine dq (f_fieldAddr rfl kf65_5 rfl (lt rfl)) rfl rfl ?_
        refine dq (f_store kd44 rfl rfl rfl rfl rfl) rfl rfl ?_
        refine dq_nilT (by kernel_rfl) rfl ?_
        refine drawn_end (id := 1000000) hX rfl (fun hXq hXe => ?_)
        obtain ⟨e4, hO2⟩ := hXq
        subst hXe
        replace hO := hO2
        clear hO2 hX
        have hk4 := (tame_ex _ _ e4 hk3).2
        refine hits_back (.inr rfl) ha4 hd4 rfl rfl (lt rfl) rfl ?_
        refine hits_nil ?_
        refine to_next ?_
        refine hits_seq ?_
        refine hits_region ?_
        refine sq (f_move rfl (lt rfl)) rfl rfl ?_
        refine sq_pr hO hne (need_c (l := [59]) (ts := [[59]]) hL hk4 (by decide) (fields_g (l := [59]) (ts := [[59]]) (by decide +kernel) (by decide +kernel) (by decide +kernel))) rfl en83 rfl rfl rfl rfl ⟨rfl, rfl, trivial⟩ rfl rfl (lt rfl) (fun _ _ hd h => And.intro hd (h)) (fun u kz ez hO2 => ?_)
        replace hO := hO2
        clear hO2
        refine hits_nil ?_
        refine to_next ?_
        refine hits_seq ?_
        refine hits_region ?_
        refine sq (f_load kd65 rfl rfl (lt rfl)) rfl rfl ?_
        refine sq (f_store kd65 rfl rfl rfl rfl rfl) rfl rfl ?_
        refine hits_nil ?_
        refine to_next ?_
        refine hits_ret ?_
        refine to_ret ?_
        have hO' : o = .ret [LDw L, .sc (.int .i64 (kz : Int))] (.agg [.sc (.int .u8 (kind : Int)), txD [], txD [], txD s, nD 0, .list 10 [.agg (exCs (Ex.mk yop ylw ylh yll ynm yfl yn ym yar yln)), .agg (exCs (Ex.mk qop qlw qlh qll qnm qfl qn qm qar qln))], .list 9 [], .list 9 [], nD (wordAt wEnd L i).ln]) := by rw [hO]; show Oc.ret _ (smD (.mk kind [] [] s 0 [Ex.mk yop ylw ylh yll ynm yfl yn ym yar yln, Ex.mk qop qlw qlh qll qnm qfl qn qm qar qln] [] [] (wordAt wEnd L i).ln)) = _; rw [smD_cs]; first | rfl | (simp only [exCs, smCs, exDs_map, smDs_map, List.map_cons, List.map_nil, exD_cs, exLD, smLD]; done) | (simp only [exCs, smCs, exDs_map, smDs_map, List.map_cons, List.map_nil, exD_cs, exLD, smLD]; rfl)
        exact hits_doneX hO' (.inl rfl) rfl rfl rfl rfl rfl ⟨rfl, rfl, trivial⟩ rfl
      · rw [formK] at hO
        unfold semi at hO
        refine hits_region ?_
        refine sq (f_fieldAddr rfl kf225_1 rfl (lt rfl)) rfl rfl ?_
        refine sq (f_load kd223 rfl rfl (lt rfl)) rfl rfl ?_
        refine hits_to [(.slot 0, some (.ptr 1000000 0)), (.box 1000000, some (.ptr 1000000 0)), (.cell 1000000 0, some (.d (LDw L))), (.cell 1000000 1, some (.d (.sc (.int .i64 ((i + 1 : Nat) : Int))))), (.slot 2, some (.ptr 2 0)), (.box 2, some (.ptr 2 0)), (.cell 2 0, some (.d (.sc (.int .u8 (kind : Int))))), (.cell 2 1, some (.d (.sc (.string ByteArray.empty)))), (.cell 2 2, some (.d (.sc (.string ByteArray.empty)))), (.cell 2 3, some (.d (.sc (.string ByteArray.empty)))), (.cell 2 4, some (.d (.sc (.int .i64 0)))), (.cell 2 5, some (.d (.list 10 []))), (.cell 2 6, some (.d (.list 9 []))), (.cell 2 7, some (.d (.list 9 []))), (.cell 2 8, some (.d (nD (wordAt wEnd L i).ln))), (.slot 31, some (.d (.sc (mvV b 171))))] ⟨rfl, rfl, rfl, rfl, rfl, rfl, rfl, rfl, rfl, rfl, rfl, rfl, rfl, rfl, rfl, rfl, trivial⟩ rfl ?_
        refine sq_inlineV en171 Tryz.func171 rfl Tryz.ntmps171 rfl rfl rfl rfl rfl rfl fun a5 ha5 hd5 => ?_
        refine hits_region ?_
        refine sq (f_move rfl (lt rfl)) rfl rfl ?_
        refine sq (f_move rfl (lt rfl)) rfl rfl ?_
        refine sq (f_move rfl (lt rfl)) rfl rfl ?_
        refine sq_pr hO hne (field_c hL hi1) rfl en179 rfl rfl rfl rfl ⟨rfl, rfl, trivial⟩ rfl rfl (lt rfl) (fun _ _ hd h => And.intro hd (Or.inr ⟨_, rfl, And.intro hd5 h⟩)) (fun p k1 e1 hO2 => ?_)
        replace hO := hO2
        clear hO2
        have hk1 := (tame_field e1 hi1).2
        obtain ⟨fa, fb⟩ := p
        refine sq (f_move rfl (lt rfl)) rfl rfl ?_
        refine sq (f_extract rfl rfl (lt rfl)) rfl rfl ?_
        refine sq (f_extract rfl rfl (lt rfl)) rfl rfl ?_
        refine sq (f_nil rfl rfl (lt rfl)) rfl rfl ?_
        refine sq (f_fieldAddr rfl kf65_1 rfl (lt rfl)) rfl rfl ?_
        refine sq (f_store kd9 rfl rfl rfl rfl rfl) rfl rfl ?_
        refine sq (f_nil rfl rfl (lt rfl)) rfl rfl ?_
        refine sq (f_fieldAddr rfl kf65_2 rfl (lt rfl)) rfl rfl ?_
        refine sq (f_store kd9 rfl rfl rfl rfl rfl) rfl rfl ?_
        refine hits_nil ?_
        refine hits_back (.inr rfl) ha5 hd5 rfl rfl (lt rfl) rfl ?_
        refine hits_nil ?_
        refine to_next ?_
        refine hits_seq ?_
        refine hits_region ?_
        refine sq (f_move rfl (lt rfl)) rfl rfl ?_
        refine sq_pr hO hne (need_c (l := [59]) (ts := [[59]]) hL hk1 (by decide) (fields_g (l := [59]) (ts := [[59]]) (by decide +kernel) (by decide +kernel) (by decide +kernel))) rfl en83 rfl rfl rfl rfl ⟨rfl, rfl, trivial⟩ rfl rfl (lt rfl) (fun _ _ hd h => And.intro hd (h)) (fun u kz ez hO2 => ?_)
        replace hO := hO2
        clear hO2
        refine hits_nil ?_
        refine to_next ?_
        refine hits_seq ?_
        refine hits_region ?_
        refine sq (f_load kd65 rfl rfl (lt rfl)) rfl rfl ?_
        refine sq (f_store kd65 rfl rfl rfl rfl rfl) rfl rfl ?_
        refine hits_nil ?_
        refine to_next ?_
        refine hits_ret ?_
        refine to_ret ?_
        have hO' : o = .ret [LDw L, .sc (.int .i64 (kz : Int))] (.agg [.sc (.int .u8 (kind : Int)), txD fa, txD fb, txD [], nD 0, .list 10 [], .list 9 [], .list 9 [], nD (wordAt wEnd L i).ln]) := by rw [hO]; show Oc.ret _ (smD (.mk kind fa fb [] 0 [] [] [] (wordAt wEnd L i).ln)) = _; rw [smD_cs]; first | rfl | (simp only [exCs, smCs, exDs_map, smDs_map, List.map_cons, List.map_nil, exD_cs, exLD, smLD]; done) | (simp only [exCs, smCs, exDs_map, smDs_map, List.map_cons, List.map_nil, exD_cs, exLD, smLD]; rfl)
        exact hits_doneX hO' (.inl rfl) rfl rfl rfl rfl rfl ⟨rfl, rfl, trivial⟩ rfl
      · rw [formK] at hO
        unfold semi at hO
        refine hits_region ?_
        refine sq (f_fieldAddr rfl kf225_1 rfl (lt rfl)) rfl rfl ?_
        refine sq (f_load kd223 rfl rfl (lt rfl)) rfl rfl ?_
        refine hits_to [(.slot 0, some (.ptr 1000000 0)), (.box 1000000, some (.ptr 1000000 0)), (.cell 1000000 0, some (.d (LDw L))), (.cell 1000000 1, some (.d (.sc (.int .i64 ((i + 1 : Nat) : Int))))), (.slot 2, some (.ptr 2 0)), (.box 2, some (.ptr 2 0)), (.cell 2 0, some (.d (.sc (.int .u8 (kind : Int))))), (.cell 2 1, some (.d (.sc (.string ByteArray.empty)))), (.cell 2 2, some (.d (.sc (.string ByteArray.empty)))), (.cell 2 3, some (.d (.sc (.string ByteArray.empty)))), (.cell 2 4, some (.d (.sc (.int .i64 0)))), (.cell 2 5, some (.d (.list 10 []))), (.cell 2 6, some (.d (.list 9 []))), (.cell 2 7, some (.d (.list 9 []))), (.cell 2 8, some (.d (nD (wordAt wEnd L i).ln))), (.slot 31, some (.d (.sc (mvV b 172))))] ⟨rfl, rfl, rfl, rfl, rfl, rfl, rfl, rfl, rfl, rfl, rfl, rfl, rfl, rfl, rfl, rfl, trivial⟩ rfl ?_
        refine sq_inlineV en172 Tryz.func172 rfl Tryz.ntmps172 rfl rfl rfl rfl rfl rfl fun a6 ha6 hd6 => ?_
        refine hits_skip ?_
        refine hits_back (.inr rfl) ha6 hd6 rfl rfl (lt rfl) rfl ?_
        refine hits_nil ?_
        refine to_next ?_
        refine hits_seq ?_
        refine hits_region ?_
        refine sq (f_move rfl (lt rfl)) rfl rfl ?_
        refine sq_pr hO hne (need_c (l := [59]) (ts := [[59]]) hL hi1 (by decide) (fields_g (l := [59]) (ts := [[59]]) (by decide +kernel) (by decide +kernel) (by decide +kernel))) rfl en83 rfl rfl rfl rfl ⟨rfl, rfl, trivial⟩ rfl rfl (lt rfl) (fun _ _ hd h => And.intro hd (h)) (fun u kz ez hO2 => ?_)
        replace hO := hO2
        clear hO2
        refine hits_nil ?_
        refine to_next ?_
        refine hits_seq ?_
        refine hits_region ?_
        refine sq (f_load kd65 rfl rfl (lt rfl)) rfl rfl ?_
        refine sq (f_store kd65 rfl rfl rfl rfl rfl) rfl rfl ?_
        refine hits_nil ?_
        refine to_next ?_
        refine hits_ret ?_
        refine to_ret ?_
        have hO' : o = .ret [LDw L, .sc (.int .i64 (kz : Int))] (.agg [.sc (.int .u8 (kind : Int)), txD [], txD [], txD [], nD 0, .list 10 [], .list 9 [], .list 9 [], nD (wordAt wEnd L i).ln]) := by rw [hO]; show Oc.ret _ (smD (.mk kind [] [] [] 0 [] [] [] (wordAt wEnd L i).ln)) = _; rw [smD_cs]; first | rfl | (simp only [exCs, smCs, exDs_map, smDs_map, List.map_cons, List.map_nil, exD_cs, exLD, smLD]; done) | (simp only [exCs, smCs, exDs_map, smDs_map, List.map_cons, List.map_nil, exD_cs, exLD, smLD]; rfl)
        exact hits_doneX hO' (.inl rfl) rfl rfl rfl rfl rfl ⟨rfl, rfl, trivial⟩ rfl
      · change o = ocOf (LDw L) smD ((wholeP.bind fun n => semi (.mk kind [] [] [] n [] [] [] (wordAt wEnd L i).ln)).run wEnd L (i + 1)) at hO
        unfold semi at hO
        refine hits_region ?_
        refine sq (f_fieldAddr rfl kf225_1 rfl (lt rfl)) rfl rfl ?_
        refine sq (f_load kd223 rfl rfl (lt rfl)) rfl rfl ?_
        refine hits_to [(.slot 0, some (.ptr 1000000 0)), (.box 1000000, some (.ptr 1000000 0)), (.cell 1000000 0, some (.d (LDw L))), (.cell 1000000 1, some (.d (.sc (.int .i64 ((i + 1 : Nat) : Int))))), (.slot 2, some (.ptr 2 0)), (.box 2, some (.ptr 2 0)), (.cell 2 0, some (.d (.sc (.int .u8 (kind : Int))))), (.cell 2 1, some (.d (.sc (.string ByteArray.empty)))), (.cell 2 2, some (.d (.sc (.string ByteArray.empty)))), (.cell 2 3, some (.d (.sc (.string ByteArray.empty)))), (.cell 2 4, some (.d (.sc (.int .i64 0)))), (.cell 2 5, some (.d (.list 10 []))), (.cell 2 6, some (.d (.list 9 []))), (.cell 2 7, some (.d (.list 9 []))), (.cell 2 8, some (.d (nD (wordAt wEnd L i).ln))), (.slot 31, some (.d (.sc (mvV b 173))))] ⟨rfl, rfl, rfl, rfl, rfl, rfl, rfl, rfl, rfl, rfl, rfl, rfl, rfl, rfl, rfl, rfl, trivial⟩ rfl ?_
        refine sq_inlineV en173 Tryz.func173 rfl Tryz.ntmps173 rfl rfl rfl rfl rfl rfl fun a7 ha7 hd7 => ?_
        refine hits_region ?_
        refine sq (f_move rfl (lt rfl)) rfl rfl ?_
        refine sq (f_move rfl (lt rfl)) rfl rfl ?_
        refine sq_pr hO hne (whole_c hL hi1 hS) rfl en87 rfl rfl rfl rfl ⟨rfl, rfl, trivial⟩ rfl rfl (lt rfl) (fun _ _ hd h => And.intro hd (Or.inr ⟨_, rfl, And.intro hd7 h⟩)) (fun n k1 e1 hO2 => ?_)
        replace hO := hO2
        clear hO2
        have hk1 := (eager_whole e1 hi1).2
        refine sq (f_nil rfl rfl (lt rfl)) rfl rfl ?_
        refine sq (f_fieldAddr rfl kf65_4 rfl (lt rfl)) rfl rfl ?_
        refine sq (f_store kd3 rfl rfl rfl rfl rfl) rfl rfl ?_
        refine hits_nil ?_
        refine hits_back (.inr rfl) ha7 hd7 rfl rfl (lt rfl) rfl ?_
        refine hits_nil ?_
        refine to_next ?_
        refine hits_seq ?_
        refine hits_region ?_
        refine sq (f_move rfl (lt rfl)) rfl rfl ?_
        refine sq_pr hO hne (need_c (l := [59]) (ts := [[59]]) hL hk1 (by decide) (fields_g (l := [59]) (ts := [[59]]) (by decide +kernel) (by decide +kernel) (by decide +kernel))) rfl en83 rfl rfl rfl rfl ⟨rfl, rfl, trivial⟩ rfl rfl (lt rfl) (fun _ _ hd h => And.intro hd (h)) (fun u kz ez hO2 => ?_)
        replace hO := hO2
        clear hO2
        refine hits_nil ?_
        refine to_next ?_
        refine hits_seq ?_
        refine hits_region ?_
        refine sq (f_load kd65 rfl rfl (lt rfl)) rfl rfl ?_
        refine sq (f_store kd65 rfl rfl rfl rfl rfl) rfl rfl ?_
        refine hits_nil ?_
        refine to_next ?_
        refine hits_ret ?_
        refine to_ret ?_
        have hO' : o = .ret [LDw L, .sc (.int .i64 (kz : Int))] (.agg [.sc (.int .u8 (kind : Int)), txD [], txD [], txD [], nD n, .list 10 [], .list 9 [], .list 9 [], nD (wordAt wEnd L i).ln]) := by rw [hO]; show Oc.ret _ (smD (.mk kind [] [] [] n [] [] [] (wordAt wEnd L i).ln)) = _; rw [smD_cs]; first | rfl | (simp only [exCs, smCs, exDs_map, smDs_map, List.map_cons, List.map_nil, exD_cs, exLD, smLD]; done) | (simp only [exCs, smCs, exDs_map, smDs_map, List.map_cons, List.map_nil, exD_cs, exLD, smLD]; rfl)
        exact hits_doneX hO' (.inl rfl) rfl rfl rfl rfl rfl ⟨rfl, rfl, trivial⟩ rfl
    · rw [if_neg hk] at hO
      change o = ocOf (LDw L) smD ((restK f (wordAt wEnd L i)).run wEnd L i) at hO
      rw [restK] at hO
      refine hits_cellD 2 5 (q' := .list 10 []) rfl nil_list ?_
      refine hits_cellD 2 6 (q' := .list 9 []) rfl nil_list ?_
      refine hits_cellD 2 7 (q' := .list 9 []) rfl nil_list ?_
      refine hits_drawn mixed ?_
      refine dq (f_move rfl (lt rfl)) rfl rfl ?_
      refine dq (f_callMP en152 rfl (simple_c b) rfl rfl (lt rfl)) rfl rfl ?_
      refine dq (f_fieldAddr rfl kf37_1 rfl (lt rfl)) rfl rfl ?_
      refine dq (f_load kd9 rfl rfl (lt rfl)) rfl rfl ?_
      refine dq (f_lookup mpk227 rfl rfl rfl h3.1 h3.2 (lt rfl)) rfl rfl ?_
      refine dq (f_move rfl (lt rfl)) rfl rfl ?_
      refine dq (f_extract rfl rfl (lt rfl)) rfl rfl ?_
      refine dq (f_extract rfl rfl (lt rfl)) rfl rfl ?_
      refine dq (f_alloc zc225 (lt rfl)) rfl rfl ?_
      refine dq (f_store kd225 rfl rfl rfl rfl rfl) rfl rfl ?_
      refine dq (f_assign rfl (lt rfl)) rfl rfl ?_
      refine dq_nil rfl ?_
      refine to_next ?_
      refine hits_seq ?_
      refine hits_region ?_
      refine sq (f_move rfl (lt rfl)) rfl rfl ?_
      refine sq (f_move rfl (lt rfl)) rfl rfl ?_
      refine sq_yes (f_fieldAddr rfl kf37_0 rfl (lt rfl)) rfl rfl rfl rfl (lt rfl) ?_
      refine sq_yes (f_load kd32 rfl rfl (lt rfl)) rfl rfl rfl rfl (lt rfl) ?_
      refine sq_yes (f_bin rfl rfl (bT (beq_eq_false_iff_ne.mpr (by omega))) (lt rfl)) rfl rfl rfl rfl (lt rfl) ?_
      refine sq (f_pick rfl rfl (lt rfl)) rfl rfl ?_
      refine hits_nil ?_
      refine to_next ?_
      refine hits_cond rfl (fun c0 => absurd c0 Bool.false_ne_true) (fun c0 => ?_)
      refine hits_skip ?_
      refine to_next ?_
      refine hits_seq ?_
      refine hits_block ?_
      refine hits_seq ?_
      refine hits_region ?_
      refine sq (f_move rfl (lt rfl)) rfl rfl ?_
      refine sq_pr hO hne (may_c hL hi [105, 102]) rfl en95 rfl rfl rfl rfl ⟨rfl, rfl, trivial⟩ rfl rfl (lt rfl) (fun _ _ hd h => And.intro hd (h)) (fun b2 j2 hq2 hO2 => ?_)
      replace hO := hO2
      clear hO2
      have hj2 := may_le hq2 hi
      cases b2
      · rw [if_neg Bool.false_ne_true] at hO
        refine sq (f_assign rfl (lt rfl)) rfl rfl ?_
        refine hits_nil ?_
        refine to_next ?_
        refine hits_cond rfl (fun c1 => absurd c1 Bool.false_ne_true) (fun c1 => ?_)
        refine hits_seq ?_
        refine hits_region ?_
        refine sq (f_move rfl (lt rfl)) rfl rfl ?_
        refine sq_pr hO hne (may_c hL hj2 [100, 105, 103, 101, 115, 116]) rfl en95 rfl rfl rfl rfl ⟨rfl, rfl, trivial⟩ rfl rfl (lt rfl) (fun _ _ hd h => And.intro hd (h)) (fun b3 j3 hq3 hO2 => ?_)
        replace hO := hO2
        clear hO2
        have hj3 := may_le hq3 hj2
        cases b3
        · rw [if_neg Bool.false_ne_true] at hO
          refine sq (f_assign rfl (lt rfl)) rfl rfl ?_
          refine hits_nil ?_
          refine to_next ?_
          refine hits_cond rfl (fun c3 => absurd c3 Bool.false_ne_true) (fun c3 => ?_)
          refine hits_skip ?_
          refine in_next ?_
          refine to_next ?_
          refine hits_seq ?_
          refine hits_region ?_
          refine sq (f_move rfl (lt rfl)) rfl rfl ?_
          refine sq_pr hO hne (owner_c hL hj3) rfl en154 rfl rfl rfl rfl ⟨rfl, rfl, trivial⟩ rfl rfl (lt rfl) (fun _ _ hd h => And.intro hd (h)) (fun s j4 hq4 hO2 => ?_)
          replace hO := hO2
          clear hO2
          have hj4 := (tame_owner hq4 hj3).2
          refine sq (f_fieldAddr rfl kf65_1 rfl (lt rfl)) rfl rfl ?_
          refine sq (f_store kd9 rfl rfl rfl rfl rfl) rfl rfl ?_
          refine hits_nil ?_
          refine to_next ?_
          refine hits_seq ?_
          refine hits_seq ?_
          by_cases hs : s = txMeta
          · rw [if_pos hs] at hO
            rw [setK] at hO
            refine hits_region ?_
            refine sq (f_fieldAddr rfl kf65_1 rfl (lt rfl)) rfl rfl ?_
            refine sq (f_load kd9 rfl rfl (lt rfl)) rfl rfl ?_
            refine sq (f_bin rfl rfl (bT ((congrArg not ((B_beq _ _).trans (decide_eq_true hs))))) (lt rfl)) rfl rfl ?_
            refine sq (f_move rfl (lt rfl)) rfl rfl ?_
            refine sq_no rfl rfl rfl rfl rfl (lt rfl) (lt rfl) ?_
            refine sq_no rfl rfl rfl rfl rfl (lt rfl) (lt rfl) ?_
            refine sq (f_pick rfl rfl (lt rfl)) rfl rfl ?_
            refine hits_nil ?_
            refine to_next ?_
            refine hits_cond rfl (fun c4 => absurd c4 Bool.false_ne_true) (fun c4 => ?_)
            refine hits_seq ?_
            refine hits_region ?_
            refine sq (f_move rfl (lt rfl)) rfl rfl ?_
            refine sq_pr hO hne (need_c (l := [46]) (ts := [[46]]) hL hj4 (by decide) (fields_g (l := [46]) (ts := [[46]]) (by decide +kernel) (by decide +kernel) (by decide +kernel))) rfl en83 rfl rfl rfl rfl ⟨rfl, rfl, trivial⟩ rfl rfl (lt rfl) (fun _ _ hd h => And.intro hd (h)) (fun um1 m1 g1 hO2 => ?_)
            replace hO := hO2
            clear hO2
            have hm1 := (tame_need _ g1 hj4).2
            refine hits_nil ?_
            refine to_next ?_
            refine hits_seq ?_
            refine hits_region ?_
            refine sq (f_move rfl (lt rfl)) rfl rfl ?_
            refine sq_pr hO hne (name_c hL hm1) rfl en82 rfl rfl rfl rfl ⟨rfl, rfl, trivial⟩ rfl rfl (lt rfl) (fun _ _ hd h => And.intro hd (h)) (fun t m2 g2 hO2 => ?_)
            replace hO := hO2
            clear hO2
            have hm2 := (eager_name g2 hm1).2
            refine sq (f_fieldAddr rfl kf65_0 rfl (lt rfl)) rfl rfl ?_
            refine sq (f_store kd63 rfl rfl rfl rfl rfl) rfl rfl ?_
            refine sq (f_fieldAddr rfl kf65_2 rfl (lt rfl)) rfl rfl ?_
            refine sq (f_store kd9 rfl rfl rfl rfl rfl) rfl rfl ?_
            refine hits_nil ?_
            refine to_next ?_
            refine hits_seq ?_
            refine hits_region ?_
            refine sq (f_move rfl (lt rfl)) rfl rfl ?_
            refine sq_pr hO hne (need_c (l := [61]) (ts := [[61]]) hL hm2 (by decide) (fields_g (l := [61]) (ts := [[61]]) (by decide +kernel) (by decide +kernel) (by decide +kernel))) rfl en83 rfl rfl rfl rfl ⟨rfl, rfl, trivial⟩ rfl rfl (lt rfl) (fun _ _ hd h => And.intro hd (h)) (fun um3 m3 g3 hO2 => ?_)
            replace hO := hO2
            clear hO2
            have hm3 := (tame_need _ g3 hm2).2
            refine hits_nil ?_
            refine to_next ?_
            refine hits_region ?_
            refine sq (f_move rfl (lt rfl)) rfl rfl ?_
            refine sq_pr hO hne ((hX f (Nat.le_refl _)).2.2.2 hm3) rfl en124 rfl rfl rfl rfl ⟨rfl, rfl, trivial⟩ rfl rfl (lt rfl) (fun _ _ hd h => And.intro hd (h)) (fun q m4 g4 hO2 => ?_)
            replace hO := hO2
            clear hO2
            have hm4 := (tame_ex _ _ g4 hm3).2
            obtain ⟨qop, qlw, qlh, qll, qnm, qfl, qn, qm, qar, qln⟩ := q
            rw [exD_cs]
            refine sq (f_buildSlice sk44 rfl rfl rfl rfl rfl rfl (by decide) (by decide) (lt rfl)) rfl rfl ?_
            refine sq (f_fieldAddr rfl kf65_5 rfl (lt rfl)) rfl rfl ?_
            refine sq (f_store kd44 rfl rfl rfl rfl rfl) rfl rfl ?_
            refine hits_nil ?_
            refine to_next ?_
            refine hits_seq ?_
            refine hits_region ?_
            refine sq (f_move rfl (lt rfl)) rfl rfl ?_
            refine sq_pr hO hne (need_c (l := [59]) (ts := [[59]]) hL hm4 (by decide) (fields_g (l := [59]) (ts := [[59]]) (by decide +kernel) (by decide +kernel) (by decide +kernel))) rfl en83 rfl rfl rfl rfl ⟨rfl, rfl, trivial⟩ rfl rfl (lt rfl) (fun _ _ hd h => And.intro hd (h)) (fun u m5 g5 hO2 => ?_)
            replace hO := hO2
            clear hO2
            refine hits_nil ?_
            refine to_next ?_
            refine hits_seq ?_
            refine hits_region ?_
            refine sq (f_load kd65 rfl rfl (lt rfl)) rfl rfl ?_
            refine sq (f_store kd65 rfl rfl rfl rfl rfl) rfl rfl ?_
            refine hits_nil ?_
            refine to_next ?_
            refine hits_ret ?_
            have hO' : o = .ret [LDw L, .sc (.int .i64 (m5 : Int))] (.agg [.sc (.int .u8 1), txD s, txD t, txD [], nD 0, .list 10 [.agg (exCs (Ex.mk qop qlw qlh qll qnm qfl qn qm qar qln))], .list 9 [], .list 9 [], nD (wordAt wEnd L i).ln]) := by rw [hO]; show Oc.ret _ (smD (.mk 1 s t [] 0 [Ex.mk qop qlw qlh qll qnm qfl qn qm qar qln] [] [] (wordAt wEnd L i).ln)) = _; rw [smD_cs]; first | rfl | (simp only [exCs, smCs, exDs_map, smDs_map, List.map_cons, List.map_nil, exD_cs, exLD, smLD]; done) | (simp only [exCs, smCs, exDs_map, smDs_map, List.map_cons, List.map_nil, exD_cs, exLD, smLD]; rfl)
            exact hits_doneX hO' (.inl rfl) rfl rfl rfl rfl rfl ⟨rfl, rfl, trivial⟩ rfl
          · rw [if_neg hs] at hO
            refine hits_region ?_
            refine sq (f_fieldAddr rfl kf65_1 rfl (lt rfl)) rfl rfl ?_
            refine sq (f_load kd9 rfl rfl (lt rfl)) rfl rfl ?_
            refine sq (f_bin rfl rfl (bT ((congrArg not ((B_beq _ _).trans (decide_eq_false hs))))) (lt rfl)) rfl rfl ?_
            refine sq (f_move rfl (lt rfl)) rfl rfl ?_
            refine sq_yes (f_move rfl (lt rfl)) rfl rfl rfl rfl (lt rfl) ?_
            refine sq_guard rfl rfl rfl (lt rfl) ?_
            refine sq_pr hO hne (may_c hL hj4 [40]) rfl en95 rfl rfl rfl rfl ⟨rfl, rfl, trivial⟩ rfl rfl (lt rfl) (fun _ _ hd h => And.intro hd (h)) (fun b5 j5 hq5 hO2 => ?_)
            replace hO := hO2
            clear hO2
            have hj5 := may_le hq5 hj4
            cases b5
            · rw [if_neg Bool.false_ne_true] at hO
              rw [setK] at hO
              refine sq (f_pick rfl rfl (lt rfl)) rfl rfl ?_
              refine hits_nil ?_
              refine to_next ?_
              refine hits_cond rfl (fun c4 => absurd c4 Bool.false_ne_true) (fun c4 => ?_)
              refine hits_seq ?_
              refine hits_region ?_
              refine sq (f_move rfl (lt rfl)) rfl rfl ?_
              refine sq_pr hO hne (need_c (l := [46]) (ts := [[46]]) hL hj5 (by decide) (fields_g (l := [46]) (ts := [[46]]) (by decide +kernel) (by decide +kernel) (by decide +kernel))) rfl en83 rfl rfl rfl rfl ⟨rfl, rfl, trivial⟩ rfl rfl (lt rfl) (fun _ _ hd h => And.intro hd (h)) (fun um1 m1 g1 hO2 => ?_)
              replace hO := hO2
              clear hO2
              have hm1 := (tame_need _ g1 hj5).2
              refine hits_nil ?_
              refine to_next ?_
              refine hits_seq ?_
              refine hits_region ?_
              refine sq (f_move rfl (lt rfl)) rfl rfl ?_
              refine sq_pr hO hne (name_c hL hm1) rfl en82 rfl rfl rfl rfl ⟨rfl, rfl, trivial⟩ rfl rfl (lt rfl) (fun _ _ hd h => And.intro hd (h)) (fun t m2 g2 hO2 => ?_)
              replace hO := hO2
              clear hO2
              have hm2 := (eager_name g2 hm1).2
              refine sq (f_fieldAddr rfl kf65_0 rfl (lt rfl)) rfl rfl ?_
              refine sq (f_store kd63 rfl rfl rfl rfl rfl) rfl rfl ?_
              refine sq (f_fieldAddr rfl kf65_2 rfl (lt rfl)) rfl rfl ?_
              refine sq (f_store kd9 rfl rfl rfl rfl rfl) rfl rfl ?_
              refine hits_nil ?_
              refine to_next ?_
              refine hits_seq ?_
              refine hits_region ?_
              refine sq (f_move rfl (lt rfl)) rfl rfl ?_
              refine sq_pr hO hne (need_c (l := [61]) (ts := [[61]]) hL hm2 (by decide) (fields_g (l := [61]) (ts := [[61]]) (by decide +kernel) (by decide +kernel) (by decide +kernel))) rfl en83 rfl rfl rfl rfl ⟨rfl, rfl, trivial⟩ rfl rfl (lt rfl) (fun _ _ hd h => And.intro hd (h)) (fun um3 m3 g3 hO2 => ?_)
              replace hO := hO2
              clear hO2
              have hm3 := (tame_need _ g3 hm2).2
              refine hits_nil ?_
              refine to_next ?_
              refine hits_region ?_
              refine sq (f_move rfl (lt rfl)) rfl rfl ?_
              refine sq_pr hO hne ((hX f (Nat.le_refl _)).2.2.2 hm3) rfl en124 rfl rfl rfl rfl ⟨rfl, rfl, trivial⟩ rfl rfl (lt rfl) (fun _ _ hd h => And.intro hd (h)) (fun q m4 g4 hO2 => ?_)
              replace hO := hO2
              clear hO2
              have hm4 := (tame_ex _ _ g4 hm3).2
              obtain ⟨qop, qlw, qlh, qll, qnm, qfl, qn, qm, qar, qln⟩ := q
              rw [exD_cs]
              refine sq (f_buildSlice sk44 rfl rfl rfl rfl rfl rfl (by decide) (by decide) (lt rfl)) rfl rfl ?_
              refine sq (f_fieldAddr rfl kf65_5 rfl (lt rfl)) rfl rfl ?_
              refine sq (f_store kd44 rfl rfl rfl rfl rfl) rfl rfl ?_
              refine hits_nil ?_
              refine to_next ?_
              refine hits_seq ?_
              refine hits_region ?_
              refine sq (f_move rfl (lt rfl)) rfl rfl ?_
              refine sq_pr hO hne (need_c (l := [59]) (ts := [[59]]) hL hm4 (by decide) (fields_g (l := [59]) (ts := [[59]]) (by decide +kernel) (by decide +kernel) (by decide +kernel))) rfl en83 rfl rfl rfl rfl ⟨rfl, rfl, trivial⟩ rfl rfl (lt rfl) (fun _ _ hd h => And.intro hd (h)) (fun u m5 g5 hO2 => ?_)
              replace hO := hO2
              clear hO2
              refine hits_nil ?_
              refine to_next ?_
              refine hits_seq ?_
              refine hits_region ?_
              refine sq (f_load kd65 rfl rfl (lt rfl)) rfl rfl ?_
              refine sq (f_store kd65 rfl rfl rfl rfl rfl) rfl rfl ?_
              refine hits_nil ?_
              refine to_next ?_
              refine hits_ret ?_
              have hO' : o = .ret [LDw L, .sc (.int .i64 (m5 : Int))] (.agg [.sc (.int .u8 1), txD s, txD t, txD [], nD 0, .list 10 [.agg (exCs (Ex.mk qop qlw qlh qll qnm qfl qn qm qar qln))], .list 9 [], .list 9 [], nD (wordAt wEnd L i).ln]) := by rw [hO]; show Oc.ret _ (smD (.mk 1 s t [] 0 [Ex.mk qop qlw qlh qll qnm qfl qn qm qar qln] [] [] (wordAt wEnd L i).ln)) = _; rw [smD_cs]; first | rfl | (simp only [exCs, smCs, exDs_map, smDs_map, List.map_cons, List.map_nil, exD_cs, exLD, smLD]; done) | (simp only [exCs, smCs, exDs_map, smDs_map, List.map_cons, List.map_nil, exD_cs, exLD, smLD]; rfl)
              exact hits_doneX hO' (.inl rfl) rfl rfl rfl rfl rfl ⟨rfl, rfl, trivial⟩ rfl
            · rw [if_pos rfl] at hO
              refine sq (f_pick rfl rfl (lt rfl)) rfl rfl ?_
              refine hits_nil ?_
              refine to_next ?_
              refine hits_cond rfl (fun c4 => ?_) (fun c4 => absurd c4 Bool.false_ne_true.symm)
              refine hits_region ?_
              refine sq (f_move rfl (lt rfl)) rfl rfl ?_
              refine sq (f_move rfl (lt rfl)) rfl rfl ?_
              refine sq (f_methodVal rfl rfl rfl (lt rfl)) rfl rfl ?_
              refine sq_pr hO hne (rowx_c hL hj5 [41] (fields_g (l := [41]) (ts := [[41]]) (by decide +kernel) (by decide +kernel) (by decide +kernel)) f (fun g hg => (hX g hg).2.2.2)) rfl en155 rfl rfl rfl rfl ⟨rfl, rfl, trivial⟩ rfl rfl (lt rfl) (fun _ _ hd h => And.intro hd (h)) (fun l m1 g1 hO2 => ?_)
              replace hO := hO2
              clear hO2
              have hm1 := (tame_bind (tame_may _) (fun c => tame_ite (tame_ret _) (tame_exR _ _ _)) g1 hj5).2
              refine sq (f_fieldAddr rfl kf65_0 rfl (lt rfl)) rfl rfl ?_
              refine sq (f_store kd63 rfl rfl rfl rfl rfl) rfl rfl ?_
              refine sq (f_fieldAddr rfl kf65_5 rfl (lt rfl)) rfl rfl ?_
              refine sq (f_store kd44 rfl rfl rfl rfl rfl) rfl rfl ?_
              refine hits_nil ?_
              refine to_next ?_
              refine hits_seq ?_
              refine hits_region ?_
              refine sq (f_move rfl (lt rfl)) rfl rfl ?_
              refine sq_pr hO hne (need_c (l := [59]) (ts := [[59]]) hL hm1 (by decide) (fields_g (l := [59]) (ts := [[59]]) (by decide +kernel) (by decide +kernel) (by decide +kernel))) rfl en83 rfl rfl rfl rfl ⟨rfl, rfl, trivial⟩ rfl rfl (lt rfl) (fun _ _ hd h => And.intro hd (h)) (fun u m2 g2 hO2 => ?_)
              replace hO := hO2
              clear hO2
              refine hits_nil ?_
              refine to_next ?_
              refine hits_seq ?_
              refine hits_region ?_
              refine sq (f_load kd65 rfl rfl (lt rfl)) rfl rfl ?_
              refine sq (f_store kd65 rfl rfl rfl rfl rfl) rfl rfl ?_
              refine hits_nil ?_
              refine to_next ?_
              refine hits_ret ?_
              have hO' : o = .ret [LDw L, .sc (.int .i64 (m2 : Int))] (.agg [.sc (.int .u8 4), txD s, txD [], txD [], nD 0, exLD l, .list 9 [], .list 9 [], nD (wordAt wEnd L i).ln]) := by rw [hO]; show Oc.ret _ (smD (.mk 4 s [] [] 0 l [] [] (wordAt wEnd L i).ln)) = _; rw [smD_cs]; first | rfl | (simp only [exCs, smCs, exDs_map, smDs_map, List.map_cons, List.map_nil, exD_cs, exLD, smLD]; done) | (simp only [exCs, smCs, exDs_map, smDs_map, List.map_cons, List.map_nil, exD_cs, exLD, smLD]; rfl)
              exact hits_doneX hO' (.inl rfl) rfl rfl rfl rfl rfl ⟨rfl, rfl, trivial⟩ rfl
        · rw [if_pos rfl] at hO
          refine sq (f_assign rfl (lt rfl)) rfl rfl ?_
          refine hits_nil ?_
          refine to_next ?_
          refine hits_cond rfl (fun c3 => ?_) (fun c3 => absurd c3 Bool.false_ne_true.symm)
          refine hits_seq ?_
          refine hits_region ?_
          refine sq (f_move rfl (lt rfl)) rfl rfl ?_
          refine sq (f_move rfl (lt rfl)) rfl rfl ?_
          refine sq (f_methodVal rfl rfl rfl (lt rfl)) rfl rfl ?_
          refine sq_pr hO hne (somex_c hL hj3 [59] (fields_g (l := [59]) (ts := [[59]]) (by decide +kernel) (by decide +kernel) (by decide +kernel)) f (fun g hg => (hX g hg).2.2.2)) rfl en153 rfl rfl rfl rfl ⟨rfl, rfl, trivial⟩ rfl rfl (lt rfl) (fun _ _ hd h => And.intro hd (h)) (fun l m1 g1 hO2 => ?_)
          replace hO := hO2
          clear hO2
          have hm1 := (tame_exR _ _ _ g1 hj3).2
          refine sq (f_fieldAddr rfl kf65_0 rfl (lt rfl)) rfl rfl ?_
          refine sq (f_store kd63 rfl rfl rfl rfl rfl) rfl rfl ?_
          refine sq (f_fieldAddr rfl kf65_5 rfl (lt rfl)) rfl rfl ?_
          refine sq (f_store kd44 rfl rfl rfl rfl rfl) rfl rfl ?_
          refine hits_nil ?_
          refine to_next ?_
          refine hits_seq ?_
          refine hits_region ?_
          refine sq (f_load kd65 rfl rfl (lt rfl)) rfl rfl ?_
          refine sq (f_store kd65 rfl rfl rfl rfl rfl) rfl rfl ?_
          refine hits_nil ?_
          refine to_next ?_
          refine hits_ret ?_
          refine in_ret ?_
          refine to_ret ?_
          have hO' : o = .ret [LDw L, .sc (.int .i64 (m1 : Int))] (.agg [.sc (.int .u8 13), txD [], txD [], txD [], nD 0, exLD l, .list 9 [], .list 9 [], nD (wordAt wEnd L i).ln]) := by rw [hO]; show Oc.ret _ (smD (.mk 13 [] [] [] 0 l [] [] (wordAt wEnd L i).ln)) = _; rw [smD_cs]; first | rfl | (simp only [exCs, smCs, exDs_map, smDs_map, List.map_cons, List.map_nil, exD_cs, exLD, smLD]; done) | (simp only [exCs, smCs, exDs_map, smDs_map, List.map_cons, List.map_nil, exD_cs, exLD, smLD]; rfl)
          exact hits_doneX hO' (.inl rfl) rfl rfl rfl rfl rfl ⟨rfl, rfl, trivial⟩ rfl
      · rw [if_pos rfl] at hO
        refine sq (f_assign rfl (lt rfl)) rfl rfl ?_
        refine hits_nil ?_
        refine to_next ?_
        refine hits_cond rfl (fun c1 => ?_) (fun c1 => absurd c1 Bool.false_ne_true.symm)
        refine hits_seq ?_
        refine hits_region ?_
        refine sq (f_move rfl (lt rfl)) rfl rfl ?_
        refine sq_pr hO hne ((hX f (Nat.le_refl _)).2.2.2 hj2) rfl en124 rfl rfl rfl rfl ⟨rfl, rfl, trivial⟩ rfl rfl (lt rfl) (fun _ _ hd h => And.intro hd (h)) (fun q m1 g1 hO2 => ?_)
        replace hO := hO2
        clear hO2
        have hm1 := (tame_ex _ _ g1 hj2).2
        obtain ⟨qop, qlw, qlh, qll, qnm, qfl, qn, qm, qar, qln⟩ := q
        rw [exD_cs]
        refine sq (f_buildSlice sk44 rfl rfl rfl rfl rfl rfl (by decide) (by decide) (lt rfl)) rfl rfl ?_
        refine sq (f_fieldAddr rfl kf65_0 rfl (lt rfl)) rfl rfl ?_
        refine sq (f_store kd63 rfl rfl rfl rfl rfl) rfl rfl ?_
        refine sq (f_fieldAddr rfl kf65_5 rfl (lt rfl)) rfl rfl ?_
        refine sq (f_store kd44 rfl rfl rfl rfl rfl) rfl rfl ?_
        refine hits_nil ?_
        refine to_next ?_
        refine hits_seq ?_
        refine hits_region ?_
        refine sq (f_move rfl (lt rfl)) rfl rfl ?_
        refine sq_pr hO hne (hB hm1) rfl en91 rfl rfl rfl rfl ⟨rfl, rfl, trivial⟩ rfl rfl (lt rfl) (fun _ _ hd h => And.intro hd (h)) (fun l m2 g2 hO2 => ?_)
        replace hO := hO2
        clear hO2
        have hm2 := (tame_bl _ g2 hm1).2
        refine sq (f_fieldAddr rfl kf65_6 rfl (lt rfl)) rfl rfl ?_
        refine sq (f_store kd60 rfl rfl rfl rfl rfl) rfl rfl ?_
        refine hits_nil ?_
        refine to_next ?_
        refine hits_seq ?_
        refine hits_seq ?_
        refine hits_region ?_
        refine sq (f_move rfl (lt rfl)) rfl rfl ?_
        refine sq_pr hO hne (may_c hL hm2 [101, 108, 115, 101]) rfl en95 rfl rfl rfl rfl ⟨rfl, rfl, trivial⟩ rfl rfl (lt rfl) (fun _ _ hd h => And.intro hd (h)) (fun b3 j3 hq3 hO2 => ?_)
        replace hO := hO2
        clear hO2
        have hj3 := may_le hq3 hm2
        cases b3
        · rw [if_neg Bool.false_ne_true] at hO
          refine hits_nil ?_
          refine to_next ?_
          refine hits_cond rfl (fun c2 => absurd c2 Bool.false_ne_true) (fun c2 => ?_)
          refine hits_skip ?_
          refine to_next ?_
          refine hits_seq ?_
          refine hits_region ?_
          refine sq (f_load kd65 rfl rfl (lt rfl)) rfl rfl ?_
          refine sq (f_store kd65 rfl rfl rfl rfl rfl) rfl rfl ?_
          refine hits_nil ?_
          refine to_next ?_
          refine hits_ret ?_
          refine in_ret ?_
          refine to_ret ?_
          have hO' : o = .ret [LDw L, .sc (.int .i64 (j3 : Int))] (.agg [.sc (.int .u8 2), txD [], txD [], txD [], nD 0, .list 10 [.agg (exCs (Ex.mk qop qlw qlh qll qnm qfl qn qm qar qln))], smLD l, .list 9 [], nD (wordAt wEnd L i).ln]) := by rw [hO]; show Oc.ret _ (smD (.mk 2 [] [] [] 0 [Ex.mk qop qlw qlh qll qnm qfl qn qm qar qln] l [] (wordAt wEnd L i).ln)) = _; rw [smD_cs]; first | rfl | (simp only [exCs, smCs, exDs_map, smDs_map, List.map_cons, List.map_nil, exD_cs, exLD, smLD]; done) | (simp only [exCs, smCs, exDs_map, smDs_map, List.map_cons, List.map_nil, exD_cs, exLD, smLD]; rfl)
          exact hits_doneX hO' (.inl rfl) rfl rfl rfl rfl rfl ⟨rfl, rfl, trivial⟩ rfl
        · rw [if_pos rfl] at hO
          refine hits_nil ?_
          refine to_next ?_
          refine hits_cond rfl (fun c2 => ?_) (fun c2 => absurd c2 Bool.false_ne_true.symm)
          refine hits_region ?_
          refine sq (f_move rfl (lt rfl)) rfl rfl ?_
          refine sq_pr hO hne (hB hj3) rfl en91 rfl rfl rfl rfl ⟨rfl, rfl, trivial⟩ rfl rfl (lt rfl) (fun _ _ hd h => And.intro hd (h)) (fun l2 m3 g3 hO2 => ?_)
          replace hO := hO2
          clear hO2
          have hm3 := (tame_bl _ g3 hj3).2
          refine sq (f_fieldAddr rfl kf65_7 rfl (lt rfl)) rfl rfl ?_
          refine sq (f_store kd60 rfl rfl rfl rfl rfl) rfl rfl ?_
          refine hits_nil ?_
          refine to_next ?_
          refine hits_seq ?_
          refine hits_region ?_
          refine sq (f_load kd65 rfl rfl (lt rfl)) rfl rfl ?_
          refine sq (f_store kd65 rfl rfl rfl rfl rfl) rfl rfl ?_
          refine hits_nil ?_
          refine to_next ?_
          refine hits_ret ?_
          refine in_ret ?_
          refine to_ret ?_
          have hO' : o = .ret [LDw L, .sc (.int .i64 (m3 : Int))] (.agg [.sc (.int .u8 2), txD [], txD [], txD [], nD 0, .list 10 [.agg (exCs (Ex.mk qop qlw qlh qll qnm qfl qn qm qar qln))], smLD l, smLD l2, nD (wordAt wEnd L i).ln]) := by rw [hO]; show Oc.ret _ (smD (.mk 2 [] [] [] 0 [Ex.mk qop qlw qlh qll qnm qfl qn qm qar qln] l l2 (wordAt wEnd L i).ln)) = _; rw [smD_cs]; first | rfl | (simp only [exCs, smCs, exDs_map, smDs_map, List.map_cons, List.map_nil, exD_cs, exLD, smLD]; done) | (simp only [exCs, smCs, exDs_map, smDs_map, List.map_cons, List.map_nil, exD_cs, exLD, smLD]; rfl)
          exact hits_doneX hO' (.inl rfl) rfl rfl rfl rfl rfl ⟨rfl, rfl, trivial⟩ rfl
set_option maxHeartbeats 1000000 in
set_option maxRecDepth 100000 in
theorem eachs_c {L : List Wd} {i : Nat} (hL : L.length ≤ 65536) (hi : i ≤ L.length) (f : Nat) (IH : ∀ g, g ≤ f → ∀ {i : Nat}, i ≤ L.length → CallsX Tryz.prog Lw pvN 128 [LDw L, .sc (.int .i64 (i : Int))] (fun _ => []) (oS L g i)) : CallsX Tryz.prog Lw pvN 127 [LDw L, .sc (.int .i64 (i : Int))] (fun b => [.sc (.func (.func 128) #[.pointer (some ⟨b, 0, none⟩)] #[])]) (ocOf (LDw L) (smLD) ((smsP (f + 1) []).run wEnd L i)) := by
  refine callsX_of (m := 1) Tryz.func127 rfl Tryz.ntmps127 (fun _ => rfl) rfl rfl fun hne w0 S0 b stab => ?_
  obtain ⟨o, hO⟩ : ∃ o, o = ocOf (LDw L) (smLD) ((smsP (f + 1) []).run wEnd L i) := ⟨_, rfl⟩
  rw [← hO] at hne ⊢
  refine hits_seq ?_
  refine hits_region ?_
  refine sq (f_assign rfl (lt rfl)) rfl rfl ?_
  refine hits_nil ?_
  refine to_next ?_
  refine hits_seq ?_
  refine hits_block ?_
  refine hits_own 4 4 9 rfl ?_
  refine hits_loop (fun x : Nat × List Sm × Nat => [(.slot 0, some (.ptr 1000000 0)), (.box 1000000, some (.ptr 1000000 0)), (.cell 1000000 0, some (.d (LDw L))), (.cell 1000000 1, some (.d (.sc (.int .i64 (x.2.2 : Int))))), (.slot 1, some (.d (.sc (.func (.func 128) #[.pointer (some ⟨b, 0, none⟩)] #[])))), (.slot 4, some (.own 4 9 (x.2.1.map smD))), (.tip 4, some (.ptr 4 0))]) (fun x : Nat × List Sm × Nat => x.1 ≤ f + 1 ∧ x.2.1.length ≤ x.2.2 ∧ x.2.2 ≤ L.length ∧ o = ocOf (LDw L) smLD ((smsP x.1 x.2.1).run wEnd L x.2.2)) (fun x : Nat × List Sm × Nat => x.1) (f + 1, [], i) ⟨Nat.le_refl _, Nat.zero_le _, hi, hO⟩ ⟨rfl, rfl, rfl, rfl, rfl, rfl, rfl, trivial⟩ rfl ?_
  intro x hx0
  obtain ⟨g, acc, i'⟩ := x
  obtain ⟨hg, ha, hi', hO⟩ := hx0
  change g ≤ f + 1 at hg
  change acc.length ≤ i' at ha
  change i' ≤ L.length at hi'
  change o = ocOf (LDw L) smLD ((smsP g acc).run wEnd L i') at hO
  change Hits _ [(.slot 0, some (.ptr 1000000 0)), (.box 1000000, some (.ptr 1000000 0)), (.cell 1000000 0, some (.d (LDw L))), (.cell 1000000 1, some (.d (.sc (.int .i64 (i' : Int))))), (.slot 1, some (.d (.sc (.func (.func 128) #[.pointer (some ⟨b, 0, none⟩)] #[])))), (.slot 4, some (.own 4 9 (acc.map smD))), (.tip 4, some (.ptr 4 0))] _
  cases g with
  | zero => rw [smsP] at hO; exact absurd hO hne
  | succ g =>
  rw [smsP] at hO
  refine hits_seq ?_
  refine hits_seq ?_
  refine hits_region ?_
  refine sq (f_move rfl (lt rfl)) rfl rfl ?_
  refine sq_pr hO hne (may_c hL hi' [125]) rfl en95 rfl rfl rfl rfl ⟨rfl, rfl, trivial⟩ rfl rfl (lt rfl) (fun _ _ hd h => And.intro hd (h)) (fun b2 j hq hO2 => ?_)
  replace hO := hO2
  clear hO2
  have hj := may_le hq hi'
  have hjj := may_at hq
  cases b2
  · rw [if_neg Bool.false_ne_true] at hO
    have hji : j = i' := by rcases hjj with ⟨h, _⟩ | ⟨_, h⟩; cases h; exact h
    refine sq (f_un rfl rfl (lt rfl)) rfl rfl ?_
    refine hits_nil ?_
    refine to_next ?_
    refine hits_cond rfl (fun c0 => ?_) (fun c0 => absurd c0 Bool.false_ne_true.symm)
    refine hits_skip ?_
    refine to_next ?_
    refine hits_block ?_
    refine hits_region ?_
    refine sq (f_move rfl (lt rfl)) rfl rfl ?_
    refine sq (f_move rfl (lt rfl)) rfl rfl ?_
    refine sq_prV hO hne (IH g (by omega) hj) rfl rfl rfl rfl ⟨rfl, rfl, trivial⟩ rfl rfl (lt rfl) (fun _ _ hd h => And.intro hd (h)) (fun q j2 hq2 hO2 => ?_)
    replace hO := hO2
    clear hO2
    have hj2 := eager_sm _ hq2 hj
    obtain ⟨kd, nm, fl, arr, n, ar, bd, el, ln⟩ := q
    rw [smD_cs]
    refine sq (f_buildSlice sk60 rfl rfl rfl rfl rfl rfl (by decide) (by decide) (lt rfl)) rfl rfl ?_
    refine sq_append rfl rfl rfl rfl apk60 (by simp only [snds, List.length_map, List.length_cons, List.length_nil]; omega) (by simp only [snds, List.length_map, List.length_cons, List.length_nil]; omega) rfl (lt rfl) ?_
    refine sq (f_assign rfl (lt rfl)) rfl rfl ?_
    refine hits_nil ?_
    refine in_next ?_
    refine to_next ?_
    refine round_end (g, acc ++ [Sm.mk kd nm fl arr n ar bd el ln], j2) ⟨by simp only; omega, by simp only [List.length_append, List.length_cons, List.length_nil]; omega, hj2.2, hO⟩ (by simp only; omega) ⟨rfl, rfl, rfl, rfl, rfl, (by show _ = some (V.own 4 9 ((acc ++ [Sm.mk kd nm fl arr n ar bd el ln]).map smD)); rw [List.map_append, List.map_cons, List.map_nil, smD_cs]; rfl), rfl, trivial⟩ rfl
  · rw [if_pos rfl] at hO
    refine sq (f_un rfl rfl (lt rfl)) rfl rfl ?_
    refine hits_nil ?_
    refine to_next ?_
    refine hits_cond rfl (fun c0 => absurd c0 Bool.false_ne_true) (fun c0 => ?_)
    refine hits_exit ?_
    refine to_exit ?_
    refine to_exit ?_
    refine in_hit rfl ?_
    refine to_next ?_
    refine hits_seq ?_
    refine hits_region ?_
    refine sq (f_move rfl (lt rfl)) rfl rfl ?_
    refine sq (f_assign rfl (lt rfl)) rfl rfl ?_
    refine hits_nil ?_
    refine to_next ?_
    refine hits_ret ?_
    exact hits_doneX hO (.inl rfl) rfl rfl rfl rfl rfl ⟨rfl, rfl, trivial⟩ rfl
set_option maxRecDepth 100000 in
theorem block_c {L : List Wd} {i : Nat} (hL : L.length ≤ 65536) (hi : i ≤ L.length) {f : Nat} (hE : ∀ {i : Nat}, i ≤ L.length → CallsX Tryz.prog Lw pvN 127 [LDw L, .sc (.int .i64 (i : Int))] (fun b => [.sc (.func (.func 128) #[.pointer (some ⟨b, 0, none⟩)] #[])]) (ocOf (LDw L) smLD ((smsP f []).run wEnd L i))) : CallsX Tryz.prog Lw pvN 91 [LDw L, .sc (.int .i64 (i : Int))] (fun b => []) (ocOf (LDw L) (smLD) ((blP (f + 1)).run wEnd L i)) := by
  refine callsX_of (m := 0) Tryz.func91 rfl Tryz.ntmps91 (fun _ => rfl) rfl rfl fun hne w0 S0 b stab => ?_
  obtain ⟨o, hO⟩ : ∃ o, o = ocOf (LDw L) (smLD) ((blP (f + 1)).run wEnd L i) := ⟨_, rfl⟩
  rw [← hO] at hne ⊢
  rw [blP] at hO
  have hO : o = ocOf (LDw L) smLD (((needP [[123]]).bind fun _ => (smsP f []).bind .ret).run wEnd L i) := by rw [hO, bind_ret]
  refine hits_seq ?_
  refine hits_region ?_
  refine sq (f_assign rfl (lt rfl)) rfl rfl ?_
  refine hits_nil ?_
  refine to_next ?_
  refine hits_seq ?_
  refine hits_region ?_
  refine sq (f_move rfl (lt rfl)) rfl rfl ?_
  refine sq_pr hO hne (need_c (l := [123]) (ts := [[123]]) hL hi (by decide) (fields_g (l := [123]) (ts := [[123]]) (by decide +kernel) (by decide +kernel) (by decide +kernel))) rfl en83 rfl rfl rfl rfl ⟨rfl, rfl, trivial⟩ rfl rfl (lt rfl) (fun _ _ hd h => And.intro hd (h)) (fun uj j hq hO2 => ?_)
  replace hO := hO2
  clear hO2
  have hj := (tame_need _ hq hi).2
  refine hits_nil ?_
  refine to_next ?_
  refine hits_seq ?_
  refine hits_region ?_
  refine sq (f_move rfl (lt rfl)) rfl rfl ?_
  refine sq (f_move rfl (lt rfl)) rfl rfl ?_
  refine sq (f_methodVal rfl rfl rfl (lt rfl)) rfl rfl ?_
  refine sq_pr hO hne (hE hj) rfl en127 rfl rfl rfl rfl ⟨rfl, rfl, trivial⟩ rfl rfl (lt rfl) (fun _ _ hd h => And.intro hd (h)) (fun l j2 hq2 hO2 => ?_)
  replace hO := hO2
  clear hO2
  refine sq (f_assign rfl (lt rfl)) rfl rfl ?_
  refine hits_nil ?_
  refine to_next ?_
  refine hits_ret ?_
  exact hits_doneX hO (.inl rfl) rfl rfl rfl rfl rfl ⟨rfl, rfl, trivial⟩ rfl
theorem sm_all {L : List Wd} (hL : L.length ≤ 65536) (hS : Small L) : ∀ f g, g ≤ f → (∀ {i : Nat}, i ≤ L.length → CallsX Tryz.prog Lw pvN 128 [LDw L, .sc (.int .i64 (i : Int))] (fun _ => []) (oS L g i)) ∧ (∀ {i : Nat}, i ≤ L.length → CallsX Tryz.prog Lw pvN 91 [LDw L, .sc (.int .i64 (i : Int))] (fun _ => []) (oB L g i))
  | 0, g, hg => by
    obtain rfl : g = 0 := by omega
    exact ⟨fun {i} _ => by rw [show oS L 0 i = .any from by unfold oS; rw [smP]; rfl]; exact call_any, fun {i} _ => by rw [show oB L 0 i = .any from by unfold oB; rw [blP]; rfl]; exact call_any⟩
  | f + 1, g, hg => by
    by_cases h : g ≤ f
    · exact sm_all hL hS f g h
    obtain rfl : g = f + 1 := by omega
    have ih := sm_all hL hS f
    refine ⟨fun hi => stmt_c hL hi hS (fun g hg => ex_all hL hS f g hg) (ih f (Nat.le_refl _)).2, fun hi => block_c hL hi fun {i} hi => ?_⟩
    cases f with
    | zero => rw [show ocOf (LDw L) smLD ((smsP 0 []).run wEnd L i) = .any from by rw [smsP]; rfl]; exact call_any
    | succ f => exact eachs_c hL hi f fun g hg => (ih g (by omega)).1
end Go.Proofs.YtbgeejmhkmjfdaaGreatDoor.Ln
