/- The parser's small methods over data. -/
import Derived.Test.YtbgeejmhkmjfdaaGreatDoorAbWords
import Derived.Test.YtbgeejmhkmjfdaaGreatDoorAbPan
namespace Go.Proofs.YtbgeejmhkmjfdaaGreatDoor.Ln
open Go Go.RowKit Go.Ab Go.Proofs 
set_option linter.unusedVariables false
set_option linter.unusedSimpArgs false
theorem nif84 : nif Tryz.prog 84 = true := by kernel_rfl
theorem un22 : Tryz.prog.underlying 22 = some (.slice 37) := by kernel_rfl
theorem kf68_1 : kf Tryz.prog 68 1 = some 1 := by kernel_rfl
theorem kf68_0 : kf Tryz.prog 68 0 = some 0 := by kernel_rfl
theorem kd22 : kd Tryz.prog 22 = some (false, 1) := by kernel_rfl
theorem en31 : enters Tryz.prog 31 = true := by kernel_rfl
theorem bu84 : bk Tryz.prog 84 = some ([], []) := by kernel_rfl
theorem en59 : enters Tryz.prog 59 = true := by kernel_rfl
theorem en131 : enters Tryz.prog 131 = true := by kernel_rfl
theorem en164 : enters Tryz.prog 164 = true := by kernel_rfl
theorem en149 : enters Tryz.prog 149 = true := by kernel_rfl
theorem en95 : enters Tryz.prog 95 = true := by kernel_rfl
theorem en122 : enters Tryz.prog 122 = true := by kernel_rfl
theorem fp37_1 : fp Tryz.prog 37 1 = some (1, false, 1) := by kernel_rfl
theorem en33 : enters Tryz.prog 33 = true := by kernel_rfl
theorem fp37_0 : fp Tryz.prog 37 0 = some (0, false, 1) := by kernel_rfl
theorem fp37_2 : fp Tryz.prog 37 2 = some (2, true, 3) := by kernel_rfl
theorem fp35_2 : fp Tryz.prog 35 2 = some (2, false, 1) := by kernel_rfl
theorem us33 : (Tryz.prog.underlying 33).isSome = true := by kernel_rfl
theorem un3 : Tryz.prog.underlying 3 = some (.int .i64) := by kernel_rfl
theorem en82 : enters Tryz.prog 82 = true := by kernel_rfl
theorem en154 : enters Tryz.prog 154 = true := by kernel_rfl
theorem en83 : enters Tryz.prog 83 = true := by kernel_rfl
theorem zc150 : zc Tryz.prog 150 = some [.string ByteArray.empty, .int .i64 0] := by kernel_rfl
theorem kf150_0 : kf Tryz.prog 150 0 = some 0 := by kernel_rfl
theorem en87 : enters Tryz.prog 87 = true := by kernel_rfl
theorem kf150_1 : kf Tryz.prog 150 1 = some 1 := by kernel_rfl
theorem kd150 : kd Tryz.prog 150 = some (true, 2) := by kernel_rfl
abbrev Tx := List UInt8
abbrev PW (α : Type) := Pr Wd α
def wEnd : Wd := ⟨0, [], 0, 0, 0, 0⟩
def keyWords : List Tx := [[104, 101, 97, 100, 101, 114], [109, 101, 116, 97], [114, 101, 103, 105, 115, 116, 101, 114], [99, 111, 117, 110, 116, 101, 114], [109, 101, 116, 101, 114], [112, 97, 114, 115, 101, 114], [97, 99, 116, 105, 111, 110], [116, 97, 98, 108, 101], [99, 111, 110, 116, 114, 111, 108], [100, 101, 112, 97, 114, 115, 101, 114], [107, 101, 121], [97, 99, 116, 105, 111, 110, 115], [100, 101, 102, 97, 117, 108, 116], [115, 105, 122, 101], [116, 97, 107, 101], [103, 111], [115, 101, 108, 101, 99, 116], [101, 108, 115, 101], [101, 120, 97, 99, 116], [112, 114, 101, 102, 105, 120], [109, 97, 115, 107], [114, 97, 110, 103, 101], [105, 102], [97, 112, 112, 108, 121], [109, 97, 107, 101], [103, 111, 110, 101], [99, 111, 117, 110, 116], [114, 101, 97, 100], [119, 114, 105, 116, 101], [114, 97, 110, 100, 111, 109], [100, 114, 111, 112], [100, 105, 103, 101, 115, 116], [99, 108, 111, 110, 101], [97, 103, 97, 105, 110], [114, 111, 117, 110, 100], [118, 97, 108, 105, 100], [99, 97, 115, 116], [104, 97, 115, 104]]
def keyB (s : Tx) : Bool := keyWords.contains s
def mayP (s : Tx) : PW Bool := .look fun w => if (w.k = 4 ∨ w.k = 1) ∧ w.s = s then .take (.ret true) else .ret false
def needP : List Tx → PW Unit
  | [] => .ret ()
  | s :: r => (mayP s).bind fun b => if b = true then needP r else .bad
def mustP (c : Bool) : PW Wd := if c = true then .look fun w => .take (.ret w) else .bad
def nameP : PW Tx := .look fun w => (mustP (decide (w.k = 1) && !keyB w.s)).bind fun x => .ret x.s
def wholeP : PW Nat := .look fun w => (mustP (decide (w.k = 2))).bind fun x => .ret x.lo
def litP : PW (Nat × Nat × Nat) := .look fun w => (mustP (decide (w.k = 3))).bind fun x => .ret (x.w, x.hi, x.lo)
def txMeta : Tx := [109, 101, 116, 97]
def ownerP : PW Tx := (mayP txMeta).bind fun b => if b = true then .ret txMeta else nameP
def fieldP : PW (Tx × Tx) := ownerP.bind fun a => (needP [[46]]).bind fun _ => nameP.bind fun b => .ret (a, b)
def typedP : PW (Tx × Nat) := nameP.bind fun a => wholeP.bind fun n => .ret (a, n)
def someP {α : Type} (p : PW α) (e : Tx) : Nat → List α → PW (List α)
  | 0, _ => .oof
  | f + 1, acc => p.bind fun x => (mayP [44]).bind fun b => if b = true then someP p e f (acc ++ [x]) else (needP [e]).bind fun _ => .ret (acc ++ [x])
def rowP {α : Type} (p : PW α) (e : Tx) (f : Nat) : PW (List α) := (mayP e).bind fun b => if b = true then .ret [] else someP p e f []
def eachP {α : Type} (p : PW α) : Nat → List α → PW (List α)
  | 0, _ => .oof
  | f + 1, acc => (mayP [125]).bind fun b => if b = true then .ret acc else p.bind fun x => eachP p f (acc ++ [x])
def endedP {α : Type} (p : PW α) : PW α := p.bind fun x => (needP [[59]]).bind fun _ => .ret x
inductive Ex where
  | mk (op : Nat) (lw lh ll : Nat) (name field : Tx) (n m : Nat) (args : List Ex) (line : Nat)
inductive Sm where
  | mk (kind : Nat) (name field array : Tx) (n : Nat) (args : List Ex) (body els : List Sm) (line : Nat)
def twoOf (s : Tx) : Option (Nat × Nat) := [([124, 124], 22, 0), ([38, 38], 21, 1), ([61, 61], 17, 2), ([33, 61], 18, 2), ([60], 19, 2), ([60, 61], 20, 2), ([38], 8, 3), ([124], 9, 3), ([94], 10, 3), ([43], 5, 4), ([45], 6, 4), ([43, 43], 14, 5), ([42], 7, 6), ([60, 60], 12, 7), ([62, 62], 13, 7)].findSome? fun p => if p.1 = s then some p.2 else none
def exUn (op : Nat) (args : List Ex) (line : Nat) : Ex := .mk op 0 0 0 [] [] 0 0 args line
mutual
/-- So tightly at least (0 to 7); 8: behind ~; 9: without signs. -/
def exP : Nat → Nat → PW Ex
  | 0, _ => .oof
  | f + 1, lv => if lv ≤ 7 then .look fun w => (exP f (lv + 1)).bind fun x => exL f lv w.ln x
    else if lv = 8 then .look fun w => (mayP [126]).bind fun b => if b = true then (exP f 8).bind fun x => .ret (exUn 11 [x] w.ln) else (exP f 9).bind fun x => exS f w.ln x
    else .look fun w => if w.k = 3 then litP.bind fun l => .ret (.mk 1 l.1 l.2.1 l.2.2 [] [] 0 0 [] w.ln)
      else (mayP [118, 97, 108, 105, 100]).bind fun b => if b = true then nameP.bind fun s => .ret (.mk 4 0 0 0 s [] 0 0 [] w.ln)
      else (mayP [99, 97, 115, 116]).bind fun b => if b = true then wholeP.bind fun n => (needP [[40]]).bind fun _ => (exP f 0).bind fun x => (needP [[41]]).bind fun _ => .ret (.mk 16 0 0 0 [] [] n 0 [x] w.ln)
      else (mayP [104, 97, 115, 104]).bind fun b => if b = true then nameP.bind fun s => (needP [[40]]).bind fun _ => (exR f [41] []).bind fun l => .ret (.mk 23 0 0 0 s [] 0 0 l w.ln)
      else (mayP [40]).bind fun b => if b = true then (exP f 0).bind fun x => (needP [[41]]).bind fun _ => .ret x
      else ownerP.bind fun s => if s = txMeta then (needP [[46]]).bind fun _ => nameP.bind fun t => .ret (.mk 2 0 0 0 s t 0 0 [] w.ln)
        else (mayP [46]).bind fun b => if b = true then nameP.bind fun t => .ret (.mk 2 0 0 0 s t 0 0 [] w.ln) else .ret (.mk 3 0 0 0 s [] 0 0 [] w.ln)
/-- Signs that bind so tightly, one behind the other. -/
def exL : Nat → Nat → Nat → Ex → PW Ex
  | 0, _, _, _ => .oof
  | f + 1, lv, line, x => .look fun w => match twoOf w.s with
    | none => .ret x
    | some (op, b) => if w.k = 4 ∧ b = lv then .take ((exP f (lv + 1)).bind fun y => if lv = 2 then .ret (exUn op [x, y] line) else exL f lv line (exUn op [x, y] line)) else .ret x
/-- Slices behind an expression. -/
def exS : Nat → Nat → Ex → PW Ex
  | 0, _, _ => .oof
  | f + 1, line, x => (mayP [91]).bind fun b => if b = true then wholeP.bind fun n => (needP [[58]]).bind fun _ => wholeP.bind fun m => (needP [[93]]).bind fun _ => exS f line (.mk 15 0 0 0 [] [] n m [x] line) else .ret x
/-- Expressions with commas between them, up to a sign. -/
def exR : Nat → Tx → List Ex → PW (List Ex)
  | 0, _, _ => .oof
  | f + 1, e, acc => (exP f 0).bind fun x => (mayP [44]).bind fun b => if b = true then exR f e (acc ++ [x]) else (needP [e]).bind fun _ => .ret (acc ++ [x])
end
def indexP (f : Nat) : PW Ex := (needP [[91]]).bind fun _ => (exP f 0).bind fun x => (needP [[93]]).bind fun _ => .ret x
def simples : List (Tx × Nat × Nat) := [([97, 112, 112, 108, 121], 3, 0), ([109, 97, 107, 101], 5, 0), ([103, 111, 110, 101], 6, 0), ([99, 111, 117, 110, 116], 7, 1), ([114, 101, 97, 100], 8, 2), ([119, 114, 105, 116, 101], 9, 3), ([109, 101, 116, 101, 114], 10, 2), ([114, 97, 110, 100, 111, 109], 11, 4), ([100, 114, 111, 112], 12, 5), ([97, 103, 97, 105, 110], 15, 5), ([114, 111, 117, 110, 100], 16, 5), ([99, 108, 111, 110, 101], 14, 6)]
def simpleOf (s : Tx) : Option (Nat × Nat) := simples.findSome? fun p => if p.1 = s then some p.2 else none
def formP (f kind line : Nat) : Nat → PW Sm
  | 0 => nameP.bind fun s => .ret (.mk kind s [] [] 0 [] [] [] line)
  | 1 => nameP.bind fun s => (indexP f).bind fun x => .ret (.mk kind s [] [] 0 [x] [] [] line)
  | 2 => fieldP.bind fun p => (needP [[61]]).bind fun _ => nameP.bind fun a => (indexP f).bind fun x => .ret (.mk kind p.1 p.2 a 0 [x] [] [] line)
  | 3 => nameP.bind fun a => (indexP f).bind fun x => (needP [[61]]).bind fun _ => (exP f 0).bind fun y => .ret (.mk kind [] [] a 0 [x, y] [] [] line)
  | 4 => fieldP.bind fun p => .ret (.mk kind p.1 p.2 [] 0 [] [] [] line)
  | 5 => .ret (.mk kind [] [] [] 0 [] [] [] line)
  | _ => wholeP.bind fun n => .ret (.mk kind [] [] [] n [] [] [] line)
mutual
/-- A statement. -/
def smP : Nat → PW Sm
  | 0 => .oof
  | f + 1 => .look fun w => match (if w.k = 1 then simpleOf w.s else none) with
    | some (kind, form) => .take ((formP f kind w.ln form).bind fun x => (needP [[59]]).bind fun _ => .ret x)
    | none => (mayP [105, 102]).bind fun b => if b = true then (exP f 0).bind fun x => (blP f).bind fun l => (mayP [101, 108, 115, 101]).bind fun c => if c = true then (blP f).bind fun m => .ret (.mk 2 [] [] [] 0 [x] l m w.ln) else .ret (.mk 2 [] [] [] 0 [x] l [] w.ln)
      else (mayP [100, 105, 103, 101, 115, 116]).bind fun b => if b = true then (exR f [59] []).bind fun l => .ret (.mk 13 [] [] [] 0 l [] [] w.ln)
      else ownerP.bind fun s => (if s = txMeta then .ret false else mayP [40]).bind fun b => if b = true then (mayP [41]).bind fun c => (if c = true then .ret [] else exR f [41] []).bind fun l => (needP [[59]]).bind fun _ => .ret (.mk 4 s [] [] 0 l [] [] w.ln)
        else (needP [[46]]).bind fun _ => nameP.bind fun t => (needP [[61]]).bind fun _ => (exP f 0).bind fun x => (needP [[59]]).bind fun _ => .ret (.mk 1 s t [] 0 [x] [] [] w.ln)
/-- Statements in { }. -/
def blP : Nat → PW (List Sm)
  | 0 => .oof
  | f + 1 => (needP [[123]]).bind fun _ => smsP f []
def smsP : Nat → List Sm → PW (List Sm)
  | 0, _ => .oof
  | f + 1, acc => (mayP [125]).bind fun b => if b = true then .ret acc else (smP f).bind fun x => smsP f (acc ++ [x])
end
abbrev N3 := Nat × Nat × Nat
structure Cs where
  v : N3
  m : N3
  dest : Tx
structure Stt where
  name : Tx
  headers : List Tx
  sel : List Ex
  cases : List Cs
  dest : Tx
  line : Nat
structure Dc where
  kind : Nat
  name : Tx
  fields : List (Tx × Nat)
  w : Nat
  n : Nat
  rate : Nat
  burst : Nat
  states : List Stt
  keys : List (Ex × Nat)
  actions : List Tx
  default : Tx
  args : List N3
  body : List Sm
  emits : List Tx
  line : Nat
def onesV (w : Nat) : N3 := if w ≤ 64 then (w, 0, 2 ^ w - 1) else (w, 2 ^ (w - 64) - 1, 18446744073709551615)
def kaseP : PW Cs := litP.bind fun v => (mayP [38]).bind fun b => (if b = true then litP else .ret (onesV v.1)).bind fun m => (needP [[58]]).bind fun _ => nameP.bind fun t => (needP [[59]]).bind fun _ => .ret ⟨v, m, t⟩
def casesP : Nat → List Cs → PW (List Cs)
  | 0, _ => .oof
  | f + 1, acc => .look fun w => if w.k = 3 then kaseP.bind fun c => casesP f (acc ++ [c]) else .ret acc
def takesP : Nat → List Tx → PW (List Tx)
  | 0, _ => .oof
  | f + 1, acc => (mayP [116, 97, 107, 101]).bind fun b => if b = true then nameP.bind fun s => (needP [[59]]).bind fun _ => takesP f (acc ++ [s]) else .ret acc
def stateP (f : Nat) : PW Stt := .look fun w => nameP.bind fun s => (needP [[123]]).bind fun _ => (takesP f []).bind fun hs => (mayP [115, 101, 108, 101, 99, 116]).bind fun b =>
  if b = true then (exP f 0).bind fun x => (needP [[123]]).bind fun _ => (casesP f []).bind fun cs => (needP [[101, 108, 115, 101]]).bind fun _ => nameP.bind fun t => (needP [[59], [125], [125]]).bind fun _ => .ret ⟨s, hs, [x], cs, t, w.ln⟩
  else (needP [[103, 111]]).bind fun _ => nameP.bind fun t => (needP [[59], [125]]).bind fun _ => .ret ⟨s, hs, [], [], t, w.ln⟩
def kindP : List (Tx × Nat) → PW Nat
  | [] => .bad
  | p :: r => (mayP p.1).bind fun b => if b = true then .ret p.2 else kindP r
def keyP (f : Nat) : PW (Ex × Nat) := (exP f 0).bind fun x => (kindP [([101, 120, 97, 99, 116], 1), ([112, 114, 101, 102, 105, 120], 2), ([109, 97, 115, 107], 3), ([114, 97, 110, 103, 101], 4)]).bind fun k => .ret (x, k)
def namesP : Nat → List Tx → PW (List Tx)
  | 0, _ => .oof
  | f + 1, acc => (mayP [59]).bind fun b => if b = true then .ret acc else nameP.bind fun s => namesP f (acc ++ [s])
def dc0 (kind line : Nat) : Dc := ⟨kind, [], [], 0, 0, 0, 0, [], [], [], [], [], [], [], line⟩
def fieldsP (f : Nat) : PW (List (Tx × Nat)) := (needP [[123]]).bind fun _ => eachP (endedP typedP) f []
def onP (f line : Nat) : Nat → PW Dc
  | 1 => nameP.bind fun s => (fieldsP f).bind fun l => .ret { dc0 1 line with name := s, fields := l }
  | 2 => (fieldsP f).bind fun l => .ret { dc0 2 line with fields := l }
  | 3 => nameP.bind fun s => wholeP.bind fun w => wholeP.bind fun n => (needP [[59]]).bind fun _ => .ret { dc0 3 line with name := s, w := w, n := n }
  | 4 => nameP.bind fun s => wholeP.bind fun n => (needP [[59]]).bind fun _ => .ret { dc0 4 line with name := s, n := n }
  | 5 => nameP.bind fun s => wholeP.bind fun n => wholeP.bind fun r => wholeP.bind fun u => (needP [[59]]).bind fun _ => .ret { dc0 5 line with name := s, n := n, rate := r, burst := u }
  | 6 => (needP [[123]]).bind fun _ => (eachP (stateP f) f []).bind fun l => .ret { dc0 6 line with states := l }
  | 7 => nameP.bind fun s => (needP [[40]]).bind fun _ => (rowP typedP [41] f).bind fun l => (blP f).bind fun m => .ret { dc0 7 line with name := s, fields := l, body := m }
  | 8 => nameP.bind fun s => (needP [[123], [107, 101, 121], [123]]).bind fun _ => (eachP (endedP (keyP f)) f []).bind fun ks => (needP [[97, 99, 116, 105, 111, 110, 115]]).bind fun _ => nameP.bind fun a => (namesP f [a]).bind fun al => (needP [[100, 101, 102, 97, 117, 108, 116]]).bind fun _ => nameP.bind fun d => (needP [[40]]).bind fun _ => (rowP litP [41] f).bind fun l => (needP [[59], [115, 105, 122, 101]]).bind fun _ => wholeP.bind fun n => (needP [[59], [125]]).bind fun _ => .ret { dc0 8 line with name := s, keys := ks, actions := al, default := d, args := l, n := n }
  | 9 => (blP f).bind fun m => .ret { dc0 9 line with body := m }
  | 10 => (needP [[123]]).bind fun _ => (eachP (endedP nameP) f []).bind fun l => .ret { dc0 10 line with emits := l }
  | _ => .bad
def declsT : List (Tx × Nat) := [([104, 101, 97, 100, 101, 114], 1), ([109, 101, 116, 97], 2), ([114, 101, 103, 105, 115, 116, 101, 114], 3), ([99, 111, 117, 110, 116, 101, 114], 4), ([109, 101, 116, 101, 114], 5), ([112, 97, 114, 115, 101, 114], 6), ([97, 99, 116, 105, 111, 110], 7), ([116, 97, 98, 108, 101], 8), ([99, 111, 110, 116, 114, 111, 108], 9), ([100, 101, 112, 97, 114, 115, 101, 114], 10)]
def declOf (s : Tx) : Option Nat := declsT.findSome? fun p => if p.1 = s then some p.2 else none
def declP (f : Nat) : PW Dc := .look fun w => (mustP (decide (w.k = 1) && (declOf w.s).isSome)).bind fun _ => onP f w.ln ((declOf w.s).getD 0)
def progP : Nat → List Dc → PW (List Dc)
  | 0, _ => .oof
  | f + 1, acc => .look fun w => if w.k = 0 then .ret acc else (declP f).bind fun d => progP f (acc ++ [d])
def txD (s : Tx) : D := .sc (.string (B s))
def nD (n : Nat) : D := .sc (.int .i64 (n : Int))
mutual
def exD : Ex → D
  | .mk op lw lh ll name field n m args line => .agg [.sc (.int .u8 (op : Int)), nD lw, .sc (.int .u64 (lh : Int)), .sc (.int .u64 (ll : Int)), txD name, txD field, nD n, nD m, .list 10 (exDs args), nD line]
def exDs : List Ex → List D
  | [] => []
  | x :: l => exD x :: exDs l
end
mutual
def smD : Sm → D
  | .mk kind name field array n args body els line => .agg [.sc (.int .u8 (kind : Int)), txD name, txD field, txD array, nD n, .list 10 (exDs args), .list 9 (smDs body), .list 9 (smDs els), nD line]
def smDs : List Sm → List D
  | [] => []
  | x :: l => smD x :: smDs l
end
def LDw (L : List Wd) : D := .list 6 (L.map wordD)
def pvN : Value := .iface 84 (.agg ⟨[]⟩)
theorem mayP_yes {L : List Wd} {i : Nat} {s : Tx} (hk : (wordAt wEnd L i).k = 4 ∨ (wordAt wEnd L i).k = 1) (hs : (wordAt wEnd L i).s = s) : (mayP s).run wEnd L i = .ok true (i + 1) := by
  unfold mayP
  simp only [Pr.run]
  rw [if_pos ⟨hk, hs⟩]
  rfl
theorem mayP_no {L : List Wd} {i : Nat} {s : Tx} (h4 : ¬ ((wordAt wEnd L i).k = 4 ∧ (wordAt wEnd L i).s = s)) (h1 : ¬ ((wordAt wEnd L i).k = 1 ∧ (wordAt wEnd L i).s = s)) : (mayP s).run wEnd L i = .ok false i := by
  unfold mayP
  simp only [Pr.run]
  rw [if_neg (by rintro ⟨h | h, hs⟩; exact h4 ⟨h, hs⟩; exact h1 ⟨h, hs⟩)]
  rfl
theorem word_in {L : List Wd} {i : Nat} (h : (wordAt wEnd L i).k ≠ 0) : i < L.length := by
  rcases Nat.lt_or_ge i L.length with h' | h'
  · exact h'
  · exact absurd (by unfold wordAt; rw [List.getElem?_eq_none h']; rfl) h
theorem may_le {L : List Wd} {i j : Nat} {s : Tx} {b : Bool} (h : (mayP s).run wEnd L i = .ok b j) (hi : i ≤ L.length) : j ≤ L.length := by
  by_cases h4 : (wordAt wEnd L i).k = 4 ∧ (wordAt wEnd L i).s = s
  · rw [mayP_yes (.inl h4.1) h4.2] at h; cases h; exact word_in (by rw [h4.1]; decide)
  by_cases h1 : (wordAt wEnd L i).k = 1 ∧ (wordAt wEnd L i).s = s
  · rw [mayP_yes (.inr h1.1) h1.2] at h; cases h; exact word_in (by rw [h1.1]; decide)
  rw [mayP_no h4 h1] at h; cases h; exact hi
theorem list_at {α : Type} {l : List α} {i : Nat} {c : α} (h : l[i]? = some c) : l.drop i = c :: l.drop (i + 1) := by
  obtain ⟨h1, h2⟩ := List.getElem?_eq_some_iff.mp h
  rw [List.drop_eq_getElem_cons h1, h2]
theorem txs_at {ts : List Tx} {i : Nat} {s : Tx} (h : ts[i]? = some s) : (ts.map txD)[((i : Int)).toNat]? = some (txD s) := by
  rw [Int.toNat_natCast, List.getElem?_map, h]; rfl
theorem fields_g {l : List UInt8} {ts : List Tx} (hl : l.length ≤ 4096) (ha : (l.all fun b => decide (b.toNat < 128)) = true) (hf : Lib.fields l = ts) : CallsP Tryz.prog Lw 47 [.sc (.string (B l))] (.list 1 (ts.map txD)) := by
  intro S w us hg hS hus
  obtain rfl := rels_plain (vs := [.string (B l)]) rfl hus
  refine (Tryz.strings_Fields (B l) w (by rw [B_size]; omega) (fun j b hb => ?_) hg.space).mono ?_
  · rw [B_toList] at hb
    exact of_decide_eq_true (List.all_eq_true.mp ha b (List.mem_of_getElem? hb))
  · rintro e w' ⟨rfl, rfl⟩
    rw [B_toList, hf]
    obtain ⟨S', h1, h2, h3, h4⟩ := newlist hS (ts.map fun l => Value.string ⟨l.toArray⟩) 9
    refine ⟨_, S', rfl, ?_, h2, h3, h4⟩
    rw [List.map_map, List.length_map] at h1
    exact h1
def ixG : List Tx → Tx → Nat → Int
  | [], _, _ => -1
  | t :: r, s, k => if s = t then (k : Int) else ixG r s (k + 1)
theorem ixG_ge : ∀ (ts : List Tx) (s : Tx) (k : Nat), decide (ixG ts s k ≥ 0) = ts.contains s
  | [], s, k => rfl
  | t :: r, s, k => by
    rw [ixG]
    by_cases h : s = t
    · subst h; rw [if_pos rfl, decide_eq_true (by omega)]; simp
    · rw [if_neg h, ixG_ge r s (k + 1)]
      simp only [List.contains_cons]
      rw [show (s == t) = false from by simpa using h, Bool.false_or]
def Tame {α : Type} (p : PW α) : Prop := ∀ {L : List Wd} {i j : Nat} {a : α}, p.run wEnd L i = .ok a j → i ≤ L.length → i ≤ j ∧ j ≤ L.length
def Eager {α : Type} (p : PW α) : Prop := ∀ {L : List Wd} {i j : Nat} {a : α}, p.run wEnd L i = .ok a j → i ≤ L.length → i < j ∧ j ≤ L.length
theorem Eager.tame {α : Type} {p : PW α} (h : Eager p) : Tame p := fun hr hi => ⟨Nat.le_of_lt (h hr hi).1, (h hr hi).2⟩
theorem run_ok {α β : Type} {p : PW α} {k : α → PW β} {L : List Wd} {i j : Nat} {b : β} (h : (p.bind k).run wEnd L i = .ok b j) : ∃ a m, p.run wEnd L i = .ok a m ∧ (k a).run wEnd L m = .ok b j := by
  rw [run_bind] at h
  cases hp : p.run wEnd L i with
  | ok a m => rw [hp] at h; exact ⟨a, m, rfl, h⟩
  | bad m => rw [hp] at h; cases h
  | oof => rw [hp] at h; cases h
theorem tame_ret {α : Type} (a : α) : Tame (.ret a : PW α) := fun h hi => by cases h; exact ⟨Nat.le_refl _, hi⟩
theorem tame_bad {α : Type} : Tame (.bad : PW α) := fun h hi => by cases h
theorem tame_bind {α β : Type} {p : PW α} {k : α → PW β} (hp : Tame p) (hk : ∀ a, Tame (k a)) : Tame (p.bind k) := fun h hi => by
  obtain ⟨a, m, h1, h2⟩ := run_ok h
  obtain ⟨q1, q2⟩ := hp h1 hi
  obtain ⟨q3, q4⟩ := hk a h2 q2
  exact ⟨Nat.le_trans q1 q3, q4⟩
theorem eager_bind {α β : Type} {p : PW α} {k : α → PW β} (hp : Eager p) (hk : ∀ a, Tame (k a)) : Eager (p.bind k) := fun h hi => by
  obtain ⟨a, m, h1, h2⟩ := run_ok h
  obtain ⟨q1, q2⟩ := hp h1 hi
  obtain ⟨q3, q4⟩ := hk a h2 q2
  exact ⟨Nat.lt_of_lt_of_le q1 q3, q4⟩
theorem tame_look {α : Type} {k : Wd → PW α} (h : ∀ w, Tame (k w)) : Tame (.look k) := fun hr hi => h _ hr hi
theorem tame_ite {α : Type} {c : Prop} [Decidable c] {p q : PW α} (hp : Tame p) (hq : Tame q) : Tame (if c then p else q) := by split; exact hp; exact hq
theorem may_at {L : List Wd} {i j : Nat} {s : Tx} {b : Bool} (h : (mayP s).run wEnd L i = .ok b j) : (b = true ∧ j = i + 1 ∧ i < L.length) ∨ (b = false ∧ j = i) := by
  by_cases h4 : (wordAt wEnd L i).k = 4 ∧ (wordAt wEnd L i).s = s
  · rw [mayP_yes (.inl h4.1) h4.2] at h; cases h; exact .inl ⟨rfl, rfl, word_in (by rw [h4.1]; decide)⟩
  by_cases h1 : (wordAt wEnd L i).k = 1 ∧ (wordAt wEnd L i).s = s
  · rw [mayP_yes (.inr h1.1) h1.2] at h; cases h; exact .inl ⟨rfl, rfl, word_in (by rw [h1.1]; decide)⟩
  rw [mayP_no h4 h1] at h; cases h; exact .inr ⟨rfl, rfl⟩
theorem tame_may (s : Tx) : Tame (mayP s) := fun h hi => by
  rcases may_at h with ⟨_, rfl, q⟩ | ⟨_, rfl⟩
  · exact ⟨by omega, q⟩
  · exact ⟨Nat.le_refl _, hi⟩
theorem tame_need : ∀ ts : List Tx, Tame (needP ts)
  | [] => tame_ret ()
  | s :: r => tame_bind (tame_may s) fun b => tame_ite (tame_need r) tame_bad
theorem must_ok {L : List Wd} {c : Bool} {i j : Nat} {q : Wd} (h : (mustP c).run wEnd L i = .ok q j) : c = true ∧ q = wordAt wEnd L i ∧ j = i + 1 := by
  cases c with
  | false => cases h
  | true => cases h; exact ⟨rfl, rfl, rfl⟩
theorem eager_must {α : Type} {c : Wd → Bool} {k : Wd → Wd → α} (hc : ∀ w, c w = true → w.k ≠ 0) : Eager (.look fun w => (mustP (c w)).bind fun x => .ret (k w x) : PW α) := fun h hi => by
  obtain ⟨a, m, h1, h2⟩ := run_ok (p := mustP (c (wordAt wEnd _ _))) h
  obtain ⟨q1, _, rfl⟩ := must_ok h1
  cases h2
  exact ⟨Nat.lt_succ_self _, word_in (hc _ q1)⟩
theorem eager_name : Eager nameP := eager_must (c := fun w => decide (w.k = 1) && !keyB w.s) (k := fun _ x => x.s) fun w h => by
  have := (Bool.and_eq_true _ _ ▸ h : decide (w.k = 1) = true ∧ _).1
  rw [of_decide_eq_true this]; decide
theorem eager_whole : Eager wholeP := eager_must (c := fun w => decide (w.k = 2)) (k := fun _ x => x.lo) fun w h => by rw [of_decide_eq_true h]; decide
theorem eager_lit : Eager litP := eager_must (c := fun w => decide (w.k = 3)) (k := fun _ x => (x.w, x.hi, x.lo)) fun w h => by rw [of_decide_eq_true h]; decide
theorem tame_owner : Tame ownerP := tame_bind (tame_may _) fun b => tame_ite (tame_ret _) eager_name.tame
theorem bind_ret {ω α : Type} : ∀ p : Pr ω α, p.bind .ret = p
  | .ret a => rfl
  | .bad => rfl
  | .oof => rfl
  | .look f => by show Pr.look _ = _; congr 1; funext x; exact bind_ret (f x)
  | .take p => by show Pr.take _ = _; rw [bind_ret p]
def n3D (q : Nat × Nat × Nat) : D := .agg [nD q.1, .sc (.int .u64 (q.2.1 : Int)), .sc (.int .u64 (q.2.2 : Int))]
def fdD (q : Tx × Nat) : D := .agg [txD q.1, nD q.2]
def Small (L : List Wd) : Prop := ∀ x ∈ L, x.k = 2 → x.lo ≤ 2147483647
theorem small_at {L : List Wd} (h : Small L) {i : Nat} (hk : (wordAt wEnd L i).k = 2) : (wordAt wEnd L i).lo ≤ 2147483647 := by
  have hi := word_in (L := L) (i := i) (by rw [hk]; decide)
  obtain ⟨x, hx⟩ : ∃ x, L[i]? = some x := ⟨_, List.getElem?_eq_getElem hi⟩
  have e : wordAt wEnd L i = x := by unfold wordAt; rw [hx]; rfl
  rw [e] at hk ⊢
  exact h x (List.mem_of_getElem? hx) hk
set_option maxRecDepth 100000 in
theorem next_c {L : List Wd} {i : Nat} (hL : L.length ≤ 65536) (hi : i ≤ L.length)  : CallsB Tryz.prog Lw 31 [LDw L, .sc (.int .i64 (i : Int))] [] [LDw L, .sc (.int .i64 (i : Int))] (wordD (wordAt wEnd L i)) := by
  have hll : (L.map wordD).length = L.length := List.length_map _
  refine callsB_of Tryz.func31 rfl Tryz.ntmps31 rfl rfl fun w0 S0 b stab => ?_
  refine hits_seq ?_
  refine hits_region ?_
  refine sq (f_alloc zc37 (lt rfl)) rfl rfl ?_
  refine hits_nil ?_
  refine to_next ?_
  refine hits_seq ?_
  refine hits_seq ?_
  by_cases he : i = L.length
  · have hw : wordAt wEnd L i = wEnd := by unfold wordAt; rw [List.getElem?_eq_none (by omega)]; rfl
    refine hits_drawn mixed ?_
    refine dq (f_move rfl (lt rfl)) rfl rfl ?_
    refine dq (f_nil rfl rfl (lt rfl)) rfl rfl ?_
    refine dq (f_fieldAddr rfl kf68_1 rfl (lt rfl)) rfl rfl ?_
    refine dq (f_load kd3 rfl rfl (lt rfl)) rfl rfl ?_
    refine dq (f_move rfl (lt rfl)) rfl rfl ?_
    refine dq (f_nil rfl rfl (lt rfl)) rfl rfl ?_
    refine dq (f_fieldAddr rfl kf68_0 rfl (lt rfl)) rfl rfl ?_
    refine dq (f_load kd22 rfl rfl (lt rfl)) rfl rfl ?_
    refine dq (f_lenList rfl rfl un22 (lt rfl)) rfl rfl ?_
    refine dq (f_bin rfl rfl (bT (beq_iff_eq.mpr (by rw [hll, he]))) (lt rfl)) rfl rfl ?_
    refine dq_nil rfl ?_
    refine to_next ?_
    refine hits_cond rfl (fun c0 => ?_) (fun c0 => absurd c0 Bool.false_ne_true.symm)
    refine hits_seq ?_
    refine hits_region ?_
    refine sq (f_build bu37 rfl rfl (lt rfl)) rfl rfl ?_
    refine sq (f_store kd37 rfl rfl rfl rfl rfl) rfl rfl ?_
    refine hits_nil ?_
    refine to_next ?_
    refine hits_ret ?_
    refine to_ret ?_
    exact hits_doneB (.inl rfl) rfl rfl rfl (by rw [hw]; rfl) rfl ⟨rfl, rfl, trivial⟩ rfl
  · obtain ⟨x, hx⟩ : ∃ x, L[i]? = some x := ⟨_, List.getElem?_eq_getElem (by omega)⟩
    have hw : wordAt wEnd L i = x := by unfold wordAt; rw [hx]; rfl
    have hat : (L.map wordD)[((i : Int)).toNat]? = some (wordD x) := by rw [Int.toNat_natCast, List.getElem?_map, hx]; rfl
    refine hits_drawn mixed ?_
    refine dq (f_move rfl (lt rfl)) rfl rfl ?_
    refine dq (f_nil rfl rfl (lt rfl)) rfl rfl ?_
    refine dq (f_fieldAddr rfl kf68_1 rfl (lt rfl)) rfl rfl ?_
    refine dq (f_load kd3 rfl rfl (lt rfl)) rfl rfl ?_
    refine dq (f_move rfl (lt rfl)) rfl rfl ?_
    refine dq (f_nil rfl rfl (lt rfl)) rfl rfl ?_
    refine dq (f_fieldAddr rfl kf68_0 rfl (lt rfl)) rfl rfl ?_
    refine dq (f_load kd22 rfl rfl (lt rfl)) rfl rfl ?_
    refine dq (f_lenList rfl rfl un22 (lt rfl)) rfl rfl ?_
    refine dq (f_bin rfl rfl (bT (beq_eq_false_iff_ne.mpr (by rw [hll]; omega))) (lt rfl)) rfl rfl ?_
    refine dq_nil rfl ?_
    refine to_next ?_
    refine hits_cond rfl (fun c0 => absurd c0 Bool.false_ne_true) (fun c0 => ?_)
    refine hits_skip ?_
    refine to_next ?_
    refine hits_seq ?_
    refine hits_drawn mixed ?_
    refine dq (f_move rfl (lt rfl)) rfl rfl ?_
    refine dq (f_nil rfl rfl (lt rfl)) rfl rfl ?_
    refine dq (f_fieldAddr rfl kf68_0 rfl (lt rfl)) rfl rfl ?_
    refine dq (f_load kd22 rfl rfl (lt rfl)) rfl rfl ?_
    refine dq (f_move rfl (lt rfl)) rfl rfl ?_
    refine dq (f_nil rfl rfl (lt rfl)) rfl rfl ?_
    refine dq (f_fieldAddr rfl kf68_1 rfl (lt rfl)) rfl rfl ?_
    refine dq (f_load kd3 rfl rfl (lt rfl)) rfl rfl ?_
    refine dq (f_idxList rfl rfl rfl un22 kd37 (Int.natCast_nonneg _) hat (lt rfl)) rfl rfl ?_
    refine dq (f_load kd37 rfl rfl (lt rfl)) rfl rfl ?_
    refine dq (f_store kd37 rfl rfl rfl rfl rfl) rfl rfl ?_
    refine dq_nil rfl ?_
    refine to_next ?_
    refine hits_ret ?_
    exact hits_doneB (.inl rfl) rfl rfl rfl (by rw [hw]; rfl) rfl ⟨rfl, rfl, trivial⟩ rfl
set_option maxRecDepth 100000 in
theorem is_c {L : List Wd} {i : Nat} (hL : L.length ≤ 65536) (hi : i ≤ L.length) (k : Nat) (s : Tx) : CallsB Tryz.prog Lw 131 [LDw L, .sc (.int .i64 (i : Int))] [.sc (.int .u8 (k : Int)), txD s] [LDw L, .sc (.int .i64 (i : Int))] (.sc (.bool (decide ((wordAt wEnd L i).k = k ∧ (wordAt wEnd L i).s = s)))) := by
  refine callsB_of Tryz.func131 rfl Tryz.ntmps131 rfl rfl fun w0 S0 b stab => ?_
  refine hits_seq ?_
  refine hits_region ?_
  refine sq (f_assign rfl (lt rfl)) rfl rfl ?_
  refine hits_nil ?_
  refine to_next ?_
  refine hits_seq ?_
  refine hits_region ?_
  refine sq (f_move rfl (lt rfl)) rfl rfl ?_
  refine sq_callB en31 rfl rfl (next_c hL hi) ⟨rfl, rfl, trivial⟩ rfl rfl rfl rfl (lt rfl) ?_
  refine sq (f_alloc zc37 (lt rfl)) rfl rfl ?_
  refine sq (f_store kd37 rfl rfl rfl rfl rfl) rfl rfl ?_
  refine hits_nil ?_
  refine to_next ?_
  refine hits_seq ?_
  by_cases hk : (wordAt wEnd L i).k = k
  · refine hits_region ?_
    refine sq (f_fieldAddr rfl kf37_0 rfl (lt rfl)) rfl rfl ?_
    refine sq (f_load kd32 rfl rfl (lt rfl)) rfl rfl ?_
    refine sq (f_move rfl (lt rfl)) rfl rfl ?_
    refine sq (f_bin rfl rfl (bT (beq_iff_eq.mpr (by rw [hk]))) (lt rfl)) rfl rfl ?_
    refine sq (f_move rfl (lt rfl)) rfl rfl ?_
    refine sq_yes (f_fieldAddr rfl kf37_1 rfl (lt rfl)) rfl rfl rfl rfl (lt rfl) ?_
    refine sq_yes (f_load kd9 rfl rfl (lt rfl)) rfl rfl rfl rfl (lt rfl) ?_
    refine sq_yes (f_move rfl (lt rfl)) rfl rfl rfl rfl (lt rfl) ?_
    refine sq_yes (f_bin rfl rfl (bT ((B_beq _ _))) (lt rfl)) rfl rfl rfl rfl (lt rfl) ?_
    refine sq (f_pick rfl rfl (lt rfl)) rfl rfl ?_
    refine sq (f_assign rfl (lt rfl)) rfl rfl ?_
    refine hits_nil ?_
    refine to_next ?_
    refine hits_ret ?_
    exact hits_doneB (.inl rfl) rfl rfl rfl (by rw [show decide ((wordAt wEnd L i).k = k ∧ (wordAt wEnd L i).s = s) = decide ((wordAt wEnd L i).s = s) from by simp [hk]]; rfl) rfl ⟨rfl, rfl, trivial⟩ rfl
  · refine hits_region ?_
    refine sq (f_fieldAddr rfl kf37_0 rfl (lt rfl)) rfl rfl ?_
    refine sq (f_load kd32 rfl rfl (lt rfl)) rfl rfl ?_
    refine sq (f_move rfl (lt rfl)) rfl rfl ?_
    refine sq (f_bin rfl rfl (bT (beq_eq_false_iff_ne.mpr (by omega))) (lt rfl)) rfl rfl ?_
    refine sq (f_move rfl (lt rfl)) rfl rfl ?_
    refine sq_no rfl rfl rfl rfl rfl (lt rfl) (lt rfl) ?_
    refine sq_no rfl rfl rfl rfl rfl (lt rfl) (lt rfl) ?_
    refine sq_no rfl rfl rfl rfl rfl (lt rfl) (lt rfl) ?_
    refine sq_no rfl rfl rfl rfl rfl (lt rfl) (lt rfl) ?_
    refine sq (f_pick rfl rfl (lt rfl)) rfl rfl ?_
    refine sq (f_assign rfl (lt rfl)) rfl rfl ?_
    refine hits_nil ?_
    refine to_next ?_
    refine hits_ret ?_
    exact hits_doneB (.inl rfl) rfl rfl rfl (by rw [show decide ((wordAt wEnd L i).k = k ∧ (wordAt wEnd L i).s = s) = false from by simp [hk]]; rfl) rfl ⟨rfl, rfl, trivial⟩ rfl
set_option maxRecDepth 100000 in
theorem take_c {L : List Wd} {i : Nat} (hL : L.length ≤ 65536) (hi : i ≤ L.length)  : CallsB Tryz.prog Lw 59 [LDw L, .sc (.int .i64 (i : Int))] [] [LDw L, .sc (.int .i64 ((i + 1 : Nat) : Int))] (wordD (wordAt wEnd L i)) := by
  refine callsB_of Tryz.func59 rfl Tryz.ntmps59 rfl rfl fun w0 S0 b stab => ?_
  refine hits_seq ?_
  refine hits_region ?_
  refine sq (f_alloc zc37 (lt rfl)) rfl rfl ?_
  refine hits_nil ?_
  refine to_next ?_
  refine hits_seq ?_
  refine hits_region ?_
  refine sq (f_move rfl (lt rfl)) rfl rfl ?_
  refine sq_callB en31 rfl rfl (next_c hL hi) ⟨rfl, rfl, trivial⟩ rfl rfl rfl rfl (lt rfl) ?_
  refine sq (f_alloc zc37 (lt rfl)) rfl rfl ?_
  refine sq (f_store kd37 rfl rfl rfl rfl rfl) rfl rfl ?_
  refine hits_nil ?_
  refine to_next ?_
  refine hits_seq ?_
  refine hits_region ?_
  refine sq (f_move rfl (lt rfl)) rfl rfl ?_
  refine sq (f_nil rfl rfl (lt rfl)) rfl rfl ?_
  refine sq (f_fieldAddr rfl kf68_1 rfl (lt rfl)) rfl rfl ?_
  refine sq (f_load kd3 rfl rfl (lt rfl)) rfl rfl ?_
  refine sq (f_bin rfl rfl (iT (((IntWalk.i64_in _ (by omega)).trans (by omega) : _ = ((i + 1 : Nat) : Int)))) (lt rfl)) rfl rfl ?_
  refine sq (f_nil rfl rfl (lt rfl)) rfl rfl ?_
  refine sq (f_fieldAddr rfl kf68_1 rfl (lt rfl)) rfl rfl ?_
  refine sq (f_store kd3 rfl rfl rfl rfl rfl) rfl rfl ?_
  refine hits_nil ?_
  refine to_next ?_
  refine hits_seq ?_
  refine hits_region ?_
  refine sq (f_load kd37 rfl rfl (lt rfl)) rfl rfl ?_
  refine sq (f_store kd37 rfl rfl rfl rfl rfl) rfl rfl ?_
  refine hits_nil ?_
  refine to_next ?_
  refine hits_ret ?_
  exact hits_doneB (.inl rfl) rfl rfl rfl rfl rfl ⟨rfl, rfl, trivial⟩ rfl
set_option maxRecDepth 100000 in
theorem must_c {L : List Wd} {i : Nat} (hL : L.length ≤ 65536) (hi : i ≤ L.length) (c : Bool) : CallsX Tryz.prog Lw pvN 33 [LDw L, .sc (.int .i64 (i : Int))] (fun b => [.sc (.bool c)]) (ocOf (LDw L) (wordD) ((mustP c).run wEnd L i)) := by
  refine callsX_of (m := 1) Tryz.func33 rfl Tryz.ntmps33 (fun _ => rfl) rfl rfl fun hne w0 S0 b stab => ?_
  obtain ⟨o, hO⟩ : ∃ o, o = ocOf (LDw L) (wordD) ((mustP c).run wEnd L i) := ⟨_, rfl⟩
  rw [← hO] at hne ⊢
  refine hits_seq ?_
  refine hits_region ?_
  refine sq (f_alloc zc37 (lt rfl)) rfl rfl ?_
  refine hits_nil ?_
  refine to_next ?_
  refine hits_seq ?_
  refine hits_seq ?_
  cases c
  · refine hits_region ?_
    refine sq (f_move rfl (lt rfl)) rfl rfl ?_
    refine sq (f_un rfl rfl (lt rfl)) rfl rfl ?_
    refine hits_nil ?_
    refine to_next ?_
    refine hits_cond rfl (fun c0 => ?_) (fun c0 => absurd c0 Bool.false_ne_true.symm)
    refine hits_region ?_
    refine sq (f_build bu84 rfl rfl (lt rfl)) rfl rfl ?_
    refine sq (f_mkIfaceD rfl nif84 (lt rfl)) rfl rfl ?_
    exact sq_panic rfl rfl hO rfl rfl ⟨rfl, rfl, trivial⟩ rfl rfl (fun _ _ hd h => And.intro hd h)
  · refine hits_region ?_
    refine sq (f_move rfl (lt rfl)) rfl rfl ?_
    refine sq (f_un rfl rfl (lt rfl)) rfl rfl ?_
    refine hits_nil ?_
    refine to_next ?_
    refine hits_cond rfl (fun c0 => absurd c0 Bool.false_ne_true) (fun c0 => ?_)
    refine hits_skip ?_
    refine to_next ?_
    refine hits_seq ?_
    refine hits_region ?_
    refine sq (f_move rfl (lt rfl)) rfl rfl ?_
    refine sq_callB en59 rfl rfl (take_c hL hi) ⟨rfl, rfl, trivial⟩ rfl rfl rfl rfl (lt rfl) ?_
    refine sq (f_store kd37 rfl rfl rfl rfl rfl) rfl rfl ?_
    refine hits_nil ?_
    refine to_next ?_
    refine hits_ret ?_
    exact hits_doneX hO (.inl rfl) rfl rfl rfl rfl rfl ⟨rfl, rfl, trivial⟩ rfl
set_option maxRecDepth 100000 in
theorem may_c {L : List Wd} {i : Nat} (hL : L.length ≤ 65536) (hi : i ≤ L.length) (s : Tx) : CallsX Tryz.prog Lw pvN 95 [LDw L, .sc (.int .i64 (i : Int))] (fun b => [txD s]) (ocOf (LDw L) (fun q : Bool => D.sc (.bool q)) ((mayP s).run wEnd L i)) := by
  refine callsX_of (m := 1) Tryz.func95 rfl Tryz.ntmps95 (fun _ => rfl) rfl rfl fun hne w0 S0 b stab => ?_
  obtain ⟨o, hO⟩ : ∃ o, o = ocOf (LDw L) (fun q : Bool => D.sc (.bool q)) ((mayP s).run wEnd L i) := ⟨_, rfl⟩
  rw [← hO] at hne ⊢
  refine hits_seq ?_
  refine hits_region ?_
  refine sq (f_assign rfl (lt rfl)) rfl rfl ?_
  refine hits_nil ?_
  refine to_next ?_
  refine hits_seq ?_
  by_cases h4 : (wordAt wEnd L i).k = 4 ∧ (wordAt wEnd L i).s = s
  · have h1 := is_c hL hi 4 s
    rw [decide_eq_true h4] at h1
    have hm : (mayP s).run wEnd L i = .ok true (i + 1) := mayP_yes (.inl h4.1) h4.2
    rw [hm] at hO
    refine hits_region ?_
    refine sq (f_move rfl (lt rfl)) rfl rfl ?_
    refine sq (f_move rfl (lt rfl)) rfl rfl ?_
    refine sq_callB en131 rfl rfl (h1) ⟨rfl, rfl, trivial⟩ rfl rfl rfl rfl (lt rfl) ?_
    refine sq (f_move rfl (lt rfl)) rfl rfl ?_
    refine sq_no rfl rfl rfl rfl rfl (lt rfl) (lt rfl) ?_
    refine sq_no rfl rfl rfl rfl rfl (lt rfl) (lt rfl) ?_
    refine sq_no rfl rfl rfl rfl rfl (lt rfl) (lt rfl) ?_
    refine sq (f_pick rfl rfl (lt rfl)) rfl rfl ?_
    refine sq (f_assign rfl (lt rfl)) rfl rfl ?_
    refine hits_nil ?_
    refine to_next ?_
    refine hits_seq ?_
    refine hits_seq ?_
    refine hits_region ?_
    refine sq (f_move rfl (lt rfl)) rfl rfl ?_
    refine hits_nil ?_
    refine to_next ?_
    refine hits_cond rfl (fun c0 => ?_) (fun c0 => absurd c0 Bool.false_ne_true.symm)
    refine hits_region ?_
    refine sq (f_move rfl (lt rfl)) rfl rfl ?_
    refine sq_callB en59 rfl rfl (take_c hL hi) ⟨rfl, rfl, trivial⟩ rfl rfl rfl rfl (lt rfl) ?_
    refine hits_nil ?_
    refine to_next ?_
    refine hits_seq ?_
    refine hits_region ?_
    refine sq (f_move rfl (lt rfl)) rfl rfl ?_
    refine sq (f_assign rfl (lt rfl)) rfl rfl ?_
    refine hits_nil ?_
    refine to_next ?_
    refine hits_ret ?_
    exact hits_doneX hO (.inl rfl) rfl rfl rfl rfl rfl ⟨rfl, rfl, trivial⟩ rfl
  · have h1 := is_c hL hi 4 s
    rw [decide_eq_false h4] at h1
    have h2 := is_c hL hi 1 s
    by_cases h5 : (wordAt wEnd L i).k = 1 ∧ (wordAt wEnd L i).s = s
    · rw [decide_eq_true h5] at h2
      have hm : (mayP s).run wEnd L i = .ok true (i + 1) := mayP_yes (.inr h5.1) h5.2
      rw [hm] at hO
      refine hits_region ?_
      refine sq (f_move rfl (lt rfl)) rfl rfl ?_
      refine sq (f_move rfl (lt rfl)) rfl rfl ?_
      refine sq_callB en131 rfl rfl (h1) ⟨rfl, rfl, trivial⟩ rfl rfl rfl rfl (lt rfl) ?_
      refine sq (f_move rfl (lt rfl)) rfl rfl ?_
      refine sq_yes (f_move rfl (lt rfl)) rfl rfl rfl rfl (lt rfl) ?_
      refine sq_yes (f_move rfl (lt rfl)) rfl rfl rfl rfl (lt rfl) ?_
      refine sq_guard rfl rfl rfl (lt rfl) ?_
      refine sq_callB en131 rfl rfl (h2) ⟨rfl, rfl, trivial⟩ rfl rfl rfl rfl (lt rfl) ?_
      refine sq (f_pick rfl rfl (lt rfl)) rfl rfl ?_
      refine sq (f_assign rfl (lt rfl)) rfl rfl ?_
      refine hits_nil ?_
      refine to_next ?_
      refine hits_seq ?_
      refine hits_seq ?_
      refine hits_region ?_
      refine sq (f_move rfl (lt rfl)) rfl rfl ?_
      refine hits_nil ?_
      refine to_next ?_
      refine hits_cond rfl (fun c0 => ?_) (fun c0 => absurd c0 Bool.false_ne_true.symm)
      refine hits_region ?_
      refine sq (f_move rfl (lt rfl)) rfl rfl ?_
      refine sq_callB en59 rfl rfl (take_c hL hi) ⟨rfl, rfl, trivial⟩ rfl rfl rfl rfl (lt rfl) ?_
      refine hits_nil ?_
      refine to_next ?_
      refine hits_seq ?_
      refine hits_region ?_
      refine sq (f_move rfl (lt rfl)) rfl rfl ?_
      refine sq (f_assign rfl (lt rfl)) rfl rfl ?_
      refine hits_nil ?_
      refine to_next ?_
      refine hits_ret ?_
      exact hits_doneX hO (.inl rfl) rfl rfl rfl rfl rfl ⟨rfl, rfl, trivial⟩ rfl
    · rw [decide_eq_false h5] at h2
      have hm : (mayP s).run wEnd L i = .ok false i := mayP_no h4 h5
      rw [hm] at hO
      refine hits_region ?_
      refine sq (f_move rfl (lt rfl)) rfl rfl ?_
      refine sq (f_move rfl (lt rfl)) rfl rfl ?_
      refine sq_callB en131 rfl rfl (h1) ⟨rfl, rfl, trivial⟩ rfl rfl rfl rfl (lt rfl) ?_
      refine sq (f_move rfl (lt rfl)) rfl rfl ?_
      refine sq_yes (f_move rfl (lt rfl)) rfl rfl rfl rfl (lt rfl) ?_
      refine sq_yes (f_move rfl (lt rfl)) rfl rfl rfl rfl (lt rfl) ?_
      refine sq_guard rfl rfl rfl (lt rfl) ?_
      refine sq_callB en131 rfl rfl (h2) ⟨rfl, rfl, trivial⟩ rfl rfl rfl rfl (lt rfl) ?_
      refine sq (f_pick rfl rfl (lt rfl)) rfl rfl ?_
      refine sq (f_assign rfl (lt rfl)) rfl rfl ?_
      refine hits_nil ?_
      refine to_next ?_
      refine hits_seq ?_
      refine hits_seq ?_
      refine hits_region ?_
      refine sq (f_move rfl (lt rfl)) rfl rfl ?_
      refine hits_nil ?_
      refine to_next ?_
      refine hits_cond rfl (fun c0 => absurd c0 Bool.false_ne_true) (fun c0 => ?_)
      refine hits_skip ?_
      refine to_next ?_
      refine hits_seq ?_
      refine hits_region ?_
      refine sq (f_move rfl (lt rfl)) rfl rfl ?_
      refine sq (f_assign rfl (lt rfl)) rfl rfl ?_
      refine hits_nil ?_
      refine to_next ?_
      refine hits_ret ?_
      exact hits_doneX hO (.inl rfl) rfl rfl rfl rfl rfl ⟨rfl, rfl, trivial⟩ rfl
set_option maxRecDepth 100000 in
theorem six_c (ts : List Tx) (s : Tx) (hts : ts.length ≤ 65536) : CallsP Tryz.prog Lw 164 [.list 1 (ts.map txD), txD s] (.sc (.int .i64 (ixG ts s 0))) := by
  have hll : (ts.map txD).length = ts.length := List.length_map _
  refine callsP_of gs_lw Tryz.func164 rfl Tryz.ntmps164 rfl fun w0 S0 stab => ?_
  refine hits_seq ?_
  refine hits_region ?_
  refine sq (f_assign rfl (lt rfl)) rfl rfl ?_
  refine hits_nil ?_
  refine to_next ?_
  refine hits_seq ?_
  refine hits_seq ?_
  refine hits_region ?_
  refine sq (f_move rfl (lt rfl)) rfl rfl ?_
  refine sq (f_lenList rfl rfl un41 (lt rfl)) rfl rfl ?_
  refine sq (f_move rfl (lt rfl)) rfl rfl ?_
  refine hits_nil ?_
  refine to_next ?_
  refine hits_block ?_
  refine hits_loop (fun k : Nat => [(.slot 0, some (.d (.list 1 (ts.map txD)))), (.slot 1, some (.d (txD s))), (.slot 7, some (.d (.sc (.int .i64 (ts.length : Int))))), (.slot 8, some (.d (.sc (.int .i64 (k : Int)))))]) (fun k : Nat => k ≤ ts.length ∧ ixG (ts.drop k) s k = ixG ts s 0) (fun k : Nat => ts.length - k) 0 ⟨Nat.zero_le _, by rw [List.drop_zero]⟩ ⟨rfl, rfl, (by rw [← hll]; rfl), rfl, trivial⟩ rfl ?_
  intro k hx0
  obtain ⟨hk0, hJ⟩ := hx0
  refine hits_seq ?_
  by_cases hk : k < ts.length
  · obtain ⟨t, hx⟩ : ∃ t, ts[k]? = some t := ⟨_, List.getElem?_eq_getElem hk⟩
    rw [list_at hx, ixG] at hJ
    refine hits_region ?_
    refine sq (f_bin rfl rfl (bT (decide_eq_true (by omega))) (lt rfl)) rfl rfl ?_
    refine hits_nil ?_
    refine to_next ?_
    refine hits_seq ?_
    refine hits_cond rfl (fun c0 => ?_) (fun c0 => absurd c0 Bool.false_ne_true.symm)
    refine hits_skip ?_
    refine to_next ?_
    refine hits_seq ?_
    refine hits_block ?_
    refine hits_seq ?_
    refine hits_region ?_
    refine sq (f_move rfl (lt rfl)) rfl rfl ?_
    refine sq (f_assign rfl (lt rfl)) rfl rfl ?_
    refine hits_nil ?_
    refine to_next ?_
    refine hits_seq ?_
    by_cases hs : s = t
    · rw [if_pos hs] at hJ
      refine hits_region ?_
      refine sq (f_move rfl (lt rfl)) rfl rfl ?_
      refine sq (f_move rfl (lt rfl)) rfl rfl ?_
      refine sq (f_move rfl (lt rfl)) rfl rfl ?_
      refine sq (f_idxList rfl rfl rfl un41 kd9 (Int.natCast_nonneg _) (txs_at hx) (lt rfl)) rfl rfl ?_
      refine sq (f_load kd9 rfl rfl (lt rfl)) rfl rfl ?_
      refine sq (f_bin rfl rfl (bT (((B_beq _ _).trans (decide_eq_true hs)))) (lt rfl)) rfl rfl ?_
      refine hits_nil ?_
      refine to_next ?_
      refine hits_cond rfl (fun c1 => ?_) (fun c1 => absurd c1 Bool.false_ne_true.symm)
      refine hits_seq ?_
      refine hits_region ?_
      refine sq (f_move rfl (lt rfl)) rfl rfl ?_
      refine sq (f_assign rfl (lt rfl)) rfl rfl ?_
      refine hits_nil ?_
      refine to_next ?_
      refine hits_ret ?_
      refine in_ret ?_
      refine to_ret ?_
      refine to_ret ?_
      refine in_ret ?_
      refine to_ret ?_
      exact hits_done (.inl rfl) rfl rfl (by rw [← hJ]; rfl)
    · rw [if_neg hs] at hJ
      refine hits_region ?_
      refine sq (f_move rfl (lt rfl)) rfl rfl ?_
      refine sq (f_move rfl (lt rfl)) rfl rfl ?_
      refine sq (f_move rfl (lt rfl)) rfl rfl ?_
      refine sq (f_idxList rfl rfl rfl un41 kd9 (Int.natCast_nonneg _) (txs_at hx) (lt rfl)) rfl rfl ?_
      refine sq (f_load kd9 rfl rfl (lt rfl)) rfl rfl ?_
      refine sq (f_bin rfl rfl (bT (((B_beq _ _).trans (decide_eq_false hs)))) (lt rfl)) rfl rfl ?_
      refine hits_nil ?_
      refine to_next ?_
      refine hits_cond rfl (fun c1 => absurd c1 Bool.false_ne_true) (fun c1 => ?_)
      refine hits_skip ?_
      refine in_next ?_
      refine to_next ?_
      refine hits_region ?_
      refine sq (f_bin rfl rfl (iT (((IntWalk.i64_in _ (by omega)).trans (by omega) : _ = ((k + 1 : Nat) : Int)))) (lt rfl)) rfl rfl ?_
      refine sq (f_move rfl (lt rfl)) rfl rfl ?_
      refine hits_nil ?_
      refine to_next ?_
      refine round_end (k + 1) ⟨by omega, hJ⟩ (by omega) ⟨rfl, rfl, rfl, rfl, trivial⟩ rfl
  · obtain rfl : k = ts.length := by omega
    rw [List.drop_length, ixG] at hJ
    refine hits_region ?_
    refine sq (f_bin rfl rfl (bT (decide_eq_false (by omega))) (lt rfl)) rfl rfl ?_
    refine hits_nil ?_
    refine to_next ?_
    refine hits_seq ?_
    refine hits_cond rfl (fun c0 => absurd c0 Bool.false_ne_true) (fun c0 => ?_)
    refine hits_exit ?_
    refine to_exit ?_
    refine to_exit ?_
    refine in_hit rfl ?_
    refine to_next ?_
    refine hits_seq ?_
    refine hits_region ?_
    refine sq (f_assign rfl (lt rfl)) rfl rfl ?_
    refine hits_nil ?_
    refine to_next ?_
    refine hits_ret ?_
    exact hits_done (.inl rfl) rfl rfl (by rw [← hJ]; rfl)
set_option maxRecDepth 100000 in
theorem sco_c (ts : List Tx) (s : Tx) (hts : ts.length ≤ 65536) : CallsP Tryz.prog Lw 149 [.list 1 (ts.map txD), txD s] (.sc (.bool (ts.contains s))) := by
  refine callsP_of gs_lw Tryz.func149 rfl Tryz.ntmps149 rfl fun w0 S0 stab => ?_
  refine hits_seq ?_
  refine hits_region ?_
  refine sq (f_assign rfl (lt rfl)) rfl rfl ?_
  refine hits_nil ?_
  refine to_next ?_
  refine hits_seq ?_
  refine hits_region ?_
  refine sq (f_move rfl (lt rfl)) rfl rfl ?_
  refine sq (f_move rfl (lt rfl)) rfl rfl ?_
  refine sq (f_call en164 rfl (six_c ts s hts) (lt rfl)) rfl rfl ?_
  refine sq (f_bin rfl rfl (bT ((ixG_ge ts s 0))) (lt rfl)) rfl rfl ?_
  refine sq (f_assign rfl (lt rfl)) rfl rfl ?_
  refine hits_nil ?_
  refine to_next ?_
  refine hits_ret ?_
  exact hits_done (.inl rfl) rfl rfl rfl
theorem keys_c : CallsP Tryz.prog Lw 47 [.sc (.string (B [104, 101, 97, 100, 101, 114, 32, 109, 101, 116, 97, 32, 114, 101, 103, 105, 115, 116, 101, 114, 32, 99, 111, 117, 110, 116, 101, 114, 32, 109, 101, 116, 101, 114, 32, 112, 97, 114, 115, 101, 114, 32, 97, 99, 116, 105, 111, 110, 32, 116, 97, 98, 108, 101, 32, 99, 111, 110, 116, 114, 111, 108, 32, 100, 101, 112, 97, 114, 115, 101, 114, 32, 107, 101, 121, 32, 97, 99, 116, 105, 111, 110, 115, 32, 100, 101, 102, 97, 117, 108, 116, 32, 115, 105, 122, 101, 32, 116, 97, 107, 101, 32, 103, 111, 32, 115, 101, 108, 101, 99, 116, 32, 101, 108, 115, 101, 32, 101, 120, 97, 99, 116, 32, 112, 114, 101, 102, 105, 120, 32, 109, 97, 115, 107, 32, 114, 97, 110, 103, 101, 32, 105, 102, 32, 97, 112, 112, 108, 121, 32, 109, 97, 107, 101, 32, 103, 111, 110, 101, 32, 99, 111, 117, 110, 116, 32, 114, 101, 97, 100, 32, 119, 114, 105, 116, 101, 32, 114, 97, 110, 100, 111, 109, 32, 100, 114, 111, 112, 32, 100, 105, 103, 101, 115, 116, 32, 99, 108, 111, 110, 101, 32, 97, 103, 97, 105, 110, 32, 114, 111, 117, 110, 100, 32, 118, 97, 108, 105, 100, 32, 99, 97, 115, 116, 32, 104, 97, 115, 104]))] (.list 1 (keyWords.map txD)) := fields_g (by decide +kernel) (by decide +kernel) (by decide +kernel)
set_option maxRecDepth 100000 in
theorem key_c (s : Tx) : CallsP Tryz.prog Lw 122 [txD s] (.sc (.bool (keyB s))) := by
  refine callsP_of gs_lw Tryz.func122 rfl Tryz.ntmps122 rfl fun w0 S0 stab => ?_
  refine hits_seq ?_
  refine hits_region ?_
  refine sq (f_assign rfl (lt rfl)) rfl rfl ?_
  refine hits_nil ?_
  refine to_next ?_
  refine hits_seq ?_
  refine hits_region ?_
  refine sq (f_call en47 rfl keys_c (lt rfl)) rfl rfl ?_
  refine sq (f_move rfl (lt rfl)) rfl rfl ?_
  refine sq (f_call en149 rfl (sco_c keyWords s (by decide +kernel)) (lt rfl)) rfl rfl ?_
  refine sq (f_assign rfl (lt rfl)) rfl rfl ?_
  refine hits_nil ?_
  refine to_next ?_
  refine hits_ret ?_
  exact hits_done (.inl rfl) rfl rfl rfl
set_option maxRecDepth 100000 in
theorem need_c {L : List Wd} {i : Nat} (hL : L.length ≤ 65536) (hi : i ≤ L.length) {l : Tx} {ts : List Tx} (hts : ts.length ≤ 65536) (hf : CallsP Tryz.prog Lw 47 [txD l] (.list 1 (ts.map txD))) : CallsX Tryz.prog Lw pvN 83 [LDw L, .sc (.int .i64 (i : Int))] (fun b => [txD l]) (ocOf (LDw L) (fun _ : Unit => D.tup []) ((needP ts).run wEnd L i)) := by
  refine callsX_of (m := 1) Tryz.func83 rfl Tryz.ntmps83 (fun _ => rfl) rfl rfl fun hne w0 S0 b stab => ?_
  obtain ⟨o, hO⟩ : ∃ o, o = ocOf (LDw L) (fun _ : Unit => D.tup []) ((needP ts).run wEnd L i) := ⟨_, rfl⟩
  rw [← hO] at hne ⊢
  have hll : (ts.map txD).length = ts.length := List.length_map _
  refine hits_seq ?_
  refine hits_region ?_
  refine sq (f_move rfl (lt rfl)) rfl rfl ?_
  refine sq (f_call en47 rfl hf (lt rfl)) rfl rfl ?_
  refine sq (f_lenList rfl rfl un41 (lt rfl)) rfl rfl ?_
  refine sq (f_move rfl (lt rfl)) rfl rfl ?_
  refine hits_nil ?_
  refine to_next ?_
  refine hits_block ?_
  refine hits_loop (fun x : Nat × Nat => [(.slot 0, some (.ptr 1000000 0)), (.box 1000000, some (.ptr 1000000 0)), (.cell 1000000 0, some (.d (LDw L))), (.cell 1000000 1, some (.d (.sc (.int .i64 (x.2 : Int))))), (.slot 7, some (.d (.list 1 (ts.map txD)))), (.slot 8, some (.d (.sc (.int .i64 (ts.length : Int))))), (.slot 9, some (.d (.sc (.int .i64 (x.1 : Int)))))]) (fun x : Nat × Nat => x.1 ≤ ts.length ∧ x.2 ≤ L.length ∧ o = ocOf (LDw L) (fun _ : Unit => D.tup []) ((needP (ts.drop x.1)).run wEnd L x.2)) (fun x : Nat × Nat => ts.length - x.1) (0, i) ⟨Nat.zero_le _, hi, by rw [List.drop_zero]; exact hO⟩ ⟨rfl, rfl, rfl, rfl, rfl, (by rw [← hll]; rfl), rfl, trivial⟩ rfl ?_
  intro x hx0
  obtain ⟨k, i'⟩ := x
  obtain ⟨hk0, hi', hO⟩ := hx0
  change k ≤ ts.length at hk0
  change i' ≤ L.length at hi'
  change Hits _ [(.slot 0, some (.ptr 1000000 0)), (.box 1000000, some (.ptr 1000000 0)), (.cell 1000000 0, some (.d (LDw L))), (.cell 1000000 1, some (.d (.sc (.int .i64 (i' : Int))))), (.slot 7, some (.d (.list 1 (ts.map txD)))), (.slot 8, some (.d (.sc (.int .i64 (ts.length : Int))))), (.slot 9, some (.d (.sc (.int .i64 (k : Int)))))] _
  refine hits_seq ?_
  by_cases hk : k < ts.length
  · obtain ⟨t, hx⟩ : ∃ t, ts[k]? = some t := ⟨_, List.getElem?_eq_getElem hk⟩
    rw [list_at hx] at hO
    change o = ocOf (LDw L) (fun _ : Unit => D.tup []) (((mayP t).bind fun b => if b = true then needP (ts.drop (k + 1)) else .bad).run wEnd L i') at hO
    refine hits_region ?_
    refine sq (f_bin rfl rfl (bT (decide_eq_true (by omega))) (lt rfl)) rfl rfl ?_
    refine hits_nil ?_
    refine to_next ?_
    refine hits_seq ?_
    refine hits_cond rfl (fun c0 => ?_) (fun c0 => absurd c0 Bool.false_ne_true.symm)
    refine hits_skip ?_
    refine to_next ?_
    refine hits_seq ?_
    refine hits_block ?_
    refine hits_seq ?_
    refine hits_region ?_
    refine sq (f_idxList rfl rfl rfl un41 kd9 (Int.natCast_nonneg _) (txs_at hx) (lt rfl)) rfl rfl ?_
    refine sq (f_load kd9 rfl rfl (lt rfl)) rfl rfl ?_
    refine sq (f_assign rfl (lt rfl)) rfl rfl ?_
    refine hits_nil ?_
    refine to_next ?_
    refine hits_seq ?_
    refine hits_region ?_
    refine sq (f_move rfl (lt rfl)) rfl rfl ?_
    refine sq (f_move rfl (lt rfl)) rfl rfl ?_
    refine sq_pr hO hne (may_c hL hi' t) rfl en95 rfl rfl rfl rfl ⟨rfl, rfl, trivial⟩ rfl rfl (lt rfl) (fun _ _ hd h => And.intro hd (h)) (fun q j hq hO2 => ?_)
    replace hO := hO2
    clear hO2
    cases q
    · refine sq (f_un rfl rfl (lt rfl)) rfl rfl ?_
      refine hits_nil ?_
      refine to_next ?_
      refine hits_cond rfl (fun c1 => ?_) (fun c1 => absurd c1 Bool.false_ne_true.symm)
      refine hits_region ?_
      refine sq (f_build bu84 rfl rfl (lt rfl)) rfl rfl ?_
      refine sq (f_mkIfaceD rfl nif84 (lt rfl)) rfl rfl ?_
      exact sq_panic rfl rfl hO rfl rfl ⟨rfl, rfl, trivial⟩ rfl rfl (fun _ _ hd h => And.intro hd h)
    · refine sq (f_un rfl rfl (lt rfl)) rfl rfl ?_
      refine hits_nil ?_
      refine to_next ?_
      refine hits_cond rfl (fun c1 => absurd c1 Bool.false_ne_true) (fun c1 => ?_)
      refine hits_skip ?_
      refine in_next ?_
      refine to_next ?_
      refine hits_region ?_
      refine sq (f_bin rfl rfl (iT (((IntWalk.i64_in _ (by omega)).trans (by omega) : _ = ((k + 1 : Nat) : Int)))) (lt rfl)) rfl rfl ?_
      refine sq (f_move rfl (lt rfl)) rfl rfl ?_
      refine hits_nil ?_
      refine to_next ?_
      refine round_end (k + 1, j) ⟨by simp only; omega, may_le hq hi', hO⟩ (by simp only; omega) ⟨rfl, rfl, rfl, rfl, rfl, rfl, rfl, trivial⟩ rfl
  · obtain rfl : k = ts.length := by omega
    rw [List.drop_length] at hO
    refine hits_region ?_
    refine sq (f_bin rfl rfl (bT (decide_eq_false (by omega))) (lt rfl)) rfl rfl ?_
    refine hits_nil ?_
    refine to_next ?_
    refine hits_seq ?_
    refine hits_cond rfl (fun c0 => absurd c0 Bool.false_ne_true) (fun c0 => ?_)
    refine hits_exit ?_
    refine to_exit ?_
    refine to_exit ?_
    refine in_hit rfl ?_
    exact hits_doneX hO (.inr rfl) rfl rfl rfl rfl rfl ⟨rfl, rfl, trivial⟩ rfl
set_option maxRecDepth 100000 in
theorem name_c {L : List Wd} {i : Nat} (hL : L.length ≤ 65536) (hi : i ≤ L.length)  : CallsX Tryz.prog Lw pvN 82 [LDw L, .sc (.int .i64 (i : Int))] (fun b => []) (ocOf (LDw L) (txD) ((nameP).run wEnd L i)) := by
  refine callsX_of (m := 0) Tryz.func82 rfl Tryz.ntmps82 (fun _ => rfl) rfl rfl fun hne w0 S0 b stab => ?_
  obtain ⟨o, hO⟩ : ∃ o, o = ocOf (LDw L) (txD) ((nameP).run wEnd L i) := ⟨_, rfl⟩
  rw [← hO] at hne ⊢
  change o = ocOf (LDw L) txD (((mustP (decide ((wordAt wEnd L i).k = 1) && !keyB (wordAt wEnd L i).s)).bind fun x => .ret x.s).run wEnd L i) at hO
  refine hits_seq ?_
  refine hits_region ?_
  refine sq (f_assign rfl (lt rfl)) rfl rfl ?_
  refine hits_nil ?_
  refine to_next ?_
  refine hits_seq ?_
  refine hits_region ?_
  refine sq (f_move rfl (lt rfl)) rfl rfl ?_
  refine sq_callB en31 rfl rfl (next_c hL hi) ⟨rfl, rfl, trivial⟩ rfl rfl rfl rfl (lt rfl) ?_
  refine sq (f_alloc zc37 (lt rfl)) rfl rfl ?_
  refine sq (f_store kd37 rfl rfl rfl rfl rfl) rfl rfl ?_
  refine hits_nil ?_
  refine to_next ?_
  refine hits_seq ?_
  by_cases hk : (wordAt wEnd L i).k = 1
  · rw [decide_eq_true hk, Bool.true_and] at hO
    refine hits_region ?_
    refine sq (f_move rfl (lt rfl)) rfl rfl ?_
    refine sq (f_fieldAddr rfl kf37_0 rfl (lt rfl)) rfl rfl ?_
    refine sq (f_load kd32 rfl rfl (lt rfl)) rfl rfl ?_
    refine sq (f_bin rfl rfl (bT (beq_iff_eq.mpr (by rw [hk]; rfl))) (lt rfl)) rfl rfl ?_
    refine sq (f_move rfl (lt rfl)) rfl rfl ?_
    refine sq_yes (f_fieldAddr rfl kf37_1 rfl (lt rfl)) rfl rfl rfl rfl (lt rfl) ?_
    refine sq_yes (f_load kd9 rfl rfl (lt rfl)) rfl rfl rfl rfl (lt rfl) ?_
    refine sq_yes (f_call en122 rfl (key_c _) (lt rfl)) rfl rfl rfl rfl (lt rfl) ?_
    refine sq_yes (f_un rfl rfl (lt rfl)) rfl rfl rfl rfl (lt rfl) ?_
    refine sq (f_pick rfl rfl (lt rfl)) rfl rfl ?_
    refine sq_pr hO hne (must_c hL hi (!keyB (wordAt wEnd L i).s)) rfl en33 rfl rfl rfl rfl ⟨rfl, rfl, trivial⟩ rfl rfl (lt rfl) (fun _ _ hd h => And.intro hd (h)) (fun q j hq hO2 => ?_)
    replace hO := hO2
    clear hO2
    refine sq (f_field rfl fp37_1 rfl (lt rfl)) rfl rfl ?_
    refine sq (f_assign rfl (lt rfl)) rfl rfl ?_
    refine hits_nil ?_
    refine to_next ?_
    refine hits_ret ?_
    exact hits_doneX hO (.inl rfl) rfl rfl rfl rfl rfl ⟨rfl, rfl, trivial⟩ rfl
  · rw [decide_eq_false hk, Bool.false_and] at hO
    refine hits_region ?_
    refine sq (f_move rfl (lt rfl)) rfl rfl ?_
    refine sq (f_fieldAddr rfl kf37_0 rfl (lt rfl)) rfl rfl ?_
    refine sq (f_load kd32 rfl rfl (lt rfl)) rfl rfl ?_
    refine sq (f_bin rfl rfl (bT (beq_eq_false_iff_ne.mpr (by omega))) (lt rfl)) rfl rfl ?_
    refine sq (f_move rfl (lt rfl)) rfl rfl ?_
    refine sq_no rfl rfl rfl rfl rfl (lt rfl) (lt rfl) ?_
    refine sq_no rfl rfl rfl rfl rfl (lt rfl) (lt rfl) ?_
    refine sq_no rfl rfl rfl rfl rfl (lt rfl) (lt rfl) ?_
    refine sq_no rfl rfl rfl rfl rfl (lt rfl) (lt rfl) ?_
    refine sq (f_pick rfl rfl (lt rfl)) rfl rfl ?_
    refine sq_pr hO hne (must_c hL hi (false)) rfl en33 rfl rfl rfl rfl ⟨rfl, rfl, trivial⟩ rfl rfl (lt rfl) (fun _ _ hd h => And.intro hd (h)) (fun q j hq hO2 => ?_)
    replace hO := hO2
    clear hO2
    refine sq (f_field rfl fp37_1 rfl (lt rfl)) rfl rfl ?_
    refine sq (f_assign rfl (lt rfl)) rfl rfl ?_
    refine hits_nil ?_
    refine to_next ?_
    refine hits_ret ?_
    exact hits_doneX hO (.inl rfl) rfl rfl rfl rfl rfl ⟨rfl, rfl, trivial⟩ rfl
set_option maxRecDepth 100000 in
theorem whole_c {L : List Wd} {i : Nat} (hL : L.length ≤ 65536) (hi : i ≤ L.length) (hS : Small L)  : CallsX Tryz.prog Lw pvN 87 [LDw L, .sc (.int .i64 (i : Int))] (fun b => []) (ocOf (LDw L) (nD) ((wholeP).run wEnd L i)) := by
  refine callsX_of (m := 0) Tryz.func87 rfl Tryz.ntmps87 (fun _ => rfl) rfl rfl fun hne w0 S0 b stab => ?_
  obtain ⟨o, hO⟩ : ∃ o, o = ocOf (LDw L) (nD) ((wholeP).run wEnd L i) := ⟨_, rfl⟩
  rw [← hO] at hne ⊢
  change o = ocOf (LDw L) nD (((mustP (decide ((wordAt wEnd L i).k = 2))).bind fun x => .ret x.lo).run wEnd L i) at hO
  refine hits_seq ?_
  refine hits_region ?_
  refine sq (f_assign rfl (lt rfl)) rfl rfl ?_
  refine hits_nil ?_
  refine to_next ?_
  refine hits_seq ?_
  refine hits_region ?_
  refine sq (f_move rfl (lt rfl)) rfl rfl ?_
  refine sq (f_move rfl (lt rfl)) rfl rfl ?_
  refine sq_callB en31 rfl rfl (next_c hL hi) ⟨rfl, rfl, trivial⟩ rfl rfl rfl rfl (lt rfl) ?_
  refine sq (f_field rfl fp37_0 rfl (lt rfl)) rfl rfl ?_
  by_cases hk : (wordAt wEnd L i).k = 2
  · have hsm := small_at hS hk
    rw [decide_eq_true hk] at hO
    refine sq (f_bin rfl rfl (bT (beq_iff_eq.mpr (by rw [hk]; rfl))) (lt rfl)) rfl rfl ?_
    refine sq_pr hO hne (must_c hL hi true) rfl en33 rfl rfl rfl rfl ⟨rfl, rfl, trivial⟩ rfl rfl (lt rfl) (fun _ _ hd h => And.intro hd (h)) (fun q j hq hO2 => ?_)
    replace hO := hO2
    clear hO2
    obtain ⟨_, hqe, _⟩ := must_ok hq
    rw [← hqe] at hsm
    refine sq (f_field rfl fp37_2 rfl (lt rfl)) rfl rfl ?_
    refine sq (f_field rfl fp35_2 rfl (lt rfl)) rfl rfl ?_
    refine sq (f_convI rfl us33 un3 (IntWalk.i64_in _ (by omega)) (lt rfl)) rfl rfl ?_
    refine sq (f_assign rfl (lt rfl)) rfl rfl ?_
    refine hits_nil ?_
    refine to_next ?_
    refine hits_ret ?_
    exact hits_doneX hO (.inl rfl) rfl rfl rfl rfl rfl ⟨rfl, rfl, trivial⟩ rfl
  · rw [decide_eq_false hk] at hO
    refine sq (f_bin rfl rfl (bT (beq_eq_false_iff_ne.mpr (by omega))) (lt rfl)) rfl rfl ?_
    refine sq_pr hO hne (must_c hL hi false) rfl en33 rfl rfl rfl rfl ⟨rfl, rfl, trivial⟩ rfl rfl (lt rfl) (fun _ _ hd h => And.intro hd (h)) (fun q j hq hO2 => ?_)
    replace hO := hO2
    clear hO2
    exact absurd (must_ok hq).1 Bool.false_ne_true
set_option maxRecDepth 100000 in
theorem lit_c {L : List Wd} {i : Nat} (hL : L.length ≤ 65536) (hi : i ≤ L.length)  : CallsX Tryz.prog Lw pvN 97 [LDw L, .sc (.int .i64 (i : Int))] (fun b => []) (ocOf (LDw L) (n3D) ((litP).run wEnd L i)) := by
  refine callsX_of (m := 0) Tryz.func97 rfl Tryz.ntmps97 (fun _ => rfl) rfl rfl fun hne w0 S0 b stab => ?_
  obtain ⟨o, hO⟩ : ∃ o, o = ocOf (LDw L) (n3D) ((litP).run wEnd L i) := ⟨_, rfl⟩
  rw [← hO] at hne ⊢
  change o = ocOf (LDw L) n3D (((mustP (decide ((wordAt wEnd L i).k = 3))).bind fun x => .ret (x.w, x.hi, x.lo)).run wEnd L i) at hO
  refine hits_seq ?_
  refine hits_region ?_
  refine sq (f_alloc zc35 (lt rfl)) rfl rfl ?_
  refine hits_nil ?_
  refine to_next ?_
  refine hits_seq ?_
  refine hits_region ?_
  refine sq (f_move rfl (lt rfl)) rfl rfl ?_
  refine sq (f_move rfl (lt rfl)) rfl rfl ?_
  refine sq_callB en31 rfl rfl (next_c hL hi) ⟨rfl, rfl, trivial⟩ rfl rfl rfl rfl (lt rfl) ?_
  refine sq (f_field rfl fp37_0 rfl (lt rfl)) rfl rfl ?_
  by_cases hk : (wordAt wEnd L i).k = 3
  · rw [decide_eq_true hk] at hO
    refine sq (f_bin rfl rfl (bT (beq_iff_eq.mpr (by rw [hk]; rfl))) (lt rfl)) rfl rfl ?_
    refine sq_pr hO hne (must_c hL hi true) rfl en33 rfl rfl rfl rfl ⟨rfl, rfl, trivial⟩ rfl rfl (lt rfl) (fun _ _ hd h => And.intro hd (h)) (fun q j hq hO2 => ?_)
    replace hO := hO2
    clear hO2
    refine sq (f_field rfl fp37_2 rfl (lt rfl)) rfl rfl ?_
    refine sq (f_store kd35 rfl rfl rfl rfl rfl) rfl rfl ?_
    refine hits_nil ?_
    refine to_next ?_
    refine hits_ret ?_
    exact hits_doneX hO (.inl rfl) rfl rfl rfl rfl rfl ⟨rfl, rfl, trivial⟩ rfl
  · rw [decide_eq_false hk] at hO
    refine sq (f_bin rfl rfl (bT (beq_eq_false_iff_ne.mpr (by omega))) (lt rfl)) rfl rfl ?_
    refine sq_pr hO hne (must_c hL hi false) rfl en33 rfl rfl rfl rfl ⟨rfl, rfl, trivial⟩ rfl rfl (lt rfl) (fun _ _ hd h => And.intro hd (h)) (fun q j hq hO2 => ?_)
    replace hO := hO2
    clear hO2
    exact absurd (must_ok hq).1 Bool.false_ne_true
set_option maxRecDepth 100000 in
theorem owner_c {L : List Wd} {i : Nat} (hL : L.length ≤ 65536) (hi : i ≤ L.length)  : CallsX Tryz.prog Lw pvN 154 [LDw L, .sc (.int .i64 (i : Int))] (fun b => []) (ocOf (LDw L) (txD) ((ownerP).run wEnd L i)) := by
  refine callsX_of (m := 0) Tryz.func154 rfl Tryz.ntmps154 (fun _ => rfl) rfl rfl fun hne w0 S0 b stab => ?_
  obtain ⟨o, hO⟩ : ∃ o, o = ocOf (LDw L) (txD) ((ownerP).run wEnd L i) := ⟨_, rfl⟩
  rw [← hO] at hne ⊢
  refine hits_seq ?_
  refine hits_region ?_
  refine sq (f_assign rfl (lt rfl)) rfl rfl ?_
  refine hits_nil ?_
  refine to_next ?_
  refine hits_seq ?_
  refine hits_seq ?_
  refine hits_region ?_
  refine sq (f_move rfl (lt rfl)) rfl rfl ?_
  refine sq_pr hO hne (may_c hL hi txMeta) rfl en95 rfl rfl rfl rfl ⟨rfl, rfl, trivial⟩ rfl rfl (lt rfl) (fun _ _ hd h => And.intro hd (h)) (fun q j hq hO2 => ?_)
  replace hO := hO2
  clear hO2
  cases q
  · have hO : o = ocOf (LDw L) txD (((nameP).bind .ret).run wEnd L j) := by rw [bind_ret]; exact hO
    refine hits_nil ?_
    refine to_next ?_
    refine hits_cond rfl (fun c0 => absurd c0 Bool.false_ne_true) (fun c0 => ?_)
    refine hits_skip ?_
    refine to_next ?_
    refine hits_seq ?_
    refine hits_region ?_
    refine sq (f_move rfl (lt rfl)) rfl rfl ?_
    refine sq_pr hO hne (name_c hL (may_le hq hi)) rfl en82 rfl rfl rfl rfl ⟨rfl, rfl, trivial⟩ rfl rfl (lt rfl) (fun _ _ hd h => And.intro hd (h)) (fun q2 j2 hq2 hO2 => ?_)
    replace hO := hO2
    clear hO2
    refine sq (f_assign rfl (lt rfl)) rfl rfl ?_
    refine hits_nil ?_
    refine to_next ?_
    refine hits_ret ?_
    exact hits_doneX hO (.inl rfl) rfl rfl rfl rfl rfl ⟨rfl, rfl, trivial⟩ rfl
  · refine hits_nil ?_
    refine to_next ?_
    refine hits_cond rfl (fun c0 => ?_) (fun c0 => absurd c0 Bool.false_ne_true.symm)
    refine hits_seq ?_
    refine hits_region ?_
    refine sq (f_assign rfl (lt rfl)) rfl rfl ?_
    refine hits_nil ?_
    refine to_next ?_
    refine hits_ret ?_
    refine to_ret ?_
    exact hits_doneX hO (.inl rfl) rfl rfl rfl rfl rfl ⟨rfl, rfl, trivial⟩ rfl
set_option maxRecDepth 100000 in
theorem field_c {L : List Wd} {i : Nat} (hL : L.length ≤ 65536) (hi : i ≤ L.length)  : CallsX Tryz.prog Lw pvN 179 [LDw L, .sc (.int .i64 (i : Int))] (fun b => []) (ocOf (LDw L) (fun p => .tup [txD p.1, txD p.2]) ((fieldP).run wEnd L i)) := by
  refine callsX_of (m := 0) Tryz.func179 rfl Tryz.ntmps179 (fun _ => rfl) rfl rfl fun hne w0 S0 b stab => ?_
  obtain ⟨o, hO⟩ : ∃ o, o = ocOf (LDw L) (fun p => .tup [txD p.1, txD p.2]) ((fieldP).run wEnd L i) := ⟨_, rfl⟩
  rw [← hO] at hne ⊢
  refine hits_seq ?_
  refine hits_region ?_
  refine sq (f_assign rfl (lt rfl)) rfl rfl ?_
  refine sq (f_assign rfl (lt rfl)) rfl rfl ?_
  refine hits_nil ?_
  refine to_next ?_
  refine hits_seq ?_
  refine hits_region ?_
  refine sq (f_move rfl (lt rfl)) rfl rfl ?_
  refine sq_pr hO hne (owner_c hL hi) rfl en154 rfl rfl rfl rfl ⟨rfl, rfl, trivial⟩ rfl rfl (lt rfl) (fun _ _ hd h => And.intro hd (h)) (fun a j hq hO2 => ?_)
  replace hO := hO2
  clear hO2
  have hj := (tame_owner hq hi).2
  refine sq (f_assign rfl (lt rfl)) rfl rfl ?_
  refine hits_nil ?_
  refine to_next ?_
  refine hits_seq ?_
  refine hits_region ?_
  refine sq (f_move rfl (lt rfl)) rfl rfl ?_
  refine sq_pr hO hne (need_c (l := [46]) (ts := [[46]]) hL hj (by decide) (fields_g (l := [46]) (ts := [[46]]) (by decide +kernel) (by decide +kernel) (by decide +kernel))) rfl en83 rfl rfl rfl rfl ⟨rfl, rfl, trivial⟩ rfl rfl (lt rfl) (fun _ _ hd h => And.intro hd (h)) (fun u j2 hq2 hO2 => ?_)
  replace hO := hO2
  clear hO2
  refine hits_nil ?_
  refine to_next ?_
  refine hits_seq ?_
  refine hits_region ?_
  have hj2 := (tame_need _ hq2 hj).2
  refine sq (f_move rfl (lt rfl)) rfl rfl ?_
  refine sq (f_move rfl (lt rfl)) rfl rfl ?_
  refine sq_pr hO hne (name_c hL hj2) rfl en82 rfl rfl rfl rfl ⟨rfl, rfl, trivial⟩ rfl rfl (lt rfl) (fun _ _ hd h => And.intro hd (h)) (fun c j3 hq3 hO2 => ?_)
  replace hO := hO2
  clear hO2
  refine sq (f_assign rfl (lt rfl)) rfl rfl ?_
  refine sq (f_assign rfl (lt rfl)) rfl rfl ?_
  refine hits_nil ?_
  refine to_next ?_
  refine hits_ret ?_
  exact hits_doneX hO (.inl rfl) rfl rfl rfl rfl rfl ⟨rfl, rfl, trivial⟩ rfl
set_option maxRecDepth 100000 in
theorem typed_c {L : List Wd} {i : Nat} (hL : L.length ≤ 65536) (hi : i ≤ L.length) (hS : Small L)  : CallsX Tryz.prog Lw pvN 86 [LDw L, .sc (.int .i64 (i : Int))] (fun b => []) (ocOf (LDw L) (fdD) ((typedP).run wEnd L i)) := by
  refine callsX_of (m := 0) Tryz.func86 rfl Tryz.ntmps86 (fun _ => rfl) rfl rfl fun hne w0 S0 b stab => ?_
  obtain ⟨o, hO⟩ : ∃ o, o = ocOf (LDw L) (fdD) ((typedP).run wEnd L i) := ⟨_, rfl⟩
  rw [← hO] at hne ⊢
  refine hits_seq ?_
  refine hits_region ?_
  refine sq (f_alloc zc150 (lt rfl)) rfl rfl ?_
  refine hits_nil ?_
  refine to_next ?_
  refine hits_seq ?_
  refine hits_region ?_
  refine sq (f_move rfl (lt rfl)) rfl rfl ?_
  refine sq_pr hO hne (name_c hL hi) rfl en82 rfl rfl rfl rfl ⟨rfl, rfl, trivial⟩ rfl rfl (lt rfl) (fun _ _ hd h => And.intro hd (h)) (fun a j hq hO2 => ?_)
  replace hO := hO2
  clear hO2
  have hj := (eager_name hq hi).2
  refine sq (f_fieldAddr rfl kf150_0 rfl (lt rfl)) rfl rfl ?_
  refine sq (f_store kd9 rfl rfl rfl rfl rfl) rfl rfl ?_
  refine hits_nil ?_
  refine to_next ?_
  refine hits_seq ?_
  refine hits_region ?_
  refine sq (f_move rfl (lt rfl)) rfl rfl ?_
  refine sq_pr hO hne (whole_c hL hj hS) rfl en87 rfl rfl rfl rfl ⟨rfl, rfl, trivial⟩ rfl rfl (lt rfl) (fun _ _ hd h => And.intro hd (h)) (fun n j2 hq2 hO2 => ?_)
  replace hO := hO2
  clear hO2
  refine sq (f_fieldAddr rfl kf150_1 rfl (lt rfl)) rfl rfl ?_
  refine sq (f_store kd3 rfl rfl rfl rfl rfl) rfl rfl ?_
  refine hits_nil ?_
  refine to_next ?_
  refine hits_seq ?_
  refine hits_region ?_
  refine sq (f_load kd150 rfl rfl (lt rfl)) rfl rfl ?_
  refine sq (f_store kd150 rfl rfl rfl rfl rfl) rfl rfl ?_
  refine hits_nil ?_
  refine to_next ?_
  refine hits_ret ?_
  exact hits_doneX hO (.inl rfl) rfl rfl rfl rfl rfl ⟨rfl, rfl, trivial⟩ rfl
end Go.Proofs.YtbgeejmhkmjfdaaGreatDoor.Ln
