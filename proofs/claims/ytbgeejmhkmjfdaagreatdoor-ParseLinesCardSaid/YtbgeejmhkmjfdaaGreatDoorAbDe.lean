/- The parser's generic lists over data. -/
import Derived.Test.YtbgeejmhkmjfdaaGreatDoorAbSt
import Derived.Test.YtbgeejmhkmjfdaaGreatDoorAbApp
namespace Go.Proofs.YtbgeejmhkmjfdaaGreatDoor.Ln
open Go Go.RowKit Go.Ab Go.Proofs 
set_option linter.unusedVariables false
set_option linter.unusedSimpArgs false
theorem sk56 : sk Tryz.prog 56 = some (150, 2, [.string ByteArray.empty, .int .i64 0]) := by kernel_rfl
theorem apk56 : apk Tryz.prog 56 56 = some (150, 2, 24) := by kernel_rfl
theorem sk58 : sk Tryz.prog 58 = some (104, 11, [.int .u8 0, .int .i64 0, .int .u64 0, .int .u64 0, .string ByteArray.empty, .string ByteArray.empty, .int .i64 0, .int .i64 0, .slice none 0 0, .int .i64 0, .int .u8 0]) := by kernel_rfl
theorem apk58 : apk Tryz.prog 58 58 = some (104, 11, 120) := by kernel_rfl
theorem sk59 : sk Tryz.prog 59 = some (35, 3, [.int .i64 0, .int .u64 0, .int .u64 0]) := by kernel_rfl
theorem apk59 : apk Tryz.prog 59 59 = some (35, 3, 24) := by kernel_rfl
theorem sk41 : sk Tryz.prog 41 = some (9, 1, [.string ByteArray.empty]) := by kernel_rfl
theorem apk41 : apk Tryz.prog 41 41 = some (9, 1, 16) := by kernel_rfl
theorem sk57 : sk Tryz.prog 57 = some (100, 6, [.string ByteArray.empty, .slice none 0 0, .slice none 0 0, .slice none 0 0, .string ByteArray.empty, .int .i64 0]) := by kernel_rfl
theorem apk57 : apk Tryz.prog 57 57 = some (100, 6, 112) := by kernel_rfl
theorem kd151 : kd Tryz.prog 151 = some (false, 1) := by kernel_rfl
theorem kd66 : kd Tryz.prog 66 = some (false, 1) := by kernel_rfl
theorem kd132 : kd Tryz.prog 132 = some (false, 1) := by kernel_rfl
theorem zc104 : zc Tryz.prog 104 = some [.int .u8 0, .int .i64 0, .int .u64 0, .int .u64 0, .string ByteArray.empty, .string ByteArray.empty, .int .i64 0, .int .i64 0, .slice none 0 0, .int .i64 0, .int .u8 0] := by kernel_rfl
theorem kd158 : kd Tryz.prog 158 = some (false, 1) := by kernel_rfl
theorem kd104 : kd Tryz.prog 104 = some (true, 11) := by kernel_rfl
theorem en123 : enters Tryz.prog 123 = true := by kernel_rfl
theorem en133 : enters Tryz.prog 133 = true := by kernel_rfl
theorem en129 : enters Tryz.prog 129 = true := by kernel_rfl
theorem en126 : enters Tryz.prog 126 = true := by kernel_rfl
theorem en132 : enters Tryz.prog 132 = true := by kernel_rfl
theorem ended_eq {α : Type} (p : PW α) : endedP p = p.bind fun x => (needP [[59]]).bind fun _ => .ret x := rfl
theorem eager_typed : Eager typedP := eager_bind eager_name fun a => tame_bind eager_whole.tame fun n => tame_ret _
theorem eager_ended {α : Type} {p : PW α} (hp : Eager p) : Eager (endedP p) := eager_bind hp fun x => tame_bind (tame_need _) fun _ => tame_ret _
theorem tame_each {α : Type} {p : PW α} (hp : Tame p) : ∀ (f : Nat) (acc : List α), Tame (eachP p f acc)
  | 0, acc => tame_oof
  | f + 1, acc => tame_bind (tame_may _) fun b => tame_ite (tame_ret _) (tame_bind hp fun x => tame_each hp f _)
theorem tame_some {α : Type} {p : PW α} (hp : Tame p) (e : Tx) : ∀ (f : Nat) (acc : List α), Tame (someP p e f acc)
  | 0, acc => tame_oof
  | f + 1, acc => tame_bind hp fun x => tame_bind (tame_may _) fun b => tame_ite (tame_some hp e f _) (tame_bind (tame_need _) fun _ => tame_ret _)
theorem tame_row {α : Type} {p : PW α} (hp : Tame p) (e : Tx) (f : Nat) : Tame (rowP p e f) := tame_bind (tame_may _) fun b => tame_ite (tame_ret _) (tame_some hp e f [])
def kdD (x : Ex × Nat) : D := .agg (exCs x.1 ++ [.sc (.int .u8 (x.2 : Int))])
def csD (c : Cs) : D := .agg [nD c.v.1, .sc (.int .u64 (c.v.2.1 : Int)), .sc (.int .u64 (c.v.2.2 : Int)), nD c.m.1, .sc (.int .u64 (c.m.2.1 : Int)), .sc (.int .u64 (c.m.2.2 : Int)), txD c.dest]
def stD (s : Stt) : D := .agg [txD s.name, .list 1 (s.headers.map txD), .list 10 (s.sel.map exD), .list 7 (s.cases.map csD), txD s.dest, nD s.line]
def dcD (d : Dc) : D := .agg [.sc (.int .u8 (d.kind : Int)), txD d.name, .list 2 (d.fields.map fdD), nD d.w, nD d.n, nD d.rate, nD d.burst, .list 6 (d.states.map stD), .list 11 (d.keys.map kdD), .list 1 (d.actions.map txD), txD d.default, .list 3 (d.args.map n3D), .list 9 (d.body.map smD), .list 1 (d.emits.map txD), nD d.line]
set_option maxRecDepth 100000 in
theorem endedf_c (b : Nat) : CallsP Tryz.prog Lw 85 [.sc (.pointer (some ⟨b, 0, none⟩)), .sc (.func (.func 86) #[.pointer (some ⟨b, 0, none⟩)] #[])] (.clo 123 [.eptr [.sc (.func (.func 86) #[.pointer (some ⟨b, 0, none⟩)] #[])], .eptr [.sc (.pointer (some ⟨b, 0, none⟩))]]) := by
  refine callsP_of gs_lw Tryz.func85 rfl Tryz.ntmps85 rfl fun w0 S0 stab => ?_
  refine hits_seq ?_
  refine hits_region ?_
  refine sq (f_box rfl rfl (lt rfl)) rfl rfl ?_
  refine sq (f_box rfl rfl (lt rfl)) rfl rfl ?_
  refine sq (f_assign rfl (lt rfl)) rfl rfl ?_
  refine hits_nil ?_
  refine to_next ?_
  refine hits_seq ?_
  refine hits_region ?_
  refine sq (f_makeClo rfl (lt rfl)) rfl rfl ?_
  refine sq (f_assign rfl (lt rfl)) rfl rfl ?_
  refine hits_nil ?_
  refine to_next ?_
  refine hits_ret ?_
  refine hits_to [(.slot 4, some (.fn 123 [3, 2])), (.box 3, some (.ptr 3 0)), (.cell 3 0, some (.d (.sc (.func (.func 86) #[.pointer (some ⟨b, 0, none⟩)] #[])))), (.box 2, some (.ptr 2 0)), (.cell 2 0, some (.d (.sc (.pointer (some ⟨b, 0, none⟩)))))] ⟨rfl, rfl, rfl, rfl, rfl, trivial⟩ rfl ?_
  refine hits_fn2 4 123 3 2 (by decide) ?_
  exact hits_done (.inl rfl) rfl rfl rfl
set_option maxRecDepth 100000 in
theorem endedk_c (b : Nat) : CallsP Tryz.prog Lw 93 [.sc (.pointer (some ⟨b, 0, none⟩)), .sc (.func (.func 94) #[.pointer (some ⟨b, 0, none⟩)] #[])] (.clo 129 [.eptr [.sc (.func (.func 94) #[.pointer (some ⟨b, 0, none⟩)] #[])], .eptr [.sc (.pointer (some ⟨b, 0, none⟩))]]) := by
  refine callsP_of gs_lw Tryz.func93 rfl Tryz.ntmps93 rfl fun w0 S0 stab => ?_
  refine hits_seq ?_
  refine hits_region ?_
  refine sq (f_box rfl rfl (lt rfl)) rfl rfl ?_
  refine sq (f_box rfl rfl (lt rfl)) rfl rfl ?_
  refine sq (f_assign rfl (lt rfl)) rfl rfl ?_
  refine hits_nil ?_
  refine to_next ?_
  refine hits_seq ?_
  refine hits_region ?_
  refine sq (f_makeClo rfl (lt rfl)) rfl rfl ?_
  refine sq (f_assign rfl (lt rfl)) rfl rfl ?_
  refine hits_nil ?_
  refine to_next ?_
  refine hits_ret ?_
  refine hits_to [(.slot 4, some (.fn 129 [3, 2])), (.box 3, some (.ptr 3 0)), (.cell 3 0, some (.d (.sc (.func (.func 94) #[.pointer (some ⟨b, 0, none⟩)] #[])))), (.box 2, some (.ptr 2 0)), (.cell 2 0, some (.d (.sc (.pointer (some ⟨b, 0, none⟩)))))] ⟨rfl, rfl, rfl, rfl, rfl, trivial⟩ rfl ?_
  refine hits_fn2 4 129 3 2 (by decide) ?_
  exact hits_done (.inl rfl) rfl rfl rfl
set_option maxRecDepth 100000 in
theorem endedt_c (b : Nat) : CallsP Tryz.prog Lw 99 [.sc (.pointer (some ⟨b, 0, none⟩)), .sc (.func (.func 82) #[.pointer (some ⟨b, 0, none⟩)] #[])] (.clo 133 [.eptr [.sc (.func (.func 82) #[.pointer (some ⟨b, 0, none⟩)] #[])], .eptr [.sc (.pointer (some ⟨b, 0, none⟩))]]) := by
  refine callsP_of gs_lw Tryz.func99 rfl Tryz.ntmps99 rfl fun w0 S0 stab => ?_
  refine hits_seq ?_
  refine hits_region ?_
  refine sq (f_box rfl rfl (lt rfl)) rfl rfl ?_
  refine sq (f_box rfl rfl (lt rfl)) rfl rfl ?_
  refine sq (f_assign rfl (lt rfl)) rfl rfl ?_
  refine hits_nil ?_
  refine to_next ?_
  refine hits_seq ?_
  refine hits_region ?_
  refine sq (f_makeClo rfl (lt rfl)) rfl rfl ?_
  refine sq (f_assign rfl (lt rfl)) rfl rfl ?_
  refine hits_nil ?_
  refine to_next ?_
  refine hits_ret ?_
  refine hits_to [(.slot 4, some (.fn 133 [3, 2])), (.box 3, some (.ptr 3 0)), (.cell 3 0, some (.d (.sc (.func (.func 82) #[.pointer (some ⟨b, 0, none⟩)] #[])))), (.box 2, some (.ptr 2 0)), (.cell 2 0, some (.d (.sc (.pointer (some ⟨b, 0, none⟩)))))] ⟨rfl, rfl, rfl, rfl, rfl, trivial⟩ rfl ?_
  refine hits_fn2 4 133 3 2 (by decide) ?_
  exact hits_done (.inl rfl) rfl rfl rfl
set_option maxRecDepth 100000 in
theorem clof_c {L : List Wd} {i : Nat} (hL : L.length ≤ 65536) (hi : i ≤ L.length) {p : PW (Tx × Nat)} (hp : Eager p) (hE : ∀ {i : Nat}, i ≤ L.length → CallsX Tryz.prog Lw pvN 86 [LDw L, .sc (.int .i64 (i : Int))] (fun _ => []) (ocOf (LDw L) (fdD) ((p).run wEnd L i))) : CallsW Tryz.prog Lw pvN 123 [LDw L, .sc (.int .i64 (i : Int))] (fun b => [.eptr [.sc (.func (.func 86) #[.pointer (some ⟨b, 0, none⟩)] #[])], .eptr [.sc (.pointer (some ⟨b, 0, none⟩))]]) (ocOf (LDw L) (fdD) ((endedP p).run wEnd L i)) := by
  refine callsW_of (m := 2) Tryz.func123 rfl Tryz.ntmps123 (fun _ => rfl) rfl rfl fun hne w0 S0 b stab => ?_
  obtain ⟨o, hO⟩ : ∃ o, o = ocOf (LDw L) (fdD) ((endedP p).run wEnd L i) := ⟨_, rfl⟩
  rw [← hO] at hne ⊢
  rw [ended_eq] at hO
  refine hits_seq ?_
  refine hits_region ?_
  refine sq (f_alloc zc150 (lt rfl)) rfl rfl ?_
  refine hits_nil ?_
  refine to_next ?_
  refine hits_seq ?_
  refine hits_region ?_
  refine sq (f_load kd151 rfl rfl (lt rfl)) rfl rfl ?_
  refine sq_prV hO hne (hE hi) rfl rfl rfl rfl ⟨rfl, rfl, trivial⟩ rfl rfl (lt rfl) (fun _ _ hd h => And.intro hd (h)) (fun q j hq hO2 => ?_)
  replace hO := hO2
  clear hO2
  have hj := (hp hq hi).2
  refine sq (f_alloc zc150 (lt rfl)) rfl rfl ?_
  refine sq (f_store kd150 rfl rfl rfl rfl rfl) rfl rfl ?_
  refine hits_nil ?_
  refine to_next ?_
  refine hits_seq ?_
  refine hits_region ?_
  refine sq (f_load kd66 rfl rfl (lt rfl)) rfl rfl ?_
  refine hits_ptrOf 6 rfl rfl rfl ?_
  refine sq_pr hO hne (need_c (l := [59]) (ts := [[59]]) hL hj (by decide) (fields_g (l := [59]) (ts := [[59]]) (by decide +kernel) (by decide +kernel) (by decide +kernel))) rfl en83 rfl rfl rfl rfl ⟨rfl, rfl, trivial⟩ rfl rfl (lt rfl) (fun _ _ hd h => And.intro hd (h)) (fun u j2 hq2 hO2 => ?_)
  replace hO := hO2
  clear hO2
  refine hits_nil ?_
  refine to_next ?_
  refine hits_seq ?_
  refine hits_region ?_
  refine sq (f_load kd150 rfl rfl (lt rfl)) rfl rfl ?_
  refine sq (f_store kd150 rfl rfl rfl rfl rfl) rfl rfl ?_
  refine hits_nil ?_
  refine to_next ?_
  refine hits_ret ?_
  exact hits_doneX hO (.inl rfl) rfl rfl rfl rfl rfl ⟨rfl, rfl, trivial⟩ rfl
set_option maxRecDepth 100000 in
theorem clot_c {L : List Wd} {i : Nat} (hL : L.length ≤ 65536) (hi : i ≤ L.length) {p : PW (Tx)} (hp : Eager p) (hE : ∀ {i : Nat}, i ≤ L.length → CallsX Tryz.prog Lw pvN 82 [LDw L, .sc (.int .i64 (i : Int))] (fun _ => []) (ocOf (LDw L) (txD) ((p).run wEnd L i))) : CallsW Tryz.prog Lw pvN 133 [LDw L, .sc (.int .i64 (i : Int))] (fun b => [.eptr [.sc (.func (.func 82) #[.pointer (some ⟨b, 0, none⟩)] #[])], .eptr [.sc (.pointer (some ⟨b, 0, none⟩))]]) (ocOf (LDw L) (txD) ((endedP p).run wEnd L i)) := by
  refine callsW_of (m := 2) Tryz.func133 rfl Tryz.ntmps133 (fun _ => rfl) rfl rfl fun hne w0 S0 b stab => ?_
  obtain ⟨o, hO⟩ : ∃ o, o = ocOf (LDw L) (txD) ((endedP p).run wEnd L i) := ⟨_, rfl⟩
  rw [← hO] at hne ⊢
  rw [ended_eq] at hO
  refine hits_seq ?_
  refine hits_region ?_
  refine sq (f_assign rfl (lt rfl)) rfl rfl ?_
  refine hits_nil ?_
  refine to_next ?_
  refine hits_seq ?_
  refine hits_region ?_
  refine sq (f_load kd132 rfl rfl (lt rfl)) rfl rfl ?_
  refine sq_prV hO hne (hE hi) rfl rfl rfl rfl ⟨rfl, rfl, trivial⟩ rfl rfl (lt rfl) (fun _ _ hd h => And.intro hd (h)) (fun q j hq hO2 => ?_)
  replace hO := hO2
  clear hO2
  have hj := (hp hq hi).2
  refine sq (f_assign rfl (lt rfl)) rfl rfl ?_
  refine hits_nil ?_
  refine to_next ?_
  refine hits_seq ?_
  refine hits_region ?_
  refine sq (f_load kd66 rfl rfl (lt rfl)) rfl rfl ?_
  refine hits_ptrOf 6 rfl rfl rfl ?_
  refine sq_pr hO hne (need_c (l := [59]) (ts := [[59]]) hL hj (by decide) (fields_g (l := [59]) (ts := [[59]]) (by decide +kernel) (by decide +kernel) (by decide +kernel))) rfl en83 rfl rfl rfl rfl ⟨rfl, rfl, trivial⟩ rfl rfl (lt rfl) (fun _ _ hd h => And.intro hd (h)) (fun u j2 hq2 hO2 => ?_)
  replace hO := hO2
  clear hO2
  refine hits_nil ?_
  refine to_next ?_
  refine hits_seq ?_
  refine hits_region ?_
  refine sq (f_move rfl (lt rfl)) rfl rfl ?_
  refine sq (f_assign rfl (lt rfl)) rfl rfl ?_
  refine hits_nil ?_
  refine to_next ?_
  refine hits_ret ?_
  exact hits_doneX hO (.inl rfl) rfl rfl rfl rfl rfl ⟨rfl, rfl, trivial⟩ rfl
set_option maxRecDepth 100000 in
theorem clok_c {L : List Wd} {i : Nat} (hL : L.length ≤ 65536) (hi : i ≤ L.length) {p : PW (Ex × Nat)} (hp : Eager p) (hE : ∀ {i : Nat}, i ≤ L.length → CallsX Tryz.prog Lw pvN 94 [LDw L, .sc (.int .i64 (i : Int))] (fun _ => []) (ocOf (LDw L) (kdD) ((p).run wEnd L i))) : CallsW Tryz.prog Lw pvN 129 [LDw L, .sc (.int .i64 (i : Int))] (fun b => [.eptr [.sc (.func (.func 94) #[.pointer (some ⟨b, 0, none⟩)] #[])], .eptr [.sc (.pointer (some ⟨b, 0, none⟩))]]) (ocOf (LDw L) (kdD) ((endedP p).run wEnd L i)) := by
  refine callsW_of (m := 2) Tryz.func129 rfl Tryz.ntmps129 (fun _ => rfl) rfl rfl fun hne w0 S0 b stab => ?_
  obtain ⟨o, hO⟩ : ∃ o, o = ocOf (LDw L) (kdD) ((endedP p).run wEnd L i) := ⟨_, rfl⟩
  rw [← hO] at hne ⊢
  rw [ended_eq] at hO
  refine hits_seq ?_
  refine hits_region ?_
  refine sq (f_alloc zc104 (lt rfl)) rfl rfl ?_
  refine hits_nil ?_
  refine to_next ?_
  refine hits_seq ?_
  refine hits_region ?_
  refine sq (f_load kd158 rfl rfl (lt rfl)) rfl rfl ?_
  refine sq_prV hO hne (hE hi) rfl rfl rfl rfl ⟨rfl, rfl, trivial⟩ rfl rfl (lt rfl) (fun _ _ hd h => And.intro hd (h)) (fun q j hq hO2 => ?_)
  replace hO := hO2
  clear hO2
  have hj := (hp hq hi).2
  obtain ⟨⟨qop, qlw, qlh, qll, qnm, qfl, qn, qm, qar, qln⟩, kk⟩ := q
  refine sq (f_alloc zc104 (lt rfl)) rfl rfl ?_
  refine sq (f_store kd104 rfl rfl rfl rfl rfl) rfl rfl ?_
  refine hits_nil ?_
  refine to_next ?_
  refine hits_seq ?_
  refine hits_region ?_
  refine sq (f_load kd66 rfl rfl (lt rfl)) rfl rfl ?_
  refine hits_ptrOf 6 rfl rfl rfl ?_
  refine sq_pr hO hne (need_c (l := [59]) (ts := [[59]]) hL hj (by decide) (fields_g (l := [59]) (ts := [[59]]) (by decide +kernel) (by decide +kernel) (by decide +kernel))) rfl en83 rfl rfl rfl rfl ⟨rfl, rfl, trivial⟩ rfl rfl (lt rfl) (fun _ _ hd h => And.intro hd (h)) (fun u j2 hq2 hO2 => ?_)
  replace hO := hO2
  clear hO2
  refine hits_nil ?_
  refine to_next ?_
  refine hits_seq ?_
  refine hits_region ?_
  refine sq (f_load kd104 rfl rfl (lt rfl)) rfl rfl ?_
  refine sq (f_store kd104 rfl rfl rfl rfl rfl) rfl rfl ?_
  refine hits_nil ?_
  refine to_next ?_
  refine hits_ret ?_
  exact hits_doneX hO (.inl rfl) rfl rfl rfl rfl rfl ⟨rfl, rfl, trivial⟩ rfl
set_option maxHeartbeats 1000000 in
set_option maxRecDepth 100000 in
theorem eachf_c {L : List Wd} {i : Nat} (hL : L.length ≤ 65536) (hi : i ≤ L.length) {p : PW (Tx × Nat)} (hp : Eager p) (hE : ∀ {i : Nat}, i ≤ L.length → CallsX Tryz.prog Lw pvN 86 [LDw L, .sc (.int .i64 (i : Int))] (fun _ => []) (ocOf (LDw L) (fdD) ((p).run wEnd L i))) (f : Nat) : CallsX Tryz.prog Lw pvN 84 [LDw L, .sc (.int .i64 (i : Int))] (fun b => [.clo 123 [.eptr [.sc (.func (.func 86) #[.pointer (some ⟨b, 0, none⟩)] #[])], .eptr [.sc (.pointer (some ⟨b, 0, none⟩))]]]) (ocOf (LDw L) (fun l => D.list 2 (l.map fdD)) ((eachP (endedP p) f []).run wEnd L i)) := by
  refine callsX_of (m := 1) Tryz.func84 rfl Tryz.ntmps84 (fun _ => rfl) rfl rfl fun hne w0 S0 b stab => ?_
  obtain ⟨o, hO⟩ : ∃ o, o = ocOf (LDw L) (fun l => D.list 2 (l.map fdD)) ((eachP (endedP p) f []).run wEnd L i) := ⟨_, rfl⟩
  rw [← hO] at hne ⊢
  refine hits_seq ?_
  refine hits_region ?_
  refine sq (f_assign rfl (lt rfl)) rfl rfl ?_
  refine hits_nil ?_
  refine to_next ?_
  refine hits_seq ?_
  refine hits_block ?_
  refine hits_own 4 4 2 rfl ?_
  refine hits_loop (fun x : Nat × List (Tx × Nat) × Nat => [(.slot 0, some (.ptr 1000000 0)), (.box 1000000, some (.ptr 1000000 0)), (.cell 1000000 0, some (.d (LDw L))), (.cell 1000000 1, some (.d (.sc (.int .i64 (x.2.2 : Int))))), (.slot 1, some (.d (.clo 123 [.eptr [.sc (.func (.func 86) #[.pointer (some ⟨b, 0, none⟩)] #[])], .eptr [.sc (.pointer (some ⟨b, 0, none⟩))]]))), (.slot 4, some (.own 4 2 (x.2.1.map fdD))), (.tip 4, some (.ptr 4 0))]) (fun x : Nat × List (Tx × Nat) × Nat => x.1 ≤ f ∧ x.2.1.length ≤ x.2.2 ∧ x.2.2 ≤ L.length ∧ o = ocOf (LDw L) (fun l => D.list 2 (l.map fdD)) ((eachP (endedP p) x.1 x.2.1).run wEnd L x.2.2)) (fun x : Nat × List (Tx × Nat) × Nat => x.1) (f, [], i) ⟨Nat.le_refl _, Nat.zero_le _, hi, hO⟩ ⟨rfl, rfl, rfl, rfl, rfl, rfl, rfl, trivial⟩ rfl ?_
  intro x hx0
  obtain ⟨g, acc, i'⟩ := x
  obtain ⟨hg, ha, hi', hO⟩ := hx0
  change g ≤ f at hg
  change acc.length ≤ i' at ha
  change i' ≤ L.length at hi'
  change o = ocOf (LDw L) (fun l => D.list 2 (l.map fdD)) ((eachP (endedP p) g acc).run wEnd L i') at hO
  change Hits _ [(.slot 0, some (.ptr 1000000 0)), (.box 1000000, some (.ptr 1000000 0)), (.cell 1000000 0, some (.d (LDw L))), (.cell 1000000 1, some (.d (.sc (.int .i64 (i' : Int))))), (.slot 1, some (.d (.clo 123 [.eptr [.sc (.func (.func 86) #[.pointer (some ⟨b, 0, none⟩)] #[])], .eptr [.sc (.pointer (some ⟨b, 0, none⟩))]]))), (.slot 4, some (.own 4 2 (acc.map fdD))), (.tip 4, some (.ptr 4 0))] _
  cases g with
  | zero => exact absurd hO hne
  | succ g =>
  rw [eachP] at hO
  refine hits_seq ?_
  refine hits_seq ?_
  refine hits_region ?_
  refine sq (f_move rfl (lt rfl)) rfl rfl ?_
  refine sq_pr hO hne (may_c hL hi' [125]) rfl en95 rfl rfl rfl rfl ⟨rfl, rfl, trivial⟩ rfl rfl (lt rfl) (fun _ _ hd h => And.intro hd (h)) (fun b2 j hq hO2 => ?_)
  replace hO := hO2
  clear hO2
  have hj := may_le hq hi'
  have hjj := may_at hq
  cases b2
  · rw [if_neg Bool.false_ne_true] at hO
    have hji : j = i' := by rcases hjj with ⟨h, _⟩ | ⟨_, h⟩; cases h; exact h
    refine sq (f_un rfl rfl (lt rfl)) rfl rfl ?_
    refine hits_nil ?_
    refine to_next ?_
    refine hits_cond rfl (fun c0 => ?_) (fun c0 => absurd c0 Bool.false_ne_true.symm)
    refine hits_skip ?_
    refine to_next ?_
    refine hits_block ?_
    refine hits_region ?_
    refine sq (f_move rfl (lt rfl)) rfl rfl ?_
    refine sq (f_move rfl (lt rfl)) rfl rfl ?_
    refine sq_prC hO hne (clof_c hL hj hp hE) rfl en123 rfl rfl rfl ⟨rfl, rfl, trivial⟩ rfl rfl (lt rfl) (fun _ _ hd h => And.intro hd (h)) (fun q j2 hq2 hO2 => ?_)
    replace hO := hO2
    clear hO2
    have hj2 := (eager_ended hp) hq2 hj
    refine sq (f_buildSlice sk56 rfl rfl rfl rfl rfl rfl (by decide) (by decide) (lt rfl)) rfl rfl ?_
    refine sq_append rfl rfl rfl rfl apk56 (by simp only [snds, List.length_map, List.length_cons, List.length_nil]; omega) (by simp only [snds, List.length_map, List.length_cons, List.length_nil]; omega) rfl (lt rfl) ?_
    refine sq (f_assign rfl (lt rfl)) rfl rfl ?_
    refine hits_nil ?_
    refine in_next ?_
    refine to_next ?_
    refine round_end (g, acc ++ [q], j2) ⟨by simp only; omega, by simp only [List.length_append, List.length_cons, List.length_nil]; omega, hj2.2, hO⟩ (by simp only; omega) ⟨rfl, rfl, rfl, rfl, rfl, (by show _ = some (V.own 4 2 ((acc ++ [q]).map fdD)); rw [List.map_append, List.map_cons, List.map_nil]; rfl), rfl, trivial⟩ rfl
  · rw [if_pos rfl] at hO
    refine sq (f_un rfl rfl (lt rfl)) rfl rfl ?_
    refine hits_nil ?_
    refine to_next ?_
    refine hits_cond rfl (fun c0 => absurd c0 Bool.false_ne_true) (fun c0 => ?_)
    refine hits_exit ?_
    refine to_exit ?_
    refine to_exit ?_
    refine in_hit rfl ?_
    refine to_next ?_
    refine hits_seq ?_
    refine hits_region ?_
    refine sq (f_move rfl (lt rfl)) rfl rfl ?_
    refine sq (f_assign rfl (lt rfl)) rfl rfl ?_
    refine hits_nil ?_
    refine to_next ?_
    refine hits_ret ?_
    exact hits_doneX hO (.inl rfl) rfl rfl rfl rfl rfl ⟨rfl, rfl, trivial⟩ rfl
set_option maxHeartbeats 1000000 in
set_option maxRecDepth 100000 in
theorem eacht_c {L : List Wd} {i : Nat} (hL : L.length ≤ 65536) (hi : i ≤ L.length) {p : PW (Tx)} (hp : Eager p) (hE : ∀ {i : Nat}, i ≤ L.length → CallsX Tryz.prog Lw pvN 82 [LDw L, .sc (.int .i64 (i : Int))] (fun _ => []) (ocOf (LDw L) (txD) ((p).run wEnd L i))) (f : Nat) : CallsX Tryz.prog Lw pvN 98 [LDw L, .sc (.int .i64 (i : Int))] (fun b => [.clo 133 [.eptr [.sc (.func (.func 82) #[.pointer (some ⟨b, 0, none⟩)] #[])], .eptr [.sc (.pointer (some ⟨b, 0, none⟩))]]]) (ocOf (LDw L) (fun l => D.list 1 (l.map txD)) ((eachP (endedP p) f []).run wEnd L i)) := by
  refine callsX_of (m := 1) Tryz.func98 rfl Tryz.ntmps98 (fun _ => rfl) rfl rfl fun hne w0 S0 b stab => ?_
  obtain ⟨o, hO⟩ : ∃ o, o = ocOf (LDw L) (fun l => D.list 1 (l.map txD)) ((eachP (endedP p) f []).run wEnd L i) := ⟨_, rfl⟩
  rw [← hO] at hne ⊢
  refine hits_seq ?_
  refine hits_region ?_
  refine sq (f_assign rfl (lt rfl)) rfl rfl ?_
  refine hits_nil ?_
  refine to_next ?_
  refine hits_seq ?_
  refine hits_block ?_
  refine hits_own 4 4 1 rfl ?_
  refine hits_loop (fun x : Nat × List (Tx) × Nat => [(.slot 0, some (.ptr 1000000 0)), (.box 1000000, some (.ptr 1000000 0)), (.cell 1000000 0, some (.d (LDw L))), (.cell 1000000 1, some (.d (.sc (.int .i64 (x.2.2 : Int))))), (.slot 1, some (.d (.clo 133 [.eptr [.sc (.func (.func 82) #[.pointer (some ⟨b, 0, none⟩)] #[])], .eptr [.sc (.pointer (some ⟨b, 0, none⟩))]]))), (.slot 4, some (.own 4 1 (x.2.1.map txD))), (.tip 4, some (.ptr 4 0))]) (fun x : Nat × List (Tx) × Nat => x.1 ≤ f ∧ x.2.1.length ≤ x.2.2 ∧ x.2.2 ≤ L.length ∧ o = ocOf (LDw L) (fun l => D.list 1 (l.map txD)) ((eachP (endedP p) x.1 x.2.1).run wEnd L x.2.2)) (fun x : Nat × List (Tx) × Nat => x.1) (f, [], i) ⟨Nat.le_refl _, Nat.zero_le _, hi, hO⟩ ⟨rfl, rfl, rfl, rfl, rfl, rfl, rfl, trivial⟩ rfl ?_
  intro x hx0
  obtain ⟨g, acc, i'⟩ := x
  obtain ⟨hg, ha, hi', hO⟩ := hx0
  change g ≤ f at hg
  change acc.length ≤ i' at ha
  change i' ≤ L.length at hi'
  change o = ocOf (LDw L) (fun l => D.list 1 (l.map txD)) ((eachP (endedP p) g acc).run wEnd L i') at hO
  change Hits _ [(.slot 0, some (.ptr 1000000 0)), (.box 1000000, some (.ptr 1000000 0)), (.cell 1000000 0, some (.d (LDw L))), (.cell 1000000 1, some (.d (.sc (.int .i64 (i' : Int))))), (.slot 1, some (.d (.clo 133 [.eptr [.sc (.func (.func 82) #[.pointer (some ⟨b, 0, none⟩)] #[])], .eptr [.sc (.pointer (some ⟨b, 0, none⟩))]]))), (.slot 4, some (.own 4 1 (acc.map txD))), (.tip 4, some (.ptr 4 0))] _
  cases g with
  | zero => exact absurd hO hne
  | succ g =>
  rw [eachP] at hO
  refine hits_seq ?_
  refine hits_seq ?_
  refine hits_region ?_
  refine sq (f_move rfl (lt rfl)) rfl rfl ?_
  refine sq_pr hO hne (may_c hL hi' [125]) rfl en95 rfl rfl rfl rfl ⟨rfl, rfl, trivial⟩ rfl rfl (lt rfl) (fun _ _ hd h => And.intro hd (h)) (fun b2 j hq hO2 => ?_)
  replace hO := hO2
  clear hO2
  have hj := may_le hq hi'
  have hjj := may_at hq
  cases b2
  · rw [if_neg Bool.false_ne_true] at hO
    have hji : j = i' := by rcases hjj with ⟨h, _⟩ | ⟨_, h⟩; cases h; exact h
    refine sq (f_un rfl rfl (lt rfl)) rfl rfl ?_
    refine hits_nil ?_
    refine to_next ?_
    refine hits_cond rfl (fun c0 => ?_) (fun c0 => absurd c0 Bool.false_ne_true.symm)
    refine hits_skip ?_
    refine to_next ?_
    refine hits_block ?_
    refine hits_region ?_
    refine sq (f_move rfl (lt rfl)) rfl rfl ?_
    refine sq (f_move rfl (lt rfl)) rfl rfl ?_
    refine sq_prC hO hne (clot_c hL hj hp hE) rfl en133 rfl rfl rfl ⟨rfl, rfl, trivial⟩ rfl rfl (lt rfl) (fun _ _ hd h => And.intro hd (h)) (fun q j2 hq2 hO2 => ?_)
    replace hO := hO2
    clear hO2
    have hj2 := (eager_ended hp) hq2 hj
    refine sq (f_buildSlice sk41 rfl rfl rfl rfl rfl rfl (by decide) (by decide) (lt rfl)) rfl rfl ?_
    refine sq_append rfl rfl rfl rfl apk41 (by simp only [snds, List.length_map, List.length_cons, List.length_nil]; omega) (by simp only [snds, List.length_map, List.length_cons, List.length_nil]; omega) rfl (lt rfl) ?_
    refine sq (f_assign rfl (lt rfl)) rfl rfl ?_
    refine hits_nil ?_
    refine in_next ?_
    refine to_next ?_
    refine round_end (g, acc ++ [q], j2) ⟨by simp only; omega, by simp only [List.length_append, List.length_cons, List.length_nil]; omega, hj2.2, hO⟩ (by simp only; omega) ⟨rfl, rfl, rfl, rfl, rfl, (by show _ = some (V.own 4 1 ((acc ++ [q]).map txD)); rw [List.map_append, List.map_cons, List.map_nil]; rfl), rfl, trivial⟩ rfl
  · rw [if_pos rfl] at hO
    refine sq (f_un rfl rfl (lt rfl)) rfl rfl ?_
    refine hits_nil ?_
    refine to_next ?_
    refine hits_cond rfl (fun c0 => absurd c0 Bool.false_ne_true) (fun c0 => ?_)
    refine hits_exit ?_
    refine to_exit ?_
    refine to_exit ?_
    refine in_hit rfl ?_
    refine to_next ?_
    refine hits_seq ?_
    refine hits_region ?_
    refine sq (f_move rfl (lt rfl)) rfl rfl ?_
    refine sq (f_assign rfl (lt rfl)) rfl rfl ?_
    refine hits_nil ?_
    refine to_next ?_
    refine hits_ret ?_
    exact hits_doneX hO (.inl rfl) rfl rfl rfl rfl rfl ⟨rfl, rfl, trivial⟩ rfl
set_option maxHeartbeats 1000000 in
set_option maxRecDepth 100000 in
theorem eachk_c {L : List Wd} {i : Nat} (hL : L.length ≤ 65536) (hi : i ≤ L.length) {p : PW (Ex × Nat)} (hp : Eager p) (hE : ∀ {i : Nat}, i ≤ L.length → CallsX Tryz.prog Lw pvN 94 [LDw L, .sc (.int .i64 (i : Int))] (fun _ => []) (ocOf (LDw L) (kdD) ((p).run wEnd L i))) (f : Nat) : CallsX Tryz.prog Lw pvN 92 [LDw L, .sc (.int .i64 (i : Int))] (fun b => [.clo 129 [.eptr [.sc (.func (.func 94) #[.pointer (some ⟨b, 0, none⟩)] #[])], .eptr [.sc (.pointer (some ⟨b, 0, none⟩))]]]) (ocOf (LDw L) (fun l => D.list 11 (l.map kdD)) ((eachP (endedP p) f []).run wEnd L i)) := by
  refine callsX_of (m := 1) Tryz.func92 rfl Tryz.ntmps92 (fun _ => rfl) rfl rfl fun hne w0 S0 b stab => ?_
  obtain ⟨o, hO⟩ : ∃ o, o = ocOf (LDw L) (fun l => D.list 11 (l.map kdD)) ((eachP (endedP p) f []).run wEnd L i) := ⟨_, rfl⟩
  rw [← hO] at hne ⊢
  refine hits_seq ?_
  refine hits_region ?_
  refine sq (f_assign rfl (lt rfl)) rfl rfl ?_
  refine hits_nil ?_
  refine to_next ?_
  refine hits_seq ?_
  refine hits_block ?_
  refine hits_own 4 4 11 rfl ?_
  refine hits_loop (fun x : Nat × List (Ex × Nat) × Nat => [(.slot 0, some (.ptr 1000000 0)), (.box 1000000, some (.ptr 1000000 0)), (.cell 1000000 0, some (.d (LDw L))), (.cell 1000000 1, some (.d (.sc (.int .i64 (x.2.2 : Int))))), (.slot 1, some (.d (.clo 129 [.eptr [.sc (.func (.func 94) #[.pointer (some ⟨b, 0, none⟩)] #[])], .eptr [.sc (.pointer (some ⟨b, 0, none⟩))]]))), (.slot 4, some (.own 4 11 (x.2.1.map kdD))), (.tip 4, some (.ptr 4 0))]) (fun x : Nat × List (Ex × Nat) × Nat => x.1 ≤ f ∧ x.2.1.length ≤ x.2.2 ∧ x.2.2 ≤ L.length ∧ o = ocOf (LDw L) (fun l => D.list 11 (l.map kdD)) ((eachP (endedP p) x.1 x.2.1).run wEnd L x.2.2)) (fun x : Nat × List (Ex × Nat) × Nat => x.1) (f, [], i) ⟨Nat.le_refl _, Nat.zero_le _, hi, hO⟩ ⟨rfl, rfl, rfl, rfl, rfl, rfl, rfl, trivial⟩ rfl ?_
  intro x hx0
  obtain ⟨g, acc, i'⟩ := x
  obtain ⟨hg, ha, hi', hO⟩ := hx0
  change g ≤ f at hg
  change acc.length ≤ i' at ha
  change i' ≤ L.length at hi'
  change o = ocOf (LDw L) (fun l => D.list 11 (l.map kdD)) ((eachP (endedP p) g acc).run wEnd L i') at hO
  change Hits _ [(.slot 0, some (.ptr 1000000 0)), (.box 1000000, some (.ptr 1000000 0)), (.cell 1000000 0, some (.d (LDw L))), (.cell 1000000 1, some (.d (.sc (.int .i64 (i' : Int))))), (.slot 1, some (.d (.clo 129 [.eptr [.sc (.func (.func 94) #[.pointer (some ⟨b, 0, none⟩)] #[])], .eptr [.sc (.pointer (some ⟨b, 0, none⟩))]]))), (.slot 4, some (.own 4 11 (acc.map kdD))), (.tip 4, some (.ptr 4 0))] _
  cases g with
  | zero => exact absurd hO hne
  | succ g =>
  rw [eachP] at hO
  refine hits_seq ?_
  refine hits_seq ?_
  refine hits_region ?_
  refine sq (f_move rfl (lt rfl)) rfl rfl ?_
  refine sq_pr hO hne (may_c hL hi' [125]) rfl en95 rfl rfl rfl rfl ⟨rfl, rfl, trivial⟩ rfl rfl (lt rfl) (fun _ _ hd h => And.intro hd (h)) (fun b2 j hq hO2 => ?_)
  replace hO := hO2
  clear hO2
  have hj := may_le hq hi'
  have hjj := may_at hq
  cases b2
  · rw [if_neg Bool.false_ne_true] at hO
    have hji : j = i' := by rcases hjj with ⟨h, _⟩ | ⟨_, h⟩; cases h; exact h
    refine sq (f_un rfl rfl (lt rfl)) rfl rfl ?_
    refine hits_nil ?_
    refine to_next ?_
    refine hits_cond rfl (fun c0 => ?_) (fun c0 => absurd c0 Bool.false_ne_true.symm)
    refine hits_skip ?_
    refine to_next ?_
    refine hits_block ?_
    refine hits_region ?_
    refine sq (f_move rfl (lt rfl)) rfl rfl ?_
    refine sq (f_move rfl (lt rfl)) rfl rfl ?_
    refine sq_prC hO hne (clok_c hL hj hp hE) rfl en129 rfl rfl rfl ⟨rfl, rfl, trivial⟩ rfl rfl (lt rfl) (fun _ _ hd h => And.intro hd (h)) (fun q j2 hq2 hO2 => ?_)
    replace hO := hO2
    clear hO2
    have hj2 := (eager_ended hp) hq2 hj
    obtain ⟨⟨qop, qlw, qlh, qll, qnm, qfl, qn, qm, qar, qln⟩, kk⟩ := q
    refine sq (f_buildSlice sk58 rfl rfl rfl rfl rfl rfl (by decide) (by decide) (lt rfl)) rfl rfl ?_
    refine sq_append rfl rfl rfl rfl apk58 (by simp only [snds, List.length_map, List.length_cons, List.length_nil]; omega) (by simp only [snds, List.length_map, List.length_cons, List.length_nil]; omega) rfl (lt rfl) ?_
    refine sq (f_assign rfl (lt rfl)) rfl rfl ?_
    refine hits_nil ?_
    refine in_next ?_
    refine to_next ?_
    refine round_end (g, acc ++ [(Ex.mk qop qlw qlh qll qnm qfl qn qm qar qln, kk)], j2) ⟨by simp only; omega, by simp only [List.length_append, List.length_cons, List.length_nil]; omega, hj2.2, hO⟩ (by simp only; omega) ⟨rfl, rfl, rfl, rfl, rfl, (by show _ = some (V.own 4 11 ((acc ++ [(Ex.mk qop qlw qlh qll qnm qfl qn qm qar qln, kk)]).map kdD)); rw [List.map_append, List.map_cons, List.map_nil]; rfl), rfl, trivial⟩ rfl
  · rw [if_pos rfl] at hO
    refine sq (f_un rfl rfl (lt rfl)) rfl rfl ?_
    refine hits_nil ?_
    refine to_next ?_
    refine hits_cond rfl (fun c0 => absurd c0 Bool.false_ne_true) (fun c0 => ?_)
    refine hits_exit ?_
    refine to_exit ?_
    refine to_exit ?_
    refine in_hit rfl ?_
    refine to_next ?_
    refine hits_seq ?_
    refine hits_region ?_
    refine sq (f_move rfl (lt rfl)) rfl rfl ?_
    refine sq (f_assign rfl (lt rfl)) rfl rfl ?_
    refine hits_nil ?_
    refine to_next ?_
    refine hits_ret ?_
    exact hits_doneX hO (.inl rfl) rfl rfl rfl rfl rfl ⟨rfl, rfl, trivial⟩ rfl
set_option maxHeartbeats 1000000 in
set_option maxRecDepth 100000 in
theorem eachst_c {L : List Wd} {i : Nat} (hL : L.length ≤ 65536) (hi : i ≤ L.length) {p : PW (Stt)} (hp : Eager p) (hE : ∀ {i : Nat}, i ≤ L.length → CallsX Tryz.prog Lw pvN 89 [LDw L, .sc (.int .i64 (i : Int))] (fun _ => []) (ocOf (LDw L) (stD) ((p).run wEnd L i))) (f : Nat) : CallsX Tryz.prog Lw pvN 88 [LDw L, .sc (.int .i64 (i : Int))] (fun b => [.sc (.func (.func 89) #[.pointer (some ⟨b, 0, none⟩)] #[])]) (ocOf (LDw L) (fun l => D.list 6 (l.map stD)) ((eachP (p) f []).run wEnd L i)) := by
  refine callsX_of (m := 1) Tryz.func88 rfl Tryz.ntmps88 (fun _ => rfl) rfl rfl fun hne w0 S0 b stab => ?_
  obtain ⟨o, hO⟩ : ∃ o, o = ocOf (LDw L) (fun l => D.list 6 (l.map stD)) ((eachP (p) f []).run wEnd L i) := ⟨_, rfl⟩
  rw [← hO] at hne ⊢
  refine hits_seq ?_
  refine hits_region ?_
  refine sq (f_assign rfl (lt rfl)) rfl rfl ?_
  refine hits_nil ?_
  refine to_next ?_
  refine hits_seq ?_
  refine hits_block ?_
  refine hits_own 4 4 6 rfl ?_
  refine hits_loop (fun x : Nat × List (Stt) × Nat => [(.slot 0, some (.ptr 1000000 0)), (.box 1000000, some (.ptr 1000000 0)), (.cell 1000000 0, some (.d (LDw L))), (.cell 1000000 1, some (.d (.sc (.int .i64 (x.2.2 : Int))))), (.slot 1, some (.d (.sc (.func (.func 89) #[.pointer (some ⟨b, 0, none⟩)] #[])))), (.slot 4, some (.own 4 6 (x.2.1.map stD))), (.tip 4, some (.ptr 4 0))]) (fun x : Nat × List (Stt) × Nat => x.1 ≤ f ∧ x.2.1.length ≤ x.2.2 ∧ x.2.2 ≤ L.length ∧ o = ocOf (LDw L) (fun l => D.list 6 (l.map stD)) ((eachP (p) x.1 x.2.1).run wEnd L x.2.2)) (fun x : Nat × List (Stt) × Nat => x.1) (f, [], i) ⟨Nat.le_refl _, Nat.zero_le _, hi, hO⟩ ⟨rfl, rfl, rfl, rfl, rfl, rfl, rfl, trivial⟩ rfl ?_
  intro x hx0
  obtain ⟨g, acc, i'⟩ := x
  obtain ⟨hg, ha, hi', hO⟩ := hx0
  change g ≤ f at hg
  change acc.length ≤ i' at ha
  change i' ≤ L.length at hi'
  change o = ocOf (LDw L) (fun l => D.list 6 (l.map stD)) ((eachP (p) g acc).run wEnd L i') at hO
  change Hits _ [(.slot 0, some (.ptr 1000000 0)), (.box 1000000, some (.ptr 1000000 0)), (.cell 1000000 0, some (.d (LDw L))), (.cell 1000000 1, some (.d (.sc (.int .i64 (i' : Int))))), (.slot 1, some (.d (.sc (.func (.func 89) #[.pointer (some ⟨b, 0, none⟩)] #[])))), (.slot 4, some (.own 4 6 (acc.map stD))), (.tip 4, some (.ptr 4 0))] _
  cases g with
  | zero => exact absurd hO hne
  | succ g =>
  rw [eachP] at hO
  refine hits_seq ?_
  refine hits_seq ?_
  refine hits_region ?_
  refine sq (f_move rfl (lt rfl)) rfl rfl ?_
  refine sq_pr hO hne (may_c hL hi' [125]) rfl en95 rfl rfl rfl rfl ⟨rfl, rfl, trivial⟩ rfl rfl (lt rfl) (fun _ _ hd h => And.intro hd (h)) (fun b2 j hq hO2 => ?_)
  replace hO := hO2
  clear hO2
  have hj := may_le hq hi'
  have hjj := may_at hq
  cases b2
  · rw [if_neg Bool.false_ne_true] at hO
    have hji : j = i' := by rcases hjj with ⟨h, _⟩ | ⟨_, h⟩; cases h; exact h
    refine sq (f_un rfl rfl (lt rfl)) rfl rfl ?_
    refine hits_nil ?_
    refine to_next ?_
    refine hits_cond rfl (fun c0 => ?_) (fun c0 => absurd c0 Bool.false_ne_true.symm)
    refine hits_skip ?_
    refine to_next ?_
    refine hits_block ?_
    refine hits_region ?_
    refine sq (f_move rfl (lt rfl)) rfl rfl ?_
    refine sq (f_move rfl (lt rfl)) rfl rfl ?_
    refine sq_prV hO hne (hE hj) rfl rfl rfl rfl ⟨rfl, rfl, trivial⟩ rfl rfl (lt rfl) (fun _ _ hd h => And.intro hd (h)) (fun q j2 hq2 hO2 => ?_)
    replace hO := hO2
    clear hO2
    have hj2 := hp hq2 hj
    refine sq (f_buildSlice sk57 rfl rfl rfl rfl rfl rfl (by decide) (by decide) (lt rfl)) rfl rfl ?_
    refine sq_append rfl rfl rfl rfl apk57 (by simp only [snds, List.length_map, List.length_cons, List.length_nil]; omega) (by simp only [snds, List.length_map, List.length_cons, List.length_nil]; omega) rfl (lt rfl) ?_
    refine sq (f_assign rfl (lt rfl)) rfl rfl ?_
    refine hits_nil ?_
    refine in_next ?_
    refine to_next ?_
    refine round_end (g, acc ++ [q], j2) ⟨by simp only; omega, by simp only [List.length_append, List.length_cons, List.length_nil]; omega, hj2.2, hO⟩ (by simp only; omega) ⟨rfl, rfl, rfl, rfl, rfl, (by show _ = some (V.own 4 6 ((acc ++ [q]).map stD)); rw [List.map_append, List.map_cons, List.map_nil]; rfl), rfl, trivial⟩ rfl
  · rw [if_pos rfl] at hO
    refine sq (f_un rfl rfl (lt rfl)) rfl rfl ?_
    refine hits_nil ?_
    refine to_next ?_
    refine hits_cond rfl (fun c0 => absurd c0 Bool.false_ne_true) (fun c0 => ?_)
    refine hits_exit ?_
    refine to_exit ?_
    refine to_exit ?_
    refine in_hit rfl ?_
    refine to_next ?_
    refine hits_seq ?_
    refine hits_region ?_
    refine sq (f_move rfl (lt rfl)) rfl rfl ?_
    refine sq (f_assign rfl (lt rfl)) rfl rfl ?_
    refine hits_nil ?_
    refine to_next ?_
    refine hits_ret ?_
    exact hits_doneX hO (.inl rfl) rfl rfl rfl rfl rfl ⟨rfl, rfl, trivial⟩ rfl
set_option maxHeartbeats 1000000 in
set_option maxRecDepth 100000 in
theorem somef_c {L : List Wd} {i : Nat} (hL : L.length ≤ 65536) (hi : i ≤ L.length) (hS : Small L) (e : Tx) (he : CallsP Tryz.prog Lw 47 [txD e] (.list 1 ([e].map txD))) (f : Nat) : CallsX Tryz.prog Lw pvN 126 [LDw L, .sc (.int .i64 (i : Int))] (fun b => [txD e, .sc (.func (.func 86) #[.pointer (some ⟨b, 0, none⟩)] #[])]) (ocOf (LDw L) (fun l => D.list 2 (l.map fdD)) ((someP typedP e f []).run wEnd L i)) := by
  refine callsX_of (m := 2) Tryz.func126 rfl Tryz.ntmps126 (fun _ => rfl) rfl rfl fun hne w0 S0 b stab => ?_
  obtain ⟨o, hO⟩ : ∃ o, o = ocOf (LDw L) (fun l => D.list 2 (l.map fdD)) ((someP typedP e f []).run wEnd L i) := ⟨_, rfl⟩
  rw [← hO] at hne ⊢
  refine hits_seq ?_
  refine hits_region ?_
  refine sq (f_assign rfl (lt rfl)) rfl rfl ?_
  refine hits_nil ?_
  refine to_next ?_
  refine hits_block ?_
  refine hits_own 6 6 2 rfl ?_
  refine hits_loop (fun x : Nat × List (Tx × Nat) × Nat => [(.slot 0, some (.ptr 1000000 0)), (.box 1000000, some (.ptr 1000000 0)), (.cell 1000000 0, some (.d (LDw L))), (.cell 1000000 1, some (.d (.sc (.int .i64 (x.2.2 : Int))))), (.slot 1, some (.d (txD e))), (.slot 2, some (.d (.sc (.func (.func 86) #[.pointer (some ⟨b, 0, none⟩)] #[])))), (.slot 6, some (.own 6 2 (x.2.1.map fdD))), (.tip 6, some (.ptr 6 0))]) (fun x : Nat × List (Tx × Nat) × Nat => x.1 ≤ f ∧ x.2.1.length ≤ x.2.2 ∧ x.2.2 ≤ L.length ∧ o = ocOf (LDw L) (fun l => D.list 2 (l.map fdD)) ((someP typedP e x.1 x.2.1).run wEnd L x.2.2)) (fun x : Nat × List (Tx × Nat) × Nat => x.1) (f, [], i) ⟨Nat.le_refl _, Nat.zero_le _, hi, hO⟩ ⟨rfl, rfl, rfl, rfl, rfl, rfl, rfl, rfl, trivial⟩ rfl ?_
  intro x hx0
  obtain ⟨g, acc, i'⟩ := x
  obtain ⟨hg, ha, hi', hO⟩ := hx0
  change g ≤ f at hg
  change acc.length ≤ i' at ha
  change i' ≤ L.length at hi'
  change o = ocOf (LDw L) (fun l => D.list 2 (l.map fdD)) ((someP typedP e g acc).run wEnd L i') at hO
  change Hits _ [(.slot 0, some (.ptr 1000000 0)), (.box 1000000, some (.ptr 1000000 0)), (.cell 1000000 0, some (.d (LDw L))), (.cell 1000000 1, some (.d (.sc (.int .i64 (i' : Int))))), (.slot 1, some (.d (txD e))), (.slot 2, some (.d (.sc (.func (.func 86) #[.pointer (some ⟨b, 0, none⟩)] #[])))), (.slot 6, some (.own 6 2 (acc.map fdD))), (.tip 6, some (.ptr 6 0))] _
  cases g with
  | zero => exact absurd hO hne
  | succ g =>
  rw [someP] at hO
  refine hits_block ?_
  refine hits_seq ?_
  refine hits_region ?_
  refine sq (f_move rfl (lt rfl)) rfl rfl ?_
  refine sq (f_move rfl (lt rfl)) rfl rfl ?_
  refine sq_prV hO hne (typed_c hL hi' hS) rfl rfl rfl rfl ⟨rfl, rfl, trivial⟩ rfl rfl (lt rfl) (fun _ _ hd h => And.intro hd (h)) (fun q j hq hO2 => ?_)
  replace hO := hO2
  clear hO2
  have hj := eager_typed hq hi'
  refine sq (f_buildSlice sk56 rfl rfl rfl rfl rfl rfl (by decide) (by decide) (lt rfl)) rfl rfl ?_
  refine sq_append rfl rfl rfl rfl apk56 (by simp only [snds, List.length_map, List.length_cons, List.length_nil]; omega) (by simp only [snds, List.length_map, List.length_cons, List.length_nil]; omega) rfl (lt rfl) ?_
  refine sq (f_assign rfl (lt rfl)) rfl rfl ?_
  refine hits_nil ?_
  refine to_next ?_
  refine hits_seq ?_
  refine hits_region ?_
  refine sq (f_move rfl (lt rfl)) rfl rfl ?_
  refine sq_pr hO hne (may_c hL hj.2 [44]) rfl en95 rfl rfl rfl rfl ⟨rfl, rfl, trivial⟩ rfl rfl (lt rfl) (fun _ _ hd h => And.intro hd (h)) (fun b2 j2 hq2 hO2 => ?_)
  replace hO := hO2
  clear hO2
  have hj2 := may_at hq2
  cases b2
  · rw [if_neg Bool.false_ne_true] at hO
    have hj3 : j2 = j := by rcases hj2 with ⟨h, _⟩ | ⟨_, h⟩; cases h; exact h
    subst hj3
    have hnd := need_c (l := e) (ts := [e]) hL hj.2 (by simp) he
    refine sq (f_un rfl rfl (lt rfl)) rfl rfl ?_
    refine hits_nil ?_
    refine to_next ?_
    refine hits_cond rfl (fun c0 => ?_) (fun c0 => absurd c0 Bool.false_ne_true.symm)
    refine hits_seq ?_
    refine hits_region ?_
    refine sq (f_move rfl (lt rfl)) rfl rfl ?_
    refine sq (f_move rfl (lt rfl)) rfl rfl ?_
    refine sq_pr hO hne (hnd) rfl en83 rfl rfl rfl rfl ⟨rfl, rfl, trivial⟩ rfl rfl (lt rfl) (fun _ _ hd h => And.intro hd (h)) (fun u j3 hq3 hO2 => ?_)
    replace hO := hO2
    clear hO2
    refine hits_nil ?_
    refine to_next ?_
    refine hits_seq ?_
    refine hits_region ?_
    refine sq (f_move rfl (lt rfl)) rfl rfl ?_
    refine sq (f_assign rfl (lt rfl)) rfl rfl ?_
    refine hits_nil ?_
    refine to_next ?_
    refine hits_ret ?_
    refine in_ret ?_
    refine to_ret ?_
    refine in_ret ?_
    have hO' : o = .ret [LDw L, .sc (.int .i64 (j3 : Int))] (.list 2 (acc.map fdD ++ [fdD q])) := by rw [hO]; show Oc.ret _ (D.list 2 ((acc ++ [q]).map fdD)) = _; rw [List.map_append, List.map_cons, List.map_nil]
    exact hits_doneX hO' (.inl rfl) rfl rfl rfl rfl rfl ⟨rfl, rfl, trivial⟩ rfl
  · rw [if_pos rfl] at hO
    have hj3 : j2 = j + 1 ∧ j < L.length := by rcases hj2 with ⟨_, h⟩ | ⟨h, _⟩; exact h; cases h
    refine sq (f_un rfl rfl (lt rfl)) rfl rfl ?_
    refine hits_nil ?_
    refine to_next ?_
    refine hits_cond rfl (fun c0 => absurd c0 Bool.false_ne_true) (fun c0 => ?_)
    refine hits_skip ?_
    refine in_next ?_
    refine to_next ?_
    refine round_end (g, acc ++ [q], j2) ⟨by simp only; omega, by simp only [List.length_append, List.length_cons, List.length_nil]; omega, by simp only; omega, hO⟩ (by simp only; omega) ⟨rfl, rfl, rfl, rfl, rfl, rfl, (by show _ = some (V.own 6 2 ((acc ++ [q]).map fdD)); rw [List.map_append, List.map_cons, List.map_nil]; rfl), rfl, trivial⟩ rfl
set_option maxRecDepth 100000 in
theorem rowf_c {L : List Wd} {i : Nat} (hL : L.length ≤ 65536) (hi : i ≤ L.length) (hS : Small L) (e : Tx) (he : CallsP Tryz.prog Lw 47 [txD e] (.list 1 ([e].map txD))) (f : Nat) : CallsX Tryz.prog Lw pvN 90 [LDw L, .sc (.int .i64 (i : Int))] (fun b => [txD e, .sc (.func (.func 86) #[.pointer (some ⟨b, 0, none⟩)] #[])]) (ocOf (LDw L) (fun l => D.list 2 (l.map fdD)) ((rowP typedP e f).run wEnd L i)) := by
  refine callsX_of (m := 2) Tryz.func90 rfl Tryz.ntmps90 (fun _ => rfl) rfl rfl fun hne w0 S0 b stab => ?_
  obtain ⟨o, hO⟩ : ∃ o, o = ocOf (LDw L) (fun l => D.list 2 (l.map fdD)) ((rowP typedP e f).run wEnd L i) := ⟨_, rfl⟩
  rw [← hO] at hne ⊢
  rw [rowP] at hO
  refine hits_seq ?_
  refine hits_region ?_
  refine sq (f_assign rfl (lt rfl)) rfl rfl ?_
  refine hits_nil ?_
  refine to_next ?_
  refine hits_seq ?_
  refine hits_seq ?_
  refine hits_region ?_
  refine sq (f_move rfl (lt rfl)) rfl rfl ?_
  refine sq (f_move rfl (lt rfl)) rfl rfl ?_
  refine sq_pr hO hne (may_c hL hi e) rfl en95 rfl rfl rfl rfl ⟨rfl, rfl, trivial⟩ rfl rfl (lt rfl) (fun _ _ hd h => And.intro hd (h)) (fun b1 j hq hO2 => ?_)
  replace hO := hO2
  clear hO2
  cases b1
  · rw [if_neg Bool.false_ne_true] at hO
    have hj := may_le hq hi
    have hO : o = ocOf (LDw L) (fun l => D.list 2 (l.map fdD)) (((someP typedP e f []).bind .ret).run wEnd L j) := by rw [bind_ret]; exact hO
    refine hits_nil ?_
    refine to_next ?_
    refine hits_cond rfl (fun c0 => absurd c0 Bool.false_ne_true) (fun c0 => ?_)
    refine hits_skip ?_
    refine to_next ?_
    refine hits_seq ?_
    refine hits_region ?_
    refine sq (f_move rfl (lt rfl)) rfl rfl ?_
    refine sq (f_move rfl (lt rfl)) rfl rfl ?_
    refine sq (f_move rfl (lt rfl)) rfl rfl ?_
    refine sq_pr hO hne (somef_c hL hj hS e he f) rfl en126 rfl rfl rfl rfl ⟨rfl, rfl, trivial⟩ rfl rfl (lt rfl) (fun _ _ hd h => And.intro hd (h)) (fun l j2 hq2 hO2 => ?_)
    replace hO := hO2
    clear hO2
    refine sq (f_assign rfl (lt rfl)) rfl rfl ?_
    refine hits_nil ?_
    refine to_next ?_
    refine hits_ret ?_
    exact hits_doneX hO (.inl rfl) rfl rfl rfl rfl rfl ⟨rfl, rfl, trivial⟩ rfl
  · rw [if_pos rfl] at hO
    refine hits_nil ?_
    refine to_next ?_
    refine hits_cond rfl (fun c0 => ?_) (fun c0 => absurd c0 Bool.false_ne_true.symm)
    refine hits_seq ?_
    refine hits_region ?_
    refine sq (f_assign rfl (lt rfl)) rfl rfl ?_
    refine hits_nil ?_
    refine to_next ?_
    refine hits_ret ?_
    refine to_ret ?_
    refine hits_slotD 6 (q' := .list 2 []) rfl nil_list ?_
    exact hits_doneX hO (.inl rfl) rfl rfl rfl rfl rfl ⟨rfl, rfl, trivial⟩ rfl
set_option maxHeartbeats 1000000 in
set_option maxRecDepth 100000 in
theorem someb_c {L : List Wd} {i : Nat} (hL : L.length ≤ 65536) (hi : i ≤ L.length) (hS : Small L) (e : Tx) (he : CallsP Tryz.prog Lw 47 [txD e] (.list 1 ([e].map txD))) (f : Nat) : CallsX Tryz.prog Lw pvN 132 [LDw L, .sc (.int .i64 (i : Int))] (fun b => [txD e, .sc (.func (.func 97) #[.pointer (some ⟨b, 0, none⟩)] #[])]) (ocOf (LDw L) (fun l => D.list 3 (l.map n3D)) ((someP litP e f []).run wEnd L i)) := by
  refine callsX_of (m := 2) Tryz.func132 rfl Tryz.ntmps132 (fun _ => rfl) rfl rfl fun hne w0 S0 b stab => ?_
  obtain ⟨o, hO⟩ : ∃ o, o = ocOf (LDw L) (fun l => D.list 3 (l.map n3D)) ((someP litP e f []).run wEnd L i) := ⟨_, rfl⟩
  rw [← hO] at hne ⊢
  refine hits_seq ?_
  refine hits_region ?_
  refine sq (f_assign rfl (lt rfl)) rfl rfl ?_
  refine hits_nil ?_
  refine to_next ?_
  refine hits_block ?_
  refine hits_own 6 6 3 rfl ?_
  refine hits_loop (fun x : Nat × List (N3) × Nat => [(.slot 0, some (.ptr 1000000 0)), (.box 1000000, some (.ptr 1000000 0)), (.cell 1000000 0, some (.d (LDw L))), (.cell 1000000 1, some (.d (.sc (.int .i64 (x.2.2 : Int))))), (.slot 1, some (.d (txD e))), (.slot 2, some (.d (.sc (.func (.func 97) #[.pointer (some ⟨b, 0, none⟩)] #[])))), (.slot 6, some (.own 6 3 (x.2.1.map n3D))), (.tip 6, some (.ptr 6 0))]) (fun x : Nat × List (N3) × Nat => x.1 ≤ f ∧ x.2.1.length ≤ x.2.2 ∧ x.2.2 ≤ L.length ∧ o = ocOf (LDw L) (fun l => D.list 3 (l.map n3D)) ((someP litP e x.1 x.2.1).run wEnd L x.2.2)) (fun x : Nat × List (N3) × Nat => x.1) (f, [], i) ⟨Nat.le_refl _, Nat.zero_le _, hi, hO⟩ ⟨rfl, rfl, rfl, rfl, rfl, rfl, rfl, rfl, trivial⟩ rfl ?_
  intro x hx0
  obtain ⟨g, acc, i'⟩ := x
  obtain ⟨hg, ha, hi', hO⟩ := hx0
  change g ≤ f at hg
  change acc.length ≤ i' at ha
  change i' ≤ L.length at hi'
  change o = ocOf (LDw L) (fun l => D.list 3 (l.map n3D)) ((someP litP e g acc).run wEnd L i') at hO
  change Hits _ [(.slot 0, some (.ptr 1000000 0)), (.box 1000000, some (.ptr 1000000 0)), (.cell 1000000 0, some (.d (LDw L))), (.cell 1000000 1, some (.d (.sc (.int .i64 (i' : Int))))), (.slot 1, some (.d (txD e))), (.slot 2, some (.d (.sc (.func (.func 97) #[.pointer (some ⟨b, 0, none⟩)] #[])))), (.slot 6, some (.own 6 3 (acc.map n3D))), (.tip 6, some (.ptr 6 0))] _
  cases g with
  | zero => exact absurd hO hne
  | succ g =>
  rw [someP] at hO
  refine hits_block ?_
  refine hits_seq ?_
  refine hits_region ?_
  refine sq (f_move rfl (lt rfl)) rfl rfl ?_
  refine sq (f_move rfl (lt rfl)) rfl rfl ?_
  refine sq_prV hO hne (lit_c hL hi') rfl rfl rfl rfl ⟨rfl, rfl, trivial⟩ rfl rfl (lt rfl) (fun _ _ hd h => And.intro hd (h)) (fun q j hq hO2 => ?_)
  replace hO := hO2
  clear hO2
  have hj := eager_lit hq hi'
  refine sq (f_buildSlice sk59 rfl rfl rfl rfl rfl rfl (by decide) (by decide) (lt rfl)) rfl rfl ?_
  refine sq_append rfl rfl rfl rfl apk59 (by simp only [snds, List.length_map, List.length_cons, List.length_nil]; omega) (by simp only [snds, List.length_map, List.length_cons, List.length_nil]; omega) rfl (lt rfl) ?_
  refine sq (f_assign rfl (lt rfl)) rfl rfl ?_
  refine hits_nil ?_
  refine to_next ?_
  refine hits_seq ?_
  refine hits_region ?_
  refine sq (f_move rfl (lt rfl)) rfl rfl ?_
  refine sq_pr hO hne (may_c hL hj.2 [44]) rfl en95 rfl rfl rfl rfl ⟨rfl, rfl, trivial⟩ rfl rfl (lt rfl) (fun _ _ hd h => And.intro hd (h)) (fun b2 j2 hq2 hO2 => ?_)
  replace hO := hO2
  clear hO2
  have hj2 := may_at hq2
  cases b2
  · rw [if_neg Bool.false_ne_true] at hO
    have hj3 : j2 = j := by rcases hj2 with ⟨h, _⟩ | ⟨_, h⟩; cases h; exact h
    subst hj3
    have hnd := need_c (l := e) (ts := [e]) hL hj.2 (by simp) he
    refine sq (f_un rfl rfl (lt rfl)) rfl rfl ?_
    refine hits_nil ?_
    refine to_next ?_
    refine hits_cond rfl (fun c0 => ?_) (fun c0 => absurd c0 Bool.false_ne_true.symm)
    refine hits_seq ?_
    refine hits_region ?_
    refine sq (f_move rfl (lt rfl)) rfl rfl ?_
    refine sq (f_move rfl (lt rfl)) rfl rfl ?_
    refine sq_pr hO hne (hnd) rfl en83 rfl rfl rfl rfl ⟨rfl, rfl, trivial⟩ rfl rfl (lt rfl) (fun _ _ hd h => And.intro hd (h)) (fun u j3 hq3 hO2 => ?_)
    replace hO := hO2
    clear hO2
    refine hits_nil ?_
    refine to_next ?_
    refine hits_seq ?_
    refine hits_region ?_
    refine sq (f_move rfl (lt rfl)) rfl rfl ?_
    refine sq (f_assign rfl (lt rfl)) rfl rfl ?_
    refine hits_nil ?_
    refine to_next ?_
    refine hits_ret ?_
    refine in_ret ?_
    refine to_ret ?_
    refine in_ret ?_
    have hO' : o = .ret [LDw L, .sc (.int .i64 (j3 : Int))] (.list 3 (acc.map n3D ++ [n3D q])) := by rw [hO]; show Oc.ret _ (D.list 3 ((acc ++ [q]).map n3D)) = _; rw [List.map_append, List.map_cons, List.map_nil]
    exact hits_doneX hO' (.inl rfl) rfl rfl rfl rfl rfl ⟨rfl, rfl, trivial⟩ rfl
  · rw [if_pos rfl] at hO
    have hj3 : j2 = j + 1 ∧ j < L.length := by rcases hj2 with ⟨_, h⟩ | ⟨h, _⟩; exact h; cases h
    refine sq (f_un rfl rfl (lt rfl)) rfl rfl ?_
    refine hits_nil ?_
    refine to_next ?_
    refine hits_cond rfl (fun c0 => absurd c0 Bool.false_ne_true) (fun c0 => ?_)
    refine hits_skip ?_
    refine in_next ?_
    refine to_next ?_
    refine round_end (g, acc ++ [q], j2) ⟨by simp only; omega, by simp only [List.length_append, List.length_cons, List.length_nil]; omega, by simp only; omega, hO⟩ (by simp only; omega) ⟨rfl, rfl, rfl, rfl, rfl, rfl, (by show _ = some (V.own 6 3 ((acc ++ [q]).map n3D)); rw [List.map_append, List.map_cons, List.map_nil]; rfl), rfl, trivial⟩ rfl
set_option maxRecDepth 100000 in
theorem rowb_c {L : List Wd} {i : Nat} (hL : L.length ≤ 65536) (hi : i ≤ L.length) (hS : Small L) (e : Tx) (he : CallsP Tryz.prog Lw 47 [txD e] (.list 1 ([e].map txD))) (f : Nat) : CallsX Tryz.prog Lw pvN 96 [LDw L, .sc (.int .i64 (i : Int))] (fun b => [txD e, .sc (.func (.func 97) #[.pointer (some ⟨b, 0, none⟩)] #[])]) (ocOf (LDw L) (fun l => D.list 3 (l.map n3D)) ((rowP litP e f).run wEnd L i)) := by
  refine callsX_of (m := 2) Tryz.func96 rfl Tryz.ntmps96 (fun _ => rfl) rfl rfl fun hne w0 S0 b stab => ?_
  obtain ⟨o, hO⟩ : ∃ o, o = ocOf (LDw L) (fun l => D.list 3 (l.map n3D)) ((rowP litP e f).run wEnd L i) := ⟨_, rfl⟩
  rw [← hO] at hne ⊢
  rw [rowP] at hO
  refine hits_seq ?_
  refine hits_region ?_
  refine sq (f_assign rfl (lt rfl)) rfl rfl ?_
  refine hits_nil ?_
  refine to_next ?_
  refine hits_seq ?_
  refine hits_seq ?_
  refine hits_region ?_
  refine sq (f_move rfl (lt rfl)) rfl rfl ?_
  refine sq (f_move rfl (lt rfl)) rfl rfl ?_
  refine sq_pr hO hne (may_c hL hi e) rfl en95 rfl rfl rfl rfl ⟨rfl, rfl, trivial⟩ rfl rfl (lt rfl) (fun _ _ hd h => And.intro hd (h)) (fun b1 j hq hO2 => ?_)
  replace hO := hO2
  clear hO2
  cases b1
  · rw [if_neg Bool.false_ne_true] at hO
    have hj := may_le hq hi
    have hO : o = ocOf (LDw L) (fun l => D.list 3 (l.map n3D)) (((someP litP e f []).bind .ret).run wEnd L j) := by rw [bind_ret]; exact hO
    refine hits_nil ?_
    refine to_next ?_
    refine hits_cond rfl (fun c0 => absurd c0 Bool.false_ne_true) (fun c0 => ?_)
    refine hits_skip ?_
    refine to_next ?_
    refine hits_seq ?_
    refine hits_region ?_
    refine sq (f_move rfl (lt rfl)) rfl rfl ?_
    refine sq (f_move rfl (lt rfl)) rfl rfl ?_
    refine sq (f_move rfl (lt rfl)) rfl rfl ?_
    refine sq_pr hO hne (someb_c hL hj hS e he f) rfl en132 rfl rfl rfl rfl ⟨rfl, rfl, trivial⟩ rfl rfl (lt rfl) (fun _ _ hd h => And.intro hd (h)) (fun l j2 hq2 hO2 => ?_)
    replace hO := hO2
    clear hO2
    refine sq (f_assign rfl (lt rfl)) rfl rfl ?_
    refine hits_nil ?_
    refine to_next ?_
    refine hits_ret ?_
    exact hits_doneX hO (.inl rfl) rfl rfl rfl rfl rfl ⟨rfl, rfl, trivial⟩ rfl
  · rw [if_pos rfl] at hO
    refine hits_nil ?_
    refine to_next ?_
    refine hits_cond rfl (fun c0 => ?_) (fun c0 => absurd c0 Bool.false_ne_true.symm)
    refine hits_seq ?_
    refine hits_region ?_
    refine sq (f_assign rfl (lt rfl)) rfl rfl ?_
    refine hits_nil ?_
    refine to_next ?_
    refine hits_ret ?_
    refine to_ret ?_
    refine hits_slotD 6 (q' := .list 3 []) rfl nil_list ?_
    exact hits_doneX hO (.inl rfl) rfl rfl rfl rfl rfl ⟨rfl, rfl, trivial⟩ rfl
end Go.Proofs.YtbgeejmhkmjfdaaGreatDoor.Ln
