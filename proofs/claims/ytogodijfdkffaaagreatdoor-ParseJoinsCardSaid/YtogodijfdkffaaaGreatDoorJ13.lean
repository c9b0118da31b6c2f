/- Parts of the walk, joined. -/
import Derived.Test.YtogodijfdkffaaaGreatDoorJ12
import Derived.Test.YtogodijfdkffaaaGreatDoorJ11
import Derived.Test.YtogodijfdkffaaaGreatDoorJ10
import Derived.ProofKit
import Derived.OpenShut
set_option linter.unusedVariables false
set_option linter.unusedSimpArgs false
set_option maxRecDepth 100000
/- A program's copy, all its lines 0. -/
namespace Go.Proofs.YtogodijfdkffaaaGreatDoor.Ln
open Go Go.RowKit Go.Ab Go.Proofs 
theorem en24 : enters Tryz.prog 24 = true := by kernel_rfl
def dcC (d : Dc) : List D := [.sc (.int .u8 (d.kind : Int)), txD d.name, .list 2 (d.fields.map fdD), nD d.w, nD d.n, nD d.rate, nD d.burst, .list 6 (d.states.map stD), .list 11 (d.keys.map kdD), .list 1 (d.actions.map txD), txD d.default, .list 3 (d.args.map n3D), .list 9 (d.body.map smD), .list 1 (d.emits.map txD), nD d.line]
theorem dcD_c (d : Dc) : dcD d = .agg (dcC d) := rfl
def stC (s : Stt) : List D := [txD s.name, .list 1 (s.headers.map txD), .list 10 (s.sel.map exD), .list 7 (s.cases.map csD), txD s.dest, nD s.line]
theorem stD_c (s : Stt) : stD s = .agg (stC s) := rfl
theorem kdD_c (k : Ex × Nat) : kdD k = .agg (exCs k.1 ++ [.sc (.int .u8 (k.2 : Int))]) := rfl
def dcT (d : Dc) (ks js : Nat) (bd : List Sm) : List D := [.sc (.int .u8 (d.kind : Int)), txD d.name, .list 2 (d.fields.map fdD), nD d.w, nD d.n, nD d.rate, nD d.burst, .list 6 ((turn eSt d.states ks).map stD), .list 11 ((turn eKd d.keys js).map kdD), .list 1 (d.actions.map txD), txD d.default, .list 3 (d.args.map n3D), .list 9 (bd.map smD), .list 1 (d.emits.map txD), nD 0]
theorem dcT_st (x : Dc) (k : Nat) : (dcT x k 0 x.body).set 7 (.list 6 ((turn eSt x.states (k + 1)).map stD)) = dcT x (k + 1) 0 x.body := rfl
theorem dcT_kd (x : Dc) (k j : Nat) : (dcT x k j x.body).set 8 (.list 11 ((turn eKd x.keys (j + 1)).map kdD)) = dcT x k (j + 1) x.body := rfl
theorem stC_e (s : Stt) : ((stC s).set 5 (.sc (.int .i64 0))).set 2 (.list 10 (exDs (eExs s.sel))) = stC (eSt s) := by rw [exDs_map]; rfl
theorem dcT_end (x : Dc) : (dcT x x.states.length x.keys.length x.body).set 12 (.list 9 (smDs (eSms x.body))) = dcC (eDc x) := by unfold dcT; rw [turn_end, turn_end, smDs_map]; rfl
theorem below_kwF {w w1 w2 : World} {F : List Nat} (h : Below w.heap.size w w1) (h' : KW w1 F w2) (hF : ∀ b ∈ F, w.heap.size ≤ b) : Below w.heap.size w w2 :=
  ⟨h'.os.trans h.os, h'.tape.trans h.tape, h'.output.trans h.output, Nat.le_trans h.size h'.size, fun k hk => (h'.frame k (Nat.lt_of_lt_of_le hk h.size) (fun c => by have := hF k c; omega)).trans (h.block k hk)⟩
theorem hits_keepR {E : Env} {st : St} {K : Act → World → Prop} (st' : St) (hk : st'.kept st) (hb : st'.boxed = true) (h : Hits E st' K) : Hits E st K := fun G a w s => h _ _ _ (s.keep hk hb)
theorem turn_st {l : List Stt} {k : Nat} {s : Stt} (hs : l[k]? = some s) : ((turn eSt l k).map stD).set k (stD (eSt s)) = (turn eSt l (k + 1)).map stD := by rw [map_set, turn_set hs]
theorem turn_kd {l : List (Ex × Nat)} {k : Nat} {s : Ex × Nat} (hs : l[k]? = some s) : ((turn eKd l k).map kdD).set k (kdD (eKd s)) = (turn eKd l (k + 1)).map kdD := by rw [map_set, turn_set hs]
theorem turn_dc {l : List Dc} {k : Nat} {s : Dc} (hs : l[k]? = some s) : ((turn eDc l k).map dcD).set k (dcD (eDc s)) = (turn eDc l (k + 1)).map dcD := by rw [map_set, turn_set hs]
set_option maxHeartbeats 4000000 in
theorem bare_g (l : List Dc) (hfit : ∀ d ∈ l, FitD d) (hlen : l.length ≤ 1048576) : GivesC Tryz.prog 12 (.list 15 (l.map dcD)) (.list 15 ((l.map eDc).map dcD)) := by
  intro S w u hst hrel
  refine calls_raw Tryz.func12 rfl Tryz.ntmps12 rfl hst (.cons hrel .nil) <| sqq <| rgq <| asq rfl rfl <| nxq <| sqq <| rgq <| mvq rfl rfl ?_
  refine sq_callT en24 rfl rfl (twProgram l hfit hlen) (lt rfl) (fun wb Sb v F hbb hgb hlv hFb => ?_)
  obtain ⟨b, o, cap, rfl⟩ := hlv.slice
  refine asq rfl rfl <| nxq <| sqq <| sqq <| rgq <| asq rfl rfl <| nxq <| hits_block ?_
  refine hits_keepR [(.slot 3, some (.d (.sc (.slice (some ⟨b, o, none⟩) (l.map dcD).length cap)))), (.slot 4, some (.d (.sc (.int .i64 ((0 : Nat) : Int)))))] ⟨rfl, rfl, trivial⟩ rfl <| hits_loopR (fun i : Nat => [(.slot 3, some (.d (.sc (.slice (some ⟨b, o, none⟩) (l.map dcD).length cap)))), (.slot 4, some (.d (.sc (.int .i64 ((i : Nat) : Int)))))]) (fun i w1 => i ≤ l.length ∧ KW wb F w1 ∧ Lin w1 (.list 15 ((turn eDc l i).map dcD)) (.slice (some ⟨b, o, none⟩) (l.map dcD).length cap) F) (fun i => l.length - i) 0 ⟨Nat.zero_le _, KW.ofBelow (Below.refl _ _), by rw [turn_zero]; exact hlv⟩ (fun _ => rfl) rfl (fun x w w' hj hb' => ⟨hj.1, hj.2.1.comp' (KW.ofBelow hb'), hj.2.2.stay hb'⟩) ⟨rfl, rfl, trivial⟩ ?_
  intro i w1 hJ0
  obtain ⟨hi0, hkw, hl⟩ := hJ0
  refine sqq <| sqq ?_
  by_cases hi : i < l.length
  · obtain ⟨x, hx⟩ : ∃ x, l[i]? = some x := ⟨_, List.getElem?_eq_getElem hi⟩
    have hel := map_get (f := dcD) (turn_get (e := eDc) hx)
    have hfS := (hfit x (List.mem_of_getElem? hx)).states
    have hfK := (hfit x (List.mem_of_getElem? hx)).keys
    rw [dcD_c] at hel
    have hil : i < (l.map dcD).length := by rw [List.length_map]; exact hi
    have hix : ∀ c : List D, (((turn eDc l i).map dcD).set i (.agg c))[i]? = some (.agg c) := fun c => List.getElem?_set_self (by rw [List.length_map, turn_len]; exact hi)
    obtain ⟨cs, ty, hb0, hlt0, hz0⟩ := hl.zero 14 hel rfl
    refine rgq <| mvq rfl rfl <| mvq rfl rfl <| sq (f_lenR rfl un23 (lt rfl)) rfl rfl <| sq (f_bin rfl rfl (bT (decide_eq_true (by rw [List.length_map]; omega))) (lt rfl)) rfl rfl ?_
    refine nxq <| cnT rfl <| skq <| toq <| sqq <| hits_block <| sqq <| rgq ?_
    refine mvq rfl rfl <| mvq rfl rfl <| sq (f_idxR rfl rfl un23 kd56 hil (lt rfl)) rfl rfl <| sq (f_fieldR rfl kf56_14 (lt rfl)) rfl rfl ?_
    refine sq_storeR kd3 rfl rfl rfl hb0 hlt0 rfl (fun w2 hk_w2 hb_w2 => ?_)
    obtain ⟨h2, hk2⟩ := hz0 w2 _ rfl hk_w2 hb_w2
    have hkw2 := hkw.comp' hk2
    change Lin w2 (.list 15 (((turn eDc l i).map dcD).set i (.agg (dcT x 0 0 x.body)))) _ F at h2
    refine nxq <| sqq <| sqq <| rgq <| asq rfl rfl <| nxq <| hits_block <| hits_loopR (fun k : Nat => [(.slot 3, some (.d (.sc (.slice (some ⟨b, o, none⟩) (l.map dcD).length cap)))), (.slot 4, some (.d (.sc (.int .i64 ((i : Nat) : Int))))), (.slot 5, some (.d (.sc (.int .i64 ((k : Nat) : Int)))))]) (fun k w1 => k ≤ x.states.length ∧ KW wb F w1 ∧ Lin w1 (.list 15 (((turn eDc l i).map dcD).set i (.agg (dcT x k 0 x.body)))) (.slice (some ⟨b, o, none⟩) (l.map dcD).length cap) F) (fun k => x.states.length - k) 0 ⟨Nat.zero_le _, hkw2, h2⟩ (fun _ => rfl) rfl (fun x w w' hj hb' => ⟨hj.1, hj.2.1.comp' (KW.ofBelow hb'), hj.2.2.stay hb'⟩) ⟨rfl, rfl, rfl, trivial⟩ ?_
    intro k w3 hJ1
    obtain ⟨hk0, hkw3, hl3⟩ := hJ1
    obtain ⟨v7, F7, hc7, hl7, hs7⟩ := hl3.sub 7 (hix _) rfl
    obtain ⟨b7, o7, cap7, rfl⟩ := hl7.slice
    have hn7 : ((turn eSt x.states k).map stD).length = x.states.length := by rw [List.length_map, turn_len]
    refine sqq <| sqq ?_
    by_cases hk : k < x.states.length
    · obtain ⟨s, hs⟩ : ∃ s, x.states[k]? = some s := ⟨_, List.getElem?_eq_getElem hk⟩
      have hes := map_get (f := stD) (turn_get (e := eSt) hs)
      rw [stD_c] at hes
      have hkl : k < ((turn eSt x.states k).map stD).length := by rw [hn7]; exact hk
      obtain ⟨cs7, ty7, hb7, hlt7, hz7⟩ := hl7.zero 5 hes rfl
      refine rgq <| mvq rfl rfl <| mvq rfl rfl <| mvq rfl rfl <| sq (f_idxR rfl rfl un23 kd56 hil (lt rfl)) rfl rfl <| sq (f_fieldR rfl kf56_7 (lt rfl)) rfl rfl <| sq (f_loadR kd50 rfl hc7 (lt rfl)) rfl rfl <| sq (f_lenR rfl un50 (lt rfl)) rfl rfl ?_
      refine sq (f_bin rfl rfl (bT (decide_eq_true (by rw [hn7]; omega))) (lt rfl)) rfl rfl ?_
      refine nxq <| cnT rfl <| skq <| toq <| sqq <| hits_block <| sqq <| rgq ?_
      refine mvq rfl rfl <| mvq rfl rfl <| sq (f_idxR rfl rfl un23 kd56 hil (lt rfl)) rfl rfl <| sq (f_fieldR rfl kf56_7 (lt rfl)) rfl rfl <| sq (f_loadR kd50 rfl hc7 (lt rfl)) rfl rfl <| mvq rfl rfl <| sq (f_idxR rfl rfl un50 kd76 hkl (lt rfl)) rfl rfl <| sq (f_fieldR rfl kf76_5 (lt rfl)) rfl rfl ?_
      refine sq_storeR kd3 rfl rfl rfl hb7 hlt7 rfl (fun w4 hk_w4 hb_w4 => ?_)
      obtain ⟨h2, hk2⟩ := hz7 w4 _ rfl hk_w4 hb_w4
      obtain ⟨h3, hk3⟩ := hs7 _ w4 _ (Below.refl _ _) hk2 h2
      rw [List.set_set] at h3
      obtain ⟨v8, F8, hc8, hl8, hs8⟩ := h3.sub 7 (hix _) rfl
      obtain ⟨b8, o8, cap8, rfl⟩ := hl8.slice
      have hkl8 : k < (((turn eSt x.states k).map stD).set k (.agg ((stC s).set 5 (.sc (.int .i64 0))))).length := by rw [List.length_set]; exact hkl
      obtain ⟨v9, F9, hc9, hl9, hs9⟩ := hl8.sub 2 (List.getElem?_set_self hkl) rfl
      change Lin w4 (.list 10 (s.sel.map exD)) v9 F9 at hl9
      rw [← exDs_map] at hl9
      refine nxq <| rgq <| mvq rfl rfl <| mvq rfl rfl <| sq (f_idxR rfl rfl un23 kd56 hil (lt rfl)) rfl rfl <| sq (f_fieldR rfl kf56_7 (lt rfl)) rfl rfl <| sq (f_loadR kd50 rfl hc8 (lt rfl)) rfl rfl <| mvq rfl rfl ?_
      refine sq (f_idxR rfl rfl un50 kd76 hkl8 (lt rfl)) rfl rfl <| sq (f_fieldR rfl kf76_2 (lt rfl)) rfl rfl <| sq (f_loadR kd65 rfl hc9 (lt rfl)) rfl rfl ?_
      refine sq_callR (us := [v9]) (R := fun wa wc => KW wa F9 wc ∧ Lin wc (.list 10 (exDs (eExs s.sel))) v9 F9) en25 rfl rfl (fun wa ha => exprsM s.sel wa v9 F9 (hl9.stay ha)) (fun wa wc ha hR => ?_)
      obtain ⟨h4, hk4⟩ := hs9 wa wc _ ha hR.1 hR.2
      obtain ⟨h5, hk5⟩ := hs8 _ wc _ (Below.refl _ _) hk4 h4
      rw [List.set_set, List.set_set, List.set_set, stC_e, ← stD_c, turn_st hs, dcT_st] at h5
      refine nlq <| inq <| toq <| rgq <| mvq rfl rfl <| sq (f_bin rfl rfl (iT (((IntWalk.i64_in _ (by omega)).trans (by omega) : _ = ((k + 1 : Nat) : Int)))) (lt rfl)) rfl rfl <| asq rfl rfl <| nxq ?_
      refine roundR (k + 1) ⟨by omega, (hkw3.comp' hk3).comp' hk5, h5⟩ (fun x w w' hj hb' => ⟨hj.1, hj.2.1.comp' (KW.ofBelow hb'), hj.2.2.stay hb'⟩) (by show x.states.length - (k + 1) < x.states.length - k; omega) ⟨rfl, rfl, rfl, trivial⟩ rfl
    · obtain rfl : k = x.states.length := by omega
      refine rgq <| mvq rfl rfl <| mvq rfl rfl <| mvq rfl rfl <| sq (f_idxR rfl rfl un23 kd56 hil (lt rfl)) rfl rfl <| sq (f_fieldR rfl kf56_7 (lt rfl)) rfl rfl <| sq (f_loadR kd50 rfl hc7 (lt rfl)) rfl rfl <| sq (f_lenR rfl un50 (lt rfl)) rfl rfl ?_
      refine sq (f_bin rfl rfl (bT (decide_eq_false (by rw [hn7]; omega))) (lt rfl)) rfl rfl ?_
      refine nxq <| cnF rfl <| hits_exit <| to_exit <| to_exit <| in_hit rfl <| toq <| sqq ?_
      refine sqq <| rgq <| asq rfl rfl <| nxq <| hits_block <| hits_loopR (fun k : Nat => [(.slot 3, some (.d (.sc (.slice (some ⟨b, o, none⟩) (l.map dcD).length cap)))), (.slot 4, some (.d (.sc (.int .i64 ((i : Nat) : Int))))), (.slot 6, some (.d (.sc (.int .i64 ((k : Nat) : Int)))))]) (fun k w1 => k ≤ x.keys.length ∧ KW wb F w1 ∧ Lin w1 (.list 15 (((turn eDc l i).map dcD).set i (.agg (dcT x x.states.length k x.body)))) (.slice (some ⟨b, o, none⟩) (l.map dcD).length cap) F) (fun k => x.keys.length - k) 0 ⟨Nat.zero_le _, hkw3, hl3⟩ (fun _ => rfl) rfl (fun x w w' hj hb' => ⟨hj.1, hj.2.1.comp' (KW.ofBelow hb'), hj.2.2.stay hb'⟩) ⟨rfl, rfl, rfl, trivial⟩ ?_
      intro k w3 hJ1
      obtain ⟨hk0, hkw3, hl3⟩ := hJ1
      obtain ⟨v7, F7, hc7, hl7, hs7⟩ := hl3.sub 8 (hix _) rfl
      obtain ⟨b7, o7, cap7, rfl⟩ := hl7.slice
      have hn7 : ((turn eKd x.keys k).map kdD).length = x.keys.length := by rw [List.length_map, turn_len]
      refine sqq <| sqq ?_
      by_cases hk : k < x.keys.length
      · obtain ⟨y, hy⟩ : ∃ y, x.keys[k]? = some y := ⟨_, List.getElem?_eq_getElem hk⟩
        have hey := map_get (f := kdD) (turn_get (e := eKd) hy)
        rw [kdD_c] at hey
        have hkl : k < ((turn eKd x.keys k).map kdD).length := by rw [hn7]; exact hk
        refine rgq <| mvq rfl rfl <| mvq rfl rfl <| mvq rfl rfl <| sq (f_idxR rfl rfl un23 kd56 hil (lt rfl)) rfl rfl <| sq (f_fieldR rfl kf56_8 (lt rfl)) rfl rfl <| sq (f_loadR kd51 rfl hc7 (lt rfl)) rfl rfl <| sq (f_lenR rfl un51 (lt rfl)) rfl rfl ?_
        refine sq (f_bin rfl rfl (bT (decide_eq_true (by rw [hn7]; omega))) (lt rfl)) rfl rfl ?_
        refine nxq <| cnT rfl <| skq <| toq <| sqq <| hits_block <| rgq <| mvq rfl rfl ?_
        refine mvq rfl rfl <| sq (f_idxR rfl rfl un23 kd56 hil (lt rfl)) rfl rfl <| sq (f_fieldR rfl kf56_8 (lt rfl)) rfl rfl <| sq (f_loadR kd51 rfl hc7 (lt rfl)) rfl rfl <| mvq rfl rfl <| sq (f_idxR rfl rfl un51 kd82 hkl (lt rfl)) rfl rfl <| sq (f_fieldR rfl kf82_0 (lt rfl)) rfl rfl ?_
        refine sq_callR (us := [.pointer (some ⟨b7, o7 + k * 11, none⟩)]) (R := fun wa wc => KW wa F7 wc ∧ Lin wc (.list 11 (((turn eKd x.keys k).map kdD).set k (.agg (exCs (eEx y.1) ++ [.sc (.int .u8 (y.2 : Int))])))) (.slice (some ⟨b7, o7, none⟩) ((turn eKd x.keys k).map kdD).length cap7) F7) en26 rfl rfl (fun wa ha => exprM_all y.1 wa 11 k _ b7 o7 cap7 _ _ F7 (hl7.stay ha) hey) (fun wa wc ha hR => ?_)
        obtain ⟨h5, hk5⟩ := hs7 wa wc _ ha hR.1 hR.2
        rw [List.set_set] at h5
        change Lin wc (.list 15 (((turn eDc l i).map dcD).set i (.agg ((dcT x x.states.length k x.body).set 8 (.list 11 (((turn eKd x.keys k).map kdD).set k (kdD (eKd y)))))))) _ F at h5
        rw [turn_kd hy, dcT_kd] at h5
        refine nlq <| inq <| toq <| rgq <| mvq rfl rfl <| sq (f_bin rfl rfl (iT (((IntWalk.i64_in _ (by omega)).trans (by omega) : _ = ((k + 1 : Nat) : Int)))) (lt rfl)) rfl rfl <| asq rfl rfl <| nxq ?_
        refine roundR (k + 1) ⟨by omega, hkw3.comp' hk5, h5⟩ (fun x w w' hj hb' => ⟨hj.1, hj.2.1.comp' (KW.ofBelow hb'), hj.2.2.stay hb'⟩) (by show x.keys.length - (k + 1) < x.keys.length - k; omega) ⟨rfl, rfl, rfl, trivial⟩ rfl
      · obtain rfl : k = x.keys.length := by omega
        refine rgq <| mvq rfl rfl <| mvq rfl rfl <| mvq rfl rfl <| sq (f_idxR rfl rfl un23 kd56 hil (lt rfl)) rfl rfl <| sq (f_fieldR rfl kf56_8 (lt rfl)) rfl rfl <| sq (f_loadR kd51 rfl hc7 (lt rfl)) rfl rfl <| sq (f_lenR rfl un51 (lt rfl)) rfl rfl ?_
        refine sq (f_bin rfl rfl (bT (decide_eq_false (by rw [hn7]; omega))) (lt rfl)) rfl rfl ?_
        refine nxq <| cnF rfl <| hits_exit <| to_exit <| to_exit <| in_hit rfl <| toq ?_
        obtain ⟨v7, F7, hc7, hl7, hs7⟩ := hl3.sub 12 (hix _) rfl
        change Lin w3 (.list 9 (x.body.map smD)) v7 F7 at hl7
        rw [← smDs_map] at hl7
        refine rgq <| mvq rfl rfl <| mvq rfl rfl <| sq (f_idxR rfl rfl un23 kd56 hil (lt rfl)) rfl rfl <| sq (f_fieldR rfl kf56_12 (lt rfl)) rfl rfl <| sq (f_loadR kd54 rfl hc7 (lt rfl)) rfl rfl ?_
        refine sq_callR (us := [v7]) (R := fun wa wc => KW wa F7 wc ∧ Lin wc (.list 9 (smDs (eSms x.body))) v7 F7) en27 rfl rfl (fun wa ha => stmtsM x.body wa v7 F7 (hl7.stay ha)) (fun wa wc ha hR => ?_)
        obtain ⟨h5, hk5⟩ := hs7 wa wc _ ha hR.1 hR.2
        rw [List.set_set, dcT_end, ← dcD_c, turn_dc hx] at h5
        refine nlq <| inq <| toq <| rgq <| mvq rfl rfl <| sq (f_bin rfl rfl (iT (((IntWalk.i64_in _ (by omega)).trans (by omega) : _ = ((i + 1 : Nat) : Int)))) (lt rfl)) rfl rfl <| asq rfl rfl <| nxq ?_
        refine roundR (i + 1) ⟨by omega, hkw3.comp' hk5, h5⟩ (fun x w w' hj hb' => ⟨hj.1, hj.2.1.comp' (KW.ofBelow hb'), hj.2.2.stay hb'⟩) (by show l.length - (i + 1) < l.length - i; omega) ⟨rfl, rfl, trivial⟩ rfl
  · obtain rfl : i = l.length := by omega
    refine rgq <| mvq rfl rfl <| mvq rfl rfl <| sq (f_lenR rfl un23 (lt rfl)) rfl rfl <| sq (f_bin rfl rfl (bT (decide_eq_false (by rw [List.length_map]; omega))) (lt rfl)) rfl rfl ?_
    refine nxq <| cnF rfl <| hits_exit <| to_exit <| to_exit <| in_hit rfl <| toq <| sqq ?_
    refine rgq <| mvq rfl rfl <| asq rfl rfl <| nxq <| rtq ?_
    exact hits_doneR (.inl rfl) rfl rfl (fun u' w' S' _ hr hb' => ⟨_, F, rfl, below_comp (below_kwF hbb hkw hFb) hb', by rw [rel_sc hr, ← turn_end]; exact hl.stay hb', hFb⟩)
end Go.Proofs.YtogodijfdkffaaaGreatDoor.Ln

/- Texts that are programs; words with blanks. -/
namespace Go.Proofs.YtogodijfdkffaaaGreatDoor.Ln
open Go Go.RowKit Go.Ab Go.Proofs 
def blanksT : List Wd → Tx
  | [] => []
  | x :: l => (told x ++ [32]) ++ blanksT l
theorem blanks_snoc (x : Wd) : ∀ l : List Wd, blanksT (l ++ [x]) = (blanksT l ++ told x) ++ [32]
  | [] => by simp [blanksT]
  | y :: l => by rw [List.cons_append, blanksT, blanksT, blanks_snoc x l]; simp
theorem blanks_take {l : List Wd} {i : Nat} {x : Wd} (h : l[i]? = some x) : blanksT (l.take (i + 1)) = (blanksT (l.take i) ++ told x) ++ [32] := by
  rw [List.take_add_one, h]; exact blanks_snoc x _
theorem blanks_len : ∀ l : List Wd, (blanksT l).length = (linesT l).length
  | [] => rfl
  | x :: l => by
    rw [blanksT, linesT]
    simp only [List.length_append, List.length_cons, List.length_nil]
    rw [blanks_len l]
theorem W_blanks : ∀ {l : List Wd}, Row l → ∀ m, W (blanksT l) m = .inr (l.map fun x => { x with ln := m })
  | [], _, m => by rw [List.map_nil]; exact W_nil rfl
  | _ :: l, .cons (x := x) (k := k) hw hr, m => by
    obtain ⟨h1, h2, h3, h4, _⟩ := word_told hw
    have ih := W_blanks hr m
    have he : EndsS (32 :: blanksT l) := .inr (.inl ⟨_, rfl⟩)
    rw [blanksT, told_ln, List.append_assoc]
    show W (told x ++ (32 :: blanksT l)) m = _
    rw [W_word m h3 (h4 _ he), W_blank, ih]
    rfl
theorem like_map (L : List Wd) (m : Nat) : Like L (L.map fun x => { x with ln := m }) := ⟨fun i => by
  unfold wordAt
  rw [List.getElem?_map]
  cases L[i]? <;> rfl⟩
theorem parse_ok {s : Tx} {ds : List Dc} {n : Nat} (h : parseS s = (ds, n, 0)) : s.length ≤ 65536 ∧ n = 0 ∧ ∃ L j, W s 0 = .inr L ∧ (progP 786433 []).run wEnd L 0 = .ok ds j ∧ smallB ds = true := by
  unfold parseS at h
  by_cases hs : 65536 < s.length
  · rw [if_pos hs] at h; cases h
  · rw [if_neg hs] at h
    cases hW : W s 0 with
    | inl m => rw [hW] at h; cases h
    | inr L =>
      rw [hW] at h
      have hno := prog_sure (L := L) (by have := (W_facts hW).1; omega)
      change (progP 786433 []).run wEnd L 0 ≠ .oof at hno
      change parseR L ((progP 786433 []).run wEnd L 0) = _ at h
      cases h1 : (progP 786433 []).run wEnd L 0 with
      | oof => exact absurd h1 hno
      | bad j => rw [h1] at h; cases h
      | ok es j =>
        rw [h1, parseR] at h
        by_cases hb : smallB es = true
        · rw [if_pos hb] at h
          cases h
          exact ⟨by omega, rfl, L, j, rfl, h1, hb⟩
        · rw [if_neg hb] at h; cases h
theorem prog_le {L : List Wd} {f : Nat} {ds : List Dc} {j : Nat} (h : (progP f []).run wEnd L 0 = .ok ds j) : j ≤ L.length := by
  have : ∀ (f : Nat) (acc : List Dc), Tame (progP f acc) := by
    intro f
    induction f with
    | zero => intro acc; exact tame_oof
    | succ f ih => intro acc; rw [progP]; exact tame_look fun w => tame_ite (tame_ret _) (tame_bind (Eager.tame (p := declP f) (eager_decl f)) fun d => ih _)
  exact (this _ _ h (Nat.zero_le _)).2
theorem parse_like {s T : Tx} {ds : List Dc} {n : Nat} {L L' : List Wd} (h : parseS s = (ds, n, 0)) (hW : W s 0 = .inr L) (hT : W T 0 = .inr L') (hl : T.length ≤ 65536) (hL : Like L L') : ∃ es, parseS T = (es, 0, 0) ∧ es.map eDc = ds.map eDc := by
  obtain ⟨hs, rfl, L0, j, hW0, h1, hb⟩ := parse_ok h
  rw [hW] at hW0
  cases hW0
  have hR := (same_prog 786433 [] [] rfl).go hL 0
  rw [parse_words_is hT hl]
  rw [h1] at hR
  cases h2 : (progP 786433 []).run wEnd L' 0 with
  | oof => rw [h2] at hR; exact hR.elim
  | bad q => rw [h2] at hR; exact hR.elim
  | ok es q =>
    rw [h2] at hR
    refine ⟨es, ?_, hR.1.symm⟩
    rw [parseR, if_pos ((small_e hR.1).symm.trans hb)]
end Go.Proofs.YtogodijfdkffaaaGreatDoor.Ln

/- Trees that are read are no wider than their words. -/
namespace Go.Proofs.YtogodijfdkffaaaGreatDoor.Ln
open Go Go.RowKit Go.Ab Go.Proofs 
mutual
theorem fit_ex : ∀ x : Ex, nEx x ≤ 1048576 → fitE x
  | .mk _ _ _ _ _ _ _ _ args _, h => by rw [nEx] at h; rw [fitE]; exact ⟨by omega, fit_exs args (by omega)⟩
theorem fit_exs : ∀ l : List Ex, nExs l ≤ 1048576 → fitEs l
  | [], _ => by rw [fitEs]; trivial
  | x :: l, h => by rw [nExs] at h; rw [fitEs]; exact ⟨fit_ex x (by omega), fit_exs l (by omega)⟩
end
mutual
theorem fit_sm : ∀ x : Sm, nSm x ≤ 1048576 → fitS x
  | .mk _ _ _ _ _ args body els _, h => by rw [nSm] at h; rw [fitS]; exact ⟨⟨by omega, fit_exs args (by omega)⟩, ⟨by omega, fit_sms body (by omega)⟩, by omega, fit_sms els (by omega)⟩
theorem fit_sms : ∀ l : List Sm, nSms l ≤ 1048576 → fitSs l
  | [], _ => by rw [fitSs]; trivial
  | x :: l, h => by rw [nSms] at h; rw [fitSs]; exact ⟨fit_sm x (by omega), fit_sms l (by omega)⟩
end
theorem sumN_mem {α : Type} {m : α → Nat} : ∀ {l : List α} {x : α}, x ∈ l → m x ≤ sumN m l
  | y :: l, x, h => by
    rw [sumN]
    rcases List.mem_cons.mp h with rfl | h
    · omega
    · have := sumN_mem (m := m) h; omega
theorem fit_d {d : Dc} (h : wDc d ≤ 1048576) : FitD d := by
  unfold wDc at h
  rw [sumN_add (fun k : Ex × Nat => nEx k.1)] at h
  refine ⟨by omega, by omega, fun s hs => ?_, by omega, fun k hk => ?_, by omega, by omega, ⟨by omega, fit_sms _ (by omega)⟩, by omega⟩
  · have := sumN_mem (m := wSt) hs
    have e : wSt s = s.headers.length + (s.cases.length + (s.sel.length + nExs s.sel)) := rfl
    exact ⟨by omega, ⟨by omega, fit_exs _ (by omega)⟩, by omega⟩
  · have := sumN_mem (m := fun k : Ex × Nat => nEx k.1) hk
    exact fit_ex _ (by omega)
mutual
theorem nEx_e : ∀ x : Ex, nEx (eEx x) = nEx x
  | .mk _ _ _ _ _ _ _ _ args _ => by rw [eEx, nEx, nEx, nExs_e args, eExs_len]
theorem nExs_e : ∀ l : List Ex, nExs (eExs l) = nExs l
  | [] => by rw [eExs]
  | x :: l => by rw [eExs, nExs, nExs, nEx_e x, nExs_e l]
end
mutual
theorem nSm_e : ∀ x : Sm, nSm (eSm x) = nSm x
  | .mk _ _ _ _ _ args body els _ => by rw [eSm, nSm, nSm, nExs_e args, nSms_e body, nSms_e els, eExs_len, eSms_len, eSms_len]
theorem nSms_e : ∀ l : List Sm, nSms (eSms l) = nSms l
  | [] => by rw [eSms]
  | x :: l => by rw [eSms, nSms, nSms, nSm_e x, nSms_e l]
end
theorem sumN_map {α : Type} {m : α → Nat} {e : α → α} (h : ∀ x, m (e x) = m x) : ∀ l : List α, sumN m (l.map e) = sumN m l
  | [] => rfl
  | x :: l => by rw [List.map_cons, sumN, sumN, h, sumN_map h l]
theorem wDc_e (d : Dc) : wDc (eDc d) = wDc d := by
  unfold wDc eDc
  simp only
  rw [sumN_map (m := wSt) (fun s => by unfold wSt nSt eSt; simp only; rw [eExs_len, nExs_e]), sumN_map (m := fun k : Ex × Nat => 1 + nEx k.1) (fun k => by show 1 + nEx (eEx k.1) = _; rw [nEx_e]), List.length_map, eSms_len, nSms_e]
def Wide1 (ds : List Dc) : Prop := (∀ d ∈ ds, wDc d ≤ 1048576) ∧ ds.length ≤ 1048576
theorem Wide1.fit {ds : List Dc} (h : Wide1 ds) : ∀ d ∈ ds, FitD d := fun d hd => fit_d (h.1 d hd)
theorem Wide1.e {ds : List Dc} (h : Wide1 ds) : Wide1 (ds.map eDc) := ⟨fun d hd => by obtain ⟨x, hx, rfl⟩ := List.mem_map.1 hd; rw [wDc_e]; exact h.1 x hx, by rw [List.length_map]; exact h.2⟩
theorem parse_wide {s : Tx} {ds : List Dc} {n : Nat} (h : parseS s = (ds, n, 0)) : ds.length + sumN wDc ds ≤ s.length := by
  obtain ⟨hs, rfl, L, j, hW, h1, _⟩ := parse_ok h
  have h2 := (W_facts hW).1
  have h3 := prog_le h1
  have := (cost_prog _ _).go h1
  simp only [List.length_nil, sumN] at this
  omega
theorem parse_fit {s : Tx} {ds : List Dc} {n : Nat} (h : parseS s = (ds, n, 0)) : Wide1 ds := by
  have h1 := (parse_ok h).1
  have h2 := parse_wide h
  exact ⟨fun d hd => by have := sumN_mem (m := wDc) hd; omega, by omega⟩
end Go.Proofs.YtogodijfdkffaaaGreatDoor.Ln

/- Comparisons of structs, field by field as long as these are the same. No program. -/
namespace Go.Ab
open Go Go.RowKit
variable {P : Program} {E : Env} {st : St} {G : Gh} {a : Act} {w : World} {Q : Exit → Act → World → Prop} {K : Act → World → Prop}
noncomputable def same (p q : D) : Bool := @decide (p = q) (Classical.propDecidable _)
theorem same_iff {p q : D} : same p q = true ↔ p = q := by unfold same; exact @decide_eq_true_iff _ (Classical.propDecidable _)
theorem same_self (p : D) : same p p = true := same_iff.2 rfl
theorem same_of {p q : D} {b : Bool} (h : b = true ↔ p = q) : b = same p q := by
  rw [Bool.eq_iff_iff, h, same_iff]
theorem same_agg (x y : D) (l l' : List D) : same (.agg (x :: l)) (.agg (y :: l')) = (same x y && same (.agg l) (.agg l')) :=
  (same_of (by rw [Bool.and_eq_true, same_iff, same_iff, D.agg.injEq, D.agg.injEq, List.cons.injEq])).symm
theorem same_nil : same (.agg []) (.agg []) = true := same_self _
theorem same_int (k : IntKind) (x y : Int) : (x == y) = same (.sc (.int k x)) (.sc (.int k y)) := same_of (by simp)
theorem same_str (x y : ByteArray) : (x.toList == y.toList) = same (.sc (.string x)) (.sc (.string y)) := same_of (by
  rw [beq_iff_eq, D.sc.injEq, Value.string.injEq]
  exact ⟨fun h => by rw [ByteArray.toList_eq, ByteArray.toList_eq] at h; cases x; cases y; congr 1; exact Array.toList_inj.mp h, fun h => by rw [h]⟩)
def SameC (P : Program) (Γ : World → Prop) (f : FuncId) (p q : D) : Prop := CallsP P Γ f [p, q] (.sc (.bool (same p q)))
theorem Sim.weak {st' : St} (s : Sim E st G a w) (h1 : ∀ t v, look st' (.slot t) = some v → look st (.slot t) = some v) (h2 : ∀ l, (∀ t, l ≠ .slot t) → look st' l = look st l) : Sim E st' G a w := by
  have eb : ∀ i, look st' (.box i) = look st (.box i) := fun i => h2 _ (by simp)
  have et : ∀ i, look st' (.tip i) = look st (.tip i) := fun i => h2 _ (by simp)
  refine ⟨s.kw, s.s0, s.snew, s.tmps, s.defers, fun t v hv => s.slots t v (h1 t v hv), fun i o v hv => by rw [eb]; rw [h2 _ (by simp)] at hv; exact s.cells i o v hv, fun i hi => s.boxes i (by rw [← eb]; exact hi), fun i j hi hj => s.inj i j (by rw [← eb]; exact hi) (by rw [← eb]; exact hj), s.stable, fun i hi ht => ?_, fun i j hi hj => s.tinj i j (by rw [← et]; exact hi) (by rw [← et]; exact hj), fun p hp => ⟨(s.rcv p hp).1, fun hi => (s.rcv p hp).2 (by rw [← eb]; exact hi)⟩, fun i qv l hl => s.conts i qv l (by rw [← et]; exact hl), fun i v hl => by rw [eb]; rw [h2 _ (by simp)] at hl; exact s.iters i v hl, fun k v hl => s.olds k v (by rw [← h2 _ (by simp)]; exact hl)⟩
  obtain ⟨q1, q2, q3, q4⟩ := s.tips i (by rw [← et]; exact hi) ht
  exact ⟨q1, q2, q3, fun j hj => q4 j (by rw [← eb]; exact hj)⟩
def St.lower (n : Nat) (st : St) : Bool := st.all fun e => match e.1 with
  | .slot t => Nat.blt t n
  | _ => true
theorem lower_look {n t : Nat} {v : V} (h : st.lower n = true) (hl : look st (.slot t) = some v) : t < n := by
  induction st with
  | nil => cases hl
  | cons e r ih =>
    simp only [St.lower, List.all_cons, Bool.and_eq_true] at h
    rw [look_cons] at hl
    split at hl
    · rename_i he
      have := h.1
      rw [he] at this
      exact lt this
    · exact ih h.2 hl
theorem ldV_slots {st' : St} (h : ∀ l, (∀ t, l ≠ .slot t) → look st' l = look st l) (kk : Bool × Nat) (p : V) : ldV st' kk p = ldV st kk p := by
  obtain ⟨b, n⟩ := kk
  cases p with
  | ptr id off =>
    cases b with
    | false => exact h (.cell id off) (by intro t c; cases c)
    | true =>
    simp only [ldV]
    rw [cellsD_same fun l hl => h l (by
      intro t c
      subst c
      have : ∀ (n o : Nat) (id : Nat), Loc.slot t ∉ cellsL id o n := by
        intro n
        induction n with
        | zero => intro o id hm; cases hm
        | succ n ih =>
          intro o id hm
          rcases List.mem_cons.1 hm with h | h
          · cases h
          · exact ih _ _ h
      exact this _ _ _ hl)]
  | d x => cases b <;> cases x <;> first | rfl | (rename_i l; cases l <;> rfl)
  | _ => cases b <;> rfl
def Gd (ops : Array Oper) (E : Env) (st : St) (n : Nat) (g : Option (Nat × Bool)) : Prop := g = none ∨ ∃ (j t : Nat), g = some (j, true) ∧ (ops[j]?).bind (·.dst) = some t ∧ look st (.slot t) = some (.d (.sc (.bool true))) ∧ t < E.N ∧ t < n
theorem sq_any {ops : Array Oper} {o : Oper} {l : List Oper} {L : List Loc} {W : St} {n : Nat} (hf : FOk P E o st L [] W) (hg : Gd ops E st n o.guard) (h : Hits E (W ++ st) (wpList P ops Q l)) : Hits E st (wpList P ops Q (o :: l)) := by
  rcases hg with hg | ⟨j, t, h1, h2, h3, h4, _⟩
  · exact sq hf rfl hg h
  · exact sq_yes hf rfl h1 h2 h3 h4 h
theorem Gd.cons {ops : Array Oper} {n m : Nat} {g : Option (Nat × Bool)} {v : Option V} (h : Gd ops E st n g) (hm : n ≤ m) : Gd ops E ((.slot m, v) :: st) n g := by
  rcases h with h | ⟨j, t, h1, h2, h3, h4, h5⟩
  · exact .inl h
  · have hmt : m ≠ t := by omega
    exact .inr ⟨j, t, h1, h2, by rw [look_ne (k := .slot m) (k' := .slot t) _ _ (fun c => by injection c with c; exact hmt c)]; exact h3, h4, h5⟩
def Cmp (P : Program) (E : Env) (o : Oper) (s1 s2 d : Nat) (x y : V) (c : Bool) : Prop := ∀ st : St, look st (.slot s1) = some x → look st (.slot s2) = some y → ∃ L, FOk P E o st L [] [(.slot d, some (.d (.sc (.bool c))))]
theorem cmp_int {t yt ty : TypeId} {pos : String} {af : Array Edge} {g : Option (Nat × Bool)} {s1 s2 d : Nat} {k : IntKind} {x y : Int} (hd : d < E.N) : Cmp P E ⟨some d, .binOp .eql t (.tmp s1) (.tmp s2) yt, ty, pos, af, g⟩ s1 s2 d (.d (.sc (.int k x))) (.d (.sc (.int k y))) (same (.sc (.int k x)) (.sc (.int k y))) :=
  fun st h1 h2 => ⟨_, f_bin h1 h2 (by simp [binS, same_int k x y]) hd⟩
theorem cmp_str {t yt ty : TypeId} {pos : String} {af : Array Edge} {g : Option (Nat × Bool)} {s1 s2 d : Nat} {x y : ByteArray} (hd : d < E.N) : Cmp P E ⟨some d, .binOp .eql t (.tmp s1) (.tmp s2) yt, ty, pos, af, g⟩ s1 s2 d (.d (.sc (.string x))) (.d (.sc (.string y))) (same (.sc (.string x)) (.sc (.string y))) :=
  fun st h1 h2 => ⟨_, f_bin h1 h2 (by rw [← same_str]; rfl) hd⟩
theorem cmp_call {ty : TypeId} {pos : String} {af : Array Edge} {g : Option (Nat × Bool)} {f : FuncId} {ats : Array TypeId} {s1 s2 d : Nat} {x y : D} (hen : enters P f = true) (hc : SameC P E.Γ f x y) (hd : d < E.N) : Cmp P E ⟨some d, .call ⟨.value (.func f), #[.tmp s1, .tmp s2], ats⟩, ty, pos, af, g⟩ s1 s2 d (.d x) (.d y) (same x y) :=
  fun st h1 h2 => ⟨_, f_call (xs := [.tmp s1, .tmp s2]) hen (by simp [evs, ev, h1, h2]) hc hd⟩
theorem cmp_struct {t yt ty : TypeId} {pos : String} {af : Array Edge} {g : Option (Nat × Bool)} {s1 s2 d m : Nat} {l l' : List D} {p q : List Value} {b : Bool} (hp : scs l = some p) (hq : scs l' = some q) (hg : P.eqGuardType P.depth t = false)
    (he : eqV P m t (.agg ⟨p⟩) (.agg ⟨q⟩) = some b) (hm : m ≤ 10000) (hv : b = same (.agg l) (.agg l')) (hd : d < E.N) : Cmp P E ⟨some d, .binOp .eql t (.tmp s1) (.tmp s2) yt, ty, pos, af, g⟩ s1 s2 d (.d (.agg l)) (.d (.agg l')) (same (.agg l) (.agg l')) :=
  fun st h1 h2 => ⟨_, f_eqS h1 h2 hp hq hg he hm hv hd⟩
theorem ldV_all {n : Nat} {c : List D} (h : c.length = n) : ldV st (true, n) (.d (.eptr c)) = some (.d (.agg c)) := by
  subst h
  show (match Nat.ble c.length c.length with | true => some (V.d (.agg (c.take c.length))) | false => none) = _
  rw [Nat.ble_self_eq_true, List.take_length]
theorem same_no {p q : D} (h : p ≠ q) : same p q = false := Bool.eq_false_iff.2 fun c => h (same_iff.1 c)
theorem same_list (es : Nat) (l l' : List D) : same (.list es l) (.list es l') = true ↔ l = l' := by rw [same_iff, D.list.injEq]; simp
theorem take_same {α : Type} {l l' : List α} {i : Nat} {x : α} (h : l.take i = l'.take i) (h1 : l[i]? = some x) (h2 : l'[i]? = some x) : l.take (i + 1) = l'.take (i + 1) := by rw [List.take_add_one, List.take_add_one, h, h1, h2]
theorem take_end {α : Type} {l l' : List α} (h : l.take l.length = l'.take l.length) (hl : l.length = l'.length) : l = l' := by
  rw [List.take_length, hl, List.take_length] at h; exact h
theorem same_five {ops : Array Oper} {l : List Oper} {g : Option (Nat × Bool)} {p k off s sa sb t : Nat} {ia ib : Nat} {kk : Bool × Nat} {x y : V} {c : Bool} {op : Op} {ty1 ty2 ty3 ty4 ty5 : TypeId} {p1 p2 p3 p4 p5 : String} {f1 f2 f3 f4 f5 : Array Edge}
    (hlow : st.lower p = true) (hG : Gd ops E st p g) (ha : look st (.slot sa) = some (.ptr ia 0)) (hb : look st (.slot sb) = some (.ptr ib 0)) (hk : kf P s k = some off) (hkd : kd P t = some kk) (hx : ldV st kk (.ptr ia off) = some x) (hy : ldV st kk (.ptr ib off) = some y)
    (hc : Cmp P E ⟨some (p + 4), op, ty5, p5, f5, g⟩ (p + 1) (p + 3) (p + 4) x y c) (hN : p + 4 < E.N) (h : Hits E ((.slot (p + 4), some (.d (.sc (.bool c)))) :: st) (wpList P ops Q l)) :
    Hits E st (wpList P ops Q (⟨some p, .fieldAddr s (.tmp sa) k, ty1, p1, f1, g⟩ :: ⟨some (p + 1), .load t (.tmp p), ty2, p2, f2, g⟩ :: ⟨some (p + 2), .fieldAddr s (.tmp sb) k, ty3, p3, f3, g⟩ :: ⟨some (p + 3), .load t (.tmp (p + 2)), ty4, p4, f4, g⟩ :: ⟨some (p + 4), op, ty5, p5, f5, g⟩ :: l)) := by
  have hsa := lower_look hlow ha
  have hsb := lower_look hlow hb
  have g1 := hG.cons (m := p) (v := some (.ptr ia off)) (Nat.le_refl _)
  have g2 := g1.cons (m := p + 1) (v := some x) (by omega)
  have g3 := g2.cons (m := p + 2) (v := some (.ptr ib off)) (by omega)
  have g4 := g3.cons (m := p + 3) (v := some y) (by omega)
  refine sq_any (f_fieldAddr (p := .ptr ia 0) (v := .ptr ia off) ha hk (by simp [faV]) (by omega)) hG ?_
  refine sq_any (f_load (p := .ptr ia off) (v := x) hkd (by simp [ev, look_cons]) (by rw [← hx]; exact ldV_slots (fun l hl => by simp only [List.singleton_append, List.cons_append, List.nil_append]; rw [look_ne _ _ (fun c => hl _ c.symm)]) _ _) (by omega)) g1 ?_
  refine sq_any (f_fieldAddr (p := .ptr ib 0) (v := .ptr ib off) (by show look _ _ = _; simp only [List.singleton_append, List.cons_append, List.nil_append]; rw [look_ne _ _ (fun c => by injection c with c; omega), look_ne _ _ (fun c => by injection c with c; omega)]; exact hb) hk (by simp [faV]) (by omega)) g2 ?_
  refine sq_any (f_load (p := .ptr ib off) (v := y) hkd (by simp [ev, look_cons]) (by rw [← hy]; exact ldV_slots (fun l hl => by simp only [List.singleton_append, List.cons_append, List.nil_append]; rw [look_ne _ _ (fun c => hl _ c.symm), look_ne _ _ (fun c => hl _ c.symm), look_ne _ _ (fun c => hl _ c.symm)]) _ _) (by omega)) g3 ?_
  obtain ⟨L, hf⟩ := hc ((.slot (p + 3), some y) :: (.slot (p + 2), some (.ptr ib off)) :: (.slot (p + 1), some x) :: (.slot p, some (.ptr ia off)) :: st) (by simp [look_cons]) (by simp [look_cons])
  refine sq_any hf g4 ?_
  intro G a w s1
  refine h G a w (s1.weak (fun q v hv => ?_) fun l hl => ?_)
  · rw [look_cons] at hv
    simp only [List.singleton_append, List.cons_append, List.nil_append]
    rw [look_cons]
    split at hv
    · rename_i he; rw [if_pos he]; exact hv
    · rename_i he
      rw [if_neg he]
      have := lower_look hlow hv
      rw [look_ne _ _ (fun c => by injection c with c; omega), look_ne _ _ (fun c => by injection c with c; omega), look_ne _ _ (fun c => by injection c with c; omega), look_ne _ _ (fun c => by injection c with c; omega)]
      exact hv
  · simp only [List.singleton_append, List.cons_append, List.nil_append]
    rw [look_ne _ _ (fun c => hl _ c.symm), look_ne _ _ (fun c => hl _ c.symm), look_ne _ _ (fun c => hl _ c.symm), look_ne _ _ (fun c => hl _ c.symm), look_ne _ _ (fun c => hl _ c.symm), look_ne _ _ (fun c => hl _ c.symm)]
theorem same_more {ops : Array Oper} {l : List Oper} {p k off s sa sb t j n : Nat} {ia ib : Nat} {kk : Bool × Nat} {x y : V} {b c : Bool} {op : Op} {ty0 ty1 ty2 ty3 ty4 ty5 ty6 : TypeId} {p0 p1 p2 p3 p4 p5 p6 : String} {f0 f1 f2 f3 f4 f5 f6 : Array Edge}
    (hlow : st.lower n = true) (hn : n ≤ p) (hj : (ops[j]?).bind (·.dst) = some (p + 1)) (ha : look st (.slot sa) = some (.ptr ia 0)) (hb : look st (.slot sb) = some (.ptr ib 0)) (hk : kf P s k = some off) (hkd : kd P t = some kk) (hx : ldV st kk (.ptr ia off) = some x) (hy : ldV st kk (.ptr ib off) = some y)
    (hc : Cmp P E ⟨some (p + 6), op, ty5, p5, f5, some (j, true)⟩ (p + 3) (p + 5) (p + 6) x y c) (hN : p + 7 < E.N) (h : Hits E ((.slot (p + 7), some (.d (.sc (.bool (b && c))))) :: st) (wpList P ops Q l)) :
    Hits E ((.slot p, some (.d (.sc (.bool b)))) :: st) (wpList P ops Q (⟨some (p + 1), .move (.tmp p), ty0, p0, f0, none⟩ :: ⟨some (p + 2), .fieldAddr s (.tmp sa) k, ty1, p1, f1, some (j, true)⟩ :: ⟨some (p + 3), .load t (.tmp (p + 2)), ty2, p2, f2, some (j, true)⟩ ::
      ⟨some (p + 4), .fieldAddr s (.tmp sb) k, ty3, p3, f3, some (j, true)⟩ :: ⟨some (p + 5), .load t (.tmp (p + 4)), ty4, p4, f4, some (j, true)⟩ :: ⟨some (p + 6), op, ty5, p5, f5, some (j, true)⟩ :: ⟨some (p + 7), .pick (.tmp (p + 1)) (.tmp (p + 6)) (.const (.bool false)), ty6, p6, f6, none⟩ :: l)) := by
  have hsa := lower_look hlow ha
  have hsb := lower_look hlow hb
  have tidy : ∀ (W : St) (v : V), (∀ e ∈ W, ∃ m, e.1 = .slot m ∧ p ≤ m) → Hits E ((.slot (p + 7), some v) :: st) (wpList P ops Q l) → Hits E ((.slot (p + 7), some v) :: (W ++ st)) (wpList P ops Q l) := fun W v hW h G a w s1 => by
    have skip : ∀ q, (∀ m, p ≤ m → q ≠ .slot m) → look (W ++ st) q = look st q := by
      intro q hq
      clear s1
      induction W with
      | nil => rfl
      | cons e r ih =>
        obtain ⟨m, hm, hp⟩ := hW e (by simp)
        rw [List.cons_append, look_cons, if_neg (by rw [hm]; exact fun c => hq m hp c.symm)]
        exact ih fun e he => hW e (List.mem_cons_of_mem _ he)
    refine h G a w (s1.weak (fun q u hu => ?_) fun q hq => ?_)
    · rw [look_cons] at hu ⊢
      split at hu
      · rename_i he; rw [if_pos he]; exact hu
      · rename_i he
        rw [if_neg he]
        have := lower_look hlow hu
        rw [skip _ (fun m hm c => by injection c with c; omega)]; exact hu
    · rw [look_ne _ _ (fun c => hq _ c.symm), look_ne _ _ (fun c => hq _ c.symm), skip _ (fun m _ c => hq _ c)]
  cases b with
  | true =>
    refine sq (f_move (v := .d (.sc (.bool true))) (by simp [ev, look_cons]) (by omega)) rfl rfl ?_
    simp only [List.singleton_append, List.cons_append, List.nil_append]
    have hl2 : St.lower (p + 2) ((.slot (p + 1), some (.d (.sc (.bool true)))) :: (.slot p, some (.d (.sc (.bool true)))) :: st) = true := by
      simp only [St.lower, List.all_cons, Bool.and_eq_true] at hlow ⊢
      refine ⟨by rw [Nat.blt_eq]; omega, by rw [Nat.blt_eq]; omega, ?_⟩
      rw [List.all_eq_true] at hlow ⊢
      intro e he
      have := hlow e he
      revert this
      cases e.1 <;> intro this <;> first | rfl | (have := lt this; rw [Nat.blt_eq]; omega)
    have ll : ∀ q, (∀ m, p ≤ m → q ≠ .slot m) → look ((.slot (p + 1), some (.d (.sc (.bool true)))) :: (.slot p, some (.d (.sc (.bool true)))) :: st) q = look st q := fun q hq => by
      rw [look_ne _ _ (fun c => hq (p + 1) (by omega) c.symm), look_ne _ _ (fun c => hq p (by omega) c.symm)]
    have ld := ldV_slots (st := st) (st' := ((.slot (p + 1), some (.d (.sc (.bool true)))) :: (.slot p, some (.d (.sc (.bool true)))) :: st)) (fun q hq => ll q fun m _ => hq m)
    have hG : Gd ops E ((.slot (p + 1), some (.d (.sc (.bool true)))) :: (.slot p, some (.d (.sc (.bool true)))) :: st) (p + 2) (some (j, true)) := .inr ⟨j, p + 1, rfl, hj, look_same _ _ _, by omega, by omega⟩
    refine same_five (p := p + 2) hl2 hG ((ll _ fun m hm c => by injection c with c; omega).trans ha) ((ll _ fun m hm c => by injection c with c; omega).trans hb) hk hkd ((ld _ _).trans hx) ((ld _ _).trans hy) hc (by omega) ?_
    refine sq (f_pick (c := true) (v := .d (.sc (.bool c))) (by simp [ev, look_cons]) (by simp [pickV, ev, look_cons]) (by omega)) rfl rfl ?_
    exact tidy [(.slot (p + 2 + 4), _), (.slot (p + 1), _), (.slot p, _)] _ (fun e he => by
      simp only [List.mem_cons, List.not_mem_nil, or_false] at he
      rcases he with rfl | rfl | rfl
      · exact ⟨_, rfl, by omega⟩
      · exact ⟨_, rfl, by omega⟩
      · exact ⟨_, rfl, by omega⟩) h
  | false =>
    refine sq (f_move (v := .d (.sc (.bool false))) (by simp [ev, look_cons]) (by omega)) rfl rfl ?_
    refine sq_no rfl rfl hj (look_same _ _ _) rfl (by omega) (by omega) <| sq_no (v := .bool false) rfl rfl hj (by simp [look_cons]) rfl (by omega) (by omega) ?_
    refine sq_no (v := .bool false) rfl rfl hj (by simp [look_cons]) rfl (by omega) (by omega) ?_
    refine sq_no (v := .bool false) rfl rfl hj (by simp [look_cons]) rfl (by omega) (by omega) ?_
    refine sq_no (v := .bool false) rfl rfl hj (by simp [look_cons]) rfl (by omega) (by omega) ?_
    refine sq (f_pick (c := false) (v := .d (.sc (.bool false))) (by simp [ev, look_cons]) (show some (V.d (D.ofVal (.bool false))) = _ from rfl) (by omega)) rfl rfl ?_
    exact tidy [(.slot (p + 6), _), (.slot (p + 5), _), (.slot (p + 4), _), (.slot (p + 3), _), (.slot (p + 2), _), (.slot (p + 1), _), (.slot p, _)] _ (fun e he => by
      simp only [List.mem_cons, List.not_mem_nil, or_false] at he
      rcases he with rfl | rfl | rfl | rfl | rfl | rfl | rfl <;> exact ⟨_, rfl, by omega⟩) h
def NeC (P : Program) (te : TypeId) (p q : D) : Prop := ∀ (E : Env) (st : St) (s1 s2 d : Nat) (ty : TypeId) (pos : String) (af : Array Edge) (g : Option (Nat × Bool)), look st (.slot s1) = some (.d p) → look st (.slot s2) = some (.d q) → d < E.N →
  FOk P E ⟨some d, .binOp .neq te (.tmp s1) (.tmp s2) te, ty, pos, af, g⟩ st (evL (.tmp s1) ++ evL (.tmp s2)) [] [(.slot d, some (.d (.sc (.bool (!same p q)))))]
def LdC (kk : Bool × Nat) (p : D) : Prop := ∀ st : St, ldV st kk (.d (.eptr p.cells)) = some (.d p)
theorem ld_agg {n : Nat} {l : List D} (h : ∀ q ∈ l, ∃ c, q = .agg c ∧ c.length = n) : ∀ q ∈ l, LdC (true, n) q := fun q hq st => by obtain ⟨c, rfl, hc⟩ := h q hq; exact ldV_all hc
theorem neV {P : Program} {E : Env} {o : Oper} {st : St} {L : List Loc} {d : Nat} {p q : D} {b : Bool} (h : FOk P E o st L [] [(.slot d, some (.d (.sc (.bool (!same p q)))))]) (hs : same p q = b) : FOk P E o st L [] [(.slot d, some (.d (.sc (.bool (!b)))))] := by subst hs; exact h
theorem f_ldE {t : TypeId} {kk : Bool × Nat} {l : List D} {v : V} {d : Nat} {ty : TypeId} {pos : String} {af : Array Edge} {g : Option (Nat × Bool)} {x : Operand} (hk : kd P t = some kk) (hx : ev st x = some (.d (.eptr l))) (hv : ldV st kk (.d (.eptr l)) = some v) (hd : d < E.N) : FOk P E ⟨some d, .load t x, ty, pos, af, g⟩ st (evL x) [] [(.slot d, some v)] := by
  have h := f_load (ty := ty) (pos := pos) (af := af) (g := g) hk hx hv hd
  have e : ldL kk (.d (.eptr l)) = [] := by obtain ⟨b, n⟩ := kk; cases b <;> rfl
  rw [e, List.append_nil] at h; exact h
end Go.Ab

/- Are two trees the same. -/
namespace Go.Proofs.YtogodijfdkffaaaGreatDoor.Ln
open Go Go.RowKit Go.Ab Go.Proofs 
theorem en208 : enters Tryz.prog 208 = true := by kernel_rfl
theorem en210 : enters Tryz.prog 210 = true := by kernel_rfl
theorem en107 : enters Tryz.prog 107 = true := by kernel_rfl
theorem en163 : enters Tryz.prog 163 = true := by kernel_rfl
theorem eqg132 : Tryz.prog.eqGuardType Tryz.prog.depth 132 = false := by kernel_rfl
theorem ev132 (a0 b0 : ByteArray) (a1 b1 : Int) : eqV Tryz.prog 6 132 (.agg ⟨[.string a0, .int .i64 a1]⟩) (.agg ⟨[.string b0, .int .i64 b1]⟩) = some ((a0.toList == b0.toList) && ((a1 == b1) && true)) := by kernel_rfl
theorem eqg172 : Tryz.prog.eqGuardType Tryz.prog.depth 172 = false := by kernel_rfl
theorem ev172 (a0 b0 : Int) (a1 b1 : Int) (a2 b2 : Int) (a3 b3 : Int) (a4 b4 : Int) (a5 b5 : Int) (a6 b6 : ByteArray) : eqV Tryz.prog 6 172 (.agg ⟨[.int .i64 a0, .int .u64 a1, .int .u64 a2, .int .i64 a3, .int .u64 a4, .int .u64 a5, .string a6]⟩) (.agg ⟨[.int .i64 b0, .int .u64 b1, .int .u64 b2, .int .i64 b3, .int .u64 b4, .int .u64 b5, .string b6]⟩) = some (((a0 == b0) && ((a1 == b1) && ((a2 == b2) && true))) && (((a3 == b3) && ((a4 == b4) && ((a5 == b5) && true))) && ((a6.toList == b6.toList) && true))) := by kernel_rfl
theorem en105 : enters Tryz.prog 105 = true := by kernel_rfl
theorem en209 : enters Tryz.prog 209 = true := by kernel_rfl
theorem en161 : enters Tryz.prog 161 = true := by kernel_rfl
theorem en162 : enters Tryz.prog 162 = true := by kernel_rfl
theorem en102 : enters Tryz.prog 102 = true := by kernel_rfl
theorem en103 : enters Tryz.prog 103 = true := by kernel_rfl
theorem en104 : enters Tryz.prog 104 = true := by kernel_rfl
theorem en106 : enters Tryz.prog 106 = true := by kernel_rfl
theorem en54 : enters Tryz.prog 54 = true := by kernel_rfl
theorem en23 : enters Tryz.prog 23 = true := by kernel_rfl
theorem sameA {t te : TypeId} {f : FuncId} {es : Nat} {bb : Bool} {s0 s1 s2 s3 s4 s5 s6 s7 s8 s9 s10 s11 s12 s13 s14 s15 s16 s17 s18 s19 s20 s21 s22 s23 s24 s25 s26 : String} {n : FuncId} {fn : Func} (hf : Tryz.prog.funcs[n]? = some fn) (hb : fn.body = some (Code.seq (Code.region 0 #[{ dst := (some 4), op := (Op.assign (Operand.const (Value.bool false))), type := 4, pos := s0, after := #[], guard := none }] false) (Code.seq (Code.seq (Code.region 1 #[{ dst := (some 6), op := (Op.move (Operand.tmp 0)), type := t, pos := s1, after := #[], guard := none }, { dst := (some 7), op := (Op.call { callee := (Callee.builtin Builtin.len), args := #[(Operand.tmp 6)], argTypes := #[t] }), type := 3, pos := s2, after := #[{ on := 0, ground := Ground.data }], guard := none }, { dst := (some 8), op := (Op.move (Operand.tmp 1)), type := t, pos := s3, after := #[], guard := none }, { dst := (some 9), op := (Op.call { callee := (Callee.builtin Builtin.len), args := #[(Operand.tmp 8)], argTypes := #[t] }), type := 3, pos := s4, after := #[{ on := 2, ground := Ground.data }], guard := none }, { dst := (some 10), op := (Op.binOp BinOp.neq 3 (Operand.tmp 7) (Operand.tmp 9) 3), type := 4, pos := s5, after := #[{ on := 1, ground := Ground.data }, { on := 3, ground := Ground.data }], guard := none }] false) (Code.cond (Operand.tmp 10) (Code.seq (Code.region 2 #[{ dst := (some 4), op := (Op.assign (Operand.const (Value.bool false))), type := 4, pos := s6, after := #[], guard := none }] false) Code.ret) Code.skip)) (Code.seq (Code.seq (Code.region 3 #[{ dst := (some 5), op := (Op.assign (Operand.const (Value.int IntKind.i64 0))), type := 3, pos := s7, after := #[], guard := none }] false) (Code.block 0 (Code.loop (Code.seq (Code.seq (Code.region 4 #[{ dst := (some 11), op := (Op.move (Operand.tmp 5)), type := 3, pos := s8, after := #[], guard := none }, { dst := (some 12), op := (Op.move (Operand.tmp 0)), type := t, pos := s9, after := #[], guard := none }, { dst := (some 13), op := (Op.call { callee := (Callee.builtin Builtin.len), args := #[(Operand.tmp 12)], argTypes := #[t] }), type := 3, pos := s10, after := #[{ on := 1, ground := Ground.data }], guard := none }, { dst := (some 14), op := (Op.binOp BinOp.lss 3 (Operand.tmp 11) (Operand.tmp 13) 3), type := 4, pos := s11, after := #[{ on := 0, ground := Ground.data }, { on := 2, ground := Ground.data }], guard := none }] false) (Code.cond (Operand.tmp 14) Code.skip (Code.exit 0))) (Code.seq (Code.block 1 (Code.seq (Code.region 6 #[{ dst := (some 17), op := (Op.move (Operand.tmp 0)), type := t, pos := s12, after := #[], guard := none }, { dst := (some 18), op := (Op.move (Operand.tmp 5)), type := 3, pos := s13, after := #[], guard := none }, { dst := (some 19), op := (Op.indexAddr t (Operand.tmp 17) (Operand.tmp 18)), type := 0, pos := s14, after := #[{ on := 0, ground := Ground.data }, { on := 1, ground := Ground.data }], guard := none }, { dst := (some 20), op := (Op.load te (Operand.tmp 19)), type := te, pos := s15, after := #[{ on := 2, ground := Ground.data }], guard := none }, { dst := (some 21), op := (Op.move (Operand.tmp 1)), type := t, pos := s16, after := #[], guard := none }, { dst := (some 22), op := (Op.move (Operand.tmp 5)), type := 3, pos := s17, after := #[], guard := none }, { dst := (some 23), op := (Op.indexAddr t (Operand.tmp 21) (Operand.tmp 22)), type := 0, pos := s18, after := #[{ on := 4, ground := Ground.data }, { on := 5, ground := Ground.data }], guard := none }, { dst := (some 24), op := (Op.load te (Operand.tmp 23)), type := te, pos := s19, after := #[{ on := 6, ground := Ground.data }], guard := none }, { dst := (some 25), op := (Op.call { callee := (Callee.value (Operand.func f)), args := #[(Operand.tmp 20), (Operand.tmp 24)], argTypes := #[te, te] }), type := 4, pos := s20, after := #[{ on := 3, ground := Ground.data }, { on := 7, ground := Ground.data }], guard := none }, { dst := (some 26), op := (Op.unOp UnOp.not 4 (Operand.tmp 25)), type := 4, pos := s21, after := #[{ on := 8, ground := Ground.data }], guard := none }] true) (Code.cond (Operand.tmp 26) (Code.seq (Code.region 7 #[{ dst := (some 4), op := (Op.assign (Operand.const (Value.bool false))), type := 4, pos := s22, after := #[], guard := none }] false) Code.ret) Code.skip))) (Code.region 5 #[{ dst := (some 15), op := (Op.move (Operand.tmp 5)), type := 3, pos := s23, after := #[], guard := none }, { dst := (some 16), op := (Op.binOp BinOp.add 3 (Operand.tmp 15) (Operand.const (Value.int IntKind.i64 1)) 3), type := 3, pos := s24, after := #[{ on := 0, ground := Ground.data }], guard := none }, { dst := (some 5), op := (Op.assign (Operand.tmp 16)), type := 3, pos := s25, after := #[{ on := 1, ground := Ground.data }, { on := 0, ground := Ground.phase }, { on := 1, ground := Ground.phase }], guard := none }] false)))))) (Code.seq (Code.region 8 #[{ dst := (some 4), op := (Op.assign (Operand.const (Value.bool true))), type := 4, pos := s26, after := #[], guard := none }] false) Code.ret))))) (hn : fn.ntmps = 27) (hr : fn.results = #[.tmp 4]) (hen : enters Tryz.prog f = true) (hu : Tryz.prog.underlying t = some (.slice te)) (hkd : kd Tryz.prog te = some (bb, es)) (ds ds' : List D) (hd : ∀ q ∈ ds, LdC (bb, es) q) (he : ∀ q ∈ ds', LdC (bb, es) q) (h : ∀ p ∈ ds, ∀ q ∈ ds', SameC Tryz.prog Lw f p q) (hl : ds.length ≤ 1048576) : SameC Tryz.prog Lw n (.list es ds) (.list es ds') := by
  refine callsP_of gs_lw hf hb hn rfl fun w0 S0 stab => ?_
  refine sqq <| rgq <| asq rfl rfl <| nxq <| sqq <| sqq ?_
  by_cases hn : ds.length = ds'.length
  · refine rgq <| mvq rfl rfl <| sq (f_lenList rfl rfl hu (lt rfl)) rfl rfl <| mvq rfl rfl <| sq (f_lenList rfl rfl hu (lt rfl)) rfl rfl <| sq (f_bin rfl rfl (bT (bne_eq_false_iff_eq.mpr (by omega))) (lt rfl)) rfl rfl <| nxq <| cnF rfl ?_
    refine skq <| toq <| sqq <| sqq <| rgq <| asq rfl rfl <| nxq <| hits_block ?_
    refine hits_loop (fun i : Nat => [(.slot 0, some (.d (.list es ds))), (.slot 1, some (.d (.list es ds'))), (.slot 5, some (.d (.sc (.int .i64 ((i : Nat) : Int)))))]) (fun i : Nat => i ≤ ds.length ∧ ds.take i = ds'.take i) (fun i : Nat => ds.length - i) 0 ⟨Nat.zero_le _, by rw [List.take_zero, List.take_zero]⟩ ⟨rfl, rfl, rfl, trivial⟩ rfl ?_
    intro i hJ
    obtain ⟨hi0, hi1⟩ := hJ
    change Hits _ [(.slot 0, some (.d (.list es ds))), (.slot 1, some (.d (.list es ds'))), (.slot 5, some (.d (.sc (.int .i64 ((i : Nat) : Int)))))] _
    refine sqq <| sqq ?_
    by_cases hi : i < ds.length
    · obtain ⟨p, hp⟩ : ∃ p, ds[i]? = some p := ⟨_, List.getElem?_eq_getElem hi⟩
      obtain ⟨q, hq⟩ : ∃ q, ds'[i]? = some q := ⟨_, List.getElem?_eq_getElem (by omega)⟩
      have mp := List.mem_of_getElem? hp
      have mq := List.mem_of_getElem? hq
      have hc := h p mp q mq
      rw [SameC] at hc
      refine rgq <| mvq rfl rfl <| mvq rfl rfl <| sq (f_lenList rfl rfl hu (lt rfl)) rfl rfl <| sq (f_bin rfl rfl (bT (decide_eq_true (by omega))) (lt rfl)) rfl rfl <| nxq <| cnT rfl <| skq ?_
      refine toq <| sqq <| hits_block <| sqq ?_
      cases hs : same p q
      · rw [hs] at hc
        have hres : same (.list es ds) (.list es ds') = false := same_no (fun c => Bool.false_ne_true (hs.symm.trans (same_iff.2 (Option.some.inj (hp.symm.trans ((congrArg (fun l => l[i]?) (by injection c : ds = ds')).trans hq))))))
        refine hits_drawn mixed <| dq (f_move rfl (lt rfl)) rfl rfl <| dq (f_move rfl (lt rfl)) rfl rfl <| dq (f_idxList rfl rfl rfl hu hkd (Int.natCast_nonneg _) (by rw [Int.toNat_natCast]; exact hp) (lt rfl)) rfl rfl ?_
        refine dq (f_ldE hkd rfl (hd p mp _) (lt rfl)) rfl rfl <| dq (f_move rfl (lt rfl)) rfl rfl <| dq (f_move rfl (lt rfl)) rfl rfl <| dq (f_idxList rfl rfl rfl hu hkd (Int.natCast_nonneg _) (by rw [Int.toNat_natCast]; exact hq) (lt rfl)) rfl rfl ?_
        refine dq (f_ldE hkd rfl (he q mq _) (lt rfl)) rfl rfl <| dq (f_call hen rfl hc (lt rfl)) rfl rfl <| dq (f_un rfl rfl (lt rfl)) rfl rfl <| dq_nil rfl <| toq <| cnT rfl <| sqq <| rgq ?_
        refine asq rfl rfl <| nxq <| rtq <| in_ret <| to_ret <| to_ret <| in_ret <| to_ret ?_
        exact hits_done (ds := [_]) (.inl rfl) rfl (by rw [hr]; rfl) (congrArg (fun b => D.sc (.bool b)) hres.symm)
      · rw [hs] at hc
        refine hits_drawn mixed <| dq (f_move rfl (lt rfl)) rfl rfl <| dq (f_move rfl (lt rfl)) rfl rfl <| dq (f_idxList rfl rfl rfl hu hkd (Int.natCast_nonneg _) (by rw [Int.toNat_natCast]; exact hp) (lt rfl)) rfl rfl ?_
        refine dq (f_ldE hkd rfl (hd p mp _) (lt rfl)) rfl rfl <| dq (f_move rfl (lt rfl)) rfl rfl <| dq (f_move rfl (lt rfl)) rfl rfl <| dq (f_idxList rfl rfl rfl hu hkd (Int.natCast_nonneg _) (by rw [Int.toNat_natCast]; exact hq) (lt rfl)) rfl rfl ?_
        refine dq (f_ldE hkd rfl (he q mq _) (lt rfl)) rfl rfl <| dq (f_call hen rfl hc (lt rfl)) rfl rfl <| dq (f_un rfl rfl (lt rfl)) rfl rfl <| dq_nil rfl <| toq <| cnF rfl <| skq <| inq ?_
        refine toq <| rgq <| mvq rfl rfl <| sq (f_bin rfl rfl (iT (((IntWalk.i64_in _ (by omega)).trans (by omega) : _ = ((i + 1 : Nat) : Int)))) (lt rfl)) rfl rfl <| asq rfl rfl <| nxq ?_
        refine round_end (i + 1) ⟨by omega, take_same hi1 hp (by rw [same_iff.1 hs]; exact hq)⟩ (by omega) ⟨rfl, rfl, rfl, trivial⟩ rfl
    · obtain rfl : i = ds.length := by omega
      have hres : same (.list es ds) (.list es ds') = true := (same_list _ _ _).2 (take_end hi1 hn)
      refine rgq <| mvq rfl rfl <| mvq rfl rfl <| sq (f_lenList rfl rfl hu (lt rfl)) rfl rfl <| sq (f_bin rfl rfl (bT (decide_eq_false (by omega))) (lt rfl)) rfl rfl <| nxq <| cnF rfl <| hits_exit ?_
      refine to_exit <| to_exit <| in_hit rfl <| toq <| sqq <| rgq <| asq rfl rfl <| nxq ?_
      refine rtq ?_
      exact hits_done (ds := [_]) (.inl rfl) rfl (by rw [hr]; rfl) (congrArg (fun b => D.sc (.bool b)) hres.symm)
  · have hres : same (.list es ds) (.list es ds') = false := same_no (fun c => hn (congrArg List.length (by injection c : ds = ds')))
    refine rgq <| mvq rfl rfl <| sq (f_lenList rfl rfl hu (lt rfl)) rfl rfl <| mvq rfl rfl <| sq (f_lenList rfl rfl hu (lt rfl)) rfl rfl <| sq (f_bin rfl rfl (bT (bne_iff_ne.mpr (by omega))) (lt rfl)) rfl rfl <| nxq <| cnT rfl ?_
    refine sqq <| rgq <| asq rfl rfl <| nxq <| rtq <| to_ret ?_
    exact hits_done (ds := [_]) (.inl rfl) rfl (by rw [hr]; rfl) (congrArg (fun b => D.sc (.bool b)) hres.symm)
theorem sameB {t te : TypeId} {es : Nat} {bb : Bool} {s0 s1 s2 s3 s4 s5 s6 s7 s8 s9 s10 s11 s12 s13 s14 s15 s16 s17 s18 s19 s20 s21 s22 s23 s24 s25 : String} {n : FuncId} {fn : Func} (hf : Tryz.prog.funcs[n]? = some fn) (hb : fn.body = some (Code.seq (Code.region 0 #[{ dst := (some 4), op := (Op.assign (Operand.const (Value.bool false))), type := 4, pos := s0, after := #[], guard := none }] false) (Code.seq (Code.seq (Code.region 1 #[{ dst := (some 6), op := (Op.move (Operand.tmp 0)), type := t, pos := s1, after := #[], guard := none }, { dst := (some 7), op := (Op.call { callee := (Callee.builtin Builtin.len), args := #[(Operand.tmp 6)], argTypes := #[t] }), type := 3, pos := s2, after := #[{ on := 0, ground := Ground.data }], guard := none }, { dst := (some 8), op := (Op.move (Operand.tmp 1)), type := t, pos := s3, after := #[], guard := none }, { dst := (some 9), op := (Op.call { callee := (Callee.builtin Builtin.len), args := #[(Operand.tmp 8)], argTypes := #[t] }), type := 3, pos := s4, after := #[{ on := 2, ground := Ground.data }], guard := none }, { dst := (some 10), op := (Op.binOp BinOp.neq 3 (Operand.tmp 7) (Operand.tmp 9) 3), type := 4, pos := s5, after := #[{ on := 1, ground := Ground.data }, { on := 3, ground := Ground.data }], guard := none }] false) (Code.cond (Operand.tmp 10) (Code.seq (Code.region 2 #[{ dst := (some 4), op := (Op.assign (Operand.const (Value.bool false))), type := 4, pos := s6, after := #[], guard := none }] false) Code.ret) Code.skip)) (Code.seq (Code.seq (Code.region 3 #[{ dst := (some 5), op := (Op.assign (Operand.const (Value.int IntKind.i64 0))), type := 3, pos := s7, after := #[], guard := none }] false) (Code.block 0 (Code.loop (Code.seq (Code.seq (Code.region 4 #[{ dst := (some 11), op := (Op.move (Operand.tmp 5)), type := 3, pos := s8, after := #[], guard := none }, { dst := (some 12), op := (Op.move (Operand.tmp 0)), type := t, pos := s9, after := #[], guard := none }, { dst := (some 13), op := (Op.call { callee := (Callee.builtin Builtin.len), args := #[(Operand.tmp 12)], argTypes := #[t] }), type := 3, pos := s10, after := #[{ on := 1, ground := Ground.data }], guard := none }, { dst := (some 14), op := (Op.binOp BinOp.lss 3 (Operand.tmp 11) (Operand.tmp 13) 3), type := 4, pos := s11, after := #[{ on := 0, ground := Ground.data }, { on := 2, ground := Ground.data }], guard := none }] false) (Code.cond (Operand.tmp 14) Code.skip (Code.exit 0))) (Code.seq (Code.block 1 (Code.seq (Code.region 6 #[{ dst := (some 17), op := (Op.move (Operand.tmp 0)), type := t, pos := s12, after := #[], guard := none }, { dst := (some 18), op := (Op.move (Operand.tmp 5)), type := 3, pos := s13, after := #[], guard := none }, { dst := (some 19), op := (Op.indexAddr t (Operand.tmp 17) (Operand.tmp 18)), type := 0, pos := s14, after := #[{ on := 0, ground := Ground.data }, { on := 1, ground := Ground.data }], guard := none }, { dst := (some 20), op := (Op.load te (Operand.tmp 19)), type := te, pos := s15, after := #[{ on := 2, ground := Ground.data }], guard := none }, { dst := (some 21), op := (Op.move (Operand.tmp 1)), type := t, pos := s16, after := #[], guard := none }, { dst := (some 22), op := (Op.move (Operand.tmp 5)), type := 3, pos := s17, after := #[], guard := none }, { dst := (some 23), op := (Op.indexAddr t (Operand.tmp 21) (Operand.tmp 22)), type := 0, pos := s18, after := #[{ on := 4, ground := Ground.data }, { on := 5, ground := Ground.data }], guard := none }, { dst := (some 24), op := (Op.load te (Operand.tmp 23)), type := te, pos := s19, after := #[{ on := 6, ground := Ground.data }], guard := none }, { dst := (some 25), op := (Op.binOp BinOp.neq te (Operand.tmp 20) (Operand.tmp 24) te), type := 4, pos := s20, after := #[{ on := 3, ground := Ground.data }, { on := 7, ground := Ground.data }], guard := none }] true) (Code.cond (Operand.tmp 25) (Code.seq (Code.region 7 #[{ dst := (some 4), op := (Op.assign (Operand.const (Value.bool false))), type := 4, pos := s21, after := #[], guard := none }] false) Code.ret) Code.skip))) (Code.region 5 #[{ dst := (some 15), op := (Op.move (Operand.tmp 5)), type := 3, pos := s22, after := #[], guard := none }, { dst := (some 16), op := (Op.binOp BinOp.add 3 (Operand.tmp 15) (Operand.const (Value.int IntKind.i64 1)) 3), type := 3, pos := s23, after := #[{ on := 0, ground := Ground.data }], guard := none }, { dst := (some 5), op := (Op.assign (Operand.tmp 16)), type := 3, pos := s24, after := #[{ on := 1, ground := Ground.data }, { on := 0, ground := Ground.phase }, { on := 1, ground := Ground.phase }], guard := none }] false)))))) (Code.seq (Code.region 8 #[{ dst := (some 4), op := (Op.assign (Operand.const (Value.bool true))), type := 4, pos := s25, after := #[], guard := none }] false) Code.ret))))) (hn : fn.ntmps = 26) (hr : fn.results = #[.tmp 4]) (hu : Tryz.prog.underlying t = some (.slice te)) (hkd : kd Tryz.prog te = some (bb, es)) (ds ds' : List D) (hd : ∀ q ∈ ds, LdC (bb, es) q) (he : ∀ q ∈ ds', LdC (bb, es) q) (h : ∀ p ∈ ds, ∀ q ∈ ds', NeC Tryz.prog te p q) (hl : ds.length ≤ 1048576) : SameC Tryz.prog Lw n (.list es ds) (.list es ds') := by
  refine callsP_of gs_lw hf hb hn rfl fun w0 S0 stab => ?_
  refine sqq <| rgq <| asq rfl rfl <| nxq <| sqq <| sqq ?_
  by_cases hn : ds.length = ds'.length
  · refine rgq <| mvq rfl rfl <| sq (f_lenList rfl rfl hu (lt rfl)) rfl rfl <| mvq rfl rfl <| sq (f_lenList rfl rfl hu (lt rfl)) rfl rfl <| sq (f_bin rfl rfl (bT (bne_eq_false_iff_eq.mpr (by omega))) (lt rfl)) rfl rfl <| nxq <| cnF rfl ?_
    refine skq <| toq <| sqq <| sqq <| rgq <| asq rfl rfl <| nxq <| hits_block ?_
    refine hits_loop (fun i : Nat => [(.slot 0, some (.d (.list es ds))), (.slot 1, some (.d (.list es ds'))), (.slot 5, some (.d (.sc (.int .i64 ((i : Nat) : Int)))))]) (fun i : Nat => i ≤ ds.length ∧ ds.take i = ds'.take i) (fun i : Nat => ds.length - i) 0 ⟨Nat.zero_le _, by rw [List.take_zero, List.take_zero]⟩ ⟨rfl, rfl, rfl, trivial⟩ rfl ?_
    intro i hJ
    obtain ⟨hi0, hi1⟩ := hJ
    change Hits _ [(.slot 0, some (.d (.list es ds))), (.slot 1, some (.d (.list es ds'))), (.slot 5, some (.d (.sc (.int .i64 ((i : Nat) : Int)))))] _
    refine sqq <| sqq ?_
    by_cases hi : i < ds.length
    · obtain ⟨p, hp⟩ : ∃ p, ds[i]? = some p := ⟨_, List.getElem?_eq_getElem hi⟩
      obtain ⟨q, hq⟩ : ∃ q, ds'[i]? = some q := ⟨_, List.getElem?_eq_getElem (by omega)⟩
      have mp := List.mem_of_getElem? hp
      have mq := List.mem_of_getElem? hq
      have hc := h p mp q mq
      refine rgq <| mvq rfl rfl <| mvq rfl rfl <| sq (f_lenList rfl rfl hu (lt rfl)) rfl rfl <| sq (f_bin rfl rfl (bT (decide_eq_true (by omega))) (lt rfl)) rfl rfl <| nxq <| cnT rfl <| skq ?_
      refine toq <| sqq <| hits_block <| sqq ?_
      cases hs : same p q
      · have hres : same (.list es ds) (.list es ds') = false := same_no (fun c => Bool.false_ne_true (hs.symm.trans (same_iff.2 (Option.some.inj (hp.symm.trans ((congrArg (fun l => l[i]?) (by injection c : ds = ds')).trans hq))))))
        refine hits_drawn mixed <| dq (f_move rfl (lt rfl)) rfl rfl <| dq (f_move rfl (lt rfl)) rfl rfl <| dq (f_idxList rfl rfl rfl hu hkd (Int.natCast_nonneg _) (by rw [Int.toNat_natCast]; exact hp) (lt rfl)) rfl rfl ?_
        refine dq (f_ldE hkd rfl (hd p mp _) (lt rfl)) rfl rfl <| dq (f_move rfl (lt rfl)) rfl rfl <| dq (f_move rfl (lt rfl)) rfl rfl <| dq (f_idxList rfl rfl rfl hu hkd (Int.natCast_nonneg _) (by rw [Int.toNat_natCast]; exact hq) (lt rfl)) rfl rfl ?_
        refine dq (f_ldE hkd rfl (he q mq _) (lt rfl)) rfl rfl <| dq (neV (hc _ _ 20 24 25 _ _ _ _ rfl rfl (lt rfl)) hs) rfl rfl <| dq_nil rfl <| toq <| cnT rfl <| sqq <| rgq <| asq rfl rfl ?_
        refine nxq <| rtq <| in_ret <| to_ret <| to_ret <| in_ret <| to_ret ?_
        exact hits_done (ds := [_]) (.inl rfl) rfl (by rw [hr]; rfl) (congrArg (fun b => D.sc (.bool b)) hres.symm)
      · refine hits_drawn mixed <| dq (f_move rfl (lt rfl)) rfl rfl <| dq (f_move rfl (lt rfl)) rfl rfl <| dq (f_idxList rfl rfl rfl hu hkd (Int.natCast_nonneg _) (by rw [Int.toNat_natCast]; exact hp) (lt rfl)) rfl rfl ?_
        refine dq (f_ldE hkd rfl (hd p mp _) (lt rfl)) rfl rfl <| dq (f_move rfl (lt rfl)) rfl rfl <| dq (f_move rfl (lt rfl)) rfl rfl <| dq (f_idxList rfl rfl rfl hu hkd (Int.natCast_nonneg _) (by rw [Int.toNat_natCast]; exact hq) (lt rfl)) rfl rfl ?_
        refine dq (f_ldE hkd rfl (he q mq _) (lt rfl)) rfl rfl <| dq (neV (hc _ _ 20 24 25 _ _ _ _ rfl rfl (lt rfl)) hs) rfl rfl <| dq_nil rfl <| toq <| cnF rfl <| skq <| inq <| toq ?_
        refine rgq <| mvq rfl rfl <| sq (f_bin rfl rfl (iT (((IntWalk.i64_in _ (by omega)).trans (by omega) : _ = ((i + 1 : Nat) : Int)))) (lt rfl)) rfl rfl <| asq rfl rfl <| nxq ?_
        refine round_end (i + 1) ⟨by omega, take_same hi1 hp (by rw [same_iff.1 hs]; exact hq)⟩ (by omega) ⟨rfl, rfl, rfl, trivial⟩ rfl
    · obtain rfl : i = ds.length := by omega
      have hres : same (.list es ds) (.list es ds') = true := (same_list _ _ _).2 (take_end hi1 hn)
      refine rgq <| mvq rfl rfl <| mvq rfl rfl <| sq (f_lenList rfl rfl hu (lt rfl)) rfl rfl <| sq (f_bin rfl rfl (bT (decide_eq_false (by omega))) (lt rfl)) rfl rfl <| nxq <| cnF rfl <| hits_exit ?_
      refine to_exit <| to_exit <| in_hit rfl <| toq <| sqq <| rgq <| asq rfl rfl <| nxq ?_
      refine rtq ?_
      exact hits_done (ds := [_]) (.inl rfl) rfl (by rw [hr]; rfl) (congrArg (fun b => D.sc (.bool b)) hres.symm)
  · have hres : same (.list es ds) (.list es ds') = false := same_no (fun c => hn (congrArg List.length (by injection c : ds = ds')))
    refine rgq <| mvq rfl rfl <| sq (f_lenList rfl rfl hu (lt rfl)) rfl rfl <| mvq rfl rfl <| sq (f_lenList rfl rfl hu (lt rfl)) rfl rfl <| sq (f_bin rfl rfl (bT (bne_iff_ne.mpr (by omega))) (lt rfl)) rfl rfl <| nxq <| cnT rfl ?_
    refine sqq <| rgq <| asq rfl rfl <| nxq <| rtq <| to_ret ?_
    exact hits_done (ds := [_]) (.inl rfl) rfl (by rw [hr]; rfl) (congrArg (fun b => D.sc (.bool b)) hres.symm)
theorem sameExpr_w (x y : Ex) (h : SameC Tryz.prog Lw 208 (.list 10 (exDs (argsE x))) (.list 10 (exDs (argsE y)))) : CallsP Tryz.prog Lw 210 [.agg (exCs x), .agg (exCs y)] (.sc (.bool (same (.agg (exCs x)) (.agg (exCs y))))) := by
  obtain ⟨op, lw, lh, ll, nm, fl, n, m, args, line⟩ := x
  obtain ⟨op', lw', lh', ll', nm', fl', n', m', args', line'⟩ := y
  refine callsP_of gs_lw Tryz.func210 rfl Tryz.ntmps210 rfl fun w0 S0 stab => ?_
  refine sqq <| rgq <| sq (f_box rfl rfl (lt rfl)) rfl rfl <| sq (f_box rfl rfl (lt rfl)) rfl rfl <| asq rfl rfl <| nxq <| sqq <| rgq ?_
  refine same_five (p := 5) rfl (.inl rfl) rfl rfl kf67_0 kd64 rfl rfl (cmp_int (lt rfl)) (lt rfl) <| same_more (p := 9) (n := 5) rfl (by decide) rfl rfl rfl kf67_1 kd35 rfl rfl (cmp_struct rfl rfl eqg35 (ev35 ..) (by decide) (by simp only [nD, txD, same_agg, same_nil, ← same_int, ← same_str, Bool.and_true, Bool.and_assoc]) (lt rfl)) (lt rfl) ?_
  refine same_more (p := 16) (n := 5) rfl (by decide) rfl rfl rfl kf67_2 kd9 rfl rfl (cmp_str (lt rfl)) (lt rfl) <| same_more (p := 23) (n := 5) rfl (by decide) rfl rfl rfl kf67_3 kd9 rfl rfl (cmp_str (lt rfl)) (lt rfl) <| same_more (p := 30) (n := 5) rfl (by decide) rfl rfl rfl kf67_4 kd3 rfl rfl (cmp_int (lt rfl)) (lt rfl) <| same_more (p := 37) (n := 5) rfl (by decide) rfl rfl rfl kf67_5 kd3 rfl rfl (cmp_int (lt rfl)) (lt rfl) <| same_more (p := 44) (n := 5) rfl (by decide) rfl rfl rfl kf67_6 kd65 rfl rfl (cmp_call en208 (h) (lt rfl)) (lt rfl) <| same_more (p := 51) (n := 5) rfl (by decide) rfl rfl rfl kf67_7 kd3 rfl rfl (cmp_int (lt rfl)) (lt rfl) <| asq rfl rfl <| nxq ?_
  refine rtq ?_
  exact hits_done (.inl rfl) rfl rfl (congrArg (fun b => D.sc (.bool b)) (by simp only [exCs, nD, txD, same_agg, same_nil, Bool.and_true, Bool.and_assoc]))
theorem sameExprs_w (ds es : List D) (hd : ∀ q ∈ ds, ∃ c, q = .agg c ∧ c.length = 10) (he : ∀ q ∈ es, ∃ c, q = .agg c ∧ c.length = 10) (h : ∀ p ∈ ds, ∀ q ∈ es, SameC Tryz.prog Lw 210 p q) (hl : ds.length ≤ 1048576) : SameC Tryz.prog Lw 208 (.list 10 ds) (.list 10 es) := sameA Tryz.func208 rfl Tryz.ntmps208 rfl en210 un65 kd67 ds es (ld_agg hd) (ld_agg he) h hl
theorem ex_aggs (l : List Ex) : ∀ q ∈ exDs l, ∃ c, q = .agg c ∧ c.length = 10 := fun q hq => by rw [exDs_map] at hq; obtain ⟨x, _, rfl⟩ := List.mem_map.1 hq; exact ⟨_, exD_cs x, by cases x; rfl⟩
theorem sm_aggs (l : List Sm) : ∀ q ∈ smDs l, ∃ c, q = .agg c ∧ c.length = 9 := fun q hq => by rw [smDs_map] at hq; obtain ⟨x, _, rfl⟩ := List.mem_map.1 hq; exact ⟨_, smD_cs x, by cases x; rfl⟩
theorem map_all {α β : Type} {f : α → D} {g : β → D} {l : List α} {l' : List β} {R : D → D → Prop} (h : ∀ x ∈ l, ∀ y ∈ l', R (f x) (g y)) : ∀ p ∈ l.map f, ∀ q ∈ l'.map g, R p q := fun p hp q hq => by
  obtain ⟨x, hx, rfl⟩ := List.mem_map.1 hp
  obtain ⟨y, hy, rfl⟩ := List.mem_map.1 hq
  exact h x hx y hy
mutual
theorem smE : ∀ x : Ex, fitE x → ∀ y, SameC Tryz.prog Lw 210 (exD x) (exD y)
  | .mk op lw lh ll nm fl n m args line, hf, y => by
    rw [fitE] at hf
    rw [exD_cs, exD_cs]
    exact sameExpr_w _ y (sameExprs_w (exDs args) (exDs (argsE y)) (ex_aggs _) (ex_aggs _) (by rw [exDs_map, exDs_map]; exact map_all fun a ha b _ => smEs args hf.2 a ha b) (by rw [exDs_len]; exact hf.1))
theorem smEs : ∀ l : List Ex, fitEs l → ∀ x ∈ l, ∀ y, SameC Tryz.prog Lw 210 (exD x) (exD y)
  | [], _, x, h, y => by cases h
  | z :: l, hf, x, h, y => by
    rw [fitEs] at hf
    by_cases hx : x = z
    · rw [hx]; exact smE z hf.1 y
    · exact smEs l hf.2 x (by rcases List.mem_cons.mp h with h | h; exact absurd h hx; exact h) y
end
theorem smEL (l l' : List Ex) (hf : fitEs l) (hl : l.length ≤ 1048576) : SameC Tryz.prog Lw 208 (.list 10 (exDs l)) (.list 10 (exDs l')) := sameExprs_w _ _ (ex_aggs _) (ex_aggs _) (by rw [exDs_map, exDs_map]; exact map_all fun a ha b _ => smEs l hf a ha b) (by rw [exDs_len]; exact hl)
theorem sameStmt_w (x y : Sm) (hA : SameC Tryz.prog Lw 208 (.list 10 (exDs (argsS x))) (.list 10 (exDs (argsS y)))) (hB : SameC Tryz.prog Lw 107 (.list 9 (smDs (bodyS x))) (.list 9 (smDs (bodyS y)))) (hC : SameC Tryz.prog Lw 107 (.list 9 (smDs (elsS x))) (.list 9 (smDs (elsS y)))) : CallsP Tryz.prog Lw 163 [.agg (smCs x), .agg (smCs y)] (.sc (.bool (same (.agg (smCs x)) (.agg (smCs y))))) := by
  obtain ⟨kd, nm, fl, arr, n0, args, body, els, line⟩ := x
  obtain ⟨kd', nm', fl', arr', n0', args', body', els', line'⟩ := y
  refine callsP_of gs_lw Tryz.func163 rfl Tryz.ntmps163 rfl fun w0 S0 stab => ?_
  refine sqq <| rgq <| sq (f_box rfl rfl (lt rfl)) rfl rfl <| sq (f_box rfl rfl (lt rfl)) rfl rfl <| asq rfl rfl <| nxq <| sqq <| rgq ?_
  refine same_five (p := 5) rfl (.inl rfl) rfl rfl kf70_0 kd68 rfl rfl (cmp_int (lt rfl)) (lt rfl) <| same_more (p := 9) (n := 5) rfl (by decide) rfl rfl rfl kf70_1 kd9 rfl rfl (cmp_str (lt rfl)) (lt rfl) <| same_more (p := 16) (n := 5) rfl (by decide) rfl rfl rfl kf70_2 kd9 rfl rfl (cmp_str (lt rfl)) (lt rfl) <| same_more (p := 23) (n := 5) rfl (by decide) rfl rfl rfl kf70_3 kd9 rfl rfl (cmp_str (lt rfl)) (lt rfl) <| same_more (p := 30) (n := 5) rfl (by decide) rfl rfl rfl kf70_4 kd3 rfl rfl (cmp_int (lt rfl)) (lt rfl) <| same_more (p := 37) (n := 5) rfl (by decide) rfl rfl rfl kf70_5 kd65 rfl rfl (cmp_call en208 (hA) (lt rfl)) (lt rfl) <| same_more (p := 44) (n := 5) rfl (by decide) rfl rfl rfl kf70_6 kd54 rfl rfl (cmp_call en107 (hB) (lt rfl)) (lt rfl) <| same_more (p := 51) (n := 5) rfl (by decide) rfl rfl rfl kf70_7 kd54 rfl rfl (cmp_call en107 (hC) (lt rfl)) (lt rfl) ?_
  refine same_more (p := 58) (n := 5) rfl (by decide) rfl rfl rfl kf70_8 kd3 rfl rfl (cmp_int (lt rfl)) (lt rfl) <| asq rfl rfl <| nxq <| rtq ?_
  exact hits_done (.inl rfl) rfl rfl (congrArg (fun b => D.sc (.bool b)) (by simp only [smCs, nD, txD, same_agg, same_nil, Bool.and_true, Bool.and_assoc]))
theorem sameStmts_w (ds es : List D) (hd : ∀ q ∈ ds, ∃ c, q = .agg c ∧ c.length = 9) (he : ∀ q ∈ es, ∃ c, q = .agg c ∧ c.length = 9) (h : ∀ p ∈ ds, ∀ q ∈ es, SameC Tryz.prog Lw 163 p q) (hl : ds.length ≤ 1048576) : SameC Tryz.prog Lw 107 (.list 9 ds) (.list 9 es) := sameA Tryz.func107 rfl Tryz.ntmps107 rfl en163 un54 kd70 ds es (ld_agg hd) (ld_agg he) h hl
mutual
theorem smS : ∀ x : Sm, fitS x → ∀ y, SameC Tryz.prog Lw 163 (smD x) (smD y)
  | .mk kd nm fl arr n args body els line, hf, y => by
    rw [fitS] at hf
    rw [smD_cs, smD_cs]
    exact sameStmt_w _ y (smEL args (argsS y) hf.1.2 hf.1.1) (sameStmts_w (smDs body) (smDs (bodyS y)) (sm_aggs _) (sm_aggs _) (by rw [smDs_map, smDs_map]; exact map_all fun a ha b _ => smSs body hf.2.1.2 a ha b) (by rw [smDs_len]; exact hf.2.1.1)) (sameStmts_w (smDs els) (smDs (elsS y)) (sm_aggs _) (sm_aggs _) (by rw [smDs_map, smDs_map]; exact map_all fun a ha b _ => smSs els hf.2.2.2 a ha b) (by rw [smDs_len]; exact hf.2.2.1))
theorem smSs : ∀ l : List Sm, fitSs l → ∀ x ∈ l, ∀ y, SameC Tryz.prog Lw 163 (smD x) (smD y)
  | [], _, x, h, y => by cases h
  | z :: l, hf, x, h, y => by
    rw [fitSs] at hf
    by_cases hx : x = z
    · rw [hx]; exact smS z hf.1 y
    · exact smSs l hf.2 x (by rcases List.mem_cons.mp h with h | h; exact absurd h hx; exact h) y
end
theorem sameTexts_w (l l' : List Tx) (hl : l.length ≤ 1048576) : SameC Tryz.prog Lw 105 (.list 1 (l.map txD)) (.list 1 (l'.map txD)) := sameB Tryz.func105 rfl Tryz.ntmps105 rfl un52 kd9 (l.map txD) (l'.map txD) (fun q hq => by obtain ⟨x, _, rfl⟩ := List.mem_map.1 hq; exact fun _ => rfl) (fun q hq => by obtain ⟨x, _, rfl⟩ := List.mem_map.1 hq; exact fun _ => rfl) (fun p hp q hq => by obtain ⟨x, _, rfl⟩ := List.mem_map.1 hp; obtain ⟨y, _, rfl⟩ := List.mem_map.1 hq; exact fun E st s1 s2 d ty pos af g h1 h2 hd => f_bin h1 h2 (bT (congrArg not (same_str _ _))) hd) (by rw [List.length_map]; exact hl)
theorem sameNums_w (l l' : List N3) (hl : l.length ≤ 1048576) : SameC Tryz.prog Lw 106 (.list 3 (l.map n3D)) (.list 3 (l'.map n3D)) := sameB Tryz.func106 rfl Tryz.ntmps106 rfl un53 kd35 (l.map n3D) (l'.map n3D) (fun q hq => by obtain ⟨x, _, rfl⟩ := List.mem_map.1 hq; exact fun _ => rfl) (fun q hq => by obtain ⟨x, _, rfl⟩ := List.mem_map.1 hq; exact fun _ => rfl) (fun p hp q hq => by obtain ⟨x, _, rfl⟩ := List.mem_map.1 hp; obtain ⟨y, _, rfl⟩ := List.mem_map.1 hq; exact fun E st s1 s2 d ty pos af g h1 h2 hd => f_neS h1 h2 rfl rfl eqg35 (ev35 ..) (by decide) (congrArg not (by unfold n3D; simp only [nD, txD, same_agg, same_nil, ← same_int, ← same_str, Bool.and_true, Bool.and_assoc])) hd) (by rw [List.length_map]; exact hl)
theorem sameFields_w (l l' : List (Tx × Nat)) (hl : l.length ≤ 1048576) : SameC Tryz.prog Lw 102 (.list 2 (l.map fdD)) (.list 2 (l'.map fdD)) := sameB Tryz.func102 rfl Tryz.ntmps102 rfl un49 kd132 (l.map fdD) (l'.map fdD) (fun q hq => by obtain ⟨x, _, rfl⟩ := List.mem_map.1 hq; exact fun _ => rfl) (fun q hq => by obtain ⟨x, _, rfl⟩ := List.mem_map.1 hq; exact fun _ => rfl) (fun p hp q hq => by obtain ⟨x, _, rfl⟩ := List.mem_map.1 hp; obtain ⟨y, _, rfl⟩ := List.mem_map.1 hq; exact fun E st s1 s2 d ty pos af g h1 h2 hd => f_neS h1 h2 rfl rfl eqg132 (ev132 ..) (by decide) (congrArg not (by unfold fdD; simp only [nD, txD, same_agg, same_nil, ← same_int, ← same_str, Bool.and_true, Bool.and_assoc])) hd) (by rw [List.length_map]; exact hl)
theorem sameCases_w (l l' : List Cs) (hl : l.length ≤ 1048576) : SameC Tryz.prog Lw 209 (.list 7 (l.map csD)) (.list 7 (l'.map csD)) := sameB Tryz.func209 rfl Tryz.ntmps209 rfl un74 kd172 (l.map csD) (l'.map csD) (fun q hq => by obtain ⟨x, _, rfl⟩ := List.mem_map.1 hq; exact fun _ => rfl) (fun q hq => by obtain ⟨x, _, rfl⟩ := List.mem_map.1 hq; exact fun _ => rfl) (fun p hp q hq => by obtain ⟨x, _, rfl⟩ := List.mem_map.1 hp; obtain ⟨y, _, rfl⟩ := List.mem_map.1 hq; exact fun E st s1 s2 d ty pos af g h1 h2 hd => f_neS h1 h2 rfl rfl eqg172 (ev172 ..) (by decide) (congrArg not (by unfold csD; simp only [nD, txD, same_agg, same_nil, ← same_int, ← same_str, Bool.and_true, Bool.and_assoc])) hd) (by rw [List.length_map]; exact hl)
theorem sameState_w (x y : Stt) (h1 : x.headers.length ≤ 1048576) (h2 : x.sel.length ≤ 1048576 ∧ fitEs x.sel) (h3 : x.cases.length ≤ 1048576) : CallsP Tryz.prog Lw 161 [.agg (stC x), .agg (stC y)] (.sc (.bool (same (.agg (stC x)) (.agg (stC y))))) := by
  have hE := smEL x.sel y.sel h2.2 h2.1
  rw [exDs_map, exDs_map] at hE
  refine callsP_of gs_lw Tryz.func161 rfl Tryz.ntmps161 rfl fun w0 S0 stab => ?_
  refine sqq <| rgq <| sq (f_box rfl rfl (lt rfl)) rfl rfl <| sq (f_box rfl rfl (lt rfl)) rfl rfl <| asq rfl rfl <| nxq <| sqq <| rgq ?_
  refine same_five (p := 5) rfl (.inl rfl) rfl rfl kf76_0 kd9 rfl rfl (cmp_str (lt rfl)) (lt rfl) <| same_more (p := 9) (n := 5) rfl (by decide) rfl rfl rfl kf76_1 kd52 rfl rfl (cmp_call en105 (sameTexts_w _ _ h1) (lt rfl)) (lt rfl) <| same_more (p := 16) (n := 5) rfl (by decide) rfl rfl rfl kf76_2 kd65 rfl rfl (cmp_call en208 (hE) (lt rfl)) (lt rfl) <| same_more (p := 23) (n := 5) rfl (by decide) rfl rfl rfl kf76_3 kd74 rfl rfl (cmp_call en209 (sameCases_w _ _ h3) (lt rfl)) (lt rfl) <| same_more (p := 30) (n := 5) rfl (by decide) rfl rfl rfl kf76_4 kd9 rfl rfl (cmp_str (lt rfl)) (lt rfl) <| same_more (p := 37) (n := 5) rfl (by decide) rfl rfl rfl kf76_5 kd3 rfl rfl (cmp_int (lt rfl)) (lt rfl) <| asq rfl rfl <| nxq ?_
  refine rtq ?_
  exact hits_done (.inl rfl) rfl rfl (congrArg (fun b => D.sc (.bool b)) (by simp only [stC, nD, txD, same_agg, same_nil, Bool.and_true, Bool.and_assoc]))
theorem sameStates_w (ds es : List D) (hd : ∀ q ∈ ds, ∃ c, q = .agg c ∧ c.length = 6) (he : ∀ q ∈ es, ∃ c, q = .agg c ∧ c.length = 6) (h : ∀ p ∈ ds, ∀ q ∈ es, SameC Tryz.prog Lw 161 p q) (hl : ds.length ≤ 1048576) : SameC Tryz.prog Lw 103 (.list 6 ds) (.list 6 es) := sameA Tryz.func103 rfl Tryz.ntmps103 rfl en161 un50 kd76 ds es (ld_agg hd) (ld_agg he) h hl
theorem sameKey_w (x y : Ex × Nat) (h : SameC Tryz.prog Lw 210 (.agg (exCs x.1)) (.agg (exCs y.1))) : CallsP Tryz.prog Lw 162 [.agg (exCs x.1 ++ [.sc (.int .u8 (x.2 : Int))]), .agg (exCs y.1 ++ [.sc (.int .u8 (y.2 : Int))])] (.sc (.bool (same (.agg (exCs x.1 ++ [.sc (.int .u8 (x.2 : Int))])) (.agg (exCs y.1 ++ [.sc (.int .u8 (y.2 : Int))]))))) := by
  obtain ⟨⟨op, lw, lh, ll, nm, fl, n, m, args, line⟩, kk⟩ := x
  obtain ⟨⟨op', lw', lh', ll', nm', fl', n', m', args', line'⟩, kk'⟩ := y
  refine callsP_of gs_lw Tryz.func162 rfl Tryz.ntmps162 rfl fun w0 S0 stab => ?_
  refine sqq <| rgq <| sq (f_box rfl rfl (lt rfl)) rfl rfl <| sq (f_box rfl rfl (lt rfl)) rfl rfl <| asq rfl rfl <| nxq <| sqq <| rgq ?_
  refine same_five (p := 5) rfl (.inl rfl) rfl rfl kf82_0 kd67 rfl rfl (cmp_call en210 (h) (lt rfl)) (lt rfl) <| same_more (p := 9) (n := 5) rfl (by decide) rfl rfl rfl kf82_1 kd80 rfl rfl (cmp_int (lt rfl)) (lt rfl) <| asq rfl rfl <| nxq <| rtq ?_
  exact hits_done (.inl rfl) rfl rfl (congrArg (fun b => D.sc (.bool b)) (by simp only [exCs, nD, txD, List.cons_append, List.nil_append, same_agg, same_nil, Bool.and_true, Bool.and_assoc]))
theorem sameKeys_w (ds es : List D) (hd : ∀ q ∈ ds, ∃ c, q = .agg c ∧ c.length = 11) (he : ∀ q ∈ es, ∃ c, q = .agg c ∧ c.length = 11) (h : ∀ p ∈ ds, ∀ q ∈ es, SameC Tryz.prog Lw 162 p q) (hl : ds.length ≤ 1048576) : SameC Tryz.prog Lw 104 (.list 11 ds) (.list 11 es) := sameA Tryz.func104 rfl Tryz.ntmps104 rfl en162 un51 kd82 ds es (ld_agg hd) (ld_agg he) h hl
theorem sameDecl_w (x y : Dc) (h : FitD x) : CallsP Tryz.prog Lw 54 [.agg (dcC x), .agg (dcC y)] (.sc (.bool (same (.agg (dcC x)) (.agg (dcC y))))) := by
  have hS := sameStates_w (x.states.map stD) (y.states.map stD) (fun q hq => by obtain ⟨s, _, rfl⟩ := List.mem_map.1 hq; exact ⟨_, stD_c s, rfl⟩) (fun q hq => by obtain ⟨s, _, rfl⟩ := List.mem_map.1 hq; exact ⟨_, stD_c s, rfl⟩) (map_all fun a ha b _ => sameState_w a b (h.state a ha).1 (h.state a ha).2.1 (h.state a ha).2.2) (by rw [List.length_map]; exact h.states)
  have hK := sameKeys_w (x.keys.map kdD) (y.keys.map kdD) (fun q hq => by obtain ⟨s, _, rfl⟩ := List.mem_map.1 hq; exact ⟨_, rfl, by obtain ⟨s, k⟩ := s; cases s; rfl⟩) (fun q hq => by obtain ⟨s, _, rfl⟩ := List.mem_map.1 hq; exact ⟨_, rfl, by obtain ⟨s, k⟩ := s; cases s; rfl⟩) (map_all fun a ha b _ => sameKey_w a b (by rw [← exD_cs, ← exD_cs]; exact smE _ (h.key a ha) _)) (by rw [List.length_map]; exact h.keys)
  have hB := sameStmts_w (smDs x.body) (smDs y.body) (sm_aggs _) (sm_aggs _) (by rw [smDs_map, smDs_map]; exact map_all fun a ha b _ => smSs _ h.body.2 a ha b) (by rw [smDs_len]; exact h.body.1)
  rw [smDs_map, smDs_map] at hB
  refine callsP_of gs_lw Tryz.func54 rfl Tryz.ntmps54 rfl fun w0 S0 stab => ?_
  refine sqq <| rgq <| sq (f_box rfl rfl (lt rfl)) rfl rfl <| sq (f_box rfl rfl (lt rfl)) rfl rfl <| asq rfl rfl <| nxq <| sqq <| rgq ?_
  refine same_five (p := 5) rfl (.inl rfl) rfl rfl kf56_0 kd48 rfl rfl (cmp_int (lt rfl)) (lt rfl) <| same_more (p := 9) (n := 5) rfl (by decide) rfl rfl rfl kf56_1 kd9 rfl rfl (cmp_str (lt rfl)) (lt rfl) <| same_more (p := 16) (n := 5) rfl (by decide) rfl rfl rfl kf56_2 kd49 rfl rfl (cmp_call en102 (sameFields_w _ _ h.fields) (lt rfl)) (lt rfl) <| same_more (p := 23) (n := 5) rfl (by decide) rfl rfl rfl kf56_3 kd3 rfl rfl (cmp_int (lt rfl)) (lt rfl) <| same_more (p := 30) (n := 5) rfl (by decide) rfl rfl rfl kf56_4 kd3 rfl rfl (cmp_int (lt rfl)) (lt rfl) <| same_more (p := 37) (n := 5) rfl (by decide) rfl rfl rfl kf56_5 kd3 rfl rfl (cmp_int (lt rfl)) (lt rfl) <| same_more (p := 44) (n := 5) rfl (by decide) rfl rfl rfl kf56_6 kd3 rfl rfl (cmp_int (lt rfl)) (lt rfl) <| same_more (p := 51) (n := 5) rfl (by decide) rfl rfl rfl kf56_7 kd50 rfl rfl (cmp_call en103 (hS) (lt rfl)) (lt rfl) ?_
  refine same_more (p := 58) (n := 5) rfl (by decide) rfl rfl rfl kf56_8 kd51 rfl rfl (cmp_call en104 (hK) (lt rfl)) (lt rfl) <| same_more (p := 65) (n := 5) rfl (by decide) rfl rfl rfl kf56_9 kd52 rfl rfl (cmp_call en105 (sameTexts_w _ _ h.actions) (lt rfl)) (lt rfl) <| same_more (p := 72) (n := 5) rfl (by decide) rfl rfl rfl kf56_10 kd9 rfl rfl (cmp_str (lt rfl)) (lt rfl) <| same_more (p := 79) (n := 5) rfl (by decide) rfl rfl rfl kf56_11 kd53 rfl rfl (cmp_call en106 (sameNums_w _ _ h.args) (lt rfl)) (lt rfl) <| same_more (p := 86) (n := 5) rfl (by decide) rfl rfl rfl kf56_12 kd54 rfl rfl (cmp_call en107 (hB) (lt rfl)) (lt rfl) <| same_more (p := 93) (n := 5) rfl (by decide) rfl rfl rfl kf56_13 kd52 rfl rfl (cmp_call en105 (sameTexts_w _ _ h.emits) (lt rfl)) (lt rfl) <| same_more (p := 100) (n := 5) rfl (by decide) rfl rfl rfl kf56_14 kd3 rfl rfl (cmp_int (lt rfl)) (lt rfl) <| asq rfl rfl ?_
  refine nxq <| rtq ?_
  exact hits_done (.inl rfl) rfl rfl (congrArg (fun b => D.sc (.bool b)) (by simp only [dcC, nD, txD, same_agg, same_nil, Bool.and_true, Bool.and_assoc]))
theorem sameDecls_w (ds es : List D) (hd : ∀ q ∈ ds, ∃ c, q = .agg c ∧ c.length = 15) (he : ∀ q ∈ es, ∃ c, q = .agg c ∧ c.length = 15) (h : ∀ p ∈ ds, ∀ q ∈ es, SameC Tryz.prog Lw 54 p q) (hl : ds.length ≤ 1048576) : SameC Tryz.prog Lw 23 (.list 15 ds) (.list 15 es) := sameA Tryz.func23 rfl Tryz.ntmps23 rfl en54 un22 kd56 ds es (ld_agg hd) (ld_agg he) h hl
theorem same_program (l l' : List Dc) (h : ∀ d ∈ l, FitD d) (hl : l.length ≤ 1048576) : CallsP Tryz.prog Lw 11 [.list 15 (l.map dcD), .list 15 (l'.map dcD)] (.sc (.bool (same (.list 15 (l.map dcD)) (.list 15 (l'.map dcD))))) := by
  have hD := sameDecls_w (l.map dcD) (l'.map dcD) (fun q hq => by obtain ⟨s, _, rfl⟩ := List.mem_map.1 hq; exact ⟨_, rfl, rfl⟩) (fun q hq => by obtain ⟨s, _, rfl⟩ := List.mem_map.1 hq; exact ⟨_, rfl, rfl⟩) (map_all fun a ha b _ => sameDecl_w a b (h a ha)) (by rw [List.length_map]; exact hl)
  refine callsP_of gs_lw Tryz.func11 rfl Tryz.ntmps11 rfl fun w0 S0 stab => ?_
  refine sqq <| rgq <| asq rfl rfl <| nxq <| sqq <| rgq <| mvq rfl rfl <| mvq rfl rfl ?_
  refine sq (f_call en23 rfl hD (lt rfl)) rfl rfl <| asq rfl rfl <| nxq <| rtq ?_
  exact hits_done (.inl rfl) rfl rfl rfl
end Go.Proofs.YtogodijfdkffaaaGreatDoor.Ln

/- What the laws ask of trees. -/
namespace Go.Proofs.YtogodijfdkffaaaGreatDoor.Ln
open Go Go.RowKit Go.Ab Go.Proofs 
theorem en9 : enters Tryz.prog 9 = true := by kernel_rfl
theorem bare_c {ds : List Dc} (h : Wide1 ds) : CallsP Tryz.prog Lw 12 [.list 15 (ds.map dcD)] (.list 15 ((ds.map eDc).map dcD)) := (bare_g ds h.fit h.2).callsP
theorem same_c {ds es : List Dc} (h : Wide1 ds) (e : es.map eDc = ds.map eDc) : CallsP Tryz.prog Lw 11 [.list 15 ((ds.map eDc).map dcD), .list 15 ((es.map eDc).map dcD)] (.sc (.bool true)) := by
  have := same_program (ds.map eDc) (es.map eDc) h.e.fit h.e.2
  rw [e, same_self] at this
  rw [e]; exact this
theorem words_any (s : Tx) : ∃ l n e, CallsP Tryz.prog Lw 8 [txD s] (.tup [.list 6 l, nD n, nD e]) := by
  by_cases h : 65536 < s.length
  · exact ⟨_, _, _, words_big (B s) (by rw [B_size]; exact h)⟩
  · have hw := words_c s (by omega)
    cases hW : W s 0 with
    | inl n => rw [hW] at hw; exact ⟨_, _, _, hw⟩
    | inr L => rw [hW] at hw; exact ⟨_, _, _, hw⟩
theorem parse_as {s : Tx} {r : List Dc × Nat × Nat} (h : parseS s = r) : CallsP Tryz.prog Lw 7 [txD s] (parsedD r) := h ▸ parse_c s
end Go.Proofs.YtogodijfdkffaaaGreatDoor.Ln

/- A struct or an array that came in by value: its cells, one by one. Over any program. -/
namespace Go.Proofs.YtogodijfdkffaaaGreatDoor.Open
variable {H : Type} {enc : TypeId × Value → H} {P : Program} {w : World} {base : Nat} {spare : Nat → Bool} {held : Bool} {fuel : Nat} {t : TypeId} {cs : List Value} {x : DataW H × List MemPlace}
theorem field {fs : Array Field} (ht : P.underlying t = some (.struct fs)) (h : DataW.trod enc P w base spare held fuel t cs = some x) (i : Nat) {f : Field} (hf : fs[i]? = some f) :
    ∃ n y, DataW.trod enc P w base spare held n f.type ((cs.drop f.offset).take (P.cellsOf f.type)) = some y := by
  obtain ⟨xs, n, _, _, _, hl, hx⟩ := DataW.trod_struct ht h
  have hi : i < xs.length := by rw [hl]; exact (Array.getElem?_eq_some_iff.1 hf).1
  exact ⟨n, xs[i], (hx i f hf).trans (List.getElem?_eq_getElem hi)⟩
theorem elem {n : Nat} {e : TypeId} (ht : P.underlying t = some (.array n e)) (h : DataW.trod enc P w base spare held fuel t cs = some x) (i : Nat) (hi : i < n) :
    ∃ m y, DataW.trod enc P w base spare held m e ((cs.drop (i * P.cellsOf e)).take (P.cellsOf e)) = some y := by
  obtain ⟨xs, m, _, _, _, hl, hx⟩ := DataW.trod_array ht h
  exact ⟨m, xs[i]'(by omega), (hx i hi).trans (List.getElem?_eq_getElem (by omega))⟩
theorem int {k : IntKind} (ht : P.underlying t = some (.int k)) {c : Value} (h : DataW.trod enc P w base spare held fuel t [c] = some x) : ∃ n, c = .int k n ∧ (Lit.int k n).wf = true := by
  obtain ⟨n, hc, _, hw⟩ := DataW.trod_int ht h
  exact ⟨n, (List.cons.inj hc).1, hw⟩
theorem cons {α : Type} {l : List α} {n : Nat} (h : l.length = n + 1) : ∃ a m, l = a :: m ∧ m.length = n := by
  cases l with
  | nil => cases h
  | cons a m => exact ⟨a, m, rfl, Nat.succ.inj h⟩
end Go.Proofs.YtogodijfdkffaaaGreatDoor.Open

