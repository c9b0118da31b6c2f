-- written by wip/pr.py for this claim: functions' plain forms and walks
import Derived.Test.YthhlnghpbjmfpaaPTryx0
import Derived.Test.YthhlnghpbjmfpaaPTryx5
import Derived.Test.YthhlnghpbjmfpaaPTryx6
namespace Go.Proofs.Ythhlnghpbjmfpaa.PTry
attribute [local go_sem] Go.Proofs.Ythhlnghpbjmfpaa.Extern.cell_twice
open Go.RowKit Go.Proofs.YthhlnghpbjmfpaaW.PrintWords Go.Proofs.YthhlnghpbjmfpaaW.PrintLast Go.Proofs.YthhlnghpbjmfpaaW.PrintMore
attribute [local go_sem] max2_int min2_int max_two min_two max_three min_three max_four min_four   -- for this text's walks alone
set_option linter.unusedVariables false
set_option linter.unusedSimpArgs false

/-! ### pointsmanref01_below: function 26 -/
def pointsmanref01_below.l0 : Nat → List Bool → List Bool → Int → Option (Bool)
  | 0, _, _, _ => none
  | k + 1, x0, x1, x5 => if x5 ≥ 0 then (if 0 ≤ x5 then (if x5 < (x0.length : Int) then (if x5 < (x1.length : Int) then (if ((rdOf false x0 x5) != (rdOf false x1 x5)) = true then (some (rdOf false x1 x5)) else (pointsmanref01_below.l0 k x0 x1 (wrap64 (x5 - 1)))) else (none)) else (none)) else (none)) else (some false)
def pointsmanref01_below.f (k : Nat) (l0 : List Bool) (l1 : List Bool) : Option (Bool) := pointsmanref01_below.l0 k l0 l1 (wrap64 ((l0.length : Int) - 1))
theorem pointsmanref01_below.mono_l : ∀ k, (∀ y0 y1 y2, LeO (pointsmanref01_below.l0 k y0 y1 y2) (pointsmanref01_below.l0 (k + 1) y0 y1 y2))
  | 0 => fun _ _ _ r h => by simp [pointsmanref01_below.l0] at h
  | k + 1 => by
    have ih0 := pointsmanref01_below.mono_l k
    · intro y0 y1 y2
      unfold pointsmanref01_below.l0
      repeat' first
      | (with_reducible exact ih0 _ _ _)
      | (with_reducible exact LeO.refl _)
      | (with_reducible exact LeO.none _)
      | (with_reducible refine LeO.ite ?_ ?_)
      | (with_reducible refine LeO.bind ?_ (fun _ => ?_))
      | exact ih0 _ _ _
      | exact LeO.none _
      | refine LeO.ite ?_ ?_
      | refine LeO.bind ?_ (fun _ => ?_)
theorem pointsmanref01_below.mono : ∀ a0 a1 k, LeO (pointsmanref01_below.f k a0 a1) (pointsmanref01_below.f (k + 1) a0 a1) := by
  intro a0 a1 k
  have ih0 := pointsmanref01_below.mono_l k
  unfold pointsmanref01_below.f
  repeat' first
      | (with_reducible exact ih0 _ _ _)
      | (with_reducible exact LeO.refl _)
      | (with_reducible exact LeO.none _)
      | (with_reducible refine LeO.ite ?_ ?_)
      | (with_reducible refine LeO.bind ?_ (fun _ => ?_))
      | exact ih0 _ _ _
      | exact LeO.none _
      | refine LeO.ite ?_ ?_
      | refine LeO.bind ?_ (fun _ => ?_)
set_option maxHeartbeats 8000000 in
set_option maxRecDepth 100000 in
theorem pointsmanref01_below.calls (k : Nat) (A0 : Option Addr) (c0 : Nat) (l0 : List Bool) (A1 : Option Addr) (c1 : Nat) (l1 : List Bool) (r : Bool) (w : World) (hr0 : Kd.C Kd.bool w A0 l0.length l0) (hc0 : l0.length ≤ c0) (hr1 : Kd.C Kd.bool w A1 l1.length l1) (hc1 : l1.length ≤ c1) (h : pointsmanref01_below.f k l0 l1 = some r) :
    Calls Try.prog 26 #[.slice A0 l0.length c0, .slice A1 l1.length c1] w fun e w' => e = .returned (.bool r) ∧ Drawn0 w w' := by
  have HR0 := Aside0.mk hr0
  have HC0 := Aside0.mk hc0
  clear hr0 hc0
  have HR1 := Aside0.mk hr1
  have HC1 := Aside0.mk hc1
  clear hr1 hc1
  have H : (pointsmanref01_below.l0 k l0 l1 (wrap64 ((l0.length : Int) - 1))) = some r := h
  clear h
  have H' := Aside0.mk H
  clear H
  go_enter Try.func26, Try.ntmps26
  go_wp2
  repeat (go_quiet (fail); try go_wp2)
  go_loopg [5] k (fun kq v5 w' => ∃ (x5_1 : Int), v5 = .int .i64 x5_1 ∧ Aside0 (pointsmanref01_below.l0 kq l0 l1 x5_1 = some r) ∧ Aside0 (kq ≤ k) ∧ Drawn0 w w')
  case atStart => exact ⟨(wrap64 ((l0.length : Int) - 1)), (by first | rfl | (simp; done) | (simp [*]; done)), H', ⟨Nat.le_refl _⟩, by repeat (first | exact Drawn0.refl _ | apply Drawn0.step)⟩
  case round =>
    clear H'
    try clear c1
    try clear c2
    try clear p2
    obtain ⟨x5_1, rfl, HA, HK1, ⟨m1, rfl⟩⟩ := hrel
    cases gk with
    | zero => exact absurd HA.out (by simp [pointsmanref01_below.l0])
    | succ k1 =>
      have H := HA.out
      clear HA
      simp only [pointsmanref01_below.l0] at H
      by_cases c3 : x5_1 ≥ 0
      · rw [if_pos c3] at H
        have c3b0 : decide (0 ≤ x5_1) = true := decide_eq_true c3
        clear c3
        by_cases c4 : 0 ≤ x5_1
        · rw [if_pos c4] at H
          have c4b0 : decide (0 ≤ x5_1) = true := decide_eq_true c4
          clear c4
          by_cases c5 : x5_1 < (l0.length : Int)
          · rw [if_pos c5] at H
            have c5b0 : decide (x5_1 < (l0.length : Int)) = true := decide_eq_true c5
            clear c5
            by_cases c6 : x5_1 < (l1.length : Int)
            · rw [if_pos c6] at H
              have c6b0 : decide (x5_1 < (l1.length : Int)) = true := decide_eq_true c6
              clear c6
              by_cases c7 : ((rdOf false l0 x5_1) != (rdOf false l1 x5_1)) = true
              · rw [if_pos c7] at H
                have c7b0 : ((rdOf false l0 x5_1) != (rdOf false l1 x5_1)) = true := c7
                (try (have c7b1 : decide ((rdOf false l0 x5_1) = (rdOf false l1 x5_1)) = false := by simpa using c7))
                (try (have c7b2 : ((rdOf false l0 x5_1) == (rdOf false l1 x5_1)) = false := by simpa using c7))
                (try (have c7b3 : ¬ ((rdOf false l0 x5_1) = (rdOf false l1 x5_1)) := by simpa using c7))
                clear c7
                obtain rfl := Option.some.inj H
                have p330 : 0 ≤ (x5_1 : Int) := of_decide_eq_true (by first | (with_reducible assumption) | assumption)
                have q330 : x5_1 < (l0.length : Int) := of_decide_eq_true (by first | (with_reducible assumption) | assumption)
                obtain ⟨ad330, e330, hx330_0⟩ := Kd.at_bool HR0.out x5_1 p330 q330
                cases e330
                replace p330 := eq_true p330
                replace q330 := eq_true q330
                have p331 : 0 ≤ (x5_1 : Int) := of_decide_eq_true (by first | (with_reducible assumption) | assumption)
                have q331 : x5_1 < (l1.length : Int) := of_decide_eq_true (by first | (with_reducible assumption) | assumption)
                obtain ⟨ad331, e331, hx331_0⟩ := Kd.at_bool HR1.out x5_1 p331 q331
                cases e331
                replace p331 := eq_true p331
                replace q331 := eq_true q331
                have p332 : 0 ≤ (x5_1 : Int) := of_decide_eq_true (by first | (with_reducible assumption) | assumption)
                have q332 : x5_1 < (l1.length : Int) := of_decide_eq_true (by first | (with_reducible assumption) | assumption)
                obtain ⟨ad332, e332, hx332_0⟩ := Kd.at_bool HR1.out x5_1 p332 q332
                obtain rfl : ad331 = ad332 := (by injection e332)
                replace p332 := eq_true p332
                replace q332 := eq_true q332
                go_wp2
                repeat (go_quiet (fail); try go_wp2)
                go_ret
                exact ⟨by first | rfl | (simp; done) | (simp [*]; done), by repeat (first | exact Drawn0.refl _ | apply Drawn0.step)⟩
              · rw [if_neg c7] at H
                have c7b0 : ((rdOf false l0 x5_1) != (rdOf false l1 x5_1)) = false := by simpa using c7
                (try (have c7b1 : decide ((rdOf false l0 x5_1) = (rdOf false l1 x5_1)) = true := by simpa using c7))
                (try (have c7b2 : ((rdOf false l0 x5_1) == (rdOf false l1 x5_1)) = true := by simpa using c7))
                clear c7
                have H' := Aside0.mk H
                clear H
                have p330 : 0 ≤ (x5_1 : Int) := of_decide_eq_true (by first | (with_reducible assumption) | assumption)
                have q330 : x5_1 < (l0.length : Int) := of_decide_eq_true (by first | (with_reducible assumption) | assumption)
                obtain ⟨ad330, e330, hx330_0⟩ := Kd.at_bool HR0.out x5_1 p330 q330
                cases e330
                replace p330 := eq_true p330
                replace q330 := eq_true q330
                have p331 : 0 ≤ (x5_1 : Int) := of_decide_eq_true (by first | (with_reducible assumption) | assumption)
                have q331 : x5_1 < (l1.length : Int) := of_decide_eq_true (by first | (with_reducible assumption) | assumption)
                obtain ⟨ad331, e331, hx331_0⟩ := Kd.at_bool HR1.out x5_1 p331 q331
                cases e331
                replace p331 := eq_true p331
                replace q331 := eq_true q331
                go_wp2
                repeat (go_quiet (fail); try go_wp2)
                go_roundg k1
                case measure => have := HK1.out; omega
                case rel => exact ⟨(wrap64 (x5_1 - 1)), (by first | rfl | (simp; done) | (simp [*]; done)), H', ⟨by have := HK1.out; omega⟩, by repeat (first | exact Drawn0.refl _ | apply Drawn0.step)⟩
            · rw [if_neg c6] at H
              exact absurd H (by simp)
          · rw [if_neg c5] at H
            exact absurd H (by simp)
        · rw [if_neg c4] at H
          exact absurd H (by simp)
      · rw [if_neg c3] at H
        have c3b0 : decide (0 ≤ x5_1) = false := decide_eq_false c3
        clear c3
        obtain rfl := Option.some.inj H
        go_wp2
        repeat (go_quiet (fail); try go_wp2)
        go_ret
        exact ⟨by first | rfl | (simp; done) | (simp [*]; done), by repeat (first | exact Drawn0.refl _ | apply Drawn0.step)⟩

/-! ### pointsmanref01_Do_o14: function 10 -/
mutual
def pointsmanref01_Do_o14.j0 : Nat → Bool → Bool → Int → Int → Int → Int → Int → Int → Option (Int × Int × Int × Int)
  | 0, _, _, _, _, _, _, _, _ => none
  | k + 1, x13, x47, x334000, x334001, x334002, x335000, x335001, x335002 => if x47 = true then (some (0, 0, 0, 1)) else (if x13 = true then (if x334000 = x335000 then (if (wrap64 (x334000 + x335000)) > 128 then (pointsmanref01_Do_o14.j1 k true x334000 x334001 x334002 x335000 x335001 x335002) else (pointsmanref01_Do_o14.j1 k false x334000 x334001 x334002 x335000 x335001 x335002)) else (pointsmanref01_Do_o14.j1 k true x334000 x334001 x334002 x335000 x335001 x335002)) else (if (wrap64 (x334000 + x335000)) > 128 then (pointsmanref01_Do_o14.j1 k true x334000 x334001 x334002 x335000 x335001 x335002) else (pointsmanref01_Do_o14.j1 k false x334000 x334001 x334002 x335000 x335001 x335002)))
def pointsmanref01_Do_o14.j1 : Nat → Bool → Int → Int → Int → Int → Int → Int → Option (Int × Int × Int × Int)
  | 0, _, _, _, _, _, _, _ => none
  | k + 1, x116, x334000, x334001, x334002, x335000, x335001, x335002 => if x116 = true then (some (0, 0, 0, 7)) else ((pointsmanref01_Bits.f k x334000 x334001 x334002).bind fun t340 => ((pointsmanref01_Bits.f k x335000 x335001 x335002).bind fun t343 => (if t343.length + t340.length < 140737488355328 then ((pointsmanref01_Number.f k (t343 ++ t340)).bind fun bt349 => (some (bt349.1, bt349.2.1, bt349.2.2, 0))) else (none))))
end
def pointsmanref01_Do_o14.f (k : Nat) (a0 : Int) (a1_0 : Int) (a1_1 : Int) (a1_2 : Int) (a2_0 : Int) (a2_1 : Int) (a2_2 : Int) (a3 : Int) (a4 : Int) : Option (Int × Int × Int × Int) := (pointsmanref01_two.f k 14).bind fun bt336 => (if bt336.1 = true then ((pointsmanref01_Check.f k a1_0 a1_1 a1_2).bind fun t338 => (if t338 = true then ((pointsmanref01_Check.f k a2_0 a2_1 a2_2).bind fun t339 => (pointsmanref01_Do_o14.j0 k bt336.2 (!t339) a1_0 a1_1 a1_2 a2_0 a2_1 a2_2)) else (pointsmanref01_Do_o14.j0 k bt336.2 true a1_0 a1_1 a1_2 a2_0 a2_1 a2_2))) else (none))
theorem pointsmanref01_Do_o14.mono_l : ∀ k, (∀ y0 y1 y2 y3 y4 y5 y6 y7, LeO (pointsmanref01_Do_o14.j0 k y0 y1 y2 y3 y4 y5 y6 y7) (pointsmanref01_Do_o14.j0 (k + 1) y0 y1 y2 y3 y4 y5 y6 y7)) ∧ (∀ y0 y1 y2 y3 y4 y5 y6, LeO (pointsmanref01_Do_o14.j1 k y0 y1 y2 y3 y4 y5 y6) (pointsmanref01_Do_o14.j1 (k + 1) y0 y1 y2 y3 y4 y5 y6))
  | 0 => ⟨fun _ _ _ _ _ _ _ _ r h => by simp [pointsmanref01_Do_o14.j0] at h, fun _ _ _ _ _ _ _ r h => by simp [pointsmanref01_Do_o14.j1] at h⟩
  | k + 1 => by
    obtain ⟨ih0, ih1⟩ := pointsmanref01_Do_o14.mono_l k
    refine ⟨?_, ?_⟩
    · intro y0 y1 y2 y3 y4 y5 y6 y7
      unfold pointsmanref01_Do_o14.j0
      repeat' first
      | (with_reducible exact ih0 _ _ _ _ _ _ _ _)
      | (with_reducible exact ih1 _ _ _ _ _ _ _)
      | (with_reducible exact pointsmanref01_Bits.mono _ _ _ _)
      | (with_reducible exact pointsmanref01_Check.mono _ _ _ _)
      | (with_reducible exact pointsmanref01_Number.mono _ _)
      | (with_reducible exact pointsmanref01_two.mono _ _)
      | (with_reducible exact LeO.refl _)
      | (with_reducible exact LeO.none _)
      | (with_reducible refine LeO.ite ?_ ?_)
      | (with_reducible refine LeO.bind ?_ (fun _ => ?_))
      | exact ih0 _ _ _ _ _ _ _ _
      | exact ih1 _ _ _ _ _ _ _
      | exact pointsmanref01_Bits.mono _ _ _ _
      | exact pointsmanref01_Check.mono _ _ _ _
      | exact pointsmanref01_Number.mono _ _
      | exact pointsmanref01_two.mono _ _
      | exact LeO.none _
      | refine LeO.ite ?_ ?_
      | refine LeO.bind ?_ (fun _ => ?_)
    · intro y0 y1 y2 y3 y4 y5 y6
      unfold pointsmanref01_Do_o14.j1
      repeat' first
      | (with_reducible exact ih0 _ _ _ _ _ _ _ _)
      | (with_reducible exact ih1 _ _ _ _ _ _ _)
      | (with_reducible exact pointsmanref01_Bits.mono _ _ _ _)
      | (with_reducible exact pointsmanref01_Check.mono _ _ _ _)
      | (with_reducible exact pointsmanref01_Number.mono _ _)
      | (with_reducible exact pointsmanref01_two.mono _ _)
      | (with_reducible exact LeO.refl _)
      | (with_reducible exact LeO.none _)
      | (with_reducible refine LeO.ite ?_ ?_)
      | (with_reducible refine LeO.bind ?_ (fun _ => ?_))
      | exact ih0 _ _ _ _ _ _ _ _
      | exact ih1 _ _ _ _ _ _ _
      | exact pointsmanref01_Bits.mono _ _ _ _
      | exact pointsmanref01_Check.mono _ _ _ _
      | exact pointsmanref01_Number.mono _ _
      | exact pointsmanref01_two.mono _ _
      | exact LeO.none _
      | refine LeO.ite ?_ ?_
      | refine LeO.bind ?_ (fun _ => ?_)
theorem pointsmanref01_Do_o14.mono : ∀ a0 a1 a2 a3 a4 a5 a6 a7 a8 k, LeO (pointsmanref01_Do_o14.f k a0 a1 a2 a3 a4 a5 a6 a7 a8) (pointsmanref01_Do_o14.f (k + 1) a0 a1 a2 a3 a4 a5 a6 a7 a8) := by
  intro a0 a1 a2 a3 a4 a5 a6 a7 a8 k
  obtain ⟨ih0, ih1⟩ := pointsmanref01_Do_o14.mono_l k
  unfold pointsmanref01_Do_o14.f
  repeat' first
      | (with_reducible exact ih0 _ _ _ _ _ _ _ _)
      | (with_reducible exact ih1 _ _ _ _ _ _ _)
      | (with_reducible exact pointsmanref01_Bits.mono _ _ _ _)
      | (with_reducible exact pointsmanref01_Check.mono _ _ _ _)
      | (with_reducible exact pointsmanref01_Number.mono _ _)
      | (with_reducible exact pointsmanref01_two.mono _ _)
      | (with_reducible exact LeO.refl _)
      | (with_reducible exact LeO.none _)
      | (with_reducible refine LeO.ite ?_ ?_)
      | (with_reducible refine LeO.bind ?_ (fun _ => ?_))
      | exact ih0 _ _ _ _ _ _ _ _
      | exact ih1 _ _ _ _ _ _ _
      | exact pointsmanref01_Bits.mono _ _ _ _
      | exact pointsmanref01_Check.mono _ _ _ _
      | exact pointsmanref01_Number.mono _ _
      | exact pointsmanref01_two.mono _ _
      | exact LeO.none _
      | refine LeO.ite ?_ ?_
      | refine LeO.bind ?_ (fun _ => ?_)
set_option maxHeartbeats 8000000 in
set_option maxRecDepth 100000 in
theorem pointsmanref01_Do_o14.calls (k : Nat) (a0 : Int) (a1_0 : Int) (a1_1 : Int) (a1_2 : Int) (a2_0 : Int) (a2_1 : Int) (a2_2 : Int) (a3 : Int) (a4 : Int) (r1 : Int) (r2 : Int) (r3 : Int) (r4 : Int) (w : World) (h0_ : a0 = 14) (h : pointsmanref01_Do_o14.f k a0 a1_0 a1_1 a1_2 a2_0 a2_1 a2_2 a3 a4 = some (r1, r2, r3, r4)) :
    Calls Try.prog 10 #[.int .u8 a0, .agg #[.int .i64 a1_0, .int .u64 a1_1, .int .u64 a1_2], .agg #[.int .i64 a2_0, .int .u64 a2_1, .int .u64 a2_2], .int .i64 a3, .int .i64 a4] w fun e w' => e = .returned (.tuple #[.agg #[.int .i64 r1, .int .u64 r2, .int .u64 r3], .int .i64 r4]) ∧ Below w.heap.size w w' := by
  subst h0_
  have hu24 := Try.underlying24
  have HB := Aside0.mk (Below.refl w.heap.size w)
  have H : ((pointsmanref01_two.f k 14).bind fun bt336 => (if bt336.1 = true then ((pointsmanref01_Check.f k a1_0 a1_1 a1_2).bind fun t338 => (if t338 = true then ((pointsmanref01_Check.f k a2_0 a2_1 a2_2).bind fun t339 => (pointsmanref01_Do_o14.j0 k bt336.2 (!t339) a1_0 a1_1 a1_2 a2_0 a2_1 a2_2)) else (pointsmanref01_Do_o14.j0 k bt336.2 true a1_0 a1_1 a1_2 a2_0 a2_1 a2_2))) else (none))) = some (r1, r2, r3, r4) := h
  clear h
  replace H := Option.bind_eq_some_iff.mp H
  obtain ⟨⟨t336, t337⟩, A60, H⟩ := H
  replace H : (if t336 = true then ((pointsmanref01_Check.f k a1_0 a1_1 a1_2).bind fun t338 => (if t338 = true then ((pointsmanref01_Check.f k a2_0 a2_1 a2_2).bind fun t339 => (pointsmanref01_Do_o14.j0 k t337 (!t339) a1_0 a1_1 a1_2 a2_0 a2_1 a2_2)) else (pointsmanref01_Do_o14.j0 k t337 true a1_0 a1_1 a1_2 a2_0 a2_1 a2_2))) else (none)) = some (r1, r2, r3, r4) := H
  have A6 := Aside0.mk A60
  clear A60
  have HC7 := Aside0.mk H
  clear H
  go_enter Try.func10, Try.ntmps10
  go_upto_region 2 with (first | ((with_reducible refine gate_dst (N := 6) rfl ?_); refine box_event ?hg (N := 6) ?hd (cs := #[.int .i64 a1_0, .int .u64 a1_1, .int .u64 a1_2]) (t := 24) ?hr ?_; (case hd => rfl); (case hg => rfl); (case hr => first | (go_simp; done) | (go_simp; rfl)); intro gb333 hg w8 hbox hb; have n0_ := Aside0.mk (below_step (by repeat (first | (with_reducible first | exact HB.out | apply below_alloc | apply pw_below_drewN | apply below_drew1) | exact HB.out)) hb); have n1_ := Aside0.mk (hbox); have n2_ := Aside0.mk ((by rw [hg]; exact (below_size (by repeat (first | (with_reducible first | exact HB.out | apply below_alloc | apply pw_below_drewN | apply below_drew1) | exact HB.out))) : w.heap.size ≤ gb333)); have n3_ := Aside0.mk ((by rw [hg]; exact (below_size (by repeat (first | (with_reducible first | exact HB.out | apply below_alloc | apply pw_below_drewN | apply below_drew1) | exact HB.out))) : w.heap.size ≤ gb333)); clear HB; have HB := n0_; have BK333 := n1_; have GW333 := n2_; have GE333 := n3_; clear n0_ n1_ n2_ n3_; clear hb hbox hg) | ((with_reducible refine gate_dst (N := 7) rfl ?_); refine box_event ?hg (N := 7) ?hd (cs := #[.int .i64 a2_0, .int .u64 a2_1, .int .u64 a2_2]) (t := 24) ?hr ?_; (case hd => rfl); (case hg => rfl); (case hr => first | (go_simp; done) | (go_simp; rfl)); intro gb334 hg w9 hbox hb; have n0_ := Aside0.mk (blk_below (g := gb333) (o := .cells #[.int .i64 a1_0, .int .u64 a1_1, .int .u64 a1_2] 24 (0, 0)) (by (with_reducible repeat (first | refine blk_drewN ?_ _ | refine blk_drew ?_ | refine blk_alloc ?_ _)); exact BK333.out) hb); have n1_ := Aside0.mk (below_step (by repeat (first | (with_reducible first | exact HB.out | apply below_alloc | apply pw_below_drewN | apply below_drew1 | refine below_set ?_ GE333.out) | exact HB.out)) hb); have n2_ := Aside0.mk (hbox); have n3_ := Aside0.mk ((by rw [hg]; exact (below_size (by repeat (first | (with_reducible first | exact HB.out | apply below_alloc | apply pw_below_drewN | apply below_drew1 | refine below_set ?_ GE333.out) | exact HB.out))) : w.heap.size ≤ gb334)); have n4_ := Aside0.mk ((by rw [hg]; exact (below_size (by repeat (first | (with_reducible first | exact HB.out | apply below_alloc | apply pw_below_drewN | apply below_drew1 | refine below_set ?_ GE333.out) | exact HB.out))) : w.heap.size ≤ gb334)); have n5_ := Aside0.mk ((by rw [hg]; exact Nat.ne_of_lt (blk_lt (g := gb333) (o := .cells #[.int .i64 a1_0, .int .u64 a1_1, .int .u64 a1_2] 24 (0, 0)) (by (with_reducible repeat (first | refine blk_drewN ?_ _ | refine blk_drew ?_ | refine blk_alloc ?_ _)); exact BK333.out)) : gb333 ≠ gb334)); have n6_ := Aside0.mk ((by rw [hg]; exact Nat.ne_of_gt (blk_lt (g := gb333) (o := .cells #[.int .i64 a1_0, .int .u64 a1_1, .int .u64 a1_2] 24 (0, 0)) (by (with_reducible repeat (first | refine blk_drewN ?_ _ | refine blk_drew ?_ | refine blk_alloc ?_ _)); exact BK333.out)) : gb334 ≠ gb333)); clear BK333; clear HB; have BK333 := n0_; have HB := n1_; have BK334 := n2_; have GW334 := n3_; have GE334 := n4_; have NB333_334 := n5_; have NB334_333 := n6_; clear n0_ n1_ n2_ n3_ n4_ n5_ n6_; clear hb hbox hg) | ((with_reducible refine gate_dst (N := 10) rfl ?_); refine box_event ?hg (N := 10) ?hd (cs := #[.int .i64 0, .int .u64 0, .int .u64 0]) (t := 24) ?hr ?_; (case hd => rfl); (case hg => rfl); (case hr => first | (go_simp; done) | (go_simp; rfl)); intro gb335 hg w10 hbox hb; have n0_ := Aside0.mk (blk_below (g := gb333) (o := .cells #[.int .i64 a1_0, .int .u64 a1_1, .int .u64 a1_2] 24 (0, 0)) (by (with_reducible repeat (first | refine blk_drewN ?_ _ | refine blk_drew ?_ | refine blk_alloc ?_ _)); exact BK333.out) hb); have n1_ := Aside0.mk (blk_below (g := gb334) (o := .cells #[.int .i64 a2_0, .int .u64 a2_1, .int .u64 a2_2] 24 (0, 0)) (by (with_reducible repeat (first | refine blk_drewN ?_ _ | refine blk_drew ?_ | refine blk_alloc ?_ _)); exact BK334.out) hb); have n2_ := Aside0.mk (below_step (by repeat (first | (with_reducible first | exact HB.out | apply below_alloc | apply pw_below_drewN | apply below_drew1 | refine below_set ?_ GE333.out | refine below_set ?_ GE334.out) | exact HB.out)) hb); have n3_ := Aside0.mk (hbox); have n4_ := Aside0.mk ((by rw [hg]; exact (below_size (by repeat (first | (with_reducible first | exact HB.out | apply below_alloc | apply pw_below_drewN | apply below_drew1 | refine below_set ?_ GE333.out | refine below_set ?_ GE334.out) | exact HB.out))) : w.heap.size ≤ gb335)); have n5_ := Aside0.mk ((by rw [hg]; exact (below_size (by repeat (first | (with_reducible first | exact HB.out | apply below_alloc | apply pw_below_drewN | apply below_drew1 | refine below_set ?_ GE333.out | refine below_set ?_ GE334.out) | exact HB.out))) : w.heap.size ≤ gb335)); have n6_ := Aside0.mk ((by rw [hg]; exact Nat.ne_of_lt (blk_lt (g := gb333) (o := .cells #[.int .i64 a1_0, .int .u64 a1_1, .int .u64 a1_2] 24 (0, 0)) (by (with_reducible repeat (first | refine blk_drewN ?_ _ | refine blk_drew ?_ | refine blk_alloc ?_ _)); exact BK333.out)) : gb333 ≠ gb335)); have n7_ := Aside0.mk ((by rw [hg]; exact Nat.ne_of_gt (blk_lt (g := gb333) (o := .cells #[.int .i64 a1_0, .int .u64 a1_1, .int .u64 a1_2] 24 (0, 0)) (by (with_reducible repeat (first | refine blk_drewN ?_ _ | refine blk_drew ?_ | refine blk_alloc ?_ _)); exact BK333.out)) : gb335 ≠ gb333)); have n8_ := Aside0.mk ((by rw [hg]; exact Nat.ne_of_lt (blk_lt (g := gb334) (o := .cells #[.int .i64 a2_0, .int .u64 a2_1, .int .u64 a2_2] 24 (0, 0)) (by (with_reducible repeat (first | refine blk_drewN ?_ _ | refine blk_drew ?_ | refine blk_alloc ?_ _)); exact BK334.out)) : gb334 ≠ gb335)); have n9_ := Aside0.mk ((by rw [hg]; exact Nat.ne_of_gt (blk_lt (g := gb334) (o := .cells #[.int .i64 a2_0, .int .u64 a2_1, .int .u64 a2_2] 24 (0, 0)) (by (with_reducible repeat (first | refine blk_drewN ?_ _ | refine blk_drew ?_ | refine blk_alloc ?_ _)); exact BK334.out)) : gb335 ≠ gb334)); clear BK333; clear BK334; clear HB; have BK333 := n0_; have BK334 := n1_; have HB := n2_; have BK335 := n3_; have GW335 := n4_; have GE335 := n5_; have NB333_335 := n6_; have NB335_333 := n7_; have NB334_335 := n8_; have NB335_334 := n9_; clear n0_ n1_ n2_ n3_ n4_ n5_ n6_ n7_ n8_ n9_; clear hb hbox hg) | ((with_reducible refine gate_callee (f := 18) rfl ?_); refine goesL_ (some 18) rfl rfl Try.func18 (by kernel_rfl) rfl #[.int .u8 14] rfl (by (try simp only [List.map_toArray, List.map_cons, List.map_nil]); first | done | rfl | (simp only [List.length_drop, List.length_take]; rfl)) ?_; (with_reducible refine (pointsmanref01_two.calls k 14 t336 t337 _ A6.out).mono ?_); rintro e w' ⟨rfl, ⟨nd, rfl⟩⟩; refine ⟨_, rfl, ?_⟩))
  (try simp only [Act.put, List.setIfInBounds_toArray, List.set_cons_zero, List.set_cons_succ])
  go_cut [47] (fun v47 wc => ∃ (kq : Nat) (x47_6 : Bool), v47 = .bool x47_6 ∧ Aside0 (pointsmanref01_Do_o14.j0 kq t337 x47_6 a1_0 a1_1 a1_2 a2_0 a2_1 a2_2 = some (r1, r2, r3, r4)) ∧ Aside0 (kq ≤ k) ∧ Aside0 (wc.heap[gb333]? = some (.cells #[.int .i64 a1_0, .int .u64 a1_1, .int .u64 a1_2] 24 (0, 0))) ∧ Aside0 (wc.heap[gb334]? = some (.cells #[.int .i64 a2_0, .int .u64 a2_1, .int .u64 a2_2] 24 (0, 0))) ∧ Aside0 (wc.heap[gb335]? = some (.cells #[.int .i64 0, .int .u64 0, .int .u64 0] 24 (0, 0))) ∧ Aside0 (Below w.heap.size w wc))
  case first =>
    have H := HC7.out
    clear HC7
    by_cases c11 : t336 = true
    · subst c11
      have H1 : ((pointsmanref01_Check.f k a1_0 a1_1 a1_2).bind fun t338 => (if t338 = true then ((pointsmanref01_Check.f k a2_0 a2_1 a2_2).bind fun t339 => (pointsmanref01_Do_o14.j0 k t337 (!t339) a1_0 a1_1 a1_2 a2_0 a2_1 a2_2)) else (pointsmanref01_Do_o14.j0 k t337 true a1_0 a1_1 a1_2 a2_0 a2_1 a2_2))) = some (r1, r2, r3, r4) := by rw [if_pos rfl] at H; exact H
      clear H
      have H := H1
      clear H1
      replace H := Option.bind_eq_some_iff.mp H
      obtain ⟨t338, A120, H⟩ := H
      replace H : (if t338 = true then ((pointsmanref01_Check.f k a2_0 a2_1 a2_2).bind fun t339 => (pointsmanref01_Do_o14.j0 k t337 (!t339) a1_0 a1_1 a1_2 a2_0 a2_1 a2_2)) else (pointsmanref01_Do_o14.j0 k t337 true a1_0 a1_1 a1_2 a2_0 a2_1 a2_2)) = some (r1, r2, r3, r4) := H
      have A12 := Aside0.mk A120
      clear A120
      by_cases c13 : t338 = true
      · subst c13
        have H1 : ((pointsmanref01_Check.f k a2_0 a2_1 a2_2).bind fun t339 => (pointsmanref01_Do_o14.j0 k t337 (!t339) a1_0 a1_1 a1_2 a2_0 a2_1 a2_2)) = some (r1, r2, r3, r4) := by rw [if_pos rfl] at H; exact H
        clear H
        have H := H1
        clear H1
        replace H := Option.bind_eq_some_iff.mp H
        obtain ⟨t339, A140, H⟩ := H
        replace H : (pointsmanref01_Do_o14.j0 k t337 (!t339) a1_0 a1_1 a1_2 a2_0 a2_1 a2_2) = some (r1, r2, r3, r4) := H
        have A14 := Aside0.mk A140
        clear A140
        have H' := Aside0.mk H
        clear H
        have hnb15 := NB333_334.out
        have hnc15 := NB334_333.out
        have hnb16 := NB333_335.out
        have hnc16 := NB335_333.out
        have hcz17_0 : w10.cell? ⟨gb333, 0, none⟩ = some (.int .i64 a1_0) := (blk_cell BK333.out 0).trans rfl
        have hcz17_1 : w10.cell? ⟨gb333, 1, none⟩ = some (.int .u64 a1_1) := (blk_cell BK333.out 1).trans rfl
        have hcz17_2 : w10.cell? ⟨gb333, 2, none⟩ = some (.int .u64 a1_2) := (blk_cell BK333.out 2).trans rfl
        have hfz17_0 := blk_frozen BK333.out 0
        have hfz17_1 := blk_frozen BK333.out 1
        have hfz17_2 := blk_frozen BK333.out 2
        go_wp2_with (first | (go_at_call 8; (with_reducible refine (pointsmanref01_Check.calls k a1_0 a1_1 a1_2 true _ A12.out).mono ?_); rintro e w18 ⟨rfl, hb⟩; have n0_ := Aside0.mk (blk_below (g := gb333) (o := .cells #[.int .i64 a1_0, .int .u64 a1_1, .int .u64 a1_2] 24 (0, 0)) (by (with_reducible repeat (first | refine blk_drewN ?_ _ | refine blk_drew ?_ | refine blk_alloc ?_ _)); exact BK333.out) hb); have n1_ := Aside0.mk (blk_below (g := gb334) (o := .cells #[.int .i64 a2_0, .int .u64 a2_1, .int .u64 a2_2] 24 (0, 0)) (by (with_reducible repeat (first | refine blk_drewN ?_ _ | refine blk_drew ?_ | refine blk_alloc ?_ _)); exact BK334.out) hb); have n2_ := Aside0.mk (blk_below (g := gb335) (o := .cells #[.int .i64 0, .int .u64 0, .int .u64 0] 24 (0, 0)) (by (with_reducible repeat (first | refine blk_drewN ?_ _ | refine blk_drew ?_ | refine blk_alloc ?_ _)); exact BK335.out) hb); have n3_ := Aside0.mk (below_step (by repeat (first | (with_reducible first | exact HB.out | apply below_alloc | apply pw_below_drewN | apply below_drew1 | refine below_set ?_ GE333.out | refine below_set ?_ GE334.out | refine below_set ?_ GE335.out) | exact HB.out)) hb); clear BK333; clear BK334; clear BK335; clear HB; have BK333 := n0_; have BK334 := n1_; have BK335 := n2_; have HB := n3_; clear n0_ n1_ n2_ n3_; (try clear hb); (try clear hb2); (try clear hk); (try clear hi); have hnb19 := NB334_335.out; have hnc19 := NB335_334.out; have hcz20_0 : w18.cell? ⟨gb334, 0, none⟩ = some (.int .i64 a2_0) := (blk_cell BK334.out 0).trans rfl; have hcz20_1 : w18.cell? ⟨gb334, 1, none⟩ = some (.int .u64 a2_1) := (blk_cell BK334.out 1).trans rfl; have hcz20_2 : w18.cell? ⟨gb334, 2, none⟩ = some (.int .u64 a2_2) := (blk_cell BK334.out 2).trans rfl; have hfz20_0 := blk_frozen BK334.out 0; have hfz20_1 := blk_frozen BK334.out 1; have hfz20_2 := blk_frozen BK334.out 2) | (go_at_call 8; (with_reducible refine (pointsmanref01_Check.calls k a2_0 a2_1 a2_2 t339 _ A14.out).mono ?_); rintro e w21 ⟨rfl, hb⟩; have n0_ := Aside0.mk (blk_below (g := gb333) (o := .cells #[.int .i64 a1_0, .int .u64 a1_1, .int .u64 a1_2] 24 (0, 0)) (by (with_reducible repeat (first | refine blk_drewN ?_ _ | refine blk_drew ?_ | refine blk_alloc ?_ _)); exact BK333.out) hb); have n1_ := Aside0.mk (blk_below (g := gb334) (o := .cells #[.int .i64 a2_0, .int .u64 a2_1, .int .u64 a2_2] 24 (0, 0)) (by (with_reducible repeat (first | refine blk_drewN ?_ _ | refine blk_drew ?_ | refine blk_alloc ?_ _)); exact BK334.out) hb); have n2_ := Aside0.mk (blk_below (g := gb335) (o := .cells #[.int .i64 0, .int .u64 0, .int .u64 0] 24 (0, 0)) (by (with_reducible repeat (first | refine blk_drewN ?_ _ | refine blk_drew ?_ | refine blk_alloc ?_ _)); exact BK335.out) hb); have n3_ := Aside0.mk (below_step (by repeat (first | (with_reducible first | exact HB.out | apply below_alloc | apply pw_below_drewN | apply below_drew1 | refine below_set ?_ GE333.out | refine below_set ?_ GE334.out | refine below_set ?_ GE335.out) | exact HB.out)) hb); clear BK333; clear BK334; clear BK335; clear HB; have BK333 := n0_; have BK334 := n1_; have BK335 := n2_; have HB := n3_; clear n0_ n1_ n2_ n3_; (try clear hb); (try clear hb2); (try clear hk); (try clear hi)))
        go_meet
        case rel => exact ⟨_, (!t339), (by first | rfl | (simp; done) | (simp [*]; done)), H', ⟨by first | omega | exact Nat.le_refl _⟩, ⟨by (with_reducible repeat (first | refine blk_drewN ?_ _ | refine blk_drew ?_ | refine blk_alloc ?_ _)); exact BK333.out⟩, ⟨by (with_reducible repeat (first | refine blk_drewN ?_ _ | refine blk_drew ?_ | refine blk_alloc ?_ _)); exact BK334.out⟩, ⟨by (with_reducible repeat (first | refine blk_drewN ?_ _ | refine blk_drew ?_ | refine blk_alloc ?_ _)); exact BK335.out⟩, ⟨by repeat (first | (with_reducible first | exact HB.out | apply below_alloc | apply pw_below_drewN | apply below_drew1 | refine below_set ?_ GE333.out | refine below_set ?_ GE334.out | refine below_set ?_ GE335.out) | exact HB.out)⟩⟩
      · replace c13 := Bool.eq_false_iff.mpr c13
        subst c13
        have H1 : (pointsmanref01_Do_o14.j0 k t337 true a1_0 a1_1 a1_2 a2_0 a2_1 a2_2) = some (r1, r2, r3, r4) := by rw [if_neg (show ¬ (false = true) by decide)] at H; exact H
        clear H
        have H := H1
        clear H1
        have H' := Aside0.mk H
        clear H
        have hnb22 := NB333_334.out
        have hnc22 := NB334_333.out
        have hnb23 := NB333_335.out
        have hnc23 := NB335_333.out
        have hcz24_0 : w10.cell? ⟨gb333, 0, none⟩ = some (.int .i64 a1_0) := (blk_cell BK333.out 0).trans rfl
        have hcz24_1 : w10.cell? ⟨gb333, 1, none⟩ = some (.int .u64 a1_1) := (blk_cell BK333.out 1).trans rfl
        have hcz24_2 : w10.cell? ⟨gb333, 2, none⟩ = some (.int .u64 a1_2) := (blk_cell BK333.out 2).trans rfl
        have hfz24_0 := blk_frozen BK333.out 0
        have hfz24_1 := blk_frozen BK333.out 1
        have hfz24_2 := blk_frozen BK333.out 2
        go_wp2_with (first | (go_at_call 8; (with_reducible refine (pointsmanref01_Check.calls k a1_0 a1_1 a1_2 false _ A12.out).mono ?_); rintro e w25 ⟨rfl, hb⟩; have n0_ := Aside0.mk (blk_below (g := gb333) (o := .cells #[.int .i64 a1_0, .int .u64 a1_1, .int .u64 a1_2] 24 (0, 0)) (by (with_reducible repeat (first | refine blk_drewN ?_ _ | refine blk_drew ?_ | refine blk_alloc ?_ _)); exact BK333.out) hb); have n1_ := Aside0.mk (blk_below (g := gb334) (o := .cells #[.int .i64 a2_0, .int .u64 a2_1, .int .u64 a2_2] 24 (0, 0)) (by (with_reducible repeat (first | refine blk_drewN ?_ _ | refine blk_drew ?_ | refine blk_alloc ?_ _)); exact BK334.out) hb); have n2_ := Aside0.mk (blk_below (g := gb335) (o := .cells #[.int .i64 0, .int .u64 0, .int .u64 0] 24 (0, 0)) (by (with_reducible repeat (first | refine blk_drewN ?_ _ | refine blk_drew ?_ | refine blk_alloc ?_ _)); exact BK335.out) hb); have n3_ := Aside0.mk (below_step (by repeat (first | (with_reducible first | exact HB.out | apply below_alloc | apply pw_below_drewN | apply below_drew1 | refine below_set ?_ GE333.out | refine below_set ?_ GE334.out | refine below_set ?_ GE335.out) | exact HB.out)) hb); clear BK333; clear BK334; clear BK335; clear HB; have BK333 := n0_; have BK334 := n1_; have BK335 := n2_; have HB := n3_; clear n0_ n1_ n2_ n3_; (try clear hb); (try clear hb2); (try clear hk); (try clear hi)))
        go_meet
        case rel => exact ⟨_, (true), (by first | rfl | (simp; done) | (simp [*]; done)), H', ⟨by first | omega | exact Nat.le_refl _⟩, ⟨by (with_reducible repeat (first | refine blk_drewN ?_ _ | refine blk_drew ?_ | refine blk_alloc ?_ _)); exact BK333.out⟩, ⟨by (with_reducible repeat (first | refine blk_drewN ?_ _ | refine blk_drew ?_ | refine blk_alloc ?_ _)); exact BK334.out⟩, ⟨by (with_reducible repeat (first | refine blk_drewN ?_ _ | refine blk_drew ?_ | refine blk_alloc ?_ _)); exact BK335.out⟩, ⟨by repeat (first | (with_reducible first | exact HB.out | apply below_alloc | apply pw_below_drewN | apply below_drew1 | refine below_set ?_ GE333.out | refine below_set ?_ GE334.out | refine below_set ?_ GE335.out) | exact HB.out)⟩⟩
    · replace c11 := Bool.eq_false_iff.mpr c11
      subst c11
      have H1 : (none) = some (r1, r2, r3, r4) := by rw [if_neg (show ¬ (false = true) by decide)] at H; exact H
      clear H
      have H := H1
      clear H1
      exact absurd H (by simp)
  case rest =>
    clear HC7
    try clear c1
    try clear c2
    try clear p2
    try clear c10
    try clear c11
    try clear c13
    try clear c15
    try clear c16
    try clear c18
    try clear c19
    try clear c22
    try clear c23
    try clear hcz17_0
    try clear hcz17_1
    try clear hcz17_2
    try clear hcz20_0
    try clear hcz20_1
    try clear hcz20_2
    try clear hcz24_0
    try clear hcz24_1
    try clear hcz24_2
    try clear hfz17_0
    try clear hfz17_1
    try clear hfz17_2
    try clear hfz20_0
    try clear hfz20_1
    try clear hfz20_2
    try clear hfz24_0
    try clear hfz24_1
    try clear hfz24_2
    obtain ⟨kq, x47_6, rfl, HA, HJ6, BK333, BK334, BK335, HB⟩ := hcut
    cases kq with
    | zero => exact absurd HA.out (by simp [pointsmanref01_Do_o14.j0])
    | succ kj6 =>
      have H := HA.out
      clear HA
      simp only [pointsmanref01_Do_o14.j0] at H
      by_cases c26 : x47_6 = true
      · subst c26
        have H1 : (some (0, 0, 0, 1)) = some (r1, r2, r3, r4) := by rw [if_pos rfl] at H; exact H
        clear H
        have H := H1
        clear H1
        simp only [Option.some.injEq, Prod.mk.injEq] at H
        obtain ⟨rfl, rfl, rfl, rfl⟩ := H
        have hnb27 := NB335_333.out
        have hnc27 := NB333_335.out
        have hnb28 := NB335_334.out
        have hnc28 := NB334_335.out
        have hcz29_0 : wc.cell? ⟨gb335, 0, none⟩ = some (.int .i64 0) := (blk_cell BK335.out 0).trans rfl
        have hcz29_1 : wc.cell? ⟨gb335, 1, none⟩ = some (.int .u64 0) := (blk_cell BK335.out 1).trans rfl
        have hcz29_2 : wc.cell? ⟨gb335, 2, none⟩ = some (.int .u64 0) := (blk_cell BK335.out 2).trans rfl
        have hfz29_0 := blk_frozen BK335.out 0
        have hfz29_1 := blk_frozen BK335.out 1
        have hfz29_2 := blk_frozen BK335.out 2
        go_wp2
        refine bodyPost_ret (results_ct rfl _ _ gb335 24 #[.int .i64 0, .int .u64 0, .int .u64 0] (0, 0) _ rfl (by (with_reducible repeat (first | refine blk_drewN ?_ _ | refine blk_drew ?_ | refine blk_alloc ?_ _)); refine blk_put (cs := #[.int .i64 0, .int .u64 0, .int .u64 0]) ?_ 2 _ rfl; (with_reducible repeat (first | refine blk_drewN ?_ _ | refine blk_drew ?_ | refine blk_alloc ?_ _)); refine blk_put (cs := #[.int .i64 0, .int .u64 0, .int .u64 0]) ?_ 1 _ rfl; (with_reducible repeat (first | refine blk_drewN ?_ _ | refine blk_drew ?_ | refine blk_alloc ?_ _)); refine blk_put (cs := #[.int .i64 0, .int .u64 0, .int .u64 0]) ?_ 0 _ rfl; (with_reducible repeat (first | refine blk_drewN ?_ _ | refine blk_drew ?_ | refine blk_alloc ?_ _)); exact BK335.out) Try.underlying24 rfl (by kernel_rfl)) rfl ?_
        exact ⟨by first | rfl | (simp [errW_none, errW_some] <;> rfl) | (simp [*, errW_none, errW_some] <;> rfl), by repeat (first | (with_reducible first | exact HB.out | apply below_alloc | apply pw_below_drewN | apply below_drew1 | refine below_set ?_ GE333.out | refine below_set ?_ GE334.out | refine below_set ?_ GE335.out) | exact HB.out)⟩
      · replace c26 := Bool.eq_false_iff.mpr c26
        subst c26
        have H1 : (if t337 = true then (if a1_0 = a2_0 then (if (wrap64 (a1_0 + a2_0)) > 128 then (pointsmanref01_Do_o14.j1 kj6 true a1_0 a1_1 a1_2 a2_0 a2_1 a2_2) else (pointsmanref01_Do_o14.j1 kj6 false a1_0 a1_1 a1_2 a2_0 a2_1 a2_2)) else (pointsmanref01_Do_o14.j1 kj6 true a1_0 a1_1 a1_2 a2_0 a2_1 a2_2)) else (if (wrap64 (a1_0 + a2_0)) > 128 then (pointsmanref01_Do_o14.j1 kj6 true a1_0 a1_1 a1_2 a2_0 a2_1 a2_2) else (pointsmanref01_Do_o14.j1 kj6 false a1_0 a1_1 a1_2 a2_0 a2_1 a2_2))) = some (r1, r2, r3, r4) := by rw [if_neg (show ¬ (false = true) by decide)] at H; exact H
        clear H
        have H := H1
        clear H1
        have HC30 := Aside0.mk H
        clear H
        go_upto_region 6 with (fail)
        go_cut [116] (fun v116 wc => ∃ (kq : Nat) (x116_29 : Bool), v116 = .bool x116_29 ∧ Aside0 (pointsmanref01_Do_o14.j1 kq x116_29 a1_0 a1_1 a1_2 a2_0 a2_1 a2_2 = some (r1, r2, r3, r4)) ∧ Aside0 (kq ≤ kj6) ∧ Aside0 (wc.heap[gb333]? = some (.cells #[.int .i64 a1_0, .int .u64 a1_1, .int .u64 a1_2] 24 (0, 0))) ∧ Aside0 (wc.heap[gb334]? = some (.cells #[.int .i64 a2_0, .int .u64 a2_1, .int .u64 a2_2] 24 (0, 0))) ∧ Aside0 (wc.heap[gb335]? = some (.cells #[.int .i64 0, .int .u64 0, .int .u64 0] 24 (0, 0))) ∧ Aside0 (Below w.heap.size w wc))
        case first =>
          have H := HC30.out
          clear HC30
          by_cases c31 : t337 = true
          · subst c31
            have H1 : (if a1_0 = a2_0 then (if (wrap64 (a1_0 + a2_0)) > 128 then (pointsmanref01_Do_o14.j1 kj6 true a1_0 a1_1 a1_2 a2_0 a2_1 a2_2) else (pointsmanref01_Do_o14.j1 kj6 false a1_0 a1_1 a1_2 a2_0 a2_1 a2_2)) else (pointsmanref01_Do_o14.j1 kj6 true a1_0 a1_1 a1_2 a2_0 a2_1 a2_2)) = some (r1, r2, r3, r4) := by rw [if_pos rfl] at H; exact H
            clear H
            have H := H1
            clear H1
            by_cases c32 : a1_0 = a2_0
            · rw [if_pos c32] at H
              have c32b0 : (a1_0 == a2_0) = true := beq_iff_eq.mpr c32
              have c32b1 : (a1_0 != a2_0) = false := bne_eq_false_iff_eq.mpr c32
              clear c32
              (first | rw [c32b0] | (simp only [i64_w, i32_w]; rw [c32b0]) | skip)
              by_cases c33 : (wrap64 (a1_0 + a2_0)) > 128
              · rw [if_pos c33] at H
                have c33b0 : decide (128 < (wrap64 (a1_0 + a2_0))) = true := decide_eq_true c33
                clear c33
                have H' := Aside0.mk H
                clear H
                have hnb34 := NB333_334.out
                have hnc34 := NB334_333.out
                have hnb35 := NB333_335.out
                have hnc35 := NB335_333.out
                have hcz36_0 : wc.cell? ⟨gb333, 0, none⟩ = some (.int .i64 a1_0) := (blk_cell BK333.out 0).trans rfl
                have hcz36_1 : wc.cell? ⟨gb333, 1, none⟩ = some (.int .u64 a1_1) := (blk_cell BK333.out 1).trans rfl
                have hcz36_2 : wc.cell? ⟨gb333, 2, none⟩ = some (.int .u64 a1_2) := (blk_cell BK333.out 2).trans rfl
                have hfz36_0 := blk_frozen BK333.out 0
                have hfz36_1 := blk_frozen BK333.out 1
                have hfz36_2 := blk_frozen BK333.out 2
                have hnb37 := NB334_335.out
                have hnc37 := NB335_334.out
                have hcz38_0 : wc.cell? ⟨gb334, 0, none⟩ = some (.int .i64 a2_0) := (blk_cell BK334.out 0).trans rfl
                have hcz38_1 : wc.cell? ⟨gb334, 1, none⟩ = some (.int .u64 a2_1) := (blk_cell BK334.out 1).trans rfl
                have hcz38_2 : wc.cell? ⟨gb334, 2, none⟩ = some (.int .u64 a2_2) := (blk_cell BK334.out 2).trans rfl
                have hfz38_0 := blk_frozen BK334.out 0
                have hfz38_1 := blk_frozen BK334.out 1
                have hfz38_2 := blk_frozen BK334.out 2
                go_wp2
                go_meet
                case rel => exact ⟨_, (true), (by first | rfl | (simp; done) | (simp [*]; done)), H', ⟨by have := HJ6.out; first | omega | exact Nat.le_refl _⟩, ⟨by (with_reducible repeat (first | refine blk_drewN ?_ _ | refine blk_drew ?_ | refine blk_alloc ?_ _)); exact BK333.out⟩, ⟨by (with_reducible repeat (first | refine blk_drewN ?_ _ | refine blk_drew ?_ | refine blk_alloc ?_ _)); exact BK334.out⟩, ⟨by (with_reducible repeat (first | refine blk_drewN ?_ _ | refine blk_drew ?_ | refine blk_alloc ?_ _)); exact BK335.out⟩, ⟨by repeat (first | (with_reducible first | exact HB.out | apply below_alloc | apply pw_below_drewN | apply below_drew1 | refine below_set ?_ GE333.out | refine below_set ?_ GE334.out | refine below_set ?_ GE335.out) | exact HB.out)⟩⟩
              · rw [if_neg c33] at H
                have c33b0 : decide (128 < (wrap64 (a1_0 + a2_0))) = false := decide_eq_false c33
                clear c33
                have H' := Aside0.mk H
                clear H
                have hnb39 := NB333_334.out
                have hnc39 := NB334_333.out
                have hnb40 := NB333_335.out
                have hnc40 := NB335_333.out
                have hcz41_0 : wc.cell? ⟨gb333, 0, none⟩ = some (.int .i64 a1_0) := (blk_cell BK333.out 0).trans rfl
                have hcz41_1 : wc.cell? ⟨gb333, 1, none⟩ = some (.int .u64 a1_1) := (blk_cell BK333.out 1).trans rfl
                have hcz41_2 : wc.cell? ⟨gb333, 2, none⟩ = some (.int .u64 a1_2) := (blk_cell BK333.out 2).trans rfl
                have hfz41_0 := blk_frozen BK333.out 0
                have hfz41_1 := blk_frozen BK333.out 1
                have hfz41_2 := blk_frozen BK333.out 2
                have hnb42 := NB334_335.out
                have hnc42 := NB335_334.out
                have hcz43_0 : wc.cell? ⟨gb334, 0, none⟩ = some (.int .i64 a2_0) := (blk_cell BK334.out 0).trans rfl
                have hcz43_1 : wc.cell? ⟨gb334, 1, none⟩ = some (.int .u64 a2_1) := (blk_cell BK334.out 1).trans rfl
                have hcz43_2 : wc.cell? ⟨gb334, 2, none⟩ = some (.int .u64 a2_2) := (blk_cell BK334.out 2).trans rfl
                have hfz43_0 := blk_frozen BK334.out 0
                have hfz43_1 := blk_frozen BK334.out 1
                have hfz43_2 := blk_frozen BK334.out 2
                go_wp2
                go_meet
                case rel => exact ⟨_, (false), (by first | rfl | (simp; done) | (simp [*]; done)), H', ⟨by have := HJ6.out; first | omega | exact Nat.le_refl _⟩, ⟨by (with_reducible repeat (first | refine blk_drewN ?_ _ | refine blk_drew ?_ | refine blk_alloc ?_ _)); exact BK333.out⟩, ⟨by (with_reducible repeat (first | refine blk_drewN ?_ _ | refine blk_drew ?_ | refine blk_alloc ?_ _)); exact BK334.out⟩, ⟨by (with_reducible repeat (first | refine blk_drewN ?_ _ | refine blk_drew ?_ | refine blk_alloc ?_ _)); exact BK335.out⟩, ⟨by repeat (first | (with_reducible first | exact HB.out | apply below_alloc | apply pw_below_drewN | apply below_drew1 | refine below_set ?_ GE333.out | refine below_set ?_ GE334.out | refine below_set ?_ GE335.out) | exact HB.out)⟩⟩
            · rw [if_neg c32] at H
              have c32b0 : (a1_0 == a2_0) = false := beq_eq_false_iff_ne.mpr c32
              have c32b1 : (a1_0 != a2_0) = true := bne_iff_ne.mpr c32
              (first | rw [c32b0] | (simp only [i64_w, i32_w]; rw [c32b0]) | skip)
              have H' := Aside0.mk H
              clear H
              have hnb44 := NB333_334.out
              have hnc44 := NB334_333.out
              have hnb45 := NB333_335.out
              have hnc45 := NB335_333.out
              have hcz46_0 : wc.cell? ⟨gb333, 0, none⟩ = some (.int .i64 a1_0) := (blk_cell BK333.out 0).trans rfl
              have hcz46_1 : wc.cell? ⟨gb333, 1, none⟩ = some (.int .u64 a1_1) := (blk_cell BK333.out 1).trans rfl
              have hcz46_2 : wc.cell? ⟨gb333, 2, none⟩ = some (.int .u64 a1_2) := (blk_cell BK333.out 2).trans rfl
              have hfz46_0 := blk_frozen BK333.out 0
              have hfz46_1 := blk_frozen BK333.out 1
              have hfz46_2 := blk_frozen BK333.out 2
              have hnb47 := NB334_335.out
              have hnc47 := NB335_334.out
              have hcz48_0 : wc.cell? ⟨gb334, 0, none⟩ = some (.int .i64 a2_0) := (blk_cell BK334.out 0).trans rfl
              have hcz48_1 : wc.cell? ⟨gb334, 1, none⟩ = some (.int .u64 a2_1) := (blk_cell BK334.out 1).trans rfl
              have hcz48_2 : wc.cell? ⟨gb334, 2, none⟩ = some (.int .u64 a2_2) := (blk_cell BK334.out 2).trans rfl
              have hfz48_0 := blk_frozen BK334.out 0
              have hfz48_1 := blk_frozen BK334.out 1
              have hfz48_2 := blk_frozen BK334.out 2
              go_wp2
              go_meet
              case rel => exact ⟨_, (true), (by first | rfl | (simp; done) | (simp [*]; done)), H', ⟨by have := HJ6.out; first | omega | exact Nat.le_refl _⟩, ⟨by (with_reducible repeat (first | refine blk_drewN ?_ _ | refine blk_drew ?_ | refine blk_alloc ?_ _)); exact BK333.out⟩, ⟨by (with_reducible repeat (first | refine blk_drewN ?_ _ | refine blk_drew ?_ | refine blk_alloc ?_ _)); exact BK334.out⟩, ⟨by (with_reducible repeat (first | refine blk_drewN ?_ _ | refine blk_drew ?_ | refine blk_alloc ?_ _)); exact BK335.out⟩, ⟨by repeat (first | (with_reducible first | exact HB.out | apply below_alloc | apply pw_below_drewN | apply below_drew1 | refine below_set ?_ GE333.out | refine below_set ?_ GE334.out | refine below_set ?_ GE335.out) | exact HB.out)⟩⟩
          · replace c31 := Bool.eq_false_iff.mpr c31
            subst c31
            have H1 : (if (wrap64 (a1_0 + a2_0)) > 128 then (pointsmanref01_Do_o14.j1 kj6 true a1_0 a1_1 a1_2 a2_0 a2_1 a2_2) else (pointsmanref01_Do_o14.j1 kj6 false a1_0 a1_1 a1_2 a2_0 a2_1 a2_2)) = some (r1, r2, r3, r4) := by rw [if_neg (show ¬ (false = true) by decide)] at H; exact H
            clear H
            have H := H1
            clear H1
            by_cases c49 : (wrap64 (a1_0 + a2_0)) > 128
            · rw [if_pos c49] at H
              have c49b0 : decide (128 < (wrap64 (a1_0 + a2_0))) = true := decide_eq_true c49
              clear c49
              have H' := Aside0.mk H
              clear H
              have hnb50 := NB333_334.out
              have hnc50 := NB334_333.out
              have hnb51 := NB333_335.out
              have hnc51 := NB335_333.out
              have hcz52_0 : wc.cell? ⟨gb333, 0, none⟩ = some (.int .i64 a1_0) := (blk_cell BK333.out 0).trans rfl
              have hcz52_1 : wc.cell? ⟨gb333, 1, none⟩ = some (.int .u64 a1_1) := (blk_cell BK333.out 1).trans rfl
              have hcz52_2 : wc.cell? ⟨gb333, 2, none⟩ = some (.int .u64 a1_2) := (blk_cell BK333.out 2).trans rfl
              have hfz52_0 := blk_frozen BK333.out 0
              have hfz52_1 := blk_frozen BK333.out 1
              have hfz52_2 := blk_frozen BK333.out 2
              have hnb53 := NB334_335.out
              have hnc53 := NB335_334.out
              have hcz54_0 : wc.cell? ⟨gb334, 0, none⟩ = some (.int .i64 a2_0) := (blk_cell BK334.out 0).trans rfl
              have hcz54_1 : wc.cell? ⟨gb334, 1, none⟩ = some (.int .u64 a2_1) := (blk_cell BK334.out 1).trans rfl
              have hcz54_2 : wc.cell? ⟨gb334, 2, none⟩ = some (.int .u64 a2_2) := (blk_cell BK334.out 2).trans rfl
              have hfz54_0 := blk_frozen BK334.out 0
              have hfz54_1 := blk_frozen BK334.out 1
              have hfz54_2 := blk_frozen BK334.out 2
              go_wp2
              go_meet
              case rel => exact ⟨_, (true), (by first | rfl | (simp; done) | (simp [*]; done)), H', ⟨by have := HJ6.out; first | omega | exact Nat.le_refl _⟩, ⟨by (with_reducible repeat (first | refine blk_drewN ?_ _ | refine blk_drew ?_ | refine blk_alloc ?_ _)); exact BK333.out⟩, ⟨by (with_reducible repeat (first | refine blk_drewN ?_ _ | refine blk_drew ?_ | refine blk_alloc ?_ _)); exact BK334.out⟩, ⟨by (with_reducible repeat (first | refine blk_drewN ?_ _ | refine blk_drew ?_ | refine blk_alloc ?_ _)); exact BK335.out⟩, ⟨by repeat (first | (with_reducible first | exact HB.out | apply below_alloc | apply pw_below_drewN | apply below_drew1 | refine below_set ?_ GE333.out | refine below_set ?_ GE334.out | refine below_set ?_ GE335.out) | exact HB.out)⟩⟩
            · rw [if_neg c49] at H
              have c49b0 : decide (128 < (wrap64 (a1_0 + a2_0))) = false := decide_eq_false c49
              clear c49
              have H' := Aside0.mk H
              clear H
              have hnb55 := NB333_334.out
              have hnc55 := NB334_333.out
              have hnb56 := NB333_335.out
              have hnc56 := NB335_333.out
              have hcz57_0 : wc.cell? ⟨gb333, 0, none⟩ = some (.int .i64 a1_0) := (blk_cell BK333.out 0).trans rfl
              have hcz57_1 : wc.cell? ⟨gb333, 1, none⟩ = some (.int .u64 a1_1) := (blk_cell BK333.out 1).trans rfl
              have hcz57_2 : wc.cell? ⟨gb333, 2, none⟩ = some (.int .u64 a1_2) := (blk_cell BK333.out 2).trans rfl
              have hfz57_0 := blk_frozen BK333.out 0
              have hfz57_1 := blk_frozen BK333.out 1
              have hfz57_2 := blk_frozen BK333.out 2
              have hnb58 := NB334_335.out
              have hnc58 := NB335_334.out
              have hcz59_0 : wc.cell? ⟨gb334, 0, none⟩ = some (.int .i64 a2_0) := (blk_cell BK334.out 0).trans rfl
              have hcz59_1 : wc.cell? ⟨gb334, 1, none⟩ = some (.int .u64 a2_1) := (blk_cell BK334.out 1).trans rfl
              have hcz59_2 : wc.cell? ⟨gb334, 2, none⟩ = some (.int .u64 a2_2) := (blk_cell BK334.out 2).trans rfl
              have hfz59_0 := blk_frozen BK334.out 0
              have hfz59_1 := blk_frozen BK334.out 1
              have hfz59_2 := blk_frozen BK334.out 2
              go_wp2
              go_meet
              case rel => exact ⟨_, (false), (by first | rfl | (simp; done) | (simp [*]; done)), H', ⟨by have := HJ6.out; first | omega | exact Nat.le_refl _⟩, ⟨by (with_reducible repeat (first | refine blk_drewN ?_ _ | refine blk_drew ?_ | refine blk_alloc ?_ _)); exact BK333.out⟩, ⟨by (with_reducible repeat (first | refine blk_drewN ?_ _ | refine blk_drew ?_ | refine blk_alloc ?_ _)); exact BK334.out⟩, ⟨by (with_reducible repeat (first | refine blk_drewN ?_ _ | refine blk_drew ?_ | refine blk_alloc ?_ _)); exact BK335.out⟩, ⟨by repeat (first | (with_reducible first | exact HB.out | apply below_alloc | apply pw_below_drewN | apply below_drew1 | refine below_set ?_ GE333.out | refine below_set ?_ GE334.out | refine below_set ?_ GE335.out) | exact HB.out)⟩⟩
        case rest =>
          clear HC30
          try clear c1
          try clear c2
          try clear p2
          try clear c3
          try clear c4
          try clear c5
          try clear p6
          try clear c10
          try clear c11
          try clear c13
          try clear c15
          try clear c16
          try clear c18
          try clear c19
          try clear c22
          try clear c23
          try clear c26
          try clear c27
          try clear c28
          try clear c31
          try clear c32
          try clear c32b0
          try clear c32b1
          try clear c33
          try clear c33b0
          try clear c34
          try clear c35
          try clear c37
          try clear c39
          try clear c40
          try clear c42
          try clear c44
          try clear c45
          try clear c47
          try clear c49
          try clear c49b0
          try clear c50
          try clear c51
          try clear c53
          try clear c55
          try clear c56
          try clear c58
          try clear hcz17_0
          try clear hcz17_1
          try clear hcz17_2
          try clear hcz20_0
          try clear hcz20_1
          try clear hcz20_2
          try clear hcz24_0
          try clear hcz24_1
          try clear hcz24_2
          try clear hcz29_0
          try clear hcz29_1
          try clear hcz29_2
          try clear hcz36_0
          try clear hcz36_1
          try clear hcz36_2
          try clear hcz38_0
          try clear hcz38_1
          try clear hcz38_2
          try clear hcz41_0
          try clear hcz41_1
          try clear hcz41_2
          try clear hcz43_0
          try clear hcz43_1
          try clear hcz43_2
          try clear hcz46_0
          try clear hcz46_1
          try clear hcz46_2
          try clear hcz48_0
          try clear hcz48_1
          try clear hcz48_2
          try clear hcz52_0
          try clear hcz52_1
          try clear hcz52_2
          try clear hcz54_0
          try clear hcz54_1
          try clear hcz54_2
          try clear hcz57_0
          try clear hcz57_1
          try clear hcz57_2
          try clear hcz59_0
          try clear hcz59_1
          try clear hcz59_2
          try clear hfz17_0
          try clear hfz17_1
          try clear hfz17_2
          try clear hfz20_0
          try clear hfz20_1
          try clear hfz20_2
          try clear hfz24_0
          try clear hfz24_1
          try clear hfz24_2
          try clear hfz29_0
          try clear hfz29_1
          try clear hfz29_2
          try clear hfz36_0
          try clear hfz36_1
          try clear hfz36_2
          try clear hfz38_0
          try clear hfz38_1
          try clear hfz38_2
          try clear hfz41_0
          try clear hfz41_1
          try clear hfz41_2
          try clear hfz43_0
          try clear hfz43_1
          try clear hfz43_2
          try clear hfz46_0
          try clear hfz46_1
          try clear hfz46_2
          try clear hfz48_0
          try clear hfz48_1
          try clear hfz48_2
          try clear hfz52_0
          try clear hfz52_1
          try clear hfz52_2
          try clear hfz54_0
          try clear hfz54_1
          try clear hfz54_2
          try clear hfz57_0
          try clear hfz57_1
          try clear hfz57_2
          try clear hfz59_0
          try clear hfz59_1
          try clear hfz59_2
          try clear p2
          obtain ⟨kq, x116_29, rfl, HA, HJ29, BK333, BK334, BK335, HB⟩ := hcut
          cases kq with
          | zero => exact absurd HA.out (by simp [pointsmanref01_Do_o14.j1])
          | succ kj29 =>
            have H := HA.out
            clear HA
            simp only [pointsmanref01_Do_o14.j1] at H
            by_cases c60 : x116_29 = true
            · subst c60
              have H1 : (some (0, 0, 0, 7)) = some (r1, r2, r3, r4) := by rw [if_pos rfl] at H; exact H
              clear H
              have H := H1
              clear H1
              simp only [Option.some.injEq, Prod.mk.injEq] at H
              obtain ⟨rfl, rfl, rfl, rfl⟩ := H
              have hnb61 := NB335_333.out
              have hnc61 := NB333_335.out
              have hnb62 := NB335_334.out
              have hnc62 := NB334_335.out
              have hcz63_0 : wc.cell? ⟨gb335, 0, none⟩ = some (.int .i64 0) := (blk_cell BK335.out 0).trans rfl
              have hcz63_1 : wc.cell? ⟨gb335, 1, none⟩ = some (.int .u64 0) := (blk_cell BK335.out 1).trans rfl
              have hcz63_2 : wc.cell? ⟨gb335, 2, none⟩ = some (.int .u64 0) := (blk_cell BK335.out 2).trans rfl
              have hfz63_0 := blk_frozen BK335.out 0
              have hfz63_1 := blk_frozen BK335.out 1
              have hfz63_2 := blk_frozen BK335.out 2
              go_wp2
              refine bodyPost_ret (results_ct rfl _ _ gb335 24 #[.int .i64 0, .int .u64 0, .int .u64 0] (0, 0) _ rfl (by (with_reducible repeat (first | refine blk_drewN ?_ _ | refine blk_drew ?_ | refine blk_alloc ?_ _)); refine blk_put (cs := #[.int .i64 0, .int .u64 0, .int .u64 0]) ?_ 2 _ rfl; (with_reducible repeat (first | refine blk_drewN ?_ _ | refine blk_drew ?_ | refine blk_alloc ?_ _)); refine blk_put (cs := #[.int .i64 0, .int .u64 0, .int .u64 0]) ?_ 1 _ rfl; (with_reducible repeat (first | refine blk_drewN ?_ _ | refine blk_drew ?_ | refine blk_alloc ?_ _)); refine blk_put (cs := #[.int .i64 0, .int .u64 0, .int .u64 0]) ?_ 0 _ rfl; (with_reducible repeat (first | refine blk_drewN ?_ _ | refine blk_drew ?_ | refine blk_alloc ?_ _)); exact BK335.out) Try.underlying24 rfl (by kernel_rfl)) rfl ?_
              exact ⟨by first | rfl | (simp [errW_none, errW_some] <;> rfl) | (simp [*, errW_none, errW_some] <;> rfl), by repeat (first | (with_reducible first | exact HB.out | apply below_alloc | apply pw_below_drewN | apply below_drew1 | refine below_set ?_ GE333.out | refine below_set ?_ GE334.out | refine below_set ?_ GE335.out) | exact HB.out)⟩
            · replace c60 := Bool.eq_false_iff.mpr c60
              subst c60
              have H1 : ((pointsmanref01_Bits.f kj29 a1_0 a1_1 a1_2).bind fun t340 => ((pointsmanref01_Bits.f kj29 a2_0 a2_1 a2_2).bind fun t343 => (if t343.length + t340.length < 140737488355328 then ((pointsmanref01_Number.f kj29 (t343 ++ t340)).bind fun bt349 => (some (bt349.1, bt349.2.1, bt349.2.2, 0))) else (none)))) = some (r1, r2, r3, r4) := by rw [if_neg (show ¬ (false = true) by decide)] at H; exact H
              clear H
              have H := H1
              clear H1
              replace H := Option.bind_eq_some_iff.mp H
              obtain ⟨t340, A640, H⟩ := H
              replace H : ((pointsmanref01_Bits.f kj29 a2_0 a2_1 a2_2).bind fun t343 => (if t343.length + t340.length < 140737488355328 then ((pointsmanref01_Number.f kj29 (t343 ++ t340)).bind fun bt349 => (some (bt349.1, bt349.2.1, bt349.2.2, 0))) else (none))) = some (r1, r2, r3, r4) := H
              have A64 := Aside0.mk A640
              clear A640
              replace H := Option.bind_eq_some_iff.mp H
              obtain ⟨t343, A650, H⟩ := H
              replace H : (if t343.length + t340.length < 140737488355328 then ((pointsmanref01_Number.f kj29 (t343 ++ t340)).bind fun bt349 => (some (bt349.1, bt349.2.1, bt349.2.2, 0))) else (none)) = some (r1, r2, r3, r4) := H
              have A65 := Aside0.mk A650
              clear A650
              by_cases c66 : t343.length + t340.length < 140737488355328
              · rw [if_pos c66] at H
                have LMc66 := Aside0.mk c66
                clear c66
                obtain ⟨y346, hy346⟩ : ∃ y_ : List Bool, y_ = (t343 ++ t340) := ⟨_, rfl⟩
                replace H : ((pointsmanref01_Number.f kj29 y346).bind fun bt349 => (some (bt349.1, bt349.2.1, bt349.2.2, 0))) = some (r1, r2, r3, r4) := by first | (rw [hy346]; with_reducible exact H) | (have H2_ := (Option.bind_some _ _).symm.trans H; rw [hy346]; with_reducible exact H2_) | (have H2_ := (Option.bind_some _ _).symm.trans H; with_reducible exact H2_) | with_reducible exact H | (rw [hy346]; exact H) | exact H
                have Ny346 := Aside0.mk hy346
                clear hy346
                replace H := Option.bind_eq_some_iff.mp H
                obtain ⟨⟨t349, t350, t351⟩, A670, H⟩ := H
                replace H : (some (t349, t350, t351, 0)) = some (r1, r2, r3, r4) := H
                have A67 := Aside0.mk A670
                clear A670
                simp only [Option.some.injEq, Prod.mk.injEq] at H
                obtain ⟨rfl, rfl, rfl, rfl⟩ := H
                have hnb68 := NB333_334.out
                have hnc68 := NB334_333.out
                have hnb69 := NB333_335.out
                have hnc69 := NB335_333.out
                have hcz70_0 : wc.cell? ⟨gb333, 0, none⟩ = some (.int .i64 a1_0) := (blk_cell BK333.out 0).trans rfl
                have hcz70_1 : wc.cell? ⟨gb333, 1, none⟩ = some (.int .u64 a1_1) := (blk_cell BK333.out 1).trans rfl
                have hcz70_2 : wc.cell? ⟨gb333, 2, none⟩ = some (.int .u64 a1_2) := (blk_cell BK333.out 2).trans rfl
                have hfz70_0 := blk_frozen BK333.out 0
                have hfz70_1 := blk_frozen BK333.out 1
                have hfz70_2 := blk_frozen BK333.out 2
                go_wp2_with (first | ((with_reducible refine gate_callee (f := 14) rfl ?_); refine goesL_ (some 119) rfl rfl Try.func14 (by kernel_rfl) rfl #[.agg #[.int .i64 a1_0, .int .u64 a1_1, .int .u64 a1_2]] rfl (by (try simp only [List.map_toArray, List.map_cons, List.map_nil]); first | done | rfl | (simp only [List.length_drop, List.length_take]; rfl)) ?_; (with_reducible refine (pointsmanref01_Bits.calls kj29 a1_0 a1_1 a1_2 t340 _ A64.out).mono ?_); rintro e w71 ⟨v341, rfl, ho0, hb⟩; refine ⟨_, rfl, ?_⟩; have n0_ := Aside0.mk (Kd.R_lower ho0 (below_size (by repeat (first | (with_reducible first | exact HB.out | apply below_alloc | apply pw_below_drewN | apply below_drew1 | refine below_set ?_ GE333.out | refine below_set ?_ GE334.out | refine below_set ?_ GE335.out) | exact HB.out)))); have n1_ := Aside0.mk (blk_below (g := gb333) (o := .cells #[.int .i64 a1_0, .int .u64 a1_1, .int .u64 a1_2] 24 (0, 0)) (by (with_reducible repeat (first | refine blk_drewN ?_ _ | refine blk_drew ?_ | refine blk_alloc ?_ _)); exact BK333.out) hb); have n2_ := Aside0.mk (blk_below (g := gb334) (o := .cells #[.int .i64 a2_0, .int .u64 a2_1, .int .u64 a2_2] 24 (0, 0)) (by (with_reducible repeat (first | refine blk_drewN ?_ _ | refine blk_drew ?_ | refine blk_alloc ?_ _)); exact BK334.out) hb); have n3_ := Aside0.mk (blk_below (g := gb335) (o := .cells #[.int .i64 0, .int .u64 0, .int .u64 0] 24 (0, 0)) (by (with_reducible repeat (first | refine blk_drewN ?_ _ | refine blk_drew ?_ | refine blk_alloc ?_ _)); exact BK335.out) hb); have n4_ := Aside0.mk (below_step (by repeat (first | (with_reducible first | exact HB.out | apply below_alloc | apply pw_below_drewN | apply below_drew1 | refine below_set ?_ GE333.out | refine below_set ?_ GE334.out | refine below_set ?_ GE335.out) | exact HB.out)) hb); clear BK333; clear BK334; clear BK335; clear HB; have HO342 := n0_; have BK333 := n1_; have BK334 := n2_; have BK335 := n3_; have HB := n4_; clear n0_ n1_ n2_ n3_ n4_; (try clear hb); (try clear hb2); (try clear hk); (try clear hi); (try clear ho0); have hnb72 := NB334_335.out; have hnc72 := NB335_334.out; have hcz73_0 : w71.cell? ⟨gb334, 0, none⟩ = some (.int .i64 a2_0) := (blk_cell BK334.out 0).trans rfl; have hcz73_1 : w71.cell? ⟨gb334, 1, none⟩ = some (.int .u64 a2_1) := (blk_cell BK334.out 1).trans rfl; have hcz73_2 : w71.cell? ⟨gb334, 2, none⟩ = some (.int .u64 a2_2) := (blk_cell BK334.out 2).trans rfl; have hfz73_0 := blk_frozen BK334.out 0; have hfz73_1 := blk_frozen BK334.out 1; have hfz73_2 := blk_frozen BK334.out 2) | ((with_reducible refine gate_callee (f := 14) rfl ?_); refine goesL_ (some 121) rfl rfl Try.func14 (by kernel_rfl) rfl #[.agg #[.int .i64 a2_0, .int .u64 a2_1, .int .u64 a2_2]] rfl (by (try simp only [List.map_toArray, List.map_cons, List.map_nil]); first | done | rfl | (simp only [List.length_drop, List.length_take]; rfl)) ?_; (with_reducible refine (pointsmanref01_Bits.calls kj29 a2_0 a2_1 a2_2 t343 _ A65.out).mono ?_); rintro e w74 ⟨v344, rfl, ho0, hb⟩; refine ⟨_, rfl, ?_⟩; have n0_ := Aside0.mk (Kd.R_elder' (by (with_reducible repeat (first | apply Kd.R_alloc | apply Kd.R_drewN | apply Kd.R_drew)); exact HO342.out) (Kd.R_base ho0) hb); have n1_ := Aside0.mk (Kd.R_lower (Kd.R_new' ho0 (Kd.R_lt (by (with_reducible repeat (first | apply Kd.R_alloc | apply Kd.R_drewN | apply Kd.R_drew)); exact HO342.out))) (below_size (by repeat (first | (with_reducible first | exact HB.out | apply below_alloc | apply pw_below_drewN | apply below_drew1 | refine below_set ?_ GE333.out | refine below_set ?_ GE334.out | refine below_set ?_ GE335.out) | exact HB.out)))); have n2_ := Aside0.mk (blk_below (g := gb333) (o := .cells #[.int .i64 a1_0, .int .u64 a1_1, .int .u64 a1_2] 24 (0, 0)) (by (with_reducible repeat (first | refine blk_drewN ?_ _ | refine blk_drew ?_ | refine blk_alloc ?_ _)); exact BK333.out) hb); have n3_ := Aside0.mk (blk_below (g := gb334) (o := .cells #[.int .i64 a2_0, .int .u64 a2_1, .int .u64 a2_2] 24 (0, 0)) (by (with_reducible repeat (first | refine blk_drewN ?_ _ | refine blk_drew ?_ | refine blk_alloc ?_ _)); exact BK334.out) hb); have n4_ := Aside0.mk (blk_below (g := gb335) (o := .cells #[.int .i64 0, .int .u64 0, .int .u64 0] 24 (0, 0)) (by (with_reducible repeat (first | refine blk_drewN ?_ _ | refine blk_drew ?_ | refine blk_alloc ?_ _)); exact BK335.out) hb); have n5_ := Aside0.mk (below_step (by repeat (first | (with_reducible first | exact HB.out | apply below_alloc | apply pw_below_drewN | apply below_drew1 | refine below_set ?_ GE333.out | refine below_set ?_ GE334.out | refine below_set ?_ GE335.out) | exact HB.out)) hb); clear HO342; clear BK333; clear BK334; clear BK335; clear HB; have HO342 := n0_; have HO345 := n1_; have BK333 := n2_; have BK334 := n3_; have BK335 := n4_; have HB := n5_; clear n0_ n1_ n2_ n3_ n4_ n5_; (try clear hb); (try clear hb2); (try clear hk); (try clear hi); (try clear ho0); obtain ⟨Ao76, co76, eo76⟩ := Kd.R_slice HO342.out; subst eo76) | ((with_reducible refine gate_builtin (b := .append) (xs := #[.tmp 175, .tmp 176]) rfl ?_); at_builtin; refine Kd.R_append_rows Kd.bool (w0 := w) w.heap.size rfl (.tmp 175) (.tmp 176) 38 4 (.bool false) 1 rfl Try.underlying38 info4 rfl (by decide) (by omega) v344 t343 t340 _ _ _ (fun k_ => some k_ ≠ (.slice Ao76 t340.length co76 : Value).ownBlock) (fun _ => False) rfl rfl ?aO ?aR (fun _ _ h => h) (fun _ h => h.elim) ?aF ?aB ?aS ?aL ?_; (case aR => repeat (first | exact (Kd.R_reads' HO342.out).2.2 | (with_reducible refine Kd.C_alloc ?_ _) | (with_reducible refine Kd.C_drewN ?_ _) | (with_reducible refine Kd.C_drew ?_))); (case aB => exact (by repeat (first | (with_reducible first | exact HB.out | apply below_alloc | apply pw_below_drewN | apply below_drew1 | refine below_set ?_ GE333.out | refine below_set ?_ GE334.out | refine below_set ?_ GE335.out) | exact HB.out))); (case aF => exact (fun k_ hk => Kd.fresh' (Kd.R_lt (by (with_reducible repeat (first | apply Kd.R_alloc | apply Kd.R_drewN | apply Kd.R_drew)); exact HO342.out)) k_ hk)); (case aO => exact (by (with_reducible repeat (first | apply Kd.R_alloc | apply Kd.R_drewN | apply Kd.R_drew)); exact Kd.R_mono HO345.out (fun _ hk => hk.2))); (case aS => exact (below_size (by repeat (first | (with_reducible first | exact HB.out | apply below_alloc | apply pw_below_drewN | apply below_drew1 | refine below_set ?_ GE333.out | refine below_set ?_ GE334.out | refine below_set ?_ GE335.out) | exact HB.out)))); (case aL => have := LMc66.out; omega); intro v347 w75 ho hb hg hat; rw [← Ny346.out] at ho; have n0_ := Aside0.mk (blk_grown (g := gb333) (o := .cells #[.int .i64 a1_0, .int .u64 a1_1, .int .u64 a1_2] 24 (0, 0)) (by (with_reducible repeat (first | refine blk_drewN ?_ _ | refine blk_drew ?_ | refine blk_alloc ?_ _)); exact BK333.out) hg (Kd.R_ne HO345.out BK333.out (by decide))); have n1_ := Aside0.mk (blk_grown (g := gb334) (o := .cells #[.int .i64 a2_0, .int .u64 a2_1, .int .u64 a2_2] 24 (0, 0)) (by (with_reducible repeat (first | refine blk_drewN ?_ _ | refine blk_drew ?_ | refine blk_alloc ?_ _)); exact BK334.out) hg (Kd.R_ne HO345.out BK334.out (by decide))); have n2_ := Aside0.mk (blk_grown (g := gb335) (o := .cells #[.int .i64 0, .int .u64 0, .int .u64 0] 24 (0, 0)) (by (with_reducible repeat (first | refine blk_drewN ?_ _ | refine blk_drew ?_ | refine blk_alloc ?_ _)); exact BK335.out) hg (Kd.R_ne HO345.out BK335.out (by decide))); have n3_ := Aside0.mk (Kd.R_after (ok := (fun _ => True)) (by (with_reducible repeat (first | apply Kd.R_alloc | apply Kd.R_drewN | apply Kd.R_drew)); exact HO342.out) hg hat); have n4_ := Aside0.mk (hb); have n5_ := Aside0.mk (ho); clear BK333; clear BK334; clear BK335; clear HO342; clear HB; clear HO345; have BK333 := n0_; have BK334 := n1_; have BK335 := n2_; have HO342 := n3_; have HB := n4_; have HO348 := n5_; clear n0_ n1_ n2_ n3_ n4_ n5_; clear ho hb hg hat; obtain ⟨Ao77, co77, eo77⟩ := Kd.R_slice HO348.out; subst eo77) | ((with_reducible refine gate_callee (f := 13) rfl ?_); refine goesL_ (some 234) rfl rfl Try.func13 (by kernel_rfl) rfl #[.slice Ao77 y346.length co77] rfl (by (try simp only [List.map_toArray, List.map_cons, List.map_nil]); first | done | rfl | (simp only [List.length_drop, List.length_take]; rfl)) ?_; (with_reducible refine (pointsmanref01_Number.calls kj29 _ _ y346 t349 t350 t351 _ ?side1 ?side2 A67.out).mono ?_); (case side1 => repeat (first | exact (Kd.R_reads' HO348.out).2.2 | (with_reducible refine Kd.C_alloc ?_ _) | (with_reducible refine Kd.C_drewN ?_ _) | (with_reducible refine Kd.C_drew ?_))); (case side2 => exact (Kd.R_reads' HO348.out).2.1); rintro e w78 ⟨rfl, hb⟩; refine ⟨_, rfl, ?_⟩; have n0_ := Aside0.mk (Kd.R_below (by (with_reducible repeat (first | apply Kd.R_alloc | apply Kd.R_drewN | apply Kd.R_drew)); exact HO342.out) hb); have n1_ := Aside0.mk (Kd.R_below (by (with_reducible repeat (first | apply Kd.R_alloc | apply Kd.R_drewN | apply Kd.R_drew)); exact HO348.out) hb); have n2_ := Aside0.mk (blk_below (g := gb333) (o := .cells #[.int .i64 a1_0, .int .u64 a1_1, .int .u64 a1_2] 24 (0, 0)) (by (with_reducible repeat (first | refine blk_drewN ?_ _ | refine blk_drew ?_ | refine blk_alloc ?_ _)); exact BK333.out) hb); have n3_ := Aside0.mk (blk_below (g := gb334) (o := .cells #[.int .i64 a2_0, .int .u64 a2_1, .int .u64 a2_2] 24 (0, 0)) (by (with_reducible repeat (first | refine blk_drewN ?_ _ | refine blk_drew ?_ | refine blk_alloc ?_ _)); exact BK334.out) hb); have n4_ := Aside0.mk (blk_below (g := gb335) (o := .cells #[.int .i64 0, .int .u64 0, .int .u64 0] 24 (0, 0)) (by (with_reducible repeat (first | refine blk_drewN ?_ _ | refine blk_drew ?_ | refine blk_alloc ?_ _)); exact BK335.out) hb); have n5_ := Aside0.mk (below_step (by repeat (first | (with_reducible first | exact HB.out | apply below_alloc | apply pw_below_drewN | apply below_drew1 | refine below_set ?_ GE333.out | refine below_set ?_ GE334.out | refine below_set ?_ GE335.out) | exact HB.out)) hb); clear HO342; clear HO348; clear BK333; clear BK334; clear BK335; clear HB; have HO342 := n0_; have HO348 := n1_; have BK333 := n2_; have BK334 := n3_; have BK335 := n4_; have HB := n5_; clear n0_ n1_ n2_ n3_ n4_ n5_; (try clear hb); (try clear hb2); (try clear hk); (try clear hi); have hcz79_0 : w78.cell? ⟨gb335, 0, none⟩ = some (.int .i64 0) := (blk_cell BK335.out 0).trans rfl; have hcz79_1 : w78.cell? ⟨gb335, 1, none⟩ = some (.int .u64 0) := (blk_cell BK335.out 1).trans rfl; have hcz79_2 : w78.cell? ⟨gb335, 2, none⟩ = some (.int .u64 0) := (blk_cell BK335.out 2).trans rfl; have hfz79_0 := blk_frozen BK335.out 0; have hfz79_1 := blk_frozen BK335.out 1; have hfz79_2 := blk_frozen BK335.out 2))
                refine bodyPost_ret (results_ct rfl _ _ gb335 24 #[.int .i64 t349, .int .u64 t350, .int .u64 t351] (0, 0) _ rfl (by (with_reducible repeat (first | refine blk_drewN ?_ _ | refine blk_drew ?_ | refine blk_alloc ?_ _)); refine blk_put (cs := #[.int .i64 t349, .int .u64 t350, .int .u64 0]) ?_ 2 _ rfl; (with_reducible repeat (first | refine blk_drewN ?_ _ | refine blk_drew ?_ | refine blk_alloc ?_ _)); refine blk_put (cs := #[.int .i64 t349, .int .u64 0, .int .u64 0]) ?_ 1 _ rfl; (with_reducible repeat (first | refine blk_drewN ?_ _ | refine blk_drew ?_ | refine blk_alloc ?_ _)); refine blk_put (cs := #[.int .i64 0, .int .u64 0, .int .u64 0]) ?_ 0 _ rfl; (with_reducible repeat (first | refine blk_drewN ?_ _ | refine blk_drew ?_ | refine blk_alloc ?_ _)); exact BK335.out) Try.underlying24 rfl (by kernel_rfl)) rfl ?_
                exact ⟨by first | rfl | (simp [errW_none, errW_some] <;> rfl) | (simp [*, errW_none, errW_some] <;> rfl), by repeat (first | (with_reducible first | exact HB.out | apply below_alloc | apply pw_below_drewN | apply below_drew1 | refine below_set ?_ GE333.out | refine below_set ?_ GE334.out | refine below_set ?_ GE335.out) | exact HB.out)⟩
              · rw [if_neg c66] at H
                exact absurd H (by simp)

end Go.Proofs.Ythhlnghpbjmfpaa.PTry
