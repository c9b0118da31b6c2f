/- Numbers and bytes over data: the program's. -/
import Derived.Test.YtcaedggggkchiaaGreatDoorAbRoom
import Derived.Test.YtcaedggggkchiaaGreatDoorAbNum
namespace Go.Proofs.YtcaedggggkchiaaGreatDoor.Ln
open Go Go.RowKit Go.Ab Go.Proofs 
set_option linter.unusedVariables false
set_option linter.unusedSimpArgs false
theorem sk25 : sk Tryz.prog 25 = some (5, 1, [.int .u8 0]) := by kernel_rfl
theorem apk25 : apk Tryz.prog 25 25 = some (5, 1, 1) := by kernel_rfl
theorem sk89 : sk Tryz.prog 89 = some (4, 1, [.bool false]) := by kernel_rfl
theorem apk89 : apk Tryz.prog 89 89 = some (4, 1, 1) := by kernel_rfl
theorem sk85 : sk Tryz.prog 85 = some (3, 1, [.int .i64 0]) := by kernel_rfl
theorem en26 : enters Tryz.prog 26 = true := by kernel_rfl
theorem us3 : (Tryz.prog.underlying 3).isSome = true := by kernel_rfl
theorem un88 : Tryz.prog.underlying 88 = some (.int .u64) := by kernel_rfl
theorem en27 : enters Tryz.prog 27 = true := by kernel_rfl
theorem us22 : (Tryz.prog.underlying 22).isSome = true := by kernel_rfl
theorem un5 : Tryz.prog.underlying 5 = some (.int .u8) := by kernel_rfl
theorem fp24_2 : fp Tryz.prog 24 2 = some (2, false, 1) := by kernel_rfl
theorem un25 : Tryz.prog.underlying 25 = some (.slice 5) := by kernel_rfl
theorem kd5 : kd Tryz.prog 5 = some (false, 1) := by kernel_rfl
theorem un85 : Tryz.prog.underlying 85 = some (.slice 3) := by kernel_rfl
theorem us5 : (Tryz.prog.underlying 5).isSome = true := by kernel_rfl
theorem un22 : Tryz.prog.underlying 22 = some (.int .u64) := by kernel_rfl

def bytesUpto (w v j : Nat) : List Int := (List.range j).map fun k => ((v / 2 ^ (8 * ((w + 7) / 8 - 1 - k)) % 256 : Nat) : Int)
def bytesOf (w v : Nat) : List Int := bytesUpto w v ((w + 7) / 8)
theorem upto_len (w v j : Nat) : (bytesUpto w v j).length = j := by simp [bytesUpto]

/-- One byte more. -/
theorem sh8 {x : Nat} (hx : x < 2 ^ 64) : IntKind.u64.wrap ((x : Int) * 2 ^ (min ((8 : Int)).toNat IntKind.u64.bits)) = ((256 * (x % 2 ^ 56) : Nat) : Int) := by
  rw [wrap_u64]; show (x : Int) * 256 % _ = _; omega
theorem sh56 {x : Nat} (hx : x < 2 ^ 64) : ((x : Int)).fdiv (2 ^ (min ((56 : Int)).toNat IntKind.u64.bits)) = ((x / 2 ^ 56 : Nat) : Int) := by
  rw [Int.fdiv_eq_ediv_of_nonneg _ (by decide)]; show (x : Int) / 72057594037927936 = _; omega
theorem or_add8 {x y : Nat} (hy : y < 256) : (256 * x ||| y) = 256 * x + y := (Nat.two_pow_add_eq_or_of_lt (i := 8) hy x).symm
theorem byte_hi {v c : Nat} (hv : v * 256 + c < 2 ^ 128) (hc : c < 256) : Go.bits .or .u64 ((256 * (v / 2 ^ 64 % 2 ^ 56) : Nat) : Int) ((v % 2 ^ 64 / 2 ^ 56 : Nat) : Int) = hiOf (v * 256 + c) := by
  rw [or_nat (by omega) (by omega), or_add8 (by omega)]; unfold hiOf; omega
theorem byte_lo {v c : Nat} (hv : v * 256 + c < 2 ^ 128) (hc : c < 256) : Go.bits .or .u64 ((256 * (v % 2 ^ 64 % 2 ^ 56) : Nat) : Int) (c : Int) = loOf (v * 256 + c) := by
  rw [or_nat (by omega) (by omega), or_add8 hc]; unfold loOf; omega
theorem dn_hi (v n : Nat) : hiOf (v / 2 ^ n) = ((v / 2 ^ 64 / 2 ^ n : Nat) : Int) := by
  unfold hiOf; rw [Nat.div_div_eq_div_mul, Nat.div_div_eq_div_mul, Nat.mul_comm]
theorem dn_shr {n : Nat} (x : Nat) (h : n ≤ 64) : ((x : Int)).fdiv (2 ^ (min (((n : Nat) : Int)).toNat IntKind.u64.bits)) = ((x / 2 ^ n : Nat) : Int) := by
  rw [Int.toNat_natCast, show IntKind.u64.bits = 64 from rfl, Nat.min_eq_left h, Int.fdiv_eq_ediv_of_nonneg _ (Int.le_of_lt (by exact_mod_cast Nat.two_pow_pos n))]
  exact_mod_cast rfl
theorem dn_shl {n : Nat} (x : Nat) (h : n ≤ 64) : IntKind.u64.wrap ((x : Int) * 2 ^ (min (((n : Nat) : Int)).toNat IntKind.u64.bits)) = ((x * 2 ^ n % 2 ^ 64 : Nat) : Int) := by
  rw [Int.toNat_natCast, show IntKind.u64.bits = 64 from rfl, Nat.min_eq_left h, wrap_u64, show x * 2 ^ n % 2 ^ 64 = x * 2 ^ n % 18446744073709551616 from rfl, Int.natCast_emod, Int.natCast_mul, Int.natCast_pow]
  rfl
theorem dn_lo {v n : Nat} (h : n < 64) : Go.bits .or .u64 ((v % 2 ^ 64 / 2 ^ n : Nat) : Int) ((v / 2 ^ 64 * 2 ^ (64 - n) % 2 ^ 64 : Nat) : Int) = loOf (v / 2 ^ n) := by
  have hp : (2 : Nat) ^ 64 = 2 ^ (64 - n) * 2 ^ n := by rw [← Nat.pow_add]; congr 1; omega
  have hb := Nat.mod_lt v (show 0 < 2 ^ 64 by decide)
  have hv := Nat.div_add_mod v (2 ^ 64)
  have hr1 : v % 2 ^ 64 / 2 ^ n < 2 ^ 64 := Nat.lt_of_le_of_lt (Nat.div_le_self _ _) hb
  rw [or_nat hr1 (Nat.mod_lt _ (by decide))]
  unfold loOf
  congr 1
  generalize v / 2 ^ 64 = a at *
  generalize v % 2 ^ 64 = b at *
  have e1 : v / 2 ^ n = a * 2 ^ (64 - n) + b / 2 ^ n := by
    rw [← hv, hp, show 2 ^ (64 - n) * 2 ^ n * a + b = b + a * 2 ^ (64 - n) * 2 ^ n from by rw [Nat.add_comm, Nat.mul_comm (2 ^ (64 - n) * 2 ^ n), Nat.mul_assoc], Nat.add_mul_div_right _ _ (Nat.two_pow_pos n), Nat.add_comm]
  have e2 : a * 2 ^ (64 - n) % 2 ^ 64 = 2 ^ (64 - n) * (a % 2 ^ n) := by
    rw [hp, Nat.mul_comm (2 ^ (64 - n)) (2 ^ n), Nat.mul_mod_mul_right, Nat.mul_comm]
  have hr : b / 2 ^ n < 2 ^ (64 - n) := Nat.div_lt_of_lt_mul (by rw [Nat.mul_comm, ← hp]; exact hb)
  have hq := Nat.mod_lt a (Nat.two_pow_pos n)
  have hs : 2 ^ (64 - n) * (a % 2 ^ n) + b / 2 ^ n < 2 ^ 64 := by
    have h1 : 2 ^ (64 - n) * (a % 2 ^ n + 1) ≤ 2 ^ (64 - n) * 2 ^ n := Nat.mul_le_mul_left _ hq
    rw [← hp, Nat.mul_add, Nat.mul_one] at h1
    omega
  rw [e2, Nat.or_comm, ← Nat.two_pow_add_eq_or_of_lt hr, e1, Nat.add_mod, e2, Nat.mod_eq_of_lt hr1, Nat.mod_eq_of_lt hs]
theorem dn_big {v n : Nat} (h : 64 ≤ n) (hv : v < 2 ^ 128) : hiOf (v / 2 ^ n) = 0 ∧ loOf (v / 2 ^ n) = ((v / 2 ^ 64 / 2 ^ (n - 64) : Nat) : Int) := by
  obtain ⟨m, rfl⟩ : ∃ m, n = 64 + m := ⟨n - 64, by omega⟩
  rw [Nat.add_sub_cancel_left]
  have e : v / 2 ^ (64 + m) = v / 2 ^ 64 / 2 ^ m := by rw [Nat.pow_add, Nat.div_div_eq_div_mul]
  have hlt : v / 2 ^ 64 / 2 ^ m < 2 ^ 64 := Nat.lt_of_le_of_lt (Nat.div_le_self _ _) (hi_lt hv)
  rw [e]
  unfold hiOf loOf
  rw [Nat.div_eq_of_lt hlt, Nat.mod_eq_of_lt hlt]
  exact ⟨rfl, rfl⟩

/-! ### Lists of bytes -/
def Tt : World → Prop := fun _ => True
theorem gs_tt : GS Tt := fun _ _ _ _ => trivial
def byteD (n : Int) : D := .sc (.int .u8 n)
theorem byteD_one (l : List Int) : ∀ q ∈ l.map byteD, q.cells.length = 1 := by
  intro q hq
  obtain ⟨x, _, rfl⟩ := List.mem_map.mp hq
  rfl
theorem flatB : ∀ l : List Int, flat (l.map byteD) = l.map byteD
  | [] => rfl
  | x :: l => by rw [List.map_cons, show flat (byteD x :: l.map byteD) = byteD x :: flat (l.map byteD) from rfl, flatB l]
theorem flatB_plain : ∀ l : List Int, plainVs (flat (l.map byteD)) = some (l.map (Value.int .u8))
  | [] => rfl
  | x :: l => by
    rw [List.map_cons, show flat (byteD x :: l.map byteD) = byteD x :: flat (l.map byteD) from rfl, List.map_cons]
    simp only [byteD, plainVs, plainV]
    rw [flatB_plain l]
theorem flatB_len (l : List Int) : (flat (l.map byteD)).length = l.length * 1 := by rw [flatB, List.length_map, Nat.mul_one]
theorem byte_at {l : List Int} {i : Nat} {p : Int} (h : l[i]? = some p) : (l.map byteD)[((i : Int)).toNat]? = some (byteD p) := by
  rw [Int.toNat_natCast, List.getElem?_map, h]; rfl
theorem byte_lst {l : List Int} {i : Nat} {p : Int} (h : l[i]? = some p) : (l.map byteD).take (i + 1) = (l.map byteD).take i ++ [byteD p] := by
  rw [List.take_add_one, List.getElem?_map, h]; rfl
/-- Bytes: each from 0 to 255. -/
def Bs (l : List Int) : Prop := ∀ c ∈ l, 0 ≤ c ∧ c < 256
/-- The number whose bytes they are. -/
def valB (l : List Int) : Nat := l.foldl (fun v c => v * 256 + c.toNat) 0
theorem valB_step {l : List Int} {j : Nat} {c : Int} (h : l[j]? = some c) : valB (l.take (j + 1)) = valB (l.take j) * 256 + c.toNat := by
  rw [List.take_add_one, h]; simp [valB]
theorem valB_go : ∀ (l : List Int) (n : Nat), Bs l → l.foldl (fun v c => v * 256 + c.toNat) n < (n + 1) * 256 ^ l.length
  | [], n, _ => by simp
  | c :: r, n, h => by
    obtain ⟨h1, h2⟩ := h c (by simp)
    have ih := valB_go r (n * 256 + c.toNat) fun x hx => h x (by simp [hx])
    rw [List.foldl_cons, List.length_cons, Nat.pow_succ]
    refine Nat.lt_of_lt_of_le ih ?_
    rw [Nat.mul_comm (256 ^ r.length) 256, ← Nat.mul_assoc]
    exact Nat.mul_le_mul_right _ (by omega)
theorem valB_lt {l : List Int} (h : Bs l) : valB l < 256 ^ l.length := by
  have := valB_go l 0 h
  rwa [Nat.zero_add, Nat.one_mul] at this
theorem Bs_take {l : List Int} (h : Bs l) (j : Nat) : Bs (l.take j) := fun c hc => h c (List.mem_of_mem_take hc)
theorem valB_take {l : List Int} (h : Bs l) {j : Nat} (hj : j ≤ 16) : valB (l.take j) < 2 ^ 128 := by
  have h1 := valB_lt (Bs_take h j)
  have h2 : 256 ^ (l.take j).length ≤ 256 ^ 16 := Nat.pow_le_pow_right (by decide) (by rw [List.length_take]; omega)
  have h3 : (256 : Nat) ^ 16 = 2 ^ 128 := by decide
  omega
theorem valB_128 {l : List Int} (h : Bs l) (hl : l.length ≤ 16) : valB l < 2 ^ 128 := by
  have := valB_take h (j := l.length) hl
  rwa [List.take_length] at this
theorem byte_nat {l : List Int} (h : Bs l) {i : Nat} {p : Int} (hp : l[i]? = some p) : ∃ c : Nat, c < 256 ∧ p = (c : Int) := by
  obtain ⟨h1, h2⟩ := h p (List.mem_of_getElem? hp)
  exact ⟨p.toNat, by omega, by omega⟩
theorem bytes_snoc {w v j : Nat} {n : Int} (h : n = ((v / 2 ^ (8 * ((w + 7) / 8 - 1 - j)) % 256 : Nat) : Int)) : (bytesUpto w v j).map byteD ++ [D.sc (.int .u8 n)] = (bytesUpto w v (j + 1)).map byteD := by
  subst h
  unfold bytesUpto
  rw [List.range_succ, List.map_append, List.map_append]
  rfl
theorem bytes_lo {w v k : Nat} (hv : v < 2 ^ w) : IntKind.u8.wrap (loOf (v / 2 ^ k % 2 ^ w)) = ((v / 2 ^ k % 256 : Nat) : Int) := by
  have hlt : v / 2 ^ k < 2 ^ w := Nat.lt_of_le_of_lt (Nat.div_le_self _ _) hv
  rw [Nat.mod_eq_of_lt hlt, IntKind.wrap_u8]
  unfold loOf
  omega
theorem bytes_len (w v : Nat) : (bytesOf w v).length = (w + 7) / 8 := upto_len w v _
set_option maxRecDepth 100000 in
theorem down_c {w v n : Nat} (h : w ≤ 128) (hv : v < 2 ^ 128) (hn : n ≤ 128) : CallsP Tryz.prog Tt 27 [bitD w v, .sc (.int .u64 (n : Int))] (bitD w (v / 2 ^ n % 2 ^ w)) := by
  have hc := cut_c gs_tt h (Nat.lt_of_le_of_lt (Nat.div_le_self v (2 ^ n)) hv)
  refine callsP_of gs_tt Tryz.func27 rfl Tryz.ntmps27 rfl fun w0 S0 stab => ?_
  refine hits_seq ?_
  refine hits_region ?_
  refine sq (f_box rfl rfl (lt rfl)) rfl rfl ?_
  refine sq (f_alloc zc24 (lt rfl)) rfl rfl ?_
  refine hits_nil ?_
  refine to_next ?_
  refine hits_seq ?_
  refine hits_seq ?_
  by_cases h64 : 64 ≤ n
  · obtain ⟨e1, e2⟩ := dn_big h64 hv
    rw [e1, e2] at hc
    refine hits_region ?_
    refine sq (f_move rfl (lt rfl)) rfl rfl ?_
    refine sq (f_bin rfl rfl (bT (decide_eq_true (by omega))) (lt rfl)) rfl rfl ?_
    refine hits_nil ?_
    refine to_next ?_
    refine hits_cond rfl (fun c0 => ?_) (fun c0 => absurd c0 Bool.false_ne_true.symm)
    refine hits_seq ?_
    refine hits_region ?_
    refine sq (f_fieldAddr rfl kf24_0 rfl (lt rfl)) rfl rfl ?_
    refine sq (f_load kd3 rfl rfl (lt rfl)) rfl rfl ?_
    refine sq (f_fieldAddr rfl kf24_1 rfl (lt rfl)) rfl rfl ?_
    refine sq (f_load kd22 rfl rfl (lt rfl)) rfl rfl ?_
    refine sq (f_move rfl (lt rfl)) rfl rfl ?_
    refine sq (f_bin rfl rfl (iT (((wraps_u64 _ (by omega) (by omega)).trans (by omega) : _ = ((n - 64 : Nat) : Int)))) (lt rfl)) rfl rfl ?_
    refine sq (f_shrI rfl rfl (by omega) (dn_shr (v / 2 ^ 64) (by omega)) (lt rfl)) rfl rfl ?_
    refine sq (f_call en131 rfl hc (lt rfl)) rfl rfl ?_
    refine sq (f_store kd24 rfl rfl rfl rfl rfl) rfl rfl ?_
    refine hits_nil ?_
    refine to_next ?_
    refine hits_ret ?_
    refine to_ret ?_
    exact hits_done (.inl rfl) rfl rfl rfl
  · rw [dn_hi] at hc
    refine hits_region ?_
    refine sq (f_move rfl (lt rfl)) rfl rfl ?_
    refine sq (f_bin rfl rfl (bT (decide_eq_false (by omega))) (lt rfl)) rfl rfl ?_
    refine hits_nil ?_
    refine to_next ?_
    refine hits_cond rfl (fun c0 => absurd c0 Bool.false_ne_true) (fun c0 => ?_)
    refine hits_skip ?_
    refine to_next ?_
    refine hits_seq ?_
    refine hits_region ?_
    refine sq (f_fieldAddr rfl kf24_0 rfl (lt rfl)) rfl rfl ?_
    refine sq (f_load kd3 rfl rfl (lt rfl)) rfl rfl ?_
    refine sq (f_fieldAddr rfl kf24_1 rfl (lt rfl)) rfl rfl ?_
    refine sq (f_load kd22 rfl rfl (lt rfl)) rfl rfl ?_
    refine sq (f_move rfl (lt rfl)) rfl rfl ?_
    refine sq (f_shrI rfl rfl (by omega) (dn_shr (v / 2 ^ 64) (by omega)) (lt rfl)) rfl rfl ?_
    refine sq (f_fieldAddr rfl kf24_2 rfl (lt rfl)) rfl rfl ?_
    refine sq (f_load kd22 rfl rfl (lt rfl)) rfl rfl ?_
    refine sq (f_move rfl (lt rfl)) rfl rfl ?_
    refine sq (f_shrI rfl rfl (by omega) (dn_shr (v % 2 ^ 64) (by omega)) (lt rfl)) rfl rfl ?_
    refine sq (f_fieldAddr rfl kf24_1 rfl (lt rfl)) rfl rfl ?_
    refine sq (f_load kd22 rfl rfl (lt rfl)) rfl rfl ?_
    refine sq (f_move rfl (lt rfl)) rfl rfl ?_
    refine sq (f_bin rfl rfl (iT (((wraps_u64 _ (by omega) (by omega)).trans (by omega) : _ = ((64 - n : Nat) : Int)))) (lt rfl)) rfl rfl ?_
    refine sq (f_shlI rfl rfl (by omega) (dn_shl (v / 2 ^ 64) (by omega)) (lt rfl)) rfl rfl ?_
    refine sq (f_bin rfl rfl (iT ((dn_lo (by omega)))) (lt rfl)) rfl rfl ?_
    refine sq (f_call en131 rfl hc (lt rfl)) rfl rfl ?_
    refine sq (f_store kd24 rfl rfl rfl rfl rfl) rfl rfl ?_
    refine hits_nil ?_
    refine to_next ?_
    refine hits_ret ?_
    exact hits_done (.inl rfl) rfl rfl rfl

set_option maxRecDepth 100000 in
theorem bytes_n {w v : Nat} (h0 : 1 ≤ w) (h : w ≤ 128) (hv : v < 2 ^ w) : CallsN Tryz.prog Tt 9 [bitD w v] 1 (bytesOf w v).length ((bytesOf w v).map (Value.int .u8)) [.int .i64 0] := by
  have hv' := lt128 h hv
  have hck := check_c gs_tt (w : Int) hv'
  rw [chk_ok h0 h hv] at hck
  refine callsN_of gs_tt Tryz.func9 rfl Tryz.ntmps9 rfl fun w0 S0 stab => ?_
  refine hits_seq ?_
  refine hits_region ?_
  refine sq (f_box rfl rfl (lt rfl)) rfl rfl ?_
  refine sq (f_assign rfl (lt rfl)) rfl rfl ?_
  refine sq (f_assign rfl (lt rfl)) rfl rfl ?_
  refine hits_nil ?_
  refine to_next ?_
  refine hits_seq ?_
  refine hits_seq ?_
  refine hits_region ?_
  refine sq (f_load kd24 rfl rfl (lt rfl)) rfl rfl ?_
  refine sq (f_call en26 rfl hck (lt rfl)) rfl rfl ?_
  refine sq (f_un rfl rfl (lt rfl)) rfl rfl ?_
  refine hits_nil ?_
  refine to_next ?_
  refine hits_cond rfl (fun c0 => absurd c0 Bool.false_ne_true) (fun c0 => ?_)
  refine hits_skip ?_
  refine to_next ?_
  refine hits_seq ?_
  refine hits_region ?_
  refine sq (f_assign rfl (lt rfl)) rfl rfl ?_
  refine hits_nil ?_
  refine to_next ?_
  refine hits_seq ?_
  refine hits_seq ?_
  refine hits_region ?_
  refine sq (f_fieldAddr rfl kf24_0 rfl (lt rfl)) rfl rfl ?_
  refine sq (f_load kd3 rfl rfl (lt rfl)) rfl rfl ?_
  refine sq (f_bin rfl rfl (iT (((IntWalk.i64_in _ (by omega)).trans (by omega) : _ = ((w + 7 : Nat) : Int)))) (lt rfl)) rfl rfl ?_
  refine sq (f_divI rfl rfl (by decide) (by rw [Int.tdiv_eq_ediv_of_nonneg (by omega), IntWalk.i64_in _ (by omega)]; omega : _ = (((w + 7) / 8 : Nat) : Int)) (lt rfl)) rfl rfl ?_
  refine sq (f_bin rfl rfl (iT (((IntWalk.i64_in _ (by omega)).trans (by omega) : _ = (((w + 7) / 8 : Nat) : Int) - 1 - ((0 : Nat) : Int)))) (lt rfl)) rfl rfl ?_
  refine sq (f_assign rfl (lt rfl)) rfl rfl ?_
  refine hits_nil ?_
  refine to_next ?_
  refine hits_block ?_
  refine hits_own 4 4 1 rfl ?_
  refine hits_loop (fun j : Nat => [(.slot 4, some (.own 4 1 ((bytesUpto w v j).map byteD))), (.slot 5, some (.d (.sc (.int .i64 ((((w + 7) / 8 : Nat) : Int) - 1 - (j : Int)))))), (.slot 1, some (.ptr 1 0)), (.cell 1 0, some (.d (.sc (.int .i64 (w : Int))))), (.cell 1 1, some (.d (.sc (.int .u64 (hiOf (v)))))), (.cell 1 2, some (.d (.sc (.int .u64 (loOf (v)))))), (.box 1, some (.ptr 1 0)), (.tip 4, some (.ptr 4 0))]) (fun j : Nat => j ≤ (w + 7) / 8) (fun j : Nat => (w + 7) / 8 - j) 0 (Nat.zero_le _) ⟨rfl, rfl, rfl, rfl, rfl, rfl, rfl, rfl, trivial⟩ rfl ?_
  intro j hj0
  refine hits_seq ?_
  refine hits_seq ?_
  by_cases hj : j < (w + 7) / 8
  · have hjl := upto_len w v j
    refine hits_region ?_
    refine sq (f_move rfl (lt rfl)) rfl rfl ?_
    refine sq (f_bin rfl rfl (bT (decide_eq_true (by omega))) (lt rfl)) rfl rfl ?_
    refine hits_nil ?_
    refine to_next ?_
    refine hits_cond rfl (fun c1 => ?_) (fun c1 => absurd c1 Bool.false_ne_true.symm)
    refine hits_skip ?_
    refine to_next ?_
    refine hits_seq ?_
    refine hits_block ?_
    refine hits_region ?_
    refine sq (f_move rfl (lt rfl)) rfl rfl ?_
    refine sq (f_load kd24 rfl rfl (lt rfl)) rfl rfl ?_
    refine sq (f_move rfl (lt rfl)) rfl rfl ?_
    refine sq (f_bin rfl rfl (iT (((IntWalk.i64_in _ (by omega)).trans (by omega) : _ = ((8 * ((w + 7) / 8 - 1 - j) : Nat) : Int)))) (lt rfl)) rfl rfl ?_
    refine sq (f_convI rfl us3 un88 ((wraps_u64 _ (by omega) (by omega)) : _ = ((8 * ((w + 7) / 8 - 1 - j) : Nat) : Int)) (lt rfl)) rfl rfl ?_
    refine sq (f_call en27 rfl (down_c h hv' (by omega)) (lt rfl)) rfl rfl ?_
    refine sq (f_field rfl fp24_2 rfl (lt rfl)) rfl rfl ?_
    refine sq (f_convI rfl us22 un5 (bytes_lo hv) (lt rfl)) rfl rfl ?_
    refine sq (f_buildSlice sk25 rfl rfl rfl rfl rfl rfl (by decide) (by decide) (lt rfl)) rfl rfl ?_
    refine sq_append rfl rfl rfl rfl apk25 (by simp only [snds, List.length_map, List.length_take, List.length_cons, List.length_nil, hjl]; omega) (by simp only [snds, List.length_map, List.length_take, List.length_cons, List.length_nil, hjl]; omega) rfl (lt rfl) ?_
    refine sq (f_assign rfl (lt rfl)) rfl rfl ?_
    refine hits_nil ?_
    refine in_next ?_
    refine to_next ?_
    refine hits_region ?_
    refine sq (f_move rfl (lt rfl)) rfl rfl ?_
    refine sq (f_bin rfl rfl (iT (((IntWalk.i64_in _ (by omega)).trans (by omega) : _ = (((w + 7) / 8 : Nat) : Int) - 1 - ((j + 1 : Nat) : Int)))) (lt rfl)) rfl rfl ?_
    refine sq (f_assign rfl (lt rfl)) rfl rfl ?_
    refine hits_nil ?_
    refine to_next ?_
    refine round_end (j + 1) (by omega) (by omega) ⟨(congrArg (fun z => some (V.own 4 1 z)) (bytes_snoc rfl)), rfl, rfl, rfl, rfl, rfl, rfl, rfl, trivial⟩ rfl
  · obtain rfl : j = (w + 7) / 8 := by omega
    refine hits_region ?_
    refine sq (f_move rfl (lt rfl)) rfl rfl ?_
    refine sq (f_bin rfl rfl (bT (decide_eq_false (by omega))) (lt rfl)) rfl rfl ?_
    refine hits_nil ?_
    refine to_next ?_
    refine hits_cond rfl (fun c1 => absurd c1 Bool.false_ne_true) (fun c1 => ?_)
    refine hits_exit ?_
    refine to_exit ?_
    refine to_exit ?_
    refine in_hit rfl ?_
    refine to_next ?_
    refine hits_seq ?_
    refine hits_region ?_
    refine sq (f_move rfl (lt rfl)) rfl rfl ?_
    refine sq (f_assign rfl (lt rfl)) rfl rfl ?_
    refine sq (f_assign rfl (lt rfl)) rfl rfl ?_
    refine hits_nil ?_
    refine to_next ?_
    refine hits_ret ?_
    exact hits_doneN (.inl rfl) rfl rfl (by simp) rfl rfl rfl rfl (flatB_plain (bytesOf w v)) (List.length_map _)

set_option maxRecDepth 100000 in
theorem bytes_nn {a : Int} {v : Nat} (hv : v < 2 ^ 128) (hc : chk a v = false) : CallsN Tryz.prog Tt 9 [.agg [.sc (.int .i64 a), .sc (.int .u64 (hiOf v)), .sc (.int .u64 (loOf v))]] 1 0 [] [.int .i64 1] := by
  have hck := check_c gs_tt a hv
  rw [hc] at hck
  refine callsN_of gs_tt Tryz.func9 rfl Tryz.ntmps9 rfl fun w0 S0 stab => ?_
  refine hits_seq ?_
  refine hits_region ?_
  refine sq (f_box rfl rfl (lt rfl)) rfl rfl ?_
  refine sq (f_assign rfl (lt rfl)) rfl rfl ?_
  refine sq (f_assign rfl (lt rfl)) rfl rfl ?_
  refine hits_nil ?_
  refine to_next ?_
  refine hits_seq ?_
  refine hits_seq ?_
  refine hits_region ?_
  refine sq (f_load kd24 rfl rfl (lt rfl)) rfl rfl ?_
  refine sq (f_call en26 rfl hck (lt rfl)) rfl rfl ?_
  refine sq (f_un rfl rfl (lt rfl)) rfl rfl ?_
  refine hits_nil ?_
  refine to_next ?_
  refine hits_cond rfl (fun c0 => ?_) (fun c0 => absurd c0 Bool.false_ne_true.symm)
  refine hits_seq ?_
  refine hits_region ?_
  refine sq (f_assign rfl (lt rfl)) rfl rfl ?_
  refine sq (f_assign rfl (lt rfl)) rfl rfl ?_
  refine hits_nil ?_
  refine to_next ?_
  refine hits_ret ?_
  refine to_ret ?_
  refine hits_own 2 2 1 rfl ?_
  exact hits_doneN (.inl rfl) rfl rfl (by simp) rfl rfl rfl rfl rfl rfl

set_option maxRecDepth 100000 in
theorem same_c (l : List Int) (hl : l.length ≤ 1048576) : CallsP Tryz.prog Tt 14 [.list 1 (l.map byteD), .list 1 (l.map byteD)] (.sc (.bool true)) := by
  refine callsP_of gs_tt Tryz.func14 rfl Tryz.ntmps14 rfl fun w0 S0 stab => ?_
  refine hits_seq ?_
  refine hits_region ?_
  refine sq (f_assign rfl (lt rfl)) rfl rfl ?_
  refine hits_nil ?_
  refine to_next ?_
  refine hits_seq ?_
  refine hits_seq ?_
  refine hits_region ?_
  refine sq (f_move rfl (lt rfl)) rfl rfl ?_
  refine sq (f_lenList rfl rfl un25 (lt rfl)) rfl rfl ?_
  refine sq (f_move rfl (lt rfl)) rfl rfl ?_
  refine sq (f_lenList rfl rfl un25 (lt rfl)) rfl rfl ?_
  refine sq (f_bin rfl rfl (bT ((bne_self_eq_false _))) (lt rfl)) rfl rfl ?_
  refine hits_nil ?_
  refine to_next ?_
  refine hits_cond rfl (fun c0 => absurd c0 Bool.false_ne_true) (fun c0 => ?_)
  refine hits_skip ?_
  refine to_next ?_
  refine hits_seq ?_
  refine hits_seq ?_
  refine hits_region ?_
  refine sq (f_assign rfl (lt rfl)) rfl rfl ?_
  refine hits_nil ?_
  refine to_next ?_
  refine hits_block ?_
  refine hits_loop (fun i : Nat => [(.slot 0, some (.d (.list 1 (l.map byteD)))), (.slot 1, some (.d (.list 1 (l.map byteD)))), (.slot 5, some (.d (.sc (.int .i64 (i : Int)))))]) (fun i : Nat => i ≤ l.length) (fun i : Nat => l.length - i) 0 (Nat.zero_le _) ⟨rfl, rfl, rfl, trivial⟩ rfl ?_
  intro i hi0
  refine hits_seq ?_
  refine hits_seq ?_
  by_cases hi : i < l.length
  · obtain ⟨p, hp⟩ : ∃ p, l[i]? = some p := ⟨_, List.getElem?_eq_getElem hi⟩
    refine hits_region ?_
    refine sq (f_move rfl (lt rfl)) rfl rfl ?_
    refine sq (f_move rfl (lt rfl)) rfl rfl ?_
    refine sq (f_lenList rfl rfl un25 (lt rfl)) rfl rfl ?_
    refine sq (f_bin rfl rfl (bT (decide_eq_true (by rw [List.length_map]; omega))) (lt rfl)) rfl rfl ?_
    refine hits_nil ?_
    refine to_next ?_
    refine hits_cond rfl (fun c1 => ?_) (fun c1 => absurd c1 Bool.false_ne_true.symm)
    refine hits_skip ?_
    refine to_next ?_
    refine hits_seq ?_
    refine hits_block ?_
    refine hits_seq ?_
    refine hits_drawn mixed ?_
    refine dq (f_move rfl (lt rfl)) rfl rfl ?_
    refine dq (f_move rfl (lt rfl)) rfl rfl ?_
    refine dq (f_idxList rfl rfl rfl un25 kd5 (Int.natCast_nonneg _) (byte_at hp) (lt rfl)) rfl rfl ?_
    refine dq (f_load kd5 rfl rfl (lt rfl)) rfl rfl ?_
    refine dq (f_move rfl (lt rfl)) rfl rfl ?_
    refine dq (f_move rfl (lt rfl)) rfl rfl ?_
    refine dq (f_idxList rfl rfl rfl un25 kd5 (Int.natCast_nonneg _) (byte_at hp) (lt rfl)) rfl rfl ?_
    refine dq (f_load kd5 rfl rfl (lt rfl)) rfl rfl ?_
    refine dq (f_bin rfl rfl (bT ((bne_self_eq_false _))) (lt rfl)) rfl rfl ?_
    refine dq_nil rfl ?_
    refine to_next ?_
    refine hits_cond rfl (fun c2 => absurd c2 Bool.false_ne_true) (fun c2 => ?_)
    refine hits_skip ?_
    refine in_next ?_
    refine to_next ?_
    refine hits_region ?_
    refine sq (f_move rfl (lt rfl)) rfl rfl ?_
    refine sq (f_bin rfl rfl (iT (((IntWalk.i64_in _ (by omega)).trans (by omega) : _ = ((i + 1 : Nat) : Int)))) (lt rfl)) rfl rfl ?_
    refine sq (f_assign rfl (lt rfl)) rfl rfl ?_
    refine hits_nil ?_
    refine to_next ?_
    refine round_end (i + 1) (by omega) (by omega) ⟨rfl, rfl, rfl, trivial⟩ rfl
  · refine hits_region ?_
    refine sq (f_move rfl (lt rfl)) rfl rfl ?_
    refine sq (f_move rfl (lt rfl)) rfl rfl ?_
    refine sq (f_lenList rfl rfl un25 (lt rfl)) rfl rfl ?_
    refine sq (f_bin rfl rfl (bT (decide_eq_false (by rw [List.length_map]; omega))) (lt rfl)) rfl rfl ?_
    refine hits_nil ?_
    refine to_next ?_
    refine hits_cond rfl (fun c1 => absurd c1 Bool.false_ne_true) (fun c1 => ?_)
    refine hits_exit ?_
    refine to_exit ?_
    refine to_exit ?_
    refine in_hit rfl ?_
    refine to_next ?_
    refine hits_seq ?_
    refine hits_region ?_
    refine sq (f_assign rfl (lt rfl)) rfl rfl ?_
    refine hits_nil ?_
    refine to_next ?_
    refine hits_ret ?_
    exact hits_done (.inl rfl) rfl rfl rfl

set_option maxRecDepth 100000 in
theorem twin_c (l : List Int) (hl : l.length ≤ 1048576) : CallsP Tryz.prog Tt 11 [.list 1 (l.map byteD)] (.room 1 (l.map byteD) [.sc (.int .u8 77)]) := by
  refine callsP_of gs_tt Tryz.func11 rfl Tryz.ntmps11 rfl fun w0 S0 stab => ?_
  refine hits_seq ?_
  refine hits_region ?_
  refine sq (f_assign rfl (lt rfl)) rfl rfl ?_
  refine hits_nil ?_
  refine to_next ?_
  refine hits_seq ?_
  refine hits_region ?_
  refine sq (f_move rfl (lt rfl)) rfl rfl ?_
  refine sq (f_lenList rfl rfl un25 (lt rfl)) rfl rfl ?_
  refine sq (f_bin rfl rfl (iT ((by rw [List.length_map]; exact (IntWalk.i64_in _ (by omega)).trans (by omega) : _ = ((l.length + 1 : Nat) : Int)))) (lt rfl)) rfl rfl ?_
  refine sq (f_makeV 8 apk25 rfl rfl (by omega) (by omega) (lt rfl)) rfl rfl ?_
  refine sq (f_assign rfl (lt rfl)) rfl rfl ?_
  refine hits_nil ?_
  refine to_next ?_
  refine hits_seq ?_
  refine hits_seq ?_
  refine hits_region ?_
  refine sq (f_assign rfl (lt rfl)) rfl rfl ?_
  refine hits_nil ?_
  refine to_next ?_
  refine hits_block ?_
  refine hits_freeze 3 8 1 [] rfl rfl rfl rfl (by simp) ?_
  refine hits_loop (fun i : Nat => [(.slot 0, some (.d (.list 1 (l.map byteD)))), (.slot 3, some (.own 8 1 ((l.map byteD).take i))), (.tip 8, some (.ptr 8 0)), (.slot 4, some (.d (.sc (.int .i64 (i : Int)))))]) (fun i : Nat => i ≤ l.length) (fun i : Nat => l.length - i) 0 (Nat.zero_le _) ⟨rfl, rfl, rfl, rfl, trivial⟩ rfl ?_
  intro i hi0
  refine hits_seq ?_
  refine hits_seq ?_
  by_cases hi : i < l.length
  · obtain ⟨p, hp⟩ : ∃ p, l[i]? = some p := ⟨_, List.getElem?_eq_getElem hi⟩
    refine hits_region ?_
    refine sq (f_move rfl (lt rfl)) rfl rfl ?_
    refine sq (f_move rfl (lt rfl)) rfl rfl ?_
    refine sq (f_lenList rfl rfl un25 (lt rfl)) rfl rfl ?_
    refine sq (f_bin rfl rfl (bT (decide_eq_true (by rw [List.length_map]; omega))) (lt rfl)) rfl rfl ?_
    refine hits_nil ?_
    refine to_next ?_
    refine hits_cond rfl (fun c0 => ?_) (fun c0 => absurd c0 Bool.false_ne_true.symm)
    refine hits_skip ?_
    refine to_next ?_
    refine hits_seq ?_
    refine hits_block ?_
    refine hits_region ?_
    refine sq (f_move rfl (lt rfl)) rfl rfl ?_
    refine sq (f_move rfl (lt rfl)) rfl rfl ?_
    refine sq (f_move rfl (lt rfl)) rfl rfl ?_
    refine sq (f_idxList rfl rfl rfl un25 kd5 (Int.natCast_nonneg _) (byte_at hp) (lt rfl)) rfl rfl ?_
    refine sq (f_load kd5 rfl rfl (lt rfl)) rfl rfl ?_
    refine sq (f_buildSlice sk25 rfl rfl rfl rfl rfl rfl (by decide) (by decide) (lt rfl)) rfl rfl ?_
    refine sq_append rfl rfl rfl rfl apk25 (by simp only [snds, List.length_map, List.length_take, List.length_cons, List.length_nil]; omega) (by simp only [snds, List.length_map, List.length_take, List.length_cons, List.length_nil]; omega) rfl (lt rfl) ?_
    refine sq (f_assign rfl (lt rfl)) rfl rfl ?_
    refine hits_nil ?_
    refine in_next ?_
    refine to_next ?_
    refine hits_region ?_
    refine sq (f_move rfl (lt rfl)) rfl rfl ?_
    refine sq (f_bin rfl rfl (iT (((IntWalk.i64_in _ (by omega)).trans (by omega) : _ = ((i + 1 : Nat) : Int)))) (lt rfl)) rfl rfl ?_
    refine sq (f_assign rfl (lt rfl)) rfl rfl ?_
    refine hits_nil ?_
    refine to_next ?_
    refine round_end (i + 1) (by omega) (by omega) ⟨rfl, (by show _ = some (V.own 8 1 ((l.map byteD).take (i + 1))); rw [byte_lst hp]; rfl), rfl, rfl, trivial⟩ rfl
  · obtain rfl : i = l.length := by omega
    have htk : (l.map byteD).take l.length = l.map byteD := List.take_of_length_le (by rw [List.length_map]; exact Nat.le_refl _)
    refine hits_region ?_
    refine sq (f_move rfl (lt rfl)) rfl rfl ?_
    refine sq (f_move rfl (lt rfl)) rfl rfl ?_
    refine sq (f_lenList rfl rfl un25 (lt rfl)) rfl rfl ?_
    refine sq (f_bin rfl rfl (bT (decide_eq_false (by rw [List.length_map]; omega))) (lt rfl)) rfl rfl ?_
    refine hits_nil ?_
    refine to_next ?_
    refine hits_cond rfl (fun c0 => absurd c0 Bool.false_ne_true) (fun c0 => ?_)
    refine hits_exit ?_
    refine to_exit ?_
    refine to_exit ?_
    refine in_hit rfl ?_
    refine to_next ?_
    refine hits_seq ?_
    rw [htk]
    refine hits_region ?_
    refine sq (f_move rfl (lt rfl)) rfl rfl ?_
    refine sq (f_buildSlice sk25 rfl rfl rfl rfl rfl rfl (by decide) (by decide) (lt rfl)) rfl rfl ?_
    refine sq_append rfl rfl rfl rfl apk25 (by simp only [snds, List.length_map, List.length_take, List.length_cons, List.length_nil]; omega) (by simp only [snds, List.length_map, List.length_take, List.length_cons, List.length_nil]; omega) rfl (lt rfl) ?_
    refine sq (f_move rfl (lt rfl)) rfl rfl ?_
    refine sq (f_lenList rfl rfl un25 (lt rfl)) rfl rfl ?_
    refine sq (f_cutRoom (l := l.map byteD) (m := [.sc (.int .u8 77)]) rfl rfl rfl un25 kd5 (by decide) (lt rfl)) rfl rfl ?_
    refine sq (f_assign rfl (lt rfl)) rfl rfl ?_
    refine hits_nil ?_
    refine to_next ?_
    refine hits_ret ?_
    exact hits_done (.inl rfl) rfl rfl rfl

set_option maxRecDepth 100000 in
theorem left_c (l : List Int) (hl : l.length ≤ 1048576) : CallsP Tryz.prog Tt 15 [.room 1 (l.map byteD) [.sc (.int .u8 77)], .list 1 (l.map byteD)] (.sc (.bool true)) := by
  have hll : (l.map byteD).length = l.length := List.length_map _
  refine callsP_of gs_tt Tryz.func15 rfl Tryz.ntmps15 rfl fun w0 S0 stab => ?_
  refine hits_seq ?_
  refine hits_region ?_
  refine sq (f_assign rfl (lt rfl)) rfl rfl ?_
  refine hits_nil ?_
  refine to_next ?_
  refine hits_seq ?_
  refine hits_seq ?_
  refine hits_region ?_
  refine sq (f_move rfl (lt rfl)) rfl rfl ?_
  refine sq (f_lenList rfl rfl un25 (lt rfl)) rfl rfl ?_
  refine sq (f_move rfl (lt rfl)) rfl rfl ?_
  refine sq (f_lenList rfl rfl un25 (lt rfl)) rfl rfl ?_
  refine sq (f_bin rfl rfl (bT ((bne_self_eq_false _))) (lt rfl)) rfl rfl ?_
  refine sq (f_move rfl (lt rfl)) rfl rfl ?_
  refine sq_yes (f_move rfl (lt rfl)) rfl rfl rfl rfl (lt rfl) ?_
  refine sq_capY rfl un25 (lt rfl) rfl rfl (lt rfl) (fun cap hcap => ?_)
  simp only [List.length_cons, List.length_nil] at hcap
  refine sq_yes (f_move rfl (lt rfl)) rfl rfl rfl rfl (lt rfl) ?_
  refine sq_yes (f_lenList rfl rfl un25 (lt rfl)) rfl rfl rfl rfl (lt rfl) ?_
  refine sq_yes (f_bin rfl rfl (bT (decide_eq_false (by omega))) (lt rfl)) rfl rfl rfl rfl (lt rfl) ?_
  refine sq (f_pick rfl rfl (lt rfl)) rfl rfl ?_
  refine hits_nil ?_
  refine to_next ?_
  refine hits_cond rfl (fun c0 => absurd c0 Bool.false_ne_true) (fun c0 => ?_)
  refine hits_skip ?_
  refine to_next ?_
  refine hits_seq ?_
  refine hits_seq ?_
  refine hits_region ?_
  refine sq (f_assign rfl (lt rfl)) rfl rfl ?_
  refine hits_nil ?_
  refine to_next ?_
  refine hits_block ?_
  refine hits_loop (fun i : Nat => [(.slot 0, some (.d (.room 1 (l.map byteD) [.sc (.int .u8 77)]))), (.slot 1, some (.d (.list 1 (l.map byteD)))), (.slot 5, some (.d (.sc (.int .i64 (i : Int)))))]) (fun i : Nat => i ≤ l.length) (fun i : Nat => l.length - i) 0 (Nat.zero_le _) ⟨rfl, rfl, rfl, trivial⟩ rfl ?_
  intro i hi0
  refine hits_seq ?_
  refine hits_seq ?_
  by_cases hi : i < l.length
  · obtain ⟨p, hp⟩ : ∃ p, l[i]? = some p := ⟨_, List.getElem?_eq_getElem hi⟩
    refine hits_region ?_
    refine sq (f_move rfl (lt rfl)) rfl rfl ?_
    refine sq (f_move rfl (lt rfl)) rfl rfl ?_
    refine sq (f_lenList rfl rfl un25 (lt rfl)) rfl rfl ?_
    refine sq (f_bin rfl rfl (bT (decide_eq_true (by omega))) (lt rfl)) rfl rfl ?_
    refine hits_nil ?_
    refine to_next ?_
    refine hits_cond rfl (fun c1 => ?_) (fun c1 => absurd c1 Bool.false_ne_true.symm)
    refine hits_skip ?_
    refine to_next ?_
    refine hits_seq ?_
    refine hits_block ?_
    refine hits_seq ?_
    refine hits_drawn mixed ?_
    refine dq (f_move rfl (lt rfl)) rfl rfl ?_
    refine dq (f_move rfl (lt rfl)) rfl rfl ?_
    refine dq (f_idxList rfl rfl rfl un25 kd5 (Int.natCast_nonneg _) (byte_at hp) (lt rfl)) rfl rfl ?_
    refine dq (f_load kd5 rfl rfl (lt rfl)) rfl rfl ?_
    refine dq (f_move rfl (lt rfl)) rfl rfl ?_
    refine dq (f_move rfl (lt rfl)) rfl rfl ?_
    refine dq (f_idxList rfl rfl rfl un25 kd5 (Int.natCast_nonneg _) (byte_at hp) (lt rfl)) rfl rfl ?_
    refine dq (f_load kd5 rfl rfl (lt rfl)) rfl rfl ?_
    refine dq (f_bin rfl rfl (bT ((bne_self_eq_false _))) (lt rfl)) rfl rfl ?_
    refine dq_nil rfl ?_
    refine to_next ?_
    refine hits_cond rfl (fun c2 => absurd c2 Bool.false_ne_true) (fun c2 => ?_)
    refine hits_skip ?_
    refine in_next ?_
    refine to_next ?_
    refine hits_region ?_
    refine sq (f_move rfl (lt rfl)) rfl rfl ?_
    refine sq (f_bin rfl rfl (iT (((IntWalk.i64_in _ (by omega)).trans (by omega) : _ = ((i + 1 : Nat) : Int)))) (lt rfl)) rfl rfl ?_
    refine sq (f_assign rfl (lt rfl)) rfl rfl ?_
    refine hits_nil ?_
    refine to_next ?_
    refine round_end (i + 1) (by omega) (by omega) ⟨rfl, rfl, rfl, trivial⟩ rfl
  · refine hits_region ?_
    refine sq (f_move rfl (lt rfl)) rfl rfl ?_
    refine sq (f_move rfl (lt rfl)) rfl rfl ?_
    refine sq (f_lenList rfl rfl un25 (lt rfl)) rfl rfl ?_
    refine sq (f_bin rfl rfl (bT (decide_eq_false (by omega))) (lt rfl)) rfl rfl ?_
    refine hits_nil ?_
    refine to_next ?_
    refine hits_cond rfl (fun c1 => absurd c1 Bool.false_ne_true) (fun c1 => ?_)
    refine hits_exit ?_
    refine to_exit ?_
    refine to_exit ?_
    refine in_hit rfl ?_
    refine to_next ?_
    refine hits_seq ?_
    refine hits_region ?_
    refine sq (f_move rfl (lt rfl)) rfl rfl ?_
    refine sq (f_move rfl (lt rfl)) rfl rfl ?_
    refine sq (f_lenList rfl rfl un25 (lt rfl)) rfl rfl ?_
    refine sq (f_bin rfl rfl (iT (((IntWalk.i64_in _ (by omega)).trans (by omega) : _ = (((l.map byteD).length + 1 : Nat) : Int)))) (lt rfl)) rfl rfl ?_
    refine sq (f_upRoom rfl rfl un25 kd5 (by decide) (lt rfl)) rfl rfl ?_
    refine sq (f_move rfl (lt rfl)) rfl rfl ?_
    refine sq (f_lenList rfl rfl un25 (lt rfl)) rfl rfl ?_
    refine sq (f_idxList rfl rfl rfl un25 kd5 (Int.natCast_nonneg _) (by rw [Int.toNat_natCast, List.getElem?_append_right (Nat.le_refl _), Nat.sub_self]; rfl) (lt rfl)) rfl rfl ?_
    refine sq (f_load kd5 rfl rfl (lt rfl)) rfl rfl ?_
    refine sq (f_assign rfl (lt rfl)) rfl rfl ?_
    refine hits_nil ?_
    refine to_next ?_
    refine hits_seq ?_
    refine hits_region ?_
    refine sq (f_move rfl (lt rfl)) rfl rfl ?_
    refine sq (f_bin rfl rfl (bT (beq_iff_eq.mpr rfl)) (lt rfl)) rfl rfl ?_
    refine sq (f_assign rfl (lt rfl)) rfl rfl ?_
    refine hits_nil ?_
    refine to_next ?_
    refine hits_ret ?_
    exact hits_done (.inl rfl) rfl rfl rfl

set_option maxRecDepth 100000 in
theorem beyond_no {n : Nat} (h : n ≤ 1048576) : CallsP Tryz.prog Tt 8 [.list 1 [.sc (.int .i64 (n : Int))]] (.sc (.bool false)) := by
  refine callsP_of gs_tt Tryz.func8 rfl Tryz.ntmps8 rfl fun w0 S0 stab => ?_
  refine hits_seq ?_
  refine hits_region ?_
  refine sq (f_assign rfl (lt rfl)) rfl rfl ?_
  refine hits_nil ?_
  refine to_next ?_
  refine hits_seq ?_
  refine hits_region ?_
  refine sq (f_assign rfl (lt rfl)) rfl rfl ?_
  refine hits_nil ?_
  refine to_next ?_
  refine hits_seq ?_
  refine hits_seq ?_
  refine hits_region ?_
  refine sq (f_assign rfl (lt rfl)) rfl rfl ?_
  refine hits_nil ?_
  refine to_next ?_
  refine hits_block ?_
  refine hits_rounds 2 (rounds_go ?_)
  refine hits_seq ?_
  refine hits_seq ?_
  refine hits_region ?_
  refine sq (f_move rfl (lt rfl)) rfl rfl ?_
  refine sq (f_move rfl (lt rfl)) rfl rfl ?_
  refine sq (f_lenList rfl rfl un85 (lt rfl)) rfl rfl ?_
  refine sq (f_bin rfl rfl (bT (decide_eq_true (by simp))) (lt rfl)) rfl rfl ?_
  refine hits_nil ?_
  refine to_next ?_
  refine hits_cond rfl (fun c0 => ?_) (fun c0 => absurd c0 Bool.false_ne_true.symm)
  refine hits_skip ?_
  refine to_next ?_
  refine hits_seq ?_
  refine hits_block ?_
  refine hits_seq ?_
  refine hits_region ?_
  refine sq (f_move rfl (lt rfl)) rfl rfl ?_
  refine sq (f_move rfl (lt rfl)) rfl rfl ?_
  refine sq (f_move rfl (lt rfl)) rfl rfl ?_
  refine sq (f_idxList rfl rfl rfl un85 kd3 (by decide) rfl (lt rfl)) rfl rfl ?_
  refine sq (f_load kd3 rfl rfl (lt rfl)) rfl rfl ?_
  refine sq (f_bin rfl rfl (iT (((IntWalk.i64_in _ (by omega)).trans (by omega) : _ = (n : Int)))) (lt rfl)) rfl rfl ?_
  refine sq (f_assign rfl (lt rfl)) rfl rfl ?_
  refine hits_nil ?_
  refine to_next ?_
  refine hits_seq ?_
  refine hits_region ?_
  refine sq (f_move rfl (lt rfl)) rfl rfl ?_
  refine sq (f_bin rfl rfl (bT (decide_eq_false (by omega))) (lt rfl)) rfl rfl ?_
  refine hits_nil ?_
  refine to_next ?_
  refine hits_cond rfl (fun c1 => absurd c1 Bool.false_ne_true) (fun c1 => ?_)
  refine hits_skip ?_
  refine in_next ?_
  refine to_next ?_
  refine hits_region ?_
  refine sq (f_move rfl (lt rfl)) rfl rfl ?_
  refine sq (f_bin rfl rfl (iT ((by decide : IntKind.i64.wrap (0 + 1) = 1))) (lt rfl)) rfl rfl ?_
  refine sq (f_assign rfl (lt rfl)) rfl rfl ?_
  refine hits_nil ?_
  refine to_next ?_
  refine rounds_go ?_
  refine hits_seq ?_
  refine hits_seq ?_
  refine hits_region ?_
  refine sq (f_move rfl (lt rfl)) rfl rfl ?_
  refine sq (f_move rfl (lt rfl)) rfl rfl ?_
  refine sq (f_lenList rfl rfl un85 (lt rfl)) rfl rfl ?_
  refine sq (f_bin rfl rfl (bT (decide_eq_false (by simp))) (lt rfl)) rfl rfl ?_
  refine hits_nil ?_
  refine to_next ?_
  refine hits_cond rfl (fun c0 => absurd c0 Bool.false_ne_true) (fun c0 => ?_)
  refine hits_exit ?_
  refine to_exit ?_
  refine to_exit ?_
  refine in_hit rfl ?_
  refine to_next ?_
  refine hits_seq ?_
  refine hits_region ?_
  refine sq (f_assign rfl (lt rfl)) rfl rfl ?_
  refine hits_nil ?_
  refine to_next ?_
  refine hits_ret ?_
  exact hits_done (.inl rfl) rfl rfl rfl

set_option maxRecDepth 100000 in
theorem beyond_yes {n : Nat} (h : 1048576 < n) (hn : n ≤ 9223372036854775807) : CallsP Tryz.prog Tt 8 [.list 1 [.sc (.int .i64 (n : Int))]] (.sc (.bool true)) := by
  refine callsP_of gs_tt Tryz.func8 rfl Tryz.ntmps8 rfl fun w0 S0 stab => ?_
  refine hits_seq ?_
  refine hits_region ?_
  refine sq (f_assign rfl (lt rfl)) rfl rfl ?_
  refine hits_nil ?_
  refine to_next ?_
  refine hits_seq ?_
  refine hits_region ?_
  refine sq (f_assign rfl (lt rfl)) rfl rfl ?_
  refine hits_nil ?_
  refine to_next ?_
  refine hits_seq ?_
  refine hits_seq ?_
  refine hits_region ?_
  refine sq (f_assign rfl (lt rfl)) rfl rfl ?_
  refine hits_nil ?_
  refine to_next ?_
  refine hits_block ?_
  refine hits_rounds 1 (rounds_go ?_)
  refine hits_seq ?_
  refine hits_seq ?_
  refine hits_region ?_
  refine sq (f_move rfl (lt rfl)) rfl rfl ?_
  refine sq (f_move rfl (lt rfl)) rfl rfl ?_
  refine sq (f_lenList rfl rfl un85 (lt rfl)) rfl rfl ?_
  refine sq (f_bin rfl rfl (bT (decide_eq_true (by simp))) (lt rfl)) rfl rfl ?_
  refine hits_nil ?_
  refine to_next ?_
  refine hits_cond rfl (fun c0 => ?_) (fun c0 => absurd c0 Bool.false_ne_true.symm)
  refine hits_skip ?_
  refine to_next ?_
  refine hits_seq ?_
  refine hits_block ?_
  refine hits_seq ?_
  refine hits_region ?_
  refine sq (f_move rfl (lt rfl)) rfl rfl ?_
  refine sq (f_move rfl (lt rfl)) rfl rfl ?_
  refine sq (f_move rfl (lt rfl)) rfl rfl ?_
  refine sq (f_idxList rfl rfl rfl un85 kd3 (by decide) rfl (lt rfl)) rfl rfl ?_
  refine sq (f_load kd3 rfl rfl (lt rfl)) rfl rfl ?_
  refine sq (f_bin rfl rfl (iT (((IntWalk.i64_in _ (by omega)).trans (by omega) : _ = (n : Int)))) (lt rfl)) rfl rfl ?_
  refine sq (f_assign rfl (lt rfl)) rfl rfl ?_
  refine hits_nil ?_
  refine to_next ?_
  refine hits_seq ?_
  refine hits_region ?_
  refine sq (f_move rfl (lt rfl)) rfl rfl ?_
  refine sq (f_bin rfl rfl (bT (decide_eq_true (by omega))) (lt rfl)) rfl rfl ?_
  refine hits_nil ?_
  refine to_next ?_
  refine hits_cond rfl (fun c1 => ?_) (fun c1 => absurd c1 Bool.false_ne_true.symm)
  refine hits_seq ?_
  refine hits_region ?_
  refine sq (f_assign rfl (lt rfl)) rfl rfl ?_
  refine hits_nil ?_
  refine to_next ?_
  refine hits_ret ?_
  refine in_ret ?_
  refine to_ret ?_
  refine to_ret ?_
  refine in_ret ?_
  refine to_ret ?_
  exact hits_done (.inl rfl) rfl rfl rfl

set_option maxRecDepth 100000 in
theorem rd_w {w : Int} (l : List Int) (h : ¬ (1 ≤ w ∧ w ≤ 128)) : CallsP Tryz.prog Tt 12 [.sc (.int .i64 w), .list 1 (l.map byteD)] (.tup [.agg [.sc (.int .i64 0), .sc (.int .u64 0), .sc (.int .u64 0)], .sc (.int .i64 1)]) := by
  have hw := wide_c gs_tt w
  rw [decide_eq_false h] at hw
  refine callsP_of gs_tt Tryz.func12 rfl Tryz.ntmps12 rfl fun w0 S0 stab => ?_
  refine hits_seq ?_
  refine hits_region ?_
  refine sq (f_alloc zc24 (lt rfl)) rfl rfl ?_
  refine sq (f_assign rfl (lt rfl)) rfl rfl ?_
  refine hits_nil ?_
  refine to_next ?_
  refine hits_seq ?_
  refine hits_region ?_
  refine sq (f_move rfl (lt rfl)) rfl rfl ?_
  refine sq (f_build bu24 rfl rfl (lt rfl)) rfl rfl ?_
  refine sq (f_alloc zc24 (lt rfl)) rfl rfl ?_
  refine sq (f_store kd24 rfl rfl rfl rfl rfl) rfl rfl ?_
  refine hits_nil ?_
  refine to_next ?_
  refine hits_seq ?_
  refine hits_block ?_
  refine hits_seq ?_
  refine hits_region ?_
  refine sq (f_move rfl (lt rfl)) rfl rfl ?_
  refine sq (f_call en31 rfl hw (lt rfl)) rfl rfl ?_
  refine sq (f_un rfl rfl (lt rfl)) rfl rfl ?_
  refine sq (f_assign rfl (lt rfl)) rfl rfl ?_
  refine hits_nil ?_
  refine to_next ?_
  refine hits_cond rfl (fun c0 => ?_) (fun c0 => absurd c0 Bool.false_ne_true.symm)
  refine hits_seq ?_
  refine hits_region ?_
  refine sq (f_build bu24 rfl rfl (lt rfl)) rfl rfl ?_
  refine sq (f_store kd24 rfl rfl rfl rfl rfl) rfl rfl ?_
  refine sq (f_assign rfl (lt rfl)) rfl rfl ?_
  refine hits_nil ?_
  refine to_next ?_
  refine hits_ret ?_
  refine in_ret ?_
  refine to_ret ?_
  exact hits_done (.inl rfl) rfl rfl rfl

set_option maxRecDepth 100000 in
theorem rd_l {w : Nat} (l : List Int) (h0 : 1 ≤ w) (h : w ≤ 128) (he : ¬ l.length = (w + 7) / 8) : CallsP Tryz.prog Tt 12 [.sc (.int .i64 (w : Int)), .list 1 (l.map byteD)] (.tup [.agg [.sc (.int .i64 0), .sc (.int .u64 0), .sc (.int .u64 0)], .sc (.int .i64 8)]) := by
  have hw := wide_c gs_tt (w : Int)
  rw [decide_eq_true (by omega : (1 : Int) ≤ w ∧ (w : Int) ≤ 128)] at hw
  refine callsP_of gs_tt Tryz.func12 rfl Tryz.ntmps12 rfl fun w0 S0 stab => ?_
  refine hits_seq ?_
  refine hits_region ?_
  refine sq (f_alloc zc24 (lt rfl)) rfl rfl ?_
  refine sq (f_assign rfl (lt rfl)) rfl rfl ?_
  refine hits_nil ?_
  refine to_next ?_
  refine hits_seq ?_
  refine hits_region ?_
  refine sq (f_move rfl (lt rfl)) rfl rfl ?_
  refine sq (f_build bu24 rfl rfl (lt rfl)) rfl rfl ?_
  refine sq (f_alloc zc24 (lt rfl)) rfl rfl ?_
  refine sq (f_store kd24 rfl rfl rfl rfl rfl) rfl rfl ?_
  refine hits_nil ?_
  refine to_next ?_
  refine hits_seq ?_
  refine hits_block ?_
  refine hits_seq ?_
  refine hits_region ?_
  refine sq (f_move rfl (lt rfl)) rfl rfl ?_
  refine sq (f_call en31 rfl hw (lt rfl)) rfl rfl ?_
  refine sq (f_un rfl rfl (lt rfl)) rfl rfl ?_
  refine sq (f_assign rfl (lt rfl)) rfl rfl ?_
  refine hits_nil ?_
  refine to_next ?_
  refine hits_cond rfl (fun c0 => absurd c0 Bool.false_ne_true) (fun c0 => ?_)
  refine hits_seq ?_
  refine hits_region ?_
  refine sq (f_move rfl (lt rfl)) rfl rfl ?_
  refine sq (f_lenList rfl rfl un25 (lt rfl)) rfl rfl ?_
  refine sq (f_move rfl (lt rfl)) rfl rfl ?_
  refine sq (f_bin rfl rfl (iT (((IntWalk.i64_in _ (by omega)).trans (by omega) : _ = ((w + 7 : Nat) : Int)))) (lt rfl)) rfl rfl ?_
  refine sq (f_divI rfl rfl (by decide) (by rw [Int.tdiv_eq_ediv_of_nonneg (by omega), IntWalk.i64_in _ (by omega)]; omega : _ = (((w + 7) / 8 : Nat) : Int)) (lt rfl)) rfl rfl ?_
  refine sq (f_bin rfl rfl (bT ((by rw [List.length_map]; exact bne_iff_ne.mpr (by omega) : _ = true))) (lt rfl)) rfl rfl ?_
  refine sq (f_assign rfl (lt rfl)) rfl rfl ?_
  refine hits_nil ?_
  refine to_next ?_
  refine hits_cond rfl (fun c1 => ?_) (fun c1 => absurd c1 Bool.false_ne_true.symm)
  refine hits_seq ?_
  refine hits_region ?_
  refine sq (f_build bu24 rfl rfl (lt rfl)) rfl rfl ?_
  refine sq (f_store kd24 rfl rfl rfl rfl rfl) rfl rfl ?_
  refine sq (f_assign rfl (lt rfl)) rfl rfl ?_
  refine hits_nil ?_
  refine to_next ?_
  refine hits_ret ?_
  refine in_ret ?_
  refine to_ret ?_
  exact hits_done (.inl rfl) rfl rfl rfl

set_option maxRecDepth 100000 in
theorem rd_v {w : Nat} {l : List Int} (hb : Bs l) (h0 : 1 ≤ w) (h : w ≤ 128) (he : l.length = (w + 7) / 8) : CallsP Tryz.prog Tt 12 [.sc (.int .i64 (w : Int)), .list 1 (l.map byteD)] (if valB l < 2 ^ w then .tup [bitD w (valB l), .sc (.int .i64 0)] else .tup [.agg [.sc (.int .i64 0), .sc (.int .u64 0), .sc (.int .u64 0)], .sc (.int .i64 8)]) := by
  have hw := wide_c gs_tt (w : Int)
  rw [decide_eq_true (by omega : (1 : Int) ≤ w ∧ (w : Int) ≤ 128)] at hw
  have hll : (l.map byteD).length = l.length := List.length_map _
  have hv := valB_128 hb (by omega)
  have hck := check_c gs_tt (w : Int) hv
  refine callsP_of gs_tt Tryz.func12 rfl Tryz.ntmps12 rfl fun w0 S0 stab => ?_
  refine hits_seq ?_
  refine hits_region ?_
  refine sq (f_alloc zc24 (lt rfl)) rfl rfl ?_
  refine sq (f_assign rfl (lt rfl)) rfl rfl ?_
  refine hits_nil ?_
  refine to_next ?_
  refine hits_seq ?_
  refine hits_region ?_
  refine sq (f_move rfl (lt rfl)) rfl rfl ?_
  refine sq (f_build bu24 rfl rfl (lt rfl)) rfl rfl ?_
  refine sq (f_alloc zc24 (lt rfl)) rfl rfl ?_
  refine sq (f_store kd24 rfl rfl rfl rfl rfl) rfl rfl ?_
  refine hits_nil ?_
  refine to_next ?_
  refine hits_seq ?_
  refine hits_block ?_
  refine hits_seq ?_
  refine hits_region ?_
  refine sq (f_move rfl (lt rfl)) rfl rfl ?_
  refine sq (f_call en31 rfl hw (lt rfl)) rfl rfl ?_
  refine sq (f_un rfl rfl (lt rfl)) rfl rfl ?_
  refine sq (f_assign rfl (lt rfl)) rfl rfl ?_
  refine hits_nil ?_
  refine to_next ?_
  refine hits_cond rfl (fun c0 => absurd c0 Bool.false_ne_true) (fun c0 => ?_)
  refine hits_seq ?_
  refine hits_region ?_
  refine sq (f_move rfl (lt rfl)) rfl rfl ?_
  refine sq (f_lenList rfl rfl un25 (lt rfl)) rfl rfl ?_
  refine sq (f_move rfl (lt rfl)) rfl rfl ?_
  refine sq (f_bin rfl rfl (iT (((IntWalk.i64_in _ (by omega)).trans (by omega) : _ = ((w + 7 : Nat) : Int)))) (lt rfl)) rfl rfl ?_
  refine sq (f_divI rfl rfl (by decide) (by rw [Int.tdiv_eq_ediv_of_nonneg (by omega), IntWalk.i64_in _ (by omega)]; omega : _ = (((w + 7) / 8 : Nat) : Int)) (lt rfl)) rfl rfl ?_
  refine sq (f_bin rfl rfl (bT ((by rw [hll]; exact bne_eq_false_iff_eq.mpr (by omega) : _ = false))) (lt rfl)) rfl rfl ?_
  refine sq (f_assign rfl (lt rfl)) rfl rfl ?_
  refine hits_nil ?_
  refine to_next ?_
  refine hits_cond rfl (fun c1 => absurd c1 Bool.false_ne_true) (fun c1 => ?_)
  refine hits_skip ?_
  refine in_next ?_
  refine to_next ?_
  refine hits_seq ?_
  refine hits_seq ?_
  refine hits_region ?_
  refine sq (f_move rfl (lt rfl)) rfl rfl ?_
  refine sq (f_lenList rfl rfl un25 (lt rfl)) rfl rfl ?_
  refine sq (f_move rfl (lt rfl)) rfl rfl ?_
  refine hits_nil ?_
  refine to_next ?_
  refine hits_block ?_
  refine hits_loop (fun j : Nat => [(.slot 24, some (.d (.list 1 (l.map byteD)))), (.slot 25, some (.d (.sc (.int .i64 (((l.map byteD).length : Nat) : Int))))), (.slot 26, some (.d (.sc (.int .i64 (j : Int))))), (.slot 6, some (.ptr 6 0)), (.cell 6 0, some (.d (.sc (.int .i64 (w : Int))))), (.cell 6 1, some (.d (.sc (.int .u64 (hiOf (valB (l.take j))))))), (.cell 6 2, some (.d (.sc (.int .u64 (loOf (valB (l.take j))))))), (.box 6, some (.ptr 6 0)), (.slot 4, some (.ptr 4 0)), (.cell 4 0, some (.d (.sc (.int .i64 0)))), (.cell 4 1, some (.d (.sc (.int .u64 0)))), (.cell 4 2, some (.d (.sc (.int .u64 0)))), (.box 4, some (.ptr 4 0))]) (fun j : Nat => j ≤ l.length) (fun j : Nat => l.length - j) 0 (Nat.zero_le _) ⟨rfl, rfl, rfl, rfl, rfl, (congrArg (fun z : Int => some (V.d (.sc (.int .u64 z)))) (by rw [List.take_zero]; rfl : (0 : Int) = hiOf (valB (l.take 0)))), (congrArg (fun z : Int => some (V.d (.sc (.int .u64 z)))) (by rw [List.take_zero]; rfl : (0 : Int) = loOf (valB (l.take 0)))), rfl, rfl, rfl, rfl, rfl, rfl, trivial⟩ rfl ?_
  intro j hj0
  refine hits_seq ?_
  by_cases hi : j < l.length
  · obtain ⟨p, hp⟩ : ∃ p, l[j]? = some p := ⟨_, List.getElem?_eq_getElem hi⟩
    obtain ⟨c, hc, rfl⟩ := byte_nat hb hp
    have hst := valB_step hp
    rw [Int.toNat_natCast] at hst
    have hvj := valB_take hb (j := j) (by omega)
    have hvn := valB_take hb (j := j + 1) (by omega)
    rw [hst] at hvn
    refine hits_region ?_
    refine sq (f_bin rfl rfl (bT (decide_eq_true (by omega))) (lt rfl)) rfl rfl ?_
    refine hits_nil ?_
    refine to_next ?_
    refine hits_seq ?_
    refine hits_cond rfl (fun c2 => ?_) (fun c2 => absurd c2 Bool.false_ne_true.symm)
    refine hits_skip ?_
    refine to_next ?_
    refine hits_seq ?_
    refine hits_block ?_
    refine hits_seq ?_
    refine hits_region ?_
    refine sq (f_idxList rfl rfl rfl un25 kd5 (Int.natCast_nonneg _) (byte_at hp) (lt rfl)) rfl rfl ?_
    refine sq (f_load kd5 rfl rfl (lt rfl)) rfl rfl ?_
    refine sq (f_assign rfl (lt rfl)) rfl rfl ?_
    refine hits_nil ?_
    refine to_next ?_
    refine hits_region ?_
    refine sq (f_fieldAddr rfl kf24_1 rfl (lt rfl)) rfl rfl ?_
    refine sq (f_load kd22 rfl rfl (lt rfl)) rfl rfl ?_
    refine sq (f_shlI rfl rfl (by decide) (sh8 (hi_lt hvj)) (lt rfl)) rfl rfl ?_
    refine sq (f_fieldAddr rfl kf24_2 rfl (lt rfl)) rfl rfl ?_
    refine sq (f_load kd22 rfl rfl (lt rfl)) rfl rfl ?_
    refine sq (f_shrI rfl rfl (by decide) (sh56 (lo_lt _)) (lt rfl)) rfl rfl ?_
    refine sq (f_bin rfl rfl (iT ((byte_hi hvn hc).trans (congrArg hiOf hst.symm))) (lt rfl)) rfl rfl ?_
    refine sq (f_fieldAddr rfl kf24_2 rfl (lt rfl)) rfl rfl ?_
    refine sq (f_load kd22 rfl rfl (lt rfl)) rfl rfl ?_
    refine sq (f_shlI rfl rfl (by decide) (sh8 (lo_lt _)) (lt rfl)) rfl rfl ?_
    refine sq (f_move rfl (lt rfl)) rfl rfl ?_
    refine sq (f_convI rfl us5 un22 (wraps_u64 _ (by omega) (by omega)) (lt rfl)) rfl rfl ?_
    refine sq (f_bin rfl rfl (iT ((byte_lo hvn hc).trans (congrArg loOf hst.symm))) (lt rfl)) rfl rfl ?_
    refine sq (f_fieldAddr rfl kf24_1 rfl (lt rfl)) rfl rfl ?_
    refine sq (f_store kd22 rfl rfl rfl rfl rfl) rfl rfl ?_
    refine sq (f_fieldAddr rfl kf24_2 rfl (lt rfl)) rfl rfl ?_
    refine sq (f_store kd22 rfl rfl rfl rfl rfl) rfl rfl ?_
    refine hits_nil ?_
    refine in_next ?_
    refine to_next ?_
    refine hits_region ?_
    refine sq (f_bin rfl rfl (iT (((IntWalk.i64_in _ (by omega)).trans (by omega) : _ = ((j + 1 : Nat) : Int)))) (lt rfl)) rfl rfl ?_
    refine sq (f_move rfl (lt rfl)) rfl rfl ?_
    refine hits_nil ?_
    refine to_next ?_
    refine round_end (j + 1) (by omega) (by omega) ⟨rfl, rfl, rfl, rfl, rfl, rfl, rfl, rfl, rfl, rfl, rfl, rfl, rfl, trivial⟩ rfl
  · obtain rfl : j = l.length := by omega
    have htk : l.take l.length = l := List.take_length
    by_cases hlt : valB l < 2 ^ w
    · rw [chk_ok h0 h hlt] at hck
      refine hits_region ?_
      refine sq (f_bin rfl rfl (bT (decide_eq_false (by omega))) (lt rfl)) rfl rfl ?_
      refine hits_nil ?_
      refine to_next ?_
      refine hits_seq ?_
      refine hits_cond rfl (fun c2 => absurd c2 Bool.false_ne_true) (fun c2 => ?_)
      refine hits_exit ?_
      refine to_exit ?_
      refine to_exit ?_
      refine in_hit rfl ?_
      refine to_next ?_
      refine hits_seq ?_
      refine hits_seq ?_
      rw [htk]
      refine hits_region ?_
      refine sq (f_load kd24 rfl rfl (lt rfl)) rfl rfl ?_
      refine sq (f_call en26 rfl hck (lt rfl)) rfl rfl ?_
      refine sq (f_un rfl rfl (lt rfl)) rfl rfl ?_
      refine hits_nil ?_
      refine to_next ?_
      refine hits_cond rfl (fun c3 => absurd c3 Bool.false_ne_true) (fun c3 => ?_)
      refine hits_skip ?_
      refine to_next ?_
      refine hits_seq ?_
      refine hits_region ?_
      refine sq (f_load kd24 rfl rfl (lt rfl)) rfl rfl ?_
      refine sq (f_store kd24 rfl rfl rfl rfl rfl) rfl rfl ?_
      refine sq (f_assign rfl (lt rfl)) rfl rfl ?_
      refine hits_nil ?_
      refine to_next ?_
      refine hits_ret ?_
      exact hits_done (.inl rfl) rfl rfl (by rw [if_pos hlt]; rfl)
    · rw [show chk (w : Int) (valB l) = false from decide_eq_false fun c => hlt (by simpa using c.2.2)] at hck
      refine hits_region ?_
      refine sq (f_bin rfl rfl (bT (decide_eq_false (by omega))) (lt rfl)) rfl rfl ?_
      refine hits_nil ?_
      refine to_next ?_
      refine hits_seq ?_
      refine hits_cond rfl (fun c2 => absurd c2 Bool.false_ne_true) (fun c2 => ?_)
      refine hits_exit ?_
      refine to_exit ?_
      refine to_exit ?_
      refine in_hit rfl ?_
      refine to_next ?_
      refine hits_seq ?_
      refine hits_seq ?_
      rw [htk]
      refine hits_region ?_
      refine sq (f_load kd24 rfl rfl (lt rfl)) rfl rfl ?_
      refine sq (f_call en26 rfl hck (lt rfl)) rfl rfl ?_
      refine sq (f_un rfl rfl (lt rfl)) rfl rfl ?_
      refine hits_nil ?_
      refine to_next ?_
      refine hits_cond rfl (fun c3 => ?_) (fun c3 => absurd c3 Bool.false_ne_true.symm)
      refine hits_seq ?_
      refine hits_region ?_
      refine sq (f_build bu24 rfl rfl (lt rfl)) rfl rfl ?_
      refine sq (f_store kd24 rfl rfl rfl rfl rfl) rfl rfl ?_
      refine sq (f_assign rfl (lt rfl)) rfl rfl ?_
      refine hits_nil ?_
      refine to_next ?_
      refine hits_ret ?_
      refine to_ret ?_
      exact hits_done (.inl rfl) rfl rfl (by rw [if_neg hlt]; rfl)

end Go.Proofs.YtcaedggggkchiaaGreatDoor.Ln
