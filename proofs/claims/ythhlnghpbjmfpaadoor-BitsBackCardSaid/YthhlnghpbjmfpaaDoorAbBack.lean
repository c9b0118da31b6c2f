/- bits.Read over data. -/
import Derived.Test.YthhlnghpbjmfpaaDoorAbPar
import Derived.Lib.SmallJoins
namespace Go.Proofs.YthhlnghpbjmfpaaDoor.AbBits
open Go Go.RowKit Go.Ab Go.Proofs Go.Proofs.YthhlnghpbjmfpaaDoor Go.Proofs.YthhlnghpbjmfpaaDoor.PTryd Go.Proofs.YthhlnghpbjmfpaaDoor.PTrydFns Go.Proofs.YthhlnghpbjmfpaaDoor.BitsMath Go.Proofs.YthhlnghpbjmfpaaDoor.Press
set_option linter.unusedVariables false
set_option linter.unusedSimpArgs false
theorem en24 : enters Tryd.prog 24 = true := by kernel_rfl
def bD (l : List Bool) : List D := l.map fun b => .sc (.bool b)
theorem bD_len (l : List Bool) : (bD l).length = l.length := by simp [bD]
theorem bD_bl (w v : Nat) : (bD (bl w v)).length = w := by rw [bD_len, bl_length]
theorem bD_at {w v j : Nat} (h : j < w) : (bD (bl w v))[((j : Int)).toNat]? = some (.sc (.bool (v.testBit j))) := by
  rw [Int.toNat_natCast, bD, List.getElem?_map, BitsMath.bl, List.getElem?_map, List.getElem?_range h]; rfl
theorem bD_succ (i v : Nat) : bD (bl i v) ++ [.sc (.bool (v.testBit i))] = bD (bl (i + 1) v) := by rw [bl_succ, bD, bD, List.map_append]; rfl
/-- So many bits of v, from a place on, the highest first. -/
def pv (v at_ n k : Nat) : Nat := v / 2 ^ (at_ + n - k) % 2 ^ k
theorem pv_lt (v at_ n k : Nat) (h : k ≤ 8) : pv v at_ n k < 256 := Nat.lt_of_lt_of_le (Nat.mod_lt _ (Nat.two_pow_pos k)) (Nat.pow_le_pow_right (by decide) h)
theorem pv_step {v at_ n k : Nat} (h : k < n) : pv v at_ n (k + 1) = 2 * pv v at_ n k + (v.testBit (at_ + (n - 1 - k))).toNat := by
  unfold pv
  have e1 : at_ + n - k = at_ + (n - 1 - k) + 1 := by omega
  have e2 : at_ + n - (k + 1) = at_ + (n - 1 - k) := by omega
  rw [e1, e2]
  generalize at_ + (n - 1 - k) = j
  rw [Nat.testBit_eq_decide_div_mod_eq, Nat.pow_succ 2 j, ← Nat.div_div_eq_div_mul]
  generalize v / 2 ^ j = x
  rw [Nat.pow_succ, Nat.mul_comm (2 ^ k) 2, Nat.mod_mul]
  by_cases h1 : x % 2 = 1
  · simp [h1]; omega
  · have : x % 2 = 0 := by omega
    simp [this]
theorem pv_t {v at_ n k : Nat} (h : k < n) (ht : v.testBit (at_ + (n - 1 - k)) = true) : pv v at_ n (k + 1) = 2 * pv v at_ n k + 1 := by rw [pv_step h, ht]; rfl
theorem pv_f {v at_ n k : Nat} (h : k < n) (ht : v.testBit (at_ + (n - 1 - k)) = false) : pv v at_ n (k + 1) = 2 * pv v at_ n k := by rw [pv_step h, ht]; rfl
theorem bit_big {w v j : Nat} (hv : v < 2 ^ w) (h : ¬ j < w) : v.testBit j = false := Nat.testBit_lt_two_pow (Nat.lt_of_lt_of_le hv (Nat.pow_le_pow_right (by decide) (by omega)))
def decB (n : Nat) : ByteArray := ⟨(Lib.decDigits n).toArray⟩
theorem itoaB_dec (w : Nat) : itoaB w = decB w := by unfold itoaB decB Lib.itoa; rw [if_neg (by omega)]; simp
theorem ext_dig : ∀ r : Nat, r < 10 → (⟨#[48, 49, 50, 51, 52, 53, 54, 55, 56, 57]⟩ : ByteArray).extract r (r + 1) = ⟨#[UInt8.ofNat (48 + r)]⟩ := by decide +kernel
theorem decB_big {m : Nat} (h : 9 < m) : decB m = decB (m / 10) ++ (⟨#[48, 49, 50, 51, 52, 53, 54, 55, 56, 57]⟩ : ByteArray).extract (m % 10) (m % 10 + 1) := by
  rw [ext_dig _ (Nat.mod_lt _ (by decide))]
  unfold decB
  rw [Lib.decDigits, dif_neg (by omega)]
  apply ByteArray.ext
  simp
theorem decB_small {m : Nat} (h : ¬ 9 < m) : decB m = (⟨#[48, 49, 50, 51, 52, 53, 54, 55, 56, 57]⟩ : ByteArray).extract m (m + 1) := by
  rw [ext_dig _ (by omega)]
  unfold decB
  rw [Lib.decDigits, dif_pos (by omega)]
theorem decB_len : ∀ n : Nat, n < 1000 → (decB n).size ≤ 3 := by decide +kernel
theorem f_remI {P : Program} {E : Env} {st : St} {d : Nat} {x y : Operand} {ty : TypeId} {pos : String} {af : Array Edge} {g : Option (Nat × Bool)} {t yt : TypeId} {k : IntKind} {p q r : Int} (hx : ev st x = some (.d (.sc (.int k p)))) (hy : ev st y = some (.d (.sc (.int k q)))) (h0 : q ≠ 0) (hr : p.tmod q = r) (hd : d < E.N) :
    FOk P E ⟨some d, .binOp .rem t x y yt, ty, pos, af, g⟩ st (evL x ++ evL y) [] [(.slot d, some (.d (.sc (.int k r))))] := by subst hr; exact f_rem hx hy h0 hd
theorem f_divI {P : Program} {E : Env} {st : St} {d : Nat} {x y : Operand} {ty : TypeId} {pos : String} {af : Array Edge} {g : Option (Nat × Bool)} {t yt : TypeId} {k : IntKind} {p q r : Int} (hx : ev st x = some (.d (.sc (.int k p)))) (hy : ev st y = some (.d (.sc (.int k q)))) (h0 : q ≠ 0) (hr : k.wrap (p.tdiv q) = r) (hd : d < E.N) :
    FOk P E ⟨some d, .binOp .quo t x y yt, ty, pos, af, g⟩ st (evL x ++ evL y) [] [(.slot d, some (.d (.sc (.int k r))))] := by subst hr; exact f_div hx hy h0 hd
/-- The reference's digit. -/
def dgI (c : Nat) : Int := if 48 ≤ c ∧ c ≤ 57 then ((c - 48 : Nat) : Int) else if 97 ≤ c ∧ c ≤ 102 then ((c - 87 : Nat) : Int) else -1
theorem app_nil (a : ByteArray) : a ++ ⟨#[]⟩ = a := by apply ByteArray.ext; simp
theorem app_assoc (a b c : ByteArray) : a ++ b ++ c = a ++ (b ++ c) := by apply ByteArray.ext; simp
theorem fdiv_nat (a i : Nat) (h : i < 64) : ((a : Int)).fdiv (2 ^ min ((i : Int)).toNat IntKind.u64.bits) = ((a / 2 ^ i : Nat) : Int) := by
  rw [show min ((i : Int)).toNat IntKind.u64.bits = i from by rw [Int.toNat_natCast]; exact Nat.min_eq_left (Nat.le_of_lt h), Int.fdiv_eq_ediv_of_nonneg _ (Int.le_of_lt (Int.pow_pos (by decide)))]
  push_cast
  rfl
theorem bit_lo {v i : Nat} (h : i < 64) : (Go.bits .and .u64 ((loOf v).fdiv (2 ^ min ((i : Int)).toNat IntKind.u64.bits)) 1 == 1) = v.testBit i := by
  rw [← bit_word v i h]; unfold loOf; rw [fdiv_nat _ _ h, shr_nat _ (lo_lt v)]
theorem bit_hi {v i : Nat} (hv : v < 2 ^ 128) (h0 : ¬ i < 64) (h : i < 128) : (Go.bits .and .u64 ((hiOf v).fdiv (2 ^ min (((i - 64 : Nat) : Int)).toNat IntKind.u64.bits)) 1 == 1) = v.testBit i := by
  have e := bit_word2 (v := v) (i - 64) hv (by omega)
  rw [show i - 64 + 64 = i from by omega] at e
  rw [← e]; unfold hiOf; rw [fdiv_nat _ _ (by omega), shr_nat _ (hi_lt hv)]

theorem f_shlI {P : Program} {E : Env} {st : St} {d : Nat} {x y : Operand} {ty : TypeId} {pos : String} {af : Array Edge} {g : Option (Nat × Bool)} {t yt : TypeId} {k k' : IntKind} {p q r : Int} (hx : ev st x = some (.d (.sc (.int k p)))) (hy : ev st y = some (.d (.sc (.int k' q)))) (h0 : 0 ≤ q) (hr : k.wrap (p * 2 ^ (min q.toNat k.bits)) = r) (hd : d < E.N) :
    FOk P E ⟨some d, .binOp .shl t x y yt, ty, pos, af, g⟩ st (evL x ++ evL y) [] [(.slot d, some (.d (.sc (.int k r))))] := by subst hr; exact f_shl hx hy h0 hd
theorem f_shrI {P : Program} {E : Env} {st : St} {d : Nat} {x y : Operand} {ty : TypeId} {pos : String} {af : Array Edge} {g : Option (Nat × Bool)} {t yt : TypeId} {k k' : IntKind} {p q r : Int} (hx : ev st x = some (.d (.sc (.int k p)))) (hy : ev st y = some (.d (.sc (.int k' q)))) (h0 : 0 ≤ q) (hr : p.fdiv (2 ^ (min q.toNat k.bits)) = r) (hd : d < E.N) :
    FOk P E ⟨some d, .binOp .shr t x y yt, ty, pos, af, g⟩ st (evL x ++ evL y) [] [(.slot d, some (.d (.sc (.int k r))))] := by subst hr; exact f_shr hx hy h0 hd
theorem f_catI {P : Program} {E : Env} {st : St} {d : Nat} {x y : Operand} {ty : TypeId} {pos : String} {af : Array Edge} {g : Option (Nat × Bool)} {t yt : TypeId} {p q r : ByteArray} (hx : ev st x = some (.d (.sc (.string p)))) (hy : ev st y = some (.d (.sc (.string q)))) (h0 : p.size + q.size ≤ 9223372036854775807) (hr : p ++ q = r) (hd : d < E.N) :
    FOk P E ⟨some d, .binOp .add t x y yt, ty, pos, af, g⟩ st (evL x ++ evL y) [] [(.slot d, some (.d (.sc (.string r))))] := by subst hr; exact f_cat hx hy h0 hd
theorem f_idxS {P : Program} {E : Env} {st : St} {d : Nat} {x y : Operand} {ty : TypeId} {pos : String} {af : Array Edge} {g : Option (Nat × Bool)} {t : TypeId} {s : ByteArray} {k : IntKind} {i : Nat} {c : UInt8} (hx : ev st x = some (.d (.sc (.string s)))) (hy : ev st y = some (.d (.sc (.int k (i : Int))))) (ht : P.underlying t = some .string) (hat : s.data.toList[i]? = some c) (hd : d < E.N) :
    FOk P E ⟨some d, .index t x y, ty, pos, af, g⟩ st (evL x ++ evL y) [] [(.slot d, some (.d (.sc (.int .u8 (c.toNat : Int)))))] := by
  have h1 : i < s.size := by have := (List.getElem?_eq_some_iff.mp hat).1; simpa using this
  have h2 := f_idxStr (P := P) (E := E) (ty := ty) (pos := pos) (af := af) (g := g) hx hy ht (by omega) (by omega) hd
  have e : byteAt s (i : Int) = (c.toNat : Int) := by
    unfold byteAt
    rw [Int.toNat_natCast, ← Array.getElem?_toList, hat]; rfl
  rwa [e] at h2
theorem natL_go {l : List Bool} {i : Nat} (h : i < l.length) (hb : l.getD i false = true) : natL (l.take (i + 1)) = natL (l.take i) + 2 ^ i := by rw [natL_take_succ h, hb]; simp
theorem natL_no {l : List Bool} {i : Nat} (h : i < l.length) (hb : l.getD i false = false) : natL (l.take (i + 1)) = natL (l.take i) := by rw [natL_take_succ h, hb]; simp
theorem bD_getD {l : List Bool} {i : Nat} (h : i < l.length) : (bD l)[((i : Int)).toNat]? = some (.sc (.bool (l.getD i false))) := by
  rw [Int.toNat_natCast, bD, List.getElem?_map, List.getD, List.getElem?_eq_getElem h]; rfl
theorem pow_lt64 {i : Nat} (h : i < 64) : 2 ^ i < 2 ^ 64 := Nat.pow_lt_pow_right (by decide) h
theorem one_shl {i : Nat} (h : i < 64) : IntKind.u64.wrap (1 * 2 ^ (min ((i : Int)).toNat IntKind.u64.bits)) = ((2 ^ i : Nat) : Int) := (shl_nat 1 i).trans (by rw [Nat.one_mul, Nat.mod_eq_of_lt (pow_lt64 h)])
/-- The text of the highest digits, down to the k-th. -/
def sk (v k : Nat) : ByteArray := if k = 0 then hexB v else if v / 16 ^ k = 0 then ⟨#[]⟩ else hexB (v / 16 ^ k)
theorem ext_hx : ∀ r : Nat, r < 16 → (⟨#[48, 49, 50, 51, 52, 53, 54, 55, 56, 57, 97, 98, 99, 100, 101, 102]⟩ : ByteArray).extract r (r + 1) = ⟨#[Hex.hx r]⟩ := by decide +kernel
theorem hexB_small {u : Nat} (h : u < 16) : hexB u = ⟨#[Hex.hx u]⟩ := by unfold hexB; rw [Hex.hexL, if_pos h]
theorem hexB_big {u : Nat} (h : ¬ u < 16) : hexB u = hexB (u / 16) ++ ⟨#[Hex.hx (u % 16)]⟩ := by
  unfold hexB; rw [Hex.hexL, if_neg h]; apply ByteArray.ext; simp
theorem div_step (v k : Nat) (h : 0 < k) : v / 16 ^ k = v / 16 ^ (k - 1) / 16 := by
  rw [Nat.div_div_eq_div_mul, ← Nat.pow_succ, show (k - 1).succ = k from by omega]
theorem digit_at (v k : Nat) : v / 2 ^ (4 * k) % 2 ^ 4 = v / 16 ^ k % 16 := by rw [Nat.pow_mul]
theorem sk_pos {v k : Nat} (hk : 0 < k) : sk v (k - 1) = if k - 1 = 0 then hexB (v / 16 ^ (k - 1)) else if v / 16 ^ (k - 1) = 0 then ⟨#[]⟩ else hexB (v / 16 ^ (k - 1)) := by
  unfold sk
  by_cases h : k - 1 = 0
  · rw [if_pos h, if_pos h, h]; simp
  · rw [if_neg h, if_neg h]
theorem sk_app {v k : Nat} (hk : 0 < k) (h : v / 16 ^ k ≠ 0 ∨ 0 < v / 16 ^ (k - 1) % 16 ∨ k - 1 = 0) : sk v k ++ ⟨#[Hex.hx (v / 16 ^ (k - 1) % 16)]⟩ = sk v (k - 1) := by
  rw [sk_pos hk]
  have e := div_step v k hk
  unfold sk
  rw [if_neg (by omega)]
  generalize v / 16 ^ (k - 1) = u at *
  by_cases h0 : v / 16 ^ k = 0
  · rw [if_pos h0]
    have hu : u < 16 := by rw [h0] at e; omega
    rw [Nat.mod_eq_of_lt hu] at *
    have e2 : (⟨#[]⟩ : ByteArray) ++ ⟨#[Hex.hx u]⟩ = hexB u := by rw [hexB_small hu]; apply ByteArray.ext; simp
    rw [e2]
    split
    · rfl
    · rename_i h1; rw [if_neg (by omega)]
  · rw [if_neg h0]
    have hu : ¬ u < 16 := by omega
    have e2 : hexB (v / 16 ^ k) ++ ⟨#[Hex.hx (u % 16)]⟩ = hexB u := by rw [hexB_big hu, e]
    rw [e2]
    split
    · rfl
    · rw [if_neg (by omega)]
theorem sk_skip {v k : Nat} (hk : 0 < k) (h : v / 16 ^ k = 0) (h1 : ¬ 0 < v / 16 ^ (k - 1) % 16) (h2 : k - 1 ≠ 0) : sk v k = sk v (k - 1) := by
  rw [sk_pos hk, if_neg h2]
  have e := div_step v k hk
  unfold sk
  rw [if_neg (by omega), if_pos h, if_pos (by rw [h] at e; omega)]
theorem hexB_ne (u : Nat) : hexB u ≠ ⟨#[]⟩ := by
  intro h
  have h1 := congrArg (fun b : ByteArray => b.data.toList) h
  simp only [hexB] at h1
  rw [Hex.hexL] at h1
  split at h1 <;> simp at h1
theorem sk_ne {v k : Nat} (hk : 0 < k) (h : v / 16 ^ k ≠ 0) : sk v k ≠ ⟨#[]⟩ := by unfold sk; rw [if_neg (by omega), if_neg h]; exact hexB_ne _
theorem sk_nil {v k : Nat} (hk : 0 < k) (h : v / 16 ^ k = 0) : sk v k = ⟨#[]⟩ := by unfold sk; rw [if_neg (by omega), if_pos h]
theorem hexB_len {u : Nat} (h : u < 2 ^ 128) : (hexB u).size ≤ 32 := by
  have := hexL_le 31 u (by simpa using h)
  simpa [hexB, ByteArray.size] using this
theorem sk_len {v k : Nat} (h : v < 2 ^ 128) : (sk v k).size ≤ 32 := by
  unfold sk
  split
  · exact hexB_len h
  · split
    · exact Nat.zero_le _
    · exact hexB_len (Nat.lt_of_le_of_lt (Nat.div_le_self _ _) h)
/-- The reference's text. -/
def rtextB (w v : Nat) : ByteArray := decB w ++ ⟨#[119]⟩ ++ hexB v

theorem or_add {x y : Nat} (hy : y < 16) : (16 * x ||| y) = 16 * x + y := (Nat.two_pow_add_eq_or_of_lt (i := 4) hy x).symm
/-- One digit more, of 128 bits. -/
def nextV (v d : Nat) : Nat := (v * 16 + d) % 2 ^ 128
theorem nextV_lt (v d : Nat) : nextV v d < 2 ^ 128 := Nat.mod_lt _ (by decide)
theorem sh4 {x : Nat} (hx : x < 2 ^ 64) : IntKind.u64.wrap ((x : Int) * 2 ^ (min ((4 : Int)).toNat IntKind.u64.bits)) = ((16 * (x % 2 ^ 60) : Nat) : Int) := by
  rw [wrap_u64]; show (x : Int) * 16 % _ = _; omega
theorem sh60 {x : Nat} (hx : x < 2 ^ 64) : ((x : Int)).fdiv (2 ^ (min ((60 : Int)).toNat IntKind.u64.bits)) = ((x / 2 ^ 60 : Nat) : Int) := by
  rw [Int.fdiv_eq_ediv_of_nonneg _ (by decide)]; show (x : Int) / 1152921504606846976 = _; omega
theorem next_hi {v d : Nat} (hv : v < 2 ^ 128) (hd : d < 16) : Go.bits .or .u64 ((16 * (v / 2 ^ 64 % 2 ^ 60) : Nat) : Int) ((v % 2 ^ 64 / 2 ^ 60 : Nat) : Int) = hiOf (nextV v d) := by
  rw [or_nat (by omega) (by omega), or_add (by omega)]; unfold hiOf nextV; omega
theorem next_lo {v d : Nat} (hv : v < 2 ^ 128) (hd : d < 16) : Go.bits .or .u64 ((16 * (v % 2 ^ 64 % 2 ^ 60) : Nat) : Int) (d : Int) = loOf (nextV v d) := by
  rw [or_nat (by omega) (by omega), or_add hd]; unfold loOf nextV; omega
theorem dgI_nat {c : Nat} (h : ¬ dgI c < 0) : ∃ d : Nat, dgI c = (d : Int) ∧ d < 16 := by
  unfold dgI at *
  split at h
  · rename_i q; rw [if_pos q]; exact ⟨_, rfl, by omega⟩
  · rename_i q
    split at h
    · rename_i q2; rw [if_neg q, if_pos q2]; exact ⟨_, rfl, by omega⟩
    · exact absurd h (by decide)
/-- What decimal digits, what hexadecimal digits come to. -/
def wv (l : List UInt8) : Nat := l.foldl (fun a c => 10 * a + (c.toNat - 48)) 0
theorem wv_snoc (l : List UInt8) (c : UInt8) : wv (l ++ [c]) = 10 * wv l + (c.toNat - 48) := by simp [wv]
def hv16 (l : List UInt8) : Nat := l.foldl (fun a c => a * 16 + (dgI c.toNat).toNat) 0
theorem hv_snoc (l : List UInt8) (c : UInt8) : hv16 (l ++ [c]) = hv16 l * 16 + (dgI c.toNat).toNat := by simp [hv16]
theorem fold_ge (l : List UInt8) : ∀ a, a ≤ l.foldl (fun a c => a * 16 + (dgI c.toNat).toNat) a := by
  induction l with
  | nil => intro a; exact Nat.le_refl _
  | cons c l ih => intro a; exact Nat.le_trans (show a ≤ a * 16 + (dgI c.toNat).toNat by omega) (ih _)
theorem hv_take (l : List UInt8) (j : Nat) : hv16 (l.take j) ≤ hv16 l := by
  have e : hv16 l = (l.drop j).foldl (fun a c => a * 16 + (dgI c.toNat).toNat) (hv16 (l.take j)) := by
    conv => lhs; rw [← List.take_append_drop j l]
    unfold hv16; rw [List.foldl_append]
  rw [e]; exact fold_ge _ _
theorem wfold_ge (l : List UInt8) : ∀ a, a ≤ l.foldl (fun a c => 10 * a + (c.toNat - 48)) a := by
  induction l with
  | nil => intro a; exact Nat.le_refl _
  | cons c l ih => intro a; exact Nat.le_trans (show a ≤ 10 * a + (c.toNat - 48) by omega) (ih _)
theorem wv_take (l : List UInt8) (j : Nat) : wv (l.take j) ≤ wv l := by
  have e : wv l = (l.drop j).foldl (fun a c => 10 * a + (c.toNat - 48)) (wv (l.take j)) := by
    conv => lhs; rw [← List.take_append_drop j l]
    unfold wv; rw [List.foldl_append]
  rw [e]; exact wfold_ge _ _
theorem take_snoc' {l : List UInt8} {i : Nat} {c : UInt8} (h : l[i]? = some c) : l.take (i + 1) = l.take i ++ [c] := by
  rw [List.take_add_one, h]; rfl

theorem hx_dig : ∀ d : Nat, d < 16 → dig (Hex.hx d).toNat = some d := by decide +kernel
theorem hx_dgI : ∀ d : Nat, d < 16 → dgI (Hex.hx d).toNat = (d : Int) := by decide +kernel
/-- Hexadecimal digits, nothing else. -/
def IsHex (l : List UInt8) : Prop := ∀ c ∈ l, ∃ d : Nat, d < 16 ∧ c = Hex.hx d
theorem hexL_is (u : Nat) : IsHex (Hex.hexL u) := by
  induction u using Nat.strongRecOn with
  | _ u ih =>
    rw [Hex.hexL]
    split
    · rename_i h; intro c hc; simp at hc; exact ⟨u, h, hc⟩
    · intro c hc
      rcases List.mem_append.mp hc with h | h
      · exact ih (u / 16) (by omega) c h
      · simp at h; exact ⟨u % 16, by omega, h⟩
theorem hv_hexL (u : Nat) : hv16 (Hex.hexL u) = u := by
  induction u using Nat.strongRecOn with
  | _ u ih =>
    rw [Hex.hexL]
    split
    · rename_i h; show 0 * 16 + (dgI (Hex.hx u).toNat).toNat = u; rw [hx_dgI u h]; simp
    · rw [hv_snoc, ih (u / 16) (by omega), hx_dgI _ (Nat.mod_lt _ (by decide))]; simp only [Int.toNat_natCast]; omega
theorem fold_app (l : List UInt8) : ∀ a, l.foldl (fun a c => a * 16 + (dgI c.toNat).toNat) a = a * 16 ^ l.length + hv16 l := by
  induction l with
  | nil => intro a; simp [hv16]
  | cons c l ih =>
    intro a
    have e : hv16 (c :: l) = l.foldl (fun a c => a * 16 + (dgI c.toNat).toNat) (0 * 16 + (dgI c.toNat).toNat) := rfl
    rw [List.foldl_cons, ih, e, ih, List.length_cons, Nat.pow_succ]
    rw [Nat.add_mul, Nat.add_mul, Nat.mul_assoc, Nat.mul_comm 16 (16 ^ l.length)]; simp; omega
theorem hv_app (a b : List UInt8) : hv16 (a ++ b) = hv16 a * 16 ^ b.length + hv16 b := by
  rw [← fold_app]; unfold hv16; rw [List.foldl_append]
theorem hv_lt (l : List UInt8) (h : IsHex l) : hv16 l < 16 ^ l.length := by
  induction l with
  | nil => simp [hv16]
  | cons c l ih =>
    obtain ⟨d, hd, rfl⟩ := h c (by simp)
    have e : hv16 (Hex.hx d :: l) = (0 * 16 + (dgI (Hex.hx d).toNat).toNat) * 16 ^ l.length + hv16 l := (fold_app l _)
    rw [e, hx_dgI d hd, List.length_cons, Nat.pow_succ]
    have := ih fun c hc => h c (by simp [hc])
    have h2 : d * 16 ^ l.length ≤ 15 * 16 ^ l.length := Nat.mul_le_mul_right _ (by omega)
    simp only [Int.toNat_natCast, Nat.zero_mul, Nat.zero_add]
    omega
theorem pu_hex : ∀ (l : List UInt8) (n : Nat), IsHex l → l.length ≤ 16 → n < 16 ^ (16 - l.length) → pu16 n l = (l.foldl (fun a c => a * 16 + (dgI c.toNat).toNat) n, 0)
  | [], n, _, _, _ => rfl
  | c :: l, n, h, hl, hn => by
    obtain ⟨d, hd, rfl⟩ := h c (by simp)
    have hl' : l.length + 1 ≤ 16 := hl
    have h1 : n < 16 ^ 15 := Nat.lt_of_lt_of_le hn (Nat.pow_le_pow_right (by decide) (by simp))
    have h2 : n * 16 + d < 16 ^ (16 - l.length) := by
      rw [show 16 - l.length = 16 - (l.length + 1) + 1 from by omega, Nat.pow_succ]
      have : n < 16 ^ (16 - (l.length + 1)) := by simpa using hn
      omega
    rw [pu_go (hx_dig d hd) (by omega) (by have : (16 : Nat) ^ 15 = 1152921504606846976 := rfl; omega), pu_hex l _ (fun c hc => h c (by simp [hc])) (by omega) h2, List.foldl_cons, hx_dgI d hd]
    simp
theorem puOf_hex (b : ByteArray) (h : IsHex b.data.toList) (hl : b.size ≤ 16) : (puOf b).1 = hv16 b.data.toList := by
  unfold puOf
  split
  · rename_i h0
    have : b.data.toList = [] := List.length_eq_zero_iff.mp (by simpa using h0)
    rw [this]; rfl
  · rw [pu_hex _ 0 h (by simpa using hl) (Nat.two_pow_pos 0 |> fun _ => Nat.pow_pos (by decide))]; rfl
theorem idx_at (D H : List UInt8) (h : ∀ c ∈ D, c ≠ 119) : Lib.indexByte (D ++ 119 :: H) 119 = (D.length : Int) := by
  induction D with
  | nil => rfl
  | cons c D ih =>
    have hc := h c (by simp)
    have := ih fun c hc => h c (by simp [hc])
    simp only [List.cons_append, Lib.indexByte]
    rw [if_neg (by simpa using hc), this, if_neg (by simp <;> omega)]
    rfl
theorem ext_list (s : ByteArray) (i j : Nat) : (s.extract i j).data.toList = (s.data.toList.drop i).take (j - i) := by
  rw [ByteArray.data_extract, Array.toList_extract, List.extract_eq_take_drop]
theorem small_ok : ∀ w : Nat, w < 129 → ((Lib.decDigits w).all (fun c => 48 ≤ c.toNat && c.toNat ≤ 57) && decide ((Lib.decDigits w).length ≤ 3) && decide (wv (Lib.decDigits w) = w) && (match Lib.atoiAll (Lib.decDigits w) with | .ok v => v == (w : Int) | _ => false)) = true := by decide +kernel
theorem ba_ext {a b : ByteArray} (h : a.data.toList = b.data.toList) : a = b := by
  cases a; cases b; congr 1; exact Array.toList_inj.mp h
theorem rtext_list (w v : Nat) : (rtextB w v).data.toList = Lib.decDigits w ++ 119 :: Hex.hexL v := by
  unfold rtextB decB hexB; simp
section
variable {w v : Nat} (h0 : 1 ≤ w) (h : w ≤ 128) (hv : v < 2 ^ 128)
theorem yes_of (h : w ≤ 128) : (∀ c ∈ Lib.decDigits w, 48 ≤ c.toNat ∧ c.toNat ≤ 57) ∧ (Lib.decDigits w).length ≤ 3 ∧ wv (Lib.decDigits w) = w ∧ Lib.atoiAll (Lib.decDigits w) = .ok (w : Int) := by
  have e := small_ok w (by omega)
  simp only [Bool.and_eq_true, List.all_eq_true, decide_eq_true_eq] at e
  obtain ⟨⟨⟨e1, e2⟩, e3⟩, e4⟩ := e
  refine ⟨e1, e2, e3, ?_⟩
  split at e4
  · rename_i q hq; rw [hq, eq_of_beq e4]
  · cases e4
theorem cut_idx (h : w ≤ 128) : Lib.indexByte (rtextB w v).data.toList 119 = ((Lib.decDigits w).length : Int) := by
  rw [rtext_list]
  exact idx_at _ _ fun c hc e => by have := (yes_of h).1 c hc; rw [e] at this; exact absurd this.2 (by decide)
theorem cutA_is (h : w ≤ 128) : cutA (rtextB w v) = decB w := by
  unfold cutA
  rw [cut_idx h, if_pos (by omega)]
  apply ba_ext
  rw [ext_list, rtext_list]
  simp [decB]
theorem rtext_size : (rtextB w v).size = (Lib.decDigits w).length + 1 + (Hex.hexL v).length := by
  have := congrArg List.length (rtext_list w v)
  rw [Array.length_toList, List.length_append, List.length_cons] at this
  exact this.trans (by omega)
theorem cutB_is (h : w ≤ 128) : cutB (rtextB w v) = hexB v := by
  unfold cutB
  rw [cut_idx h, if_pos (by omega)]
  apply ba_ext
  rw [ext_list, rtext_list, rtext_size]
  simp [hexB]
theorem pW_is (h : w ≤ 128) : pW (rtextB w v) = w := by
  unfold pW atoiN
  rw [cutA_is h]
  show (match Lib.atoiAll (decB w).data.toList with | .ok v => v | .syntax => 0 | .range => _) = _
  rw [show (decB w).data.toList = Lib.decDigits w from by simp [decB], (yes_of h).2.2.2]
theorem pV_is (h : w ≤ 128) (hv : v < 2 ^ 128) : pV (rtextB w v) = v := by
  have hlen := hexL_le 31 v (by simpa using hv)
  have hhex := hexL_is v
  have hval := hv_hexL v
  have hsz : (hexB v).size = (Hex.hexL v).length := by simp [hexB, ByteArray.size]
  have hl : (hexB v).data.toList = Hex.hexL v := by simp [hexB]
  unfold pV pH pL
  rw [cutB_is h, puOf_hex, puOf_hex, ext_list, ext_list, hl, hsz]
  · generalize hL : Hex.hexL v = L at *
    rw [List.drop_zero, Nat.sub_zero, List.take_of_length_le (l := L.drop (L.length - 16)) (by rw [List.length_drop]; exact Nat.le_refl _)]
    have e := hv_app (L.take (L.length - 16)) (L.drop (L.length - 16))
    rw [List.take_append_drop, hval] at e
    by_cases h16 : L.length ≤ 16
    · rw [show L.length - 16 = 0 from by omega, List.take_zero, List.drop_zero, show hv16 ([] : List UInt8) = 0 from rfl, Nat.zero_mul, Nat.zero_add]; exact hval
    · rw [List.length_drop, show L.length - (L.length - 16) = 16 from by omega] at e
      rw [show (18446744073709551616 : Nat) = 16 ^ 16 from rfl]; exact e.symm
  · rw [ext_list, hl]
    intro c hc
    exact hhex c (List.mem_of_mem_drop (List.mem_of_mem_take hc))
  · rw [ByteArray.size_extract]; omega
  · rw [ext_list, hl]
    intro c hc
    exact hhex c (List.mem_of_mem_drop (List.mem_of_mem_take hc))
  · rw [ByteArray.size_extract]; omega
end
theorem app_list (a b : ByteArray) : (a ++ b).data.toList = a.data.toList ++ b.data.toList := by simp
/-- Exactly so many digits. -/
def pad : Nat → Nat → List UInt8
  | 0, _ => []
  | k + 1, r => pad k (r / 16) ++ [Hex.hx (r % 16)]
theorem hexL_pad (u : Nat) (hu : 0 < u) : ∀ (k r : Nat), r < 16 ^ k → Hex.hexL (u * 16 ^ k + r) = Hex.hexL u ++ pad k r
  | 0, r, h => by
    obtain rfl : r = 0 := (by simpa using h)
    simp [pad]
  | k + 1, r, h => by
    have hp := Nat.pow_pos (n := k) (show 0 < 16 by decide)
    have e1 : (u * 16 ^ (k + 1) + r) / 16 = u * 16 ^ k + r / 16 := by rw [Nat.pow_succ, ← Nat.mul_assoc]; omega
    have e2 : (u * 16 ^ (k + 1) + r) % 16 = r % 16 := by rw [Nat.pow_succ, ← Nat.mul_assoc]; omega
    have h1 : r / 16 < 16 ^ k := Nat.div_lt_of_lt_mul (by rw [Nat.mul_comm, ← Nat.pow_succ]; exact h)
    rw [Hex.hexL, if_neg (by rw [Nat.pow_succ, ← Nat.mul_assoc]; have : 1 * 1 ≤ u * 16 ^ k := Nat.mul_le_mul hu hp; omega), e1, e2, hexL_pad u hu k (r / 16) h1, pad, List.append_assoc]
theorem pad_zero : ∀ k, pad k 0 = List.replicate k 48
  | 0 => rfl
  | k + 1 => by rw [pad, Nat.zero_div, pad_zero k, show Hex.hx (0 % 16) = 48 from by decide, List.replicate_succ']
theorem pad_hexL : ∀ (k r : Nat), (Hex.hexL r).length ≤ k → pad k r = List.replicate (k - (Hex.hexL r).length) 48 ++ Hex.hexL r
  | 0, r, h => by rw [Hex.hexL] at h; split at h <;> simp at h
  | k + 1, r, h => by
    by_cases hr : r < 16
    · have e : Hex.hexL r = [Hex.hx r] := by rw [Hex.hexL, if_pos hr]
      rw [pad, Nat.div_eq_of_lt hr, pad_zero, Nat.mod_eq_of_lt hr, e]; simp
    · have e : Hex.hexL r = Hex.hexL (r / 16) ++ [Hex.hx (r % 16)] := by rw [Hex.hexL, if_neg hr]
      rw [e, List.length_append] at h
      rw [pad, pad_hexL k (r / 16) (by simpa using h), e, List.length_append, List.append_assoc]
      simp
theorem digits_is {v : Nat} (hv : v < 2 ^ 128) : digitsB v = hexB v := by
  unfold digitsB
  by_cases h : 0 < v / 2 ^ 64
  · rw [if_pos h]
    apply ba_ext
    have hs : (hexB (v % 2 ^ 64)).size = (Hex.hexL (v % 2 ^ 64)).length := by simp [hexB, ByteArray.size]
    have hl := hexL_le 15 (v % 2 ^ 64) (by have := Nat.mod_lt v (show 0 < 2 ^ 64 by decide); simpa using this)
    have e := hexL_pad (v / 2 ^ 64) h 16 (v % 2 ^ 64) (by have := Nat.mod_lt v (show 0 < 2 ^ 64 by decide); simpa using this)
    rw [show v / 2 ^ 64 * 16 ^ 16 + v % 2 ^ 64 = v from by rw [show (16 : Nat) ^ 16 = 2 ^ 64 from rfl]; omega, pad_hexL 16 _ hl] at e
    have hz : (zerosB (16 - (hexB (v % 2 ^ 64)).size)).data.toList = List.replicate (16 - (Hex.hexL (v % 2 ^ 64)).length) 48 := by
      rw [hs]
      generalize 16 - (Hex.hexL (v % 2 ^ 64)).length = c
      show (⟨(Lib.repeatL [48] c).toArray⟩ : ByteArray).data.toList = _
      simp only
      induction c with
      | zero => rfl
      | succ c ih => rw [Lib.repeatL, ih, List.replicate_succ]; rfl
    show (hexB (v / 2 ^ 64) ++ zerosB (16 - (hexB (v % 2 ^ 64)).size) ++ hexB (v % 2 ^ 64)).data.toList = (hexB v).data.toList
    rw [app_list, app_list, hz]
    unfold hexB
    rw [e]; simp
  · rw [if_neg h, Nat.mod_eq_of_lt (by omega)]
theorem rtext_eq {w v : Nat} (hv : v < 2 ^ 128) : textB w v = rtextB w v := by
  unfold textB rtextB
  rw [itoaB_dec, digits_is hv]

/-- One byte more. -/
theorem sh8 {x : Nat} (hx : x < 2 ^ 64) : IntKind.u64.wrap ((x : Int) * 2 ^ (min ((8 : Int)).toNat IntKind.u64.bits)) = ((256 * (x % 2 ^ 56) : Nat) : Int) := by
  rw [wrap_u64]; show (x : Int) * 256 % _ = _; omega
theorem sh56 {x : Nat} (hx : x < 2 ^ 64) : ((x : Int)).fdiv (2 ^ (min ((56 : Int)).toNat IntKind.u64.bits)) = ((x / 2 ^ 56 : Nat) : Int) := by
  rw [Int.fdiv_eq_ediv_of_nonneg _ (by decide)]; show (x : Int) / 72057594037927936 = _; omega
theorem or_add8 {x y : Nat} (hy : y < 256) : (256 * x ||| y) = 256 * x + y := (Nat.two_pow_add_eq_or_of_lt (i := 8) hy x).symm
theorem byte_hi {v c : Nat} (hv : v * 256 + c < 2 ^ 128) (hc : c < 256) : Go.bits .or .u64 ((256 * (v / 2 ^ 64 % 2 ^ 56) : Nat) : Int) ((v % 2 ^ 64 / 2 ^ 56 : Nat) : Int) = hiOf (v * 256 + c) := by
  rw [or_nat (by omega) (by omega), or_add8 (by omega)]; unfold hiOf; omega
theorem byte_lo {v c : Nat} (hv : v * 256 + c < 2 ^ 128) (hc : c < 256) : Go.bits .or .u64 ((256 * (v % 2 ^ 64 % 2 ^ 56) : Nat) : Int) (c : Int) = loOf (v * 256 + c) := by
  rw [or_nat (by omega) (by omega), or_add8 hc]; unfold loOf; omega
/-- The first bytes' number. -/
def vUp (w v j : Nat) : Nat := v / 2 ^ (8 * ((w + 7) / 8 - j))
theorem vUp_zero {w v : Nat} (hv : v < 2 ^ w) : vUp w v 0 = 0 := Nat.div_eq_of_lt (Nat.lt_of_lt_of_le hv (Nat.pow_le_pow_right (by decide) (by omega)))
theorem vUp_end (w v : Nat) : vUp w v ((w + 7) / 8) = v := by unfold vUp; rw [Nat.sub_self]; simp
theorem vUp_le (w v j : Nat) : vUp w v j ≤ v := Nat.div_le_self _ _
def byteN (w v j : Nat) : Nat := v / 2 ^ (8 * ((w + 7) / 8 - 1 - j)) % 256
theorem vUp_step {w v j : Nat} (h : j < (w + 7) / 8) : vUp w v (j + 1) = vUp w v j * 256 + byteN w v j := by
  unfold vUp byteN
  rw [show 8 * ((w + 7) / 8 - j) = 8 * ((w + 7) / 8 - 1 - j) + 8 from by omega, Nat.pow_add, ← Nat.div_div_eq_div_mul, show (w + 7) / 8 - (j + 1) = (w + 7) / 8 - 1 - j from by omega]
  generalize v / 2 ^ (8 * ((w + 7) / 8 - 1 - j)) = x
  omega
theorem bytesOf_len (w v : Nat) : (bytesOf w v).length = (w + 7) / 8 := by simp [bytesOf, bytesUpto]
theorem bytesOf_at {w v j : Nat} (h : j < (w + 7) / 8) : (bytesOf w v)[j]? = some (byteN w v j : Int) := by
  unfold bytesOf bytesUpto
  rw [List.getElem?_map, List.getElem?_range h]; rfl
theorem byteN_lt (w v j : Nat) : byteN w v j < 256 := Nat.mod_lt _ (by decide)
theorem text_inj {w v w' v' : Nat} (h : w ≤ 128) (hv : v < 2 ^ 128) (h' : w' ≤ 128) (hv' : v' < 2 ^ 128) : (decide (textB w' v' = textB w v) == decide (w = w' ∧ v = v')) = true := by
  have key : textB w' v' = textB w v ↔ (w = w' ∧ v = v') := by
    constructor
    · intro e
      rw [rtext_eq hv, rtext_eq hv'] at e
      have e1 := congrArg pW e
      have e2 := congrArg pV e
      rw [pW_is h, pW_is h'] at e1
      rw [pV_is h hv, pV_is h' hv'] at e2
      exact ⟨by omega, e2.symm⟩
    · rintro ⟨rfl, rfl⟩; rfl
  by_cases e : w = w' ∧ v = v'
  · rw [decide_eq_true e, decide_eq_true (key.mpr e)]; rfl
  · rw [decide_eq_false e, decide_eq_false (fun q => e (key.mp q))]; rfl

set_option maxRecDepth 100000 in
theorem wide_yes {w : Nat} (h0 : 1 ≤ w) (h : w ≤ 128) : CallsP Tryd.prog Tabs 24 [.sc (.int .i64 (w : Int))] (.sc (.bool true)) := by
  refine callsP_of gs_tabs Tryd.func24 rfl Tryd.ntmps24 rfl fun w0 S0 stab => ?_
  refine hits_seq ?_
  refine hits_region ?_
  refine sq (f_assign rfl (lt rfl)) rfl rfl ?_
  refine hits_nil ?_
  refine to_next ?_
  refine hits_seq ?_
  refine hits_region ?_
  refine sq (f_move rfl (lt rfl)) rfl rfl ?_
  refine sq (f_bin rfl rfl (bT (decide_eq_true (by omega))) (lt rfl)) rfl rfl ?_
  refine sq (f_move rfl (lt rfl)) rfl rfl ?_
  refine sq_yes (f_move rfl (lt rfl)) rfl rfl rfl rfl (lt rfl) ?_
  refine sq_yes (f_bin rfl rfl (bT (decide_eq_true (by omega))) (lt rfl)) rfl rfl rfl rfl (lt rfl) ?_
  refine sq (f_pick rfl rfl (lt rfl)) rfl rfl ?_
  refine sq (f_assign rfl (lt rfl)) rfl rfl ?_
  refine hits_nil ?_
  refine to_next ?_
  refine hits_ret ?_
  exact hits_done (.inl rfl) rfl rfl rfl

set_option maxRecDepth 100000 in
theorem bytes_no {a0 a1 a2 : Int} (hc : PTryd.bits_Check.f a0 a1 a2 = some false) : CallsP Tryd.prog Tabs 21 [.agg [.sc (.int .i64 a0), .sc (.int .u64 a1), .sc (.int .u64 a2)]] (.tup [.sc (.slice none 0 0), .sc (.int .i64 1)]) := by
  refine callsP_of gs_tabs Tryd.func21 rfl Tryd.ntmps21 rfl fun w0 S0 stab => ?_
  refine hits_seq ?_
  refine hits_region ?_
  refine sq (f_box rfl rfl (lt rfl)) rfl rfl ?_
  refine sq (f_assign rfl (lt rfl)) rfl rfl ?_
  refine sq (f_assign rfl (lt rfl)) rfl rfl ?_
  refine hits_nil ?_
  refine to_next ?_
  refine hits_seq ?_
  refine hits_seq ?_
  refine hits_region ?_
  refine sq (f_load kd27 rfl rfl (lt rfl)) rfl rfl ?_
  refine sq (f_call en15 rfl (check_c hc) (lt rfl)) rfl rfl ?_
  refine sq (f_un rfl rfl (lt rfl)) rfl rfl ?_
  refine hits_nil ?_
  refine to_next ?_
  refine hits_cond rfl (fun c0 => ?_) (fun c0 => ?_)
  case refine_2 => exact absurd c0 Bool.false_ne_true.symm
  case refine_1 =>
    refine hits_seq ?_
    refine hits_region ?_
    refine sq (f_assign rfl (lt rfl)) rfl rfl ?_
    refine sq (f_assign rfl (lt rfl)) rfl rfl ?_
    refine hits_nil ?_
    refine to_next ?_
    refine hits_ret ?_
    refine to_ret ?_
    exact hits_done (.inl rfl) rfl rfl rfl

set_option maxRecDepth 100000 in
theorem read_c {w v : Nat} (h0 : 1 ≤ w) (h : w ≤ 128) (hv : v < 2 ^ w) : CallsP Tryd.prog Tabs 22 [.sc (.int .i64 (w : Int)), bytesD (bytesOf w v)] (.tup [bitD w v, .sc (.int .i64 0)]) := by
  have hv' := lt128 h hv
  have hl : ((bytesOf w v).map fun n => D.sc (.int .u8 n)).length = (w + 7) / 8 := by rw [List.length_map, bytesOf_len]
  refine callsP_of gs_tabs Tryd.func22 rfl Tryd.ntmps22 rfl fun w0 S0 stab => ?_
  refine hits_seq ?_
  refine hits_region ?_
  refine sq (f_alloc zc27 (lt rfl)) rfl rfl ?_
  refine sq (f_assign rfl (lt rfl)) rfl rfl ?_
  refine hits_nil ?_
  refine to_next ?_
  refine hits_seq ?_
  refine hits_region ?_
  refine sq (f_move rfl (lt rfl)) rfl rfl ?_
  refine sq (f_build bu27 rfl rfl (lt rfl)) rfl rfl ?_
  refine sq (f_alloc zc27 (lt rfl)) rfl rfl ?_
  refine sq (f_store kd27 rfl rfl rfl rfl rfl) rfl rfl ?_
  refine hits_nil ?_
  refine to_next ?_
  refine hits_seq ?_
  refine hits_block ?_
  refine hits_seq ?_
  refine hits_region ?_
  refine sq (f_move rfl (lt rfl)) rfl rfl ?_
  refine sq (f_call en24 rfl (wide_yes h0 h) (lt rfl)) rfl rfl ?_
  refine sq (f_un rfl rfl (lt rfl)) rfl rfl ?_
  refine sq (f_assign rfl (lt rfl)) rfl rfl ?_
  refine hits_nil ?_
  refine to_next ?_
  refine hits_cond rfl (fun c0 => ?_) (fun c0 => ?_)
  case refine_1 => exact absurd c0 Bool.false_ne_true
  case refine_2 =>
    refine hits_seq ?_
    refine hits_region ?_
    refine sq (f_move rfl (lt rfl)) rfl rfl ?_
    refine sq (f_lenList rfl rfl un49 (lt rfl)) rfl rfl ?_
    refine sq (f_move rfl (lt rfl)) rfl rfl ?_
    refine sq (f_bin rfl rfl (iT (((IntWalk.i64_in _ (by omega)).trans (by omega) : _ = ((w + 7 : Nat) : Int)))) (lt rfl)) rfl rfl ?_
    refine sq (f_divI rfl rfl (by decide) (by rw [Int.tdiv_eq_ediv_of_nonneg (by omega), IntWalk.i64_in _ (by omega)]; omega : _ = (((w + 7) / 8 : Nat) : Int)) (lt rfl)) rfl rfl ?_
    refine sq (f_bin rfl rfl (bT (b' := false) (by show ((((bytesOf w v).map fun n => D.sc (.int .u8 n)).length : Int) != (((w + 7) / 8 : Nat) : Int)) = false; rw [hl]; simp)) (lt rfl)) rfl rfl ?_
    refine sq (f_assign rfl (lt rfl)) rfl rfl ?_
    refine hits_nil ?_
    refine to_next ?_
    refine hits_cond rfl (fun c1 => ?_) (fun c1 => ?_)
    case refine_1 => exact absurd c1 Bool.false_ne_true
    case refine_2 =>
      refine hits_skip ?_
      refine in_next ?_
      refine to_next ?_
      refine hits_seq ?_
      refine hits_seq ?_
      refine hits_region ?_
      refine sq (f_move rfl (lt rfl)) rfl rfl ?_
      refine sq (f_lenList rfl rfl un49 (lt rfl)) rfl rfl ?_
      refine sq (f_move rfl (lt rfl)) rfl rfl ?_
      refine hits_nil ?_
      refine to_next ?_
      refine hits_block ?_
      refine hits_loop (fun j : Nat => [(.slot 24, some (.d (bytesD (bytesOf w v)))), (.slot 25, some (.d (.sc (.int .i64 (((bytesOf w v).map fun n => D.sc (.int .u8 n)).length : Int))))), (.slot 26, some (.d (.sc (.int .i64 (j : Int))))), (.slot 6, some (.ptr 6 0)), (.cell 6 0, some (.d (.sc (.int .i64 (w : Int))))), (.cell 6 1, some (.d (.sc (.int .u64 (hiOf (vUp w v j)))))), (.cell 6 2, some (.d (.sc (.int .u64 (loOf (vUp w v j)))))), (.box 6, some (.ptr 6 0)), (.slot 4, some (.ptr 4 0)), (.cell 4 0, some (.d (.sc (.int .i64 0)))), (.cell 4 1, some (.d (.sc (.int .u64 0)))), (.cell 4 2, some (.d (.sc (.int .u64 0)))), (.box 4, some (.ptr 4 0))]) (fun j : Nat => j ≤ (w + 7) / 8) (fun j : Nat => (w + 7) / 8 - j) 0 (Nat.zero_le _) ⟨rfl, rfl, rfl, rfl, rfl, congrArg (fun z : Int => some (V.d (.sc (.int .u64 z)))) (by rw [vUp_zero hv]; simp [hiOf]), congrArg (fun z : Int => some (V.d (.sc (.int .u64 z)))) (by rw [vUp_zero hv]; simp [loOf]), rfl, rfl, rfl, rfl, rfl, rfl, trivial⟩ rfl ?_
      intro j hj
      refine hits_seq ?_
      by_cases h1 : j < (w + 7) / 8
      · have hat := bytes_at (bytesOf_at (v := v) h1)
        have hst := vUp_step (v := v) h1
        have hle := vUp_le w v (j + 1)
        have hle0 := vUp_le w v j
        have hbl := byteN_lt w v j
        have hvj : vUp w v j < 2 ^ 128 := by omega
        have hvn : vUp w v j * 256 + byteN w v j < 2 ^ 128 := by omega
        refine hits_region ?_
        refine sq (f_bin rfl rfl (bT (decide_eq_true (by omega))) (lt rfl)) rfl rfl ?_
        refine hits_nil ?_
        refine to_next ?_
        refine hits_seq ?_
        refine hits_cond rfl (fun c2 => ?_) (fun c2 => ?_)
        case refine_2 => exact absurd c2 Bool.false_ne_true.symm
        case refine_1 =>
          refine hits_skip ?_
          refine to_next ?_
          refine hits_seq ?_
          refine hits_block ?_
          refine hits_seq ?_
          refine hits_region ?_
          refine sq (f_idxList rfl rfl rfl un49 kd5 (Int.natCast_nonneg _) hat (lt rfl)) rfl rfl ?_
          refine sq (f_load kd5 rfl rfl (lt rfl)) rfl rfl ?_
          refine sq (f_assign rfl (lt rfl)) rfl rfl ?_
          refine hits_nil ?_
          refine to_next ?_
          refine hits_region ?_
          refine sq (f_fieldAddr rfl kf27_1 rfl (lt rfl)) rfl rfl ?_
          refine sq (f_load kd22 rfl rfl (lt rfl)) rfl rfl ?_
          refine sq (f_shlI rfl rfl (by decide) (sh8 (hi_lt hvj)) (lt rfl)) rfl rfl ?_
          refine sq (f_fieldAddr rfl kf27_2 rfl (lt rfl)) rfl rfl ?_
          refine sq (f_load kd22 rfl rfl (lt rfl)) rfl rfl ?_
          refine sq (f_shrI rfl rfl (by decide) (sh56 (lo_lt _)) (lt rfl)) rfl rfl ?_
          refine sq (f_bin rfl rfl (iT ((byte_hi hvn hbl).trans (congrArg hiOf hst.symm))) (lt rfl)) rfl rfl ?_
          refine sq (f_fieldAddr rfl kf27_2 rfl (lt rfl)) rfl rfl ?_
          refine sq (f_load kd22 rfl rfl (lt rfl)) rfl rfl ?_
          refine sq (f_shlI rfl rfl (by decide) (sh8 (lo_lt _)) (lt rfl)) rfl rfl ?_
          refine sq (f_move rfl (lt rfl)) rfl rfl ?_
          refine sq (f_convI rfl us5 un22 (u64_in (by omega)) (lt rfl)) rfl rfl ?_
          refine sq (f_bin rfl rfl (iT ((byte_lo hvn hbl).trans (congrArg loOf hst.symm))) (lt rfl)) rfl rfl ?_
          refine sq (f_fieldAddr rfl kf27_1 rfl (lt rfl)) rfl rfl ?_
          refine sq (f_store kd22 rfl rfl rfl rfl rfl) rfl rfl ?_
          refine sq (f_fieldAddr rfl kf27_2 rfl (lt rfl)) rfl rfl ?_
          refine sq (f_store kd22 rfl rfl rfl rfl rfl) rfl rfl ?_
          refine hits_nil ?_
          refine in_next ?_
          refine to_next ?_
          refine hits_region ?_
          refine sq (f_bin rfl rfl (iT ((wrap_succ (by omega) : _ = ((j + 1 : Nat) : Int)))) (lt rfl)) rfl rfl ?_
          refine sq (f_move rfl (lt rfl)) rfl rfl ?_
          refine hits_nil ?_
          refine to_next ?_
          exact round_end (j + 1) (by omega) (by omega) ⟨rfl, rfl, rfl, rfl, rfl, rfl, rfl, rfl, rfl, rfl, rfl, rfl, rfl, trivial⟩ rfl
      · obtain rfl : j = (w + 7) / 8 := by omega
        refine hits_region ?_
        refine sq (f_bin rfl rfl (bT (decide_eq_false (by omega))) (lt rfl)) rfl rfl ?_
        refine hits_nil ?_
        refine to_next ?_
        refine hits_seq ?_
        refine hits_cond rfl (fun c2 => ?_) (fun c2 => ?_)
        case refine_1 => exact absurd c2 Bool.false_ne_true
        case refine_2 =>
          refine hits_exit ?_
          refine to_exit ?_
          refine to_exit ?_
          refine in_hit rfl ?_
          refine to_next ?_
          refine hits_seq ?_
          refine hits_seq ?_
          rw [vUp_end]
          refine hits_region ?_
          refine sq (f_load kd27 rfl rfl (lt rfl)) rfl rfl ?_
          refine sq (f_call en15 rfl (check_c (check_ok h0 h hv)) (lt rfl)) rfl rfl ?_
          refine sq (f_un rfl rfl (lt rfl)) rfl rfl ?_
          refine hits_nil ?_
          refine to_next ?_
          refine hits_cond rfl (fun c3 => ?_) (fun c3 => ?_)
          case refine_1 => exact absurd c3 Bool.false_ne_true
          case refine_2 =>
            refine hits_skip ?_
            refine to_next ?_
            refine hits_seq ?_
            refine hits_region ?_
            refine sq (f_load kd27 rfl rfl (lt rfl)) rfl rfl ?_
            refine sq (f_store kd27 rfl rfl rfl rfl rfl) rfl rfl ?_
            refine sq (f_assign rfl (lt rfl)) rfl rfl ?_
            refine hits_nil ?_
            refine to_next ?_
            refine hits_ret ?_
            exact hits_done (.inl rfl) rfl rfl rfl

end Go.Proofs.YthhlnghpbjmfpaaDoor.AbBits
