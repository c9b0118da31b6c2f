/- The law BitsBytes over data, from what both sides answer. -/
import Derived.Test.YtcaedggggkchiaaGreatDoorAbBookB
namespace Go.Proofs.YtcaedggggkchiaaGreatDoor.Ln
open Go Go.RowKit Go.Ab Go.Proofs 
set_option linter.unusedVariables false
set_option linter.unusedSimpArgs false
theorem sk35 : sk Tryz.prog 35 = some (108, 3, [.slice none 0 0, .slice none 0 0, .int .i64 0]) := by kernel_rfl
theorem apk35 : apk Tryz.prog 35 35 = some (108, 3, 56) := by kernel_rfl
theorem en9 : enters Tryz.prog 9 = true := by kernel_rfl
theorem en8 : enters Tryz.prog 8 = true := by kernel_rfl
theorem en10 : enters Tryz.prog 10 = true := by kernel_rfl
theorem en11 : enters Tryz.prog 11 = true := by kernel_rfl
theorem en12 : enters Tryz.prog 12 = true := by kernel_rfl
theorem en13 : enters Tryz.prog 13 = true := by kernel_rfl
theorem en14 : enters Tryz.prog 14 = true := by kernel_rfl
theorem en15 : enters Tryz.prog 15 = true := by kernel_rfl
theorem bu108 : bk Tryz.prog 108 = some ([(0, 1), (1, 1), (2, 1)], [.slice none 0 0, .slice none 0 0, .int .i64 0]) := by kernel_rfl
theorem en134 : enters Tryz.prog 134 = true := by kernel_rfl
theorem en95 : enters Tryz.prog 95 = true := by kernel_rfl
theorem en34 : enters Tryz.prog 34 = true := by kernel_rfl
theorem en64 : enters Tryz.prog 64 = true := by kernel_rfl
theorem en94 : enters Tryz.prog 94 = true := by kernel_rfl
theorem en36 : enters Tryz.prog 36 = true := by kernel_rfl
theorem en66 : enters Tryz.prog 66 = true := by kernel_rfl
theorem en96 : enters Tryz.prog 96 = true := by kernel_rfl
theorem en37 : enters Tryz.prog 37 = true := by kernel_rfl
theorem en67 : enters Tryz.prog 67 = true := by kernel_rfl
theorem en97 : enters Tryz.prog 97 = true := by kernel_rfl
theorem en38 : enters Tryz.prog 38 = true := by kernel_rfl
theorem en68 : enters Tryz.prog 68 = true := by kernel_rfl
theorem en98 : enters Tryz.prog 98 = true := by kernel_rfl
theorem en39 : enters Tryz.prog 39 = true := by kernel_rfl
theorem en69 : enters Tryz.prog 69 = true := by kernel_rfl
theorem en99 : enters Tryz.prog 99 = true := by kernel_rfl
theorem en40 : enters Tryz.prog 40 = true := by kernel_rfl
theorem en70 : enters Tryz.prog 70 = true := by kernel_rfl
theorem en100 : enters Tryz.prog 100 = true := by kernel_rfl
theorem en41 : enters Tryz.prog 41 = true := by kernel_rfl
theorem en71 : enters Tryz.prog 71 = true := by kernel_rfl
theorem en101 : enters Tryz.prog 101 = true := by kernel_rfl
theorem en42 : enters Tryz.prog 42 = true := by kernel_rfl
theorem en72 : enters Tryz.prog 72 = true := by kernel_rfl
theorem en102 : enters Tryz.prog 102 = true := by kernel_rfl
theorem en43 : enters Tryz.prog 43 = true := by kernel_rfl
theorem en73 : enters Tryz.prog 73 = true := by kernel_rfl
theorem en103 : enters Tryz.prog 103 = true := by kernel_rfl
theorem en44 : enters Tryz.prog 44 = true := by kernel_rfl
theorem en74 : enters Tryz.prog 74 = true := by kernel_rfl
theorem en104 : enters Tryz.prog 104 = true := by kernel_rfl
theorem en45 : enters Tryz.prog 45 = true := by kernel_rfl
theorem en75 : enters Tryz.prog 75 = true := by kernel_rfl
theorem en105 : enters Tryz.prog 105 = true := by kernel_rfl
theorem en46 : enters Tryz.prog 46 = true := by kernel_rfl
theorem en76 : enters Tryz.prog 76 = true := by kernel_rfl
theorem en106 : enters Tryz.prog 106 = true := by kernel_rfl
theorem en47 : enters Tryz.prog 47 = true := by kernel_rfl
theorem en77 : enters Tryz.prog 77 = true := by kernel_rfl
theorem en107 : enters Tryz.prog 107 = true := by kernel_rfl
theorem en48 : enters Tryz.prog 48 = true := by kernel_rfl
theorem en78 : enters Tryz.prog 78 = true := by kernel_rfl
theorem en108 : enters Tryz.prog 108 = true := by kernel_rfl
theorem en49 : enters Tryz.prog 49 = true := by kernel_rfl
theorem en79 : enters Tryz.prog 79 = true := by kernel_rfl
theorem en109 : enters Tryz.prog 109 = true := by kernel_rfl
theorem en50 : enters Tryz.prog 50 = true := by kernel_rfl
theorem en80 : enters Tryz.prog 80 = true := by kernel_rfl
theorem en110 : enters Tryz.prog 110 = true := by kernel_rfl
theorem en51 : enters Tryz.prog 51 = true := by kernel_rfl
theorem en81 : enters Tryz.prog 81 = true := by kernel_rfl
theorem en111 : enters Tryz.prog 111 = true := by kernel_rfl
theorem en52 : enters Tryz.prog 52 = true := by kernel_rfl
theorem en82 : enters Tryz.prog 82 = true := by kernel_rfl
theorem en112 : enters Tryz.prog 112 = true := by kernel_rfl
theorem en53 : enters Tryz.prog 53 = true := by kernel_rfl
theorem en83 : enters Tryz.prog 83 = true := by kernel_rfl
theorem en113 : enters Tryz.prog 113 = true := by kernel_rfl
theorem en54 : enters Tryz.prog 54 = true := by kernel_rfl
theorem en84 : enters Tryz.prog 84 = true := by kernel_rfl
theorem en114 : enters Tryz.prog 114 = true := by kernel_rfl
theorem en55 : enters Tryz.prog 55 = true := by kernel_rfl
theorem en85 : enters Tryz.prog 85 = true := by kernel_rfl
theorem en115 : enters Tryz.prog 115 = true := by kernel_rfl
theorem en56 : enters Tryz.prog 56 = true := by kernel_rfl
theorem en86 : enters Tryz.prog 86 = true := by kernel_rfl
theorem en116 : enters Tryz.prog 116 = true := by kernel_rfl
theorem en57 : enters Tryz.prog 57 = true := by kernel_rfl
theorem en87 : enters Tryz.prog 87 = true := by kernel_rfl
theorem en117 : enters Tryz.prog 117 = true := by kernel_rfl
theorem en58 : enters Tryz.prog 58 = true := by kernel_rfl
theorem en88 : enters Tryz.prog 88 = true := by kernel_rfl
theorem en118 : enters Tryz.prog 118 = true := by kernel_rfl
theorem en59 : enters Tryz.prog 59 = true := by kernel_rfl
theorem en89 : enters Tryz.prog 89 = true := by kernel_rfl
theorem en119 : enters Tryz.prog 119 = true := by kernel_rfl
theorem en60 : enters Tryz.prog 60 = true := by kernel_rfl
theorem en90 : enters Tryz.prog 90 = true := by kernel_rfl
theorem en120 : enters Tryz.prog 120 = true := by kernel_rfl
theorem en61 : enters Tryz.prog 61 = true := by kernel_rfl
theorem en91 : enters Tryz.prog 91 = true := by kernel_rfl
theorem en121 : enters Tryz.prog 121 = true := by kernel_rfl
theorem en62 : enters Tryz.prog 62 = true := by kernel_rfl
theorem en92 : enters Tryz.prog 92 = true := by kernel_rfl
theorem en122 : enters Tryz.prog 122 = true := by kernel_rfl
theorem en63 : enters Tryz.prog 63 = true := by kernel_rfl
theorem en93 : enters Tryz.prog 93 = true := by kernel_rfl
theorem en123 : enters Tryz.prog 123 = true := by kernel_rfl
theorem bu65 : bk Tryz.prog 65 = some ([(0, 1), (1, 1), (2, 1), (3, 1), (4, 1), (5, 1), (6, 1), (7, 1), (8, 1), (9, 1), (10, 1), (11, 1), (12, 1), (13, 1), (14, 1), (15, 1), (16, 1), (17, 1), (18, 1), (19, 1), (20, 1), (21, 1), (22, 1), (23, 1), (24, 1), (25, 1), (26, 1), (27, 1), (28, 1), (29, 1), (30, 1)], [.int .i64 0, .slice none 0 0, .slice none 0 0, .slice none 0 0, .slice none 0 0, .slice none 0 0, .slice none 0 0, .slice none 0 0, .slice none 0 0, .slice none 0 0, .slice none 0 0, .slice none 0 0, .slice none 0 0, .slice none 0 0, .slice none 0 0, .slice none 0 0, .slice none 0 0, .slice none 0 0, .slice none 0 0, .slice none 0 0, .slice none 0 0, .slice none 0 0, .slice none 0 0, .slice none 0 0, .slice none 0 0, .slice none 0 0, .slice none 0 0, .slice none 0 0, .slice none 0 0, .slice none 0 0, .slice none 0 0]) := by kernel_rfl
theorem zc65 : zc Tryz.prog 65 = some [.int .i64 0, .slice none 0 0, .slice none 0 0, .slice none 0 0, .slice none 0 0, .slice none 0 0, .slice none 0 0, .slice none 0 0, .slice none 0 0, .slice none 0 0, .slice none 0 0, .slice none 0 0, .slice none 0 0, .slice none 0 0, .slice none 0 0, .slice none 0 0, .slice none 0 0, .slice none 0 0, .slice none 0 0, .slice none 0 0, .slice none 0 0, .slice none 0 0, .slice none 0 0, .slice none 0 0, .slice none 0 0, .slice none 0 0, .slice none 0 0, .slice none 0 0, .slice none 0 0, .slice none 0 0, .slice none 0 0] := by kernel_rfl
theorem kd65 : kd Tryz.prog 65 = some (true, 31) := by kernel_rfl
theorem en16 : enters Tryz.prog 16 = true := by kernel_rfl
theorem en33 : enters Tryz.prog 33 = true := by kernel_rfl
theorem kf65_0 : kf Tryz.prog 65 0 = some 0 := by kernel_rfl
theorem en17 : enters Tryz.prog 17 = true := by kernel_rfl
theorem en35 : enters Tryz.prog 35 = true := by kernel_rfl
theorem en65 : enters Tryz.prog 65 = true := by kernel_rfl

/-! ### Lists of marks -/
theorem six_all {es : Nat} {X : List D} {q : D} {k : Nat} (hX : ∀ x ∈ X, x.cells.length = es) (hq : q.cells.length = es) : ∀ x ∈ X.set k q, x.cells.length = es := fun x hx => by
  rcases List.mem_or_eq_of_mem_set hx with h | h
  · exact hX x h
  · rw [h]; exact hq
theorem flat_set {es : Nat} : ∀ {X : List D} {q : D} {k : Nat}, (∀ x ∈ X, x.cells.length = es) → q.cells.length = es → k < X.length → setL ((flat X).map V.d) (k * es) (q.cells.map V.d) = (flat (X.set k q)).map V.d
  | [], q, k, _, _, h => by simp at h
  | x :: X, q, 0, hX, hq, _ => by
    have hx := hX x (by simp)
    rw [show flat (x :: X) = x.cells ++ flat X from rfl, List.set_cons_zero, show flat (q :: X) = q.cells ++ flat X from rfl]
    unfold setL
    rw [Nat.zero_mul, List.take_zero, List.nil_append, Nat.zero_add, List.length_map, List.map_append, List.drop_append_of_le_length (by rw [List.length_map, hx, hq]; exact Nat.le_refl _), List.drop_eq_nil_of_le (by rw [List.length_map, hx, hq]; exact Nat.le_refl _), List.nil_append, List.map_append]
  | x :: X, q, k + 1, hX, hq, h => by
    have hx := hX x (by simp)
    have ih := flat_set (X := X) (q := q) (k := k) (fun y hy => hX y (by simp [hy])) hq (by simpa using h)
    rw [show flat (x :: X) = x.cells ++ flat X from rfl, List.set_cons_succ, show flat (x :: X.set k q) = x.cells ++ flat (X.set k q) from rfl, List.map_append, List.map_append, ← ih]
    unfold setL
    rw [show (k + 1) * es = (x.cells.map V.d).length + k * es from by rw [List.length_map, hx, Nat.add_mul]; omega, List.take_length_add_append, Nat.add_assoc, List.drop_length_add_append]
    simp only [List.append_assoc]
def fillL (X : List D) (k : Nat) (q : D) : List D := List.replicate k q ++ X.drop k
theorem fill_0 (X : List D) (q : D) : fillL X 0 q = X := rfl
theorem fill_len {X : List D} {k : Nat} {q : D} (h : k ≤ X.length) : (fillL X k q).length = X.length := by unfold fillL; rw [List.length_append, List.length_replicate, List.length_drop]; omega
theorem fill_six {es : Nat} {X : List D} {k : Nat} {q : D} (hX : ∀ x ∈ X, x.cells.length = es) (hq : q.cells.length = es) : ∀ x ∈ fillL X k q, x.cells.length = es := fun x hx => by
  rcases List.mem_append.mp hx with h | h
  · rw [List.eq_of_mem_replicate h]; exact hq
  · exact hX x (List.mem_of_mem_drop h)
theorem fill_set {X : List D} {k : Nat} {q : D} (h : k < X.length) : (fillL X k q).set k q = fillL X (k + 1) q := by
  unfold fillL
  rw [List.set_append_right _ _ (by rw [List.length_replicate]; exact Nat.le_refl _), List.length_replicate, Nat.sub_self, List.drop_eq_getElem_cons h, List.set_cons_zero, List.replicate_succ', List.append_assoc]
  rfl
theorem fill_end {X : List D} {k : Nat} {q : D} (h : k = X.length) : fillL X k q = List.replicate X.length q := by unfold fillL; rw [h, List.drop_length, List.append_nil]
theorem fill_step {es : Nat} {X : List D} {k : Nat} {q : D} (hX : ∀ x ∈ X, x.cells.length = es) (hq : q.cells.length = es) (h : k < X.length) : setL ((flat (fillL X k q)).map V.d) (k * es) (q.cells.map V.d) = (flat (fillL X (k + 1) q)).map V.d := by
  rw [flat_set (fill_six hX hq) hq (by rw [fill_len (Nat.le_of_lt h)]; exact h), fill_set h]
theorem fill_flat {es : Nat} {X : List D} {k : Nat} {q : D} (hX : ∀ x ∈ X, x.cells.length = es) (hq : q.cells.length = es) (h : k ≤ X.length) : ((flat (fillL X k q)).map V.d).length = X.length * es := by
  rw [List.length_map, flat_len_of (fill_six hX hq), fill_len h]
theorem rep_six {es n : Nat} {q : D} (hq : q.cells.length = es) : ∀ x ∈ List.replicate n q, x.cells.length = es := fun x hx => by rw [List.eq_of_mem_replicate hx]; exact hq
theorem hits_dullTip {E : Env} {st : St} {K : Act → World → Prop} (id : Nat) (h : Hits E ((.tip id, some (.ptr id 0)) :: dull id st) K) : Hits E st K := fun G a w s => h _ a w (s.retip (id := id) (b := 0) (n := 0) (z := 0) (k := false) (fun c => by cases c))
theorem held3 (hl : List (Nat × Nat)) : ∀ q ∈ hl.map heldByte, q.cells.length = 3 := by
  intro q hq
  obtain ⟨x, _, rfl⟩ := List.mem_map.mp hq
  rfl

set_option maxHeartbeats 4000000 in
set_option maxRecDepth 100000 in
theorem bitsbytes_gen {a0 a1 a2 w p0 p1 p2 e g : Int} {l q : List Int} (hN : CallsN Tryz.prog Tt 9 [.agg [.sc (.int .i64 a0), .sc (.int .u64 a1), .sc (.int .u64 a2)]] 1 l.length (l.map (Value.int .u8)) [.int .i64 e]) (hW : CallsP Tryz.prog Tt 10 [.agg [.sc (.int .i64 a0), .sc (.int .u64 a1), .sc (.int .u64 a2)]] (.tup [.list 1 (l.map byteD), .sc (.int .i64 e)])) (hR : CallsP Tryz.prog Tt 12 [.sc (.int .i64 w), .list 1 (q.map byteD)] (.tup [.agg [.sc (.int .i64 p0), .sc (.int .u64 p1), .sc (.int .u64 p2)], .sc (.int .i64 g)])) (hRR : CallsP Tryz.prog Tt 13 [.sc (.int .i64 w), .list 1 (q.map byteD)] (.tup [.agg [.sc (.int .i64 p0), .sc (.int .u64 p1), .sc (.int .u64 p2)], .sc (.int .i64 g)])) (hlen : l.length ≤ 65536) (hq : q.length ≤ 1048576) : CallsP Tryz.prog Tt 3 [.agg [.sc (.int .i64 a0), .sc (.int .u64 a1), .sc (.int .u64 a2)], .sc (.int .i64 w), .list 1 (q.map byteD)] (.sc (.bool true)) := by
  have hll : (l.map byteD).length = l.length := List.length_map _
  have hbe := beyond_no (n := (q.map byteD).length) (by rw [List.length_map]; exact hq)
  have hsm := same_c l (by omega)
  have hql : ∀ q ∈ [(l.length, 1), (l.length, 2)], q.1 ≤ 1000000 ∧ q.2 < 8 := by intro q hq; simp at hq; rcases hq with rfl | rfl <;> exact ⟨by simp only; omega, by simp⟩
  refine callsP_of gs_tt Tryz.func3 rfl Tryz.ntmps3 rfl fun w0 S0 stab => ?_
  refine hits_seq ?_
  refine hits_region ?_
  refine sq (f_box rfl rfl (lt rfl)) rfl rfl ?_
  refine sq (f_assign rfl (lt rfl)) rfl rfl ?_
  refine hits_nil ?_
  refine to_next ?_
  refine hits_seq ?_
  refine hits_seq ?_
  refine hits_region ?_
  refine sq (f_move rfl (lt rfl)) rfl rfl ?_
  refine sq (f_lenList rfl rfl un25 (lt rfl)) rfl rfl ?_
  refine sq (f_buildSlice sk85 rfl rfl rfl rfl rfl rfl (by decide) (by decide) (lt rfl)) rfl rfl ?_
  refine sq (f_call en8 rfl hbe (lt rfl)) rfl rfl ?_
  refine hits_nil ?_
  refine to_next ?_
  refine hits_cond rfl (fun c0 => absurd c0 Bool.false_ne_true) (fun c0 => ?_)
  refine hits_skip ?_
  refine to_next ?_
  refine hits_seq ?_
  refine hits_region ?_
  refine sq (f_load kd24 rfl rfl (lt rfl)) rfl rfl ?_
  refine sq_callN en9 rfl hN (flatB_plain l) (flatB_len l) (lt rfl) ?_
  refine sq (f_move rfl (lt rfl)) rfl rfl ?_
  refine sq (f_extractV rfl rfl (lt rfl)) rfl rfl ?_
  refine sq (f_extractV rfl rfl (lt rfl)) rfl rfl ?_
  refine sq (f_assign rfl (lt rfl)) rfl rfl ?_
  refine sq (f_assign rfl (lt rfl)) rfl rfl ?_
  refine hits_nil ?_
  refine to_next ?_
  refine hits_seq ?_
  refine hits_region ?_
  refine sq (f_load kd24 rfl rfl (lt rfl)) rfl rfl ?_
  refine sq_callN en9 rfl hN (flatB_plain l) (flatB_len l) (lt rfl) ?_
  refine sq (f_move rfl (lt rfl)) rfl rfl ?_
  refine sq (f_extractV rfl rfl (lt rfl)) rfl rfl ?_
  refine sq (f_extractV rfl rfl (lt rfl)) rfl rfl ?_
  refine sq (f_assign rfl (lt rfl)) rfl rfl ?_
  refine sq (f_assign rfl (lt rfl)) rfl rfl ?_
  refine hits_nil ?_
  refine to_next ?_
  refine hits_seq ?_
  refine hits_region ?_
  refine sq (f_load kd24 rfl rfl (lt rfl)) rfl rfl ?_
  refine sq (f_call en10 rfl hW (lt rfl)) rfl rfl ?_
  refine sq (f_move rfl (lt rfl)) rfl rfl ?_
  refine sq (f_extract rfl rfl (lt rfl)) rfl rfl ?_
  refine sq (f_extract rfl rfl (lt rfl)) rfl rfl ?_
  refine sq (f_assign rfl (lt rfl)) rfl rfl ?_
  refine sq (f_assign rfl (lt rfl)) rfl rfl ?_
  refine hits_nil ?_
  refine to_next ?_
  refine hits_seq ?_
  refine hits_region ?_
  refine sq (f_move rfl (lt rfl)) rfl rfl ?_
  refine sq (f_call en11 rfl (twin_c q hq) (lt rfl)) rfl rfl ?_
  refine sq (f_assign rfl (lt rfl)) rfl rfl ?_
  refine hits_nil ?_
  refine to_next ?_
  refine hits_seq ?_
  refine hits_region ?_
  refine sq (f_move rfl (lt rfl)) rfl rfl ?_
  refine sq (f_move rfl (lt rfl)) rfl rfl ?_
  refine hits_noRoom 42 1 (q.map byteD) rfl ?_
  refine sq (f_call en12 rfl hR (lt rfl)) rfl rfl ?_
  refine sq (f_move rfl (lt rfl)) rfl rfl ?_
  refine sq (f_extract rfl rfl (lt rfl)) rfl rfl ?_
  refine sq (f_extract rfl rfl (lt rfl)) rfl rfl ?_
  refine sq (f_alloc zc24 (lt rfl)) rfl rfl ?_
  refine sq (f_store kd24 rfl rfl rfl rfl rfl) rfl rfl ?_
  refine sq (f_assign rfl (lt rfl)) rfl rfl ?_
  refine hits_nil ?_
  refine to_next ?_
  refine hits_seq ?_
  refine hits_region ?_
  refine sq (f_move rfl (lt rfl)) rfl rfl ?_
  refine sq (f_move rfl (lt rfl)) rfl rfl ?_
  refine sq (f_call en13 rfl hRR (lt rfl)) rfl rfl ?_
  refine sq (f_move rfl (lt rfl)) rfl rfl ?_
  refine sq (f_extract rfl rfl (lt rfl)) rfl rfl ?_
  refine sq (f_extract rfl rfl (lt rfl)) rfl rfl ?_
  refine sq (f_alloc zc24 (lt rfl)) rfl rfl ?_
  refine sq (f_store kd24 rfl rfl rfl rfl rfl) rfl rfl ?_
  refine sq (f_assign rfl (lt rfl)) rfl rfl ?_
  refine hits_nil ?_
  refine to_next ?_
  refine hits_seq ?_
  refine hits_seq ?_
  refine hits_region ?_
  refine sq (f_move rfl (lt rfl)) rfl rfl ?_
  refine sq (f_move rfl (lt rfl)) rfl rfl ?_
  refine sq (f_callQ [.tip 25] en14 rfl (.cons (.of (.mo rfl rfl rfl hll.symm (byteD_one _))) (.cons (.of (.d _)) .nil)) hsm rfl (lt rfl)) rfl rfl ?_
  refine sq (f_un rfl rfl (lt rfl)) rfl rfl ?_
  refine sq (f_move rfl (lt rfl)) rfl rfl ?_
  refine sq_yes (f_move rfl (lt rfl)) rfl rfl rfl rfl (lt rfl) ?_
  refine sq_yes (f_move rfl (lt rfl)) rfl rfl rfl rfl (lt rfl) ?_
  refine sq_yes (f_bin rfl rfl (bT ((bne_self_eq_false _))) (lt rfl)) rfl rfl rfl rfl (lt rfl) ?_
  refine sq (f_pick rfl rfl (lt rfl)) rfl rfl ?_
  refine sq (f_move rfl (lt rfl)) rfl rfl ?_
  refine sq_yes (f_load kd24 rfl rfl (lt rfl)) rfl rfl rfl rfl (lt rfl) ?_
  refine sq_yes (f_load kd24 rfl rfl (lt rfl)) rfl rfl rfl rfl (lt rfl) ?_
  refine sq_yes (f_neS rfl rfl rfl rfl eqg24 (ev24 ..) (by decide) (by simp : _ = false) (lt rfl)) rfl rfl rfl rfl (lt rfl) ?_
  refine sq (f_pick rfl rfl (lt rfl)) rfl rfl ?_
  refine sq (f_move rfl (lt rfl)) rfl rfl ?_
  refine sq_yes (f_move rfl (lt rfl)) rfl rfl rfl rfl (lt rfl) ?_
  refine sq_yes (f_move rfl (lt rfl)) rfl rfl rfl rfl (lt rfl) ?_
  refine sq_yes (f_bin rfl rfl (bT ((bne_self_eq_false _))) (lt rfl)) rfl rfl rfl rfl (lt rfl) ?_
  refine sq (f_pick rfl rfl (lt rfl)) rfl rfl ?_
  refine sq (f_move rfl (lt rfl)) rfl rfl ?_
  refine sq_yes (f_move rfl (lt rfl)) rfl rfl rfl rfl (lt rfl) ?_
  refine sq_yes (f_move rfl (lt rfl)) rfl rfl rfl rfl (lt rfl) ?_
  refine sq_yes (f_call en15 rfl (left_c q hq) (lt rfl)) rfl rfl rfl rfl (lt rfl) ?_
  refine sq_yes (f_un rfl rfl (lt rfl)) rfl rfl rfl rfl (lt rfl) ?_
  refine sq (f_pick rfl rfl (lt rfl)) rfl rfl ?_
  refine hits_nil ?_
  refine to_next ?_
  refine hits_cond rfl (fun c1 => absurd c1 Bool.false_ne_true) (fun c1 => ?_)
  refine hits_skip ?_
  refine to_next ?_
  refine hits_seq ?_
  refine Hits.keep (st' := [(.slot 7, some (.mo 25 1 l.length)), (.slot 9, some (.mo 30 1 l.length)), (.tip 25, some (.contD (flat (l.map byteD)))), (.tip 30, some (.contD (flat (l.map byteD))))]) ⟨rfl, rfl, rfl, rfl, trivial⟩ rfl ?_
  refine hits_region ?_
  refine sq (f_build bu65 rfl rfl (lt rfl)) rfl rfl ?_
  refine sq (f_alloc zc65 (lt rfl)) rfl rfl ?_
  refine sq (f_store kd65 rfl rfl rfl rfl rfl) rfl rfl ?_
  refine hits_nil ?_
  refine to_next ?_
  refine hits_seq ?_
  refine hits_region ?_
  refine sq (f_move rfl (lt rfl)) rfl rfl ?_
  refine sq_inline en16 Tryz.func16 rfl Tryz.ntmps16 rfl rfl rfl fun a1 ha1 hd1 => ?_
  refine hits_region ?_
  refine sq (f_move rfl (lt rfl)) rfl rfl ?_
  refine sq (f_move rfl (lt rfl)) rfl rfl ?_
  refine sq_inline en33 Tryz.func33 rfl Tryz.ntmps33 rfl rfl rfl fun a2 ha2 hd2 => ?_
  refine hits_seq ?_
  refine hits_region ?_
  refine sq (f_move rfl (lt rfl)) rfl rfl ?_
  refine sq (f_nil rfl rfl (lt rfl)) rfl rfl ?_
  refine sq (f_fieldAddr rfl kf65_0 rfl (lt rfl)) rfl rfl ?_
  refine sq (f_load kd3 rfl rfl (lt rfl)) rfl rfl ?_
  refine sq (f_bin rfl rfl rfl (lt rfl)) rfl rfl ?_
  refine sq (f_nil rfl rfl (lt rfl)) rfl rfl ?_
  refine sq (f_fieldAddr rfl kf65_0 rfl (lt rfl)) rfl rfl ?_
  refine sq (f_store kd3 rfl rfl rfl rfl rfl) rfl rfl ?_
  refine hits_nil ?_
  refine to_next ?_
  refine hits_drawn mixed ?_
  refine dq (f_move rfl (lt rfl)) rfl rfl ?_
  refine dq (f_move rfl (lt rfl)) rfl rfl ?_
  refine dq (f_nil rfl rfl (lt rfl)) rfl rfl ?_
  refine dq (f_fieldAddr rfl kf65_2 rfl (lt rfl)) rfl rfl ?_
  refine dq (f_load kd35 rfl rfl (lt rfl)) rfl rfl ?_
  refine dq (f_move rfl (lt rfl)) rfl rfl ?_
  refine dq (f_move rfl (lt rfl)) rfl rfl ?_
  refine dq (f_nil rfl rfl (lt rfl)) rfl rfl ?_
  refine dq (f_fieldAddr rfl kf65_0 rfl (lt rfl)) rfl rfl ?_
  refine dq (f_load kd3 rfl rfl (lt rfl)) rfl rfl ?_
  refine dq (f_buildV bu108 rfl rfl (lt rfl)) rfl rfl ?_
  refine dq (f_buildSliceV 201 sk35 rfl rfl rfl rfl (by decide) (by decide) (lt rfl)) rfl rfl ?_
  refine dq (f_appendN 101 rfl rfl rfl rfl apk35 (by decide) rfl rfl rfl (by decide) (by decide) (lt rfl)) rfl rfl ?_
  refine dq (f_nil rfl rfl (lt rfl)) rfl rfl ?_
  refine dq (f_fieldAddr rfl kf65_2 rfl (lt rfl)) rfl rfl ?_
  refine dq (f_store kd35 rfl rfl rfl rfl rfl) rfl rfl ?_
  refine dq_nil rfl ?_
  refine hits_back (.inr rfl) ha2 hd2 rfl rfl (lt rfl) rfl ?_
  refine hits_nil ?_
  refine hits_back (.inr rfl) ha1 hd1 rfl rfl (lt rfl) rfl ?_
  refine Hits.keep (st' := [(.slot 18, some (.ptr 18 0)), (.box 18, some (.ptr 18 0)), (.cell 18 0, some (.d (.sc (.int .i64 1)))), (.cell 18 1, some (.d (.sc (.slice none 0 0)))), (.cell 18 2, some (.mo 101 3 1)), (.cell 18 3, some (.d (.sc (.slice none 0 0)))), (.cell 18 4, some (.d (.sc (.slice none 0 0)))), (.cell 18 5, some (.d (.sc (.slice none 0 0)))), (.cell 18 6, some (.d (.sc (.slice none 0 0)))), (.cell 18 7, some (.d (.sc (.slice none 0 0)))), (.cell 18 8, some (.d (.sc (.slice none 0 0)))), (.cell 18 9, some (.d (.sc (.slice none 0 0)))), (.cell 18 10, some (.d (.sc (.slice none 0 0)))), (.cell 18 11, some (.d (.sc (.slice none 0 0)))), (.cell 18 12, some (.d (.sc (.slice none 0 0)))), (.cell 18 13, some (.d (.sc (.slice none 0 0)))), (.cell 18 14, some (.d (.sc (.slice none 0 0)))), (.cell 18 15, some (.d (.sc (.slice none 0 0)))), (.cell 18 16, some (.d (.sc (.slice none 0 0)))), (.cell 18 17, some (.d (.sc (.slice none 0 0)))), (.cell 18 18, some (.d (.sc (.slice none 0 0)))), (.cell 18 19, some (.d (.sc (.slice none 0 0)))), (.cell 18 20, some (.d (.sc (.slice none 0 0)))), (.cell 18 21, some (.d (.sc (.slice none 0 0)))), (.cell 18 22, some (.d (.sc (.slice none 0 0)))), (.cell 18 23, some (.d (.sc (.slice none 0 0)))), (.cell 18 24, some (.d (.sc (.slice none 0 0)))), (.cell 18 25, some (.d (.sc (.slice none 0 0)))), (.cell 18 26, some (.d (.sc (.slice none 0 0)))), (.cell 18 27, some (.d (.sc (.slice none 0 0)))), (.cell 18 28, some (.d (.sc (.slice none 0 0)))), (.cell 18 29, some (.d (.sc (.slice none 0 0)))), (.cell 18 30, some (.d (.sc (.slice none 0 0)))), (.slot 9, some (.mo 30 1 l.length)), (.tip 25, some (.contD (flat (l.map byteD)))), (.tip 30, some (.contD (flat (l.map byteD)))), (.tip 101, some (.cont [.mo 25 1 l.length, .d (.sc (.slice none 0 0)), .d (.sc (.int .i64 1))]))]) ⟨rfl, rfl, rfl, rfl, rfl, rfl, rfl, rfl, rfl, rfl, rfl, rfl, rfl, rfl, rfl, rfl, rfl, rfl, rfl, rfl, rfl, rfl, rfl, rfl, rfl, rfl, rfl, rfl, rfl, rfl, rfl, rfl, rfl, rfl, rfl, rfl, rfl, trivial⟩ rfl ?_
  refine hits_nil ?_
  refine to_next ?_
  refine hits_seq ?_
  refine hits_region ?_
  refine sq (f_move rfl (lt rfl)) rfl rfl ?_
  refine sq_inline en16 Tryz.func16 rfl Tryz.ntmps16 rfl rfl rfl fun a3 ha3 hd3 => ?_
  refine hits_region ?_
  refine sq (f_move rfl (lt rfl)) rfl rfl ?_
  refine sq (f_move rfl (lt rfl)) rfl rfl ?_
  refine sq_inline en33 Tryz.func33 rfl Tryz.ntmps33 rfl rfl rfl fun a4 ha4 hd4 => ?_
  refine hits_seq ?_
  refine hits_region ?_
  refine sq (f_move rfl (lt rfl)) rfl rfl ?_
  refine sq (f_nil rfl rfl (lt rfl)) rfl rfl ?_
  refine sq (f_fieldAddr rfl kf65_0 rfl (lt rfl)) rfl rfl ?_
  refine sq (f_load kd3 rfl rfl (lt rfl)) rfl rfl ?_
  refine sq (f_bin rfl rfl rfl (lt rfl)) rfl rfl ?_
  refine sq (f_nil rfl rfl (lt rfl)) rfl rfl ?_
  refine sq (f_fieldAddr rfl kf65_0 rfl (lt rfl)) rfl rfl ?_
  refine sq (f_store kd3 rfl rfl rfl rfl rfl) rfl rfl ?_
  refine hits_nil ?_
  refine to_next ?_
  refine hits_drawn mixed ?_
  refine dq (f_move rfl (lt rfl)) rfl rfl ?_
  refine dq (f_move rfl (lt rfl)) rfl rfl ?_
  refine dq (f_nil rfl rfl (lt rfl)) rfl rfl ?_
  refine dq (f_fieldAddr rfl kf65_2 rfl (lt rfl)) rfl rfl ?_
  refine dq (f_load kd35 rfl rfl (lt rfl)) rfl rfl ?_
  refine dq (f_move rfl (lt rfl)) rfl rfl ?_
  refine dq (f_move rfl (lt rfl)) rfl rfl ?_
  refine dq (f_nil rfl rfl (lt rfl)) rfl rfl ?_
  refine dq (f_fieldAddr rfl kf65_0 rfl (lt rfl)) rfl rfl ?_
  refine dq (f_load kd3 rfl rfl (lt rfl)) rfl rfl ?_
  refine dq (f_buildV bu108 rfl rfl (lt rfl)) rfl rfl ?_
  refine dq (f_buildSliceV 202 sk35 rfl rfl rfl rfl (by decide) (by decide) (lt rfl)) rfl rfl ?_
  refine dq (f_appendM 102 rfl rfl rfl rfl rfl rfl apk35 (by decide) (by decide) rfl rfl rfl rfl rfl (by decide) (by decide) (lt rfl)) rfl rfl ?_
  refine dq (f_nil rfl rfl (lt rfl)) rfl rfl ?_
  refine dq (f_fieldAddr rfl kf65_2 rfl (lt rfl)) rfl rfl ?_
  refine dq (f_store kd35 rfl rfl rfl rfl rfl) rfl rfl ?_
  refine dq_nil rfl ?_
  refine hits_back (.inr rfl) ha4 hd4 rfl rfl (lt rfl) rfl ?_
  refine hits_nil ?_
  refine hits_back (.inr rfl) ha3 hd3 rfl rfl (lt rfl) rfl ?_
  refine Hits.keep (st' := [(.slot 18, some (.ptr 18 0)), (.box 18, some (.ptr 18 0)), (.cell 18 0, some (.d (.sc (.int .i64 2)))), (.cell 18 1, some (.d (.sc (.slice none 0 0)))), (.cell 18 2, some (.mo 102 3 2)), (.cell 18 3, some (.d (.sc (.slice none 0 0)))), (.cell 18 4, some (.d (.sc (.slice none 0 0)))), (.cell 18 5, some (.d (.sc (.slice none 0 0)))), (.cell 18 6, some (.d (.sc (.slice none 0 0)))), (.cell 18 7, some (.d (.sc (.slice none 0 0)))), (.cell 18 8, some (.d (.sc (.slice none 0 0)))), (.cell 18 9, some (.d (.sc (.slice none 0 0)))), (.cell 18 10, some (.d (.sc (.slice none 0 0)))), (.cell 18 11, some (.d (.sc (.slice none 0 0)))), (.cell 18 12, some (.d (.sc (.slice none 0 0)))), (.cell 18 13, some (.d (.sc (.slice none 0 0)))), (.cell 18 14, some (.d (.sc (.slice none 0 0)))), (.cell 18 15, some (.d (.sc (.slice none 0 0)))), (.cell 18 16, some (.d (.sc (.slice none 0 0)))), (.cell 18 17, some (.d (.sc (.slice none 0 0)))), (.cell 18 18, some (.d (.sc (.slice none 0 0)))), (.cell 18 19, some (.d (.sc (.slice none 0 0)))), (.cell 18 20, some (.d (.sc (.slice none 0 0)))), (.cell 18 21, some (.d (.sc (.slice none 0 0)))), (.cell 18 22, some (.d (.sc (.slice none 0 0)))), (.cell 18 23, some (.d (.sc (.slice none 0 0)))), (.cell 18 24, some (.d (.sc (.slice none 0 0)))), (.cell 18 25, some (.d (.sc (.slice none 0 0)))), (.cell 18 26, some (.d (.sc (.slice none 0 0)))), (.cell 18 27, some (.d (.sc (.slice none 0 0)))), (.cell 18 28, some (.d (.sc (.slice none 0 0)))), (.cell 18 29, some (.d (.sc (.slice none 0 0)))), (.cell 18 30, some (.d (.sc (.slice none 0 0)))), (.tip 25, some (.contD (flat (l.map byteD)))), (.tip 30, some (.contD (flat (l.map byteD)))), (.tip 102, some (.cont [.mo 25 1 l.length, .d (.sc (.slice none 0 0)), .d (.sc (.int .i64 1)), .mo 30 1 l.length, .d (.sc (.slice none 0 0)), .d (.sc (.int .i64 2))]))]) ⟨rfl, rfl, rfl, rfl, rfl, rfl, rfl, rfl, rfl, rfl, rfl, rfl, rfl, rfl, rfl, rfl, rfl, rfl, rfl, rfl, rfl, rfl, rfl, rfl, rfl, rfl, rfl, rfl, rfl, rfl, rfl, rfl, rfl, rfl, rfl, rfl, trivial⟩ rfl ?_
  refine hits_nil ?_
  refine to_next ?_
  refine hits_seq ?_
  refine hits_region ?_
  refine sq_inline en17 Tryz.func17 rfl Tryz.ntmps17 rfl rfl rfl fun a5 ha5 hd5 => ?_
  refine hits_seq ?_
  refine hits_region ?_
  refine sq (f_assign rfl (lt rfl)) rfl rfl ?_
  refine hits_nil ?_
  refine to_next ?_
  refine hits_seq ?_
  refine hits_region ?_
  refine sq (f_move rfl (lt rfl)) rfl rfl ?_
  refine sq (f_callQ [.cell 18 0, .cell 18 1] en34 rfl (.cons (.box (.cons rfl rfl (.any rfl) (.cons rfl rfl .nil .nil))) .nil) fillInt_no rfl (lt rfl)) rfl rfl ?_
  refine hits_nil ?_
  refine to_next ?_
  refine hits_seq ?_
  refine hits_region ?_
  refine sq (f_move rfl (lt rfl)) rfl rfl ?_
  refine sq_inline en35 Tryz.func35 rfl Tryz.ntmps35 rfl rfl rfl fun a6 ha6 hd6 => ?_
  refine hits_seq ?_
  refine hits_region ?_
  refine sq (f_assign rfl (lt rfl)) rfl rfl ?_
  refine hits_nil ?_
  refine to_next ?_
  refine hits_block ?_
  refine hits_rounds 3 (rounds_go ?_)
  refine hits_seq ?_
  refine hits_seq ?_
  refine hits_region ?_
  refine sq (f_move rfl (lt rfl)) rfl rfl ?_
  refine sq (f_move rfl (lt rfl)) rfl rfl ?_
  refine sq (f_nil rfl rfl (lt rfl)) rfl rfl ?_
  refine sq (f_fieldAddr rfl kf65_2 rfl (lt rfl)) rfl rfl ?_
  refine sq (f_load kd35 rfl rfl (lt rfl)) rfl rfl ?_
  refine sq (f_lenMo rfl un35 (lt rfl)) rfl rfl ?_
  refine sq (f_bin rfl rfl (bT (decide_eq_true (by decide))) (lt rfl)) rfl rfl ?_
  refine hits_nil ?_
  refine to_next ?_
  refine hits_cond rfl (fun c0 => ?_) (fun c0 => absurd c0 Bool.false_ne_true.symm)
  refine hits_skip ?_
  refine to_next ?_
  refine hits_seq ?_
  refine hits_block ?_
  refine hits_seq ?_
  refine hits_region ?_
  refine sq (f_move rfl (lt rfl)) rfl rfl ?_
  refine sq (f_nil rfl rfl (lt rfl)) rfl rfl ?_
  refine sq (f_fieldAddr rfl kf65_2 rfl (lt rfl)) rfl rfl ?_
  refine sq (f_load kd35 rfl rfl (lt rfl)) rfl rfl ?_
  refine sq (f_move rfl (lt rfl)) rfl rfl ?_
  refine sq (f_idxMo (i := 0) rfl rfl un35 kd108 (by decide) (lt rfl)) rfl rfl ?_
  refine sq (f_loadMA kd108 rfl rfl rfl rfl rfl rfl (lt rfl)) rfl rfl ?_
  refine sq (f_alloc zc108 (lt rfl)) rfl rfl ?_
  refine sq (f_store kd108 rfl rfl rfl rfl rfl) rfl rfl ?_
  refine hits_nil ?_
  refine to_next ?_
  refine hits_seq ?_
  refine hits_region ?_
  refine sq (f_assign rfl (lt rfl)) rfl rfl ?_
  refine hits_nil ?_
  refine to_next ?_
  refine hits_block ?_
  refine hits_loop (fun k : Nat => [(.slot 0, some (.ptr 18 0)), (.old 0, some (.ptr 18 0)), (.box 18, some (.ptr 18 0)), (.cell 18 0, some (.d (.sc (.int .i64 2)))), (.cell 18 1, some (.d (.sc (.slice none 0 0)))), (.cell 18 2, some (.mo 102 3 2)), (.cell 18 3, some (.d (.sc (.slice none 0 0)))), (.cell 18 4, some (.d (.sc (.slice none 0 0)))), (.cell 18 5, some (.d (.sc (.slice none 0 0)))), (.cell 18 6, some (.d (.sc (.slice none 0 0)))), (.cell 18 7, some (.d (.sc (.slice none 0 0)))), (.cell 18 8, some (.d (.sc (.slice none 0 0)))), (.cell 18 9, some (.d (.sc (.slice none 0 0)))), (.cell 18 10, some (.d (.sc (.slice none 0 0)))), (.cell 18 11, some (.d (.sc (.slice none 0 0)))), (.cell 18 12, some (.d (.sc (.slice none 0 0)))), (.cell 18 13, some (.d (.sc (.slice none 0 0)))), (.cell 18 14, some (.d (.sc (.slice none 0 0)))), (.cell 18 15, some (.d (.sc (.slice none 0 0)))), (.cell 18 16, some (.d (.sc (.slice none 0 0)))), (.cell 18 17, some (.d (.sc (.slice none 0 0)))), (.cell 18 18, some (.d (.sc (.slice none 0 0)))), (.cell 18 19, some (.d (.sc (.slice none 0 0)))), (.cell 18 20, some (.d (.sc (.slice none 0 0)))), (.cell 18 21, some (.d (.sc (.slice none 0 0)))), (.cell 18 22, some (.d (.sc (.slice none 0 0)))), (.cell 18 23, some (.d (.sc (.slice none 0 0)))), (.cell 18 24, some (.d (.sc (.slice none 0 0)))), (.cell 18 25, some (.d (.sc (.slice none 0 0)))), (.cell 18 26, some (.d (.sc (.slice none 0 0)))), (.cell 18 27, some (.d (.sc (.slice none 0 0)))), (.cell 18 28, some (.d (.sc (.slice none 0 0)))), (.cell 18 29, some (.d (.sc (.slice none 0 0)))), (.cell 18 30, some (.d (.sc (.slice none 0 0)))), (.tip 102, some (.cont [.mo 25 1 l.length, .d (.sc (.slice none 0 0)), .d (.sc (.int .i64 1)), .mo 30 1 l.length, .d (.sc (.slice none 0 0)), .d (.sc (.int .i64 2))])), (.tip 30, some (.contD (flat (l.map byteD)))), (.tip 25, some (.contD (flat (fillL (l.map byteD) k (markByte 1))))), (.slot 2, some (.d (.sc (.int .i64 ((0 : Nat) : Int))))), (.slot 3, some (.ptr 3 0)), (.box 3, some (.ptr 3 0)), (.cell 3 0, some (.mo 25 1 l.length)), (.cell 3 1, some (.d (.sc (.slice none 0 0)))), (.cell 3 2, some (.d (.sc (.int .i64 1)))), (.slot 4, some (.d (.sc (.int .i64 ((k : Nat) : Int)))))]) (fun k : Nat => k ≤ l.length) (fun k : Nat => l.length - k) 0 (Nat.zero_le _) ⟨rfl, rfl, rfl, rfl, rfl, rfl, rfl, rfl, rfl, rfl, rfl, rfl, rfl, rfl, rfl, rfl, rfl, rfl, rfl, rfl, rfl, rfl, rfl, rfl, rfl, rfl, rfl, rfl, rfl, rfl, rfl, rfl, rfl, rfl, rfl, rfl, rfl, rfl, rfl, rfl, rfl, rfl, rfl, rfl, trivial⟩ rfl ?_
  intro k hk0
  refine hits_seq ?_
  refine hits_seq ?_
  by_cases hk : k < l.length
  · have hkl : k < (l.map byteD).length := by rw [hll]; exact hk
    have hfl := fill_flat (q := markByte 1) (byteD_one l) rfl (Nat.le_of_lt hkl)
    rw [hll] at hfl
    refine hits_region ?_
    refine sq (f_move rfl (lt rfl)) rfl rfl ?_
    refine sq (f_fieldAddr rfl kf108_0 rfl (lt rfl)) rfl rfl ?_
    refine sq (f_load kd25 rfl rfl (lt rfl)) rfl rfl ?_
    refine sq (f_lenMo rfl un25 (lt rfl)) rfl rfl ?_
    refine sq (f_bin rfl rfl (bT (decide_eq_true (by omega))) (lt rfl)) rfl rfl ?_
    refine hits_nil ?_
    refine to_next ?_
    refine hits_cond rfl (fun c1 => ?_) (fun c1 => absurd c1 Bool.false_ne_true.symm)
    refine hits_skip ?_
    refine to_next ?_
    refine hits_seq ?_
    refine hits_block ?_
    refine hits_drawn mixed ?_
    refine dq (f_fieldAddr rfl kf108_0 rfl (lt rfl)) rfl rfl ?_
    refine dq (f_load kd25 rfl rfl (lt rfl)) rfl rfl ?_
    refine dq (f_move rfl (lt rfl)) rfl rfl ?_
    refine dq (f_fieldAddr rfl kf108_2 rfl (lt rfl)) rfl rfl ?_
    refine dq (f_load kd3 rfl rfl (lt rfl)) rfl rfl ?_
    refine dq (f_call en134 rfl (markByte_c (n := 1) (by decide)) (lt rfl)) rfl rfl ?_
    refine dq (f_idxMo rfl rfl un25 kd5 hk (lt rfl)) rfl rfl ?_
    refine dq (f_storeMA kd5 rfl rfl rfl hfl.symm rfl rfl rfl (by rw [hfl]; omega) rfl) rfl rfl ?_
    refine dq_nil rfl ?_
    refine in_next ?_
    refine to_next ?_
    refine hits_region ?_
    refine sq (f_move rfl (lt rfl)) rfl rfl ?_
    refine sq (f_bin rfl rfl (iT (((IntWalk.i64_in _ (by omega)).trans (by omega) : _ = ((k + 1 : Nat) : Int)))) (lt rfl)) rfl rfl ?_
    refine sq (f_assign rfl (lt rfl)) rfl rfl ?_
    refine hits_nil ?_
    refine to_next ?_
    refine hits_tipD 25 (flat (fillL (l.map byteD) (k + 1) (markByte 1))) rfl rfl (fill_step (byteD_one l) rfl hkl) ?_
    refine round_end (k + 1) (by omega) (by omega) ⟨rfl, rfl, rfl, rfl, rfl, rfl, rfl, rfl, rfl, rfl, rfl, rfl, rfl, rfl, rfl, rfl, rfl, rfl, rfl, rfl, rfl, rfl, rfl, rfl, rfl, rfl, rfl, rfl, rfl, rfl, rfl, rfl, rfl, rfl, rfl, rfl, rfl, rfl, rfl, rfl, rfl, rfl, rfl, rfl, trivial⟩ rfl
  · have hfe : fillL (l.map byteD) k (markByte 1) = List.replicate l.length (markByte 1) := by rw [fill_end (by rw [hll]; omega), hll]
    refine hits_region ?_
    refine sq (f_move rfl (lt rfl)) rfl rfl ?_
    refine sq (f_fieldAddr rfl kf108_0 rfl (lt rfl)) rfl rfl ?_
    refine sq (f_load kd25 rfl rfl (lt rfl)) rfl rfl ?_
    refine sq (f_lenMo rfl un25 (lt rfl)) rfl rfl ?_
    refine sq (f_bin rfl rfl (bT (decide_eq_false (by omega))) (lt rfl)) rfl rfl ?_
    refine hits_nil ?_
    refine to_next ?_
    refine hits_cond rfl (fun c1 => absurd c1 Bool.false_ne_true) (fun c1 => ?_)
    refine hits_exit ?_
    refine to_exit ?_
    refine to_exit ?_
    refine in_hit rfl ?_
    refine in_next ?_
    refine to_next ?_
    refine hits_tipD 25 (flat (List.replicate l.length (markByte 1))) rfl rfl (by rw [hfe]) ?_
    refine Hits.keep (st' := [(.slot 0, some (.ptr 18 0)), (.old 0, some (.ptr 18 0)), (.box 18, some (.ptr 18 0)), (.cell 18 0, some (.d (.sc (.int .i64 2)))), (.cell 18 1, some (.d (.sc (.slice none 0 0)))), (.cell 18 2, some (.mo 102 3 2)), (.cell 18 3, some (.d (.sc (.slice none 0 0)))), (.cell 18 4, some (.d (.sc (.slice none 0 0)))), (.cell 18 5, some (.d (.sc (.slice none 0 0)))), (.cell 18 6, some (.d (.sc (.slice none 0 0)))), (.cell 18 7, some (.d (.sc (.slice none 0 0)))), (.cell 18 8, some (.d (.sc (.slice none 0 0)))), (.cell 18 9, some (.d (.sc (.slice none 0 0)))), (.cell 18 10, some (.d (.sc (.slice none 0 0)))), (.cell 18 11, some (.d (.sc (.slice none 0 0)))), (.cell 18 12, some (.d (.sc (.slice none 0 0)))), (.cell 18 13, some (.d (.sc (.slice none 0 0)))), (.cell 18 14, some (.d (.sc (.slice none 0 0)))), (.cell 18 15, some (.d (.sc (.slice none 0 0)))), (.cell 18 16, some (.d (.sc (.slice none 0 0)))), (.cell 18 17, some (.d (.sc (.slice none 0 0)))), (.cell 18 18, some (.d (.sc (.slice none 0 0)))), (.cell 18 19, some (.d (.sc (.slice none 0 0)))), (.cell 18 20, some (.d (.sc (.slice none 0 0)))), (.cell 18 21, some (.d (.sc (.slice none 0 0)))), (.cell 18 22, some (.d (.sc (.slice none 0 0)))), (.cell 18 23, some (.d (.sc (.slice none 0 0)))), (.cell 18 24, some (.d (.sc (.slice none 0 0)))), (.cell 18 25, some (.d (.sc (.slice none 0 0)))), (.cell 18 26, some (.d (.sc (.slice none 0 0)))), (.cell 18 27, some (.d (.sc (.slice none 0 0)))), (.cell 18 28, some (.d (.sc (.slice none 0 0)))), (.cell 18 29, some (.d (.sc (.slice none 0 0)))), (.cell 18 30, some (.d (.sc (.slice none 0 0)))), (.tip 102, some (.cont [.mo 25 1 l.length, .d (.sc (.slice none 0 0)), .d (.sc (.int .i64 1)), .mo 30 1 l.length, .d (.sc (.slice none 0 0)), .d (.sc (.int .i64 2))])), (.tip 30, some (.contD (flat (l.map byteD)))), (.tip 25, some (.contD (flat (List.replicate l.length (markByte 1))))), (.slot 2, some (.d (.sc (.int .i64 ((0 : Nat) : Int)))))]) ⟨rfl, rfl, rfl, rfl, rfl, rfl, rfl, rfl, rfl, rfl, rfl, rfl, rfl, rfl, rfl, rfl, rfl, rfl, rfl, rfl, rfl, rfl, rfl, rfl, rfl, rfl, rfl, rfl, rfl, rfl, rfl, rfl, rfl, rfl, rfl, rfl, rfl, rfl, trivial⟩ rfl ?_
    refine hits_region ?_
    refine sq (f_move rfl (lt rfl)) rfl rfl ?_
    refine sq (f_bin rfl rfl (iT (((IntWalk.i64_in _ (by omega)).trans (by omega) : _ = ((1 : Nat) : Int)))) (lt rfl)) rfl rfl ?_
    refine sq (f_assign rfl (lt rfl)) rfl rfl ?_
    refine hits_nil ?_
    refine to_next ?_
    refine rounds_go ?_
    refine hits_seq ?_
    refine hits_seq ?_
    refine hits_region ?_
    refine sq (f_move rfl (lt rfl)) rfl rfl ?_
    refine sq (f_move rfl (lt rfl)) rfl rfl ?_
    refine sq (f_nil rfl rfl (lt rfl)) rfl rfl ?_
    refine sq (f_fieldAddr rfl kf65_2 rfl (lt rfl)) rfl rfl ?_
    refine sq (f_load kd35 rfl rfl (lt rfl)) rfl rfl ?_
    refine sq (f_lenMo rfl un35 (lt rfl)) rfl rfl ?_
    refine sq (f_bin rfl rfl (bT (decide_eq_true (by decide))) (lt rfl)) rfl rfl ?_
    refine hits_nil ?_
    refine to_next ?_
    refine hits_cond rfl (fun c0 => ?_) (fun c0 => absurd c0 Bool.false_ne_true.symm)
    refine hits_skip ?_
    refine to_next ?_
    refine hits_seq ?_
    refine hits_block ?_
    refine hits_seq ?_
    refine hits_region ?_
    refine sq (f_move rfl (lt rfl)) rfl rfl ?_
    refine sq (f_nil rfl rfl (lt rfl)) rfl rfl ?_
    refine sq (f_fieldAddr rfl kf65_2 rfl (lt rfl)) rfl rfl ?_
    refine sq (f_load kd35 rfl rfl (lt rfl)) rfl rfl ?_
    refine sq (f_move rfl (lt rfl)) rfl rfl ?_
    refine sq (f_idxMo (i := 1) rfl rfl un35 kd108 (by decide) (lt rfl)) rfl rfl ?_
    refine sq (f_loadMA kd108 rfl rfl rfl rfl rfl rfl (lt rfl)) rfl rfl ?_
    refine sq (f_alloc zc108 (lt rfl)) rfl rfl ?_
    refine sq (f_store kd108 rfl rfl rfl rfl rfl) rfl rfl ?_
    refine hits_nil ?_
    refine to_next ?_
    refine hits_seq ?_
    refine hits_region ?_
    refine sq (f_assign rfl (lt rfl)) rfl rfl ?_
    refine hits_nil ?_
    refine to_next ?_
    refine hits_block ?_
    refine hits_loop (fun k : Nat => [(.slot 0, some (.ptr 18 0)), (.old 0, some (.ptr 18 0)), (.box 18, some (.ptr 18 0)), (.cell 18 0, some (.d (.sc (.int .i64 2)))), (.cell 18 1, some (.d (.sc (.slice none 0 0)))), (.cell 18 2, some (.mo 102 3 2)), (.cell 18 3, some (.d (.sc (.slice none 0 0)))), (.cell 18 4, some (.d (.sc (.slice none 0 0)))), (.cell 18 5, some (.d (.sc (.slice none 0 0)))), (.cell 18 6, some (.d (.sc (.slice none 0 0)))), (.cell 18 7, some (.d (.sc (.slice none 0 0)))), (.cell 18 8, some (.d (.sc (.slice none 0 0)))), (.cell 18 9, some (.d (.sc (.slice none 0 0)))), (.cell 18 10, some (.d (.sc (.slice none 0 0)))), (.cell 18 11, some (.d (.sc (.slice none 0 0)))), (.cell 18 12, some (.d (.sc (.slice none 0 0)))), (.cell 18 13, some (.d (.sc (.slice none 0 0)))), (.cell 18 14, some (.d (.sc (.slice none 0 0)))), (.cell 18 15, some (.d (.sc (.slice none 0 0)))), (.cell 18 16, some (.d (.sc (.slice none 0 0)))), (.cell 18 17, some (.d (.sc (.slice none 0 0)))), (.cell 18 18, some (.d (.sc (.slice none 0 0)))), (.cell 18 19, some (.d (.sc (.slice none 0 0)))), (.cell 18 20, some (.d (.sc (.slice none 0 0)))), (.cell 18 21, some (.d (.sc (.slice none 0 0)))), (.cell 18 22, some (.d (.sc (.slice none 0 0)))), (.cell 18 23, some (.d (.sc (.slice none 0 0)))), (.cell 18 24, some (.d (.sc (.slice none 0 0)))), (.cell 18 25, some (.d (.sc (.slice none 0 0)))), (.cell 18 26, some (.d (.sc (.slice none 0 0)))), (.cell 18 27, some (.d (.sc (.slice none 0 0)))), (.cell 18 28, some (.d (.sc (.slice none 0 0)))), (.cell 18 29, some (.d (.sc (.slice none 0 0)))), (.cell 18 30, some (.d (.sc (.slice none 0 0)))), (.tip 102, some (.cont [.mo 25 1 l.length, .d (.sc (.slice none 0 0)), .d (.sc (.int .i64 1)), .mo 30 1 l.length, .d (.sc (.slice none 0 0)), .d (.sc (.int .i64 2))])), (.tip 25, some (.contD (flat (List.replicate l.length (markByte 1))))), (.tip 30, some (.contD (flat (fillL (l.map byteD) k (markByte 2))))), (.slot 2, some (.d (.sc (.int .i64 ((1 : Nat) : Int))))), (.slot 3, some (.ptr 3 0)), (.box 3, some (.ptr 3 0)), (.cell 3 0, some (.mo 30 1 l.length)), (.cell 3 1, some (.d (.sc (.slice none 0 0)))), (.cell 3 2, some (.d (.sc (.int .i64 2)))), (.slot 4, some (.d (.sc (.int .i64 ((k : Nat) : Int)))))]) (fun k : Nat => k ≤ l.length) (fun k : Nat => l.length - k) 0 (Nat.zero_le _) ⟨rfl, rfl, rfl, rfl, rfl, rfl, rfl, rfl, rfl, rfl, rfl, rfl, rfl, rfl, rfl, rfl, rfl, rfl, rfl, rfl, rfl, rfl, rfl, rfl, rfl, rfl, rfl, rfl, rfl, rfl, rfl, rfl, rfl, rfl, rfl, rfl, rfl, rfl, rfl, rfl, rfl, rfl, rfl, rfl, trivial⟩ rfl ?_
    intro k hk0
    refine hits_seq ?_
    refine hits_seq ?_
    by_cases hk : k < l.length
    · have hkl : k < (l.map byteD).length := by rw [hll]; exact hk
      have hfl := fill_flat (q := markByte 2) (byteD_one l) rfl (Nat.le_of_lt hkl)
      rw [hll] at hfl
      refine hits_region ?_
      refine sq (f_move rfl (lt rfl)) rfl rfl ?_
      refine sq (f_fieldAddr rfl kf108_0 rfl (lt rfl)) rfl rfl ?_
      refine sq (f_load kd25 rfl rfl (lt rfl)) rfl rfl ?_
      refine sq (f_lenMo rfl un25 (lt rfl)) rfl rfl ?_
      refine sq (f_bin rfl rfl (bT (decide_eq_true (by omega))) (lt rfl)) rfl rfl ?_
      refine hits_nil ?_
      refine to_next ?_
      refine hits_cond rfl (fun c1 => ?_) (fun c1 => absurd c1 Bool.false_ne_true.symm)
      refine hits_skip ?_
      refine to_next ?_
      refine hits_seq ?_
      refine hits_block ?_
      refine hits_drawn mixed ?_
      refine dq (f_fieldAddr rfl kf108_0 rfl (lt rfl)) rfl rfl ?_
      refine dq (f_load kd25 rfl rfl (lt rfl)) rfl rfl ?_
      refine dq (f_move rfl (lt rfl)) rfl rfl ?_
      refine dq (f_fieldAddr rfl kf108_2 rfl (lt rfl)) rfl rfl ?_
      refine dq (f_load kd3 rfl rfl (lt rfl)) rfl rfl ?_
      refine dq (f_call en134 rfl (markByte_c (n := 2) (by decide)) (lt rfl)) rfl rfl ?_
      refine dq (f_idxMo rfl rfl un25 kd5 hk (lt rfl)) rfl rfl ?_
      refine dq (f_storeMA kd5 rfl rfl rfl hfl.symm rfl rfl rfl (by rw [hfl]; omega) rfl) rfl rfl ?_
      refine dq_nil rfl ?_
      refine in_next ?_
      refine to_next ?_
      refine hits_region ?_
      refine sq (f_move rfl (lt rfl)) rfl rfl ?_
      refine sq (f_bin rfl rfl (iT (((IntWalk.i64_in _ (by omega)).trans (by omega) : _ = ((k + 1 : Nat) : Int)))) (lt rfl)) rfl rfl ?_
      refine sq (f_assign rfl (lt rfl)) rfl rfl ?_
      refine hits_nil ?_
      refine to_next ?_
      refine hits_tipD 30 (flat (fillL (l.map byteD) (k + 1) (markByte 2))) rfl rfl (fill_step (byteD_one l) rfl hkl) ?_
      refine round_end (k + 1) (by omega) (by omega) ⟨rfl, rfl, rfl, rfl, rfl, rfl, rfl, rfl, rfl, rfl, rfl, rfl, rfl, rfl, rfl, rfl, rfl, rfl, rfl, rfl, rfl, rfl, rfl, rfl, rfl, rfl, rfl, rfl, rfl, rfl, rfl, rfl, rfl, rfl, rfl, rfl, rfl, rfl, rfl, rfl, rfl, rfl, rfl, rfl, trivial⟩ rfl
    · have hfe : fillL (l.map byteD) k (markByte 2) = List.replicate l.length (markByte 2) := by rw [fill_end (by rw [hll]; omega), hll]
      refine hits_region ?_
      refine sq (f_move rfl (lt rfl)) rfl rfl ?_
      refine sq (f_fieldAddr rfl kf108_0 rfl (lt rfl)) rfl rfl ?_
      refine sq (f_load kd25 rfl rfl (lt rfl)) rfl rfl ?_
      refine sq (f_lenMo rfl un25 (lt rfl)) rfl rfl ?_
      refine sq (f_bin rfl rfl (bT (decide_eq_false (by omega))) (lt rfl)) rfl rfl ?_
      refine hits_nil ?_
      refine to_next ?_
      refine hits_cond rfl (fun c1 => absurd c1 Bool.false_ne_true) (fun c1 => ?_)
      refine hits_exit ?_
      refine to_exit ?_
      refine to_exit ?_
      refine in_hit rfl ?_
      refine in_next ?_
      refine to_next ?_
      refine hits_tipD 30 (flat (List.replicate l.length (markByte 2))) rfl rfl (by rw [hfe]) ?_
      refine Hits.keep (st' := [(.slot 0, some (.ptr 18 0)), (.old 0, some (.ptr 18 0)), (.box 18, some (.ptr 18 0)), (.cell 18 0, some (.d (.sc (.int .i64 2)))), (.cell 18 1, some (.d (.sc (.slice none 0 0)))), (.cell 18 2, some (.mo 102 3 2)), (.cell 18 3, some (.d (.sc (.slice none 0 0)))), (.cell 18 4, some (.d (.sc (.slice none 0 0)))), (.cell 18 5, some (.d (.sc (.slice none 0 0)))), (.cell 18 6, some (.d (.sc (.slice none 0 0)))), (.cell 18 7, some (.d (.sc (.slice none 0 0)))), (.cell 18 8, some (.d (.sc (.slice none 0 0)))), (.cell 18 9, some (.d (.sc (.slice none 0 0)))), (.cell 18 10, some (.d (.sc (.slice none 0 0)))), (.cell 18 11, some (.d (.sc (.slice none 0 0)))), (.cell 18 12, some (.d (.sc (.slice none 0 0)))), (.cell 18 13, some (.d (.sc (.slice none 0 0)))), (.cell 18 14, some (.d (.sc (.slice none 0 0)))), (.cell 18 15, some (.d (.sc (.slice none 0 0)))), (.cell 18 16, some (.d (.sc (.slice none 0 0)))), (.cell 18 17, some (.d (.sc (.slice none 0 0)))), (.cell 18 18, some (.d (.sc (.slice none 0 0)))), (.cell 18 19, some (.d (.sc (.slice none 0 0)))), (.cell 18 20, some (.d (.sc (.slice none 0 0)))), (.cell 18 21, some (.d (.sc (.slice none 0 0)))), (.cell 18 22, some (.d (.sc (.slice none 0 0)))), (.cell 18 23, some (.d (.sc (.slice none 0 0)))), (.cell 18 24, some (.d (.sc (.slice none 0 0)))), (.cell 18 25, some (.d (.sc (.slice none 0 0)))), (.cell 18 26, some (.d (.sc (.slice none 0 0)))), (.cell 18 27, some (.d (.sc (.slice none 0 0)))), (.cell 18 28, some (.d (.sc (.slice none 0 0)))), (.cell 18 29, some (.d (.sc (.slice none 0 0)))), (.cell 18 30, some (.d (.sc (.slice none 0 0)))), (.tip 102, some (.cont [.mo 25 1 l.length, .d (.sc (.slice none 0 0)), .d (.sc (.int .i64 1)), .mo 30 1 l.length, .d (.sc (.slice none 0 0)), .d (.sc (.int .i64 2))])), (.tip 25, some (.contD (flat (List.replicate l.length (markByte 1))))), (.tip 30, some (.contD (flat (List.replicate l.length (markByte 2))))), (.slot 2, some (.d (.sc (.int .i64 ((1 : Nat) : Int)))))]) ⟨rfl, rfl, rfl, rfl, rfl, rfl, rfl, rfl, rfl, rfl, rfl, rfl, rfl, rfl, rfl, rfl, rfl, rfl, rfl, rfl, rfl, rfl, rfl, rfl, rfl, rfl, rfl, rfl, rfl, rfl, rfl, rfl, rfl, rfl, rfl, rfl, rfl, rfl, trivial⟩ rfl ?_
      refine hits_region ?_
      refine sq (f_move rfl (lt rfl)) rfl rfl ?_
      refine sq (f_bin rfl rfl (iT (((IntWalk.i64_in _ (by omega)).trans (by omega) : _ = ((2 : Nat) : Int)))) (lt rfl)) rfl rfl ?_
      refine sq (f_assign rfl (lt rfl)) rfl rfl ?_
      refine hits_nil ?_
      refine to_next ?_
      refine rounds_go ?_
      refine hits_seq ?_
      refine hits_seq ?_
      refine hits_region ?_
      refine sq (f_move rfl (lt rfl)) rfl rfl ?_
      refine sq (f_move rfl (lt rfl)) rfl rfl ?_
      refine sq (f_nil rfl rfl (lt rfl)) rfl rfl ?_
      refine sq (f_fieldAddr rfl kf65_2 rfl (lt rfl)) rfl rfl ?_
      refine sq (f_load kd35 rfl rfl (lt rfl)) rfl rfl ?_
      refine sq (f_lenMo rfl un35 (lt rfl)) rfl rfl ?_
      refine sq (f_bin rfl rfl (bT (decide_eq_false (by decide))) (lt rfl)) rfl rfl ?_
      refine hits_nil ?_
      refine to_next ?_
      refine hits_cond rfl (fun c0 => absurd c0 Bool.false_ne_true) (fun c0 => ?_)
      refine hits_exit ?_
      refine to_exit ?_
      refine to_exit ?_
      refine in_hit rfl ?_
      refine hits_back (.inr rfl) ha6 hd6 rfl rfl (lt rfl) rfl ?_
      refine Hits.keep (st' := [(.slot 0, some (.ptr 18 0)), (.box 18, some (.ptr 18 0)), (.cell 18 0, some (.d (.sc (.int .i64 2)))), (.cell 18 1, some (.d (.sc (.slice none 0 0)))), (.cell 18 2, some (.mo 102 3 2)), (.cell 18 3, some (.d (.sc (.slice none 0 0)))), (.cell 18 4, some (.d (.sc (.slice none 0 0)))), (.cell 18 5, some (.d (.sc (.slice none 0 0)))), (.cell 18 6, some (.d (.sc (.slice none 0 0)))), (.cell 18 7, some (.d (.sc (.slice none 0 0)))), (.cell 18 8, some (.d (.sc (.slice none 0 0)))), (.cell 18 9, some (.d (.sc (.slice none 0 0)))), (.cell 18 10, some (.d (.sc (.slice none 0 0)))), (.cell 18 11, some (.d (.sc (.slice none 0 0)))), (.cell 18 12, some (.d (.sc (.slice none 0 0)))), (.cell 18 13, some (.d (.sc (.slice none 0 0)))), (.cell 18 14, some (.d (.sc (.slice none 0 0)))), (.cell 18 15, some (.d (.sc (.slice none 0 0)))), (.cell 18 16, some (.d (.sc (.slice none 0 0)))), (.cell 18 17, some (.d (.sc (.slice none 0 0)))), (.cell 18 18, some (.d (.sc (.slice none 0 0)))), (.cell 18 19, some (.d (.sc (.slice none 0 0)))), (.cell 18 20, some (.d (.sc (.slice none 0 0)))), (.cell 18 21, some (.d (.sc (.slice none 0 0)))), (.cell 18 22, some (.d (.sc (.slice none 0 0)))), (.cell 18 23, some (.d (.sc (.slice none 0 0)))), (.cell 18 24, some (.d (.sc (.slice none 0 0)))), (.cell 18 25, some (.d (.sc (.slice none 0 0)))), (.cell 18 26, some (.d (.sc (.slice none 0 0)))), (.cell 18 27, some (.d (.sc (.slice none 0 0)))), (.cell 18 28, some (.d (.sc (.slice none 0 0)))), (.cell 18 29, some (.d (.sc (.slice none 0 0)))), (.cell 18 30, some (.d (.sc (.slice none 0 0)))), (.tip 25, some (.contD (flat (List.replicate l.length (markByte 1))))), (.tip 30, some (.contD (flat (List.replicate l.length (markByte 2))))), (.tip 102, some (.cont [.mo 25 1 l.length, .d (.sc (.slice none 0 0)), .d (.sc (.int .i64 1)), .mo 30 1 l.length, .d (.sc (.slice none 0 0)), .d (.sc (.int .i64 2))]))]) ⟨rfl, rfl, rfl, rfl, rfl, rfl, rfl, rfl, rfl, rfl, rfl, rfl, rfl, rfl, rfl, rfl, rfl, rfl, rfl, rfl, rfl, rfl, rfl, rfl, rfl, rfl, rfl, rfl, rfl, rfl, rfl, rfl, rfl, rfl, rfl, rfl, trivial⟩ rfl ?_
      refine hits_nil ?_
      refine to_next ?_
      refine hits_seq ?_
      refine hits_region ?_
      refine sq (f_move rfl (lt rfl)) rfl rfl ?_
      refine sq (f_callQ [.cell 18 0, .cell 18 1, .cell 18 2, .cell 18 3] en36 rfl (.cons (.box (.cons rfl rfl (.any rfl) (.cons rfl rfl (.any rfl) (.cons rfl rfl (.any rfl) (.cons rfl rfl .nil .nil))))) .nil) fillKind_no rfl (lt rfl)) rfl rfl ?_
      refine hits_nil ?_
      refine to_next ?_
      refine hits_seq ?_
      refine hits_region ?_
      refine sq (f_move rfl (lt rfl)) rfl rfl ?_
      refine sq (f_callQ [.cell 18 0, .cell 18 1, .cell 18 2, .cell 18 3, .cell 18 4] en37 rfl (.cons (.box (.cons rfl rfl (.any rfl) (.cons rfl rfl (.any rfl) (.cons rfl rfl (.any rfl) (.cons rfl rfl (.any rfl) (.cons rfl rfl .nil .nil)))))) .nil) fillText_no rfl (lt rfl)) rfl rfl ?_
      refine hits_nil ?_
      refine to_next ?_
      refine hits_seq ?_
      refine hits_region ?_
      refine sq (f_move rfl (lt rfl)) rfl rfl ?_
      refine sq (f_callQ [.cell 18 0, .cell 18 1, .cell 18 2, .cell 18 3, .cell 18 4, .cell 18 5] en38 rfl (.cons (.box (.cons rfl rfl (.any rfl) (.cons rfl rfl (.any rfl) (.cons rfl rfl (.any rfl) (.cons rfl rfl (.any rfl) (.cons rfl rfl (.any rfl) (.cons rfl rfl .nil .nil))))))) .nil) fillBlob_no rfl (lt rfl)) rfl rfl ?_
      refine hits_nil ?_
      refine to_next ?_
      refine hits_seq ?_
      refine hits_region ?_
      refine sq (f_move rfl (lt rfl)) rfl rfl ?_
      refine sq (f_callQ [.cell 18 0, .cell 18 1, .cell 18 2, .cell 18 3, .cell 18 4, .cell 18 5, .cell 18 6] en39 rfl (.cons (.box (.cons rfl rfl (.any rfl) (.cons rfl rfl (.any rfl) (.cons rfl rfl (.any rfl) (.cons rfl rfl (.any rfl) (.cons rfl rfl (.any rfl) (.cons rfl rfl (.any rfl) (.cons rfl rfl .nil .nil)))))))) .nil) fillNumber_no rfl (lt rfl)) rfl rfl ?_
      refine hits_nil ?_
      refine to_next ?_
      refine hits_seq ?_
      refine hits_region ?_
      refine sq (f_move rfl (lt rfl)) rfl rfl ?_
      refine sq (f_callQ [.cell 18 0, .cell 18 1, .cell 18 2, .cell 18 3, .cell 18 4, .cell 18 5, .cell 18 6, .cell 18 7] en40 rfl (.cons (.box (.cons rfl rfl (.any rfl) (.cons rfl rfl (.any rfl) (.cons rfl rfl (.any rfl) (.cons rfl rfl (.any rfl) (.cons rfl rfl (.any rfl) (.cons rfl rfl (.any rfl) (.cons rfl rfl (.any rfl) (.cons rfl rfl .nil .nil))))))))) .nil) fillWord_no rfl (lt rfl)) rfl rfl ?_
      refine hits_nil ?_
      refine to_next ?_
      refine hits_seq ?_
      refine hits_region ?_
      refine sq (f_move rfl (lt rfl)) rfl rfl ?_
      refine sq (f_callQ [.cell 18 0, .cell 18 1, .cell 18 2, .cell 18 3, .cell 18 4, .cell 18 5, .cell 18 6, .cell 18 7, .cell 18 8] en41 rfl (.cons (.box (.cons rfl rfl (.any rfl) (.cons rfl rfl (.any rfl) (.cons rfl rfl (.any rfl) (.cons rfl rfl (.any rfl) (.cons rfl rfl (.any rfl) (.cons rfl rfl (.any rfl) (.cons rfl rfl (.any rfl) (.cons rfl rfl (.any rfl) (.cons rfl rfl .nil .nil)))))))))) .nil) fillField_no rfl (lt rfl)) rfl rfl ?_
      refine hits_nil ?_
      refine to_next ?_
      refine hits_seq ?_
      refine hits_region ?_
      refine sq (f_move rfl (lt rfl)) rfl rfl ?_
      refine sq (f_callQ [.cell 18 0, .cell 18 1, .cell 18 2, .cell 18 3, .cell 18 4, .cell 18 5, .cell 18 6, .cell 18 7, .cell 18 8, .cell 18 9] en42 rfl (.cons (.box (.cons rfl rfl (.any rfl) (.cons rfl rfl (.any rfl) (.cons rfl rfl (.any rfl) (.cons rfl rfl (.any rfl) (.cons rfl rfl (.any rfl) (.cons rfl rfl (.any rfl) (.cons rfl rfl (.any rfl) (.cons rfl rfl (.any rfl) (.cons rfl rfl (.any rfl) (.cons rfl rfl .nil .nil))))))))))) .nil) fillMatch_no rfl (lt rfl)) rfl rfl ?_
      refine hits_nil ?_
      refine to_next ?_
      refine hits_seq ?_
      refine hits_region ?_
      refine sq (f_move rfl (lt rfl)) rfl rfl ?_
      refine sq (f_callQ [.cell 18 0, .cell 18 1, .cell 18 2, .cell 18 3, .cell 18 4, .cell 18 5, .cell 18 6, .cell 18 7, .cell 18 8, .cell 18 9, .cell 18 10] en43 rfl (.cons (.box (.cons rfl rfl (.any rfl) (.cons rfl rfl (.any rfl) (.cons rfl rfl (.any rfl) (.cons rfl rfl (.any rfl) (.cons rfl rfl (.any rfl) (.cons rfl rfl (.any rfl) (.cons rfl rfl (.any rfl) (.cons rfl rfl (.any rfl) (.cons rfl rfl (.any rfl) (.cons rfl rfl (.any rfl) (.cons rfl rfl .nil .nil)))))))))))) .nil) fillArr_no rfl (lt rfl)) rfl rfl ?_
      refine hits_nil ?_
      refine to_next ?_
      refine hits_seq ?_
      refine hits_region ?_
      refine sq (f_move rfl (lt rfl)) rfl rfl ?_
      refine sq (f_callQ [.cell 18 0, .cell 18 1, .cell 18 2, .cell 18 3, .cell 18 4, .cell 18 5, .cell 18 6, .cell 18 7, .cell 18 8, .cell 18 9, .cell 18 10, .cell 18 11] en44 rfl (.cons (.box (.cons rfl rfl (.any rfl) (.cons rfl rfl (.any rfl) (.cons rfl rfl (.any rfl) (.cons rfl rfl (.any rfl) (.cons rfl rfl (.any rfl) (.cons rfl rfl (.any rfl) (.cons rfl rfl (.any rfl) (.cons rfl rfl (.any rfl) (.cons rfl rfl (.any rfl) (.cons rfl rfl (.any rfl) (.cons rfl rfl (.any rfl) (.cons rfl rfl .nil .nil))))))))))))) .nil) fillCase_no rfl (lt rfl)) rfl rfl ?_
      refine hits_nil ?_
      refine to_next ?_
      refine hits_seq ?_
      refine hits_region ?_
      refine sq (f_move rfl (lt rfl)) rfl rfl ?_
      refine sq (f_callQ [.cell 18 0, .cell 18 1, .cell 18 2, .cell 18 3, .cell 18 4, .cell 18 5, .cell 18 6, .cell 18 7, .cell 18 8, .cell 18 9, .cell 18 10, .cell 18 11, .cell 18 12] en45 rfl (.cons (.box (.cons rfl rfl (.any rfl) (.cons rfl rfl (.any rfl) (.cons rfl rfl (.any rfl) (.cons rfl rfl (.any rfl) (.cons rfl rfl (.any rfl) (.cons rfl rfl (.any rfl) (.cons rfl rfl (.any rfl) (.cons rfl rfl (.any rfl) (.cons rfl rfl (.any rfl) (.cons rfl rfl (.any rfl) (.cons rfl rfl (.any rfl) (.cons rfl rfl (.any rfl) (.cons rfl rfl .nil .nil)))))))))))))) .nil) fillJump_no rfl (lt rfl)) rfl rfl ?_
      refine hits_nil ?_
      refine to_next ?_
      refine hits_seq ?_
      refine hits_region ?_
      refine sq (f_move rfl (lt rfl)) rfl rfl ?_
      refine sq (f_callQ [.cell 18 0, .cell 18 1, .cell 18 2, .cell 18 3, .cell 18 4, .cell 18 5, .cell 18 6, .cell 18 7, .cell 18 8, .cell 18 9, .cell 18 10, .cell 18 11, .cell 18 12, .cell 18 13] en46 rfl (.cons (.box (.cons rfl rfl (.any rfl) (.cons rfl rfl (.any rfl) (.cons rfl rfl (.any rfl) (.cons rfl rfl (.any rfl) (.cons rfl rfl (.any rfl) (.cons rfl rfl (.any rfl) (.cons rfl rfl (.any rfl) (.cons rfl rfl (.any rfl) (.cons rfl rfl (.any rfl) (.cons rfl rfl (.any rfl) (.cons rfl rfl (.any rfl) (.cons rfl rfl (.any rfl) (.cons rfl rfl (.any rfl) (.cons rfl rfl .nil .nil))))))))))))))) .nil) fillExpr_no rfl (lt rfl)) rfl rfl ?_
      refine hits_nil ?_
      refine to_next ?_
      refine hits_seq ?_
      refine hits_region ?_
      refine sq (f_move rfl (lt rfl)) rfl rfl ?_
      refine sq (f_callQ [.cell 18 0, .cell 18 1, .cell 18 2, .cell 18 3, .cell 18 4, .cell 18 5, .cell 18 6, .cell 18 7, .cell 18 8, .cell 18 9, .cell 18 10, .cell 18 11, .cell 18 12, .cell 18 13, .cell 18 14] en47 rfl (.cons (.box (.cons rfl rfl (.any rfl) (.cons rfl rfl (.any rfl) (.cons rfl rfl (.any rfl) (.cons rfl rfl (.any rfl) (.cons rfl rfl (.any rfl) (.cons rfl rfl (.any rfl) (.cons rfl rfl (.any rfl) (.cons rfl rfl (.any rfl) (.cons rfl rfl (.any rfl) (.cons rfl rfl (.any rfl) (.cons rfl rfl (.any rfl) (.cons rfl rfl (.any rfl) (.cons rfl rfl (.any rfl) (.cons rfl rfl (.any rfl) (.cons rfl rfl .nil .nil)))))))))))))))) .nil) fillStmt_no rfl (lt rfl)) rfl rfl ?_
      refine hits_nil ?_
      refine to_next ?_
      refine hits_seq ?_
      refine hits_region ?_
      refine sq (f_move rfl (lt rfl)) rfl rfl ?_
      refine sq (f_callQ [.cell 18 0, .cell 18 1, .cell 18 2, .cell 18 3, .cell 18 4, .cell 18 5, .cell 18 6, .cell 18 7, .cell 18 8, .cell 18 9, .cell 18 10, .cell 18 11, .cell 18 12, .cell 18 13, .cell 18 14, .cell 18 15] en48 rfl (.cons (.box (.cons rfl rfl (.any rfl) (.cons rfl rfl (.any rfl) (.cons rfl rfl (.any rfl) (.cons rfl rfl (.any rfl) (.cons rfl rfl (.any rfl) (.cons rfl rfl (.any rfl) (.cons rfl rfl (.any rfl) (.cons rfl rfl (.any rfl) (.cons rfl rfl (.any rfl) (.cons rfl rfl (.any rfl) (.cons rfl rfl (.any rfl) (.cons rfl rfl (.any rfl) (.cons rfl rfl (.any rfl) (.cons rfl rfl (.any rfl) (.cons rfl rfl (.any rfl) (.cons rfl rfl .nil .nil))))))))))))))))) .nil) fillState_no rfl (lt rfl)) rfl rfl ?_
      refine hits_nil ?_
      refine to_next ?_
      refine hits_seq ?_
      refine hits_region ?_
      refine sq (f_move rfl (lt rfl)) rfl rfl ?_
      refine sq (f_callQ [.cell 18 0, .cell 18 1, .cell 18 2, .cell 18 3, .cell 18 4, .cell 18 5, .cell 18 6, .cell 18 7, .cell 18 8, .cell 18 9, .cell 18 10, .cell 18 11, .cell 18 12, .cell 18 13, .cell 18 14, .cell 18 15, .cell 18 16] en49 rfl (.cons (.box (.cons rfl rfl (.any rfl) (.cons rfl rfl (.any rfl) (.cons rfl rfl (.any rfl) (.cons rfl rfl (.any rfl) (.cons rfl rfl (.any rfl) (.cons rfl rfl (.any rfl) (.cons rfl rfl (.any rfl) (.cons rfl rfl (.any rfl) (.cons rfl rfl (.any rfl) (.cons rfl rfl (.any rfl) (.cons rfl rfl (.any rfl) (.cons rfl rfl (.any rfl) (.cons rfl rfl (.any rfl) (.cons rfl rfl (.any rfl) (.cons rfl rfl (.any rfl) (.cons rfl rfl (.any rfl) (.cons rfl rfl .nil .nil)))))))))))))))))) .nil) fillKey_no rfl (lt rfl)) rfl rfl ?_
      refine hits_nil ?_
      refine to_next ?_
      refine hits_seq ?_
      refine hits_region ?_
      refine sq (f_move rfl (lt rfl)) rfl rfl ?_
      refine sq (f_callQ [.cell 18 0, .cell 18 1, .cell 18 2, .cell 18 3, .cell 18 4, .cell 18 5, .cell 18 6, .cell 18 7, .cell 18 8, .cell 18 9, .cell 18 10, .cell 18 11, .cell 18 12, .cell 18 13, .cell 18 14, .cell 18 15, .cell 18 16, .cell 18 17] en50 rfl (.cons (.box (.cons rfl rfl (.any rfl) (.cons rfl rfl (.any rfl) (.cons rfl rfl (.any rfl) (.cons rfl rfl (.any rfl) (.cons rfl rfl (.any rfl) (.cons rfl rfl (.any rfl) (.cons rfl rfl (.any rfl) (.cons rfl rfl (.any rfl) (.cons rfl rfl (.any rfl) (.cons rfl rfl (.any rfl) (.cons rfl rfl (.any rfl) (.cons rfl rfl (.any rfl) (.cons rfl rfl (.any rfl) (.cons rfl rfl (.any rfl) (.cons rfl rfl (.any rfl) (.cons rfl rfl (.any rfl) (.cons rfl rfl (.any rfl) (.cons rfl rfl .nil .nil))))))))))))))))))) .nil) fillDecl_no rfl (lt rfl)) rfl rfl ?_
      refine hits_nil ?_
      refine to_next ?_
      refine hits_seq ?_
      refine hits_region ?_
      refine sq (f_move rfl (lt rfl)) rfl rfl ?_
      refine sq (f_callQ [.cell 18 0, .cell 18 1, .cell 18 2, .cell 18 3, .cell 18 4, .cell 18 5, .cell 18 6, .cell 18 7, .cell 18 8, .cell 18 9, .cell 18 10, .cell 18 11, .cell 18 12, .cell 18 13, .cell 18 14, .cell 18 15, .cell 18 16, .cell 18 17, .cell 18 18] en51 rfl (.cons (.box (.cons rfl rfl (.any rfl) (.cons rfl rfl (.any rfl) (.cons rfl rfl (.any rfl) (.cons rfl rfl (.any rfl) (.cons rfl rfl (.any rfl) (.cons rfl rfl (.any rfl) (.cons rfl rfl (.any rfl) (.cons rfl rfl (.any rfl) (.cons rfl rfl (.any rfl) (.cons rfl rfl (.any rfl) (.cons rfl rfl (.any rfl) (.cons rfl rfl (.any rfl) (.cons rfl rfl (.any rfl) (.cons rfl rfl (.any rfl) (.cons rfl rfl (.any rfl) (.cons rfl rfl (.any rfl) (.cons rfl rfl (.any rfl) (.cons rfl rfl (.any rfl) (.cons rfl rfl .nil .nil)))))))))))))))))))) .nil) fillEntry_no rfl (lt rfl)) rfl rfl ?_
      refine hits_nil ?_
      refine to_next ?_
      refine hits_seq ?_
      refine hits_region ?_
      refine sq (f_move rfl (lt rfl)) rfl rfl ?_
      refine sq (f_callQ [.cell 18 0, .cell 18 1, .cell 18 2, .cell 18 3, .cell 18 4, .cell 18 5, .cell 18 6, .cell 18 7, .cell 18 8, .cell 18 9, .cell 18 10, .cell 18 11, .cell 18 12, .cell 18 13, .cell 18 14, .cell 18 15, .cell 18 16, .cell 18 17, .cell 18 18, .cell 18 19] en52 rfl (.cons (.box (.cons rfl rfl (.any rfl) (.cons rfl rfl (.any rfl) (.cons rfl rfl (.any rfl) (.cons rfl rfl (.any rfl) (.cons rfl rfl (.any rfl) (.cons rfl rfl (.any rfl) (.cons rfl rfl (.any rfl) (.cons rfl rfl (.any rfl) (.cons rfl rfl (.any rfl) (.cons rfl rfl (.any rfl) (.cons rfl rfl (.any rfl) (.cons rfl rfl (.any rfl) (.cons rfl rfl (.any rfl) (.cons rfl rfl (.any rfl) (.cons rfl rfl (.any rfl) (.cons rfl rfl (.any rfl) (.cons rfl rfl (.any rfl) (.cons rfl rfl (.any rfl) (.cons rfl rfl (.any rfl) (.cons rfl rfl .nil .nil))))))))))))))))))))) .nil) fillGroup_no rfl (lt rfl)) rfl rfl ?_
      refine hits_nil ?_
      refine to_next ?_
      refine hits_seq ?_
      refine hits_region ?_
      refine sq (f_move rfl (lt rfl)) rfl rfl ?_
      refine sq (f_callQ [.cell 18 0, .cell 18 1, .cell 18 2, .cell 18 3, .cell 18 4, .cell 18 5, .cell 18 6, .cell 18 7, .cell 18 8, .cell 18 9, .cell 18 10, .cell 18 11, .cell 18 12, .cell 18 13, .cell 18 14, .cell 18 15, .cell 18 16, .cell 18 17, .cell 18 18, .cell 18 19, .cell 18 20] en53 rfl (.cons (.box (.cons rfl rfl (.any rfl) (.cons rfl rfl (.any rfl) (.cons rfl rfl (.any rfl) (.cons rfl rfl (.any rfl) (.cons rfl rfl (.any rfl) (.cons rfl rfl (.any rfl) (.cons rfl rfl (.any rfl) (.cons rfl rfl (.any rfl) (.cons rfl rfl (.any rfl) (.cons rfl rfl (.any rfl) (.cons rfl rfl (.any rfl) (.cons rfl rfl (.any rfl) (.cons rfl rfl (.any rfl) (.cons rfl rfl (.any rfl) (.cons rfl rfl (.any rfl) (.cons rfl rfl (.any rfl) (.cons rfl rfl (.any rfl) (.cons rfl rfl (.any rfl) (.cons rfl rfl (.any rfl) (.cons rfl rfl (.any rfl) (.cons rfl rfl .nil .nil)))))))))))))))))))))) .nil) fillHead_no rfl (lt rfl)) rfl rfl ?_
      refine hits_nil ?_
      refine to_next ?_
      refine hits_seq ?_
      refine hits_region ?_
      refine sq (f_move rfl (lt rfl)) rfl rfl ?_
      refine sq (f_callQ [.cell 18 0, .cell 18 1, .cell 18 2, .cell 18 3, .cell 18 4, .cell 18 5, .cell 18 6, .cell 18 7, .cell 18 8, .cell 18 9, .cell 18 10, .cell 18 11, .cell 18 12, .cell 18 13, .cell 18 14, .cell 18 15, .cell 18 16, .cell 18 17, .cell 18 18, .cell 18 19, .cell 18 20, .cell 18 21] en54 rfl (.cons (.box (.cons rfl rfl (.any rfl) (.cons rfl rfl (.any rfl) (.cons rfl rfl (.any rfl) (.cons rfl rfl (.any rfl) (.cons rfl rfl (.any rfl) (.cons rfl rfl (.any rfl) (.cons rfl rfl (.any rfl) (.cons rfl rfl (.any rfl) (.cons rfl rfl (.any rfl) (.cons rfl rfl (.any rfl) (.cons rfl rfl (.any rfl) (.cons rfl rfl (.any rfl) (.cons rfl rfl (.any rfl) (.cons rfl rfl (.any rfl) (.cons rfl rfl (.any rfl) (.cons rfl rfl (.any rfl) (.cons rfl rfl (.any rfl) (.cons rfl rfl (.any rfl) (.cons rfl rfl (.any rfl) (.cons rfl rfl (.any rfl) (.cons rfl rfl (.any rfl) (.cons rfl rfl .nil .nil))))))))))))))))))))))) .nil) fillNode_no rfl (lt rfl)) rfl rfl ?_
      refine hits_nil ?_
      refine to_next ?_
      refine hits_seq ?_
      refine hits_region ?_
      refine sq (f_move rfl (lt rfl)) rfl rfl ?_
      refine sq (f_callQ [.cell 18 0, .cell 18 1, .cell 18 2, .cell 18 3, .cell 18 4, .cell 18 5, .cell 18 6, .cell 18 7, .cell 18 8, .cell 18 9, .cell 18 10, .cell 18 11, .cell 18 12, .cell 18 13, .cell 18 14, .cell 18 15, .cell 18 16, .cell 18 17, .cell 18 18, .cell 18 19, .cell 18 20, .cell 18 21, .cell 18 22] en55 rfl (.cons (.box (.cons rfl rfl (.any rfl) (.cons rfl rfl (.any rfl) (.cons rfl rfl (.any rfl) (.cons rfl rfl (.any rfl) (.cons rfl rfl (.any rfl) (.cons rfl rfl (.any rfl) (.cons rfl rfl (.any rfl) (.cons rfl rfl (.any rfl) (.cons rfl rfl (.any rfl) (.cons rfl rfl (.any rfl) (.cons rfl rfl (.any rfl) (.cons rfl rfl (.any rfl) (.cons rfl rfl (.any rfl) (.cons rfl rfl (.any rfl) (.cons rfl rfl (.any rfl) (.cons rfl rfl (.any rfl) (.cons rfl rfl (.any rfl) (.cons rfl rfl (.any rfl) (.cons rfl rfl (.any rfl) (.cons rfl rfl (.any rfl) (.cons rfl rfl (.any rfl) (.cons rfl rfl (.any rfl) (.cons rfl rfl .nil .nil)))))))))))))))))))))))) .nil) fillAct_no rfl (lt rfl)) rfl rfl ?_
      refine hits_nil ?_
      refine to_next ?_
      refine hits_seq ?_
      refine hits_region ?_
      refine sq (f_move rfl (lt rfl)) rfl rfl ?_
      refine sq (f_callQ [.cell 18 0, .cell 18 1, .cell 18 2, .cell 18 3, .cell 18 4, .cell 18 5, .cell 18 6, .cell 18 7, .cell 18 8, .cell 18 9, .cell 18 10, .cell 18 11, .cell 18 12, .cell 18 13, .cell 18 14, .cell 18 15, .cell 18 16, .cell 18 17, .cell 18 18, .cell 18 19, .cell 18 20, .cell 18 21, .cell 18 22, .cell 18 23] en56 rfl (.cons (.box (.cons rfl rfl (.any rfl) (.cons rfl rfl (.any rfl) (.cons rfl rfl (.any rfl) (.cons rfl rfl (.any rfl) (.cons rfl rfl (.any rfl) (.cons rfl rfl (.any rfl) (.cons rfl rfl (.any rfl) (.cons rfl rfl (.any rfl) (.cons rfl rfl (.any rfl) (.cons rfl rfl (.any rfl) (.cons rfl rfl (.any rfl) (.cons rfl rfl (.any rfl) (.cons rfl rfl (.any rfl) (.cons rfl rfl (.any rfl) (.cons rfl rfl (.any rfl) (.cons rfl rfl (.any rfl) (.cons rfl rfl (.any rfl) (.cons rfl rfl (.any rfl) (.cons rfl rfl (.any rfl) (.cons rfl rfl (.any rfl) (.cons rfl rfl (.any rfl) (.cons rfl rfl (.any rfl) (.cons rfl rfl (.any rfl) (.cons rfl rfl .nil .nil))))))))))))))))))))))))) .nil) fillTable_no rfl (lt rfl)) rfl rfl ?_
      refine hits_nil ?_
      refine to_next ?_
      refine hits_seq ?_
      refine hits_region ?_
      refine sq (f_move rfl (lt rfl)) rfl rfl ?_
      refine sq (f_callQ [.cell 18 0, .cell 18 1, .cell 18 2, .cell 18 3, .cell 18 4, .cell 18 5, .cell 18 6, .cell 18 7, .cell 18 8, .cell 18 9, .cell 18 10, .cell 18 11, .cell 18 12, .cell 18 13, .cell 18 14, .cell 18 15, .cell 18 16, .cell 18 17, .cell 18 18, .cell 18 19, .cell 18 20, .cell 18 21, .cell 18 22, .cell 18 23, .cell 18 24] en57 rfl (.cons (.box (.cons rfl rfl (.any rfl) (.cons rfl rfl (.any rfl) (.cons rfl rfl (.any rfl) (.cons rfl rfl (.any rfl) (.cons rfl rfl (.any rfl) (.cons rfl rfl (.any rfl) (.cons rfl rfl (.any rfl) (.cons rfl rfl (.any rfl) (.cons rfl rfl (.any rfl) (.cons rfl rfl (.any rfl) (.cons rfl rfl (.any rfl) (.cons rfl rfl (.any rfl) (.cons rfl rfl (.any rfl) (.cons rfl rfl (.any rfl) (.cons rfl rfl (.any rfl) (.cons rfl rfl (.any rfl) (.cons rfl rfl (.any rfl) (.cons rfl rfl (.any rfl) (.cons rfl rfl (.any rfl) (.cons rfl rfl (.any rfl) (.cons rfl rfl (.any rfl) (.cons rfl rfl (.any rfl) (.cons rfl rfl (.any rfl) (.cons rfl rfl (.any rfl) (.cons rfl rfl .nil .nil)))))))))))))))))))))))))) .nil) fillIns_no rfl (lt rfl)) rfl rfl ?_
      refine hits_nil ?_
      refine to_next ?_
      refine hits_seq ?_
      refine hits_region ?_
      refine sq (f_move rfl (lt rfl)) rfl rfl ?_
      refine sq (f_callQ [.cell 18 0, .cell 18 1, .cell 18 2, .cell 18 3, .cell 18 4, .cell 18 5, .cell 18 6, .cell 18 7, .cell 18 8, .cell 18 9, .cell 18 10, .cell 18 11, .cell 18 12, .cell 18 13, .cell 18 14, .cell 18 15, .cell 18 16, .cell 18 17, .cell 18 18, .cell 18 19, .cell 18 20, .cell 18 21, .cell 18 22, .cell 18 23, .cell 18 24, .cell 18 25] en58 rfl (.cons (.box (.cons rfl rfl (.any rfl) (.cons rfl rfl (.any rfl) (.cons rfl rfl (.any rfl) (.cons rfl rfl (.any rfl) (.cons rfl rfl (.any rfl) (.cons rfl rfl (.any rfl) (.cons rfl rfl (.any rfl) (.cons rfl rfl (.any rfl) (.cons rfl rfl (.any rfl) (.cons rfl rfl (.any rfl) (.cons rfl rfl (.any rfl) (.cons rfl rfl (.any rfl) (.cons rfl rfl (.any rfl) (.cons rfl rfl (.any rfl) (.cons rfl rfl (.any rfl) (.cons rfl rfl (.any rfl) (.cons rfl rfl (.any rfl) (.cons rfl rfl (.any rfl) (.cons rfl rfl (.any rfl) (.cons rfl rfl (.any rfl) (.cons rfl rfl (.any rfl) (.cons rfl rfl (.any rfl) (.cons rfl rfl (.any rfl) (.cons rfl rfl (.any rfl) (.cons rfl rfl (.any rfl) (.cons rfl rfl .nil .nil))))))))))))))))))))))))))) .nil) fillEffect_no rfl (lt rfl)) rfl rfl ?_
      refine hits_nil ?_
      refine to_next ?_
      refine hits_seq ?_
      refine hits_region ?_
      refine sq (f_move rfl (lt rfl)) rfl rfl ?_
      refine sq (f_callQ [.cell 18 0, .cell 18 1, .cell 18 2, .cell 18 3, .cell 18 4, .cell 18 5, .cell 18 6, .cell 18 7, .cell 18 8, .cell 18 9, .cell 18 10, .cell 18 11, .cell 18 12, .cell 18 13, .cell 18 14, .cell 18 15, .cell 18 16, .cell 18 17, .cell 18 18, .cell 18 19, .cell 18 20, .cell 18 21, .cell 18 22, .cell 18 23, .cell 18 24, .cell 18 25, .cell 18 26] en59 rfl (.cons (.box (.cons rfl rfl (.any rfl) (.cons rfl rfl (.any rfl) (.cons rfl rfl (.any rfl) (.cons rfl rfl (.any rfl) (.cons rfl rfl (.any rfl) (.cons rfl rfl (.any rfl) (.cons rfl rfl (.any rfl) (.cons rfl rfl (.any rfl) (.cons rfl rfl (.any rfl) (.cons rfl rfl (.any rfl) (.cons rfl rfl (.any rfl) (.cons rfl rfl (.any rfl) (.cons rfl rfl (.any rfl) (.cons rfl rfl (.any rfl) (.cons rfl rfl (.any rfl) (.cons rfl rfl (.any rfl) (.cons rfl rfl (.any rfl) (.cons rfl rfl (.any rfl) (.cons rfl rfl (.any rfl) (.cons rfl rfl (.any rfl) (.cons rfl rfl (.any rfl) (.cons rfl rfl (.any rfl) (.cons rfl rfl (.any rfl) (.cons rfl rfl (.any rfl) (.cons rfl rfl (.any rfl) (.cons rfl rfl (.any rfl) (.cons rfl rfl .nil .nil)))))))))))))))))))))))))))) .nil) fillUpdate_no rfl (lt rfl)) rfl rfl ?_
      refine hits_nil ?_
      refine to_next ?_
      refine hits_seq ?_
      refine hits_region ?_
      refine sq (f_move rfl (lt rfl)) rfl rfl ?_
      refine sq (f_callQ [.cell 18 0, .cell 18 1, .cell 18 2, .cell 18 3, .cell 18 4, .cell 18 5, .cell 18 6, .cell 18 7, .cell 18 8, .cell 18 9, .cell 18 10, .cell 18 11, .cell 18 12, .cell 18 13, .cell 18 14, .cell 18 15, .cell 18 16, .cell 18 17, .cell 18 18, .cell 18 19, .cell 18 20, .cell 18 21, .cell 18 22, .cell 18 23, .cell 18 24, .cell 18 25, .cell 18 26, .cell 18 27] en60 rfl (.cons (.box (.cons rfl rfl (.any rfl) (.cons rfl rfl (.any rfl) (.cons rfl rfl (.any rfl) (.cons rfl rfl (.any rfl) (.cons rfl rfl (.any rfl) (.cons rfl rfl (.any rfl) (.cons rfl rfl (.any rfl) (.cons rfl rfl (.any rfl) (.cons rfl rfl (.any rfl) (.cons rfl rfl (.any rfl) (.cons rfl rfl (.any rfl) (.cons rfl rfl (.any rfl) (.cons rfl rfl (.any rfl) (.cons rfl rfl (.any rfl) (.cons rfl rfl (.any rfl) (.cons rfl rfl (.any rfl) (.cons rfl rfl (.any rfl) (.cons rfl rfl (.any rfl) (.cons rfl rfl (.any rfl) (.cons rfl rfl (.any rfl) (.cons rfl rfl (.any rfl) (.cons rfl rfl (.any rfl) (.cons rfl rfl (.any rfl) (.cons rfl rfl (.any rfl) (.cons rfl rfl (.any rfl) (.cons rfl rfl (.any rfl) (.cons rfl rfl (.any rfl) (.cons rfl rfl .nil .nil))))))))))))))))))))))))))))) .nil) fillEvent_no rfl (lt rfl)) rfl rfl ?_
      refine hits_nil ?_
      refine to_next ?_
      refine hits_seq ?_
      refine hits_region ?_
      refine sq (f_move rfl (lt rfl)) rfl rfl ?_
      refine sq (f_callQ [.cell 18 0, .cell 18 1, .cell 18 2, .cell 18 3, .cell 18 4, .cell 18 5, .cell 18 6, .cell 18 7, .cell 18 8, .cell 18 9, .cell 18 10, .cell 18 11, .cell 18 12, .cell 18 13, .cell 18 14, .cell 18 15, .cell 18 16, .cell 18 17, .cell 18 18, .cell 18 19, .cell 18 20, .cell 18 21, .cell 18 22, .cell 18 23, .cell 18 24, .cell 18 25, .cell 18 26, .cell 18 27, .cell 18 28] en61 rfl (.cons (.box (.cons rfl rfl (.any rfl) (.cons rfl rfl (.any rfl) (.cons rfl rfl (.any rfl) (.cons rfl rfl (.any rfl) (.cons rfl rfl (.any rfl) (.cons rfl rfl (.any rfl) (.cons rfl rfl (.any rfl) (.cons rfl rfl (.any rfl) (.cons rfl rfl (.any rfl) (.cons rfl rfl (.any rfl) (.cons rfl rfl (.any rfl) (.cons rfl rfl (.any rfl) (.cons rfl rfl (.any rfl) (.cons rfl rfl (.any rfl) (.cons rfl rfl (.any rfl) (.cons rfl rfl (.any rfl) (.cons rfl rfl (.any rfl) (.cons rfl rfl (.any rfl) (.cons rfl rfl (.any rfl) (.cons rfl rfl (.any rfl) (.cons rfl rfl (.any rfl) (.cons rfl rfl (.any rfl) (.cons rfl rfl (.any rfl) (.cons rfl rfl (.any rfl) (.cons rfl rfl (.any rfl) (.cons rfl rfl (.any rfl) (.cons rfl rfl (.any rfl) (.cons rfl rfl (.any rfl) (.cons rfl rfl .nil .nil)))))))))))))))))))))))))))))) .nil) fillOut_no rfl (lt rfl)) rfl rfl ?_
      refine hits_nil ?_
      refine to_next ?_
      refine hits_seq ?_
      refine hits_region ?_
      refine sq (f_move rfl (lt rfl)) rfl rfl ?_
      refine sq (f_callQ [.cell 18 0, .cell 18 1, .cell 18 2, .cell 18 3, .cell 18 4, .cell 18 5, .cell 18 6, .cell 18 7, .cell 18 8, .cell 18 9, .cell 18 10, .cell 18 11, .cell 18 12, .cell 18 13, .cell 18 14, .cell 18 15, .cell 18 16, .cell 18 17, .cell 18 18, .cell 18 19, .cell 18 20, .cell 18 21, .cell 18 22, .cell 18 23, .cell 18 24, .cell 18 25, .cell 18 26, .cell 18 27, .cell 18 28, .cell 18 29] en62 rfl (.cons (.box (.cons rfl rfl (.any rfl) (.cons rfl rfl (.any rfl) (.cons rfl rfl (.any rfl) (.cons rfl rfl (.any rfl) (.cons rfl rfl (.any rfl) (.cons rfl rfl (.any rfl) (.cons rfl rfl (.any rfl) (.cons rfl rfl (.any rfl) (.cons rfl rfl (.any rfl) (.cons rfl rfl (.any rfl) (.cons rfl rfl (.any rfl) (.cons rfl rfl (.any rfl) (.cons rfl rfl (.any rfl) (.cons rfl rfl (.any rfl) (.cons rfl rfl (.any rfl) (.cons rfl rfl (.any rfl) (.cons rfl rfl (.any rfl) (.cons rfl rfl (.any rfl) (.cons rfl rfl (.any rfl) (.cons rfl rfl (.any rfl) (.cons rfl rfl (.any rfl) (.cons rfl rfl (.any rfl) (.cons rfl rfl (.any rfl) (.cons rfl rfl (.any rfl) (.cons rfl rfl (.any rfl) (.cons rfl rfl (.any rfl) (.cons rfl rfl (.any rfl) (.cons rfl rfl (.any rfl) (.cons rfl rfl (.any rfl) (.cons rfl rfl .nil .nil))))))))))))))))))))))))))))))) .nil) fillRow_no rfl (lt rfl)) rfl rfl ?_
      refine hits_nil ?_
      refine to_next ?_
      refine hits_seq ?_
      refine hits_region ?_
      refine sq (f_move rfl (lt rfl)) rfl rfl ?_
      refine sq (f_callQ [.cell 18 0, .cell 18 1, .cell 18 2, .cell 18 3, .cell 18 4, .cell 18 5, .cell 18 6, .cell 18 7, .cell 18 8, .cell 18 9, .cell 18 10, .cell 18 11, .cell 18 12, .cell 18 13, .cell 18 14, .cell 18 15, .cell 18 16, .cell 18 17, .cell 18 18, .cell 18 19, .cell 18 20, .cell 18 21, .cell 18 22, .cell 18 23, .cell 18 24, .cell 18 25, .cell 18 26, .cell 18 27, .cell 18 28, .cell 18 29, .cell 18 30] en63 rfl (.cons (.box (.cons rfl rfl (.any rfl) (.cons rfl rfl (.any rfl) (.cons rfl rfl (.any rfl) (.cons rfl rfl (.any rfl) (.cons rfl rfl (.any rfl) (.cons rfl rfl (.any rfl) (.cons rfl rfl (.any rfl) (.cons rfl rfl (.any rfl) (.cons rfl rfl (.any rfl) (.cons rfl rfl (.any rfl) (.cons rfl rfl (.any rfl) (.cons rfl rfl (.any rfl) (.cons rfl rfl (.any rfl) (.cons rfl rfl (.any rfl) (.cons rfl rfl (.any rfl) (.cons rfl rfl (.any rfl) (.cons rfl rfl (.any rfl) (.cons rfl rfl (.any rfl) (.cons rfl rfl (.any rfl) (.cons rfl rfl (.any rfl) (.cons rfl rfl (.any rfl) (.cons rfl rfl (.any rfl) (.cons rfl rfl (.any rfl) (.cons rfl rfl (.any rfl) (.cons rfl rfl (.any rfl) (.cons rfl rfl (.any rfl) (.cons rfl rfl (.any rfl) (.cons rfl rfl (.any rfl) (.cons rfl rfl (.any rfl) (.cons rfl rfl (.any rfl) (.cons rfl rfl .nil .nil)))))))))))))))))))))))))))))))) .nil) fillArray_no rfl (lt rfl)) rfl rfl ?_
      refine hits_nil ?_
      refine to_next ?_
      refine hits_seq ?_
      refine hits_region ?_
      refine sq (f_move rfl (lt rfl)) rfl rfl ?_
      refine sq (f_callQ [.cell 18 0, .cell 18 1] en64 rfl (.cons (.box (.cons rfl rfl (.any rfl) (.cons rfl rfl .nil .nil))) .nil) growInt_no rfl (lt rfl)) rfl rfl ?_
      refine hits_nil ?_
      refine to_next ?_
      refine hits_seq ?_
      refine hits_region ?_
      refine sq (f_move rfl (lt rfl)) rfl rfl ?_
      refine sq_inline en65 Tryz.func65 rfl Tryz.ntmps65 rfl rfl rfl fun a7 ha7 hd7 => ?_
      refine hits_seq ?_
      refine hits_region ?_
      refine sq (f_assign rfl (lt rfl)) rfl rfl ?_
      refine hits_nil ?_
      refine to_next ?_
      refine hits_block ?_
      refine hits_rounds 3 (rounds_go ?_)
      refine hits_seq ?_
      refine hits_seq ?_
      refine hits_region ?_
      refine sq (f_move rfl (lt rfl)) rfl rfl ?_
      refine sq (f_move rfl (lt rfl)) rfl rfl ?_
      refine sq (f_nil rfl rfl (lt rfl)) rfl rfl ?_
      refine sq (f_fieldAddr rfl kf65_2 rfl (lt rfl)) rfl rfl ?_
      refine sq (f_load kd35 rfl rfl (lt rfl)) rfl rfl ?_
      refine sq (f_lenMo rfl un35 (lt rfl)) rfl rfl ?_
      refine sq (f_bin rfl rfl (bT (decide_eq_true (by decide))) (lt rfl)) rfl rfl ?_
      refine hits_nil ?_
      refine to_next ?_
      refine hits_cond rfl (fun c0 => ?_) (fun c0 => absurd c0 Bool.false_ne_true.symm)
      refine hits_skip ?_
      refine to_next ?_
      refine hits_seq ?_
      refine hits_block ?_
      refine hits_seq ?_
      refine hits_region ?_
      refine sq (f_move rfl (lt rfl)) rfl rfl ?_
      refine sq (f_nil rfl rfl (lt rfl)) rfl rfl ?_
      refine sq (f_fieldAddr rfl kf65_2 rfl (lt rfl)) rfl rfl ?_
      refine sq (f_load kd35 rfl rfl (lt rfl)) rfl rfl ?_
      refine sq (f_move rfl (lt rfl)) rfl rfl ?_
      refine sq (f_idxMo (i := 0) rfl rfl un35 kd108 (by decide) (lt rfl)) rfl rfl ?_
      refine sq (f_loadMA kd108 rfl rfl rfl rfl rfl rfl (lt rfl)) rfl rfl ?_
      refine sq (f_alloc zc108 (lt rfl)) rfl rfl ?_
      refine sq (f_store kd108 rfl rfl rfl rfl rfl) rfl rfl ?_
      refine hits_nil ?_
      refine to_next ?_
      refine hits_seq ?_
      refine hits_region ?_
      refine sq (f_fieldAddr rfl kf108_0 rfl (lt rfl)) rfl rfl ?_
      refine sq (f_load kd25 rfl rfl (lt rfl)) rfl rfl ?_
      refine sq (f_assign rfl (lt rfl)) rfl rfl ?_
      refine hits_nil ?_
      refine to_next ?_
      refine hits_seq ?_
      refine hits_seq ?_
      refine Hits.keep (st' := [(.slot 0, some (.ptr 18 0)), (.old 0, some (.ptr 18 0)), (.box 18, some (.ptr 18 0)), (.cell 18 0, some (.d (.sc (.int .i64 2)))), (.cell 18 1, some (.d (.sc (.slice none 0 0)))), (.cell 18 2, some (.mo 102 3 2)), (.cell 18 3, some (.d (.sc (.slice none 0 0)))), (.cell 18 4, some (.d (.sc (.slice none 0 0)))), (.cell 18 5, some (.d (.sc (.slice none 0 0)))), (.cell 18 6, some (.d (.sc (.slice none 0 0)))), (.cell 18 7, some (.d (.sc (.slice none 0 0)))), (.cell 18 8, some (.d (.sc (.slice none 0 0)))), (.cell 18 9, some (.d (.sc (.slice none 0 0)))), (.cell 18 10, some (.d (.sc (.slice none 0 0)))), (.cell 18 11, some (.d (.sc (.slice none 0 0)))), (.cell 18 12, some (.d (.sc (.slice none 0 0)))), (.cell 18 13, some (.d (.sc (.slice none 0 0)))), (.cell 18 14, some (.d (.sc (.slice none 0 0)))), (.cell 18 15, some (.d (.sc (.slice none 0 0)))), (.cell 18 16, some (.d (.sc (.slice none 0 0)))), (.cell 18 17, some (.d (.sc (.slice none 0 0)))), (.cell 18 18, some (.d (.sc (.slice none 0 0)))), (.cell 18 19, some (.d (.sc (.slice none 0 0)))), (.cell 18 20, some (.d (.sc (.slice none 0 0)))), (.cell 18 21, some (.d (.sc (.slice none 0 0)))), (.cell 18 22, some (.d (.sc (.slice none 0 0)))), (.cell 18 23, some (.d (.sc (.slice none 0 0)))), (.cell 18 24, some (.d (.sc (.slice none 0 0)))), (.cell 18 25, some (.d (.sc (.slice none 0 0)))), (.cell 18 26, some (.d (.sc (.slice none 0 0)))), (.cell 18 27, some (.d (.sc (.slice none 0 0)))), (.cell 18 28, some (.d (.sc (.slice none 0 0)))), (.cell 18 29, some (.d (.sc (.slice none 0 0)))), (.cell 18 30, some (.d (.sc (.slice none 0 0)))), (.tip 30, some (.contD (flat (List.replicate l.length (markByte 2))))), (.tip 25, some (.contD (flat (List.replicate l.length (markByte 1))))), (.tip 102, some (.cont [.mo 25 1 l.length, .d (.sc (.slice none 0 0)), .d (.sc (.int .i64 1)), .mo 30 1 l.length, .d (.sc (.slice none 0 0)), .d (.sc (.int .i64 2))])), (.slot 2, some (.d (.sc (.int .i64 ((0 : Nat) : Int))))), (.slot 3, some (.ptr 3 0)), (.box 3, some (.ptr 3 0)), (.cell 3 0, some (.mo 25 1 l.length)), (.cell 3 1, some (.d (.sc (.slice none 0 0)))), (.cell 3 2, some (.d (.sc (.int .i64 1)))), (.slot 4, some (.mo 25 1 l.length))]) ⟨rfl, rfl, rfl, rfl, rfl, rfl, rfl, rfl, rfl, rfl, rfl, rfl, rfl, rfl, rfl, rfl, rfl, rfl, rfl, rfl, rfl, rfl, rfl, rfl, rfl, rfl, rfl, rfl, rfl, rfl, rfl, rfl, rfl, rfl, rfl, rfl, rfl, rfl, rfl, rfl, rfl, rfl, rfl, rfl, trivial⟩ rfl ?_
      refine hits_settle 4 25 1 (List.replicate l.length (markByte 1)) rfl rfl rfl (by rw [List.length_replicate]) (rep_six rfl) ⟨trivial, trivial, trivial, trivial, trivial, trivial, trivial, trivial, trivial, trivial, trivial, trivial, trivial, trivial, trivial, trivial, trivial, trivial, trivial, trivial, trivial, trivial, trivial, trivial, trivial, trivial, trivial, trivial, trivial, trivial, trivial, trivial, trivial, trivial, trivial, trivial, ⟨⟨rfl, rfl⟩, trivial, trivial, trivial, trivial, trivial, trivial⟩, trivial, trivial, trivial, ⟨rfl, rfl⟩, trivial, trivial, ⟨rfl, rfl⟩, trivial⟩ ?_
      refine hits_region ?_
      refine sq (f_assign rfl (lt rfl)) rfl rfl ?_
      refine hits_nil ?_
      refine to_next ?_
      refine hits_block ?_
      refine hits_loop (fun k : Nat => [(.slot 0, some (.ptr 18 0)), (.old 0, some (.ptr 18 0)), (.box 18, some (.ptr 18 0)), (.cell 18 0, some (.d (.sc (.int .i64 2)))), (.cell 18 1, some (.d (.sc (.slice none 0 0)))), (.cell 18 2, some (.mo 102 3 2)), (.cell 18 3, some (.d (.sc (.slice none 0 0)))), (.cell 18 4, some (.d (.sc (.slice none 0 0)))), (.cell 18 5, some (.d (.sc (.slice none 0 0)))), (.cell 18 6, some (.d (.sc (.slice none 0 0)))), (.cell 18 7, some (.d (.sc (.slice none 0 0)))), (.cell 18 8, some (.d (.sc (.slice none 0 0)))), (.cell 18 9, some (.d (.sc (.slice none 0 0)))), (.cell 18 10, some (.d (.sc (.slice none 0 0)))), (.cell 18 11, some (.d (.sc (.slice none 0 0)))), (.cell 18 12, some (.d (.sc (.slice none 0 0)))), (.cell 18 13, some (.d (.sc (.slice none 0 0)))), (.cell 18 14, some (.d (.sc (.slice none 0 0)))), (.cell 18 15, some (.d (.sc (.slice none 0 0)))), (.cell 18 16, some (.d (.sc (.slice none 0 0)))), (.cell 18 17, some (.d (.sc (.slice none 0 0)))), (.cell 18 18, some (.d (.sc (.slice none 0 0)))), (.cell 18 19, some (.d (.sc (.slice none 0 0)))), (.cell 18 20, some (.d (.sc (.slice none 0 0)))), (.cell 18 21, some (.d (.sc (.slice none 0 0)))), (.cell 18 22, some (.d (.sc (.slice none 0 0)))), (.cell 18 23, some (.d (.sc (.slice none 0 0)))), (.cell 18 24, some (.d (.sc (.slice none 0 0)))), (.cell 18 25, some (.d (.sc (.slice none 0 0)))), (.cell 18 26, some (.d (.sc (.slice none 0 0)))), (.cell 18 27, some (.d (.sc (.slice none 0 0)))), (.cell 18 28, some (.d (.sc (.slice none 0 0)))), (.cell 18 29, some (.d (.sc (.slice none 0 0)))), (.cell 18 30, some (.d (.sc (.slice none 0 0)))), (.tip 30, some (.contD (flat (List.replicate l.length (markByte 2))))), (.tip 25, some (.ptr 25 0)), (.tip 102, some (.cont [.d (.list 1 (List.replicate l.length (markByte 1))), .d (.sc (.slice none 0 0)), .d (.sc (.int .i64 1)), .mo 30 1 l.length, .d (.sc (.slice none 0 0)), .d (.sc (.int .i64 2))])), (.slot 2, some (.d (.sc (.int .i64 ((0 : Nat) : Int))))), (.slot 3, some (.ptr 3 0)), (.box 3, some (.ptr 3 0)), (.cell 3 0, some (.d (.list 1 (List.replicate l.length (markByte 1))))), (.cell 3 1, some (.d (.sc (.slice none 0 0)))), (.cell 3 2, some (.d (.sc (.int .i64 1)))), (.slot 4, some (.own 25 1 (List.replicate (l.length + k) (markByte 1)))), (.slot 5, some (.d (.sc (.int .i64 ((k : Nat) : Int)))))]) (fun k : Nat => k ≤ 40) (fun k : Nat => 40 - k) 0 (Nat.zero_le _) ⟨rfl, rfl, rfl, rfl, rfl, rfl, rfl, rfl, rfl, rfl, rfl, rfl, rfl, rfl, rfl, rfl, rfl, rfl, rfl, rfl, rfl, rfl, rfl, rfl, rfl, rfl, rfl, rfl, rfl, rfl, rfl, rfl, rfl, rfl, rfl, rfl, rfl, rfl, rfl, rfl, rfl, rfl, rfl, rfl, rfl, trivial⟩ rfl ?_
      intro k hk0
      refine hits_seq ?_
      refine hits_seq ?_
      by_cases hk : k < 40
      · refine hits_region ?_
        refine sq (f_move rfl (lt rfl)) rfl rfl ?_
        refine sq (f_bin rfl rfl (bT (decide_eq_true (by omega))) (lt rfl)) rfl rfl ?_
        refine hits_nil ?_
        refine to_next ?_
        refine hits_cond rfl (fun c1 => ?_) (fun c1 => absurd c1 Bool.false_ne_true.symm)
        refine hits_skip ?_
        refine to_next ?_
        refine hits_seq ?_
        refine hits_block ?_
        refine hits_region ?_
        refine sq (f_move rfl (lt rfl)) rfl rfl ?_
        refine sq (f_fieldAddr rfl kf108_2 rfl (lt rfl)) rfl rfl ?_
        refine sq (f_load kd3 rfl rfl (lt rfl)) rfl rfl ?_
        refine sq (f_call en134 rfl (markByte_c (n := 1) (by decide)) (lt rfl)) rfl rfl ?_
        refine sq (f_buildSlice sk25 rfl rfl rfl rfl rfl rfl (by decide) (by decide) (lt rfl)) rfl rfl ?_
        refine sq_append rfl rfl rfl rfl apk25 (by rw [List.length_replicate]; simp only [snds, List.length_cons, List.length_nil]; omega) (by rw [List.length_replicate]; simp only [snds, List.length_cons, List.length_nil]; omega) rfl (lt rfl) ?_
        refine sq (f_assign rfl (lt rfl)) rfl rfl ?_
        refine hits_nil ?_
        refine in_next ?_
        refine to_next ?_
        refine hits_region ?_
        refine sq (f_move rfl (lt rfl)) rfl rfl ?_
        refine sq (f_bin rfl rfl (iT (((IntWalk.i64_in _ (by omega)).trans (by omega) : _ = ((k + 1 : Nat) : Int)))) (lt rfl)) rfl rfl ?_
        refine sq (f_assign rfl (lt rfl)) rfl rfl ?_
        refine hits_nil ?_
        refine to_next ?_
        refine round_end (k + 1) (by omega) (by omega) ⟨rfl, rfl, rfl, rfl, rfl, rfl, rfl, rfl, rfl, rfl, rfl, rfl, rfl, rfl, rfl, rfl, rfl, rfl, rfl, rfl, rfl, rfl, rfl, rfl, rfl, rfl, rfl, rfl, rfl, rfl, rfl, rfl, rfl, rfl, rfl, rfl, rfl, rfl, rfl, rfl, rfl, rfl, rfl, (show some (V.own 25 1 ((List.replicate (l.length + k) (markByte 1)) ++ [markByte 1])) = some (V.own 25 1 (List.replicate (l.length + (k + 1)) (markByte 1))) from by rw [← Nat.add_assoc, List.replicate_succ']), rfl, trivial⟩ rfl
      · obtain rfl : k = 40 := by omega
        refine hits_region ?_
        refine sq (f_move rfl (lt rfl)) rfl rfl ?_
        refine sq (f_bin rfl rfl (bT (decide_eq_false (by omega))) (lt rfl)) rfl rfl ?_
        refine hits_nil ?_
        refine to_next ?_
        refine hits_cond rfl (fun c1 => absurd c1 Bool.false_ne_true) (fun c1 => ?_)
        refine hits_exit ?_
        refine to_exit ?_
        refine to_exit ?_
        refine in_hit rfl ?_
        refine to_next ?_
        refine hits_region ?_
        refine sq (f_move rfl (lt rfl)) rfl rfl ?_
        refine sq (f_nil rfl rfl (lt rfl)) rfl rfl ?_
        refine sq (f_fieldAddr rfl kf65_2 rfl (lt rfl)) rfl rfl ?_
        refine sq (f_load kd35 rfl rfl (lt rfl)) rfl rfl ?_
        refine sq (f_move rfl (lt rfl)) rfl rfl ?_
        refine sq (f_move rfl (lt rfl)) rfl rfl ?_
        refine sq (f_idxMo (i := 0) rfl rfl un35 kd108 (by decide) (lt rfl)) rfl rfl ?_
        refine sq (f_fieldAddrM rfl kf108_1 (lt rfl)) rfl rfl ?_
        refine sq (f_storeM kd25 rfl rfl rfl rfl (lt rfl) rfl rfl) rfl rfl ?_
        refine hits_nil ?_
        refine in_next ?_
        refine to_next ?_
        refine Hits.keep (st' := [(.slot 0, some (.ptr 18 0)), (.old 0, some (.ptr 18 0)), (.box 18, some (.ptr 18 0)), (.cell 18 0, some (.d (.sc (.int .i64 2)))), (.cell 18 1, some (.d (.sc (.slice none 0 0)))), (.cell 18 2, some (.mo 102 3 2)), (.cell 18 3, some (.d (.sc (.slice none 0 0)))), (.cell 18 4, some (.d (.sc (.slice none 0 0)))), (.cell 18 5, some (.d (.sc (.slice none 0 0)))), (.cell 18 6, some (.d (.sc (.slice none 0 0)))), (.cell 18 7, some (.d (.sc (.slice none 0 0)))), (.cell 18 8, some (.d (.sc (.slice none 0 0)))), (.cell 18 9, some (.d (.sc (.slice none 0 0)))), (.cell 18 10, some (.d (.sc (.slice none 0 0)))), (.cell 18 11, some (.d (.sc (.slice none 0 0)))), (.cell 18 12, some (.d (.sc (.slice none 0 0)))), (.cell 18 13, some (.d (.sc (.slice none 0 0)))), (.cell 18 14, some (.d (.sc (.slice none 0 0)))), (.cell 18 15, some (.d (.sc (.slice none 0 0)))), (.cell 18 16, some (.d (.sc (.slice none 0 0)))), (.cell 18 17, some (.d (.sc (.slice none 0 0)))), (.cell 18 18, some (.d (.sc (.slice none 0 0)))), (.cell 18 19, some (.d (.sc (.slice none 0 0)))), (.cell 18 20, some (.d (.sc (.slice none 0 0)))), (.cell 18 21, some (.d (.sc (.slice none 0 0)))), (.cell 18 22, some (.d (.sc (.slice none 0 0)))), (.cell 18 23, some (.d (.sc (.slice none 0 0)))), (.cell 18 24, some (.d (.sc (.slice none 0 0)))), (.cell 18 25, some (.d (.sc (.slice none 0 0)))), (.cell 18 26, some (.d (.sc (.slice none 0 0)))), (.cell 18 27, some (.d (.sc (.slice none 0 0)))), (.cell 18 28, some (.d (.sc (.slice none 0 0)))), (.cell 18 29, some (.d (.sc (.slice none 0 0)))), (.cell 18 30, some (.d (.sc (.slice none 0 0)))), (.tip 30, some (.contD (flat (List.replicate l.length (markByte 2))))), (.tip 25, some (.ptr 25 0)), (.tip 102, some (.cont [.d (.list 1 (List.replicate l.length (markByte 1))), .own 25 1 (List.replicate (l.length + 40) (markByte 1)), .d (.sc (.int .i64 1)), .mo 30 1 l.length, .d (.sc (.slice none 0 0)), .d (.sc (.int .i64 2))])), (.slot 2, some (.d (.sc (.int .i64 ((0 : Nat) : Int)))))]) ⟨rfl, rfl, rfl, rfl, rfl, rfl, rfl, rfl, rfl, rfl, rfl, rfl, rfl, rfl, rfl, rfl, rfl, rfl, rfl, rfl, rfl, rfl, rfl, rfl, rfl, rfl, rfl, rfl, rfl, rfl, rfl, rfl, rfl, rfl, rfl, rfl, rfl, rfl, trivial⟩ rfl ?_
        refine hits_region ?_
        refine sq (f_move rfl (lt rfl)) rfl rfl ?_
        refine sq (f_bin rfl rfl (iT (((IntWalk.i64_in _ (by omega)).trans (by omega) : _ = ((1 : Nat) : Int)))) (lt rfl)) rfl rfl ?_
        refine sq (f_assign rfl (lt rfl)) rfl rfl ?_
        refine hits_nil ?_
        refine to_next ?_
        refine rounds_go ?_
        refine hits_seq ?_
        refine hits_seq ?_
        refine hits_region ?_
        refine sq (f_move rfl (lt rfl)) rfl rfl ?_
        refine sq (f_move rfl (lt rfl)) rfl rfl ?_
        refine sq (f_nil rfl rfl (lt rfl)) rfl rfl ?_
        refine sq (f_fieldAddr rfl kf65_2 rfl (lt rfl)) rfl rfl ?_
        refine sq (f_load kd35 rfl rfl (lt rfl)) rfl rfl ?_
        refine sq (f_lenMo rfl un35 (lt rfl)) rfl rfl ?_
        refine sq (f_bin rfl rfl (bT (decide_eq_true (by decide))) (lt rfl)) rfl rfl ?_
        refine hits_nil ?_
        refine to_next ?_
        refine hits_cond rfl (fun c0 => ?_) (fun c0 => absurd c0 Bool.false_ne_true.symm)
        refine hits_skip ?_
        refine to_next ?_
        refine hits_seq ?_
        refine hits_block ?_
        refine hits_seq ?_
        refine hits_region ?_
        refine sq (f_move rfl (lt rfl)) rfl rfl ?_
        refine sq (f_nil rfl rfl (lt rfl)) rfl rfl ?_
        refine sq (f_fieldAddr rfl kf65_2 rfl (lt rfl)) rfl rfl ?_
        refine sq (f_load kd35 rfl rfl (lt rfl)) rfl rfl ?_
        refine sq (f_move rfl (lt rfl)) rfl rfl ?_
        refine sq (f_idxMo (i := 1) rfl rfl un35 kd108 (by decide) (lt rfl)) rfl rfl ?_
        refine sq (f_loadMA kd108 rfl rfl rfl rfl rfl rfl (lt rfl)) rfl rfl ?_
        refine sq (f_alloc zc108 (lt rfl)) rfl rfl ?_
        refine sq (f_store kd108 rfl rfl rfl rfl rfl) rfl rfl ?_
        refine hits_nil ?_
        refine to_next ?_
        refine hits_seq ?_
        refine hits_region ?_
        refine sq (f_fieldAddr rfl kf108_0 rfl (lt rfl)) rfl rfl ?_
        refine sq (f_load kd25 rfl rfl (lt rfl)) rfl rfl ?_
        refine sq (f_assign rfl (lt rfl)) rfl rfl ?_
        refine hits_nil ?_
        refine to_next ?_
        refine hits_seq ?_
        refine hits_seq ?_
        refine Hits.keep (st' := [(.slot 0, some (.ptr 18 0)), (.old 0, some (.ptr 18 0)), (.box 18, some (.ptr 18 0)), (.cell 18 0, some (.d (.sc (.int .i64 2)))), (.cell 18 1, some (.d (.sc (.slice none 0 0)))), (.cell 18 2, some (.mo 102 3 2)), (.cell 18 3, some (.d (.sc (.slice none 0 0)))), (.cell 18 4, some (.d (.sc (.slice none 0 0)))), (.cell 18 5, some (.d (.sc (.slice none 0 0)))), (.cell 18 6, some (.d (.sc (.slice none 0 0)))), (.cell 18 7, some (.d (.sc (.slice none 0 0)))), (.cell 18 8, some (.d (.sc (.slice none 0 0)))), (.cell 18 9, some (.d (.sc (.slice none 0 0)))), (.cell 18 10, some (.d (.sc (.slice none 0 0)))), (.cell 18 11, some (.d (.sc (.slice none 0 0)))), (.cell 18 12, some (.d (.sc (.slice none 0 0)))), (.cell 18 13, some (.d (.sc (.slice none 0 0)))), (.cell 18 14, some (.d (.sc (.slice none 0 0)))), (.cell 18 15, some (.d (.sc (.slice none 0 0)))), (.cell 18 16, some (.d (.sc (.slice none 0 0)))), (.cell 18 17, some (.d (.sc (.slice none 0 0)))), (.cell 18 18, some (.d (.sc (.slice none 0 0)))), (.cell 18 19, some (.d (.sc (.slice none 0 0)))), (.cell 18 20, some (.d (.sc (.slice none 0 0)))), (.cell 18 21, some (.d (.sc (.slice none 0 0)))), (.cell 18 22, some (.d (.sc (.slice none 0 0)))), (.cell 18 23, some (.d (.sc (.slice none 0 0)))), (.cell 18 24, some (.d (.sc (.slice none 0 0)))), (.cell 18 25, some (.d (.sc (.slice none 0 0)))), (.cell 18 26, some (.d (.sc (.slice none 0 0)))), (.cell 18 27, some (.d (.sc (.slice none 0 0)))), (.cell 18 28, some (.d (.sc (.slice none 0 0)))), (.cell 18 29, some (.d (.sc (.slice none 0 0)))), (.cell 18 30, some (.d (.sc (.slice none 0 0)))), (.tip 25, some (.ptr 25 0)), (.tip 30, some (.contD (flat (List.replicate l.length (markByte 2))))), (.tip 102, some (.cont [.d (.list 1 (List.replicate l.length (markByte 1))), .own 25 1 (List.replicate (l.length + 40) (markByte 1)), .d (.sc (.int .i64 1)), .mo 30 1 l.length, .d (.sc (.slice none 0 0)), .d (.sc (.int .i64 2))])), (.slot 2, some (.d (.sc (.int .i64 ((1 : Nat) : Int))))), (.slot 3, some (.ptr 3 0)), (.box 3, some (.ptr 3 0)), (.cell 3 0, some (.mo 30 1 l.length)), (.cell 3 1, some (.d (.sc (.slice none 0 0)))), (.cell 3 2, some (.d (.sc (.int .i64 2)))), (.slot 4, some (.mo 30 1 l.length))]) ⟨rfl, rfl, rfl, rfl, rfl, rfl, rfl, rfl, rfl, rfl, rfl, rfl, rfl, rfl, rfl, rfl, rfl, rfl, rfl, rfl, rfl, rfl, rfl, rfl, rfl, rfl, rfl, rfl, rfl, rfl, rfl, rfl, rfl, rfl, rfl, rfl, rfl, rfl, rfl, rfl, rfl, rfl, rfl, rfl, trivial⟩ rfl ?_
        refine hits_settle 4 30 1 (List.replicate l.length (markByte 2)) rfl rfl rfl (by rw [List.length_replicate]) (rep_six rfl) ⟨trivial, trivial, trivial, trivial, trivial, trivial, trivial, trivial, trivial, trivial, trivial, trivial, trivial, trivial, trivial, trivial, trivial, trivial, trivial, trivial, trivial, trivial, trivial, trivial, trivial, trivial, trivial, trivial, trivial, trivial, trivial, trivial, trivial, trivial, trivial, trivial, ⟨trivial, trivial, trivial, ⟨rfl, rfl⟩, trivial, trivial, trivial⟩, trivial, trivial, trivial, ⟨rfl, rfl⟩, trivial, trivial, ⟨rfl, rfl⟩, trivial⟩ ?_
        refine hits_region ?_
        refine sq (f_assign rfl (lt rfl)) rfl rfl ?_
        refine hits_nil ?_
        refine to_next ?_
        refine hits_block ?_
        refine hits_loop (fun k : Nat => [(.slot 0, some (.ptr 18 0)), (.old 0, some (.ptr 18 0)), (.box 18, some (.ptr 18 0)), (.cell 18 0, some (.d (.sc (.int .i64 2)))), (.cell 18 1, some (.d (.sc (.slice none 0 0)))), (.cell 18 2, some (.mo 102 3 2)), (.cell 18 3, some (.d (.sc (.slice none 0 0)))), (.cell 18 4, some (.d (.sc (.slice none 0 0)))), (.cell 18 5, some (.d (.sc (.slice none 0 0)))), (.cell 18 6, some (.d (.sc (.slice none 0 0)))), (.cell 18 7, some (.d (.sc (.slice none 0 0)))), (.cell 18 8, some (.d (.sc (.slice none 0 0)))), (.cell 18 9, some (.d (.sc (.slice none 0 0)))), (.cell 18 10, some (.d (.sc (.slice none 0 0)))), (.cell 18 11, some (.d (.sc (.slice none 0 0)))), (.cell 18 12, some (.d (.sc (.slice none 0 0)))), (.cell 18 13, some (.d (.sc (.slice none 0 0)))), (.cell 18 14, some (.d (.sc (.slice none 0 0)))), (.cell 18 15, some (.d (.sc (.slice none 0 0)))), (.cell 18 16, some (.d (.sc (.slice none 0 0)))), (.cell 18 17, some (.d (.sc (.slice none 0 0)))), (.cell 18 18, some (.d (.sc (.slice none 0 0)))), (.cell 18 19, some (.d (.sc (.slice none 0 0)))), (.cell 18 20, some (.d (.sc (.slice none 0 0)))), (.cell 18 21, some (.d (.sc (.slice none 0 0)))), (.cell 18 22, some (.d (.sc (.slice none 0 0)))), (.cell 18 23, some (.d (.sc (.slice none 0 0)))), (.cell 18 24, some (.d (.sc (.slice none 0 0)))), (.cell 18 25, some (.d (.sc (.slice none 0 0)))), (.cell 18 26, some (.d (.sc (.slice none 0 0)))), (.cell 18 27, some (.d (.sc (.slice none 0 0)))), (.cell 18 28, some (.d (.sc (.slice none 0 0)))), (.cell 18 29, some (.d (.sc (.slice none 0 0)))), (.cell 18 30, some (.d (.sc (.slice none 0 0)))), (.tip 25, some (.ptr 25 0)), (.tip 30, some (.ptr 30 0)), (.tip 102, some (.cont [.d (.list 1 (List.replicate l.length (markByte 1))), .own 25 1 (List.replicate (l.length + 40) (markByte 1)), .d (.sc (.int .i64 1)), .d (.list 1 (List.replicate l.length (markByte 2))), .d (.sc (.slice none 0 0)), .d (.sc (.int .i64 2))])), (.slot 2, some (.d (.sc (.int .i64 ((1 : Nat) : Int))))), (.slot 3, some (.ptr 3 0)), (.box 3, some (.ptr 3 0)), (.cell 3 0, some (.d (.list 1 (List.replicate l.length (markByte 2))))), (.cell 3 1, some (.d (.sc (.slice none 0 0)))), (.cell 3 2, some (.d (.sc (.int .i64 2)))), (.slot 4, some (.own 30 1 (List.replicate (l.length + k) (markByte 2)))), (.slot 5, some (.d (.sc (.int .i64 ((k : Nat) : Int)))))]) (fun k : Nat => k ≤ 40) (fun k : Nat => 40 - k) 0 (Nat.zero_le _) ⟨rfl, rfl, rfl, rfl, rfl, rfl, rfl, rfl, rfl, rfl, rfl, rfl, rfl, rfl, rfl, rfl, rfl, rfl, rfl, rfl, rfl, rfl, rfl, rfl, rfl, rfl, rfl, rfl, rfl, rfl, rfl, rfl, rfl, rfl, rfl, rfl, rfl, rfl, rfl, rfl, rfl, rfl, rfl, rfl, rfl, trivial⟩ rfl ?_
        intro k hk0
        refine hits_seq ?_
        refine hits_seq ?_
        by_cases hk : k < 40
        · refine hits_region ?_
          refine sq (f_move rfl (lt rfl)) rfl rfl ?_
          refine sq (f_bin rfl rfl (bT (decide_eq_true (by omega))) (lt rfl)) rfl rfl ?_
          refine hits_nil ?_
          refine to_next ?_
          refine hits_cond rfl (fun c1 => ?_) (fun c1 => absurd c1 Bool.false_ne_true.symm)
          refine hits_skip ?_
          refine to_next ?_
          refine hits_seq ?_
          refine hits_block ?_
          refine hits_region ?_
          refine sq (f_move rfl (lt rfl)) rfl rfl ?_
          refine sq (f_fieldAddr rfl kf108_2 rfl (lt rfl)) rfl rfl ?_
          refine sq (f_load kd3 rfl rfl (lt rfl)) rfl rfl ?_
          refine sq (f_call en134 rfl (markByte_c (n := 2) (by decide)) (lt rfl)) rfl rfl ?_
          refine sq (f_buildSlice sk25 rfl rfl rfl rfl rfl rfl (by decide) (by decide) (lt rfl)) rfl rfl ?_
          refine sq_append rfl rfl rfl rfl apk25 (by rw [List.length_replicate]; simp only [snds, List.length_cons, List.length_nil]; omega) (by rw [List.length_replicate]; simp only [snds, List.length_cons, List.length_nil]; omega) rfl (lt rfl) ?_
          refine sq (f_assign rfl (lt rfl)) rfl rfl ?_
          refine hits_nil ?_
          refine in_next ?_
          refine to_next ?_
          refine hits_region ?_
          refine sq (f_move rfl (lt rfl)) rfl rfl ?_
          refine sq (f_bin rfl rfl (iT (((IntWalk.i64_in _ (by omega)).trans (by omega) : _ = ((k + 1 : Nat) : Int)))) (lt rfl)) rfl rfl ?_
          refine sq (f_assign rfl (lt rfl)) rfl rfl ?_
          refine hits_nil ?_
          refine to_next ?_
          refine round_end (k + 1) (by omega) (by omega) ⟨rfl, rfl, rfl, rfl, rfl, rfl, rfl, rfl, rfl, rfl, rfl, rfl, rfl, rfl, rfl, rfl, rfl, rfl, rfl, rfl, rfl, rfl, rfl, rfl, rfl, rfl, rfl, rfl, rfl, rfl, rfl, rfl, rfl, rfl, rfl, rfl, rfl, rfl, rfl, rfl, rfl, rfl, rfl, (show some (V.own 30 1 ((List.replicate (l.length + k) (markByte 2)) ++ [markByte 2])) = some (V.own 30 1 (List.replicate (l.length + (k + 1)) (markByte 2))) from by rw [← Nat.add_assoc, List.replicate_succ']), rfl, trivial⟩ rfl
        · obtain rfl : k = 40 := by omega
          refine hits_region ?_
          refine sq (f_move rfl (lt rfl)) rfl rfl ?_
          refine sq (f_bin rfl rfl (bT (decide_eq_false (by omega))) (lt rfl)) rfl rfl ?_
          refine hits_nil ?_
          refine to_next ?_
          refine hits_cond rfl (fun c1 => absurd c1 Bool.false_ne_true) (fun c1 => ?_)
          refine hits_exit ?_
          refine to_exit ?_
          refine to_exit ?_
          refine in_hit rfl ?_
          refine to_next ?_
          refine hits_region ?_
          refine sq (f_move rfl (lt rfl)) rfl rfl ?_
          refine sq (f_nil rfl rfl (lt rfl)) rfl rfl ?_
          refine sq (f_fieldAddr rfl kf65_2 rfl (lt rfl)) rfl rfl ?_
          refine sq (f_load kd35 rfl rfl (lt rfl)) rfl rfl ?_
          refine sq (f_move rfl (lt rfl)) rfl rfl ?_
          refine sq (f_move rfl (lt rfl)) rfl rfl ?_
          refine sq (f_idxMo (i := 1) rfl rfl un35 kd108 (by decide) (lt rfl)) rfl rfl ?_
          refine sq (f_fieldAddrM rfl kf108_1 (lt rfl)) rfl rfl ?_
          refine sq (f_storeM kd25 rfl rfl rfl rfl (lt rfl) rfl rfl) rfl rfl ?_
          refine hits_nil ?_
          refine in_next ?_
          refine to_next ?_
          refine Hits.keep (st' := [(.slot 0, some (.ptr 18 0)), (.old 0, some (.ptr 18 0)), (.box 18, some (.ptr 18 0)), (.cell 18 0, some (.d (.sc (.int .i64 2)))), (.cell 18 1, some (.d (.sc (.slice none 0 0)))), (.cell 18 2, some (.mo 102 3 2)), (.cell 18 3, some (.d (.sc (.slice none 0 0)))), (.cell 18 4, some (.d (.sc (.slice none 0 0)))), (.cell 18 5, some (.d (.sc (.slice none 0 0)))), (.cell 18 6, some (.d (.sc (.slice none 0 0)))), (.cell 18 7, some (.d (.sc (.slice none 0 0)))), (.cell 18 8, some (.d (.sc (.slice none 0 0)))), (.cell 18 9, some (.d (.sc (.slice none 0 0)))), (.cell 18 10, some (.d (.sc (.slice none 0 0)))), (.cell 18 11, some (.d (.sc (.slice none 0 0)))), (.cell 18 12, some (.d (.sc (.slice none 0 0)))), (.cell 18 13, some (.d (.sc (.slice none 0 0)))), (.cell 18 14, some (.d (.sc (.slice none 0 0)))), (.cell 18 15, some (.d (.sc (.slice none 0 0)))), (.cell 18 16, some (.d (.sc (.slice none 0 0)))), (.cell 18 17, some (.d (.sc (.slice none 0 0)))), (.cell 18 18, some (.d (.sc (.slice none 0 0)))), (.cell 18 19, some (.d (.sc (.slice none 0 0)))), (.cell 18 20, some (.d (.sc (.slice none 0 0)))), (.cell 18 21, some (.d (.sc (.slice none 0 0)))), (.cell 18 22, some (.d (.sc (.slice none 0 0)))), (.cell 18 23, some (.d (.sc (.slice none 0 0)))), (.cell 18 24, some (.d (.sc (.slice none 0 0)))), (.cell 18 25, some (.d (.sc (.slice none 0 0)))), (.cell 18 26, some (.d (.sc (.slice none 0 0)))), (.cell 18 27, some (.d (.sc (.slice none 0 0)))), (.cell 18 28, some (.d (.sc (.slice none 0 0)))), (.cell 18 29, some (.d (.sc (.slice none 0 0)))), (.cell 18 30, some (.d (.sc (.slice none 0 0)))), (.tip 25, some (.ptr 25 0)), (.tip 30, some (.ptr 30 0)), (.tip 102, some (.cont [.d (.list 1 (List.replicate l.length (markByte 1))), .own 25 1 (List.replicate (l.length + 40) (markByte 1)), .d (.sc (.int .i64 1)), .d (.list 1 (List.replicate l.length (markByte 2))), .own 30 1 (List.replicate (l.length + 40) (markByte 2)), .d (.sc (.int .i64 2))])), (.slot 2, some (.d (.sc (.int .i64 ((1 : Nat) : Int)))))]) ⟨rfl, rfl, rfl, rfl, rfl, rfl, rfl, rfl, rfl, rfl, rfl, rfl, rfl, rfl, rfl, rfl, rfl, rfl, rfl, rfl, rfl, rfl, rfl, rfl, rfl, rfl, rfl, rfl, rfl, rfl, rfl, rfl, rfl, rfl, rfl, rfl, rfl, rfl, trivial⟩ rfl ?_
          refine hits_region ?_
          refine sq (f_move rfl (lt rfl)) rfl rfl ?_
          refine sq (f_bin rfl rfl (iT (((IntWalk.i64_in _ (by omega)).trans (by omega) : _ = ((2 : Nat) : Int)))) (lt rfl)) rfl rfl ?_
          refine sq (f_assign rfl (lt rfl)) rfl rfl ?_
          refine hits_nil ?_
          refine to_next ?_
          refine rounds_go ?_
          refine hits_seq ?_
          refine hits_seq ?_
          refine hits_region ?_
          refine sq (f_move rfl (lt rfl)) rfl rfl ?_
          refine sq (f_move rfl (lt rfl)) rfl rfl ?_
          refine sq (f_nil rfl rfl (lt rfl)) rfl rfl ?_
          refine sq (f_fieldAddr rfl kf65_2 rfl (lt rfl)) rfl rfl ?_
          refine sq (f_load kd35 rfl rfl (lt rfl)) rfl rfl ?_
          refine sq (f_lenMo rfl un35 (lt rfl)) rfl rfl ?_
          refine sq (f_bin rfl rfl (bT (decide_eq_false (by decide))) (lt rfl)) rfl rfl ?_
          refine hits_nil ?_
          refine to_next ?_
          refine hits_cond rfl (fun c0 => absurd c0 Bool.false_ne_true) (fun c0 => ?_)
          refine hits_exit ?_
          refine to_exit ?_
          refine to_exit ?_
          refine in_hit rfl ?_
          refine hits_back (.inr rfl) ha7 hd7 rfl rfl (lt rfl) rfl ?_
          refine Hits.keep (st' := [(.slot 0, some (.ptr 18 0)), (.box 18, some (.ptr 18 0)), (.cell 18 0, some (.d (.sc (.int .i64 2)))), (.cell 18 1, some (.d (.sc (.slice none 0 0)))), (.cell 18 2, some (.mo 102 3 2)), (.cell 18 3, some (.d (.sc (.slice none 0 0)))), (.cell 18 4, some (.d (.sc (.slice none 0 0)))), (.cell 18 5, some (.d (.sc (.slice none 0 0)))), (.cell 18 6, some (.d (.sc (.slice none 0 0)))), (.cell 18 7, some (.d (.sc (.slice none 0 0)))), (.cell 18 8, some (.d (.sc (.slice none 0 0)))), (.cell 18 9, some (.d (.sc (.slice none 0 0)))), (.cell 18 10, some (.d (.sc (.slice none 0 0)))), (.cell 18 11, some (.d (.sc (.slice none 0 0)))), (.cell 18 12, some (.d (.sc (.slice none 0 0)))), (.cell 18 13, some (.d (.sc (.slice none 0 0)))), (.cell 18 14, some (.d (.sc (.slice none 0 0)))), (.cell 18 15, some (.d (.sc (.slice none 0 0)))), (.cell 18 16, some (.d (.sc (.slice none 0 0)))), (.cell 18 17, some (.d (.sc (.slice none 0 0)))), (.cell 18 18, some (.d (.sc (.slice none 0 0)))), (.cell 18 19, some (.d (.sc (.slice none 0 0)))), (.cell 18 20, some (.d (.sc (.slice none 0 0)))), (.cell 18 21, some (.d (.sc (.slice none 0 0)))), (.cell 18 22, some (.d (.sc (.slice none 0 0)))), (.cell 18 23, some (.d (.sc (.slice none 0 0)))), (.cell 18 24, some (.d (.sc (.slice none 0 0)))), (.cell 18 25, some (.d (.sc (.slice none 0 0)))), (.cell 18 26, some (.d (.sc (.slice none 0 0)))), (.cell 18 27, some (.d (.sc (.slice none 0 0)))), (.cell 18 28, some (.d (.sc (.slice none 0 0)))), (.cell 18 29, some (.d (.sc (.slice none 0 0)))), (.cell 18 30, some (.d (.sc (.slice none 0 0)))), (.tip 25, some (.ptr 25 0)), (.tip 30, some (.ptr 30 0)), (.tip 102, some (.cont [.d (.list 1 (List.replicate l.length (markByte 1))), .own 25 1 (List.replicate (l.length + 40) (markByte 1)), .d (.sc (.int .i64 1)), .d (.list 1 (List.replicate l.length (markByte 2))), .own 30 1 (List.replicate (l.length + 40) (markByte 2)), .d (.sc (.int .i64 2))]))]) ⟨rfl, rfl, rfl, rfl, rfl, rfl, rfl, rfl, rfl, rfl, rfl, rfl, rfl, rfl, rfl, rfl, rfl, rfl, rfl, rfl, rfl, rfl, rfl, rfl, rfl, rfl, rfl, rfl, rfl, rfl, rfl, rfl, rfl, rfl, rfl, rfl, trivial⟩ rfl ?_
          refine hits_nil ?_
          refine to_next ?_
          refine hits_seq ?_
          refine hits_region ?_
          refine sq (f_move rfl (lt rfl)) rfl rfl ?_
          refine sq (f_callQ [.cell 18 0, .cell 18 1, .cell 18 2, .cell 18 3] en66 rfl (.cons (.box (.cons rfl rfl (.any rfl) (.cons rfl rfl (.any rfl) (.cons rfl rfl (.any rfl) (.cons rfl rfl .nil .nil))))) .nil) growKind_no rfl (lt rfl)) rfl rfl ?_
          refine hits_nil ?_
          refine to_next ?_
          refine hits_seq ?_
          refine hits_region ?_
          refine sq (f_move rfl (lt rfl)) rfl rfl ?_
          refine sq (f_callQ [.cell 18 0, .cell 18 1, .cell 18 2, .cell 18 3, .cell 18 4] en67 rfl (.cons (.box (.cons rfl rfl (.any rfl) (.cons rfl rfl (.any rfl) (.cons rfl rfl (.any rfl) (.cons rfl rfl (.any rfl) (.cons rfl rfl .nil .nil)))))) .nil) growText_no rfl (lt rfl)) rfl rfl ?_
          refine hits_nil ?_
          refine to_next ?_
          refine hits_seq ?_
          refine hits_region ?_
          refine sq (f_move rfl (lt rfl)) rfl rfl ?_
          refine sq (f_callQ [.cell 18 0, .cell 18 1, .cell 18 2, .cell 18 3, .cell 18 4, .cell 18 5] en68 rfl (.cons (.box (.cons rfl rfl (.any rfl) (.cons rfl rfl (.any rfl) (.cons rfl rfl (.any rfl) (.cons rfl rfl (.any rfl) (.cons rfl rfl (.any rfl) (.cons rfl rfl .nil .nil))))))) .nil) growBlob_no rfl (lt rfl)) rfl rfl ?_
          refine hits_nil ?_
          refine to_next ?_
          refine hits_seq ?_
          refine hits_region ?_
          refine sq (f_move rfl (lt rfl)) rfl rfl ?_
          refine sq (f_callQ [.cell 18 0, .cell 18 1, .cell 18 2, .cell 18 3, .cell 18 4, .cell 18 5, .cell 18 6] en69 rfl (.cons (.box (.cons rfl rfl (.any rfl) (.cons rfl rfl (.any rfl) (.cons rfl rfl (.any rfl) (.cons rfl rfl (.any rfl) (.cons rfl rfl (.any rfl) (.cons rfl rfl (.any rfl) (.cons rfl rfl .nil .nil)))))))) .nil) growNumber_no rfl (lt rfl)) rfl rfl ?_
          refine hits_nil ?_
          refine to_next ?_
          refine hits_seq ?_
          refine hits_region ?_
          refine sq (f_move rfl (lt rfl)) rfl rfl ?_
          refine sq (f_callQ [.cell 18 0, .cell 18 1, .cell 18 2, .cell 18 3, .cell 18 4, .cell 18 5, .cell 18 6, .cell 18 7] en70 rfl (.cons (.box (.cons rfl rfl (.any rfl) (.cons rfl rfl (.any rfl) (.cons rfl rfl (.any rfl) (.cons rfl rfl (.any rfl) (.cons rfl rfl (.any rfl) (.cons rfl rfl (.any rfl) (.cons rfl rfl (.any rfl) (.cons rfl rfl .nil .nil))))))))) .nil) growWord_no rfl (lt rfl)) rfl rfl ?_
          refine hits_nil ?_
          refine to_next ?_
          refine hits_seq ?_
          refine hits_region ?_
          refine sq (f_move rfl (lt rfl)) rfl rfl ?_
          refine sq (f_callQ [.cell 18 0, .cell 18 1, .cell 18 2, .cell 18 3, .cell 18 4, .cell 18 5, .cell 18 6, .cell 18 7, .cell 18 8] en71 rfl (.cons (.box (.cons rfl rfl (.any rfl) (.cons rfl rfl (.any rfl) (.cons rfl rfl (.any rfl) (.cons rfl rfl (.any rfl) (.cons rfl rfl (.any rfl) (.cons rfl rfl (.any rfl) (.cons rfl rfl (.any rfl) (.cons rfl rfl (.any rfl) (.cons rfl rfl .nil .nil)))))))))) .nil) growField_no rfl (lt rfl)) rfl rfl ?_
          refine hits_nil ?_
          refine to_next ?_
          refine hits_seq ?_
          refine hits_region ?_
          refine sq (f_move rfl (lt rfl)) rfl rfl ?_
          refine sq (f_callQ [.cell 18 0, .cell 18 1, .cell 18 2, .cell 18 3, .cell 18 4, .cell 18 5, .cell 18 6, .cell 18 7, .cell 18 8, .cell 18 9] en72 rfl (.cons (.box (.cons rfl rfl (.any rfl) (.cons rfl rfl (.any rfl) (.cons rfl rfl (.any rfl) (.cons rfl rfl (.any rfl) (.cons rfl rfl (.any rfl) (.cons rfl rfl (.any rfl) (.cons rfl rfl (.any rfl) (.cons rfl rfl (.any rfl) (.cons rfl rfl (.any rfl) (.cons rfl rfl .nil .nil))))))))))) .nil) growMatch_no rfl (lt rfl)) rfl rfl ?_
          refine hits_nil ?_
          refine to_next ?_
          refine hits_seq ?_
          refine hits_region ?_
          refine sq (f_move rfl (lt rfl)) rfl rfl ?_
          refine sq (f_callQ [.cell 18 0, .cell 18 1, .cell 18 2, .cell 18 3, .cell 18 4, .cell 18 5, .cell 18 6, .cell 18 7, .cell 18 8, .cell 18 9, .cell 18 10] en73 rfl (.cons (.box (.cons rfl rfl (.any rfl) (.cons rfl rfl (.any rfl) (.cons rfl rfl (.any rfl) (.cons rfl rfl (.any rfl) (.cons rfl rfl (.any rfl) (.cons rfl rfl (.any rfl) (.cons rfl rfl (.any rfl) (.cons rfl rfl (.any rfl) (.cons rfl rfl (.any rfl) (.cons rfl rfl (.any rfl) (.cons rfl rfl .nil .nil)))))))))))) .nil) growArr_no rfl (lt rfl)) rfl rfl ?_
          refine hits_nil ?_
          refine to_next ?_
          refine hits_seq ?_
          refine hits_region ?_
          refine sq (f_move rfl (lt rfl)) rfl rfl ?_
          refine sq (f_callQ [.cell 18 0, .cell 18 1, .cell 18 2, .cell 18 3, .cell 18 4, .cell 18 5, .cell 18 6, .cell 18 7, .cell 18 8, .cell 18 9, .cell 18 10, .cell 18 11] en74 rfl (.cons (.box (.cons rfl rfl (.any rfl) (.cons rfl rfl (.any rfl) (.cons rfl rfl (.any rfl) (.cons rfl rfl (.any rfl) (.cons rfl rfl (.any rfl) (.cons rfl rfl (.any rfl) (.cons rfl rfl (.any rfl) (.cons rfl rfl (.any rfl) (.cons rfl rfl (.any rfl) (.cons rfl rfl (.any rfl) (.cons rfl rfl (.any rfl) (.cons rfl rfl .nil .nil))))))))))))) .nil) growCase_no rfl (lt rfl)) rfl rfl ?_
          refine hits_nil ?_
          refine to_next ?_
          refine hits_seq ?_
          refine hits_region ?_
          refine sq (f_move rfl (lt rfl)) rfl rfl ?_
          refine sq (f_callQ [.cell 18 0, .cell 18 1, .cell 18 2, .cell 18 3, .cell 18 4, .cell 18 5, .cell 18 6, .cell 18 7, .cell 18 8, .cell 18 9, .cell 18 10, .cell 18 11, .cell 18 12] en75 rfl (.cons (.box (.cons rfl rfl (.any rfl) (.cons rfl rfl (.any rfl) (.cons rfl rfl (.any rfl) (.cons rfl rfl (.any rfl) (.cons rfl rfl (.any rfl) (.cons rfl rfl (.any rfl) (.cons rfl rfl (.any rfl) (.cons rfl rfl (.any rfl) (.cons rfl rfl (.any rfl) (.cons rfl rfl (.any rfl) (.cons rfl rfl (.any rfl) (.cons rfl rfl (.any rfl) (.cons rfl rfl .nil .nil)))))))))))))) .nil) growJump_no rfl (lt rfl)) rfl rfl ?_
          refine hits_nil ?_
          refine to_next ?_
          refine hits_seq ?_
          refine hits_region ?_
          refine sq (f_move rfl (lt rfl)) rfl rfl ?_
          refine sq (f_callQ [.cell 18 0, .cell 18 1, .cell 18 2, .cell 18 3, .cell 18 4, .cell 18 5, .cell 18 6, .cell 18 7, .cell 18 8, .cell 18 9, .cell 18 10, .cell 18 11, .cell 18 12, .cell 18 13] en76 rfl (.cons (.box (.cons rfl rfl (.any rfl) (.cons rfl rfl (.any rfl) (.cons rfl rfl (.any rfl) (.cons rfl rfl (.any rfl) (.cons rfl rfl (.any rfl) (.cons rfl rfl (.any rfl) (.cons rfl rfl (.any rfl) (.cons rfl rfl (.any rfl) (.cons rfl rfl (.any rfl) (.cons rfl rfl (.any rfl) (.cons rfl rfl (.any rfl) (.cons rfl rfl (.any rfl) (.cons rfl rfl (.any rfl) (.cons rfl rfl .nil .nil))))))))))))))) .nil) growExpr_no rfl (lt rfl)) rfl rfl ?_
          refine hits_nil ?_
          refine to_next ?_
          refine hits_seq ?_
          refine hits_region ?_
          refine sq (f_move rfl (lt rfl)) rfl rfl ?_
          refine sq (f_callQ [.cell 18 0, .cell 18 1, .cell 18 2, .cell 18 3, .cell 18 4, .cell 18 5, .cell 18 6, .cell 18 7, .cell 18 8, .cell 18 9, .cell 18 10, .cell 18 11, .cell 18 12, .cell 18 13, .cell 18 14] en77 rfl (.cons (.box (.cons rfl rfl (.any rfl) (.cons rfl rfl (.any rfl) (.cons rfl rfl (.any rfl) (.cons rfl rfl (.any rfl) (.cons rfl rfl (.any rfl) (.cons rfl rfl (.any rfl) (.cons rfl rfl (.any rfl) (.cons rfl rfl (.any rfl) (.cons rfl rfl (.any rfl) (.cons rfl rfl (.any rfl) (.cons rfl rfl (.any rfl) (.cons rfl rfl (.any rfl) (.cons rfl rfl (.any rfl) (.cons rfl rfl (.any rfl) (.cons rfl rfl .nil .nil)))))))))))))))) .nil) growStmt_no rfl (lt rfl)) rfl rfl ?_
          refine hits_nil ?_
          refine to_next ?_
          refine hits_seq ?_
          refine hits_region ?_
          refine sq (f_move rfl (lt rfl)) rfl rfl ?_
          refine sq (f_callQ [.cell 18 0, .cell 18 1, .cell 18 2, .cell 18 3, .cell 18 4, .cell 18 5, .cell 18 6, .cell 18 7, .cell 18 8, .cell 18 9, .cell 18 10, .cell 18 11, .cell 18 12, .cell 18 13, .cell 18 14, .cell 18 15] en78 rfl (.cons (.box (.cons rfl rfl (.any rfl) (.cons rfl rfl (.any rfl) (.cons rfl rfl (.any rfl) (.cons rfl rfl (.any rfl) (.cons rfl rfl (.any rfl) (.cons rfl rfl (.any rfl) (.cons rfl rfl (.any rfl) (.cons rfl rfl (.any rfl) (.cons rfl rfl (.any rfl) (.cons rfl rfl (.any rfl) (.cons rfl rfl (.any rfl) (.cons rfl rfl (.any rfl) (.cons rfl rfl (.any rfl) (.cons rfl rfl (.any rfl) (.cons rfl rfl (.any rfl) (.cons rfl rfl .nil .nil))))))))))))))))) .nil) growState_no rfl (lt rfl)) rfl rfl ?_
          refine hits_nil ?_
          refine to_next ?_
          refine hits_seq ?_
          refine hits_region ?_
          refine sq (f_move rfl (lt rfl)) rfl rfl ?_
          refine sq (f_callQ [.cell 18 0, .cell 18 1, .cell 18 2, .cell 18 3, .cell 18 4, .cell 18 5, .cell 18 6, .cell 18 7, .cell 18 8, .cell 18 9, .cell 18 10, .cell 18 11, .cell 18 12, .cell 18 13, .cell 18 14, .cell 18 15, .cell 18 16] en79 rfl (.cons (.box (.cons rfl rfl (.any rfl) (.cons rfl rfl (.any rfl) (.cons rfl rfl (.any rfl) (.cons rfl rfl (.any rfl) (.cons rfl rfl (.any rfl) (.cons rfl rfl (.any rfl) (.cons rfl rfl (.any rfl) (.cons rfl rfl (.any rfl) (.cons rfl rfl (.any rfl) (.cons rfl rfl (.any rfl) (.cons rfl rfl (.any rfl) (.cons rfl rfl (.any rfl) (.cons rfl rfl (.any rfl) (.cons rfl rfl (.any rfl) (.cons rfl rfl (.any rfl) (.cons rfl rfl (.any rfl) (.cons rfl rfl .nil .nil)))))))))))))))))) .nil) growKey_no rfl (lt rfl)) rfl rfl ?_
          refine hits_nil ?_
          refine to_next ?_
          refine hits_seq ?_
          refine hits_region ?_
          refine sq (f_move rfl (lt rfl)) rfl rfl ?_
          refine sq (f_callQ [.cell 18 0, .cell 18 1, .cell 18 2, .cell 18 3, .cell 18 4, .cell 18 5, .cell 18 6, .cell 18 7, .cell 18 8, .cell 18 9, .cell 18 10, .cell 18 11, .cell 18 12, .cell 18 13, .cell 18 14, .cell 18 15, .cell 18 16, .cell 18 17] en80 rfl (.cons (.box (.cons rfl rfl (.any rfl) (.cons rfl rfl (.any rfl) (.cons rfl rfl (.any rfl) (.cons rfl rfl (.any rfl) (.cons rfl rfl (.any rfl) (.cons rfl rfl (.any rfl) (.cons rfl rfl (.any rfl) (.cons rfl rfl (.any rfl) (.cons rfl rfl (.any rfl) (.cons rfl rfl (.any rfl) (.cons rfl rfl (.any rfl) (.cons rfl rfl (.any rfl) (.cons rfl rfl (.any rfl) (.cons rfl rfl (.any rfl) (.cons rfl rfl (.any rfl) (.cons rfl rfl (.any rfl) (.cons rfl rfl (.any rfl) (.cons rfl rfl .nil .nil))))))))))))))))))) .nil) growDecl_no rfl (lt rfl)) rfl rfl ?_
          refine hits_nil ?_
          refine to_next ?_
          refine hits_seq ?_
          refine hits_region ?_
          refine sq (f_move rfl (lt rfl)) rfl rfl ?_
          refine sq (f_callQ [.cell 18 0, .cell 18 1, .cell 18 2, .cell 18 3, .cell 18 4, .cell 18 5, .cell 18 6, .cell 18 7, .cell 18 8, .cell 18 9, .cell 18 10, .cell 18 11, .cell 18 12, .cell 18 13, .cell 18 14, .cell 18 15, .cell 18 16, .cell 18 17, .cell 18 18] en81 rfl (.cons (.box (.cons rfl rfl (.any rfl) (.cons rfl rfl (.any rfl) (.cons rfl rfl (.any rfl) (.cons rfl rfl (.any rfl) (.cons rfl rfl (.any rfl) (.cons rfl rfl (.any rfl) (.cons rfl rfl (.any rfl) (.cons rfl rfl (.any rfl) (.cons rfl rfl (.any rfl) (.cons rfl rfl (.any rfl) (.cons rfl rfl (.any rfl) (.cons rfl rfl (.any rfl) (.cons rfl rfl (.any rfl) (.cons rfl rfl (.any rfl) (.cons rfl rfl (.any rfl) (.cons rfl rfl (.any rfl) (.cons rfl rfl (.any rfl) (.cons rfl rfl (.any rfl) (.cons rfl rfl .nil .nil)))))))))))))))))))) .nil) growEntry_no rfl (lt rfl)) rfl rfl ?_
          refine hits_nil ?_
          refine to_next ?_
          refine hits_seq ?_
          refine hits_region ?_
          refine sq (f_move rfl (lt rfl)) rfl rfl ?_
          refine sq (f_callQ [.cell 18 0, .cell 18 1, .cell 18 2, .cell 18 3, .cell 18 4, .cell 18 5, .cell 18 6, .cell 18 7, .cell 18 8, .cell 18 9, .cell 18 10, .cell 18 11, .cell 18 12, .cell 18 13, .cell 18 14, .cell 18 15, .cell 18 16, .cell 18 17, .cell 18 18, .cell 18 19] en82 rfl (.cons (.box (.cons rfl rfl (.any rfl) (.cons rfl rfl (.any rfl) (.cons rfl rfl (.any rfl) (.cons rfl rfl (.any rfl) (.cons rfl rfl (.any rfl) (.cons rfl rfl (.any rfl) (.cons rfl rfl (.any rfl) (.cons rfl rfl (.any rfl) (.cons rfl rfl (.any rfl) (.cons rfl rfl (.any rfl) (.cons rfl rfl (.any rfl) (.cons rfl rfl (.any rfl) (.cons rfl rfl (.any rfl) (.cons rfl rfl (.any rfl) (.cons rfl rfl (.any rfl) (.cons rfl rfl (.any rfl) (.cons rfl rfl (.any rfl) (.cons rfl rfl (.any rfl) (.cons rfl rfl (.any rfl) (.cons rfl rfl .nil .nil))))))))))))))))))))) .nil) growGroup_no rfl (lt rfl)) rfl rfl ?_
          refine hits_nil ?_
          refine to_next ?_
          refine hits_seq ?_
          refine hits_region ?_
          refine sq (f_move rfl (lt rfl)) rfl rfl ?_
          refine sq (f_callQ [.cell 18 0, .cell 18 1, .cell 18 2, .cell 18 3, .cell 18 4, .cell 18 5, .cell 18 6, .cell 18 7, .cell 18 8, .cell 18 9, .cell 18 10, .cell 18 11, .cell 18 12, .cell 18 13, .cell 18 14, .cell 18 15, .cell 18 16, .cell 18 17, .cell 18 18, .cell 18 19, .cell 18 20] en83 rfl (.cons (.box (.cons rfl rfl (.any rfl) (.cons rfl rfl (.any rfl) (.cons rfl rfl (.any rfl) (.cons rfl rfl (.any rfl) (.cons rfl rfl (.any rfl) (.cons rfl rfl (.any rfl) (.cons rfl rfl (.any rfl) (.cons rfl rfl (.any rfl) (.cons rfl rfl (.any rfl) (.cons rfl rfl (.any rfl) (.cons rfl rfl (.any rfl) (.cons rfl rfl (.any rfl) (.cons rfl rfl (.any rfl) (.cons rfl rfl (.any rfl) (.cons rfl rfl (.any rfl) (.cons rfl rfl (.any rfl) (.cons rfl rfl (.any rfl) (.cons rfl rfl (.any rfl) (.cons rfl rfl (.any rfl) (.cons rfl rfl (.any rfl) (.cons rfl rfl .nil .nil)))))))))))))))))))))) .nil) growHead_no rfl (lt rfl)) rfl rfl ?_
          refine hits_nil ?_
          refine to_next ?_
          refine hits_seq ?_
          refine hits_region ?_
          refine sq (f_move rfl (lt rfl)) rfl rfl ?_
          refine sq (f_callQ [.cell 18 0, .cell 18 1, .cell 18 2, .cell 18 3, .cell 18 4, .cell 18 5, .cell 18 6, .cell 18 7, .cell 18 8, .cell 18 9, .cell 18 10, .cell 18 11, .cell 18 12, .cell 18 13, .cell 18 14, .cell 18 15, .cell 18 16, .cell 18 17, .cell 18 18, .cell 18 19, .cell 18 20, .cell 18 21] en84 rfl (.cons (.box (.cons rfl rfl (.any rfl) (.cons rfl rfl (.any rfl) (.cons rfl rfl (.any rfl) (.cons rfl rfl (.any rfl) (.cons rfl rfl (.any rfl) (.cons rfl rfl (.any rfl) (.cons rfl rfl (.any rfl) (.cons rfl rfl (.any rfl) (.cons rfl rfl (.any rfl) (.cons rfl rfl (.any rfl) (.cons rfl rfl (.any rfl) (.cons rfl rfl (.any rfl) (.cons rfl rfl (.any rfl) (.cons rfl rfl (.any rfl) (.cons rfl rfl (.any rfl) (.cons rfl rfl (.any rfl) (.cons rfl rfl (.any rfl) (.cons rfl rfl (.any rfl) (.cons rfl rfl (.any rfl) (.cons rfl rfl (.any rfl) (.cons rfl rfl (.any rfl) (.cons rfl rfl .nil .nil))))))))))))))))))))))) .nil) growNode_no rfl (lt rfl)) rfl rfl ?_
          refine hits_nil ?_
          refine to_next ?_
          refine hits_seq ?_
          refine hits_region ?_
          refine sq (f_move rfl (lt rfl)) rfl rfl ?_
          refine sq (f_callQ [.cell 18 0, .cell 18 1, .cell 18 2, .cell 18 3, .cell 18 4, .cell 18 5, .cell 18 6, .cell 18 7, .cell 18 8, .cell 18 9, .cell 18 10, .cell 18 11, .cell 18 12, .cell 18 13, .cell 18 14, .cell 18 15, .cell 18 16, .cell 18 17, .cell 18 18, .cell 18 19, .cell 18 20, .cell 18 21, .cell 18 22] en85 rfl (.cons (.box (.cons rfl rfl (.any rfl) (.cons rfl rfl (.any rfl) (.cons rfl rfl (.any rfl) (.cons rfl rfl (.any rfl) (.cons rfl rfl (.any rfl) (.cons rfl rfl (.any rfl) (.cons rfl rfl (.any rfl) (.cons rfl rfl (.any rfl) (.cons rfl rfl (.any rfl) (.cons rfl rfl (.any rfl) (.cons rfl rfl (.any rfl) (.cons rfl rfl (.any rfl) (.cons rfl rfl (.any rfl) (.cons rfl rfl (.any rfl) (.cons rfl rfl (.any rfl) (.cons rfl rfl (.any rfl) (.cons rfl rfl (.any rfl) (.cons rfl rfl (.any rfl) (.cons rfl rfl (.any rfl) (.cons rfl rfl (.any rfl) (.cons rfl rfl (.any rfl) (.cons rfl rfl (.any rfl) (.cons rfl rfl .nil .nil)))))))))))))))))))))))) .nil) growAct_no rfl (lt rfl)) rfl rfl ?_
          refine hits_nil ?_
          refine to_next ?_
          refine hits_seq ?_
          refine hits_region ?_
          refine sq (f_move rfl (lt rfl)) rfl rfl ?_
          refine sq (f_callQ [.cell 18 0, .cell 18 1, .cell 18 2, .cell 18 3, .cell 18 4, .cell 18 5, .cell 18 6, .cell 18 7, .cell 18 8, .cell 18 9, .cell 18 10, .cell 18 11, .cell 18 12, .cell 18 13, .cell 18 14, .cell 18 15, .cell 18 16, .cell 18 17, .cell 18 18, .cell 18 19, .cell 18 20, .cell 18 21, .cell 18 22, .cell 18 23] en86 rfl (.cons (.box (.cons rfl rfl (.any rfl) (.cons rfl rfl (.any rfl) (.cons rfl rfl (.any rfl) (.cons rfl rfl (.any rfl) (.cons rfl rfl (.any rfl) (.cons rfl rfl (.any rfl) (.cons rfl rfl (.any rfl) (.cons rfl rfl (.any rfl) (.cons rfl rfl (.any rfl) (.cons rfl rfl (.any rfl) (.cons rfl rfl (.any rfl) (.cons rfl rfl (.any rfl) (.cons rfl rfl (.any rfl) (.cons rfl rfl (.any rfl) (.cons rfl rfl (.any rfl) (.cons rfl rfl (.any rfl) (.cons rfl rfl (.any rfl) (.cons rfl rfl (.any rfl) (.cons rfl rfl (.any rfl) (.cons rfl rfl (.any rfl) (.cons rfl rfl (.any rfl) (.cons rfl rfl (.any rfl) (.cons rfl rfl (.any rfl) (.cons rfl rfl .nil .nil))))))))))))))))))))))))) .nil) growTable_no rfl (lt rfl)) rfl rfl ?_
          refine hits_nil ?_
          refine to_next ?_
          refine hits_seq ?_
          refine hits_region ?_
          refine sq (f_move rfl (lt rfl)) rfl rfl ?_
          refine sq (f_callQ [.cell 18 0, .cell 18 1, .cell 18 2, .cell 18 3, .cell 18 4, .cell 18 5, .cell 18 6, .cell 18 7, .cell 18 8, .cell 18 9, .cell 18 10, .cell 18 11, .cell 18 12, .cell 18 13, .cell 18 14, .cell 18 15, .cell 18 16, .cell 18 17, .cell 18 18, .cell 18 19, .cell 18 20, .cell 18 21, .cell 18 22, .cell 18 23, .cell 18 24] en87 rfl (.cons (.box (.cons rfl rfl (.any rfl) (.cons rfl rfl (.any rfl) (.cons rfl rfl (.any rfl) (.cons rfl rfl (.any rfl) (.cons rfl rfl (.any rfl) (.cons rfl rfl (.any rfl) (.cons rfl rfl (.any rfl) (.cons rfl rfl (.any rfl) (.cons rfl rfl (.any rfl) (.cons rfl rfl (.any rfl) (.cons rfl rfl (.any rfl) (.cons rfl rfl (.any rfl) (.cons rfl rfl (.any rfl) (.cons rfl rfl (.any rfl) (.cons rfl rfl (.any rfl) (.cons rfl rfl (.any rfl) (.cons rfl rfl (.any rfl) (.cons rfl rfl (.any rfl) (.cons rfl rfl (.any rfl) (.cons rfl rfl (.any rfl) (.cons rfl rfl (.any rfl) (.cons rfl rfl (.any rfl) (.cons rfl rfl (.any rfl) (.cons rfl rfl (.any rfl) (.cons rfl rfl .nil .nil)))))))))))))))))))))))))) .nil) growIns_no rfl (lt rfl)) rfl rfl ?_
          refine hits_nil ?_
          refine to_next ?_
          refine hits_seq ?_
          refine hits_region ?_
          refine sq (f_move rfl (lt rfl)) rfl rfl ?_
          refine sq (f_callQ [.cell 18 0, .cell 18 1, .cell 18 2, .cell 18 3, .cell 18 4, .cell 18 5, .cell 18 6, .cell 18 7, .cell 18 8, .cell 18 9, .cell 18 10, .cell 18 11, .cell 18 12, .cell 18 13, .cell 18 14, .cell 18 15, .cell 18 16, .cell 18 17, .cell 18 18, .cell 18 19, .cell 18 20, .cell 18 21, .cell 18 22, .cell 18 23, .cell 18 24, .cell 18 25] en88 rfl (.cons (.box (.cons rfl rfl (.any rfl) (.cons rfl rfl (.any rfl) (.cons rfl rfl (.any rfl) (.cons rfl rfl (.any rfl) (.cons rfl rfl (.any rfl) (.cons rfl rfl (.any rfl) (.cons rfl rfl (.any rfl) (.cons rfl rfl (.any rfl) (.cons rfl rfl (.any rfl) (.cons rfl rfl (.any rfl) (.cons rfl rfl (.any rfl) (.cons rfl rfl (.any rfl) (.cons rfl rfl (.any rfl) (.cons rfl rfl (.any rfl) (.cons rfl rfl (.any rfl) (.cons rfl rfl (.any rfl) (.cons rfl rfl (.any rfl) (.cons rfl rfl (.any rfl) (.cons rfl rfl (.any rfl) (.cons rfl rfl (.any rfl) (.cons rfl rfl (.any rfl) (.cons rfl rfl (.any rfl) (.cons rfl rfl (.any rfl) (.cons rfl rfl (.any rfl) (.cons rfl rfl (.any rfl) (.cons rfl rfl .nil .nil))))))))))))))))))))))))))) .nil) growEffect_no rfl (lt rfl)) rfl rfl ?_
          refine hits_nil ?_
          refine to_next ?_
          refine hits_seq ?_
          refine hits_region ?_
          refine sq (f_move rfl (lt rfl)) rfl rfl ?_
          refine sq (f_callQ [.cell 18 0, .cell 18 1, .cell 18 2, .cell 18 3, .cell 18 4, .cell 18 5, .cell 18 6, .cell 18 7, .cell 18 8, .cell 18 9, .cell 18 10, .cell 18 11, .cell 18 12, .cell 18 13, .cell 18 14, .cell 18 15, .cell 18 16, .cell 18 17, .cell 18 18, .cell 18 19, .cell 18 20, .cell 18 21, .cell 18 22, .cell 18 23, .cell 18 24, .cell 18 25, .cell 18 26] en89 rfl (.cons (.box (.cons rfl rfl (.any rfl) (.cons rfl rfl (.any rfl) (.cons rfl rfl (.any rfl) (.cons rfl rfl (.any rfl) (.cons rfl rfl (.any rfl) (.cons rfl rfl (.any rfl) (.cons rfl rfl (.any rfl) (.cons rfl rfl (.any rfl) (.cons rfl rfl (.any rfl) (.cons rfl rfl (.any rfl) (.cons rfl rfl (.any rfl) (.cons rfl rfl (.any rfl) (.cons rfl rfl (.any rfl) (.cons rfl rfl (.any rfl) (.cons rfl rfl (.any rfl) (.cons rfl rfl (.any rfl) (.cons rfl rfl (.any rfl) (.cons rfl rfl (.any rfl) (.cons rfl rfl (.any rfl) (.cons rfl rfl (.any rfl) (.cons rfl rfl (.any rfl) (.cons rfl rfl (.any rfl) (.cons rfl rfl (.any rfl) (.cons rfl rfl (.any rfl) (.cons rfl rfl (.any rfl) (.cons rfl rfl (.any rfl) (.cons rfl rfl .nil .nil)))))))))))))))))))))))))))) .nil) growUpdate_no rfl (lt rfl)) rfl rfl ?_
          refine hits_nil ?_
          refine to_next ?_
          refine hits_seq ?_
          refine hits_region ?_
          refine sq (f_move rfl (lt rfl)) rfl rfl ?_
          refine sq (f_callQ [.cell 18 0, .cell 18 1, .cell 18 2, .cell 18 3, .cell 18 4, .cell 18 5, .cell 18 6, .cell 18 7, .cell 18 8, .cell 18 9, .cell 18 10, .cell 18 11, .cell 18 12, .cell 18 13, .cell 18 14, .cell 18 15, .cell 18 16, .cell 18 17, .cell 18 18, .cell 18 19, .cell 18 20, .cell 18 21, .cell 18 22, .cell 18 23, .cell 18 24, .cell 18 25, .cell 18 26, .cell 18 27] en90 rfl (.cons (.box (.cons rfl rfl (.any rfl) (.cons rfl rfl (.any rfl) (.cons rfl rfl (.any rfl) (.cons rfl rfl (.any rfl) (.cons rfl rfl (.any rfl) (.cons rfl rfl (.any rfl) (.cons rfl rfl (.any rfl) (.cons rfl rfl (.any rfl) (.cons rfl rfl (.any rfl) (.cons rfl rfl (.any rfl) (.cons rfl rfl (.any rfl) (.cons rfl rfl (.any rfl) (.cons rfl rfl (.any rfl) (.cons rfl rfl (.any rfl) (.cons rfl rfl (.any rfl) (.cons rfl rfl (.any rfl) (.cons rfl rfl (.any rfl) (.cons rfl rfl (.any rfl) (.cons rfl rfl (.any rfl) (.cons rfl rfl (.any rfl) (.cons rfl rfl (.any rfl) (.cons rfl rfl (.any rfl) (.cons rfl rfl (.any rfl) (.cons rfl rfl (.any rfl) (.cons rfl rfl (.any rfl) (.cons rfl rfl (.any rfl) (.cons rfl rfl (.any rfl) (.cons rfl rfl .nil .nil))))))))))))))))))))))))))))) .nil) growEvent_no rfl (lt rfl)) rfl rfl ?_
          refine hits_nil ?_
          refine to_next ?_
          refine hits_seq ?_
          refine hits_region ?_
          refine sq (f_move rfl (lt rfl)) rfl rfl ?_
          refine sq (f_callQ [.cell 18 0, .cell 18 1, .cell 18 2, .cell 18 3, .cell 18 4, .cell 18 5, .cell 18 6, .cell 18 7, .cell 18 8, .cell 18 9, .cell 18 10, .cell 18 11, .cell 18 12, .cell 18 13, .cell 18 14, .cell 18 15, .cell 18 16, .cell 18 17, .cell 18 18, .cell 18 19, .cell 18 20, .cell 18 21, .cell 18 22, .cell 18 23, .cell 18 24, .cell 18 25, .cell 18 26, .cell 18 27, .cell 18 28] en91 rfl (.cons (.box (.cons rfl rfl (.any rfl) (.cons rfl rfl (.any rfl) (.cons rfl rfl (.any rfl) (.cons rfl rfl (.any rfl) (.cons rfl rfl (.any rfl) (.cons rfl rfl (.any rfl) (.cons rfl rfl (.any rfl) (.cons rfl rfl (.any rfl) (.cons rfl rfl (.any rfl) (.cons rfl rfl (.any rfl) (.cons rfl rfl (.any rfl) (.cons rfl rfl (.any rfl) (.cons rfl rfl (.any rfl) (.cons rfl rfl (.any rfl) (.cons rfl rfl (.any rfl) (.cons rfl rfl (.any rfl) (.cons rfl rfl (.any rfl) (.cons rfl rfl (.any rfl) (.cons rfl rfl (.any rfl) (.cons rfl rfl (.any rfl) (.cons rfl rfl (.any rfl) (.cons rfl rfl (.any rfl) (.cons rfl rfl (.any rfl) (.cons rfl rfl (.any rfl) (.cons rfl rfl (.any rfl) (.cons rfl rfl (.any rfl) (.cons rfl rfl (.any rfl) (.cons rfl rfl (.any rfl) (.cons rfl rfl .nil .nil)))))))))))))))))))))))))))))) .nil) growOut_no rfl (lt rfl)) rfl rfl ?_
          refine hits_nil ?_
          refine to_next ?_
          refine hits_seq ?_
          refine hits_region ?_
          refine sq (f_move rfl (lt rfl)) rfl rfl ?_
          refine sq (f_callQ [.cell 18 0, .cell 18 1, .cell 18 2, .cell 18 3, .cell 18 4, .cell 18 5, .cell 18 6, .cell 18 7, .cell 18 8, .cell 18 9, .cell 18 10, .cell 18 11, .cell 18 12, .cell 18 13, .cell 18 14, .cell 18 15, .cell 18 16, .cell 18 17, .cell 18 18, .cell 18 19, .cell 18 20, .cell 18 21, .cell 18 22, .cell 18 23, .cell 18 24, .cell 18 25, .cell 18 26, .cell 18 27, .cell 18 28, .cell 18 29] en92 rfl (.cons (.box (.cons rfl rfl (.any rfl) (.cons rfl rfl (.any rfl) (.cons rfl rfl (.any rfl) (.cons rfl rfl (.any rfl) (.cons rfl rfl (.any rfl) (.cons rfl rfl (.any rfl) (.cons rfl rfl (.any rfl) (.cons rfl rfl (.any rfl) (.cons rfl rfl (.any rfl) (.cons rfl rfl (.any rfl) (.cons rfl rfl (.any rfl) (.cons rfl rfl (.any rfl) (.cons rfl rfl (.any rfl) (.cons rfl rfl (.any rfl) (.cons rfl rfl (.any rfl) (.cons rfl rfl (.any rfl) (.cons rfl rfl (.any rfl) (.cons rfl rfl (.any rfl) (.cons rfl rfl (.any rfl) (.cons rfl rfl (.any rfl) (.cons rfl rfl (.any rfl) (.cons rfl rfl (.any rfl) (.cons rfl rfl (.any rfl) (.cons rfl rfl (.any rfl) (.cons rfl rfl (.any rfl) (.cons rfl rfl (.any rfl) (.cons rfl rfl (.any rfl) (.cons rfl rfl (.any rfl) (.cons rfl rfl (.any rfl) (.cons rfl rfl .nil .nil))))))))))))))))))))))))))))))) .nil) growRow_no rfl (lt rfl)) rfl rfl ?_
          refine hits_nil ?_
          refine to_next ?_
          refine hits_seq ?_
          refine hits_region ?_
          refine sq (f_move rfl (lt rfl)) rfl rfl ?_
          refine sq (f_callQ [.cell 18 0, .cell 18 1, .cell 18 2, .cell 18 3, .cell 18 4, .cell 18 5, .cell 18 6, .cell 18 7, .cell 18 8, .cell 18 9, .cell 18 10, .cell 18 11, .cell 18 12, .cell 18 13, .cell 18 14, .cell 18 15, .cell 18 16, .cell 18 17, .cell 18 18, .cell 18 19, .cell 18 20, .cell 18 21, .cell 18 22, .cell 18 23, .cell 18 24, .cell 18 25, .cell 18 26, .cell 18 27, .cell 18 28, .cell 18 29, .cell 18 30] en93 rfl (.cons (.box (.cons rfl rfl (.any rfl) (.cons rfl rfl (.any rfl) (.cons rfl rfl (.any rfl) (.cons rfl rfl (.any rfl) (.cons rfl rfl (.any rfl) (.cons rfl rfl (.any rfl) (.cons rfl rfl (.any rfl) (.cons rfl rfl (.any rfl) (.cons rfl rfl (.any rfl) (.cons rfl rfl (.any rfl) (.cons rfl rfl (.any rfl) (.cons rfl rfl (.any rfl) (.cons rfl rfl (.any rfl) (.cons rfl rfl (.any rfl) (.cons rfl rfl (.any rfl) (.cons rfl rfl (.any rfl) (.cons rfl rfl (.any rfl) (.cons rfl rfl (.any rfl) (.cons rfl rfl (.any rfl) (.cons rfl rfl (.any rfl) (.cons rfl rfl (.any rfl) (.cons rfl rfl (.any rfl) (.cons rfl rfl (.any rfl) (.cons rfl rfl (.any rfl) (.cons rfl rfl (.any rfl) (.cons rfl rfl (.any rfl) (.cons rfl rfl (.any rfl) (.cons rfl rfl (.any rfl) (.cons rfl rfl (.any rfl) (.cons rfl rfl (.any rfl) (.cons rfl rfl .nil .nil)))))))))))))))))))))))))))))))) .nil) growArray_no rfl (lt rfl)) rfl rfl ?_
          refine hits_nil ?_
          refine to_next ?_
          refine hits_seq ?_
          refine hits_dullTip 25 ?_
          refine hits_dullTip 30 ?_
          refine hits_region ?_
          refine sq (f_move rfl (lt rfl)) rfl rfl ?_
          refine sq (f_callQ [.cell 18 0, .cell 18 1] en94 rfl (.cons (.box (.cons rfl rfl (.any rfl) (.cons rfl rfl .nil .nil))) .nil) lookInt_no rfl (lt rfl)) rfl rfl ?_
          refine sq (f_move rfl (lt rfl)) rfl rfl ?_
          refine sq_yes (f_move rfl (lt rfl)) rfl rfl rfl rfl (lt rfl) ?_
          refine sq_yes (f_callQ [.cell 18 0, .cell 18 1, .cell 18 2, .tip 102] en95 rfl (.cons (.box (.cons rfl rfl (.any rfl) (.cons rfl rfl (.any rfl) (.cons rfl rfl (.mo rfl rfl rfl rfl (held3 _)) .nil)))) .nil) (lookByte_c [(l.length, 1), (l.length, 2)] (by simp) hql) rfl (lt rfl)) rfl rfl rfl rfl (lt rfl) ?_
          refine sq (f_pick rfl rfl (lt rfl)) rfl rfl ?_
          refine sq (f_move rfl (lt rfl)) rfl rfl ?_
          refine sq_yes (f_move rfl (lt rfl)) rfl rfl rfl rfl (lt rfl) ?_
          refine sq_yes (f_callQ [.cell 18 0, .cell 18 1, .cell 18 2, .cell 18 3] en96 rfl (.cons (.box (.cons rfl rfl (.any rfl) (.cons rfl rfl (.any rfl) (.cons rfl rfl (.any rfl) (.cons rfl rfl .nil .nil))))) .nil) lookKind_no rfl (lt rfl)) rfl rfl rfl rfl (lt rfl) ?_
          refine sq (f_pick rfl rfl (lt rfl)) rfl rfl ?_
          refine sq (f_move rfl (lt rfl)) rfl rfl ?_
          refine sq_yes (f_move rfl (lt rfl)) rfl rfl rfl rfl (lt rfl) ?_
          refine sq_yes (f_callQ [.cell 18 0, .cell 18 1, .cell 18 2, .cell 18 3, .cell 18 4] en97 rfl (.cons (.box (.cons rfl rfl (.any rfl) (.cons rfl rfl (.any rfl) (.cons rfl rfl (.any rfl) (.cons rfl rfl (.any rfl) (.cons rfl rfl .nil .nil)))))) .nil) lookText_no rfl (lt rfl)) rfl rfl rfl rfl (lt rfl) ?_
          refine sq (f_pick rfl rfl (lt rfl)) rfl rfl ?_
          refine sq (f_move rfl (lt rfl)) rfl rfl ?_
          refine sq_yes (f_move rfl (lt rfl)) rfl rfl rfl rfl (lt rfl) ?_
          refine sq_yes (f_callQ [.cell 18 0, .cell 18 1, .cell 18 2, .cell 18 3, .cell 18 4, .cell 18 5] en98 rfl (.cons (.box (.cons rfl rfl (.any rfl) (.cons rfl rfl (.any rfl) (.cons rfl rfl (.any rfl) (.cons rfl rfl (.any rfl) (.cons rfl rfl (.any rfl) (.cons rfl rfl .nil .nil))))))) .nil) lookBlob_no rfl (lt rfl)) rfl rfl rfl rfl (lt rfl) ?_
          refine sq (f_pick rfl rfl (lt rfl)) rfl rfl ?_
          refine sq (f_move rfl (lt rfl)) rfl rfl ?_
          refine sq_yes (f_move rfl (lt rfl)) rfl rfl rfl rfl (lt rfl) ?_
          refine sq_yes (f_callQ [.cell 18 0, .cell 18 1, .cell 18 2, .cell 18 3, .cell 18 4, .cell 18 5, .cell 18 6] en99 rfl (.cons (.box (.cons rfl rfl (.any rfl) (.cons rfl rfl (.any rfl) (.cons rfl rfl (.any rfl) (.cons rfl rfl (.any rfl) (.cons rfl rfl (.any rfl) (.cons rfl rfl (.any rfl) (.cons rfl rfl .nil .nil)))))))) .nil) lookNumber_no rfl (lt rfl)) rfl rfl rfl rfl (lt rfl) ?_
          refine sq (f_pick rfl rfl (lt rfl)) rfl rfl ?_
          refine sq (f_move rfl (lt rfl)) rfl rfl ?_
          refine sq_yes (f_move rfl (lt rfl)) rfl rfl rfl rfl (lt rfl) ?_
          refine sq_yes (f_callQ [.cell 18 0, .cell 18 1, .cell 18 2, .cell 18 3, .cell 18 4, .cell 18 5, .cell 18 6, .cell 18 7] en100 rfl (.cons (.box (.cons rfl rfl (.any rfl) (.cons rfl rfl (.any rfl) (.cons rfl rfl (.any rfl) (.cons rfl rfl (.any rfl) (.cons rfl rfl (.any rfl) (.cons rfl rfl (.any rfl) (.cons rfl rfl (.any rfl) (.cons rfl rfl .nil .nil))))))))) .nil) lookWord_no rfl (lt rfl)) rfl rfl rfl rfl (lt rfl) ?_
          refine sq (f_pick rfl rfl (lt rfl)) rfl rfl ?_
          refine sq (f_move rfl (lt rfl)) rfl rfl ?_
          refine sq_yes (f_move rfl (lt rfl)) rfl rfl rfl rfl (lt rfl) ?_
          refine sq_yes (f_callQ [.cell 18 0, .cell 18 1, .cell 18 2, .cell 18 3, .cell 18 4, .cell 18 5, .cell 18 6, .cell 18 7, .cell 18 8] en101 rfl (.cons (.box (.cons rfl rfl (.any rfl) (.cons rfl rfl (.any rfl) (.cons rfl rfl (.any rfl) (.cons rfl rfl (.any rfl) (.cons rfl rfl (.any rfl) (.cons rfl rfl (.any rfl) (.cons rfl rfl (.any rfl) (.cons rfl rfl (.any rfl) (.cons rfl rfl .nil .nil)))))))))) .nil) lookField_no rfl (lt rfl)) rfl rfl rfl rfl (lt rfl) ?_
          refine sq (f_pick rfl rfl (lt rfl)) rfl rfl ?_
          refine sq (f_move rfl (lt rfl)) rfl rfl ?_
          refine sq_yes (f_move rfl (lt rfl)) rfl rfl rfl rfl (lt rfl) ?_
          refine sq_yes (f_callQ [.cell 18 0, .cell 18 1, .cell 18 2, .cell 18 3, .cell 18 4, .cell 18 5, .cell 18 6, .cell 18 7, .cell 18 8, .cell 18 9] en102 rfl (.cons (.box (.cons rfl rfl (.any rfl) (.cons rfl rfl (.any rfl) (.cons rfl rfl (.any rfl) (.cons rfl rfl (.any rfl) (.cons rfl rfl (.any rfl) (.cons rfl rfl (.any rfl) (.cons rfl rfl (.any rfl) (.cons rfl rfl (.any rfl) (.cons rfl rfl (.any rfl) (.cons rfl rfl .nil .nil))))))))))) .nil) lookMatch_no rfl (lt rfl)) rfl rfl rfl rfl (lt rfl) ?_
          refine sq (f_pick rfl rfl (lt rfl)) rfl rfl ?_
          refine sq (f_move rfl (lt rfl)) rfl rfl ?_
          refine sq_yes (f_move rfl (lt rfl)) rfl rfl rfl rfl (lt rfl) ?_
          refine sq_yes (f_callQ [.cell 18 0, .cell 18 1, .cell 18 2, .cell 18 3, .cell 18 4, .cell 18 5, .cell 18 6, .cell 18 7, .cell 18 8, .cell 18 9, .cell 18 10] en103 rfl (.cons (.box (.cons rfl rfl (.any rfl) (.cons rfl rfl (.any rfl) (.cons rfl rfl (.any rfl) (.cons rfl rfl (.any rfl) (.cons rfl rfl (.any rfl) (.cons rfl rfl (.any rfl) (.cons rfl rfl (.any rfl) (.cons rfl rfl (.any rfl) (.cons rfl rfl (.any rfl) (.cons rfl rfl (.any rfl) (.cons rfl rfl .nil .nil)))))))))))) .nil) lookArr_no rfl (lt rfl)) rfl rfl rfl rfl (lt rfl) ?_
          refine sq (f_pick rfl rfl (lt rfl)) rfl rfl ?_
          refine sq (f_move rfl (lt rfl)) rfl rfl ?_
          refine sq_yes (f_move rfl (lt rfl)) rfl rfl rfl rfl (lt rfl) ?_
          refine sq_yes (f_callQ [.cell 18 0, .cell 18 1, .cell 18 2, .cell 18 3, .cell 18 4, .cell 18 5, .cell 18 6, .cell 18 7, .cell 18 8, .cell 18 9, .cell 18 10, .cell 18 11] en104 rfl (.cons (.box (.cons rfl rfl (.any rfl) (.cons rfl rfl (.any rfl) (.cons rfl rfl (.any rfl) (.cons rfl rfl (.any rfl) (.cons rfl rfl (.any rfl) (.cons rfl rfl (.any rfl) (.cons rfl rfl (.any rfl) (.cons rfl rfl (.any rfl) (.cons rfl rfl (.any rfl) (.cons rfl rfl (.any rfl) (.cons rfl rfl (.any rfl) (.cons rfl rfl .nil .nil))))))))))))) .nil) lookCase_no rfl (lt rfl)) rfl rfl rfl rfl (lt rfl) ?_
          refine sq (f_pick rfl rfl (lt rfl)) rfl rfl ?_
          refine sq (f_move rfl (lt rfl)) rfl rfl ?_
          refine sq_yes (f_move rfl (lt rfl)) rfl rfl rfl rfl (lt rfl) ?_
          refine sq_yes (f_callQ [.cell 18 0, .cell 18 1, .cell 18 2, .cell 18 3, .cell 18 4, .cell 18 5, .cell 18 6, .cell 18 7, .cell 18 8, .cell 18 9, .cell 18 10, .cell 18 11, .cell 18 12] en105 rfl (.cons (.box (.cons rfl rfl (.any rfl) (.cons rfl rfl (.any rfl) (.cons rfl rfl (.any rfl) (.cons rfl rfl (.any rfl) (.cons rfl rfl (.any rfl) (.cons rfl rfl (.any rfl) (.cons rfl rfl (.any rfl) (.cons rfl rfl (.any rfl) (.cons rfl rfl (.any rfl) (.cons rfl rfl (.any rfl) (.cons rfl rfl (.any rfl) (.cons rfl rfl (.any rfl) (.cons rfl rfl .nil .nil)))))))))))))) .nil) lookJump_no rfl (lt rfl)) rfl rfl rfl rfl (lt rfl) ?_
          refine sq (f_pick rfl rfl (lt rfl)) rfl rfl ?_
          refine sq (f_move rfl (lt rfl)) rfl rfl ?_
          refine sq_yes (f_move rfl (lt rfl)) rfl rfl rfl rfl (lt rfl) ?_
          refine sq_yes (f_callQ [.cell 18 0, .cell 18 1, .cell 18 2, .cell 18 3, .cell 18 4, .cell 18 5, .cell 18 6, .cell 18 7, .cell 18 8, .cell 18 9, .cell 18 10, .cell 18 11, .cell 18 12, .cell 18 13] en106 rfl (.cons (.box (.cons rfl rfl (.any rfl) (.cons rfl rfl (.any rfl) (.cons rfl rfl (.any rfl) (.cons rfl rfl (.any rfl) (.cons rfl rfl (.any rfl) (.cons rfl rfl (.any rfl) (.cons rfl rfl (.any rfl) (.cons rfl rfl (.any rfl) (.cons rfl rfl (.any rfl) (.cons rfl rfl (.any rfl) (.cons rfl rfl (.any rfl) (.cons rfl rfl (.any rfl) (.cons rfl rfl (.any rfl) (.cons rfl rfl .nil .nil))))))))))))))) .nil) lookExpr_no rfl (lt rfl)) rfl rfl rfl rfl (lt rfl) ?_
          refine sq (f_pick rfl rfl (lt rfl)) rfl rfl ?_
          refine sq (f_move rfl (lt rfl)) rfl rfl ?_
          refine sq_yes (f_move rfl (lt rfl)) rfl rfl rfl rfl (lt rfl) ?_
          refine sq_yes (f_callQ [.cell 18 0, .cell 18 1, .cell 18 2, .cell 18 3, .cell 18 4, .cell 18 5, .cell 18 6, .cell 18 7, .cell 18 8, .cell 18 9, .cell 18 10, .cell 18 11, .cell 18 12, .cell 18 13, .cell 18 14] en107 rfl (.cons (.box (.cons rfl rfl (.any rfl) (.cons rfl rfl (.any rfl) (.cons rfl rfl (.any rfl) (.cons rfl rfl (.any rfl) (.cons rfl rfl (.any rfl) (.cons rfl rfl (.any rfl) (.cons rfl rfl (.any rfl) (.cons rfl rfl (.any rfl) (.cons rfl rfl (.any rfl) (.cons rfl rfl (.any rfl) (.cons rfl rfl (.any rfl) (.cons rfl rfl (.any rfl) (.cons rfl rfl (.any rfl) (.cons rfl rfl (.any rfl) (.cons rfl rfl .nil .nil)))))))))))))))) .nil) lookStmt_no rfl (lt rfl)) rfl rfl rfl rfl (lt rfl) ?_
          refine sq (f_pick rfl rfl (lt rfl)) rfl rfl ?_
          refine sq (f_move rfl (lt rfl)) rfl rfl ?_
          refine sq_yes (f_move rfl (lt rfl)) rfl rfl rfl rfl (lt rfl) ?_
          refine sq_yes (f_callQ [.cell 18 0, .cell 18 1, .cell 18 2, .cell 18 3, .cell 18 4, .cell 18 5, .cell 18 6, .cell 18 7, .cell 18 8, .cell 18 9, .cell 18 10, .cell 18 11, .cell 18 12, .cell 18 13, .cell 18 14, .cell 18 15] en108 rfl (.cons (.box (.cons rfl rfl (.any rfl) (.cons rfl rfl (.any rfl) (.cons rfl rfl (.any rfl) (.cons rfl rfl (.any rfl) (.cons rfl rfl (.any rfl) (.cons rfl rfl (.any rfl) (.cons rfl rfl (.any rfl) (.cons rfl rfl (.any rfl) (.cons rfl rfl (.any rfl) (.cons rfl rfl (.any rfl) (.cons rfl rfl (.any rfl) (.cons rfl rfl (.any rfl) (.cons rfl rfl (.any rfl) (.cons rfl rfl (.any rfl) (.cons rfl rfl (.any rfl) (.cons rfl rfl .nil .nil))))))))))))))))) .nil) lookState_no rfl (lt rfl)) rfl rfl rfl rfl (lt rfl) ?_
          refine sq (f_pick rfl rfl (lt rfl)) rfl rfl ?_
          refine sq (f_move rfl (lt rfl)) rfl rfl ?_
          refine sq_yes (f_move rfl (lt rfl)) rfl rfl rfl rfl (lt rfl) ?_
          refine sq_yes (f_callQ [.cell 18 0, .cell 18 1, .cell 18 2, .cell 18 3, .cell 18 4, .cell 18 5, .cell 18 6, .cell 18 7, .cell 18 8, .cell 18 9, .cell 18 10, .cell 18 11, .cell 18 12, .cell 18 13, .cell 18 14, .cell 18 15, .cell 18 16] en109 rfl (.cons (.box (.cons rfl rfl (.any rfl) (.cons rfl rfl (.any rfl) (.cons rfl rfl (.any rfl) (.cons rfl rfl (.any rfl) (.cons rfl rfl (.any rfl) (.cons rfl rfl (.any rfl) (.cons rfl rfl (.any rfl) (.cons rfl rfl (.any rfl) (.cons rfl rfl (.any rfl) (.cons rfl rfl (.any rfl) (.cons rfl rfl (.any rfl) (.cons rfl rfl (.any rfl) (.cons rfl rfl (.any rfl) (.cons rfl rfl (.any rfl) (.cons rfl rfl (.any rfl) (.cons rfl rfl (.any rfl) (.cons rfl rfl .nil .nil)))))))))))))))))) .nil) lookKey_no rfl (lt rfl)) rfl rfl rfl rfl (lt rfl) ?_
          refine sq (f_pick rfl rfl (lt rfl)) rfl rfl ?_
          refine sq (f_move rfl (lt rfl)) rfl rfl ?_
          refine sq_yes (f_move rfl (lt rfl)) rfl rfl rfl rfl (lt rfl) ?_
          refine sq_yes (f_callQ [.cell 18 0, .cell 18 1, .cell 18 2, .cell 18 3, .cell 18 4, .cell 18 5, .cell 18 6, .cell 18 7, .cell 18 8, .cell 18 9, .cell 18 10, .cell 18 11, .cell 18 12, .cell 18 13, .cell 18 14, .cell 18 15, .cell 18 16, .cell 18 17] en110 rfl (.cons (.box (.cons rfl rfl (.any rfl) (.cons rfl rfl (.any rfl) (.cons rfl rfl (.any rfl) (.cons rfl rfl (.any rfl) (.cons rfl rfl (.any rfl) (.cons rfl rfl (.any rfl) (.cons rfl rfl (.any rfl) (.cons rfl rfl (.any rfl) (.cons rfl rfl (.any rfl) (.cons rfl rfl (.any rfl) (.cons rfl rfl (.any rfl) (.cons rfl rfl (.any rfl) (.cons rfl rfl (.any rfl) (.cons rfl rfl (.any rfl) (.cons rfl rfl (.any rfl) (.cons rfl rfl (.any rfl) (.cons rfl rfl (.any rfl) (.cons rfl rfl .nil .nil))))))))))))))))))) .nil) lookDecl_no rfl (lt rfl)) rfl rfl rfl rfl (lt rfl) ?_
          refine sq (f_pick rfl rfl (lt rfl)) rfl rfl ?_
          refine sq (f_move rfl (lt rfl)) rfl rfl ?_
          refine sq_yes (f_move rfl (lt rfl)) rfl rfl rfl rfl (lt rfl) ?_
          refine sq_yes (f_callQ [.cell 18 0, .cell 18 1, .cell 18 2, .cell 18 3, .cell 18 4, .cell 18 5, .cell 18 6, .cell 18 7, .cell 18 8, .cell 18 9, .cell 18 10, .cell 18 11, .cell 18 12, .cell 18 13, .cell 18 14, .cell 18 15, .cell 18 16, .cell 18 17, .cell 18 18] en111 rfl (.cons (.box (.cons rfl rfl (.any rfl) (.cons rfl rfl (.any rfl) (.cons rfl rfl (.any rfl) (.cons rfl rfl (.any rfl) (.cons rfl rfl (.any rfl) (.cons rfl rfl (.any rfl) (.cons rfl rfl (.any rfl) (.cons rfl rfl (.any rfl) (.cons rfl rfl (.any rfl) (.cons rfl rfl (.any rfl) (.cons rfl rfl (.any rfl) (.cons rfl rfl (.any rfl) (.cons rfl rfl (.any rfl) (.cons rfl rfl (.any rfl) (.cons rfl rfl (.any rfl) (.cons rfl rfl (.any rfl) (.cons rfl rfl (.any rfl) (.cons rfl rfl (.any rfl) (.cons rfl rfl .nil .nil)))))))))))))))))))) .nil) lookEntry_no rfl (lt rfl)) rfl rfl rfl rfl (lt rfl) ?_
          refine sq (f_pick rfl rfl (lt rfl)) rfl rfl ?_
          refine sq (f_move rfl (lt rfl)) rfl rfl ?_
          refine sq_yes (f_move rfl (lt rfl)) rfl rfl rfl rfl (lt rfl) ?_
          refine sq_yes (f_callQ [.cell 18 0, .cell 18 1, .cell 18 2, .cell 18 3, .cell 18 4, .cell 18 5, .cell 18 6, .cell 18 7, .cell 18 8, .cell 18 9, .cell 18 10, .cell 18 11, .cell 18 12, .cell 18 13, .cell 18 14, .cell 18 15, .cell 18 16, .cell 18 17, .cell 18 18, .cell 18 19] en112 rfl (.cons (.box (.cons rfl rfl (.any rfl) (.cons rfl rfl (.any rfl) (.cons rfl rfl (.any rfl) (.cons rfl rfl (.any rfl) (.cons rfl rfl (.any rfl) (.cons rfl rfl (.any rfl) (.cons rfl rfl (.any rfl) (.cons rfl rfl (.any rfl) (.cons rfl rfl (.any rfl) (.cons rfl rfl (.any rfl) (.cons rfl rfl (.any rfl) (.cons rfl rfl (.any rfl) (.cons rfl rfl (.any rfl) (.cons rfl rfl (.any rfl) (.cons rfl rfl (.any rfl) (.cons rfl rfl (.any rfl) (.cons rfl rfl (.any rfl) (.cons rfl rfl (.any rfl) (.cons rfl rfl (.any rfl) (.cons rfl rfl .nil .nil))))))))))))))))))))) .nil) lookGroup_no rfl (lt rfl)) rfl rfl rfl rfl (lt rfl) ?_
          refine sq (f_pick rfl rfl (lt rfl)) rfl rfl ?_
          refine sq (f_move rfl (lt rfl)) rfl rfl ?_
          refine sq_yes (f_move rfl (lt rfl)) rfl rfl rfl rfl (lt rfl) ?_
          refine sq_yes (f_callQ [.cell 18 0, .cell 18 1, .cell 18 2, .cell 18 3, .cell 18 4, .cell 18 5, .cell 18 6, .cell 18 7, .cell 18 8, .cell 18 9, .cell 18 10, .cell 18 11, .cell 18 12, .cell 18 13, .cell 18 14, .cell 18 15, .cell 18 16, .cell 18 17, .cell 18 18, .cell 18 19, .cell 18 20] en113 rfl (.cons (.box (.cons rfl rfl (.any rfl) (.cons rfl rfl (.any rfl) (.cons rfl rfl (.any rfl) (.cons rfl rfl (.any rfl) (.cons rfl rfl (.any rfl) (.cons rfl rfl (.any rfl) (.cons rfl rfl (.any rfl) (.cons rfl rfl (.any rfl) (.cons rfl rfl (.any rfl) (.cons rfl rfl (.any rfl) (.cons rfl rfl (.any rfl) (.cons rfl rfl (.any rfl) (.cons rfl rfl (.any rfl) (.cons rfl rfl (.any rfl) (.cons rfl rfl (.any rfl) (.cons rfl rfl (.any rfl) (.cons rfl rfl (.any rfl) (.cons rfl rfl (.any rfl) (.cons rfl rfl (.any rfl) (.cons rfl rfl (.any rfl) (.cons rfl rfl .nil .nil)))))))))))))))))))))) .nil) lookHead_no rfl (lt rfl)) rfl rfl rfl rfl (lt rfl) ?_
          refine sq (f_pick rfl rfl (lt rfl)) rfl rfl ?_
          refine sq (f_move rfl (lt rfl)) rfl rfl ?_
          refine sq_yes (f_move rfl (lt rfl)) rfl rfl rfl rfl (lt rfl) ?_
          refine sq_yes (f_callQ [.cell 18 0, .cell 18 1, .cell 18 2, .cell 18 3, .cell 18 4, .cell 18 5, .cell 18 6, .cell 18 7, .cell 18 8, .cell 18 9, .cell 18 10, .cell 18 11, .cell 18 12, .cell 18 13, .cell 18 14, .cell 18 15, .cell 18 16, .cell 18 17, .cell 18 18, .cell 18 19, .cell 18 20, .cell 18 21] en114 rfl (.cons (.box (.cons rfl rfl (.any rfl) (.cons rfl rfl (.any rfl) (.cons rfl rfl (.any rfl) (.cons rfl rfl (.any rfl) (.cons rfl rfl (.any rfl) (.cons rfl rfl (.any rfl) (.cons rfl rfl (.any rfl) (.cons rfl rfl (.any rfl) (.cons rfl rfl (.any rfl) (.cons rfl rfl (.any rfl) (.cons rfl rfl (.any rfl) (.cons rfl rfl (.any rfl) (.cons rfl rfl (.any rfl) (.cons rfl rfl (.any rfl) (.cons rfl rfl (.any rfl) (.cons rfl rfl (.any rfl) (.cons rfl rfl (.any rfl) (.cons rfl rfl (.any rfl) (.cons rfl rfl (.any rfl) (.cons rfl rfl (.any rfl) (.cons rfl rfl (.any rfl) (.cons rfl rfl .nil .nil))))))))))))))))))))))) .nil) lookNode_no rfl (lt rfl)) rfl rfl rfl rfl (lt rfl) ?_
          refine sq (f_pick rfl rfl (lt rfl)) rfl rfl ?_
          refine sq (f_move rfl (lt rfl)) rfl rfl ?_
          refine sq_yes (f_move rfl (lt rfl)) rfl rfl rfl rfl (lt rfl) ?_
          refine sq_yes (f_callQ [.cell 18 0, .cell 18 1, .cell 18 2, .cell 18 3, .cell 18 4, .cell 18 5, .cell 18 6, .cell 18 7, .cell 18 8, .cell 18 9, .cell 18 10, .cell 18 11, .cell 18 12, .cell 18 13, .cell 18 14, .cell 18 15, .cell 18 16, .cell 18 17, .cell 18 18, .cell 18 19, .cell 18 20, .cell 18 21, .cell 18 22] en115 rfl (.cons (.box (.cons rfl rfl (.any rfl) (.cons rfl rfl (.any rfl) (.cons rfl rfl (.any rfl) (.cons rfl rfl (.any rfl) (.cons rfl rfl (.any rfl) (.cons rfl rfl (.any rfl) (.cons rfl rfl (.any rfl) (.cons rfl rfl (.any rfl) (.cons rfl rfl (.any rfl) (.cons rfl rfl (.any rfl) (.cons rfl rfl (.any rfl) (.cons rfl rfl (.any rfl) (.cons rfl rfl (.any rfl) (.cons rfl rfl (.any rfl) (.cons rfl rfl (.any rfl) (.cons rfl rfl (.any rfl) (.cons rfl rfl (.any rfl) (.cons rfl rfl (.any rfl) (.cons rfl rfl (.any rfl) (.cons rfl rfl (.any rfl) (.cons rfl rfl (.any rfl) (.cons rfl rfl (.any rfl) (.cons rfl rfl .nil .nil)))))))))))))))))))))))) .nil) lookAct_no rfl (lt rfl)) rfl rfl rfl rfl (lt rfl) ?_
          refine sq (f_pick rfl rfl (lt rfl)) rfl rfl ?_
          refine sq (f_move rfl (lt rfl)) rfl rfl ?_
          refine sq_yes (f_move rfl (lt rfl)) rfl rfl rfl rfl (lt rfl) ?_
          refine sq_yes (f_callQ [.cell 18 0, .cell 18 1, .cell 18 2, .cell 18 3, .cell 18 4, .cell 18 5, .cell 18 6, .cell 18 7, .cell 18 8, .cell 18 9, .cell 18 10, .cell 18 11, .cell 18 12, .cell 18 13, .cell 18 14, .cell 18 15, .cell 18 16, .cell 18 17, .cell 18 18, .cell 18 19, .cell 18 20, .cell 18 21, .cell 18 22, .cell 18 23] en116 rfl (.cons (.box (.cons rfl rfl (.any rfl) (.cons rfl rfl (.any rfl) (.cons rfl rfl (.any rfl) (.cons rfl rfl (.any rfl) (.cons rfl rfl (.any rfl) (.cons rfl rfl (.any rfl) (.cons rfl rfl (.any rfl) (.cons rfl rfl (.any rfl) (.cons rfl rfl (.any rfl) (.cons rfl rfl (.any rfl) (.cons rfl rfl (.any rfl) (.cons rfl rfl (.any rfl) (.cons rfl rfl (.any rfl) (.cons rfl rfl (.any rfl) (.cons rfl rfl (.any rfl) (.cons rfl rfl (.any rfl) (.cons rfl rfl (.any rfl) (.cons rfl rfl (.any rfl) (.cons rfl rfl (.any rfl) (.cons rfl rfl (.any rfl) (.cons rfl rfl (.any rfl) (.cons rfl rfl (.any rfl) (.cons rfl rfl (.any rfl) (.cons rfl rfl .nil .nil))))))))))))))))))))))))) .nil) lookTable_no rfl (lt rfl)) rfl rfl rfl rfl (lt rfl) ?_
          refine sq (f_pick rfl rfl (lt rfl)) rfl rfl ?_
          refine sq (f_move rfl (lt rfl)) rfl rfl ?_
          refine sq_yes (f_move rfl (lt rfl)) rfl rfl rfl rfl (lt rfl) ?_
          refine sq_yes (f_callQ [.cell 18 0, .cell 18 1, .cell 18 2, .cell 18 3, .cell 18 4, .cell 18 5, .cell 18 6, .cell 18 7, .cell 18 8, .cell 18 9, .cell 18 10, .cell 18 11, .cell 18 12, .cell 18 13, .cell 18 14, .cell 18 15, .cell 18 16, .cell 18 17, .cell 18 18, .cell 18 19, .cell 18 20, .cell 18 21, .cell 18 22, .cell 18 23, .cell 18 24] en117 rfl (.cons (.box (.cons rfl rfl (.any rfl) (.cons rfl rfl (.any rfl) (.cons rfl rfl (.any rfl) (.cons rfl rfl (.any rfl) (.cons rfl rfl (.any rfl) (.cons rfl rfl (.any rfl) (.cons rfl rfl (.any rfl) (.cons rfl rfl (.any rfl) (.cons rfl rfl (.any rfl) (.cons rfl rfl (.any rfl) (.cons rfl rfl (.any rfl) (.cons rfl rfl (.any rfl) (.cons rfl rfl (.any rfl) (.cons rfl rfl (.any rfl) (.cons rfl rfl (.any rfl) (.cons rfl rfl (.any rfl) (.cons rfl rfl (.any rfl) (.cons rfl rfl (.any rfl) (.cons rfl rfl (.any rfl) (.cons rfl rfl (.any rfl) (.cons rfl rfl (.any rfl) (.cons rfl rfl (.any rfl) (.cons rfl rfl (.any rfl) (.cons rfl rfl (.any rfl) (.cons rfl rfl .nil .nil)))))))))))))))))))))))))) .nil) lookIns_no rfl (lt rfl)) rfl rfl rfl rfl (lt rfl) ?_
          refine sq (f_pick rfl rfl (lt rfl)) rfl rfl ?_
          refine sq (f_move rfl (lt rfl)) rfl rfl ?_
          refine sq_yes (f_move rfl (lt rfl)) rfl rfl rfl rfl (lt rfl) ?_
          refine sq_yes (f_callQ [.cell 18 0, .cell 18 1, .cell 18 2, .cell 18 3, .cell 18 4, .cell 18 5, .cell 18 6, .cell 18 7, .cell 18 8, .cell 18 9, .cell 18 10, .cell 18 11, .cell 18 12, .cell 18 13, .cell 18 14, .cell 18 15, .cell 18 16, .cell 18 17, .cell 18 18, .cell 18 19, .cell 18 20, .cell 18 21, .cell 18 22, .cell 18 23, .cell 18 24, .cell 18 25] en118 rfl (.cons (.box (.cons rfl rfl (.any rfl) (.cons rfl rfl (.any rfl) (.cons rfl rfl (.any rfl) (.cons rfl rfl (.any rfl) (.cons rfl rfl (.any rfl) (.cons rfl rfl (.any rfl) (.cons rfl rfl (.any rfl) (.cons rfl rfl (.any rfl) (.cons rfl rfl (.any rfl) (.cons rfl rfl (.any rfl) (.cons rfl rfl (.any rfl) (.cons rfl rfl (.any rfl) (.cons rfl rfl (.any rfl) (.cons rfl rfl (.any rfl) (.cons rfl rfl (.any rfl) (.cons rfl rfl (.any rfl) (.cons rfl rfl (.any rfl) (.cons rfl rfl (.any rfl) (.cons rfl rfl (.any rfl) (.cons rfl rfl (.any rfl) (.cons rfl rfl (.any rfl) (.cons rfl rfl (.any rfl) (.cons rfl rfl (.any rfl) (.cons rfl rfl (.any rfl) (.cons rfl rfl (.any rfl) (.cons rfl rfl .nil .nil))))))))))))))))))))))))))) .nil) lookEffect_no rfl (lt rfl)) rfl rfl rfl rfl (lt rfl) ?_
          refine sq (f_pick rfl rfl (lt rfl)) rfl rfl ?_
          refine sq (f_move rfl (lt rfl)) rfl rfl ?_
          refine sq_yes (f_move rfl (lt rfl)) rfl rfl rfl rfl (lt rfl) ?_
          refine sq_yes (f_callQ [.cell 18 0, .cell 18 1, .cell 18 2, .cell 18 3, .cell 18 4, .cell 18 5, .cell 18 6, .cell 18 7, .cell 18 8, .cell 18 9, .cell 18 10, .cell 18 11, .cell 18 12, .cell 18 13, .cell 18 14, .cell 18 15, .cell 18 16, .cell 18 17, .cell 18 18, .cell 18 19, .cell 18 20, .cell 18 21, .cell 18 22, .cell 18 23, .cell 18 24, .cell 18 25, .cell 18 26] en119 rfl (.cons (.box (.cons rfl rfl (.any rfl) (.cons rfl rfl (.any rfl) (.cons rfl rfl (.any rfl) (.cons rfl rfl (.any rfl) (.cons rfl rfl (.any rfl) (.cons rfl rfl (.any rfl) (.cons rfl rfl (.any rfl) (.cons rfl rfl (.any rfl) (.cons rfl rfl (.any rfl) (.cons rfl rfl (.any rfl) (.cons rfl rfl (.any rfl) (.cons rfl rfl (.any rfl) (.cons rfl rfl (.any rfl) (.cons rfl rfl (.any rfl) (.cons rfl rfl (.any rfl) (.cons rfl rfl (.any rfl) (.cons rfl rfl (.any rfl) (.cons rfl rfl (.any rfl) (.cons rfl rfl (.any rfl) (.cons rfl rfl (.any rfl) (.cons rfl rfl (.any rfl) (.cons rfl rfl (.any rfl) (.cons rfl rfl (.any rfl) (.cons rfl rfl (.any rfl) (.cons rfl rfl (.any rfl) (.cons rfl rfl (.any rfl) (.cons rfl rfl .nil .nil)))))))))))))))))))))))))))) .nil) lookUpdate_no rfl (lt rfl)) rfl rfl rfl rfl (lt rfl) ?_
          refine sq (f_pick rfl rfl (lt rfl)) rfl rfl ?_
          refine sq (f_move rfl (lt rfl)) rfl rfl ?_
          refine sq_yes (f_move rfl (lt rfl)) rfl rfl rfl rfl (lt rfl) ?_
          refine sq_yes (f_callQ [.cell 18 0, .cell 18 1, .cell 18 2, .cell 18 3, .cell 18 4, .cell 18 5, .cell 18 6, .cell 18 7, .cell 18 8, .cell 18 9, .cell 18 10, .cell 18 11, .cell 18 12, .cell 18 13, .cell 18 14, .cell 18 15, .cell 18 16, .cell 18 17, .cell 18 18, .cell 18 19, .cell 18 20, .cell 18 21, .cell 18 22, .cell 18 23, .cell 18 24, .cell 18 25, .cell 18 26, .cell 18 27] en120 rfl (.cons (.box (.cons rfl rfl (.any rfl) (.cons rfl rfl (.any rfl) (.cons rfl rfl (.any rfl) (.cons rfl rfl (.any rfl) (.cons rfl rfl (.any rfl) (.cons rfl rfl (.any rfl) (.cons rfl rfl (.any rfl) (.cons rfl rfl (.any rfl) (.cons rfl rfl (.any rfl) (.cons rfl rfl (.any rfl) (.cons rfl rfl (.any rfl) (.cons rfl rfl (.any rfl) (.cons rfl rfl (.any rfl) (.cons rfl rfl (.any rfl) (.cons rfl rfl (.any rfl) (.cons rfl rfl (.any rfl) (.cons rfl rfl (.any rfl) (.cons rfl rfl (.any rfl) (.cons rfl rfl (.any rfl) (.cons rfl rfl (.any rfl) (.cons rfl rfl (.any rfl) (.cons rfl rfl (.any rfl) (.cons rfl rfl (.any rfl) (.cons rfl rfl (.any rfl) (.cons rfl rfl (.any rfl) (.cons rfl rfl (.any rfl) (.cons rfl rfl (.any rfl) (.cons rfl rfl .nil .nil))))))))))))))))))))))))))))) .nil) lookEvent_no rfl (lt rfl)) rfl rfl rfl rfl (lt rfl) ?_
          refine sq (f_pick rfl rfl (lt rfl)) rfl rfl ?_
          refine sq (f_move rfl (lt rfl)) rfl rfl ?_
          refine sq_yes (f_move rfl (lt rfl)) rfl rfl rfl rfl (lt rfl) ?_
          refine sq_yes (f_callQ [.cell 18 0, .cell 18 1, .cell 18 2, .cell 18 3, .cell 18 4, .cell 18 5, .cell 18 6, .cell 18 7, .cell 18 8, .cell 18 9, .cell 18 10, .cell 18 11, .cell 18 12, .cell 18 13, .cell 18 14, .cell 18 15, .cell 18 16, .cell 18 17, .cell 18 18, .cell 18 19, .cell 18 20, .cell 18 21, .cell 18 22, .cell 18 23, .cell 18 24, .cell 18 25, .cell 18 26, .cell 18 27, .cell 18 28] en121 rfl (.cons (.box (.cons rfl rfl (.any rfl) (.cons rfl rfl (.any rfl) (.cons rfl rfl (.any rfl) (.cons rfl rfl (.any rfl) (.cons rfl rfl (.any rfl) (.cons rfl rfl (.any rfl) (.cons rfl rfl (.any rfl) (.cons rfl rfl (.any rfl) (.cons rfl rfl (.any rfl) (.cons rfl rfl (.any rfl) (.cons rfl rfl (.any rfl) (.cons rfl rfl (.any rfl) (.cons rfl rfl (.any rfl) (.cons rfl rfl (.any rfl) (.cons rfl rfl (.any rfl) (.cons rfl rfl (.any rfl) (.cons rfl rfl (.any rfl) (.cons rfl rfl (.any rfl) (.cons rfl rfl (.any rfl) (.cons rfl rfl (.any rfl) (.cons rfl rfl (.any rfl) (.cons rfl rfl (.any rfl) (.cons rfl rfl (.any rfl) (.cons rfl rfl (.any rfl) (.cons rfl rfl (.any rfl) (.cons rfl rfl (.any rfl) (.cons rfl rfl (.any rfl) (.cons rfl rfl (.any rfl) (.cons rfl rfl .nil .nil)))))))))))))))))))))))))))))) .nil) lookOut_no rfl (lt rfl)) rfl rfl rfl rfl (lt rfl) ?_
          refine sq (f_pick rfl rfl (lt rfl)) rfl rfl ?_
          refine sq (f_move rfl (lt rfl)) rfl rfl ?_
          refine sq_yes (f_move rfl (lt rfl)) rfl rfl rfl rfl (lt rfl) ?_
          refine sq_yes (f_callQ [.cell 18 0, .cell 18 1, .cell 18 2, .cell 18 3, .cell 18 4, .cell 18 5, .cell 18 6, .cell 18 7, .cell 18 8, .cell 18 9, .cell 18 10, .cell 18 11, .cell 18 12, .cell 18 13, .cell 18 14, .cell 18 15, .cell 18 16, .cell 18 17, .cell 18 18, .cell 18 19, .cell 18 20, .cell 18 21, .cell 18 22, .cell 18 23, .cell 18 24, .cell 18 25, .cell 18 26, .cell 18 27, .cell 18 28, .cell 18 29] en122 rfl (.cons (.box (.cons rfl rfl (.any rfl) (.cons rfl rfl (.any rfl) (.cons rfl rfl (.any rfl) (.cons rfl rfl (.any rfl) (.cons rfl rfl (.any rfl) (.cons rfl rfl (.any rfl) (.cons rfl rfl (.any rfl) (.cons rfl rfl (.any rfl) (.cons rfl rfl (.any rfl) (.cons rfl rfl (.any rfl) (.cons rfl rfl (.any rfl) (.cons rfl rfl (.any rfl) (.cons rfl rfl (.any rfl) (.cons rfl rfl (.any rfl) (.cons rfl rfl (.any rfl) (.cons rfl rfl (.any rfl) (.cons rfl rfl (.any rfl) (.cons rfl rfl (.any rfl) (.cons rfl rfl (.any rfl) (.cons rfl rfl (.any rfl) (.cons rfl rfl (.any rfl) (.cons rfl rfl (.any rfl) (.cons rfl rfl (.any rfl) (.cons rfl rfl (.any rfl) (.cons rfl rfl (.any rfl) (.cons rfl rfl (.any rfl) (.cons rfl rfl (.any rfl) (.cons rfl rfl (.any rfl) (.cons rfl rfl (.any rfl) (.cons rfl rfl .nil .nil))))))))))))))))))))))))))))))) .nil) lookRow_no rfl (lt rfl)) rfl rfl rfl rfl (lt rfl) ?_
          refine sq (f_pick rfl rfl (lt rfl)) rfl rfl ?_
          refine sq (f_move rfl (lt rfl)) rfl rfl ?_
          refine sq_yes (f_move rfl (lt rfl)) rfl rfl rfl rfl (lt rfl) ?_
          refine sq_yes (f_callQ [.cell 18 0, .cell 18 1, .cell 18 2, .cell 18 3, .cell 18 4, .cell 18 5, .cell 18 6, .cell 18 7, .cell 18 8, .cell 18 9, .cell 18 10, .cell 18 11, .cell 18 12, .cell 18 13, .cell 18 14, .cell 18 15, .cell 18 16, .cell 18 17, .cell 18 18, .cell 18 19, .cell 18 20, .cell 18 21, .cell 18 22, .cell 18 23, .cell 18 24, .cell 18 25, .cell 18 26, .cell 18 27, .cell 18 28, .cell 18 29, .cell 18 30] en123 rfl (.cons (.box (.cons rfl rfl (.any rfl) (.cons rfl rfl (.any rfl) (.cons rfl rfl (.any rfl) (.cons rfl rfl (.any rfl) (.cons rfl rfl (.any rfl) (.cons rfl rfl (.any rfl) (.cons rfl rfl (.any rfl) (.cons rfl rfl (.any rfl) (.cons rfl rfl (.any rfl) (.cons rfl rfl (.any rfl) (.cons rfl rfl (.any rfl) (.cons rfl rfl (.any rfl) (.cons rfl rfl (.any rfl) (.cons rfl rfl (.any rfl) (.cons rfl rfl (.any rfl) (.cons rfl rfl (.any rfl) (.cons rfl rfl (.any rfl) (.cons rfl rfl (.any rfl) (.cons rfl rfl (.any rfl) (.cons rfl rfl (.any rfl) (.cons rfl rfl (.any rfl) (.cons rfl rfl (.any rfl) (.cons rfl rfl (.any rfl) (.cons rfl rfl (.any rfl) (.cons rfl rfl (.any rfl) (.cons rfl rfl (.any rfl) (.cons rfl rfl (.any rfl) (.cons rfl rfl (.any rfl) (.cons rfl rfl (.any rfl) (.cons rfl rfl (.any rfl) (.cons rfl rfl .nil .nil)))))))))))))))))))))))))))))))) .nil) lookArray_no rfl (lt rfl)) rfl rfl rfl rfl (lt rfl) ?_
          refine sq (f_pick rfl rfl (lt rfl)) rfl rfl ?_
          refine sq (f_assign rfl (lt rfl)) rfl rfl ?_
          refine hits_nil ?_
          refine to_next ?_
          refine hits_ret ?_
          refine hits_back (.inl rfl) ha5 hd5 rfl rfl (lt rfl) rfl ?_
          refine sq (f_assign rfl (lt rfl)) rfl rfl ?_
          refine hits_nil ?_
          refine to_next ?_
          refine hits_ret ?_
          exact hits_done (.inl rfl) rfl rfl rfl

set_option maxRecDepth 100000 in
theorem bitsbytes_far {a0 a1 a2 w : Int} {q : List Int} (hq : 1048576 < q.length) (hq2 : q.length ≤ 9223372036854775807) : CallsP Tryz.prog Tt 3 [.agg [.sc (.int .i64 a0), .sc (.int .u64 a1), .sc (.int .u64 a2)], .sc (.int .i64 w), .list 1 (q.map byteD)] (.sc (.bool true)) := by
  have hbe := beyond_yes (n := (q.map byteD).length) (by rw [List.length_map]; exact hq) (by rw [List.length_map]; exact hq2)
  refine callsP_of gs_tt Tryz.func3 rfl Tryz.ntmps3 rfl fun w0 S0 stab => ?_
  refine hits_seq ?_
  refine hits_region ?_
  refine sq (f_box rfl rfl (lt rfl)) rfl rfl ?_
  refine sq (f_assign rfl (lt rfl)) rfl rfl ?_
  refine hits_nil ?_
  refine to_next ?_
  refine hits_seq ?_
  refine hits_seq ?_
  refine hits_region ?_
  refine sq (f_move rfl (lt rfl)) rfl rfl ?_
  refine sq (f_lenList rfl rfl un25 (lt rfl)) rfl rfl ?_
  refine sq (f_buildSlice sk85 rfl rfl rfl rfl rfl rfl (by decide) (by decide) (lt rfl)) rfl rfl ?_
  refine sq (f_call en8 rfl hbe (lt rfl)) rfl rfl ?_
  refine hits_nil ?_
  refine to_next ?_
  refine hits_cond rfl (fun c0 => ?_) (fun c0 => absurd c0 Bool.false_ne_true.symm)
  refine hits_seq ?_
  refine hits_region ?_
  refine sq (f_assign rfl (lt rfl)) rfl rfl ?_
  refine hits_nil ?_
  refine to_next ?_
  refine hits_ret ?_
  refine to_ret ?_
  exact hits_done (.inl rfl) rfl rfl rfl

end Go.Proofs.YtcaedggggkchiaaGreatDoor.Ln
