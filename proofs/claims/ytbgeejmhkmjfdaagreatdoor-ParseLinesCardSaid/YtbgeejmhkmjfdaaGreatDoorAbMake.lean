/- Structs and lists made of parts. No program. -/
import Derived.Test.YtbgeejmhkmjfdaaGreatDoorAbCode
namespace Go.Ab
open Go Go.RowKit
set_option linter.unusedVariables false
set_option linter.unusedSimpArgs false
variable {P : Program} {E : Env} {st : St} {G : Gh} {a : Act} {w : World}
variable {d : Nat} {ty : TypeId} {pos : String} {af : Array Edge} {g : Option (Nat × Bool)} {x y z : Operand}
def evP (st : St) : List (Nat × Operand) → Option (List (Nat × D))
  | [] => some []
  | (i, x) :: r => match ev st x, evP st r with
    | some (.d q), some l => some ((i, q) :: l)
    | some (.own _ es q), some l => some ((i, .list es q) :: l)
    | _, _ => none
def RelPs (S : Stab) : List (Nat × D) → List (Nat × Value) → Prop
  | [], [] => True
  | (i, q) :: l, (j, u) :: r => i = j ∧ Rel S q u ∧ RelPs S l r
  | _, _ => False
theorem Sim.evP (h : Sim E st G a w) : ∀ {xs : List (Nat × Operand)} {ps : List (Nat × D)}, Ab.evP st xs = some ps → RelPs G.S ps (xs.map fun p => (p.1, a.eval p.2))
  | [], ps, he => by obtain rfl := Option.some.inj he; exact trivial
  | (i, x) :: r, ps, he => by
    unfold Ab.evP at he
    cases hx : Ab.ev st x with
    | none => rw [hx] at he; cases he
    | some v =>
      cases hr : Ab.evP st r with
      | none => rw [hx, hr] at he; cases v <;> cases he
      | some l =>
        rw [hx, hr] at he
        have h1 := h.ev hx
        have h2 := Sim.evP h hr
        cases v with
        | d q => obtain rfl := Option.some.inj he; exact ⟨rfl, h1, h2⟩
        | own id es q => obtain rfl := Option.some.inj he; exact ⟨rfl, relV_own h1, h2⟩
        | _ => cases he
theorem evP_same {st st0 : St} {L : List Loc} (hL : ∀ l ∈ L, look st l = look st0 l) : ∀ {xs : List (Nat × Operand)}, (∀ l ∈ evsL (xs.map (·.2)), l ∈ L) → evP st xs = evP st0 xs
  | [], _ => rfl
  | (i, x) :: r, hx => by
    unfold evP
    rw [ev_same hL (fun l hl => hx l (by simp [evsL, hl])), evP_same hL (xs := r) (fun l hl => hx l (by simp only [List.map_cons, evsL, List.flatMap_cons, List.mem_append]; exact .inr hl))]
def setL {α : Type} (l : List α) (o : Nat) (us : List α) : List α := l.take o ++ us ++ l.drop (o + us.length)
def D.plain : D → Bool
  | .sc (.agg _) => false
  | _ => true
def fillD (place : Nat → Option (Nat × Nat)) (cells : List D) : List (Nat × D) → Option (List D)
  | [] => some cells
  | (i, q) :: r => match place i with
    | some (off, size) => match q.cells.length == size && Nat.ble (off + size) cells.length && q.plain with
      | true => fillD place (setL cells off q.cells) r
      | false => none
    | none => none
theorem foldl_set (us : List Value) : ∀ (k off : Nat) (cs : Array Value), off + k + us.length ≤ cs.size →
    (us.zipIdx k).foldl (fun cs (p : Value × Nat) => cs.setIfInBounds (off + p.2) p.1) cs = (setL cs.toList (off + k) us).toArray := by
  induction us with
  | nil => intro k off cs _; simp [setL]
  | cons u us ih =>
    intro k off cs h
    simp only [List.zipIdx_cons, List.foldl_cons]
    rw [ih (k + 1) off _ (by simp at h ⊢; omega)]
    congr 1
    have := list_seg_step cs.toList (off + k) u us (by simp at h ⊢; omega)
    simpa [setL, Nat.add_assoc] using this
theorem relL_drop {S : Stab} : ∀ {l : List D} {us : List Value} (n : Nat), RelL S l us → RelL S (l.drop n) (us.drop n)
  | _, _, 0, h => h
  | [], [], n + 1, _ => .nil
  | _ :: _, _ :: _, n + 1, .cons _ h => relL_drop n h
theorem rel_cells {S : Stab} {q : D} {u : Value} (h : Rel S q u) (hq : q.plain = true) : RelL S q.cells u.cells.toList := by
  cases h with
  | sc _ => cases u <;> first | (cases hq; done) | exact .cons (.sc _) .nil
  | agg hl => exact hl
  | tup hl => exact .cons (.tup hl) .nil
  | list hc he => exact .cons (.list hc he) .nil
  | lnil => exact .cons .lnil .nil
  | eptr hp => exact .cons (.eptr hp) .nil
  | any hc => cases u <;> first | exact .cons (.any hc) .nil | (simp [Value.oneCell'] at hc)
  | ifc hd => exact .cons (.ifc hd) .nil
  | room hc he => exact .cons (.room hc he) .nil
  | clo hl => exact .cons (.clo hl) .nil
theorem fill_rel {S : Stab} {place : Nat → Option (Nat × Nat)} : ∀ {ps : List (Nat × D)} {us : List (Nat × Value)} {cells l : List D} {cs : List Value}, RelPs S ps us → RelL S cells cs → fillD place cells ps = some l →
    ∃ vs : List Value, Instr.fill place ⟨cs⟩ us = some ⟨vs⟩ ∧ RelL S l vs
  | [], [], cells, l, cs, _, hc, h => by obtain rfl := Option.some.inj h; exact ⟨cs, rfl, hc⟩
  | (i, q) :: ps, (j, u) :: us, cells, l, cs, ⟨hij, hq, hr⟩, hc, h => by
    subst hij
    simp only [fillD] at h
    split at h
    · rename_i off size hpl
      split at h
      · rename_i hcond
        simp only [Bool.and_eq_true, beq_iff_eq] at hcond
        obtain ⟨⟨h1, h2⟩, h3⟩ := hcond
        have h2' : off + size ≤ cells.length := Nat.le_of_ble_eq_true h2
        have h4 := rel_cells hq h3
        have h5 := relL_length h4
        have h6 := relL_length hc
        have hsz : u.cells.size = size := by rw [← h1, h5]; simp
        have hnext : RelL S (setL cells off q.cells) (setL cs off u.cells.toList) := by
          unfold setL
          rw [h5]
          exact relL_append (relL_append (relL_take _ hc) h4) (relL_drop _ hc)
        obtain ⟨vs, hv1, hv2⟩ := fill_rel hr hnext h
        refine ⟨vs, ?_, hv2⟩
        simp only [Instr.fill, hpl]
        rw [if_neg]
        · have e := foldl_set u.cells.toList 0 off ⟨cs⟩ (by simp [hsz]; omega)
          rw [Nat.add_zero] at e
          have e2 : u.cells.zipIdx.foldl (fun cs (p : Value × Nat) => cs.setIfInBounds (off + p.2) p.1) (⟨cs⟩ : Array Value) = ⟨setL cs off u.cells.toList⟩ := by
            rw [← Array.foldl_toList, Array.toList_zipIdx]; exact e
          rw [← hv1]
          congr 1
        · simp [hsz]; omega
      · cases h
    · cases h
  | [], _ :: _, _, _, _, h, _, _ => h.elim
  | _ :: _, [], _, _, _, h, _, _ => h.elim
def bk (P : Program) (t : TypeId) : Option (List (Nat × Nat) × List Value) :=
  match P.underlying t, zc P t with
  | some (.struct fs), some zs => match fs.toList.mapM fun f => (P.info? f.type).map fun i => (f.offset, i.size) with
    | some pl => some (pl, zs)
    | none => none
  | _, _ => none
theorem run_places {w : World} : ∀ {fs : List Field} {pl : List (Nat × Nat)}, (fs.mapM fun f => (P.info? f.type).map fun i => (f.offset, i.size)) = some pl →
    (fs.mapM fun (f : Field) => (do pure (f.offset, ← sizeOf f.type) : Sem (Nat × Nat))).run P w = .ok pl w
  | [], pl, h => by simp at h; subst h; rfl
  | f :: fs, pl, h => by
    simp only [List.mapM_cons, Option.bind_eq_bind] at h
    cases hi : P.info? f.type with
    | none => simp [hi] at h
    | some i =>
      cases hr : fs.mapM fun f => (P.info? f.type).map fun i => (f.offset, i.size) with
      | none => simp [hi, hr] at h
      | some q =>
        simp [hi, hr] at h
        subst h
        have ih := run_places (w := w) hr
        simp only [List.mapM_cons, Sem.run_bind, sizeOf, run_typeInfo w hi, Result.andThen_ok, Sem.run_pure]
        simp only [sizeOf, Sem.run_bind, Sem.run_pure] at ih
        rw [ih]
        rfl
theorem relL_scs (S : Stab) : ∀ zs : List Value, RelL S (zs.map .sc) zs
  | [] => .nil
  | z :: zs => .cons (.sc z) (relL_scs S zs)
theorem f_build {t : TypeId} {parts : List (Nat × Operand)} {ps : List (Nat × D)} {pl : List (Nat × Nat)} {zs : List Value} {l : List D} (hb : bk P t = some (pl, zs)) (he : evP st parts = some ps) (hl : fillD (pl[·]?) (zs.map .sc) ps = some l) (hd : d < E.N) :
    FOk P E ⟨some d, .build t parts.toArray, ty, pos, af, g⟩ st (evsL (parts.map (·.2))) [] [(.slot d, some (.d (.agg l)))] :=
  fok_val rfl hd fun st' G a w hL hs => by
    have h1 := hs.evP ((evP_same hL fun l h => h).trans he)
    unfold bk at hb
    split at hb
    · rename_i fs zs' hu hz
      split at hb
      · rename_i pl' hpl
        obtain ⟨rfl, rfl⟩ := Prod.mk.inj (Option.some.inj hb)
        obtain ⟨z, hz1, hz2⟩ := zc_spec hz
        obtain ⟨vs, hv1, hv2⟩ := fill_rel h1 (relL_scs G.S zs') hl
        have hrp := run_places (P := P) (w := w) hpl
        refine ⟨.agg ⟨vs⟩, ?_, .agg hv2⟩
        have hpl2 : (fs.mapM fun (f : Field) => (do pure (f.offset, ← sizeOf f.type) : Sem (Nat × Nat))).run P w = .ok pl'.toArray w := by
          rw [Array.mapM_eq_mapM_toList, Sem.run_map, hrp]; rfl
        have hf : Instr.fill (fun i => pl'[i]?) (⟨zs'⟩ : Array Value) (parts.map fun p => (p.1, a.eval p.2)) = some ⟨vs⟩ := hv1
        simp only [execOp, Instr.build, Sem.run_bind, hz1, Result.andThen_ok, run_underlying hu, hz2, hpl2]
        simp [hf]
      · cases hb
    · cases hb
def fp (P : Program) (s : TypeId) (k : Nat) : Option (Nat × Bool × Nat) :=
  match P.underlying s with
  | some (.struct fs) => match fs[k]? with
    | some f => match kd P f.type with
      | some (b, n) => some (f.offset, b, n)
      | none => none
    | none => none
  | _ => none
def fpV (l : List D) : Nat × Bool × Nat → Option D
  | (off, true, n) => some (.agg ((l.drop off).take n))
  | (off, false, _) => l[off]?
theorem f_field {s : TypeId} {k : Nat} {o : Nat × Bool × Nat} {l : List D} {v : D} (hx : ev st x = some (.d (.agg l))) (hk : fp P s k = some o) (hv : fpV l o = some v) (hd : d < E.N) :
    FOk P E ⟨some d, .field s x k, ty, pos, af, g⟩ st (evL x) [] [(.slot d, some (.d v))] :=
  fok_val rfl hd fun st' G a w hL hs => by
    have e1 := hs.ev ((ev_same hL fun l h => h).trans hx)
    cases hc : a.eval x <;> rw [hc] at e1 <;> cases e1
    rename_i cs hl
    unfold fp at hk
    split at hk
    · rename_i fs hu
      split at hk
      · rename_i f hf
        split at hk
        · rename_i b n hkd
          obtain rfl := Option.some.inj hk
          obtain ⟨h1, h2, _⟩ := kd_spec hkd
          cases b with
          | true =>
            obtain rfl := Option.some.inj hv
            refine ⟨.agg ((⟨cs⟩ : Array Value).extract f.offset (f.offset + n)), by simp [execOp, hc, Instr.field, run_underlying hu, hf, part, h1, h2, asAgg], ?_⟩
            have e : ((⟨cs⟩ : Array Value).extract f.offset (f.offset + n)) = ⟨(cs.drop f.offset).take n⟩ := by
              apply Array.ext'
              simp [List.take_drop, Nat.add_comm]
            rw [e]
            exact .agg (relL_take _ (relL_drop _ hl))
          | false =>
            obtain ⟨u, hu2, hr⟩ := relL_getElem hl hv
            exact ⟨u, by simp [execOp, hc, Instr.field, run_underlying hu, hf, part, h1, asAgg, hu2], hr⟩
        · cases hk
      · cases hk
    · cases hk
def sk (P : Program) (t : TypeId) : Option (TypeId × Nat × List Value) :=
  match P.underlying t with
  | some (.slice e) => match P.info? e, zc P e with
    | some i, some zs => some (e, i.size, zs)
    | _, _ => none
  | _ => none
def snds : List (Nat × D) → List D
  | [] => []
  | p :: r => p.2 :: snds r
def zsn (zs : List Value) (n : Nat) : List Value := (List.range n).map fun i => zs[i % zs.length]!
theorem f_buildSlice {t e : TypeId} {n es : Nat} {zs : List Value} {parts : List (Nat × Operand)} {ps : List (Nat × D)} {l : List D} {ds : List D} (hk : sk P t = some (e, es, zs)) (he : evP st parts = some ps)
    (hl : fillD (fun i => some (i * es, es)) ((zsn zs (n * es)).map .sc) ps = some l) (hds0 : snds ps = ds) (hds : flat ds = l) (hn : Nat.beq ds.length n = true) (hc0 : (ds.all fun q => q.cells.length == es) = true) (hbig : n * es ≤ 16777216) (hpos : 0 < n * es) (hd : d < E.N) :
    FOk P E ⟨some d, .buildSlice t n parts.toArray, ty, pos, af, g⟩ st (evsL (parts.map (·.2))) [] [(.slot d, some (.d (.list es ds)))] :=
  fok_later rfl hd fun st' G a w hL hs => by
    have hn := Nat.eq_of_beq_eq_true hn
    have hc : ∀ q ∈ ds, q.cells.length = es := fun q hq => by have := List.all_eq_true.1 hc0 q hq; simpa using this
    have h1 := hs.evP ((evP_same hL fun l h => h).trans he)
    unfold sk at hk
    split at hk
    · rename_i e' hu
      split at hk
      · rename_i i zs' hi hz
        simp only [Option.some.injEq, Prod.mk.injEq] at hk
        obtain ⟨rfl, rfl, rfl⟩ := hk
        obtain ⟨zv, hz1, hz2⟩ := zc_spec hz
        obtain ⟨vs, hv1, hv2⟩ := fill_rel h1 (relL_scs G.S (zsn zs' (n * i.size))) hl
        have hlen := relL_length hv2
        have s1 := hs.row vs.length ⟨vs⟩ e' (0, 0) (Nat.le_refl _)
        have hb : Below w.heap.size w (w.alloc (.cells ⟨vs⟩ e')) := (Below.refl _ _).alloc (Nat.le_refl _) _
        have hle := hs.row_le vs.length (⟨vs⟩ : Array Value)
        refine ⟨.slice (some ⟨w.heap.size, 0, none⟩) n n, _, _, ?_, hb, hle, fun b o v hv => ?_, ?_⟩
        · have hze : ((Array.range (n * i.size)).map fun k => zv.cells[k % zv.cells.size]!) = ⟨zsn zs' (n * i.size)⟩ := by
            rw [hz2]
            apply Array.ext'
            simp [zsn]
          have hbig' : ¬ (2 ^ 24 < n * i.size) := by omega
          have hne : ¬ (n * i.size = 0) := by omega
          have hf : Instr.fill (fun k => some (k * i.size, i.size)) (⟨zsn zs' (n * i.size)⟩ : Array Value) (parts.map fun p => (p.1, a.eval p.2)) = some ⟨vs⟩ := hv1
          simp only [execOp, Instr.buildSlice, Sem.run_bind, run_underlying hu, Result.andThen_ok, sizeOf, run_typeInfo w hi, Sem.run_pure, gt_iff_lt, hbig', if_false, hne, hz1]
          simp only [hze]
          simp [hf, newRow]
        · unfold Stab.row at hv
          split at hv
          · rename_i hbb
            subst hbb
            split at hv
            · exact .inr ⟨Nat.le_refl _, by rw [cell_of_block (cs := ⟨vs⟩) (ty := e') (fr := (0, 0)) (by show (w.heap.push _)[w.heap.size]? = _; rw [Array.getElem?_push, if_pos rfl])]; exact hv⟩
            · cases hv
          · exact .inl hv
        · show Rel _ (.list i.size ds) _
          rw [← hn]
          refine .list (Nat.le_refl _) (relE_of hc ?_)
          rw [hds]
          refine relP_of (RelL.mono hle hv2) fun k u hku => ?_
          rw [Nat.zero_add]
          show Stab.row _ _ _ _ _ _ = _
          unfold Stab.row
          rw [if_pos rfl, if_pos (List.getElem?_eq_some_iff.1 hku).1]
          simpa using hku
      · cases hk
    · cases hk
theorem f_max {t1 t2 : TypeId} {k : IntKind} {p q : Int} (hx : ev st x = some (.d (.sc (.int k p)))) (hy : ev st y = some (.d (.sc (.int k q)))) (hd : d < E.N) :
    FOk P E ⟨some d, .call ⟨.builtin .max, #[x, y], #[t1, t2]⟩, ty, pos, af, g⟩ st (evL x ++ evL y) [] [(.slot d, some (.d (.sc (.int k (if q > p then q else p)))))] :=
  fok_val rfl hd fun st' G a w hL hs => by
    have e1 := hs.sc ((ev_same hL fun l h => mem_l h).trans hx)
    have e2 := hs.sc ((ev_same hL fun l h => mem_r h).trans hy)
    exact ⟨_, by simp [execOp, resolve, invoke, builtin, e1, e2, Builtin.max_, Builtin.max2], .sc _⟩
theorem f_min {t1 t2 : TypeId} {k : IntKind} {p q : Int} (hx : ev st x = some (.d (.sc (.int k p)))) (hy : ev st y = some (.d (.sc (.int k q)))) (hd : d < E.N) :
    FOk P E ⟨some d, .call ⟨.builtin .min, #[x, y], #[t1, t2]⟩, ty, pos, af, g⟩ st (evL x ++ evL y) [] [(.slot d, some (.d (.sc (.int k (if q < p then q else p)))))] :=
  fok_val rfl hd fun st' G a w hL hs => by
    have e1 := hs.sc ((ev_same hL fun l h => mem_l h).trans hx)
    have e2 := hs.sc ((ev_same hL fun l h => mem_r h).trans hy)
    exact ⟨_, by simp [execOp, resolve, invoke, builtin, e1, e2, Builtin.min_, Builtin.min2], .sc _⟩
end Go.Ab
