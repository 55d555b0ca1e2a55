/- States that say less; literals of slices and structs; cuts. -/
import Derived.Test.YtnennmlpaijedaaAb8
set_option linter.unusedVariables false
set_option linter.unusedSimpArgs false
namespace Go.Ab
open Go Go.RowKit

inductive LeR (regs : List (Nat × AV)) : List (Nat × AV) → Prop
  | nil : LeR regs []
  | cons {t : Nat} {x y : AV} {r : List (Nat × AV)} (hx : get regs t = some x) (hs : Sub x y) (h : LeR regs r) : LeR regs ((t, y) :: r)

theorem LeR.get : ∀ {regs r : List (Nat × AV)}, LeR regs r → ∀ t y, get r t = some y → ∃ x, get regs t = some x ∧ Sub x y
  | _, _, .nil, t, y, h => by simp [Ab.get] at h
  | _, _, .cons (t := t') hx hs hr, t, y, h => by
    simp only [Ab.get] at h
    cases hb : Nat.beq t' t with
    | true =>
      obtain rfl : t' = t := Nat.eq_of_beq_eq_true hb
      rw [hb] at h; simp at h; subst h
      exact ⟨_, hx, hs⟩
    | false => rw [hb] at h; exact hr.get t y h

inductive LeO (objs : Obs) : Obs → Prop
  | nil : LeO objs []
  | cons {k : Nat} {o o' : Ob} {r : Obs} (hx : get objs k = some o) (he : o = o') (h : LeO objs r) : LeO objs ((k, o') :: r)

theorem LeO.mem : ∀ {objs r : Obs}, LeO objs r → ∀ x, x ∈ r → x ∈ objs
  | _, _, .nil, x, h => by cases h
  | _, _, .cons hx he hr, x, h => by
    rcases List.mem_cons.1 h with h | h
    · subst h; subst he; exact get_mem hx
    · exact hr.mem x h

def nodupB : List Nat → Bool
  | [] => true
  | k :: r => !mem k r && nodupB r
theorem nodupB_spec : ∀ {l : List Nat}, nodupB l = true → l.Nodup
  | [], _ => by simp
  | k :: r, h => by
    simp only [nodupB, Bool.and_eq_true, Bool.not_eq_true'] at h
    exact List.nodup_cons.2 ⟨(fun hm => by rw [mem_iff.2 hm] at h; exact absurd h.1 (by simp)), nodupB_spec h.2⟩

theorem Rl.sub {P : Program} {cx : Cx} {n : Nat} {s s' : S} {a : Act} {w : World} {own : Nat → Value} (r : Rl P cx n s a w own) (hr : LeR s.regs s'.regs) (ho : LeO s.objs s'.objs) (hn : nodupB (s'.objs.map (·.1)) = true) :
    Rl P cx n s' a w own := by
  obtain ⟨hok, hle⟩ := r.ok.part ho.mem (nodupB_spec hn) cx.M0 (fun b i h => .inl h) (fun k o b hk hb => r.ok.m0 k o b (ho.mem _ hk) hb)
  refine { defs := r.defs, size := r.size, ok := hok, regs := fun t y hy => ?_, stp := r.stp.less hle, fix := fun k o hk => (r.fix k o hk).trans ?_, fr := ⟨r.fr.keep, fun k o b hk hb => r.fr.loc k o b (ho.mem _ hk) hb, r.fr.size⟩ }
  · obtain ⟨x, hx, hs⟩ := hr.get t y hy
    exact (hs _ _ _ _ _ (r.regs t x hx)).part r.ok ho.mem hle
  · cases h3 : hwOf s'.objs k with
    | none => exact .inr (.inl ⟨h3, .inl rfl⟩)
    | some m =>
      obtain ⟨oo, hm, hwi⟩ := hwOf_some h3
      exact .inl ⟨rfl, by rw [h3, hwOf_of r.ok.keys (ho.mem _ hm) hwi]⟩

theorem Le.mk {P : Program} {cx : Cx} {n : Nat} {s s' : S} (hr : LeR s.regs s'.regs) (ho : LeO s.objs s'.objs) (hn : nodupB (s'.objs.map (·.1)) = true) : Le P cx n s s' :=
  fun _ _ ⟨own, r⟩ => ⟨own, r.sub hr ho hn⟩

/-- A register that is nil becomes an own slice. -/
theorem Le.tok {P : Program} {cx : Cx} {n : Nat} {regs : List (Nat × AV)} {objs : Obs} (t k E sz : Nat) (hx : get regs t = some (.p nilS)) (hf : fresh k ⟨regs, objs⟩ = true) (h0 : get cx.objs0 k = none) :
    Le P cx n ⟨regs, objs⟩ ⟨(t, .ts k sz []) :: regs, (k, .ar E sz 0) :: objs⟩ := fun a w ⟨own, r⟩ => by
  obtain ⟨r', hM, hkr⟩ := r.newTok k E sz hf h0
  refine ⟨_, { defs := r'.defs, size := r'.size, ok := r'.ok, regs := fun q y hq => ?_, stp := r'.stp, fix := r'.fix, fr := r'.fr }⟩
  simp only [get] at hq
  cases hb : Nat.beq t q with
  | true =>
    obtain rfl : t = q := Nat.eq_of_beq_eq_true hb
    rw [hb] at hq; simp at hq; subst hq
    have hv := (r.regs t _ hx).val
    rw [hv]
    refine .ts .nil fun m hm => ?_
    have : hwOf ((k, Ob.ar E sz 0) :: objs) k = some 0 := by simp [hwOf, get, Nat.beq_refl]
    rw [this] at hm
    cases hm
    exact ⟨Nat.le_refl _, fun _ => by rw [upd_eq]⟩
  | false => rw [hb] at hq; exact r'.regs q y hq

/-- An own slice in a new block. -/
theorem Rl.newAr {P : Program} {cx : Cx} {n : Nat} {s : S} {a : Act} {w w' : World} {own : Nat → Value} (r : Rl P cx n s a w own) (d T sz m : Nat) (v : Value) (cells : List Value) (hf : fresh d s = true) (h0 : get cx.objs0 d = none)
    (hown : w'.ownsRow 0 T sz v m cells) (hg : w.grownBy w' none) (hb : ∀ b, blk v = some b → w.heap.size ≤ b) :
    Rl P cx n ⟨s.regs, (d, .ar T sz m) :: s.objs⟩ a w' (upd own d v) ∧ Stp w (Mu cx.M0 own s.objs) w' (Mu cx.M0 (upd own d v) ((d, .ar T sz m) :: s.objs)) := by
  simp only [fresh, Bool.and_eq_true] at hf
  have hM : ∀ b i, Mu cx.M0 (upd own d v) ((d, .ar T sz m) :: s.objs) b i → Mu cx.M0 own s.objs b i ∨ w.heap.size ≤ b := by
    rintro b i (h | ⟨k, o, hk, hm⟩)
    · exact .inl (.inl h)
    · rcases List.mem_cons.1 hk with e | e
      · cases e; rw [upd_eq] at hm; exact .inr (hb b hm.1)
      · rw [upd_ne _ _ (freshO_mem hf.2 k o e).1] at hm; exact .inl (.inr ⟨k, o, e, hm⟩)
  have hs : Stp w (Mu cx.M0 own s.objs) w' (Mu cx.M0 (upd own d v) ((d, .ar T sz m) :: s.objs)) :=
    { os := hg.os, tape := hg.tape, output := hg.output, size := hg.size,
      cell := fun b i u _ hu => by rw [World.cell?_of_block (w := w) (hg.block b (World.block_lt_of_cell? w _ hu) (by simp))]; exact hu
      mu := hM
      shape := fun b cs T h => ⟨cs, by rw [hg.block b (Array.getElem?_eq_some_iff.1 h).1 (by simp)]; exact h⟩ }
  have hkr : ∀ k, k ≠ d → Kr own (upd own d v) (hwOf s.objs) (hwOf ((d, .ar T sz m) :: s.objs)) k := fun k hk => .inl ⟨upd_ne _ _ hk, hwOf_cons_ne hk⟩
  have hne : ∀ {k o}, (k, o) ∈ s.objs → k ≠ d := fun h => (freshO_mem hf.2 _ _ h).1
  refine ⟨{ defs := r.defs, size := r.size, ok := ?_, regs := fun t x hx => (r.regs t x hx).tr hs fun k hk => hkr k (freshR_get hf.1 t x hx k hk), stp := r.stp.trans hs, fix := fun k o hm => (r.fix k o hm).trans (hkr k ?_), fr := r.fr.trans ⟨fun b hb _ => hg.block b hb (by simp), fun k o b hk hb' => ?_, hg.size⟩ }, hs⟩
  · refine { obs := fun k o hk => ?_, keys := ?_, inj := fun k o k' o' hk hk' hne' b hb1 hb2 => ?_, m0 := fun k o b hk hb1 i hm => ?_, m0old := fun b i h => Nat.lt_of_lt_of_le (r.ok.m0old b i h) hg.size }
    · rcases List.mem_cons.1 hk with e | e
      · cases e; exact ⟨cells, by rw [upd_eq]; exact hown⟩
      · have h1 := r.ok.obs k o e
        have hfar : ∀ b, blk (own k) = some b → w'.heap[b]? = w.heap[b]? := fun b hb => hg.block b (blk_lt r.ok e hb) (by simp)
        cases o with
        | ce T' cs =>
          obtain ⟨b, vals, e1, e2, e3, e4⟩ := h1
          exact ⟨b, vals, by rw [upd_ne _ _ (hne e)]; exact e1, by rw [hfar b (by rw [e1]; rfl)]; exact e2, e3, fun i x hi => ⟨(e4 i x hi).1, (e4 i x hi).2.tr hs fun q hq => hkr q (freshO_has hf.2 e hi hq)⟩⟩
        | ar T' sz' q =>
          obtain ⟨cs, h2⟩ := h1
          exact ⟨cs, by rw [upd_ne _ _ (hne e)]; exact ownsRow_keep h2 hfar⟩
        | mu T' sz' ver xs =>
          obtain ⟨cs, h2, h3, h4⟩ := h1
          exact ⟨cs, by rw [upd_ne _ _ (hne e)]; exact ownsRow_keep h2 hfar, h3, fun i row j x hi hj => (h4 i row j x hi hj).stp hs⟩
    · simp only [List.map_cons, List.nodup_cons]
      refine ⟨fun h => ?_, r.ok.keys⟩
      obtain ⟨⟨k, o⟩, hk, e⟩ := List.mem_map.1 h
      exact hne hk e
    · rcases List.mem_cons.1 hk with e | e <;> rcases List.mem_cons.1 hk' with e' | e'
      · cases e; cases e'; exact hne' rfl
      · cases e; rw [upd_eq] at hb1; rw [upd_ne _ _ (hne e')] at hb2
        have := hb b hb1; have := blk_lt r.ok e' hb2; omega
      · cases e'; rw [upd_eq] at hb2; rw [upd_ne _ _ (hne e)] at hb1
        have := hb b hb2; have := blk_lt r.ok e hb1; omega
      · rw [upd_ne _ _ (hne e)] at hb1; rw [upd_ne _ _ (hne e')] at hb2
        exact r.ok.inj k o k' o' e e' hne' b hb1 hb2
    · rcases List.mem_cons.1 hk with e | e
      · cases e; rw [upd_eq] at hb1
        have := hb b hb1; have := r.ok.m0old b i hm; omega
      · rw [upd_ne _ _ (hne e)] at hb1; exact r.ok.m0 k o b e hb1 i hm
  · intro e; subst e; exact get_some_of_mem (List.mem_map_of_mem (f := (·.1)) hm) h0
  · rcases List.mem_cons.1 hk with e | e
    · cases e; rw [upd_eq] at hb'; exact .inr (hb b hb')
    · rw [upd_ne _ _ (hne e)] at hb'; exact .inl ⟨k, o, e, hb'⟩

/-- A value that nobody writes. -/
def AV.pu : AV → Option PV
  | .p x => some x
  | .ts _ sz xs => some (.sl sz xs)
  | _ => none
theorem RepA.pu {w : World} {M : Nat → Nat → Prop} {own : Nat → Value} {hw : Nat → Option Nat} {x : AV} {y : PV} {v : Value} (h : RepA w M own hw x v) (hp : x.pu = some y) : Rep w M y v := by
  cases x <;> simp only [AV.pu, Option.some.injEq] at hp <;> first | (cases hp; cases h; assumption) | cases hp
def pus : List AV → Option (List PV)
  | [] => some []
  | x :: r => match x.pu, pus r with
    | some y, some l => some (y :: l)
    | _, _ => none
theorem pus_get : ∀ {l : List AV} {r : List PV}, pus l = some r → r.length = l.length ∧ ∀ (j : Nat) (y : PV), r[j]? = some y → ∃ x, l[j]? = some x ∧ x.pu = some y
  | [], r, h => by simp [pus] at h; subst h; simp
  | x :: l, r, h => by
    simp only [pus] at h
    split at h
    · rename_i y q h1 h2
      cases h
      obtain ⟨h3, h4⟩ := pus_get h2
      refine ⟨by simp [h3], fun j z hj => ?_⟩
      cases j with
      | zero => simp at hj; subst hj; exact ⟨x, rfl, h1⟩
      | succ j => simpa using h4 j z (by simpa using hj)
    · cases h

/-- The rows that a literal's parts make, in order from i on. -/
def rowsOf (s : S) (sz : Nat) : Nat → List (Nat × Operand) → Option (List (List PV))
  | _, [] => some []
  | i, (j, x) :: r => match s.ev x with
    | some av => match av.ce with
      | some l => match pus l, rowsOf s sz (i + 1) r with
        | some row, some rows => bif Nat.beq i j && Nat.beq row.length sz then some (row :: rows) else none
        | _, _ => none
      | none => none
    | none => none

theorem fill_rows {P : Program} {cx : Cx} {n : Nat} {s : S} {a : Act} {w : World} {own : Nat → Value} (r : Rl P cx n s a w own) {sz : Nat} : ∀ (parts : List (Nat × Operand)) (i : Nat) (rows : List (List PV)) (pre post : List Value),
    rowsOf s sz i parts = some rows → pre.length = i * sz → post.length = rows.length * sz →
    ∃ cells, Instr.fill (fun i => some (i * sz, sz)) (pre ++ post).toArray (parts.map fun p => (p.1, a.eval p.2)) = some (pre ++ cells).toArray ∧ cells.length = rows.length * sz ∧ (∀ u ∈ cells, u.oneCell' = true) ∧
      (∀ (q : Nat) (row : List PV), rows[q]? = some row → row.length = sz) ∧
      ∀ (q : Nat) (row : List PV) (j : Nat) (x : PV), rows[q]? = some row → row[j]? = some x → Rep w (Mu cx.M0 own s.objs) x (cells.getD (q * sz + j) undef)
  | [], i, rows, pre, post, h, h1, h2 => by
    simp only [rowsOf, Option.some.injEq] at h
    subst h
    have : post = [] := List.eq_nil_of_length_eq_zero (by simpa using h2)
    subst this
    exact ⟨[], by simp [Instr.fill], by simp, by simp, by simp, by simp⟩
  | (j, x) :: rest, i, rows, pre, post, h, h1, h2 => by
    simp only [rowsOf] at h
    split at h
    · rename_i av hav
      split at h
      · rename_i l hl
        split at h
        · rename_i row rows' hrow hrows
          cases hb : (Nat.beq i j && Nat.beq row.length sz) with
          | false => rw [hb] at h; cases h
          | true =>
            rw [hb] at h
            simp only [cond_true, Option.some.injEq] at h
            subst h
            simp only [Bool.and_eq_true] at hb
            obtain rfl : i = j := Nat.eq_of_beq_eq_true hb.1
            have hrl : row.length = sz := Nat.eq_of_beq_eq_true hb.2
            obtain ⟨us, e1, e2, e3, e4⟩ := (r.ev hav).ce hl
            obtain ⟨p1, p2⟩ := pus_get hrow
            have hus : us.length = sz := by omega
            have hpost : sz ≤ post.length := by rw [h2, List.length_cons, Nat.add_mul]; omega
            obtain ⟨cells, g1, g2, g3, g4, g5⟩ := fill_rows r rest (i + 1) rows' (pre ++ us) (post.drop sz) hrows (by simp [h1, hus, Nat.add_mul]) (by simp [h2, Nat.add_mul])
            have hfold : (us.toArray.zipIdx.foldl (fun (cs : Array Value) (c, j) => cs.setIfInBounds (i * sz + j) c) (pre ++ post).toArray) = (pre ++ us ++ post.drop sz).toArray := by
              have key : ∀ (us : List Value) (k : Nat) (pre post : List Value), us.length ≤ post.length → (List.zipIdx us k).foldl (fun (cs : Array Value) (c, j) => cs.setIfInBounds (i * sz + j) c) (pre ++ post).toArray = (pre ++ us ++ post.drop us.length).toArray ∨ pre.length ≠ i * sz + k := by
                intro us
                induction us with
                | nil => intro k pre post _; left; simp
                | cons u us ih =>
                  intro k pre post hl
                  by_cases hp : pre.length = i * sz + k
                  · left
                    cases post with
                    | nil => simp at hl
                    | cons q post =>
                      have e : ((pre ++ q :: post).toArray.setIfInBounds (i * sz + k) u) = ((pre ++ [u]) ++ post).toArray := by
                        rw [← hp]
                        simp [List.set_append]
                      simp only [List.zipIdx_cons, List.foldl_cons, e]
                      rcases ih (k + 1) (pre ++ [u]) post (by simpa using hl) with h | h
                      · rw [h]; simp
                      · exact absurd (by simp; omega) h
                  · right; exact hp
              rcases key us 0 pre post (by omega) with h | h
              · rw [hus] at h
                rw [← h]
                simp [← Array.foldl_toList]
              · exact absurd (by omega) h
            refine ⟨us ++ cells, ?_, by simp [g2, hus, Nat.add_mul]; omega, fun u hu => ?_, fun q row' hq => ?_, fun q row' jj y hq hj => ?_⟩
            · simp only [List.map_cons, Instr.fill, e1]
              have c1 : ¬ us.toArray.size ≠ sz := by simp [hus]
              have c2 : ¬ (i * sz + us.toArray.size > (pre ++ post).toArray.size) := by simp [hus, h1]; omega
              simp only [c1, c2, decide_false, Bool.or_self, Bool.false_eq_true, if_false, hfold]
              rw [g1]; simp
            · rcases List.mem_append.1 hu with h | h
              · exact e3 u h
              · exact g3 u h
            · cases q with
              | zero => simp at hq; subst hq; exact hrl
              | succ q => exact g4 q row' (by simpa using hq)
            · cases q with
              | zero =>
                simp at hq; subst hq
                have hjj : jj < sz := by have := (List.getElem?_eq_some_iff.1 hj).1; omega
                obtain ⟨z, hz1, hz2⟩ := p2 jj y hj
                have e : (us ++ cells).getD (0 * sz + jj) undef = us.getD jj undef := by
                  rw [Nat.zero_mul, Nat.zero_add, List.getD_eq_getElem?_getD, List.getElem?_append_left (by omega), ← List.getD_eq_getElem?_getD]
                rw [e]
                exact (e4 jj z hz1).pu hz2
              | succ q =>
                have hq' : rows'[q]? = some row' := by simpa using hq
                have e : (us ++ cells).getD ((q + 1) * sz + jj) undef = cells.getD (q * sz + jj) undef := by
                  rw [List.getD_eq_getElem?_getD, List.getElem?_append_right (by rw [hus, Nat.add_mul]; omega), ← List.getD_eq_getElem?_getD, hus]
                  congr 1
                  rw [Nat.add_mul]; omega
                rw [e]
                exact g5 q row' jj y hq' hj
        · cases h
      · cases h
    · cases h

theorem rowsOf_len {s : S} {sz : Nat} : ∀ {parts : List (Nat × Operand)} {i : Nat} {rows : List (List PV)}, rowsOf s sz i parts = some rows → rows.length = parts.length
  | [], i, rows, h => by simp [rowsOf] at h; subst h; rfl
  | (j, x) :: r, i, rows, h => by
    simp only [rowsOf] at h
    split at h
    · split at h
      · split at h
        · rename_i row rows' _ hr
          cases hb : (Nat.beq i j && Nat.beq row.length sz) with
          | false => rw [hb] at h; cases h
          | true =>
            rw [hb] at h
            simp only [cond_true, Option.some.injEq] at h
            subst h
            simp [rowsOf_len hr]
        · cases h
      · cases h
    · cases h

theorem Rl.build {P : Program} {cx : Cx} {n : Nat} {s : S} {a : Act} {w : World} {own : Nat → Value} (r : Rl P cx n s a w own) {T E sz bytes len d : Nat} {parts : List (Nat × Operand)} {rows : List (List PV)} (si : SI P T E) (ei : EI P E sz bytes)
    (hr : rowsOf s sz 0 parts = some rows) (hl : parts.length = len) (hs : len * sz ≤ 16777216) (hs2 : len ≤ 16777216) (hf : fresh d s = true) (h0 : get cx.objs0 d = none) :
    ∃ v w', (Instr.buildSlice T len (parts.map fun p => (p.1, a.eval p.2)).toArray).run P w = .ok v w' ∧ Rl P cx n ⟨s.regs, (d, .ar E sz len) :: s.objs⟩ a w' (upd own d v) ∧
      RepA w' (Mu cx.M0 (upd own d v) ((d, .ar E sz len) :: s.objs)) (upd own d v) (hwOf ((d, .ar E sz len) :: s.objs)) (.ts d sz rows) v := by
  obtain ⟨i, z, hi, hz, hsz, hby, hzs⟩ := ei.get
  have hrl := rowsOf_len hr
  have hlen : rows.length = len := by omega
  obtain ⟨z0, hz0⟩ : ∃ z0 : Array Value, z0 = (if len * sz = 0 then #[] else z.cells) := ⟨_, rfl⟩
  obtain ⟨cells, g1, g2, g3, g4, g5⟩ := fill_rows r parts 0 rows [] ((List.range (len * sz)).map fun q => z0[q % z0.size]!) hr (by simp) (by simp [hlen])
  have hrun : (Instr.buildSlice T len (parts.map fun p => (p.1, a.eval p.2)).toArray).run P w = .ok (.slice (some ⟨w.heap.size, 0, none⟩) len len) (w.alloc (.cells cells.toArray E)) := by
    have hr2 : ((Array.range (len * sz)).map fun q => z0[q % z0.size]!) = ([] ++ (List.range (len * sz)).map fun q => z0[q % z0.size]!).toArray := by
      apply Array.ext'
      simp
    rw [← hr2] at g1
    have hng : ¬ (len * sz > 2 ^ 24) := by omega
    subst hsz
    simp only [Instr.buildSlice, Sem.run_bind, run_underlying si.h, Result.andThen_ok, sizeOf, typeInfo, run_program, hi, Sem.run_pure, hng, if_false]
    by_cases h : len * i.size = 0
    · rw [if_pos h] at hz0 ⊢
      subst hz0
      simp only [Sem.run_bind, Sem.run_pure, Result.andThen_ok]
      rw [g1]
      simp [newRow]
    · rw [if_neg h] at hz0 ⊢
      subst hz0
      simp only [Sem.run_bind, Sem.run_pure, Result.andThen_ok, zeroValue, typeInfo, run_program, hi, hz]
      rw [g1]
      simp [newRow]
  have hown : (w.alloc (.cells cells.toArray E)).ownsRow 0 E sz (.slice (some ⟨w.heap.size, 0, none⟩) len len) len cells := by
    refine ⟨by rw [g2, hlen], .inr ⟨w.heap.size, len, cells.toArray, rfl, Nat.zero_le _, heap_new _ _, Nat.le_refl _, ?_, by simp [g2, hlen], ?_⟩⟩
    · simp only [maxLen]; omega
    · simp only [List.take_of_length_le (by rw [g2, hlen]; exact Nat.le_refl _)]
  obtain ⟨r', hs'⟩ := r.newAr d E sz len _ cells hf h0 hown (World.grownBy_alloc w _ none) (fun b hb => by simp only [blk, Option.some.injEq] at hb; omega)
  refine ⟨_, _, hrun, r', .ts (Rep.of_own hown hlen g4 ?_ fun q row j x h1 h2 => (g5 q row j x h1 h2).stp hs') fun m hm => ?_⟩
  · rintro b q hb hq (h | ⟨k, o, hk, hm⟩)
    · exact r'.ok.m0 d _ b (List.mem_cons_self ..) (by rw [upd_eq]; exact hb) q h
    · rcases List.mem_cons.1 hk with e | e
      · cases e; have := hm.2; omega
      · simp only [fresh, Bool.and_eq_true] at hf
        exact r'.ok.inj d _ k o (List.mem_cons_self ..) hk (Ne.symm (freshO_mem hf.2 k o e).1) b (by rw [upd_eq]; exact hb) (mutOf_blk hm)
  · have : hwOf ((d, Ob.ar E sz len) :: s.objs) d = some len := by simp [hwOf, get, Nat.beq_refl]
    rw [this] at hm
    cases hm
    exact ⟨by omega, fun _ => by rw [upd_eq]⟩

section
variable {P : Program} {cx : Cx} {n : Nat} {Q : Exit → S → Prop} {regs : List (Nat × AV)} {objs : Obs} {ops : Array Oper} {rest : List Oper} {d : Nat} {pos : String} {aft : Array Edge} {ty : Nat}

theorem exec_build {a : Act} {T len : Nat} {parts : List (Nat × Operand)} {w w' : World} {v : Value} (h : (Instr.buildSlice T len (parts.map fun p => (p.1, a.eval p.2)).toArray).run P w = .ok v w') :
    (execOp a.eval ⟨some d, .buildSlice T len parts.toArray, ty, pos, aft, none⟩).run P w = .ok (.value v) w' := by
  have e : parts.toArray.map (fun (i, x) => (i, a.eval x)) = (parts.map fun p => (p.1, a.eval p.2)).toArray := by simp
  simp only [execOp, Sem.run_bind, e, h, Result.andThen_ok, Sem.run_pure]

/-- A slice's literal, as a slice of one's own. -/
theorem awl_slice_own {T E sz bytes len : Nat} {parts : List (Nat × Operand)} {rows : List (List PV)} (si : SI P T E) (ei : EI P E sz bytes) (hr : rowsOf ⟨regs, objs⟩ sz 0 parts = some rows) (hl : Nat.beq parts.length len = true) (hs : (Nat.ble (len * sz) 16777216 && Nat.ble len 16777216) = true)
    (hf : fresh d ⟨regs, objs⟩ = true) (h0 : get cx.objs0 d = none) (hd : Nat.blt d n = true) (kk : AWl P cx n ops rest Q ⟨(d, .ts d sz rows) :: regs, (d, .ar E sz len) :: objs⟩) :
    AWl P cx n ops (⟨some d, .buildSlice T len parts.toArray, ty, pos, aft, none⟩ :: rest) Q ⟨regs, objs⟩ :=
  awl_op rfl (fun a w own r => by
    obtain ⟨v, w', e1, e2, e3⟩ := r.build si ei hr (Nat.eq_of_beq_eq_true hl) (by simp at hs; exact hs.1) (by simp at hs; exact hs.2) hf h0
    exact ⟨v, w', .inl (exec_build e1), _, e2.put_same (by simpa using hd) e3⟩) kk

/-- A slice's literal that nobody writes. -/
theorem awl_slice {T E sz bytes len : Nat} {parts : List (Nat × Operand)} {rows : List (List PV)} (si : SI P T E) (ei : EI P E sz bytes) (hr : rowsOf ⟨regs, objs⟩ sz 0 parts = some rows) (hl : Nat.beq parts.length len = true) (hs : (Nat.ble (len * sz) 16777216 && Nat.ble len 16777216) = true)
    (hf : fresh d ⟨regs, objs⟩ = true) (h0 : get cx.objs0 d = none) (hd : Nat.blt d n = true) (kk : AWl P cx n ops rest Q ⟨(d, .p (.sl sz rows)) :: regs, objs⟩) :
    AWl P cx n ops (⟨some d, .buildSlice T len parts.toArray, ty, pos, aft, none⟩ :: rest) Q ⟨regs, objs⟩ := by
  refine awl_slice_own si ei hr hl hs hf h0 hd (fun a w ⟨own, r⟩ => kk a w ⟨own, ?_⟩)
  have hn := r.ok.keys
  simp only [List.map_cons, List.nodup_cons] at hn
  obtain ⟨hok, hle⟩ := r.ok.part (objs' := objs) (fun x h => List.mem_cons_of_mem _ h) hn.2 cx.M0 (fun b i h => .inl h) (fun k o b hk hb => r.ok.m0 k o b (List.mem_cons_of_mem _ hk) hb)
  have htr : ∀ {x : AV} {v : Value}, RepA w (Mu cx.M0 own ((d, Ob.ar E sz len) :: objs)) own (hwOf ((d, Ob.ar E sz len) :: objs)) x v → RepA w (Mu cx.M0 own objs) own (hwOf objs) x v :=
    fun h => h.part r.ok (fun x h => List.mem_cons_of_mem _ h) hle
  refine { defs := r.defs, size := r.size, ok := hok, regs := fun t y hy => ?_, stp := r.stp.less hle, fix := fun k o hk => (r.fix k o hk).trans ?_, fr := ⟨r.fr.keep, fun k o b hk hb => r.fr.loc k o b (List.mem_cons_of_mem _ hk) hb, r.fr.size⟩ }
  · simp only [get] at hy
    cases hb : Nat.beq d t with
    | true =>
      obtain rfl : d = t := Nat.eq_of_beq_eq_true hb
      rw [hb] at hy; simp at hy; subst hy
      exact Sub.ts _ _ _ _ _ (htr (r.regs d (.ts d sz rows) (by simp [get, Nat.beq_refl])))
    | false =>
      rw [hb] at hy
      exact htr (r.regs t y (by simp only [get, hb]; exact hy))
  · cases h3 : hwOf objs k with
    | none => exact .inr (.inl ⟨h3, .inl rfl⟩)
    | some m =>
      obtain ⟨oo, hm, hwi⟩ := hwOf_some h3
      exact .inl ⟨rfl, by rw [h3, hwOf_of r.ok.keys (List.mem_cons_of_mem _ hm) hwi]⟩
end
end Go.Ab
