/- Slices whose elements may be written: the rules. -/
import Derived.Test.YtnennmlpaijedaaAb26
set_option linter.unusedVariables false
set_option linter.unusedSectionVars false
set_option linter.unusedSimpArgs false
namespace Go.Ab
open Go Go.RowKit

/-- The slice k turns: its header, its elements. -/
theorem Rl.remu {P : Program} {cx : Cx} {n : Nat} {s : S} {a : Act} {w w' : World} {own : Nat → Value} (r : Rl P cx n s a w own) {k T sz ver ver' : Nat} {xs xs' : List (List PV)} {v' : Value} {cells' : List Value}
    (hk : get s.objs k = some (.mu T sz ver xs)) (hver : ver ≤ ver') (hsame : ver' = ver → v' = own k) (hown : w'.ownsRow 0 T sz v' xs'.length cells') (hrow : ∀ row ∈ xs', row.length = sz)
    (hos : w'.os = w.os) (htp : w'.tape = w.tape) (hou : w'.output = w.output) (hsize : w.heap.size ≤ w'.heap.size) (hkeep : ∀ b, b < w.heap.size → blk (own k) ≠ some b → w'.heap[b]? = w.heap[b]?)
    (hblk : ∀ b, blk v' = some b → blk (own k) = some b ∨ w.heap.size ≤ b) (hshape : ∀ b cs, blk (own k) = some b → w.heap[b]? = some (Obj.cells cs T (0, 0)) → ∃ cs' : Array Value, w'.heap[b]? = some (Obj.cells cs' T (0, 0)))
    (hcells : Stp w (Mu cx.M0 own s.objs) w' (Mu cx.M0 (upd own k v') (setO s.objs k (.mu T sz ver' xs'))) → ∀ (i : Nat) (row : List PV) (j : Nat) (x : PV), xs'[i]? = some row → row[j]? = some x → Rep w' (Mu cx.M0 (upd own k v') (setO s.objs k (.mu T sz ver' xs'))) x (cells'.getD (i * sz + j) undef)) :
    Rl P cx n ⟨s.regs, setO s.objs k (.mu T sz ver' xs')⟩ a w' (upd own k v') ∧ Stp w (Mu cx.M0 own s.objs) w' (Mu cx.M0 (upd own k v') (setO s.objs k (.mu T sz ver' xs'))) := by
  have hmem := get_mem hk
  obtain ⟨cells, hc, _, _⟩ := r.ok.obs k _ hmem
  have hM : ∀ b i, Mu cx.M0 (upd own k v') (setO s.objs k (.mu T sz ver' xs')) b i → Mu cx.M0 own s.objs b i ∨ w.heap.size ≤ b := by
    rintro b i (h | ⟨j, o, hj, hmu⟩)
    · exact .inl (.inl h)
    · rcases setO_mem r.ok.keys hj with ⟨rfl, rfl⟩ | ⟨hne, h⟩
      · rw [upd_eq] at hmu
        rcases hblk b hmu with h3 | h3
        · exact .inl (.inr ⟨j, _, hmem, h3⟩)
        · exact .inr h3
      · rw [upd_ne _ _ hne] at hmu
        exact .inl (.inr ⟨j, o, h, hmu⟩)
  have hs : Stp w (Mu cx.M0 own s.objs) w' (Mu cx.M0 (upd own k v') (setO s.objs k (.mu T sz ver' xs'))) :=
    { os := hos, tape := htp, output := hou, size := hsize
      cell := fun b i u hmu hu => by
        by_cases hb : blk (own k) = some b
        · exact absurd (Or.inr ⟨k, _, hmem, hb⟩) hmu
        · rw [World.cell?_of_block (w := w) (hkeep b (World.block_lt_of_cell? w _ hu) hb)]; exact hu
      mu := hM
      shape := fun b cs T' hb => by
        by_cases hbk : blk (own k) = some b
        · rcases hc.2 with ⟨h5, _⟩ | ⟨g', cap', cur', h5, _, h6, _⟩
          · rw [h5] at hbk; simp [blk] at hbk
          · rw [h5] at hbk
            simp only [blk, Option.some.injEq] at hbk
            subst hbk
            rw [hb] at h6
            injection h6 with h6
            injection h6 with _ h7 _
            subst h7
            exact hshape g' cs (by rw [h5]; rfl) hb
        · exact ⟨cs, by rw [hkeep b (Array.getElem?_eq_some_iff.1 hb).1 hbk]; exact hb⟩ }
  have hw1 : hwOf s.objs k = some ver := by unfold hwOf; rw [hk]
  have hw2 : hwOf (setO s.objs k (.mu T sz ver' xs')) k = some ver' := by unfold hwOf; rw [get_setO, hk]; simp
  have hkr : ∀ j, Kr own (upd own k v') (hwOf s.objs) (hwOf (setO s.objs k (.mu T sz ver' xs'))) j := fun j => by
    by_cases e : j = k
    · subst e
      by_cases e : ver' = ver
      · exact .inl ⟨by rw [upd_eq]; exact hsame e, by rw [hw1, hw2, e]⟩
      · refine .inr (.inr ⟨ver, ver', hw1, hw2, by omega, fun q hq => ?_⟩)
        rcases hc.2 with ⟨h3, _⟩ | ⟨_, _, _, h3, _⟩ <;> rw [hq] at h3 <;> cases h3
    · refine .inl ⟨upd_ne _ _ e, ?_⟩
      unfold hwOf
      rw [get_setO]
      have : Nat.beq k j = false := by
        cases h : Nat.beq k j with
        | false => rfl
        | true => exact absurd (Nat.eq_of_beq_eq_true h).symm e
      rw [this]; rfl
  refine ⟨{ defs := r.defs, size := r.size, ok := ?_, regs := fun t x hx => (r.regs t x hx).tr hs fun j _ => hkr j, stp := r.stp.trans hs, fix := fun j o hm => (r.fix j o hm).trans (hkr j), fr := r.fr.trans ⟨fun b hb hn => hkeep b hb (hn k _ hmem), fun j o b hj hb => ?_, hsize⟩ }, hs⟩
  · refine { obs := fun j o hj => ?_, keys := by rw [setO_keys]; exact r.ok.keys, inj := ?_, m0 := ?_, m0old := fun b i h => Nat.lt_of_lt_of_le (r.ok.m0old b i h) hsize }
    · rcases setO_mem r.ok.keys hj with ⟨rfl, rfl⟩ | ⟨hne, h⟩
      · exact ⟨cells', by rw [upd_eq]; exact hown, hrow, hcells hs⟩
      · have hfar : ∀ b, blk (own j) = some b → w'.heap[b]? = w.heap[b]? := fun b hb =>
          hkeep b (blk_lt r.ok h hb) fun e => r.ok.inj k _ j o hmem h (Ne.symm hne) b e hb
        have h1 := r.ok.obs j o h
        cases o with
        | ce T' cs =>
          obtain ⟨b, vals, e1, e2, e3, e4⟩ := h1
          exact ⟨b, vals, by rw [upd_ne _ _ hne]; exact e1, by rw [hfar b (by rw [e1]; rfl)]; exact e2, e3, fun i x hi => ⟨(e4 i x hi).1, (e4 i x hi).2.tr hs fun q _ => hkr q⟩⟩
        | ar T' sz' q =>
          obtain ⟨cs, e⟩ := h1
          exact ⟨cs, by rw [upd_ne _ _ hne]; exact ownsRow_keep e hfar⟩
        | mu T' sz' q ys =>
          obtain ⟨cs, e, e2, e3⟩ := h1
          exact ⟨cs, by rw [upd_ne _ _ hne]; exact ownsRow_keep e hfar, e2, fun i row j x hi hj => (e3 i row j x hi hj).stp hs⟩
    · intro j o j' o' hj hj' hne b hb hb'
      have g : ∀ {j o}, (j, o) ∈ setO s.objs k (.mu T sz ver' xs') → j ≠ k → (j, o) ∈ s.objs := fun {j o} hj hne => by
        rcases setO_mem r.ok.keys hj with ⟨rfl, _⟩ | ⟨_, h⟩
        · exact absurd rfl hne
        · exact h
      by_cases e : j = k
      · subst e
        have h' := g hj' (Ne.symm hne)
        rw [upd_eq] at hb
        rw [upd_ne _ _ (Ne.symm hne)] at hb'
        rcases hblk b hb with h3 | h3
        · exact r.ok.inj j _ j' o' hmem h' hne b h3 hb'
        · have := blk_lt r.ok h' hb'; omega
      · have h1 := g hj e
        rw [upd_ne _ _ e] at hb
        by_cases e' : j' = k
        · subst e'
          rw [upd_eq] at hb'
          rcases hblk b hb' with h3 | h3
          · exact r.ok.inj j' _ j o hmem h1 (Ne.symm hne) b h3 hb
          · have := blk_lt r.ok h1 hb; omega
        · rw [upd_ne _ _ e'] at hb'
          exact r.ok.inj j o j' o' h1 (g hj' e') hne b hb hb'
    · intro j o b hj hb i hm0
      rcases setO_mem r.ok.keys hj with ⟨rfl, rfl⟩ | ⟨hne, h⟩
      · rw [upd_eq] at hb
        rcases hblk b hb with h3 | h3
        · exact r.ok.m0 j _ b hmem h3 i hm0
        · have := r.ok.m0old b i hm0; omega
      · rw [upd_ne _ _ hne] at hb
        exact r.ok.m0 j o b h hb i hm0
  · rcases setO_mem r.ok.keys hj with ⟨rfl, rfl⟩ | ⟨hne, h⟩
    · rw [upd_eq] at hb
      rcases hblk b hb with h3 | h3
      · exact .inl ⟨j, _, hmem, h3⟩
      · exact .inr h3
    · rw [upd_ne _ _ hne] at hb
      exact .inl ⟨j, o, h, hb⟩

/-- What the header k is. -/
theorem Rl.tm_val {P : Program} {cx : Cx} {n : Nat} {s : S} {a : Act} {w : World} {own : Nat → Value} (r : Rl P cx n s a w own) {k T sz ver : Nat} {xs : List (List PV)} {v : Value} (hk : get s.objs k = some (.mu T sz ver xs)) (h : RepA w (Mu cx.M0 own s.objs) own (hwOf s.objs) (.tm k ver) v) : v = own k := by
  cases h with
  | tm h1 ho => exact (ho ver (by unfold hwOf; rw [hk])).2 rfl
theorem Rl.mu_own {P : Program} {cx : Cx} {n : Nat} {s : S} {a : Act} {w : World} {own : Nat → Value} (r : Rl P cx n s a w own) {k T sz ver : Nat} {xs : List (List PV)} (hk : get s.objs k = some (.mu T sz ver xs)) :
    ∃ cells, w.ownsRow 0 T sz (own k) xs.length cells ∧ (∀ row ∈ xs, row.length = sz) ∧ ∀ (i : Nat) (row : List PV) (j : Nat) (x : PV), xs[i]? = some row → row[j]? = some x → Rep w (Mu cx.M0 own s.objs) x (cells.getD (i * sz + j) undef) := r.ok.obs k _ (get_mem hk)
theorem ownsRow_hdr {w : World} {T sz m : Nat} {v : Value} {cells : List Value} (h : w.ownsRow 0 T sz v m cells) : ∃ ad cap, v = .slice ad m cap ∧ m ≤ cap ∧ cap ≤ 9223372036854775807 := by
  rcases h.2 with ⟨rfl, rfl⟩ | ⟨g, cap, cur, rfl, _, _, h1, h2, _⟩
  · exact ⟨none, 0, rfl, Nat.le_refl _, by omega⟩
  · exact ⟨_, cap, rfl, h1, by simp only [maxLen] at h2; omega⟩

section
variable {P : Program} {cx : Cx} {n : Nat} {Q : Exit → S → Prop} {regs : List (Nat × AV)} {objs : Obs} {ops : Array Oper} {rest : List Oper} {d : Nat} {pos : String} {aft : Array Edge} {ty : Nat}

theorem awl_len_m {T E rty k T' sz ver : Nat} {x : Operand} {xs : List (List PV)} (si : SI P T E) (hx : S.ev ⟨regs, objs⟩ x = some (.tm k ver)) (hk : get objs k = some (.mu T' sz ver xs)) (hd : Nat.blt d n = true)
    (kk : xs.length ≤ 9223372036854775807 → AWl P cx n ops rest Q ⟨(d, .p (I xs.length)) :: regs, objs⟩) :
    AWl P cx n ops (⟨some d, .call ⟨.builtin .len, #[x], #[T]⟩, rty, pos, aft, none⟩ :: rest) Q ⟨regs, objs⟩ := fun a0 w0 ⟨own0, r0⟩ => by
  obtain ⟨cells0, hc0, _⟩ := r0.mu_own hk
  obtain ⟨_, _, _, hle, hmax⟩ := ownsRow_hdr hc0
  refine awl_val (.p (I xs.length)) rfl rfl (by simpa using hd) (fun a w own r => ?_) (kk (Nat.le_trans hle hmax)) a0 w0 ⟨own0, r0⟩
  have hv := r.tm_val hk (r.ev hx)
  obtain ⟨cells, hc, _⟩ := r.mu_own hk
  obtain ⟨ad, cap, e, _, _⟩ := ownsRow_hdr hc
  have hel : P.underlying T = some (.slice (P.elem T)) := by simp [Program.elem, si.h]
  refine ⟨.int .i64 xs.length, ?_, .scal rfl⟩
  simp only [execOp, resolve, invoke, builtin, Sem.run_bind, Sem.run_pure, Result.andThen_ok, List.map_toArray, List.map_cons, List.map_nil, hv, e]
  rw [run_len_slice w T rty ad xs.length cap hel]
  rfl

theorem awl_index_m {T E sz k ver : Nat} {ag : Bool} {x y : Operand} {xs : List (List PV)} {kd : IntKind} {i : Int} (si : SI P T E) (ti : TI P E sz ag) (hx : S.ev ⟨regs, objs⟩ x = some (.tm k ver)) (hk : get objs k = some (.mu E sz ver xs))
    (hy : S.ev ⟨regs, objs⟩ y = some (.p (.v (.int kd i)))) (h0 : 0 ≤ i) (h1 : i < (xs.length : Int)) (hd : Nat.blt d n = true)
    (kk : AWl P cx n ops rest Q ⟨(d, .pe k ver (i.toNat * sz + 0)) :: regs, objs⟩) : AWl P cx n ops (⟨some d, .indexAddr T x y, ty, pos, aft, none⟩ :: rest) Q ⟨regs, objs⟩ :=
  awl_val (.pe k ver (i.toNat * sz + 0)) rfl rfl (by simpa using hd) (fun a w own r => by
    have hv := r.tm_val hk (r.ev hx)
    have hvy := (r.ev hy).val
    obtain ⟨cells, hc, _⟩ := r.mu_own hk
    have hel : P.underlying T = some (.slice (P.elem T)) := by simp [Program.elem, si.h]
    have hel' : P.elem T = E := by simp [Program.elem, si.h]
    rcases hc.2 with ⟨_, h⟩ | ⟨g, cap, cur, h, _⟩
    · omega
    · refine ⟨.pointer (some ⟨g, i.toNat * sz + 0, none⟩), ?_, .pe rfl fun q hq => ?_⟩
      · simp only [execOp, hv, hvy, h, Sem.run_bind]
        rw [run_indexAt_slice w T ⟨g, 0, none⟩ xs.length cap kd i hel, if_pos ⟨h0, h1⟩, hel', ti.run_size w]
        simp only [Result.andThen_ok, add_at, Nat.zero_add, Sem.run_pure, Nat.add_zero]
      · have : hwOf objs k = some ver := by unfold hwOf; rw [hk]
        rw [this] at hq; cases hq
        exact ⟨Nat.le_refl _, fun _ => ⟨g, _, cap, h, rfl⟩⟩) kk

theorem awl_field_m {T i off k ver q o : Nat} {x : Operand} (fi : FI P T i off) (hx : S.ev ⟨regs, objs⟩ x = some (.pe k ver (q + o))) {T' sz : Nat} {xs : List (List PV)} (hk : get objs k = some (.mu T' sz ver xs)) (hd : Nat.blt d n = true)
    (kk : AWl P cx n ops rest Q ⟨(d, .pe k ver (q + (o + off))) :: regs, objs⟩) : AWl P cx n ops (⟨some d, .fieldAddr T x i, ty, pos, aft, none⟩ :: rest) Q ⟨regs, objs⟩ :=
  awl_val (.pe k ver (q + (o + off))) rfl rfl (by simpa using hd) (fun a w own r => by
    have h := r.ev hx
    have hw : hwOf objs k = some ver := by unfold hwOf; rw [hk]
    generalize hv : a.eval x = v at h
    cases h with
    | pe h1 ho =>
      obtain ⟨b, len, cap, e, rfl⟩ := (ho ver hw).2 rfl
      refine ⟨.pointer (some ⟨b, q + (o + off), none⟩), ?_, .pe rfl fun p hp => ?_⟩
      · simp only [execOp, hv, Sem.run_bind, run_fieldAt fi w b (q + o), Result.andThen_ok]
        rw [Nat.add_assoc]; rfl
      · rw [hw] at hp; cases hp
        exact ⟨Nat.le_refl _, fun _ => ⟨b, len, cap, e, rfl⟩⟩) kk

/-- The cells that a place stands for. -/
theorem Rl.pe_cells {s : S} {a : Act} {w : World} {own : Nat → Value} (r : Rl P cx n s a w own) {k T sz ver i off sz' : Nat} {xs : List (List PV)} {row : List PV} {l : List PV} {v : Value} (hk : get s.objs k = some (.mu T sz ver xs)) (hi : xs[i]? = some row) (hl : rng row off sz' = some l)
    (h : RepA w (Mu cx.M0 own s.objs) own (hwOf s.objs) (.pe k ver (i * sz + off)) v) :
    ∃ (b : Nat) (vals : List Value), v = .pointer (some ⟨b, i * sz + off, none⟩) ∧ vals.length = sz' ∧ (∀ j u, vals[j]? = some u → w.cell? ⟨b, i * sz + off + j, none⟩ = some u) ∧ l.length = sz' ∧ ∀ j y, l[j]? = some y → Rep w (Mu cx.M0 own s.objs) y (vals.getD j undef) := by
  have hw : hwOf s.objs k = some ver := by unfold hwOf; rw [hk]
  obtain ⟨cells, hc, hrow, hx⟩ := r.mu_own hk
  cases h with
  | pe h1 ho =>
    obtain ⟨b, len, cap, e, rfl⟩ := (ho ver hw).2 rfl
    obtain ⟨q1, q2, q3⟩ := rng_spec hl
    have hlen := hrow row (List.mem_of_getElem? hi)
    have hil : i < xs.length := (List.getElem?_eq_some_iff.1 hi).1
    have hfit : i * sz + sz ≤ cells.length := by
      rw [hc.1]
      have : (i + 1) * sz ≤ xs.length * sz := Nat.mul_le_mul_right _ hil
      rw [Nat.add_mul] at this; omega
    refine ⟨b, (cells.drop (i * sz + off)).take sz', rfl, by simp; omega, fun j u hj => ?_, q1, fun j y hy => ?_⟩
    · have hjs : j < sz' := by have := (List.getElem?_eq_some_iff.1 hj).1; simp at this; omega
      rw [List.getElem?_take_of_lt hjs, List.getElem?_drop] at hj
      have hown := hc.cells (g := b) (by rw [e]; rfl) _ _ hj
      rw [add_at, Nat.zero_add] at hown
      exact hown
    · have hjs : j < sz' := by have := (List.getElem?_eq_some_iff.1 hy).1; omega
      rw [q3 j hjs] at hy
      have := hx i row (off + j) y hi hy
      have e : ((cells.drop (i * sz + off)).take sz').getD j undef = cells.getD (i * sz + (off + j)) undef := by
        rw [List.getD_eq_getElem?_getD, List.getElem?_take_of_lt hjs, List.getElem?_drop, ← List.getD_eq_getElem?_getD, Nat.add_assoc]
      rw [e]; exact this

theorem awl_load_m {T T' sz sz' k ver i off : Nat} {x : Operand} {xs : List (List PV)} {row l : List PV} (ti : TI P T' sz' true) (hx : S.ev ⟨regs, objs⟩ x = some (.pe k ver (i * sz + off))) (hk : get objs k = some (.mu T sz ver xs)) (hi : xs[i]? = some row) (hl : rng row off sz' = some l) (hd : Nat.blt d n = true)
    (kk : AWl P cx n ops rest Q ⟨(d, .ag (l.map .p)) :: regs, objs⟩) : AWl P cx n ops (⟨some d, .load T' x, ty, pos, aft, none⟩ :: rest) Q ⟨regs, objs⟩ :=
  awl_val (.ag (l.map .p)) rfl rfl (by simpa using hd) (fun a w own r => by
    obtain ⟨b, vals, hv, hl1, hc, hl2, hr⟩ := r.pe_cells hk hi hl (r.ev hx)
    refine ⟨.agg vals.toArray, ?_, .ag vals (by rw [hl1, List.length_map, hl2]) (fun v hv => ?_) fun j y hj => ?_⟩
    · simp only [execOp, hv, Instr.loadAt, Instr.sureAddr, Sem.run_bind, Sem.run_pure, Result.andThen_ok]
      rw [run_load_row ti w _ vals hl1 (fun j v hj => by rw [add_at]; exact hc j v hj)]
      rfl
    · obtain ⟨j, hj⟩ := List.getElem?_of_mem hv
      have hlt : j < l.length := by have := (List.getElem?_eq_some_iff.1 hj).1; omega
      have := (hr j _ (List.getElem?_eq_getElem hlt)).one
      rwa [List.getD_eq_getElem?_getD, hj] at this
    · rw [List.getElem?_map] at hj
      obtain ⟨z, hz, rfl⟩ := Option.map_eq_some_iff.1 hj
      exact .p (hr j z hz)) kk
theorem awl_load_m1 {T T' sz k ver i off : Nat} {x : Operand} {xs : List (List PV)} {row : List PV} {y : PV} (ti : TI P T' 1 false) (hx : S.ev ⟨regs, objs⟩ x = some (.pe k ver (i * sz + off))) (hk : get objs k = some (.mu T sz ver xs)) (hi : xs[i]? = some row) (hl : rng row off 1 = some [y]) (hd : Nat.blt d n = true)
    (kk : AWl P cx n ops rest Q ⟨(d, .p y) :: regs, objs⟩) : AWl P cx n ops (⟨some d, .load T' x, ty, pos, aft, none⟩ :: rest) Q ⟨regs, objs⟩ :=
  awl_val (.p y) rfl rfl (by simpa using hd) (fun a w own r => by
    obtain ⟨b, vals, hv, hl1, hc, hl2, hr⟩ := r.pe_cells hk hi hl (r.ev hx)
    obtain ⟨u, rfl⟩ : ∃ u, vals = [u] := by match vals, hl1 with | [u], _ => exact ⟨u, rfl⟩
    refine ⟨u, ?_, .p (hr 0 y rfl)⟩
    simp only [execOp, hv, Instr.loadAt, Instr.sureAddr, Sem.run_bind, Sem.run_pure, Result.andThen_ok]
    have := hc 0 u rfl
    rw [Nat.add_zero] at this
    rw [run_load_one ti w _ u this]
    rfl) kk
end

/-- Cells, written over from o on. -/
theorem ovr_getD {L us : List Value} {o q : Nat} (h : o + us.length ≤ L.length) : (L.take o ++ us ++ L.drop (o + us.length)).getD q undef = if q < o then L.getD q undef else if q < o + us.length then us.getD (q - o) undef else L.getD q undef := by
  have hl : (L.take o).length = o := by simp; omega
  simp only [List.getD_eq_getElem?_getD]
  split
  · rename_i hq
    rw [List.append_assoc, List.getElem?_append_left (by omega), List.getElem?_take_of_lt hq]
  · split
    · rw [List.append_assoc, List.getElem?_append_right (by omega), hl, List.getElem?_append_left (by omega)]
    · rw [List.getElem?_append_right (by simp; omega), List.getElem?_drop]
      congr 2
      simp; omega

/-- A row of the slice k is written. -/
theorem Rl.setMu {P : Program} {cx : Cx} {n : Nat} {s : S} {a : Act} {w : World} {own : Nat → Value} (r : Rl P cx n s a w own) {k T sz ver i : Nat} {xs : List (List PV)} {ps : List PV} {us : List Value} {b : Nat}
    (hk : get s.objs k = some (.mu T sz ver xs)) (hb : blk (own k) = some b) (hi : i < xs.length) (hp : ps.length = sz) (hu : us.length = sz) (hus : ∀ (j : Nat) (x : PV), ps[j]? = some x → Rep w (Mu cx.M0 own s.objs) x (us.getD j undef)) :
    ∃ cur, w.heap[b]? = some (Obj.cells cur T (0, 0)) ∧ i * sz + us.length ≤ cur.size ∧ Rl P cx n ⟨s.regs, setO s.objs k (.mu T sz ver (xs.set i ps))⟩ a (w.setRow b (cur.toList.take (i * sz) ++ us ++ cur.toList.drop (i * sz + us.length)).toArray) own := by
  obtain ⟨cells, hc, hrow, hx⟩ := r.mu_own hk
  rcases hc.2 with ⟨h5, _⟩ | ⟨g, cap, cur, h5, h50, hg, hnc, hcm, hcs, htake⟩
  · rw [h5] at hb; simp [blk] at hb
  · rw [h5] at hb
    simp only [blk, Option.some.injEq] at hb
    subst hb
    have hm : (i + 1) * sz ≤ xs.length * sz := Nat.mul_le_mul_right _ hi
    rw [Nat.add_mul, Nat.one_mul] at hm
    have hm2 : xs.length * sz ≤ cap * sz := Nat.mul_le_mul_right _ hnc
    have hfit : i * sz + us.length ≤ cur.toList.length := by simp; omega
    refine ⟨cur, hg, by simpa using hfit, ?_⟩
    have hov := fun q => ovr_getD (L := cur.toList) (us := us) (o := i * sz) (q := q) hfit
    have hupd : upd own k (own k) = own := by
      funext j
      by_cases e : j = k
      · subst e; rw [upd_eq]
      · rw [upd_ne _ _ e]
    have key := r.remu (v' := own k) (ver' := ver) (xs' := xs.set i ps) (w' := w.setRow g (cur.toList.take (i * sz) ++ us ++ cur.toList.drop (i * sz + us.length)).toArray)
      (cells' := ((cur.toList.take (i * sz) ++ us ++ cur.toList.drop (i * sz + us.length)).take (xs.length * sz))) hk (Nat.le_refl _) (fun _ => rfl)
      (by
        rw [List.length_set]
        refine ⟨by simp; omega, .inr ⟨g, cap, _, h5, h50, setRow_heap w g _ _ T (0, 0) hg, hnc, hcm, by simp; omega, by simp⟩⟩)
      (fun row hr => by
        rcases List.mem_or_eq_of_mem_set hr with h | h
        · exact hrow row h
        · rw [h]; exact hp)
      rfl rfl rfl (by rw [setRow_size]; exact Nat.le_refl _) (fun c _ hne => setRow_far w g _ fun e => hne (by rw [h5, e]; rfl)) (fun c hc' => .inl hc') (fun c cs hc' h => by
        rw [h5] at hc'; simp only [blk, Option.some.injEq] at hc'; subst hc'; exact ⟨_, setRow_heap w g _ _ T (0, 0) h⟩)
      (fun hst q row j x hq hj => by
        have hql : q < xs.length := by have := (List.getElem?_eq_some_iff.1 hq).1; simpa using this
        have hjs : j < sz := by
          have : row.length = sz := by
            rcases List.mem_or_eq_of_mem_set (List.mem_of_getElem? hq) with h | h
            · exact hrow row h
            · rw [h]; exact hp
          have := (List.getElem?_eq_some_iff.1 hj).1; omega
        have hqm : (q + 1) * sz ≤ xs.length * sz := Nat.mul_le_mul_right _ hql
        rw [Nat.add_mul, Nat.one_mul] at hqm
        have e1 : ((cur.toList.take (i * sz) ++ us ++ cur.toList.drop (i * sz + us.length)).take (xs.length * sz)).getD (q * sz + j) undef = (cur.toList.take (i * sz) ++ us ++ cur.toList.drop (i * sz + us.length)).getD (q * sz + j) undef := by
          rw [List.getD_eq_getElem?_getD, List.getElem?_take_of_lt (by omega), ← List.getD_eq_getElem?_getD]
        rw [e1, hov]
        by_cases hqi : q = i
        · subst hqi
          rw [List.getElem?_set_self hql] at hq
          cases hq
          rw [if_neg (by omega), if_pos (by omega), Nat.add_sub_cancel_left]
          exact (hus j x hj).stp hst
        · rw [List.getElem?_set_ne (Ne.symm hqi)] at hq
          have hcell : cells.getD (q * sz + j) undef = cur.toList.getD (q * sz + j) undef := by
            rw [← htake, List.getD_eq_getElem?_getD, List.getElem?_take_of_lt (by omega), ← List.getD_eq_getElem?_getD]
          have h9 := (hx q row j x hq hj).stp hst
          rw [hcell] at h9
          rcases Nat.lt_or_gt_of_ne hqi with hlt | hlt
          · have : (q + 1) * sz ≤ i * sz := Nat.mul_le_mul_right _ hlt
            rw [Nat.add_mul, Nat.one_mul] at this
            rw [if_pos (by omega)]; exact h9
          · have : (i + 1) * sz ≤ q * sz := Nat.mul_le_mul_right _ hlt
            rw [Nat.add_mul, Nat.one_mul] at this
            rw [if_neg (by omega), if_neg (by omega)]; exact h9)
    rw [hupd] at key
    exact key.1

end Go.Ab
