/- Slices whose elements may be written: made, appended to, cut; interfaces. -/
import Derived.Test.YtnennmlpaijedaaAb27
set_option linter.unusedVariables false
set_option linter.unusedSectionVars false
set_option linter.unusedSimpArgs false
namespace Go.Ab
open Go Go.RowKit

/-- A new slice whose elements may be written. -/
theorem Rl.newMu {P : Program} {vr : Nat} {cx : Cx} {n : Nat} {s : S} {a : Act} {w w' : World} {own : Nat → Value} (r : Rl P cx n s a w own) (d T sz : Nat) (xs : List (List PV)) (v : Value) (cells : List Value) (hf : fresh d s = true) (h0 : get cx.objs0 d = none)
    (hown : w'.ownsRow 0 T sz v xs.length cells) (hg : w.grownBy w' none) (hb : ∀ b, blk v = some b → w.heap.size ≤ b) (hrow : ∀ row ∈ xs, row.length = sz)
    (hcells : Stp w (Mu cx.M0 own s.objs) w' (Mu cx.M0 (upd own d v) ((d, .mu T sz vr xs) :: s.objs)) → ∀ (i : Nat) (row : List PV) (j : Nat) (x : PV), xs[i]? = some row → row[j]? = some x → Rep w' (Mu cx.M0 (upd own d v) ((d, .mu T sz vr xs) :: s.objs)) x (cells.getD (i * sz + j) undef)) :
    Rl P cx n ⟨s.regs, (d, .mu T sz vr xs) :: s.objs⟩ a w' (upd own d v) ∧ Stp w (Mu cx.M0 own s.objs) w' (Mu cx.M0 (upd own d v) ((d, .mu T sz vr xs) :: s.objs)) := by
  simp only [fresh, Bool.and_eq_true] at hf
  have hM : ∀ b i, Mu cx.M0 (upd own d v) ((d, .mu T sz vr xs) :: s.objs) b i → Mu cx.M0 own s.objs b i ∨ w.heap.size ≤ b := by
    rintro b i (h | ⟨k, o, hk, hm⟩)
    · exact .inl (.inl h)
    · rcases List.mem_cons.1 hk with e | e
      · cases e; rw [upd_eq] at hm; exact .inr (hb b hm)
      · rw [upd_ne _ _ (freshO_mem hf.2 k o e).1] at hm; exact .inl (.inr ⟨k, o, e, hm⟩)
  have hs : Stp w (Mu cx.M0 own s.objs) w' (Mu cx.M0 (upd own d v) ((d, .mu T sz vr xs) :: s.objs)) :=
    { os := hg.os, tape := hg.tape, output := hg.output, size := hg.size,
      cell := fun b i u _ hu => by rw [World.cell?_of_block (w := w) (hg.block b (World.block_lt_of_cell? w _ hu) (by simp))]; exact hu
      mu := hM
      shape := fun b cs T h => ⟨cs, by rw [hg.block b (Array.getElem?_eq_some_iff.1 h).1 (by simp)]; exact h⟩ }
  have hkr : ∀ k, k ≠ d → Kr own (upd own d v) (hwOf s.objs) (hwOf ((d, .mu T sz vr xs) :: s.objs)) k := fun k hk => .inl ⟨upd_ne _ _ hk, hwOf_cons_ne hk⟩
  have hne : ∀ {k o}, (k, o) ∈ s.objs → k ≠ d := fun h => (freshO_mem hf.2 _ _ h).1
  refine ⟨{ defs := r.defs, size := r.size, ok := ?_, regs := fun t x hx => (r.regs t x hx).tr hs fun k hk => hkr k (freshR_get hf.1 t x hx k hk), stp := r.stp.trans hs, fix := fun k o hm => (r.fix k o hm).trans (hkr k ?_), fr := r.fr.trans ⟨fun b hb _ => hg.block b hb (by simp), fun k o b hk hb' => ?_, hg.size⟩ }, hs⟩
  · refine { obs := fun k o hk => ?_, keys := ?_, inj := fun k o k' o' hk hk' hne' b hb1 hb2 => ?_, m0 := fun k o b hk hb1 i hm => ?_, m0old := fun b i h => Nat.lt_of_lt_of_le (r.ok.m0old b i h) hg.size }
    · rcases List.mem_cons.1 hk with e | e
      · cases e; exact ⟨cells, by rw [upd_eq]; exact hown, hrow, hcells hs⟩
      · have h1 := r.ok.obs k o e
        have hfar : ∀ b, blk (own k) = some b → w'.heap[b]? = w.heap[b]? := fun b hb => hg.block b (blk_lt r.ok e hb) (by simp)
        cases o with
        | ce T' cs =>
          obtain ⟨b, vals, e1, e2, e3, e4⟩ := h1
          exact ⟨b, vals, by rw [upd_ne _ _ (hne e)]; exact e1, by rw [hfar b (by rw [e1]; rfl)]; exact e2, e3, fun i x hi => ⟨(e4 i x hi).1, (e4 i x hi).2.tr hs fun q hq => hkr q (freshO_has hf.2 e hi hq)⟩⟩
        | ar T' sz' q =>
          obtain ⟨cs, h2⟩ := h1
          exact ⟨cs, by rw [upd_ne _ _ (hne e)]; exact ownsRow_keep h2 hfar⟩
        | mu T' sz' ver ys =>
          obtain ⟨cs, h2, h3, h4⟩ := h1
          exact ⟨cs, by rw [upd_ne _ _ (hne e)]; exact ownsRow_keep h2 hfar, h3, fun i row j x hi hj => (h4 i row j x hi hj).stp hs⟩
    · simp only [List.map_cons, List.nodup_cons]
      refine ⟨fun h => ?_, r.ok.keys⟩
      obtain ⟨⟨k, o⟩, hk, e⟩ := List.mem_map.1 h
      exact hne hk e
    · rcases List.mem_cons.1 hk with e | e <;> rcases List.mem_cons.1 hk' with e' | e'
      · cases e; cases e'; exact hne' rfl
      · cases e; rw [upd_eq] at hb1; rw [upd_ne _ _ (hne e')] at hb2
        have := hb b hb1; have := blk_lt r.ok e' hb2; omega
      · cases e'; rw [upd_eq] at hb2; rw [upd_ne _ _ (hne e)] at hb1
        have := hb b hb2; have := blk_lt r.ok e hb1; omega
      · rw [upd_ne _ _ (hne e)] at hb1; rw [upd_ne _ _ (hne e')] at hb2
        exact r.ok.inj k o k' o' e e' hne' b hb1 hb2
    · rcases List.mem_cons.1 hk with e | e
      · cases e; rw [upd_eq] at hb1
        have := hb b hb1; have := r.ok.m0old b i hm; omega
      · rw [upd_ne _ _ (hne e)] at hb1; exact r.ok.m0 k o b e hb1 i hm
  · intro e; subst e; exact get_some_of_mem (List.mem_map_of_mem (f := (·.1)) hm) h0
  · rcases List.mem_cons.1 hk with e | e
    · cases e; rw [upd_eq] at hb'; exact .inr (hb b hb')
    · rw [upd_ne _ _ (hne e)] at hb'; exact .inl ⟨k, o, e, hb'⟩

/-- What is appended: its cells. -/
def Src (w : World) (M : Nat → Nat → Prop) (sz : Nat) (ys : List (List PV)) (y : Value) : Prop :=
  ∃ news : List Value, ((y = .slice none 0 0 ∧ ys.length = 0 ∧ news = []) ∨ ∃ a c, y = .slice (some a) ys.length c ∧ news.length = ys.length * sz ∧ ∀ j u, news[j]? = some u → w.cell? (a.add j) = some u) ∧
      (∀ u ∈ news, u.oneCell' = true) ∧ news.length = ys.length * sz ∧ (∀ row ∈ ys, row.length = sz) ∧
      ∀ (i : Nat) (row : List PV) (j : Nat) (x : PV), ys[i]? = some row → row[j]? = some x → Rep w M x (news.getD (i * sz + j) undef)
theorem Src.of_rep {w : World} {M : Nat → Nat → Prop} {sz : Nat} {ys : List (List PV)} {y : Value} (h : Rep w M (.sl sz ys) y) : Src w M sz ys y := by
  obtain ⟨news, h1, h2, h3, h4, h5⟩ := h.sl_cells
  refine ⟨news, h1, h2, h3, fun row hr => ?_, h5⟩
  obtain ⟨i, hi⟩ := List.getElem?_of_mem hr
  exact h4 i row hi
theorem Src.of_mu {P : Program} {cx : Cx} {n : Nat} {s : S} {a : Act} {w : World} {own : Nat → Value} (r : Rl P cx n s a w own) {k T sz ver : Nat} {xs : List (List PV)} (hk : get s.objs k = some (.mu T sz ver xs)) : Src w (Mu cx.M0 own s.objs) sz xs (own k) := by
  obtain ⟨cells, hc, hrow, hx⟩ := r.mu_own hk
  refine ⟨cells, ?_, fun u hu => ?_, hc.1, hrow, hx⟩
  · rcases hc.2 with ⟨h1, h2⟩ | ⟨g, cap, cur, h1, _⟩
    · exact .inl ⟨h1, h2, by have := hc.1; rw [h2, Nat.zero_mul] at this; exact List.eq_nil_of_length_eq_zero this⟩
    · exact .inr ⟨⟨g, 0, none⟩, cap, h1, hc.1, hc.cells (g := g) (by rw [h1]; rfl)⟩
  · obtain ⟨q, hq⟩ := List.getElem?_of_mem hu
    have hlt := (List.getElem?_eq_some_iff.1 hq).1
    rw [hc.1] at hlt
    have hs : 0 < sz := by
      rcases Nat.eq_zero_or_pos sz with h | h
      · subst h; simp at hlt
      · exact h
    have hi : q / sz < xs.length := by rw [Nat.div_lt_iff_lt_mul hs]; exact hlt
    have hm : q % sz < (xs[q / sz]).length := by rw [hrow _ (List.getElem_mem hi)]; exact Nat.mod_lt _ hs
    have := (hx _ _ _ _ (List.getElem?_eq_getElem hi) (List.getElem?_eq_getElem hm)).one
    rw [Nat.div_add_mod'] at this
    rwa [List.getD_eq_getElem?_getD, hq] at this

theorem Rl.appMu {P : Program} {cx : Cx} {n : Nat} {s : S} {a : Act} {w : World} {own : Nat → Value} (r : Rl P cx n s a w own) {T E sz bytes ty k ver : Nat} (si : SI P T E) (ei : EI P E sz bytes) (hsz : 0 < sz) {xs ys : List (List PV)}
    (hk : get s.objs k = some (.mu E sz ver xs)) {y : Value} (hy : Src w (Mu cx.M0 own s.objs) sz ys y) (hb : (xs.length + ys.length) * bytes ≤ 140737488355328) (h63 : xs.length + ys.length ≤ 140737488355328) :
    ∃ v' w', (Builtin.append_ #[T, T] ty #[own k, y]).run P w = .ok v' w' ∧ Rl P cx n ⟨s.regs, setO s.objs k (.mu E sz (ver + 1) (xs ++ ys))⟩ a w' (upd own k v') ∧ v'.oneCell' = true := by
  obtain ⟨cells, hc, hrow, hx⟩ := r.mu_own hk
  obtain ⟨news, hn1, hn2, hn3, hn4, hn5⟩ := hy
  obtain ⟨v', w', hr, g1, g2, g3⟩ := run_app (ty := ty) si ei hsz hc hn1 hn2 hb h63
  have hsize : w.heap.size ≤ w'.heap.size := by rcases g3 with ⟨h, _⟩ | ⟨h, _⟩ <;> exact h.size
  have key := r.remu (v' := v') (ver' := ver + 1) (xs' := xs ++ ys) (w' := w') (cells' := cells ++ news) hk (Nat.le_succ _) (fun h => by omega) (by rw [List.length_append]; exact g1)
    (fun row h => by
      rcases List.mem_append.1 h with h | h
      · exact hrow row h
      · exact hn4 row h)
    (by rcases g3 with ⟨h, _⟩ | ⟨h, _⟩ <;> exact h.os) (by rcases g3 with ⟨h, _⟩ | ⟨h, _⟩ <;> exact h.tape) (by rcases g3 with ⟨h, _⟩ | ⟨h, _⟩ <;> exact h.output) hsize
    (fun b hb hne => by
      rcases g3 with ⟨h, h2⟩ | ⟨h, _⟩
      · exact h.block b hb (fun e => hne (h2 ▸ e.symm))
      · exact h.block b hb (by simp))
    (fun b hb => by
      rcases g3 with ⟨_, h2⟩ | ⟨_, h2⟩
      · exact .inl (h2 ▸ hb)
      · exact .inr (h2 b hb))
    (fun b cs hb hcs => by
      rcases g3 with ⟨h, h2⟩ | ⟨h, _⟩
      · rcases g1.2 with ⟨h3, _⟩ | ⟨g, cap, cur, h3, _, h4, _⟩
        · rw [← h2, h3] at hb; simp [blk] at hb
        · rw [← h2, h3] at hb
          simp only [blk, Option.some.injEq] at hb
          subst hb
          exact ⟨_, h4⟩
      · exact ⟨cs, by rw [h.block b (Array.getElem?_eq_some_iff.1 hcs).1 (by simp)]; exact hcs⟩)
    (fun hst i row j x hi hj => by
      rcases Nat.lt_or_ge i xs.length with h | h
      · rw [List.getElem?_append_left h] at hi
        have hjs : j < sz := by have := hrow _ (List.mem_of_getElem? hi); have := (List.getElem?_eq_some_iff.1 hj).1; omega
        have hlt : i * sz + j < xs.length * sz := by
          have : (i + 1) * sz ≤ xs.length * sz := Nat.mul_le_mul_right _ h
          rw [Nat.add_mul] at this; omega
        rw [List.getD_eq_getElem?_getD, List.getElem?_append_left (by rw [hc.1]; exact hlt), ← List.getD_eq_getElem?_getD]
        exact (hx i row j x hi hj).stp hst
      · rw [List.getElem?_append_right h] at hi
        have hge : xs.length * sz ≤ i * sz := Nat.mul_le_mul_right _ h
        have e : (cells ++ news).getD (i * sz + j) undef = news.getD ((i - xs.length) * sz + j) undef := by
          rw [List.getD_eq_getElem?_getD, List.getElem?_append_right (by rw [hc.1]; omega), ← List.getD_eq_getElem?_getD, hc.1]
          congr 1
          rw [Nat.sub_mul]; omega
        rw [e]
        exact (hn5 _ row j x hi hj).stp hst)
  refine ⟨v', w', hr, key.1, ?_⟩
  rcases g1.2 with ⟨h3, _⟩ | ⟨g, cap, cur, h3, _⟩ <;> rw [h3] <;> rfl

theorem Rl.put_tm {P : Program} {cx : Cx} {n : Nat} {s : S} {a : Act} {w : World} {own : Nat → Value} (r : Rl P cx n s a w own) {d k T sz ver : Nat} {xs : List (List PV)} {v : Value} (hd : d < n) (hk : get s.objs k = some (.mu T sz ver xs)) (hv : v = own k) (h1 : v.oneCell' = true) :
    Rl P cx n (s.put d (.tm k ver)) (a.put (some d) v) w own := r.put_same hd (.tm h1 fun q hq => by
  have : hwOf s.objs k = some ver := by unfold hwOf; rw [hk]
  rw [this] at hq; cases hq
  exact ⟨Nat.le_refl _, fun _ => hv⟩)

theorem ti_elem_size {P : Program} {T E sz : Nat} {ag : Bool} (h : P.elem T = E) (ti : TI P E sz ag) (w : World) : (sizeOf (P.elem T)).run P w = .ok sz w := by rw [h]; exact ti.run_size w

section
variable {P : Program} {cx : Cx} {n : Nat} {Q : Exit → S → Prop} {regs : List (Nat × AV)} {objs : Obs} {ops : Array Oper} {rest : List Oper} {d : Nat} {pos : String} {aft : Array Edge} {ty : Nat}

theorem get_setO_self {l : Obs} {k : Nat} {o o' : Ob} (h : get l k = some o) : get (setO l k o') k = some o' := by rw [get_setO, Nat.beq_refl, cond_true, h]; rfl

theorem awl_store_m {T sz k ver i : Nat} {ag : Bool} {p x : Operand} {av : AV} {l : List AV} {ps : List PV} {xs : List (List PV)} {objs' : Obs} (ti : TI P T sz ag) (hp : S.ev ⟨regs, objs⟩ p = some (.pe k ver (i * sz + 0))) (hx : S.ev ⟨regs, objs⟩ x = some av) (hk : get objs k = some (.mu T sz ver xs))
    (hi : i < xs.length) (hl : av.ce = some l) (hps : pus l = some ps) (hsz : Nat.beq ps.length sz = true) (hq : setq objs k (.mu T sz ver (xs.set i ps)) = some objs')
    (kk : AWl P cx n ops rest Q ⟨regs, objs'⟩) : AWl P cx n ops (⟨none, .store T p x, ty, pos, aft, none⟩ :: rest) Q ⟨regs, objs⟩ :=
  awl_op rfl (fun a w own r => by
    have hw : hwOf objs k = some ver := by unfold hwOf; rw [hk]
    have h := r.ev hp
    obtain ⟨us, hu1, hu2, hu3, hu4⟩ := (r.ev hx).ce hl
    obtain ⟨g1, g2⟩ := pus_get hps
    have hs : ps.length = sz := Nat.eq_of_beq_eq_true hsz
    generalize hv : a.eval p = v at h
    cases h with
    | pe h1 ho =>
      obtain ⟨b, len, cap, e, rfl⟩ := (ho ver hw).2 rfl
      obtain ⟨cur, hg, hfit, r'⟩ := r.setMu (us := us) hk (b := b) (by rw [e]; rfl) hi hs (by omega) (fun j y hj => by
        obtain ⟨z, hz, hzp⟩ := g2 j y hj
        exact (hu4 j z hz).pu hzp)
      have hst := run_storeCells_at P b (i * sz) T us 0 cur w hg (by simpa using hfit) hu3
      simp only [Nat.add_zero] at hst
      have hrun : (execOp a.eval ⟨none, .store T p x, ty, pos, aft, none⟩).run P w = .ok .skip (w.setRow b (cur.toList.take (i * sz) ++ us ++ cur.toList.drop (i * sz + us.length)).toArray) := by
        simp only [execOp, hv, Instr.storeAt, Instr.sureAddr, storeVar, Sem.run_bind, Sem.run_pure, Result.andThen_ok, ti.run_size w, Nat.add_zero]
        rw [hu1]
        have : ¬ us.toArray.size ≠ sz := by simp; omega
        rw [if_neg this]
        simp only [List.toList_toArray]
        rw [hst]
        rfl
      exact ⟨undef, _, .inr ⟨hrun, rfl⟩, own, by rw [setq_spec hq]; exact r'⟩) kk

theorem awl_append_m {T E sz bytes k ver : Nat} {s x : Operand} {xs ys : List (List PV)} {av : AV} {objs' : Obs} (si : SI P T E) (ei : EI P E sz bytes) (hs : S.ev ⟨regs, objs⟩ s = some (.tm k ver)) (hk : get objs k = some (.mu E sz ver xs))
    (hx : S.ev ⟨regs, objs⟩ x = some av) (hr : av.rows = some (sz, ys)) (hsz : Nat.blt 0 sz = true) (hq : setq objs k (.mu E sz (ver + 1) (xs ++ ys)) = some objs') (hd : Nat.blt d n = true) (hb : (xs.length + ys.length) * bytes ≤ 140737488355328) (h63 : xs.length + ys.length ≤ 140737488355328)
    (kk : AWl P cx n ops rest Q ⟨(d, .tm k (ver + 1)) :: regs, objs'⟩) :
    AWl P cx n ops (⟨some d, .call ⟨.builtin .append, #[s, x], #[T, T]⟩, ty, pos, aft, none⟩ :: rest) Q ⟨regs, objs⟩ :=
  awl_op rfl (fun a w own r => by
    have hv := r.tm_val hk (r.ev hs)
    obtain ⟨v', w', e1, e2, e3⟩ := r.appMu (ty := ty) si ei (by simpa using hsz) hk (Src.of_rep ((r.ev hx).rows hr)) hb h63
    refine ⟨v', w', .inl (exec_append (by rw [hv]; exact e1)), upd own k v', ?_⟩
    have := e2.put_tm (d := d) (v := v') (by simpa using hd) (get_setO_self hk) (by rw [upd_eq]) e3
    rw [← setq_spec hq] at this
    exact this) kk
/-- What is appended may be written over itself. -/
theorem awl_append_m2 {T E sz bytes k ver k2 ver2 : Nat} {s x : Operand} {xs ys : List (List PV)} {objs' : Obs} (si : SI P T E) (ei : EI P E sz bytes) (hs : S.ev ⟨regs, objs⟩ s = some (.tm k ver)) (hk : get objs k = some (.mu E sz ver xs))
    (hx : S.ev ⟨regs, objs⟩ x = some (.tm k2 ver2)) (hk2 : get objs k2 = some (.mu E sz ver2 ys)) (hsz : Nat.blt 0 sz = true) (hq : setq objs k (.mu E sz (ver + 1) (xs ++ ys)) = some objs') (hd : Nat.blt d n = true) (hb : (xs.length + ys.length) * bytes ≤ 140737488355328) (h63 : xs.length + ys.length ≤ 140737488355328)
    (kk : AWl P cx n ops rest Q ⟨(d, .tm k (ver + 1)) :: regs, objs'⟩) :
    AWl P cx n ops (⟨some d, .call ⟨.builtin .append, #[s, x], #[T, T]⟩, ty, pos, aft, none⟩ :: rest) Q ⟨regs, objs⟩ :=
  awl_op rfl (fun a w own r => by
    have hv := r.tm_val hk (r.ev hs)
    have hv2 := r.tm_val hk2 (r.ev hx)
    obtain ⟨v', w', e1, e2, e3⟩ := r.appMu (ty := ty) si ei (by simpa using hsz) hk (Src.of_mu r hk2) hb h63
    refine ⟨v', w', .inl (exec_append (by rw [hv, hv2]; exact e1)), upd own k v', ?_⟩
    have := e2.put_tm (d := d) (v := v') (by simpa using hd) (get_setO_self hk) (by rw [upd_eq]) e3
    rw [← setq_spec hq] at this
    exact this) kk

/-- The first h elements. -/
theorem awl_cut_m {T E sz k ver : Nat} {ag : Bool} {x y : Operand} {xs : List (List PV)} {kd : IntKind} {h : Int} {objs' : Obs} (si : SI P T E) (ti : TI P E sz ag) (hx : S.ev ⟨regs, objs⟩ x = some (.tm k ver)) (hk : get objs k = some (.mu E sz ver xs))
    (hy : S.ev ⟨regs, objs⟩ y = some (.p (.v (.int kd h)))) (h0 : 0 ≤ h) (h1 : h ≤ (xs.length : Int)) (hq : setq objs k (.mu E sz (ver + 1) (xs.take h.toNat)) = some objs') (hd : Nat.blt d n = true)
    (kk : AWl P cx n ops rest Q ⟨(d, .tm k (ver + 1)) :: regs, objs'⟩) :
    AWl P cx n ops (⟨some d, .slice T x none (some y) none, ty, pos, aft, none⟩ :: rest) Q ⟨regs, objs⟩ :=
  awl_op rfl (fun a w own r => by
    have hv := r.tm_val hk (r.ev hx)
    have hvy := (r.ev hy).val
    obtain ⟨cells, hc, hrow, hxx⟩ := r.mu_own hk
    have hel : P.underlying T = some (.slice (P.elem T)) := by simp [Program.elem, si.h]
    have hel' : P.elem T = E := by simp [Program.elem, si.h]
    have hlen : (xs.take h.toNat).length = h.toNat := by simp; omega
    have hm : h.toNat * sz ≤ xs.length * sz := Nat.mul_le_mul_right _ (by omega)
    obtain ⟨v', hrun, hown, hbk⟩ : ∃ v', (execOp a.eval ⟨some d, .slice T x none (some y) none, ty, pos, aft, none⟩).run P w = .ok (.value v') w ∧ w.ownsRow 0 E sz v' (xs.take h.toNat).length (cells.take (h.toNat * sz)) ∧ blk v' = blk (own k) := by
      rw [hlen]
      rcases hc.2 with ⟨e1, e2⟩ | ⟨g, cap, cur, e1, e2, e3, e4, e5, e6, e7⟩
      · refine ⟨.slice none 0 0, ?_, ⟨by have := hc.1; simp; omega, .inl ⟨rfl, by omega⟩⟩, by rw [e1]⟩
        simp only [execOp, hv, hvy, e1, Option.map_some, Option.map_none, Sem.run_bind]
        rw [run_sliceAt_slice w T _ _ _ _ hel, run_slice_h w T none 0 0 hel kd h h0 (by omega), ti_elem_size hel' ti w]
        have : h.toNat = 0 := by omega
        simp [Result.andThen_ok, sliced, this]
      · refine ⟨.slice (some ⟨g, 0, none⟩) h.toNat cap, ?_, ⟨by have := hc.1; simp; omega, .inr ⟨g, cap, cur, rfl, e2, e3, by omega, e5, e6, ?_⟩⟩, by rw [e1]; rfl⟩
        · simp only [execOp, hv, hvy, e1, Option.map_some, Option.map_none, Sem.run_bind]
          rw [run_sliceAt_slice w T _ _ _ _ hel, run_slice_h w T (some ⟨g, 0, none⟩) xs.length cap hel kd h h0 (by omega), ti_elem_size hel' ti w]
          have : (⟨g, 0, none⟩ : Addr).add 0 = ⟨g, 0, none⟩ := by simp [Addr.add]
          simp [Result.andThen_ok, sliced, this]
        · rw [← e7, List.take_take, Nat.min_eq_left hm]
    have key := r.remu (v' := v') (ver' := ver + 1) (xs' := xs.take h.toNat) (w' := w) (cells' := cells.take (h.toNat * sz)) hk (Nat.le_succ _) (fun h => by omega) hown (fun row hr => hrow row (List.mem_of_mem_take hr)) rfl rfl rfl (Nat.le_refl _) (fun _ _ _ => rfl)
      (fun b hb => .inl (by rw [← hbk]; exact hb)) (fun b cs _ hcs => ⟨cs, hcs⟩)
      (fun hst i row j x hi hj => by
        have hil : i < h.toNat := by have := (List.getElem?_eq_some_iff.1 hi).1; omega
        rw [List.getElem?_take_of_lt hil] at hi
        have hjs : j < sz := by have := hrow _ (List.mem_of_getElem? hi); have := (List.getElem?_eq_some_iff.1 hj).1; omega
        have hlt : i * sz + j < h.toNat * sz := by
          have : (i + 1) * sz ≤ h.toNat * sz := Nat.mul_le_mul_right _ hil
          rw [Nat.add_mul] at this; omega
        rw [List.getD_eq_getElem?_getD, List.getElem?_take_of_lt hlt, ← List.getD_eq_getElem?_getD]
        exact (hxx i row j x hi hj).stp hst)
    have hone : v'.oneCell' = true := by rcases hown.2 with ⟨h3, _⟩ | ⟨g, cap, cur, h3, _⟩ <;> rw [h3] <;> rfl
    refine ⟨v', w, .inl hrun, upd own k v', ?_⟩
    have := key.1.put_tm (d := d) (v := v') (by simpa using hd) (get_setO_self hk) (by rw [upd_eq]) hone
    rw [← setq_spec hq] at this
    exact this) kk
end
end Go.Ab
