/- Slices of one's own: made, appended to. -/
import Derived.Test.YtnennmlpaijedaaAb7
import Derived.ArgAppend
import Derived.Laws.OwnMore
set_option linter.unusedVariables false
set_option linter.unusedSimpArgs false
namespace Go.Ab
open Go Go.RowKit

theorem ownBlock_blk {w : World} {b T sz n : Nat} {v : Value} {cells : List Value} (h : w.ownsRow b T sz v n cells) : v.ownBlock = blk v := by
  rcases h.2 with ⟨rfl, _⟩ | ⟨g, cap, cur, rfl, _⟩ <;> rfl

/-- A new own slice, or one that takes the place of another: what is asked of the machine's step. -/
theorem Rl.grow {P : Program} {cx : Cx} {n : Nat} {s : S} {a : Act} {w w' : World} {own : Nat → Value} (r : Rl P cx n s a w own) {k T sz m m' : Nat} {v' : Value} {cells' : List Value}
    (hk : get s.objs k = some (.ar T sz m)) (hm : m ≤ m') (hown : w'.ownsRow 0 T sz v' m' cells')
    (hpre : ∀ cells, w.ownsRow 0 T sz (own k) m cells → cells'.take (m * sz) = cells)
    (hstep : (w.grownBy w' (blk v') ∧ blk v' = blk (own k)) ∨ (w.grownBy w' none ∧ ∀ b, blk v' = some b → w.heap.size ≤ b)) (hsame : m' = m → v' = own k) :
    Rl P cx n ⟨s.regs, setO s.objs k (.ar T sz m')⟩ a w' (upd own k v') ∧ Stp w (Mu cx.M0 own s.objs) w' (Mu cx.M0 (upd own k v') (setO s.objs k (.ar T sz m'))) := by
  have hmem := get_mem hk
  obtain ⟨cells, hc⟩ := r.ok.obs k _ hmem
  have hpre' := hpre cells hc
  have hblk' : ∀ b, blk v' = some b → blk (own k) = some b ∨ w.heap.size ≤ b := fun b hb => by
    rcases hstep with ⟨_, h⟩ | ⟨_, h⟩
    · exact .inl (h ▸ hb)
    · exact .inr (h b hb)
  have hsize : w.heap.size ≤ w'.heap.size := by rcases hstep with ⟨h, _⟩ | ⟨h, _⟩ <;> exact h.size
  have hkeep : ∀ b, b < w.heap.size → blk (own k) ≠ some b → w'.heap[b]? = w.heap[b]? := fun b hb hne => by
    rcases hstep with ⟨h, h2⟩ | ⟨h, h2⟩
    · exact h.block b hb (fun e => hne (h2 ▸ e.symm))
    · exact h.block b hb (by simp)
  -- cells of the own array that are laid stand
  have hlaid : ∀ b i u, blk (own k) = some b → i < m * sz → w.cell? ⟨b, i, none⟩ = some u → w'.cell? ⟨b, i, none⟩ = some u := fun b i u hb hi hu => by
    rcases hstep with ⟨h, h2⟩ | ⟨h, h2⟩
    · have e1 : cells[i]? = some u := by
        have hlt : i < cells.length := by rw [hc.1]; exact hi
        have := hc.cells (g := b) (by rw [ownBlock_blk hc]; exact hb) i cells[i] (List.getElem?_eq_getElem hlt)
        rw [add_at, Nat.zero_add, hu] at this
        rw [List.getElem?_eq_getElem hlt]; exact this.symm
      have e2 : cells'[i]? = some u := by
        rw [← hpre', List.getElem?_take_of_lt hi] at e1; exact e1
      have := hown.cells (g := b) (by rw [ownBlock_blk hown, h2]; exact hb) i u e2
      rwa [add_at, Nat.zero_add] at this
    · have hlt := World.block_lt_of_cell? w _ hu
      rw [World.cell?_of_block (w := w) (h.block b hlt (by simp))]; exact hu
  have hM : ∀ b i, Mu cx.M0 (upd own k v') (setO s.objs k (.ar T sz m')) b i → Mu cx.M0 own s.objs b i ∨ w.heap.size ≤ b := by
    rintro b i (h | ⟨j, o, hj, hmu⟩)
    · exact .inl (.inl h)
    · rcases setO_mem r.ok.keys hj with ⟨rfl, rfl⟩ | ⟨hne, h⟩
      · rw [upd_eq] at hmu
        obtain ⟨h1, h2⟩ := hmu
        rcases hblk' b h1 with h3 | h3
        · exact .inl (.inr ⟨j, _, hmem, h3, Nat.le_trans (Nat.mul_le_mul_right _ hm) h2⟩)
        · exact .inr h3
      · rw [upd_ne _ _ hne] at hmu
        exact .inl (.inr ⟨j, o, h, hmu⟩)
  have hs : Stp w (Mu cx.M0 own s.objs) w' (Mu cx.M0 (upd own k v') (setO s.objs k (.ar T sz m'))) :=
    { os := by rcases hstep with ⟨h, _⟩ | ⟨h, _⟩ <;> exact h.os
      tape := by rcases hstep with ⟨h, _⟩ | ⟨h, _⟩ <;> exact h.tape
      output := by rcases hstep with ⟨h, _⟩ | ⟨h, _⟩ <;> exact h.output
      size := hsize
      cell := fun b i u hmu hu => by
        by_cases hb : blk (own k) = some b
        · refine hlaid b i u hb (Classical.byContradiction fun hlt => hmu (.inr ⟨k, _, hmem, hb, by omega⟩)) hu
        · rw [World.cell?_of_block (w := w) (hkeep b (World.block_lt_of_cell? w _ hu) hb)]; exact hu
      mu := hM
      shape := fun b cs T' hb => by
        by_cases hbk : blk (own k) = some b
        · rcases hstep with ⟨h, h2⟩ | ⟨h, h2⟩
          · rcases hown.2 with ⟨h3, _⟩ | ⟨g, cap, cur, h3, _, h4, _⟩
            · rw [← h2, h3] at hbk; simp [blk] at hbk
            · rw [← h2, h3] at hbk
              simp only [blk, Option.some.injEq] at hbk
              subst hbk
              rcases hc.2 with ⟨h5, _⟩ | ⟨g', cap', cur', h5, _, h6, _⟩
              · rw [h3, h5] at h2; simp [blk] at h2
              · rw [h3, h5] at h2
                simp only [blk, Option.some.injEq] at h2
                subst h2
                rw [hb] at h6
                injection h6 with h6
                injection h6 with _ h7 _
                subst h7
                exact ⟨_, h4⟩
          · exact ⟨cs, by rw [h.block b (Array.getElem?_eq_some_iff.1 hb).1 (by simp)]; exact hb⟩
        · exact ⟨cs, by rw [hkeep b (Array.getElem?_eq_some_iff.1 hb).1 hbk]; exact hb⟩ }
  have hkr : ∀ j, Kr own (upd own k v') (hwOf s.objs) (hwOf (setO s.objs k (.ar T sz m'))) j := fun j => by
    by_cases e : j = k
    · subst e
      have h1 : hwOf s.objs j = some m := by unfold hwOf; rw [hk]
      have h2 : hwOf (setO s.objs j (.ar T sz m')) j = some m' := by unfold hwOf; rw [get_setO, hk]; simp
      by_cases e : m' = m
      · exact .inl ⟨by rw [upd_eq]; exact hsame e, by rw [h1, h2, e]⟩
      · refine .inr (.inr ⟨m, m', h1, h2, by omega, fun q hq => ?_⟩)
        rcases hc.2 with ⟨h3, _⟩ | ⟨_, _, _, h3, _⟩ <;> rw [hq] at h3 <;> cases h3
    · refine .inl ⟨upd_ne _ _ e, ?_⟩
      unfold hwOf
      rw [get_setO]
      have : Nat.beq k j = false := by
        cases h : Nat.beq k j with
        | false => rfl
        | true => exact absurd (Nat.eq_of_beq_eq_true h).symm e
      rw [this]; rfl
  refine ⟨{ defs := r.defs, size := r.size, ok := ?_, regs := fun t x hx => (r.regs t x hx).tr hs fun j _ => hkr j, stp := r.stp.trans hs, fix := fun j o hm => (r.fix j o hm).trans (hkr j), fr := r.fr.trans ⟨fun b hb hn => hkeep b hb (hn k _ hmem), fun j o b hj hb => ?_, hsize⟩ }, hs⟩
  · refine { obs := fun j o hj => ?_, keys := by rw [setO_keys]; exact r.ok.keys, inj := ?_, m0 := ?_, m0old := fun b i h => Nat.lt_of_lt_of_le (r.ok.m0old b i h) hsize }
    · rcases setO_mem r.ok.keys hj with ⟨rfl, rfl⟩ | ⟨hne, h⟩
      · exact ⟨cells', by rw [upd_eq]; exact hown⟩
      · have hfar : ∀ b, blk (own j) = some b → w'.heap[b]? = w.heap[b]? := fun b hb =>
          hkeep b (blk_lt r.ok h hb) fun e => r.ok.inj k _ j o hmem h (Ne.symm hne) b e hb
        have h1 := r.ok.obs j o h
        cases o with
        | ce T' cs =>
          obtain ⟨b, vals, e1, e2, e3, e4⟩ := h1
          exact ⟨b, vals, by rw [upd_ne _ _ hne]; exact e1, by rw [hfar b (by rw [e1]; rfl)]; exact e2, e3, fun i x hi => ⟨(e4 i x hi).1, (e4 i x hi).2.tr hs fun q _ => hkr q⟩⟩
        | ar T' sz' q =>
          obtain ⟨cs, e⟩ := h1
          exact ⟨cs, by rw [upd_ne _ _ hne]; exact ownsRow_keep e hfar⟩
        | mu T' sz' ver xs =>
          obtain ⟨cs, e, e2, e3⟩ := h1
          exact ⟨cs, by rw [upd_ne _ _ hne]; exact ownsRow_keep e hfar, e2, fun i row j x hi hj => (e3 i row j x hi hj).stp hs⟩
    · intro j o j' o' hj hj' hne b hb hb'
      have g : ∀ {j o}, (j, o) ∈ setO s.objs k (.ar T sz m') → j ≠ k → (j, o) ∈ s.objs := fun {j o} hj hne => by
        rcases setO_mem r.ok.keys hj with ⟨rfl, _⟩ | ⟨_, h⟩
        · exact absurd rfl hne
        · exact h
      by_cases e : j = k
      · subst e
        have h' := g hj' (Ne.symm hne)
        rw [upd_eq] at hb
        rw [upd_ne _ _ (Ne.symm hne)] at hb'
        rcases hblk' b hb with h3 | h3
        · exact r.ok.inj j _ j' o' hmem h' hne b h3 hb'
        · have := blk_lt r.ok h' hb'; omega
      · have h1 := g hj e
        rw [upd_ne _ _ e] at hb
        by_cases e' : j' = k
        · subst e'
          rw [upd_eq] at hb'
          rcases hblk' b hb' with h3 | h3
          · exact r.ok.inj j' _ j o hmem h1 (Ne.symm hne) b h3 hb
          · have := blk_lt r.ok h1 hb; omega
        · rw [upd_ne _ _ e'] at hb'
          exact r.ok.inj j o j' o' h1 (g hj' e') hne b hb hb'
    · intro j o b hj hb i hm0
      rcases setO_mem r.ok.keys hj with ⟨rfl, rfl⟩ | ⟨hne, h⟩
      · rw [upd_eq] at hb
        rcases hblk' b hb with h3 | h3
        · exact r.ok.m0 j _ b hmem h3 i hm0
        · have := r.ok.m0old b i hm0; omega
      · rw [upd_ne _ _ hne] at hb
        exact r.ok.m0 j o b h hb i hm0
  · rcases setO_mem r.ok.keys hj with ⟨rfl, rfl⟩ | ⟨hne, h⟩
    · rw [upd_eq] at hb
      rcases hblk' b hb with h3 | h3
      · exact .inl ⟨j, _, hmem, h3⟩
      · exact .inr h3
    · rw [upd_ne _ _ hne] at hb
      exact .inl ⟨j, o, h, hb⟩

/-- A nil slice may be appended to: its token. -/
theorem Rl.newTok {P : Program} {cx : Cx} {n : Nat} {s : S} {a : Act} {w : World} {own : Nat → Value} (r : Rl P cx n s a w own) (d T sz : Nat) (hf : fresh d s = true) (h0 : get cx.objs0 d = none) :
    Rl P cx n ⟨s.regs, (d, .ar T sz 0) :: s.objs⟩ a w (upd own d (.slice none 0 0)) ∧ Mu cx.M0 (upd own d (.slice none 0 0)) ((d, .ar T sz 0) :: s.objs) = Mu cx.M0 own s.objs ∧
      (∀ k, k ≠ d → Kr own (upd own d (.slice none 0 0)) (hwOf s.objs) (hwOf ((d, .ar T sz 0) :: s.objs)) k) := by
  simp only [fresh, Bool.and_eq_true] at hf
  have hM : Mu cx.M0 (upd own d (.slice none 0 0)) ((d, .ar T sz 0) :: s.objs) = Mu cx.M0 own s.objs := by
    funext b i
    apply propext
    constructor
    · rintro (h | ⟨k, o, hk, hm⟩)
      · exact .inl h
      · rcases List.mem_cons.1 hk with e | e
        · cases e; rw [upd_eq] at hm; simp [mutOf, blk] at hm
        · rw [upd_ne _ _ (freshO_mem hf.2 k o e).1] at hm; exact .inr ⟨k, o, e, hm⟩
    · rintro (h | ⟨k, o, hk, hm⟩)
      · exact .inl h
      · exact .inr ⟨k, o, List.mem_cons_of_mem _ hk, by rw [upd_ne _ _ (freshO_mem hf.2 k o hk).1]; exact hm⟩
  have hkr : ∀ k, k ≠ d → Kr own (upd own d (.slice none 0 0)) (hwOf s.objs) (hwOf ((d, .ar T sz 0) :: s.objs)) k := fun k hk => .inl ⟨upd_ne _ _ hk, hwOf_cons_ne hk⟩
  have htr : ∀ {x : AV} {v : Value}, (∀ k, Has k x → k ≠ d) → RepA w (Mu cx.M0 own s.objs) own (hwOf s.objs) x v → RepA w (Mu cx.M0 own s.objs) (upd own d (.slice none 0 0)) (hwOf ((d, .ar T sz 0) :: s.objs)) x v :=
    fun hn h => h.tr (Stp.refl _ _) fun k hk => hkr k (hn k hk)
  have hbk : ∀ k o b, (k, o) ∈ (d, Ob.ar T sz 0) :: s.objs → blk (upd own d (.slice none 0 0) k) = some b → (k, o) ∈ s.objs ∧ blk (own k) = some b := fun k o b hk hb => by
    rcases List.mem_cons.1 hk with e | e
    · cases e; rw [upd_eq] at hb; simp [blk] at hb
    · rw [upd_ne _ _ (freshO_mem hf.2 k o e).1] at hb; exact ⟨e, hb⟩
  refine ⟨{ defs := r.defs, size := r.size, ok := ?_, regs := fun t x hx => ?_, stp := by rw [hM]; exact r.stp, fix := fun k o hm => (r.fix k o hm).trans (hkr k ?_), fr := ⟨r.fr.keep, fun k o b hk hb => ?_, r.fr.size⟩ }, hM, hkr⟩
  · refine { obs := fun k o hk => ?_, keys := ?_, inj := fun k o k' o' hk hk' hne b hb hb' => ?_, m0 := fun k o b hk hb => ?_, m0old := r.ok.m0old }
    · rw [hM]
      rcases List.mem_cons.1 hk with e | e
      · cases e; exact ⟨[], by rw [upd_eq]; exact ⟨by simp, .inl ⟨rfl, rfl⟩⟩⟩
      · have hne := (freshO_mem hf.2 k o e).1
        have h1 := r.ok.obs k o e
        cases o with
        | ce T' cs =>
          obtain ⟨b, vals, e1, e2, e3, e4⟩ := h1
          exact ⟨b, vals, by rw [upd_ne _ _ hne]; exact e1, e2, e3, fun i x hi => ⟨(e4 i x hi).1, htr (fun q hq => freshO_has hf.2 e hi hq) (e4 i x hi).2⟩⟩
        | ar T' sz' q =>
          obtain ⟨cs, h2⟩ := h1
          exact ⟨cs, by rw [upd_ne _ _ hne]; exact h2⟩
        | mu T' sz' ver xs =>
          obtain ⟨cs, h2, h3, h4⟩ := h1
          exact ⟨cs, by rw [upd_ne _ _ hne]; exact h2, h3, h4⟩
    · simp only [List.map_cons, List.nodup_cons]
      refine ⟨fun h => ?_, r.ok.keys⟩
      obtain ⟨⟨k, o⟩, hk, e⟩ := List.mem_map.1 h
      exact (freshO_mem hf.2 k o hk).1 e
    · obtain ⟨h1, h2⟩ := hbk k o b hk hb
      obtain ⟨h3, h4⟩ := hbk k' o' b hk' hb'
      exact r.ok.inj k o k' o' h1 h3 hne b h2 h4
    · obtain ⟨h1, h2⟩ := hbk k o b hk hb
      exact r.ok.m0 k o b h1 h2
  · rw [hM]; exact htr (freshR_get hf.1 t x hx) (r.regs t x hx)
  · intro e; subst e; exact get_some_of_mem (List.mem_map_of_mem (f := (·.1)) hm) h0
  · obtain ⟨h1, h2⟩ := hbk k o b hk hb
    exact r.fr.loc k o b h1 h2

/-- An element type: its cells, its bytes. -/
structure EI (P : Program) (E sz bytes : Nat) : Prop where
  h : (P.info? E).map (fun i => (i.size, i.bytes, i.zero.map (·.cells.size))) = some (sz, bytes, some sz)

theorem EI.get {P : Program} {E sz bytes : Nat} (h : EI P E sz bytes) : ∃ i z, P.info? E = some i ∧ i.zero = some z ∧ i.size = sz ∧ i.bytes = bytes ∧ z.cells.size = sz := by
  have := h.h
  cases hq : P.info? E with
  | none => simp [hq] at this
  | some i =>
    simp only [hq, Option.map_some, Option.some.injEq, Prod.mk.injEq] at this
    obtain ⟨h1, h2, h3⟩ := this
    cases hz : i.zero with
    | none => simp [hz] at h3
    | some z => simp [hz] at h3; exact ⟨i, z, rfl, hz, h1, h2, h3⟩

/-- The machine's append onto a slice of one's own. -/
theorem run_app {P : Program} {w : World} {T E sz bytes ty : Nat} (si : SI P T E) (ei : EI P E sz bytes) (hsz : 0 < sz) {v : Value} {n : Nat} {xs : List Value} (hown : w.ownsRow 0 E sz v n xs)
    {y : Value} {m : Nat} {news : List Value} (hy : (y = .slice none 0 0 ∧ m = 0 ∧ news = []) ∨ ∃ a c, y = .slice (some a) m c ∧ news.length = m * sz ∧ ∀ j u, news[j]? = some u → w.cell? (a.add j) = some u)
    (h1 : ∀ u ∈ news, u.oneCell' = true) (hb : (n + m) * bytes ≤ 140737488355328) (h63 : n + m ≤ 140737488355328) :
    ∃ v' w', (Builtin.append_ #[T, T] ty #[v, y]).run P w = .ok v' w' ∧ w'.ownsRow 0 E sz v' (n + m) (xs ++ news) ∧ (n + m = n → v' = v) ∧
      ((w.grownBy w' (blk v') ∧ blk v' = blk v) ∨ (w.grownBy w' none ∧ ∀ b, blk v' = some b → w.heap.size ≤ b)) := by
  obtain ⟨i, z, hi, hz, hs, hby, hzs⟩ := ei.get
  rcases hy with ⟨rfl, rfl, rfl⟩ | ⟨a, c, rfl, hl, hn⟩
  · refine ⟨v, w, run_append_owned_none w 0 T ty E i sz si.h hi v n xs hown, by simpa using hown, fun _ => rfl, .inl ⟨World.grownBy.refl w _, rfl⟩⟩
  · rcases hown.2 with ⟨rfl, rfl⟩ | ⟨g, cap, cur, rfl, hbg, hg, hnc, hcm, hcs, htake⟩
    · obtain ⟨v', w', hr, h2, h3, h4, h5⟩ := run_append_own_at (P := P) w 0 T ty E i z sz bytes si.h hi hz hs hby hzs hsz _ 0 xs hown a m c news hl hn h1 (by simp only [maxLen]; omega) hb (by omega)
      refine ⟨v', w', hr, h2, fun hm => h4.2 ⟨rfl, by omega⟩, .inr ⟨by simpa [Value.ownBlock] using h3, fun b hb => ?_⟩⟩
      rw [ownBlock_blk h2, hb] at h5
      rcases h5 with h5 | h5
      · simp [Value.ownBlock] at h5
      · injection h5 with h5; omega
    · by_cases hroom : n + m ≤ cap
      · obtain ⟨w', hr, h2, h3⟩ := run_append_fits (P := P) w 0 T ty E i sz si.h hi hs g n cap xs hown a m c news hl hn h1 hroom
        exact ⟨_, w', hr, h2, fun hm => by rw [hm], .inl ⟨h3, rfl⟩⟩
      · have holds : ∀ j u, xs[j]? = some u → w.cell? ((⟨g, 0, none⟩ : Addr).add j) = some u := hown.cells (g := g) rfl
        obtain ⟨v', w', hr, h2, h3⟩ := run_append_arg_grows (P := P) w T ty E i z sz bytes si.h hi hz hs hby hzs hsz ⟨g, 0, none⟩ n cap xs hown.1 holds a m c news hl hn (by omega) (by simp only [maxLen]; omega) hb
        refine ⟨v', w', hr, ⟨h2.1, ?_⟩, fun hm => by omega, .inr ⟨h3, fun b hb => ?_⟩⟩
        · rcases h2.2 with h | ⟨g', cap', cur', e1, e2, r⟩
          · exact .inl h
          · exact .inr ⟨g', cap', cur', e1, by omega, r⟩
        · rcases h2.2 with ⟨rfl, _⟩ | ⟨g', cap', cur', rfl, e2, _⟩
          · simp [blk] at hb
          · simp only [blk, Option.some.injEq] at hb; omega

/-- The cells behind a slice's rows. -/
theorem Rep.sl_cells {w : World} {M : Nat → Nat → Prop} {sz : Nat} {xs : List (List PV)} {v : Value} (h : Rep w M (.sl sz xs) v) :
    ∃ news : List Value, ((v = .slice none 0 0 ∧ xs.length = 0 ∧ news = []) ∨ ∃ a c, v = .slice (some a) xs.length c ∧ news.length = xs.length * sz ∧ ∀ j u, news[j]? = some u → w.cell? (a.add j) = some u) ∧
      (∀ u ∈ news, u.oneCell' = true) ∧ news.length = xs.length * sz ∧ (∀ (i : Nat) (row : List PV), xs[i]? = some row → row.length = sz) ∧
      ∀ (i : Nat) (row : List PV) (j : Nat) (x : PV), xs[i]? = some row → row[j]? = some x → Rep w M x (news.getD (i * sz + j) undef) := by
  cases h with
  | nil => exact ⟨[], .inl ⟨rfl, rfl, rfl⟩, by simp, by simp, by simp, by simp⟩
  | sl a cap f hcap hmax hrow hcell hM hx =>
    have hrj : ∀ q, q < xs.length * sz → ∃ row x, xs[q / sz]? = some row ∧ row[q % sz]? = some x := fun q hq => by
      have hs : 0 < sz := by
        rcases Nat.eq_zero_or_pos sz with h | h
        · subst h; simp at hq
        · exact h
      have hlt : q / sz < xs.length := by rw [Nat.div_lt_iff_lt_mul hs]; exact hq
      refine ⟨xs[q / sz], ?_⟩
      have hlen := hrow _ _ (List.getElem?_eq_getElem hlt)
      have hm : q % sz < xs[q / sz].length := by rw [hlen]; exact Nat.mod_lt _ hs
      exact ⟨_, List.getElem?_eq_getElem hlt, List.getElem?_eq_getElem hm⟩
    refine ⟨(List.range (xs.length * sz)).map fun q => f (q / sz) (q % sz), .inr ⟨a, cap, rfl, by simp, fun j u hj => ?_⟩, fun u hu => ?_, by simp, hrow, fun i row j x h1 h2 => ?_⟩
    · simp only [List.getElem?_map, Option.map_eq_some_iff] at hj
      obtain ⟨q, hq, rfl⟩ := hj
      have hlt := (List.getElem?_eq_some_iff.1 hq).1
      rw [List.getElem?_range (by simpa using hlt)] at hq
      cases hq
      obtain ⟨row, x, h1, h2⟩ := hrj j (by simpa using hlt)
      have := hcell _ _ _ _ h1 h2
      rwa [Nat.div_add_mod'] at this
    · obtain ⟨q, hq, rfl⟩ := List.mem_map.1 hu
      obtain ⟨row, x, h1, h2⟩ := hrj q (by simpa using hq)
      exact (hx _ _ _ _ h1 h2).one
    · have hj : j < sz := by have := hrow _ _ h1; have := (List.getElem?_eq_some_iff.1 h2).1; omega
      have hi : i < xs.length := (List.getElem?_eq_some_iff.1 h1).1
      have hlt : i * sz + j < xs.length * sz := by
        have : (i + 1) * sz ≤ xs.length * sz := Nat.mul_le_mul_right _ hi
        rw [Nat.add_mul] at this; omega
      have e : ((List.range (xs.length * sz)).map fun q => f (q / sz) (q % sz)).getD (i * sz + j) undef = f i j := by
        rw [getD_of (x := f ((i * sz + j) / sz) ((i * sz + j) % sz)) (by simp [hlt])]
        have h3 : (i * sz + j) / sz = i := by rw [Nat.mul_comm, Nat.mul_add_div (by omega), Nat.div_eq_of_lt hj, Nat.add_zero]
        have h4 : (i * sz + j) % sz = j := by rw [Nat.mul_comm, Nat.mul_add_mod, Nat.mod_eq_of_lt hj]
        rw [h3, h4]
      rw [e]; exact hx _ _ _ _ h1 h2

/-- What an own row's cells stand for. -/
theorem Rep.of_own {w : World} {M : Nat → Nat → Prop} {T sz m : Nat} {v : Value} {cells : List Value} {xs : List (List PV)} (h : w.ownsRow 0 T sz v m cells) (hm : xs.length = m)
    (hrow : ∀ (i : Nat) (row : List PV), xs[i]? = some row → row.length = sz) (hM : ∀ b i, blk v = some b → i < m * sz → ¬ M b i)
    (hx : ∀ (i : Nat) (row : List PV) (j : Nat) (x : PV), xs[i]? = some row → row[j]? = some x → Rep w M x (cells.getD (i * sz + j) undef)) : Rep w M (.sl sz xs) v := by
  have hlt : ∀ i row j x, xs[i]? = some row → row[j]? = some x → i * sz + j < m * sz := fun i row j x h1 h2 => by
    have hj : j < sz := by have := hrow _ _ h1; have := (List.getElem?_eq_some_iff.1 h2).1; omega
    have hi : i < xs.length := (List.getElem?_eq_some_iff.1 h1).1
    have : (i + 1) * sz ≤ m * sz := Nat.mul_le_mul_right _ (by omega)
    rw [Nat.add_mul] at this; omega
  rcases h.2 with ⟨rfl, h0⟩ | ⟨g, cap, cur, rfl, _, hg, hnc, hcm, _⟩
  · have : xs = [] := List.eq_nil_of_length_eq_zero (by omega)
    subst this; exact .nil
  · subst hm
    refine .sl ⟨g, 0, none⟩ cap (fun i j => cells.getD (i * sz + j) undef) hnc hcm hrow (fun i row j x h1 h2 => ?_) (fun i row j x h1 h2 => ?_) hx
    · have hl := hlt i row j x h1 h2
      have hc : cells[i * sz + j]? = some (cells.getD (i * sz + j) undef) := by
        rw [List.getD_eq_getElem?_getD, List.getElem?_eq_getElem (by rw [h.1]; exact hl)]; rfl
      exact h.cells (g := g) rfl _ _ hc
    · rw [Nat.zero_add]; exact hM _ _ rfl (hlt i row j x h1 h2)

/-- append onto the own slice k. -/
theorem Rl.app {P : Program} {cx : Cx} {n : Nat} {s : S} {a : Act} {w : World} {own : Nat → Value} (r : Rl P cx n s a w own) {T E sz bytes ty k m : Nat} (si : SI P T E) (ei : EI P E sz bytes) (hsz : 0 < sz)
    (hk : get s.objs k = some (.ar E sz m)) {xs ys : List (List PV)} (hm : m = xs.length) {v y : Value} {sz2 : Nat} (hv : v = own k) (hx : Rep w (Mu cx.M0 own s.objs) (.sl sz xs) v)
    (hy : Rep w (Mu cx.M0 own s.objs) (.sl sz2 ys) y) (h2 : sz2 = sz ∨ ys = []) (hb : (xs.length + ys.length) * bytes ≤ 140737488355328) (h63 : xs.length + ys.length ≤ 140737488355328) :
    ∃ v' w', (Builtin.append_ #[T, T] ty #[v, y]).run P w = .ok v' w' ∧ Rl P cx n ⟨s.regs, setO s.objs k (.ar E sz (xs.length + ys.length))⟩ a w' (upd own k v') ∧
      RepA w' (Mu cx.M0 (upd own k v') (setO s.objs k (.ar E sz (xs.length + ys.length)))) (upd own k v') (hwOf (setO s.objs k (.ar E sz (xs.length + ys.length)))) (.ts k sz (xs ++ ys)) v' := by
  have hy' : Rep w (Mu cx.M0 own s.objs) (.sl sz ys) y := by
    rcases h2 with rfl | rfl
    · exact hy
    · cases hy with
      | nil => exact .nil
      | sl a cap f h1 h2 h3 h4 h5 h6 => exact .sl (xs := []) a cap f h1 h2 (by simp) (by simp) (by simp) (by simp)
  subst hm
  have hmem := get_mem hk
  obtain ⟨cells, hown⟩ := r.ok.obs k _ hmem
  rw [← hv] at hown
  obtain ⟨olds, ho1, _, ho3, ho4, ho5⟩ := hx.sl_cells
  obtain ⟨news, hn1, hn2, hn3, hn4, hn5⟩ := hy'.sl_cells
  obtain ⟨v', w', hr, g1, g2, g3⟩ := run_app (ty := ty) si ei hsz hown hn1 hn2 hb h63
  have hcells : ∀ q, q < xs.length * sz → cells.getD q undef = olds.getD q undef := fun q hq => by
    rcases ho1 with ⟨_, h, _⟩ | ⟨ad, c, e, hl, ho⟩
    · rw [h] at hq; simp at hq
    · rcases hown.2 with ⟨e', _⟩ | ⟨g, cap, cur, e', _⟩
      · rw [e] at e'; cases e'
      · have h1 : olds[q]? = some (olds.getD q undef) := by rw [List.getD_eq_getElem?_getD, List.getElem?_eq_getElem (by omega)]; rfl
        have h3 : cells[q]? = some (cells.getD q undef) := by rw [List.getD_eq_getElem?_getD, List.getElem?_eq_getElem (by rw [hown.1]; exact hq)]; rfl
        have h4 := ho q _ h1
        rw [e] at e'
        injection e' with e1 e2 e3
        injection e1 with e1
        have h5 := hown.cells (g := g) (by rw [e, e1]; rfl) q _ h3
        rw [e1] at h4
        rw [h4] at h5
        injection h5 with h5
        exact h5.symm
  obtain ⟨r', hs⟩ := r.grow (v' := v') (cells' := cells ++ news) (w' := w') hk (Nat.le_add_right _ _) g1
    (fun c hc => by
      have : c = cells := by
        rw [← hv] at hc
        apply List.ext_getElem?
        intro q
        by_cases hq : q < xs.length * sz
        · rcases hc.2 with ⟨e', h0⟩ | ⟨g, cap, cur, e', _⟩
          · have : xs.length * sz = 0 := by rw [h0]; simp
            omega
          · have hq1 : q < c.length := by rw [hc.1]; exact hq
            have hq2 : q < cells.length := by rw [hown.1]; exact hq
            have h5 := hc.cells (g := g) (by rw [e']; rfl) q _ (List.getElem?_eq_getElem hq1)
            have h6 := hown.cells (g := g) (by rw [e']; rfl) q _ (List.getElem?_eq_getElem hq2)
            rw [h5] at h6
            rw [List.getElem?_eq_getElem hq1, List.getElem?_eq_getElem hq2]
            exact h6
        · rw [List.getElem?_eq_none (by rw [hc.1]; omega), List.getElem?_eq_none (by rw [hown.1]; omega)]
      subst this
      rw [← hc.1]; exact List.take_left)
    (by rw [← hv]; exact g3) (fun h => by rw [← hv]; exact g2 h)
  refine ⟨v', w', hr, r', .ts (Rep.of_own g1 (by simp) ?_ ?_ ?_) fun q hq => ?_⟩
  · intro i row hi
    rcases Nat.lt_or_ge i xs.length with h | h
    · rw [List.getElem?_append_left h] at hi; exact ho4 i row hi
    · rw [List.getElem?_append_right h] at hi; exact hn4 _ row hi
  · rintro b i hb hi (hm0 | ⟨j, o, hj, hmu⟩)
    · have hkk := r'.ok.m0 k _ b (setO_mem_eq hk) (by rw [upd_eq]; exact hb) i
      exact hkk hm0
    · rcases setO_mem r.ok.keys hj with ⟨rfl, rfl⟩ | ⟨hne, h⟩
      · have := hmu.2; omega
      · exact r'.ok.inj k _ j o (setO_mem_eq hk) hj (Ne.symm hne) b (by rw [upd_eq]; exact hb) (mutOf_blk hmu)
  · intro i row j x hi hj
    rcases Nat.lt_or_ge i xs.length with h | h
    · rw [List.getElem?_append_left h] at hi
      have hjs : j < sz := by have := ho4 _ _ hi; have := (List.getElem?_eq_some_iff.1 hj).1; omega
      have hlt : i * sz + j < xs.length * sz := by
        have : (i + 1) * sz ≤ xs.length * sz := Nat.mul_le_mul_right _ h
        rw [Nat.add_mul] at this; omega
      have e : (cells ++ news).getD (i * sz + j) undef = olds.getD (i * sz + j) undef := by
        rw [← hcells _ hlt, List.getD_eq_getElem?_getD, List.getElem?_append_left (by rw [hown.1]; exact hlt), ← List.getD_eq_getElem?_getD]
      rw [e]
      exact (ho5 i row j x hi hj).stp hs
    · rw [List.getElem?_append_right h] at hi
      have hge : xs.length * sz ≤ i * sz + j := by
        have : xs.length * sz ≤ i * sz := Nat.mul_le_mul_right _ h
        omega
      have e : (cells ++ news).getD (i * sz + j) undef = news.getD ((i - xs.length) * sz + j) undef := by
        rw [List.getD_eq_getElem?_getD, List.getElem?_append_right (by rw [hown.1]; exact hge), ← List.getD_eq_getElem?_getD, hown.1]
        congr 1
        rw [Nat.sub_mul]
        have : xs.length * sz ≤ i * sz := Nat.mul_le_mul_right _ h
        omega
      rw [e]
      exact (hn5 _ row j x hi hj).stp hs
  · have : hwOf (setO s.objs k (.ar E sz (xs.length + ys.length))) k = some (xs.length + ys.length) := by unfold hwOf; rw [get_setO, hk]; simp
    rw [this] at hq
    cases hq
    exact ⟨by simp, fun _ => by rw [upd_eq]⟩

section
variable {P : Program} {cx : Cx} {n : Nat} {Q : Exit → S → Prop} {regs : List (Nat × AV)} {objs : Obs} {ops : Array Oper} {rest : List Oper} {d : Nat} {pos : String} {aft : Array Edge} {ty : Nat}

theorem exec_append {a : Act} {s x : Operand} {T ty : Nat} {pos : String} {aft : Array Edge} {w : World} {v' : Value} {w' : World} (h : (Builtin.append_ #[T, T] ty #[a.eval s, a.eval x]).run P w = .ok v' w') :
    (execOp a.eval ⟨some d, .call ⟨.builtin .append, #[s, x], #[T, T]⟩, ty, pos, aft, none⟩).run P w = .ok (.value v') w' := by
  simp only [execOp, resolve, invoke, builtin, Sem.run_bind, Sem.run_pure, Result.andThen_ok, List.map_toArray, List.map_cons, List.map_nil, h]

theorem awl_append {T E sz bytes k m sz2 : Nat} {s x : Operand} {xs ys : List (List PV)} {av : AV} (si : SI P T E) (ei : EI P E sz bytes) (hs : S.ev ⟨regs, objs⟩ s = some (.ts k sz xs)) (hk : get objs k = some (.ar E sz m)) (hm : m = xs.length)
    (hx : S.ev ⟨regs, objs⟩ x = some av) (hr : av.rows = some (sz2, ys)) (hsz : Nat.blt 0 sz = true) (h2 : sz2 = sz ∨ ys = []) (hb : (xs.length + ys.length) * bytes ≤ 140737488355328) (h63 : xs.length + ys.length ≤ 140737488355328) (hd : Nat.blt d n = true)
    (kk : AWl P cx n ops rest Q ⟨(d, .ts k sz (xs ++ ys)) :: regs, setO objs k (.ar E sz (xs.length + ys.length))⟩) :
    AWl P cx n ops (⟨some d, .call ⟨.builtin .append, #[s, x], #[T, T]⟩, ty, pos, aft, none⟩ :: rest) Q ⟨regs, objs⟩ :=
  awl_op rfl (fun a w own r => by
    have h1 := r.ev hs
    have hv : a.eval s = own k := by
      generalize a.eval s = v at h1
      cases h1 with
      | ts _ ho => exact (ho m (by unfold hwOf; rw [hk])).2 hm.symm
    have hX := h1.rows (sz := sz) (xs := xs) rfl
    obtain ⟨v', w', e1, e2, e3⟩ := r.app (ty := ty) si ei (by simpa using hsz) hk hm hv hX ((r.ev hx).rows hr) h2 hb h63
    exact ⟨v', w', .inl (exec_append e1), _, e2.put_same (by simpa using hd) e3⟩) kk

/-- The first append, onto nil. -/
theorem awl_append_nil {T E sz bytes sz2 : Nat} {s x : Operand} {ys : List (List PV)} {av : AV} (si : SI P T E) (ei : EI P E sz bytes) (hs : S.ev ⟨regs, objs⟩ s = some (.p nilS)) (hf : fresh d ⟨regs, objs⟩ = true) (h0 : get cx.objs0 d = none)
    (hx : S.ev ⟨regs, objs⟩ x = some av) (hr : av.rows = some (sz2, ys)) (hsz : Nat.blt 0 sz = true) (h2 : sz2 = sz ∨ ys = []) (hb : ys.length * bytes ≤ 140737488355328) (h63 : ys.length ≤ 140737488355328) (hd : Nat.blt d n = true)
    (kk : AWl P cx n ops rest Q ⟨(d, .ts d sz ys) :: regs, (d, .ar E sz ys.length) :: objs⟩) :
    AWl P cx n ops (⟨some d, .call ⟨.builtin .append, #[s, x], #[T, T]⟩, ty, pos, aft, none⟩ :: rest) Q ⟨regs, objs⟩ :=
  awl_op rfl (fun a w own r => by
    have h1 := (r.ev hs).val
    obtain ⟨r', hM, hkr⟩ := r.newTok d E sz hf h0
    have hy := (r.ev hx).rows hr
    rw [← hM] at hy
    obtain ⟨v', w', e1, e2, e3⟩ := r'.app (ty := ty) (k := d) (xs := []) (ys := ys) si ei (by simpa using hsz) (by simp [get, Nat.beq_refl]) rfl (v := a.eval s) (by rw [h1, upd_eq]) (by rw [h1]; exact .nil) hy h2 (by simpa using hb) (by simpa using h63)
    have e : setO ((d, Ob.ar E sz 0) :: objs) d (.ar E sz (([] : List (List PV)).length + ys.length)) = (d, .ar E sz ys.length) :: objs := by simp [setO, Nat.beq_refl]
    rw [e] at e2 e3
    exact ⟨v', w', .inl (exec_append e1), _, e2.put_same (by simpa using hd) e3⟩) kk
end
end Go.Ab
