/- What the writing over does. -/
import Derived.Test.YtfgndomaadikoaaLvZ
set_option linter.unusedVariables false
set_option linter.unusedSimpArgs false
namespace Go.Ab.Ytfgndomaadikoaa
open Go Go.RowKit Go.Ab Go.Proofs

theorem results_none {fn : Func} (h : fn.results = #[]) (tmps : Array Value) (w : World) {P : Program} : (results fn tmps).run P w = .ok (.tuple #[]) w := by
  rw [results_eq, h]; simp

theorem inB_hit {id : Nat} {Q : MPost} {a : Act} {w : World} (h : Q .normal a w) : Exit.inBlock id Q (.exit id) a w := by
  simp only [Exit.inBlock, if_true]; exact h

/-- Where it is written. -/
def MJ (lo hi : Nat) : Nat → Nat → Prop := fun b _ => lo ≤ b ∧ b < hi
/-- Lists stay lists. -/
def Pr (lo hi : Nat) (w w' : World) : Prop := ∀ d V, Wp w lo hi d V → Wp w' lo hi d V

theorem Rl.junk {P : Program} {cx : Cx} {n : Nat} {s : S} {a : Act} {w : World} {own : Nat → Value} {lo hi : Nat} (r : Rl P cx n s a w own) (hob : ∀ k o b, (k, o) ∈ cx.objs0 → blk (cx.own0 k) = some b → hi ≤ b) (hh : hi ≤ cx.w0.heap.size) : Pr lo hi cx.w0 w :=
  Wp.same fun b h1 h2 => r.fr.keep b (by omega) fun k o hk hb => by have := hob k o b hk hb; omega

theorem Wp.elem {w : World} {lo hi d : Nat} {ad : Option Addr} {len cap : Nat} (h : Wp w lo hi d (.slice ad len cap)) {i : Nat} (hi' : i < len) :
    ∃ d' b cs, d = d' + 1 ∧ ad = some ⟨b, 0, none⟩ ∧ lo ≤ b ∧ b < hi ∧ w.heap[b]? = some (Obj.cells cs 39 (0, 0)) ∧ len * 3 ≤ cs.size ∧
      ∃ k n u, cs[i * 3]? = some (.int .i64 k) ∧ cs[i * 3 + 1]? = some (.int .i64 n) ∧ cs[i * 3 + 2]? = some u ∧ Wp w lo hi d' u := by
  cases d with
  | zero => injection h with _ h _; omega
  | succ d =>
    rcases h with h | ⟨b, len', cap', cs, e, h1, h2, h3, _, h5, h6⟩
    · injection h with _ h _; omega
    · injection e with e1 e2 e3
      subst e2
      exact ⟨d, b, cs, rfl, e1, h1, h2, h3, h5, h6 i hi'⟩

def bx44 (k m : Int) (V : Value) : Ob := .ce 39 [.p (I k), .p (I m), .p (.v V)]
/-- The loop's head. -/
def Inv44 (lo hi : Nat) (w : World) (k m : Int) (ad : Option Addr) (len cap : Nat) (nn : Nat) (a : Act) (w1 : World) : Prop :=
  ∃ (i : Nat) (own : Nat → Value), nn = len - i ∧ i ≤ len ∧ Wr lo hi w (fun _ => undef) [] w1 own [(1, bx44 k m (.slice ad len cap))] ∧ Pr lo hi w w1 ∧
    Rl Try.prog ⟨w1, MJ lo hi, own, [(1, bx44 k m (.slice ad len cap))]⟩ 21 ⟨[(2, .p (I i)), (1, .ptr 1 0)], [(1, bx44 k m (.slice ad len cap))]⟩ a w1 own

theorem wipe_step (lo hi d : Nat) (ih : ∀ d', d = d' + 1 → ∀ (k m : Int) (V : Value) (w : World), hi ≤ w.heap.size → Wp w lo hi d' V →
      Calls Try.prog 44 #[.agg #[.int .i64 k, .int .i64 m, V]] w fun e w' => e = .returned (.tuple #[]) ∧ WS lo hi (Pr lo hi w) w w') :
    ∀ (k m : Int) (V : Value) (w : World), hi ≤ w.heap.size → Wp w lo hi d V →
      Calls Try.prog 44 #[.agg #[.int .i64 k, .int .i64 m, V]] w fun e w' => e = .returned (.tuple #[]) ∧ WS lo hi (Pr lo hi w) w w' := by
  intro k m V w hhi hWp
  obtain ⟨ad, len, cap, rfl, hlen⟩ := hWp.slice
  refine calls_of_wp Try.func44 rfl ?_
  have hr0 : Rl Try.prog ⟨w, MJ lo hi, fun _ => undef, []⟩ 21 ⟨[(0, .ag [.p (I k), .p (I m), .p (.v (.slice ad len cap))])], []⟩
      { tmps := #[Value.agg #[.int .i64 k, .int .i64 m, .slice ad len cap]] ++ Array.replicate (Try.f44.ntmps - (#[Value.agg #[.int .i64 k, .int .i64 m, .slice ad len cap]] : Array Value).size) undef, defers := [] } w (fun _ => undef) := by
    refine Rl.start rfl ?_ ⟨fun _ _ h => (by cases h), (by simp), fun _ _ _ _ h => (by cases h), fun _ _ _ h => (by cases h), fun b i h => Nat.lt_of_lt_of_le h.2 hhi⟩ fun t x hx => ?_
    · simp [Try.ntmps44]
    · cases t with
      | zero =>
        simp [get] at hx
        subst hx
        have : (#[Value.agg #[.int .i64 k, .int .i64 m, .slice ad len cap]] ++ Array.replicate (Try.f44.ntmps - (#[Value.agg #[.int .i64 k, .int .i64 m, .slice ad len cap]] : Array Value).size) undef).getD 0 undef = .agg [.int .i64 k, .int .i64 m, .slice ad len cap].toArray := by
          simp [Array.getD_eq_getD_getElem?]
        rw [this]
        refine .ag _ rfl (fun v hv => ?_) fun j y hj => ?_
        · simp at hv; rcases hv with rfl | rfl | rfl <;> rfl
        · match j with
          | 0 => simp at hj; subst hj; exact .scal rfl
          | 1 => simp at hj; subst hj; exact .scal rfl
          | 2 => simp at hj; subst hj; exact .scal rfl
          | j + 3 => simp at hj
      | succ t =>
        have h : (none : Option AV) = some x := hx
        cases h
  refine (show AWpM Try.prog ⟨w, MJ lo hi, fun _ => undef, []⟩ 21 _ _ _ from ?_) _ w ⟨_, hr0⟩
  refine awpM_seq (awpM_region ?_)
  refine awlM_one (by refine awl_box rfl rfl rfl rfl rfl rfl rfl ?_; exact awl_done rfl) ?_
  refine awlM_nil ?_
  refine awpM_seq (awpM_region ?_)
  refine awlM_one (by refine awl_assign rfl rfl ?_; exact awl_done rfl) ?_
  refine awlM_nil ?_
  refine awpM_block ?_
  intro a1 w1 ⟨own1, r1⟩
  have hj0 : Pr lo hi w w1 := Rl.junk r1 (fun _ _ _ h => by cases h) hhi
  refine wp_loop_ghost (Inv44 lo hi w k m ad len cap) (len - 0) ⟨0, own1, rfl, Nat.zero_le _, Wr.of_rl lo hi r1, hj0, ?_⟩ ?_
  · exact Rl.start r1.defs r1.size r1.ok (r1.sub (s' := ⟨[(2, .p (I ((0 : Nat) : Int))), (1, .ptr 1 0)], [(1, bx44 k m (.slice ad len cap))]⟩) (.cons rfl (Sub.eq rfl) (.cons rfl (Sub.refl _) .nil)) (.cons rfl rfl .nil) rfl).regs
  rintro nn a w1 ⟨i, own, rfl, hi1, wr, pr, r⟩
  have hob : ∀ k' o b, (k', o) ∈ [(1, bx44 k m (.slice ad len cap))] → blk (own k') = some b → hi ≤ b := fun k' o b hk hb => by
    rcases wr.loc k' o b hk hb with ⟨_, _, h, _⟩ | h
    · cases h
    · omega
  have hh : hi ≤ w1.heap.size := Nat.le_trans hhi wr.size
  refine (show AWpM Try.prog ⟨w1, MJ lo hi, own, [(1, bx44 k m (.slice ad len cap))]⟩ 21 _ _ _ from ?_) a w1 ⟨own, r⟩
  refine awpM_seq (awpM_seq (awpM_region ?_))
  refine awlM_one (by refine awl_move rfl rfl ?_; exact awl_done rfl) ?_
  refine awlM_one (by refine awl_fieldAddr fiL2 rfl rfl ?_; exact awl_done rfl) ?_
  refine awlM_one (by refine awl_load_one tiLs rfl rfl rfl rfl ?_; exact awl_done rfl) ?_
  refine awlM_one (by refine awl_len_c siLs rfl rfl ?_; exact awl_done rfl) ?_
  refine awlM_one (by refine awl_bin rfl rfl rfl rfl bin_lss ?_; exact awl_done rfl) ?_
  refine awlM_nil ?_
  refine awpM_cond_p rfl (fun hlt => ?_) (fun hge => ?_)
  · have hil : i < len := by omega
    obtain ⟨d', b, cs, hd, rfl, hlo, hbhi, hb, hcs, k', n', u, e1, e2, e3, hu⟩ := (pr d _ hWp).elem hil
    obtain ⟨adu, lu, cu, hue, _⟩ := hu.slice
    refine awpM_skip ?_
    refine awpM_seq (awpM_block ?_)
    refine awpM_seq (awpM_region ?_)
    refine awlM_one (by refine awl_fieldAddr fiL2 rfl rfl ?_; exact awl_done rfl) ?_
    refine awlM_one (by refine awl_load_one tiLs rfl rfl rfl rfl ?_; exact awl_done rfl) ?_
    refine awlM_one (by refine awl_move rfl rfl ?_; exact awl_done rfl) ?_
    refine awlM_one (by refine awl_index_c (o := i * 3) siLs tiL rfl rfl (by omega) (by omega) rfl rfl ?_; exact awl_done rfl) ?_
    refine awlM_one (by
      refine awl_load_c (b := b) (o := i * 3) (vals := [.int .i64 k', .int .i64 n', u]) tiL rfl rfl (fun v hv => ?_) (fun a2 w2 own2 r2 j v hj => ?_) rfl ?_
      · simp at hv; rcases hv with rfl | rfl | rfl
        · rfl
        · rfl
        · rw [hue]; rfl
      · have hb2 : w2.heap[b]? = some (Obj.cells cs 39 (0, 0)) := by
          rw [r2.fr.keep b (by have : b < w1.heap.size := by omega
                               exact this) fun k o hk hq => by have := hob k o b hk hq; omega]
          exact hb
        rw [cell_of_row w2 b _ cs 39 (0, 0) hb2]
        match j with
        | 0 => simp at hj; subst hj; exact e1
        | 1 => simp at hj; subst hj; exact e2
        | 2 => simp at hj; subst hj; exact e3
        | j + 3 => simp at hj
      exact awl_done rfl) ?_
    refine awlM_callW (lo := lo) (hi := hi) (k := k') (m := n') (V := u) (I' := Pr lo hi) fb44 rfl (fun b i h1 h2 => ⟨h1, h2⟩) rfl (fun a2 w2 own2 r2 => ih d' hd k' n' u w2 (Nat.le_trans hh r2.stp.size) (Rl.junk r2 hob hh d' u hu)) ?_
    intro aA wA ownA wB rA wsB
    have wrB := wr.trans ((Wr.of_rl lo hi rA).trans (Wr.of_ws ownA _ wsB))
    have prB : Pr lo hi w wB := fun d V h => wsB.inv d V (Rl.junk rA hob hh d V (pr d V h))
    have hobB : ∀ k' o b', (k', o) ∈ [(1, bx44 k m (.slice (some ⟨b, 0, none⟩) len cap))] → blk (ownA k') = some b' → hi ≤ b' := fun k' o b' hk hb => by
      rcases wrB.loc k' o b' hk hb with ⟨_, _, h, _⟩ | h
      · cases h
      · omega
    have hhB : hi ≤ wB.heap.size := Nat.le_trans hhi wrB.size
    refine awlM_nil ?_
    refine awpM_region ?_
    refine awlM_one (by refine awl_fieldAddr fiL2 rfl rfl ?_; exact awl_done rfl) ?_
    refine awlM_one (by refine awl_load_one tiLs rfl rfl rfl rfl ?_; exact awl_done rfl) ?_
    refine awlM_one (by refine awl_move rfl rfl ?_; exact awl_done rfl) ?_
    refine awlM_one (by refine x_build biL tzL rfl rfl rfl ?_; exact awl_done rfl) ?_
    refine awlM_one (by refine awl_index_c (o := i * 3) siLs tiL rfl rfl (by omega) (by omega) rfl rfl ?_; exact awl_done rfl) ?_
    refine awlM_storeJ (lo := lo) (hi := hi) (b := b) (o := i * 3) (Tb := 39) (vals := [.int .i64 9, .int .i64 0, .slice none 0 0]) tiL rfl rfl rfl (fun v hv => ?_) hlo hbhi (fun b i h1 h2 => ⟨h1, h2⟩) (fun aC wC ownC rC => ?_) ?_
    · simp at hv; rcases hv with rfl | rfl | rfl <;> rfl
    · obtain ⟨_, b2, cs2, _, q1, _, _, q2, q3, _⟩ := (Rl.junk rC hobB hhB d _ (prB d _ hWp)).elem hil
      injection q1 with q1; injection q1 with q1
      subst q1
      exact ⟨cs2, q2, by simp; omega⟩
    intro aC wC ownC cs2 rC hcs2 hfit wsD
    have wrD := wrB.trans ((Wr.of_rl lo hi rC).trans (Wr.of_ws ownC _ wsD))
    have prD := fun d V h => Wp.set (i := i) hcs2 (by simpa using hfit) d V (Rl.junk rC hobB hhB d V (prB d V h))
    have hobD : ∀ k' o b', (k', o) ∈ [(1, bx44 k m (.slice (some ⟨b, 0, none⟩) len cap))] → blk (ownC k') = some b' → hi ≤ b' := fun k' o b' hk hb => by
      rcases wrD.loc k' o b' hk hb with ⟨_, _, h, _⟩ | h
      · cases h
      · omega
    have hhD := Nat.le_trans hhi wrD.size
    refine awlM_blk ?_
    refine awpM_region ?_
    refine awlM_one (by refine awl_move rfl rfl ?_; exact awl_done rfl) ?_
    refine awlM_one (by refine awl_bin rfl rfl rfl rfl (bin_add_i (by omega)) ?_; exact awl_done rfl) ?_
    refine awlM_one (by refine awl_assign rfl rfl ?_; exact awl_done rfl) ?_
    refine awlM_end fun aE wE ⟨ownE, rE⟩ => ?_
    refine ⟨len - (i + 1), by omega, i + 1, ownE, rfl, by omega, wrD.trans (Wr.of_rl lo hi rE), fun d V h => Rl.junk rE hobD hhD d V (prD d V h), Rl.start rE.defs rE.size rE.ok (rE.sub (s' := ⟨[(2, .p (I ((i + 1 : Nat) : Int))), (1, .ptr 1 0)], [(1, bx44 k m (.slice (some ⟨b, 0, none⟩) len cap))]⟩) (.cons rfl (Sub.eq rfl) (.cons rfl (Sub.refl _) .nil)) (.cons rfl rfl .nil) rfl).regs⟩
  · refine awpM_exit fun aX wX ⟨ownX, rX⟩ => ?_
    have hfin : bodyPost Try.prog Try.f44 (fun e w' => e = .returned (.tuple #[]) ∧ WS lo hi (Pr lo hi w) w w') .normal aX wX :=
      ⟨rX.defs, _, results_none rfl _ _, rfl, Wr.ws (wr.trans (Wr.of_rl lo hi rX)) (fun d V h => Rl.junk rX hob hh d V (pr d V h))⟩
    simp only [seqK, Exit.then]
    exact inB_hit hfin

theorem wipe_calls (lo hi : Nat) : ∀ (d : Nat) (k m : Int) (V : Value) (w : World), hi ≤ w.heap.size → Wp w lo hi d V →
    Calls Try.prog 44 #[.agg #[.int .i64 k, .int .i64 m, V]] w fun e w' => e = .returned (.tuple #[]) ∧ WS lo hi (Pr lo hi w) w w' := by
  intro d
  induction d with
  | zero => exact wipe_step lo hi 0 (fun _ h => by cases h)
  | succ d ih => exact wipe_step lo hi (d + 1) (fun d' h => by cases h; exact ih)
end Go.Ab.Ytfgndomaadikoaa
