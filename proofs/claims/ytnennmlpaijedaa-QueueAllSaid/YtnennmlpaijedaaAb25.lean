/- Posts of the machine; memory that others write over. -/
import Derived.Test.YtnennmlpaijedaaAb24
set_option linter.unusedVariables false
set_option linter.unusedSectionVars false
set_option linter.unusedSimpArgs false
namespace Go.Ab
open Go Go.RowKit

abbrev MPost := Exit → Act → World → Prop

def AWpM (P : Program) (cx : Cx) (n : Nat) (c : Code) (K : MPost) (s : S) : Prop := ∀ a w, Rel P cx n s a w → c.wp P K a w
def AWlM (P : Program) (cx : Cx) (n : Nat) (ops : Array Oper) (rest : List Oper) (K : MPost) (s : S) : Prop := ∀ a w, Rel P cx n s a w → wpList P ops K rest a w

/-- First this, then y. -/
def seqK (P : Program) (y : Code) (K : MPost) : MPost
  | .normal, a, w => y.wp P K a w
  | e, a, w => K e a w

section
variable {P : Program} {cx : Cx} {n : Nat} {K : MPost} {s : S}
theorem awp_toM {c : Code} {Q : Exit → S → Prop} (h : AWpM P cx n c (post P cx n Q) s) : AWp P cx n c Q s := h
theorem awpM_of {c : Code} {Q : Exit → S → Prop} (h : AWp P cx n c Q s) (k : ∀ e s a w, Rel P cx n s a w → Q e s → K e a w) : AWpM P cx n c K s :=
  fun a w r => wp_mono (h a w r) fun e a w ⟨s, hs, hq⟩ => k e s a w hs hq
theorem awpM_seq {x y : Code} (h : AWpM P cx n x (seqK P y K) s) : AWpM P cx n (.seq x y) K s := fun a w r => by
  refine wp_seq (wp_mono (h a w r) fun e a w hq => ?_)
  cases e <;> exact hq
theorem awpM_region {id : Nat} {l : List Oper} (h : AWlM P cx n l.toArray l K s) : AWpM P cx n (.region id l.toArray false) K s :=
  fun a w r => wp_region_lit (h a w r)
theorem awlM_nil {ops : Array Oper} {y : Code} (h : AWpM P cx n y K s) : AWlM P cx n ops [] (seqK P y K) s := fun a w r => wpList_nil (h a w r)
theorem awlM_end {ops : Array Oper} (h : ∀ a w, Rel P cx n s a w → K .normal a w) : AWlM P cx n ops [] K s := fun a w r => wpList_nil (h a w r)

theorem awlM_one {ops : Array Oper} {rest : List Oper} {o : Oper} {s' : S} (h : AWl P cx n ops [o] (fun e s1 => e = .normal ∧ s1 = s') s) (k : AWlM P cx n ops rest K s') : AWlM P cx n ops (o :: rest) K s := fun a w r => by
  have h3 := h a w r
  have fin : ∀ a' w', post P cx n (fun e s1 => e = .normal ∧ s1 = s') .normal a' w' → wpList P ops K rest a' w' := by
    rintro a' w' ⟨s1, hr1, _, rfl⟩
    exact k a' w' hr1
  unfold wpList at h3 ⊢
  split
  · rename_i hw
    rw [if_pos hw] at h3
    left
    rcases h3 with h3 | ⟨_, a0, w0, s1, _, h4, _⟩
    · unfold Oper.wp at *
      generalize (execOp a.eval o).run P w = q at *
      cases q with
      | ok nx w' =>
        cases nx <;> simp only [Oper.upon] at h3 ⊢ <;>
          first
            | exact fin _ _ h3
            | exact Calls.mono h3 (fun e w'' he => by
                cases e with
                | returned v => exact fin _ _ he
                | panicked c => obtain ⟨_, _, h4, _⟩ := he; cases h4
                | outgrown => obtain ⟨_, _, _, _, h4, _⟩ := he; cases h4)
            | exact Rows.mono h3 (fun _ _ he => fin _ _ he)
      | halt x w' =>
        cases x <;> simp only [Oper.upon] at h3 ⊢ <;> first | exact h3 | (obtain ⟨_, _, h4, _⟩ := h3; cases h4)
    · cases h4
  · rename_i hw
    rw [if_neg hw] at h3
    exact fin _ _ h3
end

/-! A new start in the midst. -/
structure LkOK (cx0 cx1 : Cx) : Prop where
  stp : Stp cx0.w0 cx0.M cx1.w0 cx1.M
  fr : Fr cx0.w0 cx0.own0 cx0.objs0 cx1.w0 cx1.own0 cx1.objs0
  m0 : ∀ b i, cx0.M0 b i → cx1.M0 b i
  o0 : cx0.objs0 = []

theorem LkOK.rl {P : Program} {cx0 cx1 : Cx} {n : Nat} {s : S} {a : Act} {w : World} {own : Nat → Value} (lk : LkOK cx0 cx1) (r : Rl P cx1 n s a w own) : Rl P cx0 n s a w own := by
  have hp := r.ok.part (fun x h => h) r.ok.keys cx0.M0 (fun b i h => .inl (lk.m0 b i h)) (fun k o b hk hb i h => r.ok.m0 k o b hk hb i (lk.m0 b i h))
  exact { defs := r.defs, size := r.size, ok := hp.1, regs := fun t x hx => (r.regs t x hx).tr_same ((Stp.refl w _).less hp.2),
          stp := (lk.stp.trans r.stp).less hp.2, fix := fun k o h => (by rw [lk.o0] at h; cases h), fr := lk.fr.trans r.fr }
theorem LkOK.rel {P : Program} {cx0 cx1 : Cx} {n : Nat} {s : S} {a : Act} {w : World} (lk : LkOK cx0 cx1) (r : Rel P cx1 n s a w) : Rel P cx0 n s a w := by
  obtain ⟨own, r⟩ := r; exact ⟨own, lk.rl r⟩

theorem OK.later {P : Program} {w w' : World} {M0 M1 : Nat → Nat → Prop} {own : Nat → Value} {objs : Obs} (h : OK P w M0 own objs) (hb : ∀ k o b, (k, o) ∈ objs → blk (own k) = some b → w'.heap[b]? = w.heap[b]?) (hs : Stp w (Mu M0 own objs) w' (Mu M1 own objs))
    (hm : ∀ k o b, (k, o) ∈ objs → blk (own k) = some b → ∀ i, ¬ M1 b i) (hold : ∀ b i, M1 b i → b < w'.heap.size) : OK P w' M1 own objs := by
  refine { obs := fun k o hk => ?_, keys := h.keys, inj := h.inj, m0 := hm, m0old := hold }
  have h1 := h.obs k o hk
  cases o with
  | ce T cs =>
    obtain ⟨b, vals, e1, e2, e3, e4⟩ := h1
    exact ⟨b, vals, e1, by rw [hb k _ b hk (by rw [e1]; rfl)]; exact e2, e3, fun j x hj => ⟨(e4 j x hj).1, (e4 j x hj).2.tr_same hs⟩⟩
  | ar T sz m =>
    obtain ⟨cells, e⟩ := h1
    exact ⟨cells, ownsRow_keep e fun b hq => hb k _ b hk hq⟩
  | mu T sz ver xs =>
    obtain ⟨cells, e, e2, e3⟩ := h1
    exact ⟨cells, ownsRow_keep e fun b hq => hb k _ b hk hq, e2, fun i row j x hi hj => (e3 i row j x hi hj).stp hs⟩

/-- Between lo and the size at the start of cx1 there is memory that others write over. -/
structure JF (cx0 cx1 : Cx) (lo : Nat) : Prop where
  lk : LkOK cx0 cx1
  m : ∀ b i, cx1.M0 b i ↔ cx0.M0 b i ∨ (lo ≤ b ∧ b < cx1.w0.heap.size)
  low : cx0.w0.heap.size ≤ lo
  obs : ∀ k o b, (k, o) ∈ cx1.objs0 → blk (cx1.own0 k) = some b → b < lo

theorem Rl.start {P : Program} {n : Nat} {regs : List (Nat × AV)} {objs : Obs} {a : Act} {w : World} {own : Nat → Value} {M0 : Nat → Nat → Prop} (hd : a.defers = []) (hs : a.tmps.size = n) (ok : OK P w M0 own objs)
    (hr : ∀ t x, get regs t = some x → RepA w (Mu M0 own objs) own (hwOf objs) x (a.tmps.getD t undef)) : Rl P ⟨w, M0, own, objs⟩ n ⟨regs, objs⟩ a w own :=
  { defs := hd, size := hs, ok := ok, regs := hr, stp := Stp.refl _ _, fix := fun _ _ _ => .same, fr := Fr.refl _ _ _ }

section
variable {P : Program} {cx : Cx} {n : Nat} {K : MPost} {regs : List (Nat × AV)} {objs : Obs} {ops : Array Oper} {rest : List Oper} {d : Nat} {pos : String} {aft : Array Edge} {ty f : Nat} {l : List Operand} {ts : Array Nat}

theorem run_enter {a : Act} {w : World} (hf : FB P f) : (execOp a.eval ⟨some d, .call ⟨.value (.func f), l.toArray, ts⟩, ty, pos, aft, none⟩).run P w = .ok (.enter f (l.map a.eval).toArray) w := by
  simp only [execOp, resolve, Act.eval, Deferred.ofValue, Sem.run_bind, Sem.run_pure, Result.andThen_ok, invoke]
  rw [hf.run]
  simp

theorem regs_put {a : Act} {u : Nat} {v : Value} {w : World} {M : Nat → Nat → Prop} {own : Nat → Value} {hw : Nat → Option Nat} {x y : AV} (hs : a.tmps.size = n) (hd : d < n) (hx : RepA w M own hw x v)
    (h : ∀ t y, get regs t = some y → RepA w M own hw y (a.tmps.getD t undef)) (hy : get ((d, x) :: regs) u = some y) : RepA w M own hw y ((a.put (some d) v).tmps.getD u undef) := by
  simp only [get] at hy
  cases hb : Nat.beq d u with
  | true =>
    obtain rfl : d = u := Nat.eq_of_beq_eq_true hb
    rw [hb] at hy
    simp at hy
    subst hy
    have : (a.put (some d) v).tmps.getD d undef = v := by simp [Act.put, Array.getD, hs, hd]
    rw [this]; exact hx
  | false =>
    rw [hb] at hy
    have hne : d ≠ u := fun e => by subst e; simp [Nat.beq_refl] at hb
    have : (a.put (some d) v).tmps.getD u undef = a.tmps.getD u undef := by
      simp only [Act.put, Array.getD_eq_getD_getElem?, Array.getElem?_setIfInBounds_ne hne]
    rw [this]; exact h u y hy

/-- A call that hands back what is new; from then on it is memory that others write over. -/
theorem awlM_callJ {avs args : List AV} {k m : Int} {T : Nat} {X : Nat → PV} (hf : FB P f) (hx : evs ⟨regs, objs⟩ l = some avs) (h0 : cx.objs0 = [])
    (con : ∀ lo, ConG (fun w => lo ≤ w.heap.size) P f args [] (fun r o => r = .ag [.p (I k), .p (I m), .p (.fs lo T (X lo))] ∧ o = [])) (hs : Subs avs args) (hd : Nat.blt d n = true)
    (kk : ∀ cx1 lo V, cx1.objs0 = objs → JF cx cx1 lo → Rep cx1.w0 (Mu cx.M0 cx1.own0 cx1.objs0) (.fs lo T (X lo)) V → AWlM P cx1 n ops rest K ⟨(d, .ag [.p (I k), .p (I m), .p (.v V)]) :: regs, objs⟩) :
    AWlM P cx n ops (⟨some d, .call ⟨.value (.func f), l.toArray, ts⟩, ty, pos, aft, none⟩ :: rest) K ⟨regs, objs⟩ := fun a w ⟨own, r⟩ => by
  refine wpList_plain rfl fun KK hK => ?_
  unfold Oper.wp
  rw [run_enter hf, Oper.upon_enter]
  have hMe : ∀ (M : Nat → Nat → Prop) (ow : Nat → Value), Mu M ow [] = M := fun M ow => by
    funext b i; apply propext
    exact ⟨fun h => (by rcases h with h | ⟨_, _, h, _⟩ <;> first | exact h | cases h), .inl⟩
  have hok := r.ok.part (objs' := []) (fun x h => by cases h) (by simp) (Mu cx.M0 own objs) (fun b i h => h) (fun k o b hk => by cases hk)
  have harg := evs_ok r hx hs
  have harg' : ArgsOK w (Mu (Mu cx.M0 own objs) own []) own (hwOf []) args (l.map a.eval) := ⟨harg.1, fun j x hj => (harg.2 j x hj).part r.ok (fun x h => by cases h) hok.2⟩
  refine (con w.heap.size w _ own (l.map a.eval) (Nat.le_refl _) hok.1 harg').mono ?_
  rintro e w' ⟨x, objs', own', v, rfl, ⟨rfl, rfl⟩, h1, h2, h3, h4, h5, h6⟩
  rw [hMe, hMe] at h3
  rw [hMe] at h2
  have hkeep : ∀ b, b < w.heap.size → w'.heap[b]? = w.heap[b]? := fun b hb => h6.keep b hb (fun _ _ h => by cases h)
  -- the new memory
  let M1 : Nat → Nat → Prop := fun b i => cx.M0 b i ∨ (w.heap.size ≤ b ∧ b < w'.heap.size)
  have hst : Stp w (Mu cx.M0 own objs) w' (Mu M1 own objs) :=
    { os := h3.os, tape := h3.tape, output := h3.output, size := h3.size, cell := h3.cell, shape := h3.shape,
      mu := fun b i h => by
        rcases h with (h | ⟨h, _⟩) | h
        · exact .inl (.inl h)
        · exact .inr h
        · exact .inl (.inr h) }
  have hok1 : OK P w' M1 own objs := r.ok.later (fun k o b hk hb => hkeep b (blk_lt r.ok hk hb)) hst
    (fun k o b hk hb i h => by
      rcases h with h | ⟨h, _⟩
      · exact r.ok.m0 k o b hk hb i h
      · have := blk_lt r.ok hk hb; omega)
    (fun b i h => by
      rcases h with h | ⟨_, h⟩
      · exact Nat.lt_of_lt_of_le (r.ok.m0old b i h) h3.size
      · exact h)
  have hfr : Fr w own objs w' own objs := ⟨fun b hb _ => hkeep b hb, fun k o b hk hb => .inl ⟨k, o, hk, hb⟩, h3.size⟩
  have lk : LkOK cx ⟨w', M1, own, objs⟩ := ⟨r.stp.trans hst, r.fr.trans hfr, fun b i h => .inl h, h0⟩
  have jf : JF cx ⟨w', M1, own, objs⟩ w.heap.size := ⟨lk, fun b i => Iff.rfl, r.stp.size, fun k o b hk hb => blk_lt r.ok hk hb⟩
  -- what is handed back
  generalize hv : v = v0 at h2
  cases h2 with
  | ag vs hl hone hel =>
    have g0 := hel 0 _ rfl
    have g1 := hel 1 _ rfl
    have g2 := hel 2 _ rfl
    have hrep : Rep w' (Mu cx.M0 own objs) (.fs w.heap.size T (X w.heap.size)) (vs.getD 2 undef) := by
      cases g2 with
      | p g2 => exact g2.stp ((Stp.refl w' _).less fun b i h => by
          rcases h with h | h
          · exact .inl h
          · exact .inr h)
    have ho : (vs.getD 2 undef).oneCell' = true := hrep.one
    refine hK _ _ (kk ⟨w', M1, own, objs⟩ w.heap.size (vs.getD 2 undef) rfl jf hrep _ w' ⟨own, Rl.start ?_ ?_ hok1 fun t y hy => ?_⟩)
    · exact r.defs
    · simp only [Act.put, Array.size_setIfInBounds]; exact r.size
    · refine regs_put r.size (by simpa using hd) ?_ (fun t y hy => (r.regs t y hy).tr_same hst) hy
      refine .ag vs hl hone fun j y hj => ?_
      match j with
      | 0 => simp at hj; subst hj; rw [g0.val]; exact .scal rfl
      | 1 => simp at hj; subst hj; rw [g1.val]; exact .scal rfl
      | 2 => simp at hj; subst hj; exact .scal ho
      | j + 3 => simp at hj

/-- A call that only looks, at memory that others write over too. -/
theorem awl_callJ {cx0 : Cx} {lo : Nat} {Q : Exit → S → Prop} {x0 x1 : Operand} {k m : Int} {V : Value} {X : PV} {y warg : AV} {bb : Bool} (hf : FB P f) (hV : S.ev ⟨regs, objs⟩ x0 = some (.ag [.p (I k), .p (I m), .p (.v V)])) (hW : S.ev ⟨regs, objs⟩ x1 = some y) (hsW : Sub y warg)
    (con : PCon P f [.ag [.p (I k), .p (I m), .p X], warg] (.p (B bb))) (jf : JF cx0 cx lo) (hrep : Rep cx.w0 (Mu cx0.M0 cx.own0 cx.objs0) X V) (hd : Nat.blt d n = true)
    (kk : AWl P cx n ops rest Q ⟨(d, .p (B bb)) :: regs, objs⟩) :
    AWl P cx n ops (⟨some d, .call ⟨.value (.func f), #[x0, x1], ts⟩, ty, pos, aft, none⟩ :: rest) Q ⟨regs, objs⟩ := fun a w ⟨own, r⟩ => by
  refine wpList_plain rfl fun KK hK => ?_
  unfold Oper.wp
  rw [show (#[x0, x1] : Array Operand) = [x0, x1].toArray from rfl, run_enter hf, Oper.upon_enter]
  have hMe : ∀ (M : Nat → Nat → Prop) (ow : Nat → Value), Mu M ow [] = M := fun M ow => by
    funext b i; apply propext
    exact ⟨fun h => (by rcases h with h | ⟨_, _, h, _⟩ <;> first | exact h | cases h), .inl⟩
  let M1 : Nat → Nat → Prop := fun b i => Mu cx.M0 own objs b i ∧ ¬ (lo ≤ b ∧ b < cx.w0.heap.size)
  have hsub : ∀ b i, M1 b i → Mu cx.M0 own objs b i := fun b i h => h.1
  have hst0 : Stp cx.w0 (Mu cx0.M0 cx.own0 cx.objs0) w M1 :=
    { os := r.stp.os, tape := r.stp.tape, output := r.stp.output, size := r.stp.size, shape := r.stp.shape
      cell := fun b i v hm hc => by
        by_cases hj : lo ≤ b ∧ b < cx.w0.heap.size
        · rw [World.cell?_of_block (w := cx.w0) (r.fr.keep b hj.2 fun k o hk hb => by have := jf.obs k o b hk hb; omega)]; exact hc
        · refine r.stp.cell b i v (fun h => ?_) hc
          rcases h with h | h
          · rcases (jf.m b i).1 h with h | h
            · exact hm (.inl h)
            · exact hj h
          · exact hm (.inr h)
      mu := fun b i h => by
        rcases r.stp.mu b i h.1 with h' | h'
        · rcases h' with h' | h'
          · rcases (jf.m b i).1 h' with h' | h'
            · exact .inl (.inl h')
            · exact absurd h' h.2
          · exact .inl (.inr h')
        · exact .inr h' }
  have hok : OK P w M1 own [] := (r.ok.part (objs' := []) (fun x h => by cases h) (by simp) M1 (fun b i h => h.1) (fun k o b hk => by cases hk)).1
  have hargs : ArgsOK w (Mu M1 own []) own (hwOf []) [.ag [.p (I k), .p (I m), .p X], warg] ([x0, x1].map a.eval) := by
    rw [hMe]
    refine ⟨rfl, fun j z hj => ?_⟩
    match j with
    | 0 =>
      simp at hj; subst hj
      have hv := r.ev hV
      show RepA w M1 own (hwOf []) _ (a.eval x0)
      generalize a.eval x0 = v at hv
      cases hv with
      | ag vs hl hone hel =>
        refine .ag vs hl hone fun j z hj => ?_
        match j with
        | 0 => simp at hj; subst hj; rw [(hel 0 _ rfl).val]; exact .scal rfl
        | 1 => simp at hj; subst hj; rw [(hel 1 _ rfl).val]; exact .scal rfl
        | 2 => simp at hj; subst hj; rw [(hel 2 _ rfl).val]; exact .p (hrep.stp hst0)
        | j + 3 => simp at hj
    | 1 =>
      simp at hj; subst hj
      have hv := hsW _ _ _ _ _ (r.ev hW)
      have := hv.part (M1 := M1) (objs' := []) r.ok (fun x h => by cases h) (fun b i h => by rw [hMe] at h; exact h.1)
      rw [hMe] at this
      exact this
    | j + 2 => simp at hj
  refine (con w _ own _ hok hargs).mono ?_
  rintro e w' ⟨x, objs', own', v, rfl, ⟨rfl, rfl⟩, h1, h2, h3, h4, h5, h6⟩
  rw [hMe, hMe] at h3
  have hkeep : ∀ b, b < w.heap.size → w'.heap[b]? = w.heap[b]? := fun b hb => h6.keep b hb (fun _ _ h => by cases h)
  have hst : Stp w (Mu cx.M0 own objs) w' (Mu cx.M0 own objs) :=
    { os := h3.os, tape := h3.tape, output := h3.output, size := h3.size, shape := h3.shape, cell := fun b i u hm => h3.cell b i u (fun h => hm h.1), mu := fun b i h => .inl h }
  have hok1 : OK P w' cx.M0 own objs := r.ok.later (fun k o b hk hb => hkeep b (blk_lt r.ok hk hb)) hst (fun k o b hk hb i h => r.ok.m0 k o b hk hb i h) (fun b i h => Nat.lt_of_lt_of_le (r.ok.m0old b i h) h3.size)
  have hfr : Fr w own objs w' own objs := ⟨fun b hb _ => hkeep b hb, fun k o b hk hb => .inl ⟨k, o, hk, hb⟩, h3.size⟩
  have hv : v = .bool bb := by cases h2 with | p h => cases h; rfl
  subst hv
  exact hK _ _ (kk _ _ ⟨own, r.put (by simpa using hd) hst hok1 (fun _ _ _ _ _ => .same) (fun _ _ _ => .same) hfr (.scal rfl)⟩)

/-- What a step does that writes over the memory between lo and hi. -/
structure WS (lo hi : Nat) (I : World → Prop) (w w' : World) : Prop where
  os : w'.os = w.os
  tape : w'.tape = w.tape
  output : w'.output = w.output
  size : w.heap.size ≤ w'.heap.size
  keep : ∀ b, b < w.heap.size → b < lo ∨ hi ≤ b → w'.heap[b]? = w.heap[b]?
  shape : ∀ (b : Nat) (cs : Array Value) (T : Nat), w.heap[b]? = some (Obj.cells cs T (0, 0)) → ∃ cs' : Array Value, w'.heap[b]? = some (Obj.cells cs' T (0, 0))
  inv : I w'

/-- A call that writes over it. -/
theorem awlM_wipe {cx0 : Cx} {lo : Nat} {x0 : Operand} {k m : Int} {V : Value} {I' : World → Prop} (hf : FB P f) (hV : S.ev ⟨regs, objs⟩ x0 = some (.ag [.p (I k), .p (I m), .p (.v V)])) (jf : JF cx0 cx lo)
    (hw : ∀ w, (∀ b, lo ≤ b → b < cx.w0.heap.size → w.heap[b]? = cx.w0.heap[b]?) → cx.w0.heap.size ≤ w.heap.size → Calls P f #[.agg #[.int .i64 k, .int .i64 m, V]] w fun e w' => e = .returned (.tuple #[]) ∧ WS lo cx.w0.heap.size I' w w') (hd : Nat.blt d n = true)
    (kk : ∀ cx2, cx2.objs0 = objs → LkOK cx0 cx2 → AWlM P cx2 n ops rest K ⟨(d, .tp []) :: regs, objs⟩) :
    AWlM P cx n ops (⟨some d, .call ⟨.value (.func f), #[x0], ts⟩, ty, pos, aft, none⟩ :: rest) K ⟨regs, objs⟩ := fun a w ⟨own, r⟩ => by
  refine wpList_plain rfl fun KK hK => ?_
  unfold Oper.wp
  rw [show (#[x0] : Array Operand) = [x0].toArray from rfl, run_enter hf, Oper.upon_enter]
  have hj : ∀ b, lo ≤ b → b < cx.w0.heap.size → w.heap[b]? = cx.w0.heap[b]? := fun b h1 h2 => r.fr.keep b h2 fun k o hk hb => by have := jf.obs k o b hk hb; omega
  have hv : a.eval x0 = .agg #[.int .i64 k, .int .i64 m, V] := by
    have hv := r.ev hV
    generalize a.eval x0 = v at hv
    cases hv with
    | ag vs hl hone hel =>
      have g0 := (hel 0 _ rfl).val
      have g1 := (hel 1 _ rfl).val
      have g2 := (hel 2 _ rfl).val
      match vs, hl with
      | [p, q, u], _ => simp at g0 g1 g2; subst g0 g1 g2; rfl
  rw [show ([x0].map a.eval).toArray = #[a.eval x0] from rfl, hv]
  refine (hw w hj r.stp.size).mono ?_
  rintro e w' ⟨rfl, ws⟩
  have hJm : ∀ b i, lo ≤ b → b < cx.w0.heap.size → Mu cx.M0 own objs b i := fun b i h1 h2 => .inl ((jf.m b i).2 (.inr ⟨h1, h2⟩))
  have hst : Stp w (Mu cx.M0 own objs) w' (Mu cx.M0 own objs) :=
    { os := ws.os, tape := ws.tape, output := ws.output, size := ws.size, shape := ws.shape, mu := fun b i h => .inl h
      cell := fun b i u hm hu => by
        have hlt := World.block_lt_of_cell? w _ hu
        rw [World.cell?_of_block (w := w) (ws.keep b hlt (by
          by_cases h1 : lo ≤ b
          · by_cases h2 : b < cx.w0.heap.size
            · exact absurd (hJm b i h1 h2) hm
            · exact .inr (by omega)
          · exact .inl (by omega)))]; exact hu }
  have hfar : ∀ k o b, (k, o) ∈ objs → blk (own k) = some b → w'.heap[b]? = w.heap[b]? := fun k o b hk hb =>
    ws.keep b (blk_lt r.ok hk hb) (by
      by_cases h1 : lo ≤ b
      · by_cases h2 : b < cx.w0.heap.size
        · exact absurd ((jf.m b 0).2 (.inr ⟨h1, h2⟩)) (r.ok.m0 k o b hk hb 0)
        · exact .inr (by omega)
      · exact .inl (by omega))
  have hok1 : OK P w' cx.M0 own objs := r.ok.later hfar hst (fun k o b hk hb i h => r.ok.m0 k o b hk hb i h) (fun b i h => Nat.lt_of_lt_of_le (r.ok.m0old b i h) ws.size)
  have hfr := jf.lk.fr.trans r.fr
  have lk : LkOK cx0 ⟨w', cx.M0, own, objs⟩ := ⟨(jf.lk.stp.trans r.stp).trans hst,
    ⟨fun b hb hn => (ws.keep b (Nat.lt_of_lt_of_le hb hfr.size) (.inl (Nat.lt_of_lt_of_le hb jf.low))).trans (hfr.keep b hb hn), hfr.loc, Nat.le_trans hfr.size ws.size⟩, jf.lk.m0, jf.lk.o0⟩
  refine hK _ _ (kk ⟨w', cx.M0, own, objs⟩ rfl lk _ w' ⟨own, Rl.start ?_ ?_ hok1 fun t y hy => ?_⟩)
  · exact r.defs
  · simp only [Act.put, Array.size_setIfInBounds]; exact r.size
  · refine regs_put r.size (by simpa using hd) ?_ (fun t y hy => (r.regs t y hy).tr_same hst) hy
    exact .tp [] rfl (fun j x hj => by simp at hj)
end
end Go.Ab
