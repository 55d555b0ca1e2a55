/- Calls by contract. -/
import Derived.Test.YtnennmlpaijedaaAb6
set_option linter.unusedVariables false
set_option linter.unusedSimpArgs false
namespace Go.Ab
open Go Go.RowKit

/-- What stands for one value stands for the other. -/
def Sub (x y : AV) : Prop := ∀ w M own hw v, RepA w M own hw x v → RepA w M own hw y v
theorem Sub.refl (x : AV) : Sub x x := fun _ _ _ _ _ h => h
theorem Sub.eq {x y : AV} (h : x = y) : Sub x y := h ▸ Sub.refl x
theorem Sub.ts {k sz : Nat} {xs : List (List PV)} : Sub (.ts k sz xs) (.p (.sl sz xs)) := fun _ _ _ _ _ h => by
  cases h with
  | ts h _ => exact .p h
theorem Sub.nil {sz : Nat} : Sub (.p nilS) (.p (.sl sz [])) := fun _ _ _ _ _ h => by
  have := h.val; subst this; exact .p .nil
theorem Sub.any {x : AV} : Sub x .any := fun _ _ _ _ _ _ => .any
theorem Sub.ag {l l' : List AV} (hl : l.length = l'.length) (h : ∀ (j : Nat) (x y : AV), l[j]? = some x → l'[j]? = some y → Sub x y) : Sub (.ag l) (.ag l') := fun w M own hw v hr => by
  cases hr with
  | ag vs h1 h2 h3 =>
    refine .ag vs (h1.trans hl) h2 fun j y hj => ?_
    have hlt : j < l.length := by have := (List.getElem?_eq_some_iff.1 hj).1; omega
    have := List.getElem?_eq_getElem hlt
    exact h j _ y this hj _ _ _ _ _ (h3 j _ this)

inductive Subs : List AV → List AV → Prop
  | nil : Subs [] []
  | cons {x y : AV} {l l' : List AV} (h : Sub x y) (hs : Subs l l') : Subs (x :: l) (y :: l')

theorem Subs.get : ∀ {l l' : List AV}, Subs l l' → l.length = l'.length ∧ ∀ (j : Nat) (y : AV), l'[j]? = some y → ∃ x, l[j]? = some x ∧ Sub x y
  | _, _, .nil => ⟨rfl, fun j y h => by simp at h⟩
  | _, _, .cons h hs => by
    obtain ⟨h1, h2⟩ := hs.get
    refine ⟨by simp [h1], fun j y hj => ?_⟩
    cases j with
    | zero => simp at hj; subst hj; exact ⟨_, rfl, h⟩
    | succ j => simpa using h2 j y (by simpa using hj)

def evs (s : S) : List Operand → Option (List AV)
  | [] => some []
  | x :: r => match s.ev x, evs s r with
    | some y, some l => some (y :: l)
    | _, _ => none

theorem evs_get {s : S} : ∀ {l : List Operand} {r : List AV}, evs s l = some r → r.length = l.length ∧ ∀ (j : Nat) (y : AV), r[j]? = some y → ∃ x, l[j]? = some x ∧ s.ev x = some y
  | [], r, h => by simp [evs] at h; subst h; simp
  | x :: l, r, h => by
    simp only [evs] at h
    split at h
    · rename_i y q h1 h2
      cases h
      obtain ⟨h3, h4⟩ := evs_get h2
      refine ⟨by simp [h3], fun j z hj => ?_⟩
      cases j with
      | zero => simp at hj; subst hj; exact ⟨x, rfl, h1⟩
      | succ j => simpa using h4 j z (by simpa using hj)
    · cases h

theorem evs_ok {P : Program} {cx : Cx} {n : Nat} {s : S} {a : Act} {w : World} {own : Nat → Value} (r : Rl P cx n s a w own) {l : List Operand} {avs args : List AV} (h : evs s l = some avs) (hs : Subs avs args) :
    ArgsOK w (Mu cx.M0 own s.objs) own (hwOf s.objs) args (l.map a.eval) := by
  obtain ⟨h1, h2⟩ := evs_get h
  obtain ⟨h3, h4⟩ := hs.get
  refine ⟨by simp; omega, fun j y hj => ?_⟩
  obtain ⟨x, hx, hsub⟩ := h4 j y hj
  obtain ⟨o, ho, hev⟩ := h2 j x hx
  rw [getD_of (x := a.eval o) (by simp [ho])]
  exact hsub _ _ _ _ _ (r.ev hev)

/-- New keys are such as nobody names. -/
def newOK (ks : List Nat) (s : S) (objs0 : Obs) : Obs → Bool
  | [] => true
  | (k, _) :: r => (mem k ((sel ks s.objs).map (·.1)) || (fresh k s && match get objs0 k with | none => true | some _ => false)) && newOK ks s objs0 r
theorem newOK_spec {ks : List Nat} {s : S} {objs0 : Obs} : ∀ {l : Obs}, newOK ks s objs0 l = true → ∀ k o, (k, o) ∈ l → k ∈ (sel ks s.objs).map (·.1) ∨ (fresh k s = true ∧ get objs0 k = none)
  | [], _, k, o, h => by cases h
  | (j, y) :: r, hb, k, o, h => by
    simp only [newOK, Bool.and_eq_true, Bool.or_eq_true] at hb
    rcases List.mem_cons.1 h with h | h
    · cases h
      rcases hb.1 with h1 | ⟨h1, h2⟩
      · exact .inl (mem_iff.1 h1)
      · refine .inr ⟨h1, ?_⟩
        cases hg : get objs0 j with
        | none => rfl
        | some x => rw [hg] at h2; cases h2
    · exact newOK_spec hb.2 k o h

/-- A function with a body. -/
structure FB (P : Program) (f : Nat) : Prop where
  h : ∃ fn, P.funcs[f]? = some fn ∧ fn.body.isSome = true ∧ (fn.name == "runtime.NumGoroutine") = false

theorem FB.run {P : Program} {f : Nat} (h : FB P f) (args : Array Value) (w : World) : (callFunc f args).run P w = .ok (.enter f args) w := by
  obtain ⟨fn, h1, h2, h3⟩ := h.h
  have h4 : fn.body.isNone = false := by cases hq : fn.body <;> simp_all
  simp only [callFunc, Sem.run_bind, run_program, Result.andThen_ok, h1, h3, h4, Bool.false_eq_true, if_false, Sem.run_pure]

/-- The state's relation behind a call. -/
theorem Rl.called {P : Program} {cx : Cx} {n : Nat} {s : S} {a : Act} {w w' : World} {own own' : Nat → Value} (r : Rl P cx n s a w own) {d : Nat} (ks : List Nat) {objs' : Obs} {x : AV} {v : Value}
    (hd : d < n) (hnew : newOK ks s cx.objs0 objs' = true)
    (hok : OK P w' (fun b i => cx.M0 b i ∨ ∃ k o, (k, o) ∈ oth ks s.objs ∧ mutOf o (own k) b i) own' objs')
    (hx : RepA w' (Mu (fun b i => cx.M0 b i ∨ ∃ k o, (k, o) ∈ oth ks s.objs ∧ mutOf o (own k) b i) own' objs') own' (hwOf objs') x v)
    (hs : Stp w (Mu cx.M0 own s.objs) w' (Mu (fun b i => cx.M0 b i ∨ ∃ k o, (k, o) ∈ oth ks s.objs ∧ mutOf o (own k) b i) own' objs'))
    (hkr : ∀ k o, (k, o) ∈ sel ks s.objs → Kr own own' (hwOf (sel ks s.objs)) (hwOf objs') k) (hcl : Closed objs' x) (hfr : Fr w own (sel ks s.objs) w' own' objs') :
    ∃ own'', Rl P cx n ⟨(d, x) :: s.regs, objs' ++ oth ks s.objs⟩ (a.put (some d) v) w' own'' := by
  classical
  let own'' : Nat → Value := fun k => if k ∈ objs'.map (·.1) then own' k else own k
  have oin : ∀ {k}, k ∈ objs'.map (·.1) → own'' k = own' k := fun h => if_pos h
  have oout : ∀ {k}, k ∉ objs'.map (·.1) → own'' k = own k := fun h => if_neg h
  have keyof : ∀ {k : Nat} {o : Ob} {l : Obs}, (k, o) ∈ l → k ∈ l.map (·.1) := fun h => List.mem_map_of_mem (f := (·.1)) h
  have hkeep : ∀ k o, (k, o) ∈ oth ks s.objs → ∀ b, blk (own k) = some b → w'.heap[b]? = w.heap[b]? := fun k o hk b hb =>
    hfr.keep b (blk_lt r.ok (oth_mem.1 hk).1 hb) fun j y hj he =>
      r.ok.inj j y k o (sel_mem.1 hj).1 (oth_mem.1 hk).1 (fun e => (oth_mem.1 hk).2 (e ▸ (sel_mem.1 hj).2)) b he hb
  have hfar : ∀ k o, (k, o) ∈ oth ks s.objs → ∀ b, blk (own k) = some b → ∀ k' o', (k', o') ∈ objs' → blk (own' k') ≠ some b := fun k o hk b hb k' o' hk' he => by
    cases o with
    | ce T cs => exact hok.m0 k' o' b hk' he 0 (.inr ⟨k, _, hk, hb⟩)
    | ar T sz m => exact hok.m0 k' o' b hk' he (m * sz) (.inr ⟨k, _, hk, hb, Nat.le_refl _⟩)
    | mu T sz ver xs => exact hok.m0 k' o' b hk' he 0 (.inr ⟨k, _, hk, hb⟩)
  -- the others' keys are none of the callee's
  have hdisj : ∀ {k o}, (k, o) ∈ oth ks s.objs → k ∉ objs'.map (·.1) := by
    intro k o hk hk'
    obtain ⟨⟨k', o'⟩, hm, e⟩ := List.mem_map.1 hk'
    simp only at e
    subst e
    obtain ⟨h1, h2⟩ := oth_mem.1 hk
    rcases newOK_spec hnew _ _ hm with h3 | ⟨h3, _⟩
    · obtain ⟨⟨q, o''⟩, hq, e⟩ := List.mem_map.1 h3
      simp only at e
      subst e
      exact h2 (sel_mem.1 hq).2
    · simp only [fresh, Bool.and_eq_true] at h3
      exact (freshO_mem h3.2 _ _ h1).1 rfl
  have hn'' : ((objs' ++ oth ks s.objs).map (·.1)).Nodup := by
    rw [List.map_append, List.nodup_append]
    refine ⟨hok.keys, ((oth_sub ks s.objs).map _).nodup r.ok.keys, fun k hk k' hk' e => ?_⟩
    subst e
    obtain ⟨⟨k', o'⟩, hm, e⟩ := List.mem_map.1 hk'
    simp only at e
    subst e
    exact hdisj hm hk
  have hM : ∀ b i, Mu cx.M0 own'' (objs' ++ oth ks s.objs) b i ↔ Mu (fun b i => cx.M0 b i ∨ ∃ k o, (k, o) ∈ oth ks s.objs ∧ mutOf o (own k) b i) own' objs' b i := by
    intro b i
    constructor
    · rintro (h | ⟨k, o, hk, hm⟩)
      · exact .inl (.inl h)
      · rcases List.mem_append.1 hk with hk | hk
        · rw [oin (keyof hk)] at hm; exact .inr ⟨k, o, hk, hm⟩
        · rw [oout (hdisj hk)] at hm; exact .inl (.inr ⟨k, o, hk, hm⟩)
    · rintro ((h | ⟨k, o, hk, hm⟩) | ⟨k, o, hk, hm⟩)
      · exact .inl h
      · exact .inr ⟨k, o, List.mem_append_right _ hk, by rw [oout (hdisj hk)]; exact hm⟩
      · exact .inr ⟨k, o, List.mem_append_left _ hk, by rw [oin (keyof hk)]; exact hm⟩
  have hs1 : Stp w (Mu cx.M0 own s.objs) w' (Mu cx.M0 own'' (objs' ++ oth ks s.objs)) := hs.less fun b i h => (hM b i).1 h
  have hw1 : ∀ {k}, k ∈ objs'.map (·.1) → hwOf (objs' ++ oth ks s.objs) k = hwOf objs' k := fun {k} hk => by
    refine hwOf_congr hn'' hok.keys fun o => ⟨fun h => ?_, fun h => List.mem_append_left _ h⟩
    rcases List.mem_append.1 h with h | h
    · exact h
    · exact absurd hk (hdisj h)
  have hw2 : ∀ {k}, k ∉ objs'.map (·.1) → k ∉ ks → hwOf (objs' ++ oth ks s.objs) k = hwOf s.objs k := fun {k} hk hks => by
    refine hwOf_congr hn'' r.ok.keys fun o => ⟨fun h => ?_, fun h => List.mem_append_right _ (oth_mem.2 ⟨h, hks⟩)⟩
    rcases List.mem_append.1 h with h | h
    · exact absurd (keyof h) hk
    · exact (oth_mem.1 h).1
  have hw3 : ∀ {k}, k ∉ objs'.map (·.1) → k ∈ ks → hwOf (objs' ++ oth ks s.objs) k = none := fun {k} hk hks => by
    refine hwOf_none fun h => ?_
    obtain ⟨⟨k', o'⟩, hm, e⟩ := List.mem_map.1 h
    simp only at e
    subst e
    rcases List.mem_append.1 hm with h | h
    · exact hk (keyof h)
    · exact (oth_mem.1 h).2 hks
  have hwsel : ∀ {k}, k ∈ ks → hwOf (sel ks s.objs) k = hwOf s.objs k := fun {k} hk =>
    hwOf_congr (((sel_sub ks s.objs).map _).nodup r.ok.keys) r.ok.keys fun o => ⟨fun h => (sel_mem.1 h).1, fun h => sel_mem.2 ⟨h, hk⟩⟩
  have hk1 : ∀ k, (k ∈ objs'.map (·.1) → k ∈ (sel ks s.objs).map (·.1)) → Kr own own'' (hwOf s.objs) (hwOf (objs' ++ oth ks s.objs)) k := by
    intro k hk
    by_cases h1 : k ∈ objs'.map (·.1)
    · obtain ⟨⟨k', o'⟩, hm, e⟩ := List.mem_map.1 (hk h1)
      simp only at e
      subst e
      have h3 := hkr _ _ hm
      unfold Kr at h3 ⊢
      rw [hwsel (sel_mem.1 hm).2] at h3
      rw [oin h1, hw1 h1]
      exact h3
    · by_cases hks : k ∈ ks
      · exact .inr (.inl ⟨hw3 h1 hks, .inl (oout h1)⟩)
      · exact .inl ⟨oout h1, hw2 h1 hks⟩
  have hk2 : ∀ k, k ∈ objs'.map (·.1) → Kr own' own'' (hwOf objs') (hwOf (objs' ++ oth ks s.objs)) k := fun k hk => .inl ⟨oin hk, hw1 hk⟩
  have hs2 : Stp w' (Mu (fun b i => cx.M0 b i ∨ ∃ k o, (k, o) ∈ oth ks s.objs ∧ mutOf o (own k) b i) own' objs') w' (Mu cx.M0 own'' (objs' ++ oth ks s.objs)) := (Stp.refl w' _).less fun b i h => (hM b i).1 h
  have hnewk : ∀ k, k ∈ objs'.map (·.1) → (∀ x ∈ s.regs, True) → k ∉ (sel ks s.objs).map (·.1) → fresh k s = true ∧ get cx.objs0 k = none := by
    intro k hk _ hn
    obtain ⟨⟨k', o'⟩, hm, e⟩ := List.mem_map.1 hk
    simp only at e
    subst e
    rcases newOK_spec hnew _ _ hm with h | h
    · exact absurd h hn
    · exact h
  refine ⟨own'', r.put hd hs1 ?_ ?_ ?_ ⟨fun b hb hn => hfr.keep b hb fun k o hk => hn k o (sel_mem.1 hk).1, ?_, hs.size⟩ (hx.tr hs2 fun k hk => hk2 k (hcl.1 k hk))⟩
  · refine { obs := fun k o hk => ?_, keys := hn'', inj := ?_, m0 := ?_, m0old := fun b i h => Nat.lt_of_lt_of_le (r.ok.m0old b i h) hs.size }
    · rcases List.mem_append.1 hk with hk | hk
      · have h1 := hok.obs k o hk
        cases o with
        | ce T cs =>
          obtain ⟨b, vals, e1, e2, e3, e4⟩ := h1
          exact ⟨b, vals, by rw [oin (keyof hk)]; exact e1, e2, e3, fun j y hj => ⟨(e4 j y hj).1, (e4 j y hj).2.tr hs2 fun q hq => hk2 q (hcl.2 k T cs hk y (List.mem_of_getElem? hj) q hq)⟩⟩
        | ar T sz m =>
          obtain ⟨cells, e⟩ := h1
          exact ⟨cells, by rw [oin (keyof hk)]; exact e⟩
        | mu T sz ver xs =>
          obtain ⟨cells, e, e2, e3⟩ := h1
          exact ⟨cells, by rw [oin (keyof hk)]; exact e, e2, fun i row j x hi hj => (e3 i row j x hi hj).stp hs2⟩
      · have h0 := oth_mem.1 hk
        have h1 := r.ok.obs k o h0.1
        · cases o with
          | ce T cs =>
            obtain ⟨b, vals, e1, e2, e3, e4⟩ := h1
            refine ⟨b, vals, by rw [oout (hdisj hk)]; exact e1, ?_, e3, fun j y hj => ⟨(e4 j y hj).1, (e4 j y hj).2.tr hs1 fun q hq => hk1 q fun hq' => ?_⟩⟩
            · rw [hkeep k _ hk b (by rw [e1]; rfl)]; exact e2
            · apply Classical.byContradiction
              intro hno
              have := (hnewk q hq' (fun _ _ => trivial) hno).1
              simp only [fresh, Bool.and_eq_true] at this
              exact freshO_has this.2 h0.1 hj hq rfl
          | ar T sz m =>
            obtain ⟨cells, e⟩ := h1
            exact ⟨cells, by rw [oout (hdisj hk)]; exact ownsRow_keep e fun b hb => hkeep k _ hk b hb⟩
          | mu T sz ver xs =>
            obtain ⟨cells, e, e2, e3⟩ := h1
            exact ⟨cells, by rw [oout (hdisj hk)]; exact ownsRow_keep e fun b hb => hkeep k _ hk b hb, e2, fun i row j x hi hj => (e3 i row j x hi hj).stp hs1⟩
    · intro k o k' o' hk hk' hne b hb hb'
      rcases List.mem_append.1 hk with e | e <;> rcases List.mem_append.1 hk' with e' | e'
      · rw [oin (keyof e)] at hb; rw [oin (keyof e')] at hb'
        exact hok.inj k o k' o' e e' hne b hb hb'
      · rw [oin (keyof e)] at hb; rw [oout (hdisj e')] at hb'
        exact hfar k' o' e' b hb' k o e hb
      · rw [oout (hdisj e)] at hb; rw [oin (keyof e')] at hb'
        exact hfar k o e b hb k' o' e' hb'
      · rw [oout (hdisj e)] at hb; rw [oout (hdisj e')] at hb'
        exact r.ok.inj k o k' o' (oth_mem.1 e).1 (oth_mem.1 e').1 hne b hb hb'
    · intro k o b hk hb i hm
      rcases List.mem_append.1 hk with e | e
      · rw [oin (keyof e)] at hb
        exact hok.m0 k o b e hb i (.inl hm)
      · rw [oout (hdisj e)] at hb
        exact r.ok.m0 k o b (oth_mem.1 e).1 hb i hm
  · intro t y hy k hk
    refine hk1 k fun hk' => Classical.byContradiction fun hno => ?_
    have := (hnewk k hk' (fun _ _ => trivial) hno).1
    simp only [fresh, Bool.and_eq_true] at this
    exact freshR_get this.1 t y hy k hk rfl
  · intro k o hk
    refine hk1 k fun hk' => Classical.byContradiction fun hno => ?_
    exact get_some_of_mem (keyof hk) (hnewk k hk' (fun _ _ => trivial) hno).2
  · intro k o b hk hb
    rcases List.mem_append.1 hk with e | e
    · rw [oin (keyof e)] at hb
      rcases hfr.loc k o b e hb with ⟨k', o', h1, h2⟩ | h1
      · exact .inl ⟨k', o', (sel_mem.1 h1).1, h2⟩
      · exact .inr h1
    · rw [oout (hdisj e)] at hb
      exact .inl ⟨k, o, (oth_mem.1 e).1, hb⟩

theorem awl_callG {P : Program} {cx : Cx} {n : Nat} {Q : Exit → S → Prop} {regs : List (Nat × AV)} {objs : Obs} {ops : Array Oper} {rest : List Oper} {d : Nat} {pos : String} {aft : Array Edge} {ty f : Nat} {l : List Operand} {ts : Array Nat}
    {avs args : List AV} {sub : Obs} {R : AV → Obs → Prop} (ks : List Nat) (hf : FB P f) (hx : evs ⟨regs, objs⟩ l = some avs) (hs : Subs avs args) (con : ConG (fun w => cx.w0.heap.size ≤ w.heap.size) P f args sub R) (hsub : sel ks objs = sub) (hd : Nat.blt d n = true)
    (kk : ∀ r objs', R r objs' → newOK ks ⟨regs, objs⟩ cx.objs0 objs' = true ∧ AWl P cx n ops rest Q ⟨(d, r) :: regs, objs' ++ oth ks objs⟩) :
    AWl P cx n ops (⟨some d, .call ⟨.value (.func f), l.toArray, ts⟩, ty, pos, aft, none⟩ :: rest) Q ⟨regs, objs⟩ := fun a w ⟨own, r⟩ => by
  refine wpList_plain rfl fun K hK => ?_
  unfold Oper.wp
  have hrun : (execOp a.eval ⟨some d, .call ⟨.value (.func f), l.toArray, ts⟩, ty, pos, aft, none⟩).run P w = .ok (.enter f (l.map a.eval).toArray) w := by
    simp only [execOp, resolve, Act.eval, Deferred.ofValue, Sem.run_bind, Sem.run_pure, Result.andThen_ok, invoke]
    rw [hf.run]
    simp
  rw [hrun, Oper.upon_enter]
  subst hsub
  have hMe : Mu (fun b i => cx.M0 b i ∨ ∃ k o, (k, o) ∈ oth ks objs ∧ mutOf o (own k) b i) own (sel ks objs) = Mu cx.M0 own objs := by
    funext b i
    apply propext
    constructor
    · rintro ((h | ⟨k, o, hk, hm⟩) | ⟨k, o, hk, hm⟩)
      · exact .inl h
      · exact .inr ⟨k, o, (oth_mem.1 hk).1, hm⟩
      · exact .inr ⟨k, o, (sel_mem.1 hk).1, hm⟩
    · rintro (h | ⟨k, o, hk, hm⟩)
      · exact .inl (.inl h)
      · by_cases h : k ∈ ks
        · exact .inr ⟨k, o, sel_mem.2 ⟨hk, h⟩, hm⟩
        · exact .inl (.inr ⟨k, o, oth_mem.2 ⟨hk, h⟩, hm⟩)
  have hok := r.ok.part (fun x h => (sel_sub ks objs).subset h) (((sel_sub ks objs).map _).nodup r.ok.keys) (fun b i => cx.M0 b i ∨ ∃ k o, (k, o) ∈ oth ks objs ∧ mutOf o (own k) b i)
    (fun b i h => by
      rcases h with h | ⟨k, o, hk, hm⟩
      · exact .inl h
      · exact .inr ⟨k, o, (oth_mem.1 hk).1, hm⟩)
    (fun k o b hk hb i h => by
      rcases h with h | ⟨k', o', hk', hm⟩
      · exact r.ok.m0 k o b (sel_mem.1 hk).1 hb i h
      · have h1 := sel_mem.1 hk
        have h2 := oth_mem.1 hk'
        exact r.ok.inj k o k' o' h1.1 h2.1 (fun e => h2.2 (e ▸ h1.2)) b hb (mutOf_blk hm))
  have harg := evs_ok r hx hs
  have harg' : ArgsOK w (Mu (fun b i => cx.M0 b i ∨ ∃ k o, (k, o) ∈ oth ks objs ∧ mutOf o (own k) b i) own (sel ks objs)) own (hwOf (sel ks objs)) args (l.map a.eval) :=
    ⟨harg.1, fun j x hj => (harg.2 j x hj).part r.ok (fun x h => (sel_sub ks objs).subset h) hok.2⟩
  refine (con w _ own (l.map a.eval) r.stp.size hok.1 harg').mono ?_
  rintro e w' ⟨x, objs', own', v, rfl, hR, h1, h2, h3, h4, h5, h6⟩
  obtain ⟨hnew, k2⟩ := kk x objs' hR
  rw [hMe] at h3
  obtain ⟨own'', r''⟩ := r.called ks (by simpa using hd) hnew h1 h2 h3 h4 h5 h6
  exact hK _ _ (k2 _ _ ⟨own'', r''⟩)

theorem awl_call {P : Program} {cx : Cx} {n : Nat} {Q : Exit → S → Prop} {regs : List (Nat × AV)} {objs : Obs} {ops : Array Oper} {rest : List Oper} {d : Nat} {pos : String} {aft : Array Edge} {ty f : Nat} {l : List Operand} {ts : Array Nat}
    {avs args : List AV} {sub : Obs} {R : AV → Obs → Prop} (ks : List Nat) (hf : FB P f) (hx : evs ⟨regs, objs⟩ l = some avs) (hs : Subs avs args) (con : Con P f args sub R) (hsub : sel ks objs = sub) (hd : Nat.blt d n = true)
    (kk : ∀ r objs', R r objs' → newOK ks ⟨regs, objs⟩ cx.objs0 objs' = true ∧ AWl P cx n ops rest Q ⟨(d, r) :: regs, objs' ++ oth ks objs⟩) :
    AWl P cx n ops (⟨some d, .call ⟨.value (.func f), l.toArray, ts⟩, ty, pos, aft, none⟩ :: rest) Q ⟨regs, objs⟩ :=
  awl_callG ks hf hx hs (fun w M0 own vals _ => con w M0 own vals) hsub hd kk

/-- A call of a function that touches no object. -/
theorem awl_pcall {P : Program} {cx : Cx} {n : Nat} {Q : Exit → S → Prop} {regs : List (Nat × AV)} {objs : Obs} {ops : Array Oper} {rest : List Oper} {d : Nat} {pos : String} {aft : Array Edge} {ty f : Nat} {l : List Operand} {ts : Array Nat}
    {avs args : List AV} {x : AV} (hf : FB P f) (hx : evs ⟨regs, objs⟩ l = some avs) (con : PCon P f args x) (hs : Subs avs args) (hd : Nat.blt d n = true)
    (kk : AWl P cx n ops rest Q ⟨(d, x) :: regs, objs⟩) :
    AWl P cx n ops (⟨some d, .call ⟨.value (.func f), l.toArray, ts⟩, ty, pos, aft, none⟩ :: rest) Q ⟨regs, objs⟩ := by
  have hsel : ∀ l : Obs, sel [] l = [] := fun l => by
    induction l with
    | nil => rfl
    | cons y r ih => obtain ⟨k, o⟩ := y; simp [sel, mem, ih]
  have hoth : ∀ l : Obs, oth [] l = l := fun l => by
    induction l with
    | nil => rfl
    | cons y r ih => obtain ⟨k, o⟩ := y; simp [oth, mem, ih]
  refine awl_call [] hf hx hs con (hsel objs) hd ?_
  rintro r objs' ⟨rfl, rfl⟩
  exact ⟨rfl, by rw [hoth]; exact kk⟩

/-- The same, by a contract that holds in later worlds. -/
theorem awl_pcallG {P : Program} {cx : Cx} {n : Nat} {Q : Exit → S → Prop} {regs : List (Nat × AV)} {objs : Obs} {ops : Array Oper} {rest : List Oper} {d : Nat} {pos : String} {aft : Array Edge} {ty f : Nat} {l : List Operand} {ts : Array Nat}
    {avs args : List AV} {x : AV} (hf : FB P f) (hx : evs ⟨regs, objs⟩ l = some avs) (con : ConG (fun w => cx.w0.heap.size ≤ w.heap.size) P f args [] (fun r o => r = x ∧ o = [])) (hs : Subs avs args) (hd : Nat.blt d n = true)
    (kk : AWl P cx n ops rest Q ⟨(d, x) :: regs, objs⟩) :
    AWl P cx n ops (⟨some d, .call ⟨.value (.func f), l.toArray, ts⟩, ty, pos, aft, none⟩ :: rest) Q ⟨regs, objs⟩ := by
  have hsel : ∀ l : Obs, sel [] l = [] := fun l => by
    induction l with
    | nil => rfl
    | cons y r ih => obtain ⟨k, o⟩ := y; simp [sel, mem, ih]
  have hoth : ∀ l : Obs, oth [] l = l := fun l => by
    induction l with
    | nil => rfl
    | cons y r ih => obtain ⟨k, o⟩ := y; simp [oth, mem, ih]
  refine awl_callG [] hf hx hs con (hsel objs) hd ?_
  rintro r objs' ⟨rfl, rfl⟩
  exact ⟨rfl, by rw [hoth]; exact kk⟩

end Go.Ab
