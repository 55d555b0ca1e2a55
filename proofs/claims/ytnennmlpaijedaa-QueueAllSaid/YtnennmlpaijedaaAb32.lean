/- Closures; parts of slices; the tail of an own slice is cleared; keys change in a state. -/
import Derived.Test.YtnennmlpaijedaaAb31
set_option linter.unusedVariables false
set_option linter.unusedSectionVars false
set_option linter.unusedSimpArgs false
namespace Go.Ab
open Go Go.RowKit

/-! keys -/
def renR (ρ : Nat → Nat) : List (Nat × AV) → List (Nat × AV)
  | [] => []
  | (t, x) :: r => (t, x.ren ρ) :: renR ρ r
theorem renR_get {ρ : Nat → Nat} : ∀ {l : List (Nat × AV)} {t : Nat} {y : AV}, get (renR ρ l) t = some y → ∃ x, get l t = some x ∧ y = x.ren ρ
  | [], t, y, h => by simp [renR, get] at h
  | (q, x) :: r, t, y, h => by
    simp only [renR, get] at h ⊢
    cases hb : Nat.beq q t with
    | true => rw [hb] at h; simp only [cond_true, Option.some.injEq] at h; exact ⟨x, rfl, h.symm⟩
    | false => rw [hb] at h; exact renR_get h

theorem Le.sw {P : Program} {cx : Cx} {n : Nat} {regs : List (Nat × AV)} {objs : Obs} (a b : Nat) (h0 : cx.objs0 = []) :
    Le P cx n ⟨regs, objs⟩ ⟨renR (Ab.sw a b) regs, renO (Ab.sw a b) objs⟩ := fun a' w ⟨own, r⟩ => by
  have hs := sw_sw a b
  have hcomp : (own ∘ Ab.sw a b) ∘ Ab.sw a b = own := by funext k; simp [hs]
  have hok : OK P w cx.M0 (own ∘ Ab.sw a b) (renO (Ab.sw a b) objs) := (OK.ren hs hs).2 (by rw [hcomp]; exact r.ok)
  have hMe : Mu cx.M0 (own ∘ Ab.sw a b) (renO (Ab.sw a b) objs) = Mu cx.M0 own objs := by rw [Mu_ren hs hs, hcomp]
  refine ⟨own ∘ Ab.sw a b, { defs := r.defs, size := r.size, ok := hok, regs := fun t y hy => ?_, stp := by rw [hMe]; exact r.stp, fix := fun k o hk => by rw [h0] at hk; simp at hk, fr := ⟨fun c hc hn => r.fr.keep c hc hn, fun k o c hk hc => ?_, r.fr.size⟩ }⟩
  · obtain ⟨x, hx, rfl⟩ := renR_get hy
    rw [hMe]
    refine RepA.ren_of ?_
    rw [hcomp, hwOf_ren hs hs objs r.ok.keys]
    exact r.regs t x hx
  · obtain ⟨k', o', e1, rfl, rfl⟩ := renO_mem.1 hk
    simp only [Function.comp, hs] at hc
    exact r.fr.loc k' o' c e1 hc

theorem awp_sw {P : Program} {cx : Cx} {n : Nat} {c : Code} {Q : Exit → S → Prop} {regs : List (Nat × AV)} {objs : Obs} (a b : Nat) (h0 : cx.objs0 = []) (h : AWp P cx n c Q ⟨renR (Ab.sw a b) regs, renO (Ab.sw a b) objs⟩) : AWp P cx n c Q ⟨regs, objs⟩ :=
  awp_le (Le.sw a b h0) h

section
variable {P : Program} {cx : Cx} {n : Nat} {Q : Exit → S → Prop} {regs : List (Nat × AV)} {objs : Obs} {ops : Array Oper} {rest : List Oper} {d : Nat} {pos : String} {aft : Array Edge} {ty : Nat}

/-! closures -/
theorem subs_refl : ∀ l : List AV, Subs l l
  | [] => .nil
  | _ :: l => .cons (Sub.refl _) (subs_refl l)
theorem awl_mkfun {f : Fn} {l m : List Operand} {first caps : List AV} (hl : evs ⟨regs, objs⟩ l = some first) (hm : evs ⟨regs, objs⟩ m = some caps) (hd : Nat.blt d n = true) (kk : AWl P cx n ops rest Q ⟨(d, .fv f first caps) :: regs, objs⟩) :
    AWl P cx n ops (⟨some d, .makeFunc f l.toArray m.toArray, ty, pos, aft, none⟩ :: rest) Q ⟨regs, objs⟩ :=
  awl_val (.fv f first caps) rfl rfl (by simpa using hd) (fun a w own r => by
    have h1 := evs_ok r hl (subs_refl _)
    have h2 := evs_ok r hm (subs_refl _)
    refine ⟨.func f (l.map a.eval).toArray (m.map a.eval).toArray, ?_, .fv _ _ h1.1 h2.1 h1.2 h2.2⟩
    simp [execOp, Instr.makeFunc]) kk

/-- A function's value is called. -/
theorem awl_callfv {f t : Nat} {l : List Operand} {ts : Array Nat} {first caps avs args : List AV} {sub : Obs} {R : AV → Obs → Prop} (ks : List Nat) (hf : FB P f) (ht : get regs t = some (.fv (.func f) first caps)) (hx : evs ⟨regs, objs⟩ l = some avs) (hs : Subs (first ++ (avs ++ caps)) args) (con : Con P f args sub R) (hsub : sel ks objs = sub) (hd : Nat.blt d n = true)
    (kk : ∀ r objs', R r objs' → newOK ks ⟨regs, objs⟩ cx.objs0 objs' = true ∧ AWl P cx n ops rest Q ⟨(d, r) :: regs, objs' ++ oth ks objs⟩) :
    AWl P cx n ops (⟨some d, .call ⟨.value (.tmp t), l.toArray, ts⟩, ty, pos, aft, none⟩ :: rest) Q ⟨regs, objs⟩ := fun a w ⟨own, r⟩ => by
  refine wpList_plain rfl fun K hK => ?_
  unfold Oper.wp
  have hfv := r.regs t _ ht
  obtain ⟨vf, vc, hv, hfl, hcl, hxf, hxc⟩ : ∃ vf vc : List Value, a.tmps.getD t undef = .func (.func f) vf.toArray vc.toArray ∧ vf.length = first.length ∧ vc.length = caps.length ∧
      (∀ (j : Nat) (x : AV), first[j]? = some x → RepA w (Mu cx.M0 own objs) own (hwOf objs) x (vf.getD j undef)) ∧ (∀ (j : Nat) (x : AV), caps[j]? = some x → RepA w (Mu cx.M0 own objs) own (hwOf objs) x (vc.getD j undef)) := by
    generalize a.tmps.getD t undef = u at hfv
    cases hfv with
    | fv vf vc h1 h2 h3 h4 => exact ⟨vf, vc, rfl, h1, h2, h3, h4⟩
  have hrun : (execOp a.eval ⟨some d, .call ⟨.value (.tmp t), l.toArray, ts⟩, ty, pos, aft, none⟩).run P w = .ok (.enter f (vf ++ (l.map a.eval ++ vc)).toArray) w := by
    simp only [execOp, resolve, Act.eval, hv, Deferred.ofValue, Sem.run_bind, Sem.run_pure, Result.andThen_ok, invoke]
    rw [hf.run]
    simp
  rw [hrun, Oper.upon_enter]
  subst hsub
  have hMe : Mu (fun b i => cx.M0 b i ∨ ∃ k o, (k, o) ∈ oth ks objs ∧ mutOf o (own k) b i) own (sel ks objs) = Mu cx.M0 own objs := by
    funext b i
    apply propext
    constructor
    · rintro ((h | ⟨k, o, hk, hm⟩) | ⟨k, o, hk, hm⟩)
      · exact .inl h
      · exact .inr ⟨k, o, (oth_mem.1 hk).1, hm⟩
      · exact .inr ⟨k, o, (sel_mem.1 hk).1, hm⟩
    · rintro (h | ⟨k, o, hk, hm⟩)
      · exact .inl (.inl h)
      · by_cases h : k ∈ ks
        · exact .inr ⟨k, o, sel_mem.2 ⟨hk, h⟩, hm⟩
        · exact .inl (.inr ⟨k, o, oth_mem.2 ⟨hk, h⟩, hm⟩)
  have hok := r.ok.part (fun x h => (sel_sub ks objs).subset h) (((sel_sub ks objs).map _).nodup r.ok.keys) (fun b i => cx.M0 b i ∨ ∃ k o, (k, o) ∈ oth ks objs ∧ mutOf o (own k) b i)
    (fun b i h => by
      rcases h with h | ⟨k, o, hk, hm⟩
      · exact .inl h
      · exact .inr ⟨k, o, (oth_mem.1 hk).1, hm⟩)
    (fun k o b hk hb i h => by
      rcases h with h | ⟨k', o', hk', hm⟩
      · exact r.ok.m0 k o b (sel_mem.1 hk).1 hb i h
      · have h1 := sel_mem.1 hk
        have h2 := oth_mem.1 hk'
        exact r.ok.inj k o k' o' h1.1 h2.1 (fun e => h2.2 (e ▸ h1.2)) b hb (mutOf_blk hm))
  have hmid := evs_ok r hx (subs_refl _)
  have hall : ∀ (j : Nat) (x : AV), (first ++ (avs ++ caps))[j]? = some x → RepA w (Mu cx.M0 own objs) own (hwOf objs) x ((vf ++ (l.map a.eval ++ vc)).getD j undef) := fun j x hj => by
    have hml : (l.map a.eval).length = avs.length := hmid.1
    rw [List.getD_eq_getElem?_getD]
    rcases Nat.lt_or_ge j first.length with h | h
    · rw [List.getElem?_append_left h] at hj
      rw [List.getElem?_append_left (by omega), ← List.getD_eq_getElem?_getD]; exact hxf j x hj
    · rw [List.getElem?_append_right h] at hj
      rw [List.getElem?_append_right (by omega), hfl]
      rcases Nat.lt_or_ge (j - first.length) avs.length with h2 | h2
      · rw [List.getElem?_append_left h2] at hj
        rw [List.getElem?_append_left (by omega), ← List.getD_eq_getElem?_getD]; exact hmid.2 _ x hj
      · rw [List.getElem?_append_right h2] at hj
        rw [List.getElem?_append_right (by omega), hml, ← List.getD_eq_getElem?_getD]; exact hxc _ x hj
  have hargs : ArgsOK w (Mu cx.M0 own objs) own (hwOf objs) args (vf ++ (l.map a.eval ++ vc)) := by
    have hml : (l.map a.eval).length = avs.length := hmid.1
    obtain ⟨h3, h4⟩ := hs.get
    refine ⟨by simp only [List.length_append] at h3 ⊢; omega, fun j y hj => ?_⟩
    obtain ⟨x, hx, hsub⟩ := h4 j y hj
    exact hsub _ _ _ _ _ (hall j x hx)
  have harg' : ArgsOK w (Mu (fun b i => cx.M0 b i ∨ ∃ k o, (k, o) ∈ oth ks objs ∧ mutOf o (own k) b i) own (sel ks objs)) own (hwOf (sel ks objs)) args (vf ++ (l.map a.eval ++ vc)) :=
    ⟨hargs.1, fun j x hj => (hargs.2 j x hj).part r.ok (fun x h => (sel_sub ks objs).subset h) hok.2⟩
  refine (con w _ own _ hok.1 harg').mono ?_
  rintro e w' ⟨x, objs', own', v, rfl, hR, h1, h2, h3, h4, h5, h6⟩
  obtain ⟨hnew, k2⟩ := kk x objs' hR
  rw [hMe] at h3
  obtain ⟨own'', r''⟩ := r.called ks (by simpa using hd) hnew h1 h2 h3 h4 h5 h6
  exact hK _ _ (k2 _ _ ⟨own'', r''⟩)

theorem x_callfv {f t : Nat} {l : List Operand} {ts : Array Nat} {first caps avs args : List AV} {sub o2 : Obs} {R : AV → Obs → Prop} (ks : List Nat) (hf : FB P f) (ht : get regs t = some (.fv (.func f) first caps)) (hx : evs ⟨regs, objs⟩ l = some avs) (hsub : selq ks objs = some sub) (ho : othq ks objs = some o2) (con : Con P f args sub R) (hs : Subs (first ++ (avs ++ caps)) args) (hd : Nat.blt d n = true)
    (kk : ∀ r objs', R r objs' → newOK ks ⟨regs, objs⟩ cx.objs0 objs' = true ∧ ∃ o3, appq objs' o2 = some o3 ∧ AWl P cx n ops rest Q ⟨(d, r) :: regs, o3⟩) :
    AWl P cx n ops (⟨some d, .call ⟨.value (.tmp t), l.toArray, ts⟩, ty, pos, aft, none⟩ :: rest) Q ⟨regs, objs⟩ :=
  awl_callfv ks hf ht hx hs con (selq_spec hsub).symm hd fun r objs' hR => by
    obtain ⟨h1, o3, h2, h3⟩ := kk r objs' hR
    refine ⟨h1, ?_⟩
    rw [← othq_spec ho, ← appq_spec h2]; exact h3

end

/-! parts of plain slices -/
theorem Rep.cut {w : World} {M : Nat → Nat → Prop} {sz : Nat} {xs : List (List PV)} {v : Value} (h : Rep w M (.sl sz xs) v) :
    ∃ ad cap, v = .slice ad xs.length cap ∧ xs.length ≤ cap ∧ ∀ l m, l ≤ m → m ≤ xs.length → Rep w M (.sl sz ((xs.take m).drop l)) (sliced ad l m cap sz) := by
  cases h with
  | nil => exact ⟨none, 0, rfl, Nat.le_refl _, fun l m h1 h2 => by
      simp at h2; subst h2
      obtain rfl : l = 0 := by omega
      simp only [List.take_nil, List.drop_nil, sliced]
      exact .nil⟩
  | sl a cap f hcap hmax hrow hcell hM hx =>
    refine ⟨some a, cap, rfl, hcap, fun l m h1 h2 => ?_⟩
    have hlen : ((xs.take m).drop l).length = m - l := by simp; omega
    have hat : ∀ {i row}, ((xs.take m).drop l)[i]? = some row → xs[l + i]? = some row ∧ l + i < m := fun {i row} hi => by
      have hil := (List.getElem?_eq_some_iff.1 hi).1
      rw [hlen] at hil
      rw [List.getElem?_drop, List.getElem?_take_of_lt (by omega)] at hi
      exact ⟨hi, by omega⟩
    have e : sliced (some a) l m cap sz = .slice (some (if cap = l then a else a.add (l * sz))) ((xs.take m).drop l).length (cap - l) := by
      rw [hlen]
      unfold sliced
      split <;> rfl
    rw [e]
    have hne : ∀ {i row}, ((xs.take m).drop l)[i]? = some row → (if cap = l then a else a.add (l * sz)) = a.add (l * sz) := fun {i row} hi => by
      have := (hat hi).2
      rw [if_neg (by omega)]
    have had : ∀ {i row} (j : Nat), ((xs.take m).drop l)[i]? = some row → (if cap = l then a else a.add (l * sz)).add (i * sz + j) = a.add ((l + i) * sz + j) := fun {i row} j hi => by
      rw [hne hi, add_add', Nat.add_mul, Nat.add_assoc]
    refine .sl _ _ (fun i j => f (l + i) j) (by rw [hlen]; omega) (by omega) (fun i row hi => hrow _ row (hat hi).1) (fun i row j x hi hj => ?_) (fun i row j x hi hj => ?_) (fun i row j x hi hj => hx _ row j x (hat hi).1 hj)
    · rw [had j hi]; exact hcell _ row j x (hat hi).1 hj
    · rw [hne hi, (add_eq _ _).1, (add_eq _ _).2]
      have := hM _ row j x (hat hi).1 hj
      rw [Nat.add_mul] at this
      rwa [Nat.add_assoc, ← Nat.add_assoc (l * sz)]

section
variable {P : Program} {cx : Cx} {n : Nat} {Q : Exit → S → Prop} {regs : List (Nat × AV)} {objs : Obs} {ops : Array Oper} {rest : List Oper} {d : Nat} {pos : String} {aft : Array Edge} {ty : Nat}

theorem awl_cut_hi {T E sz sz' : Nat} {ag : Bool} {x y : Operand} {av : AV} {xs : List (List PV)} {kd : IntKind} {h : Int} (si : SI P T E) (ti : TI P E sz ag) (hx : S.ev ⟨regs, objs⟩ x = some av) (hr : av.rows = some (sz', xs)) (hz : Nat.beq sz' sz = true)
    (hy : S.ev ⟨regs, objs⟩ y = some (.p (.v (.int kd h)))) (h0 : 0 ≤ h) (h1 : h ≤ (xs.length : Int)) (hd : Nat.blt d n = true)
    (kk : AWl P cx n ops rest Q ⟨(d, .p (.sl sz (xs.take h.toNat))) :: regs, objs⟩) :
    AWl P cx n ops (⟨some d, .slice T x none (some y) none, ty, pos, aft, none⟩ :: rest) Q ⟨regs, objs⟩ :=
  awl_val (.p (.sl sz (xs.take h.toNat))) rfl rfl (by simpa using hd) (fun a w own r => by
    obtain rfl : sz' = sz := Nat.eq_of_beq_eq_true hz
    obtain ⟨ad, cap, e1, e2, e3⟩ := ((r.ev hx).rows hr).cut
    have hvy := (r.ev hy).val
    have hel : P.underlying T = some (.slice (P.elem T)) := by simp [Program.elem, si.h]
    have hel' : P.elem T = E := by simp [Program.elem, si.h]
    refine ⟨sliced ad 0 h.toNat cap sz', ?_, .p (e3 0 h.toNat (Nat.zero_le _) (by omega))⟩
    simp only [execOp, e1, hvy, Option.map_some, Option.map_none, Sem.run_bind]
    rw [run_sliceAt_slice w T _ _ _ _ hel, run_slice_h w T ad xs.length cap hel kd h h0 (by omega), ti_elem_size hel' ti w]
    rfl) kk
theorem awl_cut_lo {T E sz sz' : Nat} {ag : Bool} {x y : Operand} {av : AV} {xs : List (List PV)} {kd : IntKind} {h : Int} (si : SI P T E) (ti : TI P E sz ag) (hx : S.ev ⟨regs, objs⟩ x = some av) (hr : av.rows = some (sz', xs)) (hz : Nat.beq sz' sz = true)
    (hy : S.ev ⟨regs, objs⟩ y = some (.p (.v (.int kd h)))) (h0 : 0 ≤ h) (h1 : h ≤ (xs.length : Int)) (hd : Nat.blt d n = true)
    (kk : AWl P cx n ops rest Q ⟨(d, .p (.sl sz (xs.drop h.toNat))) :: regs, objs⟩) :
    AWl P cx n ops (⟨some d, .slice T x (some y) none none, ty, pos, aft, none⟩ :: rest) Q ⟨regs, objs⟩ :=
  awl_val (.p (.sl sz (xs.drop h.toNat))) rfl rfl (by simpa using hd) (fun a w own r => by
    obtain rfl : sz' = sz := Nat.eq_of_beq_eq_true hz
    obtain ⟨ad, cap, e1, e2, e3⟩ := ((r.ev hx).rows hr).cut
    have hvy := (r.ev hy).val
    have hel : P.underlying T = some (.slice (P.elem T)) := by simp [Program.elem, si.h]
    have hel' : P.elem T = E := by simp [Program.elem, si.h]
    have h3 := e3 h.toNat xs.length (by omega) (Nat.le_refl _)
    rw [List.take_length] at h3
    refine ⟨sliced ad h.toNat xs.length cap sz', ?_, .p h3⟩
    simp only [execOp, e1, hvy, Option.map_some, Option.map_none, Sem.run_bind]
    rw [run_sliceAt_slice w T _ _ _ _ hel, run_slice_l w T ad xs.length cap hel kd h h0 (by omega), ti_elem_size hel' ti w]
    rfl) kk
end

theorem setO_self {k : Nat} {o : Ob} : ∀ {l : Obs}, get l k = some o → setO l k o = l
  | [], h => rfl
  | (j, y) :: r, h => by
    simp only [get] at h
    simp only [setO]
    cases hb : Nat.beq j k with
    | true =>
      rw [hb] at h
      simp only [cond_true, Option.some.injEq] at h
      subst h
      obtain rfl : j = k := Nat.eq_of_beq_eq_true hb
      rfl
    | false =>
      rw [hb] at h
      simp only [cond_false] at h ⊢
      rw [setO_self h]

/-! the tail -/
theorem Rl.setTail {P : Program} {cx : Cx} {n : Nat} {s : S} {a : Act} {w : World} {own : Nat → Value} (r : Rl P cx n s a w own) {k T sz ver h : Nat} {xs ys : List (List PV)} {us : List Value} {b : Nat}
    (hk : get s.objs k = some (.mu T sz ver xs)) (hb : blk (own k) = some b) (hh : h + ys.length = xs.length) (hp : ∀ row ∈ ys, row.length = sz) (hu : us.length = ys.length * sz) (hus : ∀ (i : Nat) (row : List PV) (j : Nat) (x : PV), ys[i]? = some row → row[j]? = some x → Rep w (Mu cx.M0 own s.objs) x (us.getD (i * sz + j) undef)) :
    ∃ cur, w.heap[b]? = some (Obj.cells cur T (0, 0)) ∧ h * sz + us.length ≤ cur.size ∧ Rl P cx n ⟨s.regs, setO s.objs k (.mu T sz ver (xs.take h ++ ys))⟩ a (w.setRow b (cur.toList.take (h * sz) ++ us ++ cur.toList.drop (h * sz + us.length)).toArray) own := by
  obtain ⟨cells, hc, hrow, hx⟩ := r.mu_own hk
  rcases hc.2 with ⟨h5, _⟩ | ⟨g, cap, cur, h5, h50, hg, hnc, hcm, hcs, htake⟩
  · rw [h5] at hb; simp [blk] at hb
  · rw [h5] at hb
    simp only [blk, Option.some.injEq] at hb
    subst hb
    have hm2 : xs.length * sz ≤ cap * sz := Nat.mul_le_mul_right _ hnc
    have hsum : h * sz + ys.length * sz = xs.length * sz := by rw [← Nat.add_mul, hh]
    have hfit : h * sz + us.length ≤ cur.toList.length := by simp; omega
    refine ⟨cur, hg, by simpa using hfit, ?_⟩
    have hov := fun q => ovr_getD (L := cur.toList) (us := us) (o := h * sz) (q := q) hfit
    have hupd : upd own k (own k) = own := by
      funext j
      by_cases e : j = k
      · subst e; rw [upd_eq]
      · rw [upd_ne _ _ e]
    have hlen : (xs.take h ++ ys).length = xs.length := by simp; omega
    have hrow' : ∀ row ∈ xs.take h ++ ys, row.length = sz := fun row hr => by
      rcases List.mem_append.1 hr with h | h
      · exact hrow row (List.mem_of_mem_take h)
      · exact hp row h
    have key := r.remu (v' := own k) (ver' := ver) (xs' := xs.take h ++ ys) (w' := w.setRow g (cur.toList.take (h * sz) ++ us ++ cur.toList.drop (h * sz + us.length)).toArray)
      (cells' := ((cur.toList.take (h * sz) ++ us ++ cur.toList.drop (h * sz + us.length)).take (xs.length * sz))) hk (Nat.le_refl _) (fun _ => rfl)
      (by
        rw [hlen]
        refine ⟨by simp; omega, .inr ⟨g, cap, _, h5, h50, setRow_heap w g _ _ T (0, 0) hg, hnc, hcm, by simp; omega, by simp⟩⟩)
      hrow'
      rfl rfl rfl (by rw [setRow_size]; exact Nat.le_refl _) (fun c _ hne => setRow_far w g _ fun e => hne (by rw [h5, e]; rfl)) (fun c hc' => .inl hc') (fun c cs hc' h => by
        rw [h5] at hc'; simp only [blk, Option.some.injEq] at hc'; subst hc'; exact ⟨_, setRow_heap w g _ _ T (0, 0) h⟩)
      (fun hst q row j x hq hj => by
        have hql : q < xs.length := by have := (List.getElem?_eq_some_iff.1 hq).1; rwa [hlen] at this
        have hjs : j < sz := by
          have := hrow' row (List.mem_of_getElem? hq)
          have := (List.getElem?_eq_some_iff.1 hj).1; omega
        have hqm : (q + 1) * sz ≤ xs.length * sz := Nat.mul_le_mul_right _ hql
        rw [Nat.add_mul, Nat.one_mul] at hqm
        have e1 : ((cur.toList.take (h * sz) ++ us ++ cur.toList.drop (h * sz + us.length)).take (xs.length * sz)).getD (q * sz + j) undef = (cur.toList.take (h * sz) ++ us ++ cur.toList.drop (h * sz + us.length)).getD (q * sz + j) undef := by
          rw [List.getD_eq_getElem?_getD, List.getElem?_take_of_lt (by omega), ← List.getD_eq_getElem?_getD]
        rw [e1, hov]
        rcases Nat.lt_or_ge q h with hqh | hqh
        · rw [List.getElem?_append_left (by simp; omega), List.getElem?_take_of_lt hqh] at hq
          have hcell : cells.getD (q * sz + j) undef = cur.toList.getD (q * sz + j) undef := by
            rw [← htake, List.getD_eq_getElem?_getD, List.getElem?_take_of_lt (by omega), ← List.getD_eq_getElem?_getD]
          have h9 := (hx q row j x hq hj).stp hst
          rw [hcell] at h9
          have : (q + 1) * sz ≤ h * sz := Nat.mul_le_mul_right _ hqh
          rw [Nat.add_mul, Nat.one_mul] at this
          rw [if_pos (by omega)]; exact h9
        · have hth : (xs.take h).length = h := by simp; omega
          rw [List.getElem?_append_right (by omega), hth] at hq
          have hge : h * sz ≤ q * sz := Nat.mul_le_mul_right _ hqh
          have e2 : q * sz + j - h * sz = (q - h) * sz + j := by rw [Nat.sub_mul]; omega
          rw [if_neg (by omega), if_pos (by omega), e2]
          exact (hus _ row j x hq hj).stp hst)
    rw [hupd] at key
    exact key.1

theorem zeroCells_spec {z : Array Value} {n sz : Nat} (hz : z.size = sz) (hs : 0 < sz) : (Builtin.zeroCells z n).toList.length = n * sz ∧ (∀ (i j : Nat), i < n → j < sz → (Builtin.zeroCells z n).toList.getD (i * sz + j) undef = z.getD j undef) ∧ ∀ v ∈ (Builtin.zeroCells z n).toList, v ∈ z.toList := by
  subst hz
  refine ⟨by simp [Builtin.zeroCells], fun i j hi hj => ?_, fun v hv => ?_⟩
  · have hlt : i * z.size + j < n * z.size := by
      have : (i + 1) * z.size ≤ n * z.size := Nat.mul_le_mul_right _ hi
      rw [Nat.add_mul, Nat.one_mul] at this; omega
    have hm : (i * z.size + j) % z.size = j := by rw [Nat.mul_comm, Nat.mul_add_mod]; exact Nat.mod_eq_of_lt hj
    simp [Builtin.zeroCells, List.getD_eq_getElem?_getD, hlt, hm, Array.getD_eq_getD_getElem?, hj]
  · simp only [Builtin.zeroCells, Array.toList_map, List.mem_map] at hv
    obtain ⟨q, _, rfl⟩ := hv
    have : q % z.size < z.size := Nat.mod_lt _ hs
    simp [this]

section
variable {P : Program} {cx : Cx} {n : Nat} {Q : Exit → S → Prop} {regs : List (Nat × AV)} {objs : Obs} {ops : Array Oper} {rest : List Oper} {d : Nat} {pos pos' : String} {aft aft' : Array Edge} {ty ty' : Nat}

/-- What stands behind h is cleared. -/
theorem awl_cleartail {T E sz k ver : Nat} {ag : Bool} {x y : Operand} {xs : List (List PV)} {kd : IntKind} {h : Int} {zs : List Value} {objs' : Obs} (si : SI P T E) (ti : TI P E sz ag) (tz : TZ P E zs) (hx : S.ev ⟨regs, objs⟩ x = some (.tm k ver)) (hk : get objs k = some (.mu E sz ver xs))
    (hy : S.ev ⟨regs, objs⟩ y = some (.p (.v (.int kd h)))) (h0 : 0 ≤ h) (h1 : h ≤ (xs.length : Int)) (hzs : zs.length = sz) (hsz : 0 < sz) (hq : setq objs k (.mu E sz ver (xs.take h.toNat ++ List.replicate (xs.length - h.toNat) (zs.map .v))) = some objs') (hd : Nat.blt d n = true)
    (kk : AWl P cx n ops rest Q ⟨(d, .any) :: regs, objs'⟩) :
    AWl P cx n ops (⟨some d, .slice T x (some y) none none, ty, pos, aft, none⟩ :: ⟨none, .call ⟨.builtin .clear, #[.tmp d], #[T]⟩, ty', pos', aft', none⟩ :: rest) Q ⟨regs, objs⟩ := fun a w ⟨own, r⟩ => by
  have hv := r.tm_val hk (r.ev hx)
  have hvy := (r.ev hy).val
  obtain ⟨cells, hc, hrow, hxx⟩ := r.mu_own hk
  have hel : P.underlying T = some (.slice (P.elem T)) := by simp [Program.elem, si.h]
  have hel' : P.elem T = E := by simp [Program.elem, si.h]
  have hd' : d < n := by simpa using hd
  obtain ⟨ad, cap, e1, e2, e3⟩ := ownsRow_hdr hc
  have hrun1 : (execOp a.eval ⟨some d, .slice T x (some y) none none, ty, pos, aft, none⟩).run P w = .ok (.value (sliced ad h.toNat xs.length cap sz)) w := by
    simp only [execOp, hv, hvy, e1, Option.map_some, Option.map_none, Sem.run_bind]
    rw [run_sliceAt_slice w T _ _ _ _ hel, run_slice_l w T ad xs.length cap hel kd h h0 (by omega), ti_elem_size hel' ti w]
    rfl
  have hone : (sliced ad h.toNat xs.length cap sz).oneCell' = true := rfl
  refine wpList_plain rfl fun K hK => ?_
  unfold Oper.wp
  rw [hrun1]
  have r1 : Rl P cx n ⟨(d, .p (.v (sliced ad h.toNat xs.length cap sz))) :: regs, objs⟩ (a.put (some d) (sliced ad h.toNat xs.length cap sz)) w own := r.put_same hd' (.p (.v hone))
  refine hK _ _ ?_
  have hat : (a.put (some d) (sliced ad h.toNat xs.length cap sz)).eval (.tmp d) = sliced ad h.toNat xs.length cap sz := (r1.ev (x := .tmp d) (by simp [S.ev, get, Nat.beq_refl])).val
  have kk' : AWl P cx n ops rest Q ⟨(d, .p (.v (sliced ad h.toNat xs.length cap sz))) :: regs, objs'⟩ := awl_sub (y := .any) (fun _ _ _ _ _ _ => .any) kk
  generalize a.put (some d) (sliced ad h.toNat xs.length cap sz) = a1 at r1 hat ⊢
  refine wpList_plain rfl fun K2 hK2 => ?_
  unfold Oper.wp
  obtain ⟨z, hz1, hz2⟩ : ∃ z, (∀ w, (zeroValue (P.elem T)).run P w = .ok z w) ∧ z.cells = zs.toArray := by
    obtain ⟨z, g1, g2⟩ := tz.h
    rw [hel']
    cases hq : P.info? E with
    | none => simp [hq] at g1
    | some i => simp [hq] at g1; exact ⟨z, fun w => by simp [zeroValue, typeInfo, hq, g1], g2⟩
  rcases Nat.lt_or_ge h.toNat xs.length with hlt | hge
  · rcases hc.2 with ⟨_, h9⟩ | ⟨g, cap', cur, h5, h50, hg, hnc, hcm, hcs, htake⟩
    · omega
    · have hown := h5
      rw [e1] at h5
      injection h5 with h5 h6 h7
      subst h5 h7
      have hval : sliced (some ⟨g, 0, none⟩) h.toNat xs.length cap sz = .slice (some ⟨g, h.toNat * sz, none⟩) (xs.length - h.toNat) (cap - h.toNat) := by
        unfold sliced
        rw [if_neg (by omega)]
        simp only [Option.map_some, add_at, Nat.zero_add]
      have hzsz : z.cells.size = sz := by rw [hz2]; simpa using hzs
      obtain ⟨hl1, hl2, hl3⟩ := zeroCells_spec (n := xs.length - h.toNat) hzsz hsz
      obtain ⟨cur2, hg2, hfit, r'⟩ := r1.setTail (h := h.toNat) (ys := List.replicate (xs.length - h.toNat) (zs.map .v)) (us := (Builtin.zeroCells z.cells (xs.length - h.toNat)).toList) (b := g) hk (by rw [hown]; rfl) (by simp; omega)
        (fun row hr => by rw [List.eq_of_mem_replicate hr]; simpa using hzs) (by rw [hl1]; simp) (fun i row j x hi hj => by
          have hil : i < xs.length - h.toNat := by have := (List.getElem?_eq_some_iff.1 hi).1; simpa using this
          rw [List.getElem?_replicate, if_pos hil] at hi
          cases hi
          have hjl : j < zs.length := by have := (List.getElem?_eq_some_iff.1 hj).1; simpa using this
          rw [hl2 i j hil (by omega), hz2]
          rw [List.getElem?_map, List.getElem?_eq_getElem hjl] at hj
          simp only [Option.map_some, Option.some.injEq] at hj
          subst hj
          have e : zs.toArray.getD j undef = zs[j] := by simp [Array.getD_eq_getD_getElem?, hjl]
          rw [e]
          exact .v (List.all_eq_true.1 tz.one _ (List.getElem_mem hjl)))
      have hone' : ∀ v ∈ (Builtin.zeroCells z.cells (xs.length - h.toNat)).toList, v.oneCell' = true := fun v hv => by
        have := hl3 v hv
        rw [hz2] at this
        exact List.all_eq_true.1 tz.one _ (by simpa using this)
      have hst := run_storeCells_at P g (h.toNat * sz) E (Builtin.zeroCells z.cells (xs.length - h.toNat)).toList 0 cur2 w hg2 (by simpa using hfit) hone'
      simp only [Nat.add_zero] at hst
      have hrun2 : (execOp a1.eval ⟨none, .call ⟨.builtin .clear, #[.tmp d], #[T]⟩, ty', pos', aft', none⟩).run P w = .ok (.value (.tuple #[])) (w.setRow g (cur2.toList.take (h.toNat * sz) ++ (Builtin.zeroCells z.cells (xs.length - h.toNat)).toList ++ cur2.toList.drop (h.toNat * sz + (Builtin.zeroCells z.cells (xs.length - h.toNat)).toList.length)).toArray) := by
        obtain ⟨m, hm⟩ : ∃ m, xs.length - h.toNat = m + 1 := ⟨xs.length - h.toNat - 1, by omega⟩
        simp only [execOp, resolve, invoke, builtin, Sem.run_bind, Sem.run_pure, Result.andThen_ok, List.map_toArray, List.map_cons, List.map_nil, hat, hval]
        rw [hm] at hst ⊢
        simp [Builtin.clear_, run_underlying hel, hz1, hst]
      rw [hrun2]
      refine hK2 _ _ ?_
      rw [setq_spec hq] at kk'
      exact kk' _ _ ⟨own, r'⟩
  · have hval : ∃ q c, sliced ad h.toNat xs.length cap sz = .slice q 0 c := ⟨_, _, by unfold sliced; rw [show xs.length - h.toNat = 0 by omega]⟩
    obtain ⟨q, c, hval⟩ := hval
    have hrun2 : (execOp a1.eval ⟨none, .call ⟨.builtin .clear, #[.tmp d], #[T]⟩, ty', pos', aft', none⟩).run P w = .ok (.value (.tuple #[])) w := by
      simp only [execOp, resolve, invoke, builtin, Sem.run_bind, Sem.run_pure, Result.andThen_ok, List.map_toArray, List.map_cons, List.map_nil, hat, hval]
      cases q <;> simp [Builtin.clear_, run_underlying hel]
    rw [hrun2]
    refine hK2 _ _ ?_
    have hobj : objs' = objs := by
      rw [setq_spec hq]
      have : xs.take h.toNat ++ List.replicate (xs.length - h.toNat) (zs.map PV.v) = xs := by
        rw [show xs.length - h.toNat = 0 by omega, List.take_of_length_le (by omega)]; simp
      rw [this]
      exact setO_self hk
    rw [hobj] at kk'
    exact kk' _ _ ⟨own, r1⟩
end
end Go.Ab
