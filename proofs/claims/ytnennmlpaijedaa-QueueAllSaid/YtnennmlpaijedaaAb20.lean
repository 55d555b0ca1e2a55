/- Calls of a function's value; a nil field becomes a slice of one's own. -/
import Derived.Test.YtnennmlpaijedaaAb19
set_option linter.unusedVariables false
set_option linter.unusedSectionVars false
set_option linter.unusedSimpArgs false
namespace Go.Ab
open Go Go.RowKit

section
variable {P : Program} {cx : Cx} {n : Nat} {Q : Exit → S → Prop} {regs : List (Nat × AV)} {objs : Obs} {ops : Array Oper} {rest : List Oper} {d : Nat} {pos : String} {aft : Array Edge} {ty : Nat}

theorem awl_calltmp {t f : Nat} {l : Array Operand} {ts : Array Nat} (ht : get regs t = some (.p (.fn (.func f) [] [])))
    (h : AWl P cx n ops (⟨some d, .call ⟨.value (.func f), l, ts⟩, ty, pos, aft, none⟩ :: rest) Q ⟨regs, objs⟩) :
    AWl P cx n ops (⟨some d, .call ⟨.value (.tmp t), l, ts⟩, ty, pos, aft, none⟩ :: rest) Q ⟨regs, objs⟩ := fun a w ⟨own, r⟩ => by
  have hv : a.tmps.getD t undef = .func (.func f) #[] #[] := by
    have h1 := r.regs t _ ht
    generalize a.tmps.getD t undef = u at h1
    cases h1 with
    | p h1 =>
      cases h1 with
      | fn vf vc hf hc _ _ =>
        obtain rfl := List.eq_nil_of_length_eq_zero hf
        obtain rfl := List.eq_nil_of_length_eq_zero hc
        rfl
  have he : execOp a.eval ⟨some d, .call ⟨.value (.tmp t), l, ts⟩, ty, pos, aft, none⟩ = execOp a.eval ⟨some d, .call ⟨.value (.func f), l, ts⟩, ty, pos, aft, none⟩ := by
    simp only [execOp, resolve, Act.eval, hv]
  have h' := h a w ⟨own, r⟩
  unfold wpList at h' ⊢
  rw [if_pos (by simp [Region.wanted])] at h' ⊢
  rcases h' with h' | ⟨h1, h2⟩
  · left
    unfold Oper.wp at h' ⊢
    rw [he]; exact h'
  · right
    refine ⟨?_, h2⟩
    unfold Oper.asks at h1 ⊢
    rw [he]; exact h1

/-- A field that is nil becomes an own slice. -/
theorem Le.tokO {k0 T j : Nat} {cs cs' : List AV} {regs : List (Nat × AV)} {objs objs' : Obs} (k E sz : Nat) (hk : get objs k0 = some (.ce T cs)) (hj : cs[j]? = some (.p nilS)) (hc : cs' = cs.set j (.ts k sz [])) (ho : objs' = setO objs k0 (.ce T cs')) (hf : fresh k ⟨regs, objs⟩ = true) (h0 : get cx.objs0 k = none) :
    Le P cx n ⟨regs, objs⟩ ⟨regs, (k, .ar E sz 0) :: objs'⟩ := fun a w ⟨own, r⟩ => by
  obtain ⟨r', hM, hkr⟩ := r.newTok k E sz hf h0
  have hmem := get_mem hk
  subst ho hc
  simp only [fresh, Bool.and_eq_true] at hf
  have hne : k0 ≠ k := (freshO_mem hf.2 _ _ hmem).1
  have hn := r.ok.keys
  have hmem2 : (k0, Ob.ce T (cs.set j (.ts k sz []))) ∈ setO objs k0 (.ce T (cs.set j (.ts k sz []))) := setO_mem_eq hk
  have hMu : ∀ ow, Mu cx.M0 ow ((k, .ar E sz 0) :: setO objs k0 (.ce T (cs.set j (.ts k sz [])))) = Mu cx.M0 ow ((k, .ar E sz 0) :: objs) := fun ow => by
    funext b i
    apply propext
    constructor
    · rintro (h | ⟨q, o, hq, hm⟩)
      · exact .inl h
      · rcases List.mem_cons.1 hq with e | e
        · exact .inr ⟨q, o, by rw [e]; exact List.mem_cons_self .., hm⟩
        · rcases setO_mem hn e with ⟨rfl, rfl⟩ | ⟨_, h2⟩
          · exact .inr ⟨q, _, List.mem_cons_of_mem _ hmem, hm⟩
          · exact .inr ⟨q, o, List.mem_cons_of_mem _ h2, hm⟩
    · rintro (h | ⟨q, o, hq, hm⟩)
      · exact .inl h
      · rcases List.mem_cons.1 hq with e | e
        · exact .inr ⟨q, o, by rw [e]; exact List.mem_cons_self .., hm⟩
        · by_cases hqk : q = k0
          · subst hqk
            obtain rfl : o = .ce T cs := by have := get_of_mem hn e; rw [hk] at this; exact (Option.some.inj this).symm
            exact .inr ⟨q, _, List.mem_cons_of_mem _ hmem2, hm⟩
          · exact .inr ⟨q, o, List.mem_cons_of_mem _ (setO_mem_ne hqk e), hm⟩
  have hhw : hwOf ((k, Ob.ar E sz 0) :: setO objs k0 (.ce T (cs.set j (.ts k sz [])))) = hwOf ((k, .ar E sz 0) :: objs) := by
    funext q
    have h1 := hwOf_setO_ce (T' := T) (cs' := cs.set j (.ts k sz [])) hk q
    unfold hwOf at h1 ⊢
    simp only [get]
    cases Nat.beq k q with
    | true => rfl
    | false => exact h1
  have hk1 : (k, Ob.ar E sz 0) ∈ (k, Ob.ar E sz 0) :: objs := List.mem_cons_self ..
  refine ⟨_, { defs := r'.defs, size := r'.size, ok := ?_, regs := fun q y hq => by rw [hMu, hhw]; exact r'.regs q y hq, stp := by rw [hMu]; exact r'.stp, fix := fun q o hq => by rw [hhw]; exact r'.fix q o hq, fr := ⟨r'.fr.keep, fun q o b hq hb => ?_, r'.fr.size⟩ }⟩
  · refine { obs := fun q o hq => ?_, keys := ?_, inj := fun q o q' o' hq hq' hqq b hb hb' => ?_, m0 := fun q o b hq hb => ?_, m0old := r'.ok.m0old }
    · rw [hMu, hhw]
      rcases List.mem_cons.1 hq with e | e
      · cases e; exact r'.ok.obs k _ (List.mem_cons_self ..)
      · rcases setO_mem hn e with ⟨rfl, rfl⟩ | ⟨_, h2⟩
        · obtain ⟨b, vals, e1, e2, e3, e4⟩ := r'.ok.obs q _ (List.mem_cons_of_mem _ hmem)
          refine ⟨b, vals, e1, e2, by simpa using e3, fun i x hi => ?_⟩
          by_cases hij : j = i
          · subst hij
            have hjl : j < cs.length := (List.getElem?_eq_some_iff.1 hj).1
            rw [List.getElem?_set_self hjl] at hi
            cases hi
            have hv := (e4 j _ hj).2.val
            rw [hv]
            refine ⟨rfl, .ts .nil fun m hm => ?_⟩
            have : hwOf ((k, Ob.ar E sz 0) :: objs) k = some 0 := by simp [hwOf, get, Nat.beq_refl]
            rw [this] at hm; cases hm
            exact ⟨Nat.le_refl _, fun _ => by rw [upd_eq]⟩
          · rw [List.getElem?_set_ne hij] at hi
            exact e4 i x hi
        · exact r'.ok.obs q o (List.mem_cons_of_mem _ h2)
    · have := r'.ok.keys
      simpa [setO_keys] using this
    · have key : ∀ q o, (q, o) ∈ (k, Ob.ar E sz 0) :: setO objs k0 (.ce T (cs.set j (.ts k sz []))) → ∃ o', (q, o') ∈ (k, Ob.ar E sz 0) :: objs := fun q o hq => by
        rcases List.mem_cons.1 hq with e | e
        · exact ⟨o, by rw [e]; exact List.mem_cons_self ..⟩
        · rcases setO_mem hn e with ⟨rfl, rfl⟩ | ⟨_, h2⟩
          · exact ⟨_, List.mem_cons_of_mem _ hmem⟩
          · exact ⟨o, List.mem_cons_of_mem _ h2⟩
      obtain ⟨o1, h1⟩ := key q o hq
      obtain ⟨o2, h2⟩ := key q' o' hq'
      exact r'.ok.inj q o1 q' o2 h1 h2 hqq b hb hb'
    · rcases List.mem_cons.1 hq with e | e
      · exact r'.ok.m0 q o b (by rw [e]; exact List.mem_cons_self ..) hb
      · rcases setO_mem hn e with ⟨rfl, rfl⟩ | ⟨_, h2⟩
        · exact r'.ok.m0 q _ b (List.mem_cons_of_mem _ hmem) hb
        · exact r'.ok.m0 q o b (List.mem_cons_of_mem _ h2) hb
  · rcases List.mem_cons.1 hq with e | e
    · exact r'.fr.loc q o b (by rw [e]; exact List.mem_cons_self ..) hb
    · rcases setO_mem hn e with ⟨rfl, rfl⟩ | ⟨_, h2⟩
      · exact r'.fr.loc q _ b (List.mem_cons_of_mem _ hmem) hb
      · exact r'.fr.loc q o b (List.mem_cons_of_mem _ h2) hb
end
end Go.Ab
