/- Comparisons with nil; rests of small numbers; slices made. -/
import Derived.Test.YtnennmlpaijedaaAb29
import Derived.Laws.Pointers
import Derived.Laws.Cover3
set_option linter.unusedVariables false
set_option linter.unusedSectionVars false
set_option linter.unusedSimpArgs false
namespace Go.Ab
open Go Go.RowKit

section
variable {P : Program} {T : Nat} {x y : Operand}
theorem ptr_nil {p : Option Addr} {e : Nat} (h : P.underlying T = some (.pointer e)) : ∀ w, (do eqGuard .eql T x y (.pointer p) (.pointer none); binOp .eql T (.pointer p) (.pointer none) : Sem Value).run P w = .ok (.bool p.isNone) w := fun w => by
  have h1 : (eqGuard .eql T x y (.pointer p) (.pointer none)).run P w = .ok () w := by simp [eqGuard]
  have h2 : binOp .eql T (.pointer p) (.pointer none) = (do pure (.bool (← Op.equal T (.pointer p) (.pointer none)))) := rfl
  have h3 : (Op.equal T (.pointer p) (.pointer none)).run P w = .ok p.isNone w := by
    show (Op.equalIn (9999 + 1) T (.pointer p) (.pointer none)).run P w = _
    generalize 9999 = dd
    cases p <;> simp [Op.equalIn, run_underlying h]
  simp only [Sem.run_bind, h1, h2, h3, Result.andThen_ok, Sem.run_pure]
theorem pointer_eql {e : Nat} (h : P.underlying T = some (.pointer e)) : ∀ w, (do eqGuard .eql T x y (.pointer none) (.pointer none); binOp .eql T (.pointer none) (.pointer none) : Sem Value).run P w = .ok (.bool true) w := ptr_nil h
theorem func_nil {ps rs : Array TypeId} {vd : Bool} (h : P.underlying T = some (.func ps rs vd)) : ∀ w, (do eqGuard .eql T x y .nilFunc .nilFunc; binOp .eql T .nilFunc .nilFunc : Sem Value).run P w = .ok (.bool true) w := fun w => by
  have h1 : (eqGuard .eql T x y .nilFunc .nilFunc).run P w = .ok () w := by simp [eqGuard]
  have h2 : binOp .eql T .nilFunc .nilFunc = (do pure (.bool (← Op.equal T .nilFunc .nilFunc))) := rfl
  have h3 : (Op.equal T .nilFunc .nilFunc).run P w = .ok true w := by
    show (Op.equalIn (9999 + 1) T .nilFunc .nilFunc).run P w = _
    generalize 9999 = dd
    simp [Op.equalIn, run_underlying h]
  simp only [Sem.run_bind, h1, h2, h3, Result.andThen_ok, Sem.run_pure]
theorem slice_nil {a : Option Addr} {l c e : Nat} (h : P.underlying T = some (.slice e)) : ∀ w, (do eqGuard .eql T x y (.slice a l c) (.slice none 0 0); binOp .eql T (.slice a l c) (.slice none 0 0) : Sem Value).run P w = .ok (.bool a.isNone) w := fun w => by
  have h1 : (eqGuard .eql T x y (.slice a l c) (.slice none 0 0)).run P w = .ok () w := by simp [eqGuard]
  have h2 : binOp .eql T (.slice a l c) (.slice none 0 0) = (do pure (.bool (← Op.equal T (.slice a l c) (.slice none 0 0)))) := rfl
  simp only [Sem.run_bind, h1, h2, run_equal_slice_nil w T e a l c h, Result.andThen_ok, Sem.run_pure]
theorem bin_rem_u8 {a b : Int} (h : 0 ≤ a ∧ a ≤ 255 ∧ 0 < b ∧ b ≤ 255) : ∀ w, (do eqGuard .rem T x y (.int .u8 a) (.int .u8 b); binOp .rem T (.int .u8 a) (.int .u8 b) : Sem Value).run P w = .ok (.int .u8 (a % b)) w := fun w => by
  have h1 : (eqGuard .rem T x y (.int .u8 a) (.int .u8 b)).run P w = .ok () w := rfl
  have h2 : binOp .rem T (.int .u8 a) (.int .u8 b) = Op.intDiv .rem .u8 a b := rfl
  have hb : ¬ b = 0 := by omega
  simp only [Sem.run_bind, h1, h2, Result.andThen_ok, Op.intDiv]
  have e1 : a.tmod b = a % b := Int.tmod_eq_emod_of_nonneg h.1
  rw [if_neg hb, e1]; rfl
end

section
variable {P : Program} {cx : Cx} {n : Nat} {Q : Exit → S → Prop} {regs : List (Nat × AV)} {objs : Obs} {ops : Array Oper} {rest : List Oper} {d : Nat} {pos : String} {aft : Array Edge} {ty : Nat}

theorem awl_ptr_nil {xT yT e k off : Nat} {x y : Operand} (hT : P.underlying xT = some (.pointer e)) (hx : S.ev ⟨regs, objs⟩ x = some (.ptr k off)) (hy : S.ev ⟨regs, objs⟩ y = some (.p (.v (.pointer none)))) (hd : Nat.blt d n = true) (kk : AWl P cx n ops rest Q ⟨(d, .p (B false)) :: regs, objs⟩) :
    AWl P cx n ops (⟨some d, .binOp .eql xT x y yT, ty, pos, aft, none⟩ :: rest) Q ⟨regs, objs⟩ :=
  awl_val (.p (B false)) rfl rfl (by simpa using hd) (fun a w own r => by
    obtain ⟨b, _, h1⟩ := (r.ev hx).ptr_inv
    have h2 := (r.ev hy).val
    have h3 := ptr_nil (x := x) (y := y) (p := some ⟨b, off, none⟩) hT w
    refine ⟨.bool false, ?_, .scal rfl⟩
    simp only [execOp, h1, h2, Sem.run_bind] at h3 ⊢
    rw [h3]; simp) kk

theorem awl_tm_nil {xT yT e k T sz ver : Nat} {x y : Operand} {xs : List (List PV)} (hT : P.underlying xT = some (.slice e)) (hx : S.ev ⟨regs, objs⟩ x = some (.tm k ver)) (hk : get objs k = some (.mu T sz ver xs)) (hy : S.ev ⟨regs, objs⟩ y = some (.p nilS)) (hd : Nat.blt d n = true)
    (kk : ∀ b : Bool, (b = true → xs = []) → AWl P cx n ops rest Q ⟨(d, .p (B b)) :: regs, objs⟩) :
    AWl P cx n ops (⟨some d, .binOp .eql xT x y yT, ty, pos, aft, none⟩ :: rest) Q ⟨regs, objs⟩ := fun a w ⟨own, r⟩ => by
  have hv := r.tm_val hk (r.ev hx)
  have h2 := (r.ev hy).val
  obtain ⟨cells, hc, _⟩ := r.mu_own hk
  obtain ⟨ad, cap, e1, _, _⟩ := ownsRow_hdr hc
  have h3 := slice_nil (x := x) (y := y) (a := ad) (l := xs.length) (c := cap) hT w
  refine wpList_plain rfl fun K hK => ?_
  unfold Oper.wp
  have hrun : (execOp a.eval ⟨some d, .binOp .eql xT x y yT, ty, pos, aft, none⟩).run P w = .ok (.value (.bool ad.isNone)) w := by
    simp only [execOp, hv, e1, h2, Sem.run_bind] at h3 ⊢
    rw [h3]; simp
  rw [hrun]
  refine hK _ _ (kk ad.isNone (fun hb => ?_) _ _ ⟨own, r.put_same (by simpa using hd) (.scal rfl)⟩)
  rcases hc.2 with ⟨_, h5⟩ | ⟨g, cap', cur, h5, _⟩
  · exact List.eq_nil_of_length_eq_zero h5
  · rw [e1] at h5; cases h5; simp at hb

/-- A slice of zeros. -/
theorem awl_make_m {T E bytes : Nat} {x : Operand} {kd : IntKind} {m : Nat} {z : Value} (si : SI P T E) (hi : (P.info? E).map (fun i => (i.size, i.bytes, i.zero)) = some (1, bytes, some z)) (hz : z.oneCell' = true) (hzc : z.cells = #[z]) (hx : S.ev ⟨regs, objs⟩ x = some (.p (.v (.int kd (m : Int))))) (hb : bytes * m ≤ 281474976710656) (h63 : m ≤ 9223372036854775807)
    (hf : fresh d ⟨regs, objs⟩ = true) (h0 : get cx.objs0 d = none) (hd : Nat.blt d n = true) (kk : AWl P cx n ops rest Q ⟨(d, .tm d 0) :: regs, (d, .mu E 1 0 (List.replicate m [.v z])) :: objs⟩) :
    AWl P cx n ops (⟨some d, .makeSlice T x x, ty, pos, aft, none⟩ :: rest) Q ⟨regs, objs⟩ :=
  awl_op rfl (fun a w own r => by
    have hv := (r.ev hx).val
    cases hq : P.info? E with
    | none => simp [hq] at hi
    | some i =>
      simp only [hq, Option.map_some, Option.some.injEq, Prod.mk.injEq] at hi
      obtain ⟨e1, e2, e3⟩ := hi
      obtain ⟨w', hr, hown, hg⟩ := run_make_full (P := P) w 0 T E i z 1 si.h hq e3 e1 kd kd m (by rw [e2]; exact hb) (by simp only [maxLen]; omega) (Nat.zero_le _)
      rw [hzc] at hown
      have hlen : (List.replicate m [PV.v z]).length = m := by simp
      have hcl : (madeCells #[z] (m * 1)).toList = List.replicate m z := by rw [Nat.mul_one]; exact toList_madeCells_one z m
      rw [hcl] at hown
      have key := r.newMu (vr := 0) (w' := w') d E 1 (List.replicate m [.v z]) (.slice (some ⟨w.heap.size, 0, none⟩) m m) (List.replicate m z) hf h0 (by rw [hlen]; exact hown) hg (fun b hb => by simp only [blk, Option.some.injEq] at hb; omega)
        (fun row hr => by rw [(List.mem_replicate.1 hr).2]; rfl)
        (fun _ q row j y hq hj => by
          have hqm : q < m := by have := (List.getElem?_eq_some_iff.1 hq).1; simpa using this
          simp only [List.getElem?_replicate, hqm, if_true, Option.some.injEq] at hq
          subst hq
          cases j with
          | zero =>
            simp at hj; subst hj
            have : (List.replicate m z).getD (q * 1 + 0) undef = z := by simp [List.getD_eq_getElem?_getD, hqm]
            rw [this]; exact .v hz
          | succ j => simp at hj)
      refine ⟨_, w', .inl ?_, _, key.1.put_tm (d := d) (k := d) (T := E) (sz := 1) (ver := 0) (xs := List.replicate m [.v z]) (by simpa using hd) (by simp [get, Nat.beq_refl]) (by rw [upd_eq]) rfl⟩
      simp only [execOp, hv, hr, Sem.run_bind, Result.andThen_ok, Sem.run_pure]) kk
theorem x_invoke {T f k off : Nat} {name : String} {rc : Operand} {l : List Operand} {ts : Array Nat} {avs args : List AV} {sub o2 : Obs} {R : AV → Obs → Prop} (mi : MI P T name f) (ks : List Nat) (hf : FB P f) (hr : S.ev ⟨regs, objs⟩ rc = some (.ifc T (.ptr k off))) (hx : evs ⟨regs, objs⟩ l = some avs) (hsub : selq ks objs = some sub) (ho : othq ks objs = some o2) (con : Con P f args sub R) (hs : Subs (.ptr k off :: avs) args) (hd : Nat.blt d n = true)
    (kk : ∀ r objs', R r objs' → newOK ks ⟨regs, objs⟩ cx.objs0 objs' = true ∧ ∃ o3, appq objs' o2 = some o3 ∧ AWl P cx n ops rest Q ⟨(d, r) :: regs, o3⟩) :
    AWl P cx n ops (⟨some d, .call ⟨.invoke rc name, l.toArray, ts⟩, ty, pos, aft, none⟩ :: rest) Q ⟨regs, objs⟩ :=
  awl_invoke mi hf hr hd ks hx hs con (selq_spec hsub).symm fun r objs' hR => by
    obtain ⟨h1, o3, h2, h3⟩ := kk r objs' hR
    refine ⟨h1, ?_⟩
    rw [← othq_spec ho, ← appq_spec h2]; exact h3
end
end Go.Ab
