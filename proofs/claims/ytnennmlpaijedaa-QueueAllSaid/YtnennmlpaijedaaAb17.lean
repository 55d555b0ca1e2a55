/- Arrays: an element's address, an element, equality. -/
import Derived.Test.YtnennmlpaijedaaAb16
set_option linter.unusedVariables false
set_option linter.unusedSectionVars false
set_option linter.unusedSimpArgs false
namespace Go.Ab
open Go Go.RowKit

structure AI (P : Program) (T m E : Nat) : Prop where
  h : P.underlying T = some (.array m E)

section
variable {P : Program} {cx : Cx} {n : Nat} {Q : Exit → S → Prop} {regs : List (Nat × AV)} {objs : Obs} {ops : Array Oper} {rest : List Oper} {d : Nat} {pos : String} {aft : Array Edge} {ty : Nat}

theorem x_arr {T m E esz k off o2 : Nat} {ag : Bool} {x y : Operand} {kd : IntKind} {i : Int} (ai : AI P T m E) (ti : TI P E esz ag) (hx : S.ev ⟨regs, objs⟩ x = some (.ptr k off)) (hy : S.ev ⟨regs, objs⟩ y = some (.p (.v (.int kd i)))) (h0 : 0 ≤ i) (h1 : i < (m : Int))
    (ho : off + i.toNat * esz = o2) (hd : Nat.blt d n = true) (kk : AWl P cx n ops rest Q ⟨(d, .ptr k o2) :: regs, objs⟩) :
    AWl P cx n ops (⟨some d, .indexAddr T x y, ty, pos, aft, none⟩ :: rest) Q ⟨regs, objs⟩ :=
  awl_val (.ptr k o2) rfl rfl (by simpa using hd) (fun a w own r => by
    obtain ⟨b, hb, hv⟩ := (r.ev hx).ptr_inv
    have hvy := (r.ev hy).val
    refine ⟨.pointer (some ⟨b, o2, none⟩), ?_, .ptr hb⟩
    have e1 : P.arrayLen T = m := by simp [Program.arrayLen, ai.h]
    have e2 : P.elem T = E := by simp [Program.elem, ai.h]
    have hu : P.underlying T = some (.array (P.arrayLen T) (P.elem T)) := by rw [e1, e2]; exact ai.h
    simp only [execOp, hv, hvy, Sem.run_bind]
    rw [run_indexAt_array w T _ kd i hu, e1, e2, if_pos ⟨h0, h1⟩, ti.run_size w]
    simp only [Result.andThen_ok, Sem.run_pure, add_at, ho]) kk

theorem x_idx {T m E : Nat} {x y : Operand} {cs : List AV} {z : AV} {kd : IntKind} {i : Int} (ai : AI P T m E) (ti : TI P E 1 false) (hx : S.ev ⟨regs, objs⟩ x = some (.ag cs)) (hy : S.ev ⟨regs, objs⟩ y = some (.p (.v (.int kd i)))) (h0 : 0 ≤ i) (h1 : i < (m : Int))
    (hz : nthq cs i.toNat = some z) (hd : Nat.blt d n = true) (kk : AWl P cx n ops rest Q ⟨(d, z) :: regs, objs⟩) :
    AWl P cx n ops (⟨some d, .index T x y, ty, pos, aft, none⟩ :: rest) Q ⟨regs, objs⟩ :=
  awl_val z rfl rfl (by simpa using hd) (fun a w own r => by
    have hvy := (r.ev hy).val
    have hvx := r.ev hx
    generalize hv : a.eval x = v at hvx
    cases hvx with
    | ag vs hl h1' h =>
      rw [nthq_eq] at hz
      have hlt : i.toNat < vs.length := by rw [hl]; exact (List.getElem?_eq_some_iff.1 hz).1
      refine ⟨vs.getD i.toNat undef, ?_, h _ _ hz⟩
      simp only [execOp, hv, hvy, Sem.run_bind, Instr.index, asIntOf, run_underlying ai.h w, Sem.run_pure, Result.andThen_ok, if_pos (show 0 ≤ i ∧ i < (m : Int) from ⟨h0, h1⟩), ti.run_size w, Nat.mul_one, part, ti.run_agg w]
      simp [List.getD_eq_getElem?_getD, hlt]) kk

end

/-! Equality of rows of whole numbers, in structs and arrays. -/
theorem eqArr_run {P : Program} {T E d m : Nat} (hu : P.underlying T = some (.array m E)) (he : P.underlying E = some (.int .i64)) (hs : TI P E 1 false) (w : World) (as bs : List Int) (h1 : as.length = m) (h2 : bs.length = m) :
    (Op.equalIn (d + 2) T (.agg (as.map (Value.int .i64)).toArray) (.agg (bs.map (Value.int .i64)).toArray)).run P w = .ok (decide (as = bs)) w := by
  have hp : ∀ (l : List Int) (i : Nat), i < l.length → (part E (l.map (Value.int .i64)).toArray i).run P w = .ok (.int .i64 (l.getD i 0)) w := fun l i hi => by
    simp [part, Sem.run_bind, hs.run_agg w, List.getD_eq_getElem?_getD, hi]
  rw [show d + 2 = (d + 1) + 1 from rfl, Op.equalIn]
  simp only [Sem.run_bind, run_underlying hu w, Result.andThen_ok, hs.run_size w, Nat.mul_one]
  rw [Std.Legacy.Range.forIn_eq_forIn_range']
  simp only [Std.Legacy.Range.size, Nat.sub_zero, Nat.add_sub_cancel, Nat.div_one]
  have key : ∀ (c i : Nat), i + c = m → (forIn (List.range' i c) ((none, PUnit.unit) : Option Bool × PUnit) (fun j r => do
        let a ← part E (as.map (Value.int .i64)).toArray j
        let b ← part E (bs.map (Value.int .i64)).toArray j
        let q ← Op.equalIn (d + 1) E a b
        if (!q) = true then pure (ForInStep.done (some false, PUnit.unit)) else pure (ForInStep.yield (none, PUnit.unit))) : Sem (Option Bool × PUnit)).run P w
      = .ok (if as.drop i = bs.drop i then (none, PUnit.unit) else (some false, PUnit.unit)) w := by
    intro c
    induction c with
    | zero =>
      intro i hi
      have ea : as.drop i = [] := List.drop_eq_nil_of_le (by omega)
      have eb : bs.drop i = [] := List.drop_eq_nil_of_le (by omega)
      simp [ea, eb]
    | succ c ih =>
      intro i hi
      have la : i < as.length := by omega
      have lb : i < bs.length := by omega
      rw [List.range'_succ, List.forIn_cons]
      simp only [Sem.run_bind, hp as i la, hp bs i lb, Result.andThen_ok, run_equalIn_int w d E .i64 .i64 _ _ he]
      have ea : as.drop i = as.getD i 0 :: as.drop (i + 1) := by rw [List.drop_eq_getElem_cons la]; simp [List.getD_eq_getElem?_getD, la]
      have eb : bs.drop i = bs.getD i 0 :: bs.drop (i + 1) := by rw [List.drop_eq_getElem_cons lb]; simp [List.getD_eq_getElem?_getD, lb]
      by_cases hq : as.getD i 0 = bs.getD i 0
      · have hq' : (as.getD i 0 == bs.getD i 0) = true := by simpa using hq
        simp only [hq', Bool.not_true, Bool.false_eq_true, if_false, Sem.run_bind, Sem.run_pure, Result.andThen_ok]
        rw [ih (i + 1) (by omega), ea, eb]
        simp only [List.cons.injEq, hq, true_and]
      · have hq' : (as.getD i 0 == bs.getD i 0) = false := by simpa using hq
        simp only [hq', Bool.not_false, if_true, Sem.run_pure, Result.andThen_ok]
        rw [ea, eb]
        simp only [List.cons.injEq, hq, false_and, if_false]
  have h := key m 0 (by omega)
  simp only [List.drop_zero] at h
  erw [h]
  by_cases hab : as = bs <;> simp [hab]

/-- Equality of rows of so many whole numbers. -/
structure EqV (P : Program) (T n : Nat) : Prop where
  run : ∀ (w : World) (as bs : List Int), as.length = n → bs.length = n → (Op.equalIn 10000 T (.agg (as.map (Value.int .i64)).toArray) (.agg (bs.map (Value.int .i64)).toArray)).run P w = .ok (decide (as = bs)) w
  g : P.eqGuardType P.depth T = false

theorem EqV.flat {P : Program} {T m A E I0 : Nat} {f0 f1 : Field} (hu : P.underlying T = some (.struct #[f0, f1])) (t0 : f0.type = I0) (hi : P.underlying I0 = some (.int .i64)) (o0 : f0.offset = 0) (t1 : f1.type = A) (o1 : f1.offset = 1) (n0 : (f0.name != "_") = true) (n1 : (f1.name != "_") = true)
    (ha : P.underlying A = some (.array m E)) (he : P.underlying E = some (.int .i64)) (hs : TI P E 1 false) (hA : TI P A m true) (hp : P.stoodInHeld T = false) (hg : P.eqGuardType P.depth T = false) : EqV P T (m + 1) := by
  refine ⟨fun w as bs h1 h2 => ?_, hg⟩
  have hf : P.fieldsOf T = #[f0, f1] := by simp [Program.fieldsOf, hu]
  rw [run_equalIn_struct w 9999 T _ _ (by rw [hf]; exact hu) hp, hf]
  obtain ⟨a, as', rfl⟩ : ∃ a r, as = a :: r := by cases as with | nil => simp at h1 | cons a r => exact ⟨a, r, rfl⟩
  obtain ⟨b, bs', rfl⟩ : ∃ a r, bs = a :: r := by cases bs with | nil => simp at h2 | cons a r => exact ⟨a, r, rfl⟩
  simp only [List.length_cons] at h1 h2
  have q0 : f0.name ≠ "_" := by simpa using n0
  have q1 : f1.name ≠ "_" := by simpa using n1
  have p0 : ∀ (x : Int) (l : List Int), (part f0.type ((x :: l).map (Value.int .i64)).toArray f0.offset).run P w = .ok (.int .i64 x) w := fun x l => by
    simp [part, isAgg, Sem.run_bind, t0, o0, run_underlying hi w]
  have p1 : ∀ (x : Int) (l : List Int), l.length = m → (part f1.type ((x :: l).map (Value.int .i64)).toArray f1.offset).run P w = .ok (.agg (l.map (Value.int .i64)).toArray) w := fun x l hl => by
    have : (((x :: l).map (Value.int .i64)).toArray.extract 1 (1 + m)) = (l.map (Value.int .i64)).toArray := by
      simp only [List.map_cons, List.extract_toArray]
      congr 1
      rw [show (1 + m) = m + 1 by omega]
      simp only [List.extract_eq_take_drop, List.drop_succ_cons, List.drop_zero, Nat.add_sub_cancel]
      exact List.take_of_length_le (by simp [hl])
    rw [t1, o1]
    simp only [part, Sem.run_bind, hA.run_agg w, Result.andThen_ok, if_true, hA.run_size w, Sem.run_pure, this]
  simp only [Op.eqFields, if_pos q0, if_pos q1, Sem.run_bind, p0, p1 a as' (by omega), p1 b bs' (by omega), Result.andThen_ok]
  have hq : (Op.equalIn 9999 A (.agg (as'.map (Value.int .i64)).toArray) (.agg (bs'.map (Value.int .i64)).toArray)).run P w = .ok (decide (as' = bs')) w := eqArr_run (d := 9997) ha he hs w as' bs' (by omega) (by omega)
  have p1' := p1
  rw [t1] at p1'
  rw [t0, t1, run_equalIn_int w 9998 I0 .i64 .i64 a b hi]
  simp only [Result.andThen_ok]
  by_cases hab : a = b
  · subst hab
    simp only [beq_self_eq_true, Bool.not_true, Bool.false_eq_true, if_false, Sem.run_bind, p1' a as' (by omega), p1' a bs' (by omega), Result.andThen_ok, hq, Result.andThen_ok]
    by_cases hr : as' = bs' <;> simp [hr]
  · have : (a == b) = false := by simpa using hab
    simp [this, hab]

section
variable {P : Program} {cx : Cx} {n : Nat} {Q : Exit → S → Prop} {regs : List (Nat × AV)} {objs : Obs} {ops : Array Oper} {rest : List Oper} {d : Nat} {pos : String} {aft : Array Edge} {ty : Nat}
theorem x_eqv {op : BinOp} {T yT m : Nat} {x y : Operand} {cs ds : List AV} {as bs : List Int} (e : EqV P T m) (hop : op = .eql) (hx : S.ev ⟨regs, objs⟩ x = some (.ag cs)) (hy : S.ev ⟨regs, objs⟩ y = some (.ag ds)) (hi : intq cs = some as) (hj : intq ds = some bs)
    (h1 : Nat.beq as.length m = true) (h2 : Nat.beq bs.length m = true) (hd : Nat.blt d n = true) (kk : AWl P cx n ops rest Q ⟨(d, .p (B (decide (as = bs)))) :: regs, objs⟩) :
    AWl P cx n ops (⟨some d, .binOp op T x y yT, ty, pos, aft, none⟩ :: rest) Q ⟨regs, objs⟩ := by
  subst hop
  refine awl_val (.p (B (decide (as = bs)))) rfl rfl (by simpa using hd) (fun a w own r => ?_) kk
  have hx' := r.ev hx; have hy' := r.ev hy
  rw [intq_spec hi] at hx'; rw [intq_spec hj] at hy'
  refine ⟨.bool (decide (as = bs)), ?_, .scal rfl⟩
  simp only [execOp, hx'.ints, hy'.ints, Sem.run_bind, run_eqGuard_agg w .eql T _ _ _ _ e.g, run_eql_struct, Result.andThen_ok, e.run w as bs (Nat.eq_of_beq_eq_true h1) (Nat.eq_of_beq_eq_true h2), Sem.run_pure]
end
end Go.Ab
