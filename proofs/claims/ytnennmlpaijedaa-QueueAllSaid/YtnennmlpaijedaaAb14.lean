/- Facts about structs; equality of structs of whole numbers; steps of a region whose order is drawn. -/
import Derived.Test.YtnennmlpaijedaaAb13
import Derived.Laws.StructEq
import Derived.Laws.Sem
set_option linter.unusedVariables false
set_option linter.unusedSectionVars false
set_option linter.unusedSimpArgs false
namespace Go.Ab
open Go Go.RowKit

def plq (P : Program) : List Field → Option (List (Nat × Nat))
  | [] => some []
  | f :: r => match P.info? f.type, plq P r with
    | some i, some q => some ((f.offset, i.size) :: q)
    | _, _ => none

theorem plq_run {P : Program} : ∀ (fs : List Field) (pl : List (Nat × Nat)), plq P fs = some pl → ∀ w, (fs.mapM (fun f => do pure (f.offset, ← sizeOf f.type)) : Sem (List (Nat × Nat))).run P w = .ok pl w
  | [], pl, h, w => by simp [plq] at h; subst h; simp
  | f :: r, pl, h, w => by
    simp only [plq] at h
    split at h
    · rename_i i q h1 h2
      cases h
      have ih := plq_run r q h2 w
      simp only [List.mapM_cons, Sem.run_bind, sizeOf, typeInfo, run_program, h1, Sem.run_pure, Result.andThen_ok] at ih ⊢
      rw [ih]
      simp
    · cases h

theorem BI.mk' {P : Program} {T : Nat} {fs : List Field} {pl : List (Nat × Nat)} (hu : P.underlying T = some (.struct fs.toArray)) (h : plq P fs = some pl) : BI P T pl :=
  ⟨fs.toArray, hu, fun w => by
    rw [List.mapM_toArray]
    have := plq_run fs pl h w
    simp only [map_eq_pure_bind, Sem.run_bind, this, Result.andThen_ok, Sem.run_pure]⟩

/-! Structs of whole numbers. -/
def okF (P : Program) : Nat → List Field → Bool
  | _, [] => true
  | i, f :: r => (f.name != "_") && Nat.beq f.offset i && (match P.underlying f.type with | some (.int .i64) => true | _ => false) && okF P (i + 1) r

structure EqI (P : Program) (T n : Nat) : Prop where
  h : ∃ fs : List Field, fs.length = n ∧ P.underlying T = some (.struct fs.toArray) ∧ okF P 0 fs = true
  p : P.stoodInHeld T = false
  g : P.eqGuardType P.depth T = false

theorem eqF_run {P : Program} {d : Nat} {w : World} : ∀ (fs : List Field) (i : Nat) (xs ys : Array Value) (as bs : List Int), okF P i fs = true → as.length = fs.length → bs.length = fs.length →
    (∀ j, j < fs.length → xs[i + j]? = (as[j]?).map (Value.int .i64)) → (∀ j, j < fs.length → ys[i + j]? = (bs[j]?).map (Value.int .i64)) →
    (Op.eqFields (d + 1) xs ys fs).run P w = .ok (decide (as = bs)) w
  | [], i, xs, ys, as, bs, h, h1, h2, h3, h4 => by
    obtain rfl := List.eq_nil_of_length_eq_zero h1
    obtain rfl := List.eq_nil_of_length_eq_zero h2
    simp [Op.eqFields]
  | f :: r, i, xs, ys, a :: as, b :: bs, h, h1, h2, h3, h4 => by
    simp only [okF, Bool.and_eq_true] at h
    obtain ⟨⟨⟨hn, ho⟩, hk⟩, hr⟩ := h
    obtain rfl : f.offset = i := Nat.eq_of_beq_eq_true ho
    have hn' : f.name ≠ "_" := by simpa using hn
    have hu : P.underlying f.type = some (.int .i64) := by
      split at hk
      · assumption
      · cases hk
    have e1 : xs[f.offset]? = some (.int .i64 a) := by simpa using h3 0 (by simp)
    have e2 : ys[f.offset]? = some (.int .i64 b) := by simpa using h4 0 (by simp)
    have ih := eqF_run (d := d) (w := w) r (f.offset + 1) xs ys as bs hr (by simpa using h1) (by simpa using h2)
      (fun j hj => by have := h3 (j + 1) (by simp; omega); simpa [Nat.add_assoc, Nat.add_comm 1 j] using this)
      (fun j hj => by have := h4 (j + 1) (by simp; omega); simpa [Nat.add_assoc, Nat.add_comm 1 j] using this)
    have p1 : (part f.type xs f.offset).run P w = .ok (.int .i64 a) w := by simp [part, isAgg, Sem.run_bind, run_underlying hu w, e1]
    have p2 : (part f.type ys f.offset).run P w = .ok (.int .i64 b) w := by simp [part, isAgg, Sem.run_bind, run_underlying hu w, e2]
    rw [Op.eqFields]
    simp only [if_pos hn', Sem.run_bind, p1, p2, Result.andThen_ok, run_equalIn_int w d f.type .i64 .i64 a b hu]
    by_cases hab : a = b
    · subst hab
      simp [ih]
    · simp [hab]

theorem EqI.eql {P : Program} {T n : Nat} (e : EqI P T n) {as bs : List Int} (h1 : as.length = n) (h2 : bs.length = n) (w : World) :
    (Op.equalIn 10000 T (.agg (as.map (Value.int .i64)).toArray) (.agg (bs.map (Value.int .i64)).toArray)).run P w = .ok (decide (as = bs)) w := by
  obtain ⟨fs, hl, hu, hok⟩ := e.h
  have hf : P.fieldsOf T = fs.toArray := by simp [Program.fieldsOf, hu]
  rw [run_equalIn_struct w 9999 T _ _ (by rw [hf]; exact hu) e.p, hf]
  exact eqF_run (d := 9998) fs 0 _ _ as bs hok (by omega) (by omega) (fun j hj => by simp) (fun j hj => by simp)

def intq : List AV → Option (List Int)
  | [] => some []
  | .p (.v (.int .i64 n)) :: r => match intq r with
    | some q => some (n :: q)
    | none => none
  | _ => none
theorem intq_spec : ∀ {l : List AV} {r : List Int}, intq l = some r → l = r.map fun n => .p (I n)
  | [], r, h => by simp [intq] at h; simp [h]
  | x :: l, r, h => by
    unfold intq at h
    split at h
    · cases ‹_ :: _ = []›
    · rename_i n r' he
      split at h
      · rename_i q hq
        cases h
        cases he
        simp [intq_spec hq]
      · cases h
    · cases h

section
variable {P : Program} {cx : Cx} {n : Nat} {Q : Exit → S → Prop} {regs : List (Nat × AV)} {objs : Obs} {ops : Array Oper} {rest : List Oper} {d : Nat} {pos : String} {aft : Array Edge} {ty : Nat}

theorem RepA.ints {w : World} {M : Nat → Nat → Prop} {own : Nat → Value} {hw : Nat → Option Nat} {as : List Int} {v : Value} (h : RepA w M own hw (.ag (as.map fun n => .p (I n))) v) : v = .agg (as.map (Value.int .i64)).toArray := by
  cases h with
  | ag vs hl h1 h =>
    congr 2
    apply List.ext_getElem?
    intro j
    rcases Nat.lt_or_ge j as.length with hj | hj
    · have := (h j (.p (I as[j])) (by simp [hj])).val
      have hlt : j < vs.length := by rw [hl]; simpa using hj
      simp [List.getD_eq_getElem?_getD, hlt] at this
      simp [hlt, hj, this]
    · rw [List.getElem?_eq_none (by rw [hl]; simpa using hj), List.getElem?_eq_none (by simpa using hj)]

theorem x_eqs {op : BinOp} {T yT m : Nat} {x y : Operand} {cs ds : List AV} {as bs : List Int} (e : EqI P T m) (hop : op = .eql) (hx : S.ev ⟨regs, objs⟩ x = some (.ag cs)) (hy : S.ev ⟨regs, objs⟩ y = some (.ag ds)) (hi : intq cs = some as) (hj : intq ds = some bs)
    (h1 : Nat.beq as.length m = true) (h2 : Nat.beq bs.length m = true) (hd : Nat.blt d n = true) (kk : AWl P cx n ops rest Q ⟨(d, .p (B (decide (as = bs)))) :: regs, objs⟩) :
    AWl P cx n ops (⟨some d, .binOp op T x y yT, ty, pos, aft, none⟩ :: rest) Q ⟨regs, objs⟩ := by
  subst hop
  refine awl_val (.p (B (decide (as = bs)))) rfl rfl (by simpa using hd) (fun a w own r => ?_) kk
  have hx' := r.ev hx; have hy' := r.ev hy
  rw [intq_spec hi] at hx'; rw [intq_spec hj] at hy'
  refine ⟨.bool (decide (as = bs)), ?_, .scal rfl⟩
  simp only [execOp, hx'.ints, hy'.ints, Sem.run_bind, run_eqGuard_agg w .eql T _ _ _ _ e.g, run_eql_struct, Result.andThen_ok, e.eql (Nat.eq_of_beq_eq_true h1) (Nat.eq_of_beq_eq_true h2) w, Sem.run_pure]
theorem x_nes {op : BinOp} {T yT m : Nat} {x y : Operand} {cs ds : List AV} {as bs : List Int} (e : EqI P T m) (hop : op = .neq) (hx : S.ev ⟨regs, objs⟩ x = some (.ag cs)) (hy : S.ev ⟨regs, objs⟩ y = some (.ag ds)) (hi : intq cs = some as) (hj : intq ds = some bs)
    (h1 : Nat.beq as.length m = true) (h2 : Nat.beq bs.length m = true) (hd : Nat.blt d n = true) (kk : AWl P cx n ops rest Q ⟨(d, .p (B (decide (as ≠ bs)))) :: regs, objs⟩) :
    AWl P cx n ops (⟨some d, .binOp op T x y yT, ty, pos, aft, none⟩ :: rest) Q ⟨regs, objs⟩ := by
  subst hop
  refine awl_val (.p (B (decide (as ≠ bs)))) rfl rfl (by simpa using hd) (fun a w own r => ?_) kk
  have hx' := r.ev hx; have hy' := r.ev hy
  rw [intq_spec hi] at hx'; rw [intq_spec hj] at hy'
  refine ⟨.bool (decide (as ≠ bs)), ?_, .scal rfl⟩
  have hb : (!decide (as = bs)) = decide (as ≠ bs) := by by_cases h : as = bs <;> simp [h]
  simp only [execOp, hx'.ints, hy'.ints, Sem.run_bind, run_eqGuard_agg w .neq T _ _ _ _ e.g, run_neq_struct, Result.andThen_ok, e.eql (Nat.eq_of_beq_eq_true h1) (Nat.eq_of_beq_eq_true h2) w, Sem.run_pure, hb]

/-! ## Regions whose order is drawn -/
variable {E : Regs → Prop} {o : Oper} {k : Nat} {x : AV} {id : Nat} {l : List Oper}

/-- No object is touched. -/
theorem awp_draw0 (hm : P.follows .mixedOrders = true) (hB : drawB l.toArray [] [] = true)
    (h : AWd (YG P cx n .any l.toArray [] [] (fun _ => objs)) (fun r => Q .normal ⟨r, objs⟩) 0 l regs) : AWp P cx n (.region id l.toArray true) Q ⟨regs, objs⟩ := by
  refine awp_draw [] [] (fun _ => objs) rfl hm hB ?_
  have key : ∀ (l' : List Oper) (k : Nat) (r : Regs), AWd (YG P cx n .any l.toArray [] [] (fun _ => objs)) (fun r => Q .normal ⟨r, objs⟩) k l' r → AWd (YG P cx n .any l.toArray [] [] (fun _ => objs)) (fun r => ∃ r0, agr r r0 ∧ Q .normal ⟨r0, objs⟩) k l' r := by
    intro l'
    induction l' with
    | nil => intro k r h; exact ⟨r, fun _ => rfl, h⟩
    | cons o l' ih => intro k r ⟨x, h1, h2⟩; exact ⟨x, h1, ih _ _ h2⟩
  exact key l 0 regs h

theorem awd_q {d : Nat} (lk : Regs) (hl : Look regs lk) (ho : ops[k]? = some o) (hk : looks lk o ops = true) (hd : o.dst = some d)
    (h : ∃ x, (∀ regs', AWl P cx n ops [o] (fun e s1 => e = .normal ∧ s1 = ⟨(d, x) :: (lk ++ regs'), objs⟩) ⟨lk ++ regs', objs⟩) ∧
      AWd (YG P cx n .any ops [] [] (fun _ => objs)) E (k + 1) rest ((d, x) :: regs)) : AWd (YG P cx n .any ops [] [] (fun _ => objs)) E k (o :: rest) regs := by
  obtain ⟨x, h, kk⟩ := h
  exact awd_all lk hl ho hk 1 rfl ⟨fun r' => by simpa [putd, hd] using h r', trivial⟩ (by simpa [putd, hd] using kk)
theorem awd_q' (lk : Regs) (hl : Look regs lk) (ho : ops[k]? = some o) (hk : looks lk o ops = true) (hd : o.dst = none)
    (h : ∀ regs', AWl P cx n ops [o] (fun e s1 => e = .normal ∧ s1 = ⟨lk ++ regs', objs⟩) ⟨lk ++ regs', objs⟩)
    (kk : AWd (YG P cx n .any ops [] [] (fun _ => objs)) E (k + 1) rest regs) : AWd (YG P cx n .any ops [] [] (fun _ => objs)) E k (o :: rest) regs :=
  awd_all (x := .any) lk hl ho hk 1 rfl ⟨fun r' => by simpa [putd, hd] using h r', trivial⟩ (by simpa [putd, hd] using kk)

theorem awd_nil {Y : Nat → AV → Regs → Prop} (h : E regs) : AWd Y E k [] regs := h

theorem awd_split {Y : Nat → AV → Regs → Prop} (t : Nat) {b : Bool} (ht : get regs t = some (.p (.v (.bool b)))) {l : List Oper} (h1 : b = true → AWd Y E k l regs) (h2 : b = false → AWd Y E k l regs) : AWd Y E k l regs := by
  cases b
  · exact h2 rfl
  · exact h1 rfl
theorem awd_split_p {Y : Nat → AV → Regs → Prop} (t : Nat) {q : Prop} [Decidable q] (ht : get regs t = some (.p (.v (.bool (decide q))))) {l : List Oper} (h1 : q → AWd Y E k l regs) (h2 : ¬ q → AWd Y E k l regs) : AWd Y E k l regs := by
  by_cases h : q
  · exact h1 h
  · exact h2 h

/-- A call that takes and leaves no object, its answer at hand. -/
theorem awl_done {s s' : S} (h : s = s') : AWl P cx n ops [] (fun e s1 => e = .normal ∧ s1 = s') s := awl_nil ⟨rfl, h⟩
end
end Go.Ab
