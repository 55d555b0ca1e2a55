/- Struct literals, splits, elements by their own equation. -/
import Derived.Test.YtnennmlpaijedaaAb10
set_option linter.unusedVariables false
set_option linter.unusedSimpArgs false
namespace Go.Ab
open Go Go.RowKit

theorem fold_set : ∀ (us : List Value) (k off : Nat) (l : List Value), off + k + us.length ≤ l.length →
    (List.zipIdx us k).foldl (fun (cs : Array Value) (c, j) => cs.setIfInBounds (off + j) c) l.toArray = (l.take (off + k) ++ us ++ l.drop (off + k + us.length)).toArray
  | [], k, off, l, h => by simp
  | u :: us, k, off, l, h => by
    simp only [List.length_cons] at h
    simp only [List.zipIdx_cons, List.foldl_cons, List.setIfInBounds_toArray]
    rw [fold_set us (k + 1) off _ (by simp; omega)]
    congr 1
    apply List.ext_getElem?
    intro j
    simp only [List.append_assoc]
    have e1 : (List.take (off + (k + 1)) (l.set (off + k) u)).length = off + k + 1 := by simp; omega
    have e2 : (List.take (off + k) l).length = off + k := by simp; omega
    rcases Nat.lt_trichotomy j (off + k) with hj | hj | hj
    · rw [List.getElem?_append_left (by omega), List.getElem?_append_left (by omega), List.getElem?_take_of_lt (by omega), List.getElem?_take_of_lt hj, List.getElem?_set_ne (by omega)]
    · subst hj
      rw [List.getElem?_append_left (by omega), List.getElem?_append_right (by omega), List.getElem?_take_of_lt (by omega), e2]
      simp [List.getElem?_set]
      omega
    · rw [List.getElem?_append_right (by omega), e1, List.getElem?_append_right (l₁ := List.take (off + k) l) (by omega), e2]
      have e3 : j - (off + k) = (j - (off + k + 1)) + 1 := by omega
      rw [e3, List.cons_append, List.getElem?_cons_succ]
      rcases Nat.lt_or_ge (j - (off + k + 1)) us.length with hm | hm
      · rw [List.getElem?_append_left hm, List.getElem?_append_left hm]
      · rw [List.getElem?_append_right hm, List.getElem?_append_right hm, List.getElem?_drop, List.getElem?_drop, List.getElem?_set_ne (by omega)]
        congr 1
        simp; omega

theorem fold_arr (off : Nat) (us l : List Value) (h : off + us.length ≤ l.length) :
    (us.toArray.zipIdx.foldl (fun (cs : Array Value) (c, j) => cs.setIfInBounds (off + j) c) l.toArray) = (l.take off ++ us ++ l.drop (off + us.length)).toArray := by
  have := fold_set us 0 off l (by simpa using h)
  simp only [Nat.add_zero] at this
  rw [← this, ← Array.foldl_toList]
  simp

/-- A struct's fields: their places and sizes. -/
structure BI (P : Program) (T : Nat) (pl : List (Nat × Nat)) : Prop where
  h : ∃ fields, P.underlying T = some (.struct fields) ∧ ∀ w, (fields.mapM (fun f => do pure (f.offset, ← sizeOf f.type)) : Sem (Array (Nat × Nat))).run P w = .ok pl.toArray w

def nthq {α : Type} : List α → Nat → Option α
  | [], _ => none
  | x :: _, 0 => some x
  | _ :: r, n + 1 => nthq r n
theorem nthq_eq {α : Type} : ∀ (l : List α) (n : Nat), nthq l n = l[n]?
  | [], _ => by simp [nthq]
  | x :: r, 0 => by simp [nthq]
  | x :: r, n + 1 => by simp [nthq, nthq_eq r n]

def fillq (s : S) (pl : List (Nat × Nat)) : List AV → List (Nat × Operand) → Option (List AV)
  | cs, [] => some cs
  | cs, (i, x) :: r => match nthq pl i with
    | some (off, sz) => match s.ev x with
      | some av => match av.ce with
        | some l => bif Nat.beq l.length sz && allCell l then (match ovr cs off l with
            | some cs' => fillq s pl cs' r
            | none => none) else none
        | none => none
      | none => none
    | none => none

theorem fill_struct {P : Program} {cx : Cx} {n : Nat} {s : S} {a : Act} {w : World} {own : Nat → Value} (r : Rl P cx n s a w own) {pl : List (Nat × Nat)} : ∀ (parts : List (Nat × Operand)) (cs q : List AV) (vals : List Value),
    fillq s pl cs parts = some q → vals.length = cs.length → (∀ (j : Nat) (x : AV), cs[j]? = some x → x.cell = true ∧ RepA w (Mu cx.M0 own s.objs) own (hwOf s.objs) x (vals.getD j undef)) →
    ∃ vs : List Value, Instr.fill (pl.toArray[·]?) vals.toArray (parts.map fun p => (p.1, a.eval p.2)) = some vs.toArray ∧ vs.length = q.length ∧
      ∀ (j : Nat) (x : AV), q[j]? = some x → x.cell = true ∧ RepA w (Mu cx.M0 own s.objs) own (hwOf s.objs) x (vs.getD j undef)
  | [], cs, q, vals, h, h1, h2 => by
    simp only [fillq, Option.some.injEq] at h
    subst h
    exact ⟨vals, by simp [Instr.fill], h1, h2⟩
  | (i, x) :: rest, cs, q, vals, h, h1, h2 => by
    simp only [fillq] at h
    split at h
    · rename_i off sz hpl
      split at h
      · rename_i av hav
        split at h
        · rename_i l hl
          cases hb : (Nat.beq l.length sz && allCell l) with
          | false => rw [hb] at h; cases h
          | true =>
            rw [hb] at h
            simp only [cond_true] at h
            simp only [Bool.and_eq_true] at hb
            have hlen := Nat.eq_of_beq_eq_true hb.1
            split at h
            · rename_i cs' ho
              obtain ⟨us, e1, e2, e3, e4⟩ := (r.ev hav).ce hl
              have hfit := (ovr_spec ho).2
              obtain ⟨g1, g2⟩ := ovr_get (R := fun x v => x.cell = true ∧ RepA w (Mu cx.M0 own s.objs) own (hwOf s.objs) x v) ho undef h1 e2 h2 (fun j y hj => ⟨allCell_get hb.2 j y hj, e4 j y hj⟩)
              obtain ⟨vs, k1, k2, k3⟩ := fill_struct r rest cs' q _ h g1 g2
              refine ⟨vs, ?_, k2, k3⟩
              rw [nthq_eq] at hpl
              have hpl' : pl.toArray[i]? = some (off, sz) := by simpa using hpl
              simp only [List.map_cons, Instr.fill, hpl', e1]
              have c1 : ¬ us.toArray.size ≠ sz := by simp; omega
              have c2 : ¬ (off + us.toArray.size > vals.toArray.size) := by simp; omega
              simp only [c1, c2, decide_false, Bool.or_self, Bool.false_eq_true, if_false]
              rw [fold_arr off us vals (by omega)]
              exact k1
            · cases h
        · cases h
      · cases h
    · cases h

section
variable {P : Program} {cx : Cx} {n : Nat} {Q : Exit → S → Prop} {regs : List (Nat × AV)} {objs : Obs} {ops : Array Oper} {rest : List Oper} {d : Nat} {pos : String} {aft : Array Edge} {ty : Nat}

theorem x_build {T : Nat} {zs : List Value} {pl : List (Nat × Nat)} {parts : List (Nat × Operand)} {z q : List AV} (bi : BI P T pl) (tz : TZ P T zs) (hz : zerq zs = some z) (hq : fillq ⟨regs, objs⟩ pl z parts = some q) (hd : Nat.blt d n = true)
    (kk : AWl P cx n ops rest Q ⟨(d, .ag q) :: regs, objs⟩) : AWl P cx n ops (⟨some d, .build T parts.toArray, ty, pos, aft, none⟩ :: rest) Q ⟨regs, objs⟩ :=
  awl_val (.ag q) rfl rfl (by simpa using hd) (fun a w own r => by
    obtain ⟨fields, h1, h2⟩ := bi.h
    obtain ⟨zv, hz1, hz2⟩ := tz.run w
    have hone := List.all_eq_true.1 tz.one
    have hzq := zerq_spec hz
    subst hzq
    obtain ⟨vs, k1, k2, k3⟩ := fill_struct r parts _ q zs hq (by simp) (fun j x hj => by
      simp only [List.getElem?_map, Option.map_eq_some_iff] at hj
      obtain ⟨v, hv, rfl⟩ := hj
      rw [getD_of hv]
      exact ⟨rfl, .scal (hone v (List.mem_of_getElem? hv))⟩)
    refine ⟨.agg vs.toArray, ?_, .ag vs k2 (fun v hv => ?_) (fun j x hj => (k3 j x hj).2)⟩
    · have e : parts.toArray.map (fun (i, x) => (i, a.eval x)) = (parts.map fun p => (p.1, a.eval p.2)).toArray := by simp
      simp only [execOp, Sem.run_bind, e, Instr.build, hz1, Result.andThen_ok, Sem.run_pure, run_underlying h1]
      rw [h2 w]
      simp only [Result.andThen_ok, hz2]
      rw [k1]
      rfl
    · obtain ⟨j, hj⟩ := List.getElem?_of_mem hv
      have hlt : j < q.length := by have := (List.getElem?_eq_some_iff.1 hj).1; omega
      have h5 := k3 j _ (List.getElem?_eq_getElem hlt)
      have := h5.2.one h5.1
      rwa [getD_of hj] at this) kk

theorem awp_cond_t {c : Operand} {x y : Code} {b : Bool} (hb : b = true) (hc : S.ev ⟨regs, objs⟩ c = some (.p (.v (.bool b)))) (h : AWp P cx n x Q ⟨regs, objs⟩) : AWp P cx n (.cond c x y) Q ⟨regs, objs⟩ :=
  awp_cond hc (fun _ => h) (fun h2 => absurd (hb.symm.trans h2) (by simp))
theorem awp_cond_f {c : Operand} {x y : Code} {b : Bool} (hb : b = false) (hc : S.ev ⟨regs, objs⟩ c = some (.p (.v (.bool b)))) (h : AWp P cx n y Q ⟨regs, objs⟩) : AWp P cx n (.cond c x y) Q ⟨regs, objs⟩ :=
  awp_cond hc (fun h2 => absurd (hb.symm.trans h2) (by simp)) (fun _ => h)
theorem awl_split (t : Nat) {b : Bool} (ht : get regs t = some (.p (.v (.bool b)))) {l : List Oper} (h1 : b = true → AWl P cx n ops l Q ⟨regs, objs⟩) (h2 : b = false → AWl P cx n ops l Q ⟨regs, objs⟩) : AWl P cx n ops l Q ⟨regs, objs⟩ := by
  cases b
  · exact h2 rfl
  · exact h1 rfl
theorem awl_split_p (t : Nat) {q : Prop} [Decidable q] (ht : get regs t = some (.p (.v (.bool (decide q))))) {l : List Oper} (h1 : q → AWl P cx n ops l Q ⟨regs, objs⟩) (h2 : ¬ q → AWl P cx n ops l Q ⟨regs, objs⟩) : AWl P cx n ops l Q ⟨regs, objs⟩ := by
  by_cases h : q
  · exact h1 h
  · exact h2 h

theorem x_index {T E sz esz : Nat} {ag : Bool} {x y : Operand} {av : AV} {xs : List (List PV)} {kd : IntKind} {i : Int} {row : List PV} (si : SI P T E) (ti : TI P E esz ag) (hx : S.ev ⟨regs, objs⟩ x = some av) (hr : av.rows = some (sz, xs)) (he : Nat.beq sz esz = true)
    (hy : S.ev ⟨regs, objs⟩ y = some (.p (.v (.int kd i)))) (h0 : 0 ≤ i) (h1 : i < (xs.length : Int)) (hrow : rowAt xs i = row) (hd : Nat.blt d n = true)
    (kk : AWl P cx n ops rest Q ⟨(d, .p (.ip row)) :: regs, objs⟩) : AWl P cx n ops (⟨some d, .indexAddr T x y, ty, pos, aft, none⟩ :: rest) Q ⟨regs, objs⟩ :=
  awl_index si ti hx hr he hy h0 h1 hd (by rw [hrow]; exact kk)
end
end Go.Ab
