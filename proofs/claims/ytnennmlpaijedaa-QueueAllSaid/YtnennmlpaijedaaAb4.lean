/- A rule for each operation that reads, computes or makes an object. -/
import Derived.Test.YtnennmlpaijedaaAb3
set_option linter.unusedVariables false
set_option linter.unusedSimpArgs false
namespace Go.Ab
open Go Go.RowKit

/-- A type's size in cells, and whether a value of it is a row of cells. -/
structure TI (P : Program) (T sz : Nat) (ag : Bool) : Prop where
  sz : (P.info? T).map (·.size) = some sz
  ag : (P.underlying T).map (·.isRow) = some ag

theorem TI.run_size {P : Program} {T sz : Nat} {ag : Bool} (h : TI P T sz ag) (w : World) : (sizeOf T).run P w = .ok sz w := by
  have := h.sz
  cases hq : P.info? T with
  | none => simp [hq] at this
  | some i => simp [hq] at this; simp [sizeOf, typeInfo, hq, this]

theorem TI.run_agg {P : Program} {T sz : Nat} {ag : Bool} (h : TI P T sz ag) (w : World) : (isAgg T).run P w = .ok ag w := by
  have := h.ag
  cases hq : P.underlying T with
  | none => simp [hq] at this
  | some d =>
    simp only [hq, Option.map_some, Option.some.injEq] at this
    unfold isAgg
    rw [Sem.run_bind, run_underlying hq w]
    cases d <;> simp_all

theorem run_load_row {P : Program} {T sz : Nat} (h : TI P T sz true) (w : World) (a : Addr) (vals : List Value) (hl : vals.length = sz) (hc : ∀ j v, vals[j]? = some v → w.cell? (a.add j) = some v) :
    (loadVar T a).run P w = .ok (.agg vals.toArray) w := by
  have := run_loadCells_list (P := P) w a vals hc
  rw [hl] at this
  simp [loadVar, Sem.run_bind, h.run_agg w, h.run_size w, this]

theorem run_load_one {P : Program} {T sz : Nat} (h : TI P T sz false) (w : World) (a : Addr) (v : Value) (hc : w.cell? a = some v) :
    (loadVar T a).run P w = .ok v w := by
  simp [loadVar, Sem.run_bind, h.run_agg w, hc]

/-- So many from the front. -/
def tk {α : Type} : Nat → List α → Option (List α)
  | 0, _ => some []
  | n + 1, x :: r => match tk n r with
    | some l => some (x :: l)
    | none => none
  | _ + 1, [] => none
def dr {α : Type} : Nat → List α → Option (List α)
  | 0, l => some l
  | n + 1, _ :: r => dr n r
  | _ + 1, [] => none

theorem tk_spec {α : Type} : ∀ {n : Nat} {l r : List α}, tk n l = some r → r.length = n ∧ ∀ j, j < n → r[j]? = l[j]?
  | 0, l, r, h => by simp [tk] at h; subst h; simp
  | n + 1, [], r, h => by simp [tk] at h
  | n + 1, x :: l, r, h => by
    simp only [tk] at h
    cases ht : tk n l with
    | none => simp [ht] at h
    | some q =>
      simp only [ht, Option.some.injEq] at h
      subst h
      obtain ⟨h1, h2⟩ := tk_spec ht
      refine ⟨by simp [h1], fun j hj => ?_⟩
      cases j with
      | zero => simp
      | succ j => simpa using h2 j (by omega)

theorem dr_spec {α : Type} : ∀ {n : Nat} {l r : List α}, dr n l = some r → r = l.drop n ∧ n ≤ l.length
  | 0, l, r, h => by simp [dr] at h; subst h; simp
  | n + 1, [], r, h => by simp [dr] at h
  | n + 1, x :: l, r, h => by simp only [dr] at h; have := dr_spec h; simpa using this

/-- So many from a place on. -/
def rng {α : Type} (l : List α) (off sz : Nat) : Option (List α) :=
  match dr off l with
  | some r => tk sz r
  | none => none

theorem rng_spec {α : Type} {l r : List α} {off sz : Nat} (h : rng l off sz = some r) : r.length = sz ∧ off + sz ≤ l.length ∧ ∀ j, j < sz → r[j]? = l[off + j]? := by
  unfold rng at h
  cases hd : dr off l with
  | none => simp [hd] at h
  | some q =>
    simp only [hd] at h
    obtain ⟨h1, h2⟩ := tk_spec h
    obtain ⟨rfl, h3⟩ := dr_spec hd
    refine ⟨h1, ?_, fun j hj => by rw [h2 j hj, List.getElem?_drop]⟩
    cases sz with
    | zero => omega
    | succ m =>
      have h4 := h2 m (by omega)
      rw [List.getElem?_drop, List.getElem?_eq_getElem (by omega)] at h4
      have := (List.getElem?_eq_some_iff.1 h4.symm).1
      omega

/-- Cells laid over others. -/
def ovr {α : Type} : List α → Nat → List α → Option (List α)
  | [], 0, [] => some []
  | l, 0, [] => some l
  | _ :: l, 0, y :: ys => match ovr l 0 ys with
    | some r => some (y :: r)
    | none => none
  | x :: l, n + 1, ys => match ovr l n ys with
    | some r => some (x :: r)
    | none => none
  | [], _, _ => none

theorem ovr_spec {α : Type} : ∀ {l : List α} {n : Nat} {ys r : List α}, ovr l n ys = some r → r = l.take n ++ ys ++ l.drop (n + ys.length) ∧ n + ys.length ≤ l.length
  | [], 0, [], r, h => by simp [ovr] at h; subst h; simp
  | x :: l, 0, [], r, h => by simp [ovr] at h; subst h; simp
  | x :: l, 0, y :: ys, r, h => by
    simp only [ovr] at h
    cases ho : ovr l 0 ys with
    | none => simp [ho] at h
    | some q =>
      simp only [ho, Option.some.injEq] at h
      subst h
      have := ovr_spec ho
      simp at this ⊢
      exact ⟨this.1, this.2⟩
  | x :: l, n + 1, ys, r, h => by
    simp only [ovr] at h
    cases ho : ovr l n ys with
    | none => simp [ho] at h
    | some q =>
      simp only [ho, Option.some.injEq] at h
      subst h
      have := ovr_spec ho
      refine ⟨?_, by simp; omega⟩
      rw [this.1, show n + 1 + ys.length = (n + ys.length) + 1 by omega]
      simp
  | [], 0, y :: ys, r, h => by simp [ovr] at h
  | [], n + 1, ys, r, h => by simp [ovr] at h

/-- What an overlay holds at a place. -/
theorem ovr_get {α β : Type} {R : α → β → Prop} {l ys r : List α} {n : Nat} (h : ovr l n ys = some r) {v vs : List β} (d : β) (hv : v.length = l.length) (hvs : vs.length = ys.length)
    (h1 : ∀ j x, l[j]? = some x → R x (v.getD j d)) (h2 : ∀ j x, ys[j]? = some x → R x (vs.getD j d)) :
    (v.take n ++ vs ++ v.drop (n + vs.length)).length = r.length ∧ ∀ j x, r[j]? = some x → R x ((v.take n ++ vs ++ v.drop (n + vs.length)).getD j d) := by
  obtain ⟨rfl, h3⟩ := ovr_spec h
  refine ⟨by simp only [List.length_append, List.length_take, List.length_drop]; omega, fun j x hj => ?_⟩
  rw [List.getD_eq_getElem?_getD]
  simp only [List.append_assoc] at hj ⊢
  rcases Nat.lt_or_ge j n with hn | hn
  · rw [List.getElem?_append_left (by simp; omega), List.getElem?_take_of_lt hn] at hj ⊢
    have := h1 j x hj
    rwa [List.getD_eq_getElem?_getD] at this
  · rw [List.getElem?_append_right (by simp; omega)] at hj ⊢
    have e1 : (l.take n).length = n := by simp; omega
    have e2 : (v.take n).length = n := by simp; omega
    rw [e1] at hj
    rw [e2]
    rcases Nat.lt_or_ge (j - n) ys.length with hm | hm
    · rw [List.getElem?_append_left (by omega)] at hj ⊢
      have := h2 (j - n) x hj
      rwa [List.getD_eq_getElem?_getD] at this
    · rw [List.getElem?_append_right (by omega), List.getElem?_drop] at hj ⊢
      rw [show n + ys.length + (j - n - ys.length) = j by omega] at hj
      rw [hvs, show n + ys.length + (j - n - ys.length) = j by omega]
      have := h1 j x hj
      rwa [List.getD_eq_getElem?_getD] at this

/-- The cells of a value. -/
def AV.ce : AV → Option (List AV)
  | .ag l => some l
  | .any => none
  | .tp _ => none
  | x => some [x]

theorem RepA.ce {w : World} {M : Nat → Nat → Prop} {own : Nat → Value} {hw : Nat → Option Nat} {x : AV} {v : Value} {l : List AV} (h : RepA w M own hw x v) (hc : x.ce = some l) :
    ∃ vals : List Value, v.cells = vals.toArray ∧ vals.length = l.length ∧ (∀ u ∈ vals, u.oneCell' = true) ∧ ∀ (j : Nat) (y : AV), l[j]? = some y → RepA w M own hw y (vals.getD j undef) := by
  have one : ∀ {x : AV} {v : Value}, RepA w M own hw x v → x.cell = true → ∃ vals : List Value, v.cells = vals.toArray ∧ vals.length = [x].length ∧ (∀ u ∈ vals, u.oneCell' = true) ∧ ∀ (j : Nat) (y : AV), [x][j]? = some y → RepA w M own hw y (vals.getD j undef) := by
    intro x v h hx
    have h1 := h.one hx
    refine ⟨[v], ?_, rfl, by simpa using h1, fun j y hj => ?_⟩
    · cases v <;> simp_all [Value.cells, Value.oneCell']
    · cases j with
      | zero => simp at hj; subst hj; simpa using h
      | succ j => simp at hj
  cases x with
  | ag cs =>
    simp only [AV.ce, Option.some.injEq] at hc
    subst hc
    cases h with
    | ag vs hl h1 h2 => exact ⟨vs, rfl, hl, h1, h2⟩
  | any => simp [AV.ce] at hc
  | tp => simp [AV.ce] at hc
  | _ =>
    simp only [AV.ce, Option.some.injEq] at hc
    subst hc
    exact one h rfl

def allCell : List AV → Bool
  | [] => true
  | x :: r => x.cell && allCell r
theorem allCell_get : ∀ {l : List AV}, allCell l = true → ∀ (j : Nat) (x : AV), l[j]? = some x → x.cell = true
  | [], _, j, x, h => by simp at h
  | y :: r, hc, j, x, h => by
    simp only [allCell, Bool.and_eq_true] at hc
    cases j with
    | zero => simp at h; subst h; exact hc.1
    | succ j => exact allCell_get hc.2 j x (by simpa using h)

section
variable {P : Program} {cx : Cx} {n : Nat} {Q : Exit → S → Prop} {regs : List (Nat × AV)} {objs : Obs} {ops : Array Oper} {rest : List Oper} {d : Nat} {pos : String} {aft : Array Edge} {ty : Nat}

theorem exec_move {o : Oper} {a : Act} {x : Operand} (h : o.op = .move x ∨ o.op = .assign x) (w : World) : (execOp a.eval o).run P w = .ok (.value (a.eval x)) w := by
  rcases h with h | h <;> simp [execOp, h]

theorem awl_move {x : Operand} {av : AV} (hx : S.ev ⟨regs, objs⟩ x = some av) (hd : Nat.blt d n = true) (k : AWl P cx n ops rest Q ⟨(d, av) :: regs, objs⟩) :
    AWl P cx n ops (⟨some d, .move x, ty, pos, aft, none⟩ :: rest) Q ⟨regs, objs⟩ :=
  awl_val av rfl rfl (by simpa using hd) (fun a w own r => ⟨_, exec_move (.inl rfl) w, r.ev hx⟩) k

theorem awl_assign {x : Operand} {av : AV} (hx : S.ev ⟨regs, objs⟩ x = some av) (hd : Nat.blt d n = true) (k : AWl P cx n ops rest Q ⟨(d, av) :: regs, objs⟩) :
    AWl P cx n ops (⟨some d, .assign x, ty, pos, aft, none⟩ :: rest) Q ⟨regs, objs⟩ :=
  awl_val av rfl rfl (by simpa using hd) (fun a w own r => ⟨_, exec_move (.inr rfl) w, r.ev hx⟩) k

theorem RepA.val {w : World} {M : Nat → Nat → Prop} {own : Nat → Value} {hw : Nat → Option Nat} {v u : Value} (h : RepA w M own hw (.p (.v u)) v) : v = u := by
  cases h with
  | p h => cases h; rfl
theorem RepA.scal {w : World} {M : Nat → Nat → Prop} {own : Nat → Value} {hw : Nat → Option Nat} {u : Value} (h : u.oneCell' = true) : RepA w M own hw (.p (.v u)) u := .p (.v h)

theorem awl_pick {c x y : Operand} {b : Bool} {av : AV} (hc : S.ev ⟨regs, objs⟩ c = some (.p (.v (.bool b)))) (hd : Nat.blt d n = true) (hx : S.ev ⟨regs, objs⟩ (bif b then x else y) = some av)
    (k : AWl P cx n ops rest Q ⟨(d, av) :: regs, objs⟩) :
    AWl P cx n ops (⟨some d, .pick c x y, ty, pos, aft, none⟩ :: rest) Q ⟨regs, objs⟩ :=
  awl_val av rfl rfl (by simpa using hd) (fun a w own r => by
    have h1 := (r.ev hc).val
    refine ⟨a.eval (bif b then x else y), ?_, r.ev hx⟩
    cases b <;> simp [execOp, h1, asBool]) k

theorem awl_pick_t {c x y : Operand} {b : Bool} {av : AV} (hb : b = true) (hc : S.ev ⟨regs, objs⟩ c = some (.p (.v (.bool b)))) (hd : Nat.blt d n = true) (hx : S.ev ⟨regs, objs⟩ x = some av)
    (k : AWl P cx n ops rest Q ⟨(d, av) :: regs, objs⟩) :
    AWl P cx n ops (⟨some d, .pick c x y, ty, pos, aft, none⟩ :: rest) Q ⟨regs, objs⟩ := by
  subst hb; exact awl_pick hc hd hx k
theorem awl_pick_f {c x y : Operand} {b : Bool} {av : AV} (hb : b = false) (hc : S.ev ⟨regs, objs⟩ c = some (.p (.v (.bool b)))) (hd : Nat.blt d n = true) (hx : S.ev ⟨regs, objs⟩ y = some av)
    (k : AWl P cx n ops rest Q ⟨(d, av) :: regs, objs⟩) :
    AWl P cx n ops (⟨some d, .pick c x y, ty, pos, aft, none⟩ :: rest) Q ⟨regs, objs⟩ := by
  subst hb; exact awl_pick hc hd hx k

/-! guards -/
theorem yielded_of {s : S} {a : Act} {w : World} {own : Nat → Value} (r : Rl P cx n s a w own) {j t : Nat} {b : Bool} (hj : (ops[j]?).bind (·.dst) = some t) (ht : get s.regs t = some (.p (.v (.bool b)))) : yielded ops a.tmps j = some b := by
  have h1 := (r.regs t _ ht).val
  unfold yielded
  rw [hj]
  simp only [Option.bind_some]
  rw [Array.getD_eq_getD_getElem?] at h1
  cases hq : a.tmps[t]? with
  | none => rw [hq] at h1; simp [undef] at h1
  | some u => rw [hq] at h1; simp at h1; subst h1; rfl

theorem awl_guard_yes {o : Oper} {j t : Nat} {want b : Bool} (hg : o.guard = some (j, want)) (hb : b = want) (hj : (ops[j]?).bind (·.dst) = some t) (ht : get regs t = some (.p (.v (.bool b))))
    (k : AWl P cx n ops ({ o with guard := none } :: rest) Q ⟨regs, objs⟩) : AWl P cx n ops (o :: rest) Q ⟨regs, objs⟩ := fun a w ⟨own, r⟩ => by
  have hy := yielded_of (ops := ops) r hj ht
  have h := k a w ⟨own, r⟩
  unfold wpList at h ⊢
  rw [if_pos (by simp [Region.wanted])] at h
  rw [if_pos (by simp [Region.wanted, hg, hy, hb])]
  exact h

theorem awl_guard_no {o : Oper} {j t : Nat} {want b : Bool} (hg : o.guard = some (j, want)) (hb : b = !want) (hj : (ops[j]?).bind (·.dst) = some t) (ht : get regs t = some (.p (.v (.bool b)))) (hdst : o.dst = some d) (hd : Nat.blt d n = true)
    (k : AWl P cx n ops rest Q ⟨(d, .tp []) :: regs, objs⟩) : AWl P cx n ops (o :: rest) Q ⟨regs, objs⟩ := fun a w ⟨own, r⟩ => by
  have hy := yielded_of (ops := ops) r hj ht
  unfold wpList
  rw [if_neg (by cases want <;> simp [Region.wanted, hg, hy, hb])]
  rw [hdst]
  exact k _ _ ⟨own, r.put_same (by simpa using hd) (.tp [] rfl (fun j x hj => by simp at hj))⟩

/-- A guard that was itself left out. -/
theorem yielded_un {s : S} {a : Act} {w : World} {own : Nat → Value} (r : Rl P cx n s a w own) {j t : Nat} (hj : (ops[j]?).bind (·.dst) = some t) (ht : get s.regs t = some (.tp [])) : yielded ops a.tmps j = none := by
  have h1 : a.tmps.getD t undef = .tuple #[] := by
    have h := r.regs t _ ht
    generalize a.tmps.getD t undef = u at h
    cases h with
    | tp vs hl h => obtain rfl := List.eq_nil_of_length_eq_zero hl; rfl
  unfold yielded
  rw [hj]
  simp only [Option.bind_some]
  rw [Array.getD_eq_getD_getElem?] at h1
  cases hq : a.tmps[t]? with
  | none => rfl
  | some u => rw [hq] at h1; simp at h1; subst h1; rfl
theorem awl_guard_un {o : Oper} {j t : Nat} {want : Bool} (hg : o.guard = some (j, want)) (hj : (ops[j]?).bind (·.dst) = some t) (ht : get regs t = some (.tp [])) (hdst : o.dst = some d) (hd : Nat.blt d n = true)
    (k : AWl P cx n ops rest Q ⟨(d, .tp []) :: regs, objs⟩) : AWl P cx n ops (o :: rest) Q ⟨regs, objs⟩ := fun a w ⟨own, r⟩ => by
  have hy := yielded_un (ops := ops) r hj ht
  unfold wpList
  rw [if_neg (by simp [Region.wanted, hg, hy])]
  rw [hdst]
  exact k _ _ ⟨own, r.put_same (by simpa using hd) (.tp [] rfl (fun j x hj => by simp at hj))⟩
theorem awl_guard_un' {o : Oper} {j t : Nat} {want : Bool} (hg : o.guard = some (j, want)) (hj : (ops[j]?).bind (·.dst) = some t) (ht : get regs t = some (.tp [])) (hdst : o.dst = none)
    (k : AWl P cx n ops rest Q ⟨regs, objs⟩) : AWl P cx n ops (o :: rest) Q ⟨regs, objs⟩ := fun a w ⟨own, r⟩ => by
  have hy := yielded_un (ops := ops) r hj ht
  unfold wpList
  rw [if_neg (by simp [Region.wanted, hg, hy])]
  rw [hdst]
  exact k _ _ ⟨own, r⟩

theorem awl_guard_no' {o : Oper} {j t : Nat} {want b : Bool} (hg : o.guard = some (j, want)) (hb : b = !want) (hj : (ops[j]?).bind (·.dst) = some t) (ht : get regs t = some (.p (.v (.bool b)))) (hdst : o.dst = none)
    (k : AWl P cx n ops rest Q ⟨regs, objs⟩) : AWl P cx n ops (o :: rest) Q ⟨regs, objs⟩ := fun a w ⟨own, r⟩ => by
  have hy := yielded_of (ops := ops) r hj ht
  unfold wpList
  rw [if_neg (by cases want <;> simp [Region.wanted, hg, hy, hb])]
  rw [hdst]
  exact k _ _ ⟨own, r⟩

/-! scalars -/
theorem awl_bin {op : BinOp} {xT yT : Nat} {x y : Operand} {vx vy z : Value} (hx : S.ev ⟨regs, objs⟩ x = some (.p (.v vx))) (hy : S.ev ⟨regs, objs⟩ y = some (.p (.v vy))) (hd : Nat.blt d n = true)
    (hz : z.oneCell' = true) (hr : ∀ w, (do eqGuard op xT x y vx vy; binOp op xT vx vy : Sem Value).run P w = .ok z w) (k : AWl P cx n ops rest Q ⟨(d, .p (.v z)) :: regs, objs⟩) :
    AWl P cx n ops (⟨some d, .binOp op xT x y yT, ty, pos, aft, none⟩ :: rest) Q ⟨regs, objs⟩ :=
  awl_val (.p (.v z)) rfl rfl (by simpa using hd) (fun a w own r => by
    refine ⟨z, ?_, .scal hz⟩
    have h1 := (r.ev hx).val
    have h2 := (r.ev hy).val
    have h3 := hr w
    simp only [execOp, h1, h2, Sem.run_bind] at h3 ⊢
    rw [h3]
    simp) k

theorem awl_un {op : UnOp} {xT : Nat} {x : Operand} {vx z : Value} (hx : S.ev ⟨regs, objs⟩ x = some (.p (.v vx))) (hd : Nat.blt d n = true)
    (hz : z.oneCell' = true) (hr : ∀ w, (Op.unary op vx).run P w = .ok z w) (k : AWl P cx n ops rest Q ⟨(d, .p (.v z)) :: regs, objs⟩) :
    AWl P cx n ops (⟨some d, .unOp op xT x, ty, pos, aft, none⟩ :: rest) Q ⟨regs, objs⟩ :=
  awl_val (.p (.v z)) rfl rfl (by simpa using hd) (fun a w own r => by
    refine ⟨z, ?_, .scal hz⟩
    have h1 := (r.ev hx).val
    simp only [execOp, h1, Sem.run_bind, hr w, Result.andThen_ok, Sem.run_pure]) k

theorem awl_conv {src dst : Nat} {x : Operand} {vx z : Value} (hx : S.ev ⟨regs, objs⟩ x = some (.p (.v vx))) (hd : Nat.blt d n = true)
    (hz : z.oneCell' = true) (hr : ∀ w, (convert src dst vx).run P w = .ok z w) (k : AWl P cx n ops rest Q ⟨(d, .p (.v z)) :: regs, objs⟩) :
    AWl P cx n ops (⟨some d, .convert src dst x, ty, pos, aft, none⟩ :: rest) Q ⟨regs, objs⟩ :=
  awl_val (.p (.v z)) rfl rfl (by simpa using hd) (fun a w own r => by
    refine ⟨z, ?_, .scal hz⟩
    have h1 := (r.ev hx).val
    simp only [execOp, h1, Sem.run_bind, hr w, Result.andThen_ok, Sem.run_pure]) k

/-! reading -/
theorem ob_cells {s : S} {a : Act} {w : World} {own : Nat → Value} (r : Rl P cx n s a w own) {k T : Nat} {cs : List AV} (hk : get s.objs k = some (.ce T cs)) :
    ∃ (b : Nat) (vals : List Value), own k = .pointer (some ⟨b, 0, none⟩) ∧ w.heap[b]? = some (.cells vals.toArray T (0, 0)) ∧ vals.length = cs.length ∧
      ∀ (j : Nat) (x : AV), cs[j]? = some x → x.cell = true ∧ RepA w (Mu cx.M0 own s.objs) own (hwOf s.objs) x (vals.getD j undef) := r.ok.obs k _ (get_mem hk)

theorem RepA.ptr_inv {w : World} {M : Nat → Nat → Prop} {own : Nat → Value} {hw : Nat → Option Nat} {k off : Nat} {v : Value} (h : RepA w M own hw (.ptr k off) v) :
    ∃ b, own k = .pointer (some ⟨b, 0, none⟩) ∧ v = .pointer (some ⟨b, off, none⟩) := by
  cases h with
  | ptr h => exact ⟨_, h, rfl⟩

theorem add_at (b off j : Nat) : (⟨b, off, none⟩ : Addr).add j = ⟨b, off + j, none⟩ := by unfold Addr.add; split <;> simp_all

theorem getD_of {α : Type} {l : List α} {j : Nat} {d x : α} (h : l[j]? = some x) : l.getD j d = x := by rw [List.getD_eq_getElem?_getD, h]; rfl

theorem awl_load_row {T sz k off : Nat} {x : Operand} {T0 : Nat} {cs l : List AV} (ti : TI P T sz true) (hx : S.ev ⟨regs, objs⟩ x = some (.ptr k off)) (hk : get objs k = some (.ce T0 cs)) (hl : rng cs off sz = some l)
    (hd : Nat.blt d n = true) (kk : AWl P cx n ops rest Q ⟨(d, .ag l) :: regs, objs⟩) :
    AWl P cx n ops (⟨some d, .load T x, ty, pos, aft, none⟩ :: rest) Q ⟨regs, objs⟩ :=
  awl_val (.ag l) rfl rfl (by simpa using hd) (fun a w own r => by
    obtain ⟨b, hb, hv⟩ := (r.ev hx).ptr_inv
    obtain ⟨b', vals, e1, e2, e3, e4⟩ := ob_cells r hk
    rw [hb] at e1
    injection e1 with e1; injection e1 with e1; injection e1 with e1
    subst e1
    obtain ⟨h1, h2, h3⟩ := rng_spec hl
    have hlen : ((vals.drop off).take sz).length = sz := by simp; omega
    refine ⟨_, ?_, .ag ((vals.drop off).take sz) (by rw [hlen, h1]) ?_ ?_⟩
    · simp only [execOp, hv, Instr.loadAt, Instr.sureAddr, Sem.run_bind, Sem.run_pure, Result.andThen_ok]
      rw [run_load_row ti w _ ((vals.drop off).take sz) hlen]
      · rfl
      · intro j v hj
        rw [add_at, cell_of_row w b _ _ T0 (0, 0) e2]
        have hjs : j < sz := by have := (List.getElem?_eq_some_iff.1 hj).1; omega
        rw [List.getElem?_take_of_lt hjs, List.getElem?_drop] at hj
        simpa using hj
    · intro v hv
      obtain ⟨j, hj⟩ := List.getElem?_of_mem hv
      have hjs : j < sz := by have := (List.getElem?_eq_some_iff.1 hj).1; omega
      rw [List.getElem?_take_of_lt hjs, List.getElem?_drop] at hj
      have hc : cs[off + j]? = some cs[off + j] := List.getElem?_eq_getElem (by omega)
      have h5 := e4 _ _ hc
      have := h5.2.one h5.1
      rwa [getD_of hj] at this
    · intro j y hy
      have hjs : j < sz := by have := (List.getElem?_eq_some_iff.1 hy).1; omega
      rw [h3 j hjs] at hy
      have h5 := (e4 _ _ hy).2
      have e : ((vals.drop off).take sz).getD j undef = vals.getD (off + j) undef := by
        rw [List.getD_eq_getElem?_getD, List.getD_eq_getElem?_getD, List.getElem?_take_of_lt hjs, List.getElem?_drop]
      rw [e]; exact h5) kk

theorem awl_load_one {T sz k off : Nat} {x : Operand} {T0 : Nat} {cs : List AV} {y : AV} (ti : TI P T sz false) (hx : S.ev ⟨regs, objs⟩ x = some (.ptr k off)) (hk : get objs k = some (.ce T0 cs)) (hl : rng cs off 1 = some [y])
    (hd : Nat.blt d n = true) (kk : AWl P cx n ops rest Q ⟨(d, y) :: regs, objs⟩) :
    AWl P cx n ops (⟨some d, .load T x, ty, pos, aft, none⟩ :: rest) Q ⟨regs, objs⟩ :=
  awl_val y rfl rfl (by simpa using hd) (fun a w own r => by
    obtain ⟨b, hb, hv⟩ := (r.ev hx).ptr_inv
    obtain ⟨b', vals, e1, e2, e3, e4⟩ := ob_cells r hk
    rw [hb] at e1
    injection e1 with e1; injection e1 with e1; injection e1 with e1
    subst e1
    obtain ⟨h1, h2, h3⟩ := rng_spec hl
    have hc : cs[off]? = some y := by have := h3 0 (by omega); simpa using this.symm
    have hlt : off < vals.length := by have := (List.getElem?_eq_some_iff.1 hc).1; omega
    refine ⟨vals.getD off undef, ?_, (e4 _ _ hc).2⟩
    simp only [execOp, hv, Instr.loadAt, Instr.sureAddr, Sem.run_bind, Sem.run_pure, Result.andThen_ok]
    rw [run_load_one ti w _ (vals.getD off undef)]
    · rfl
    · rw [cell_of_row w b _ _ T0 (0, 0) e2]
      simp [List.getD_eq_getElem?_getD, List.getElem?_eq_getElem hlt]) kk

theorem Rep.ip_inv {w : World} {M : Nat → Nat → Prop} {own : Nat → Value} {hw : Nat → Option Nat} {cs : List PV} {v : Value} (h : RepA w M own hw (.p (.ip cs)) v) :
    ∃ (a : Addr) (f : Nat → Value), v = .pointer (some a) ∧ (∀ (j : Nat) (x : PV), cs[j]? = some x → w.cell? (a.add j) = some (f j)) ∧ (∀ (j : Nat) (x : PV), cs[j]? = some x → ¬ M a.block (a.off + j)) ∧ (∀ (j : Nat) (x : PV), cs[j]? = some x → Rep w M x (f j)) := by
  cases h with
  | p h => cases h with
    | ip a f h1 h2 h3 => exact ⟨a, f, rfl, h1, h2, h3⟩

def pag (l : List PV) : AV := .ag (l.map .p)

theorem awl_load_irow {T sz : Nat} {x : Operand} {cs l : List PV} (ti : TI P T sz true) (hx : S.ev ⟨regs, objs⟩ x = some (.p (.ip cs))) (hl : tk sz cs = some l)
    (hd : Nat.blt d n = true) (kk : AWl P cx n ops rest Q ⟨(d, .ag (l.map .p)) :: regs, objs⟩) :
    AWl P cx n ops (⟨some d, .load T x, ty, pos, aft, none⟩ :: rest) Q ⟨regs, objs⟩ :=
  awl_val (.ag (l.map .p)) rfl rfl (by simpa using hd) (fun a w own r => by
    obtain ⟨ad, f, hv, h1, h2, h3⟩ := Rep.ip_inv (r.ev hx)
    obtain ⟨h4, h5⟩ := tk_spec hl
    have hcs : ∀ j, j < sz → ∃ y, cs[j]? = some y := fun j hj => ⟨l[j], by rw [← h5 j hj]; exact List.getElem?_eq_getElem (by omega)⟩
    refine ⟨_, ?_, .ag ((List.range sz).map f) (by simp [h4]) ?_ ?_⟩
    · simp only [execOp, hv, Instr.loadAt, Instr.sureAddr, Sem.run_bind, Sem.run_pure, Result.andThen_ok]
      rw [run_load_row ti w ad ((List.range sz).map f) (by simp)]
      · rfl
      · intro j v hj
        simp only [List.getElem?_map, Option.map_eq_some_iff] at hj
        obtain ⟨i, hi, rfl⟩ := hj
        have hlt := (List.getElem?_eq_some_iff.1 hi).1
        rw [List.getElem?_range (by simpa using hlt)] at hi
        cases hi
        obtain ⟨y, hy⟩ := hcs j (by simpa using hlt)
        exact h1 j y hy
    · intro v hv
      obtain ⟨i, hi, rfl⟩ := List.mem_map.1 hv
      obtain ⟨y, hy⟩ := hcs i (by simpa using hi)
      exact (h3 i y hy).one
    · intro j y hy
      simp only [List.getElem?_map, Option.map_eq_some_iff] at hy
      obtain ⟨z, hz, rfl⟩ := hy
      have hlt : j < sz := by have := (List.getElem?_eq_some_iff.1 hz).1; omega
      rw [h5 j hlt] at hz
      have e : ((List.range sz).map f).getD j undef = f j := getD_of (by simp [hlt])
      rw [e]
      exact .p (h3 j z hz)) kk

theorem awl_load_ione {T sz : Nat} {x : Operand} {cs : List PV} {y : PV} (ti : TI P T sz false) (hx : S.ev ⟨regs, objs⟩ x = some (.p (.ip cs))) (hl : tk 1 cs = some [y])
    (hd : Nat.blt d n = true) (kk : AWl P cx n ops rest Q ⟨(d, .p y) :: regs, objs⟩) :
    AWl P cx n ops (⟨some d, .load T x, ty, pos, aft, none⟩ :: rest) Q ⟨regs, objs⟩ :=
  awl_val (.p y) rfl rfl (by simpa using hd) (fun a w own r => by
    obtain ⟨ad, f, hv, h1, h2, h3⟩ := Rep.ip_inv (r.ev hx)
    obtain ⟨h4, h5⟩ := tk_spec hl
    have hc : cs[0]? = some y := by have := h5 0 (by omega); simpa using this.symm
    refine ⟨f 0, ?_, .p (h3 0 y hc)⟩
    simp only [execOp, hv, Instr.loadAt, Instr.sureAddr, Sem.run_bind, Sem.run_pure, Result.andThen_ok]
    rw [run_load_one ti w ad (f 0) (by have := h1 0 y hc; rwa [show ad.add 0 = ad from rfl] at this)]
    rfl) kk
end
end Go.Ab
