/- The rules in the form in which a program lays them: what is computed stands written out. -/
import Derived.Test.YtnennmlpaijedaaAb9
import Derived.Laws.BitsLemmas
set_option linter.unusedVariables false
set_option linter.unusedSimpArgs false
namespace Go.Ab
open Go Go.RowKit

/-- setO, its result written out. -/
def setq : Obs → Nat → Ob → Option Obs
  | [], _, _ => some []
  | (j, o) :: r, k, o' => bif Nat.beq j k then some ((j, o') :: r) else match setq r k o' with
    | some q => some ((j, o) :: q)
    | none => none
theorem setq_spec : ∀ {l : Obs} {k : Nat} {o : Ob} {r : Obs}, setq l k o = some r → r = setO l k o
  | [], _, _, r, h => by simp [setq] at h; simp [setO, h]
  | (j, y) :: l, k, o, r, h => by
    simp only [setq] at h
    simp only [setO]
    cases hb : Nat.beq j k with
    | true => rw [hb] at h; simp at h; simp [h]
    | false =>
      rw [hb] at h
      simp only [cond_false] at h
      split at h
      · rename_i q hq; cases h; simp [setq_spec hq]
      · cases h

def othq (ks : List Nat) : Obs → Option Obs
  | [] => some []
  | (k, o) :: r => match othq ks r with
    | some q => bif mem k ks then some q else some ((k, o) :: q)
    | none => none
theorem othq_spec {ks : List Nat} : ∀ {l r : Obs}, othq ks l = some r → r = oth ks l
  | [], r, h => by simp [othq] at h; simp [oth, h]
  | (j, y) :: l, r, h => by
    simp only [othq] at h
    split at h
    · rename_i q hq
      have := othq_spec hq
      subst this
      simp only [oth]
      cases hb : mem j ks <;> rw [hb] at h <;> simp at h <;> simp [h]
    · cases h
def selq (ks : List Nat) : Obs → Option Obs
  | [] => some []
  | (k, o) :: r => match selq ks r with
    | some q => bif mem k ks then some ((k, o) :: q) else some q
    | none => none
theorem selq_spec {ks : List Nat} : ∀ {l r : Obs}, selq ks l = some r → r = sel ks l
  | [], r, h => by simp [selq] at h; simp [sel, h]
  | (j, y) :: l, r, h => by
    simp only [selq] at h
    split at h
    · rename_i q hq
      have := selq_spec hq
      subst this
      simp only [sel]
      cases hb : mem j ks <;> rw [hb] at h <;> simp at h <;> simp [h]
    · cases h
def appq : Obs → Obs → Option Obs
  | [], l => some l
  | x :: r, l => match appq r l with
    | some q => some (x :: q)
    | none => none
theorem appq_spec : ∀ {a b r : Obs}, appq a b = some r → r = a ++ b
  | [], b, r, h => by simp [appq] at h; simp [h]
  | x :: a, b, r, h => by
    simp only [appq] at h
    split at h
    · rename_i q hq; cases h; simp [appq_spec hq]
    · cases h
def mapq (zs : List Value) : List AV :=
  match zs with
  | [] => []
  | v :: r => .p (.v v) :: mapq r
theorem mapq_eq : ∀ zs, mapq zs = zs.map fun v => .p (.v v)
  | [] => rfl
  | v :: r => by simp [mapq, mapq_eq r]
def zerq : List Value → Option (List AV)
  | [] => some []
  | v :: r => match zerq r with
    | some q => some (.p (.v v) :: q)
    | none => none
theorem zerq_spec : ∀ {zs : List Value} {r : List AV}, zerq zs = some r → r = zs.map fun v => .p (.v v)
  | [], r, h => by simp [zerq] at h; simp [h]
  | v :: l, r, h => by
    simp only [zerq] at h
    split at h
    · rename_i q hq; cases h; simp [zerq_spec hq]
    · cases h
def pagq : List PV → Option (List AV)
  | [] => some []
  | v :: r => match pagq r with
    | some q => some (.p v :: q)
    | none => none
theorem pagq_spec : ∀ {zs : List PV} {r : List AV}, pagq zs = some r → r = zs.map .p
  | [], r, h => by simp [pagq] at h; simp [h]
  | v :: l, r, h => by
    simp only [pagq] at h
    split at h
    · rename_i q hq; cases h; simp [pagq_spec hq]
    · cases h

section
variable {P : Program} {cx : Cx} {n : Nat} {Q : Exit → S → Prop} {regs : List (Nat × AV)} {objs : Obs} {ops : Array Oper} {rest : List Oper} {d : Nat} {pos : String} {aft : Array Edge} {ty : Nat}

theorem awl_end {K : S → Prop} (h : K ⟨regs, objs⟩) : AWl P cx n ops [] (thn K Q) ⟨regs, objs⟩ := awl_nil h

theorem x_irow {T sz : Nat} {x : Operand} {cs l : List PV} {q : List AV} (ti : TI P T sz true) (hx : S.ev ⟨regs, objs⟩ x = some (.p (.ip cs))) (hl : tk sz cs = some l) (hq : pagq l = some q)
    (hd : Nat.blt d n = true) (kk : AWl P cx n ops rest Q ⟨(d, .ag q) :: regs, objs⟩) :
    AWl P cx n ops (⟨some d, .load T x, ty, pos, aft, none⟩ :: rest) Q ⟨regs, objs⟩ :=
  awl_load_irow ti hx hl hd (by rw [← pagq_spec hq]; exact kk)

theorem x_store {T sz k off T0 : Nat} {ag : Bool} {p x : Operand} {av : AV} {cs l cs' : List AV} {objs' : Obs} (ti : TI P T sz ag) (hp : S.ev ⟨regs, objs⟩ p = some (.ptr k off)) (hx : S.ev ⟨regs, objs⟩ x = some av)
    (hk : get objs k = some (.ce T0 cs)) (hl : av.ce = some l) (hsz : Nat.beq l.length sz = true) (hc : allCell l = true) (ho : ovr cs off l = some cs') (hq : setq objs k (.ce T0 cs') = some objs')
    (kk : AWl P cx n ops rest Q ⟨regs, objs'⟩) : AWl P cx n ops (⟨none, .store T p x, ty, pos, aft, none⟩ :: rest) Q ⟨regs, objs⟩ :=
  awl_store ti hp hx hk hl hsz hc ho (by rw [← setq_spec hq]; exact kk)

theorem x_alloc {T : Nat} {zs : List Value} {q : List AV} (tz : TZ P T zs) (hq : zerq zs = some q) (hf : fresh d ⟨regs, objs⟩ = true) (h0 : get cx.objs0 d = none) (hd : Nat.blt d n = true)
    (kk : AWl P cx n ops rest Q ⟨(d, .ptr d 0) :: regs, (d, .ce T q) :: objs⟩) : AWl P cx n ops (⟨some d, .alloc T, ty, pos, aft, none⟩ :: rest) Q ⟨regs, objs⟩ :=
  awl_alloc tz hf h0 hd (by rw [← zerq_spec hq]; exact kk)

theorem x_append {T E sz bytes k m sz2 : Nat} {s x : Operand} {xs ys : List (List PV)} {av : AV} {objs' : Obs} (si : SI P T E) (ei : EI P E sz bytes) (hs : S.ev ⟨regs, objs⟩ s = some (.ts k sz xs)) (hk : get objs k = some (.ar E sz m)) (hm : m = xs.length)
    (hx : S.ev ⟨regs, objs⟩ x = some av) (hr : av.rows = some (sz2, ys)) (hsz : Nat.blt 0 sz = true) (h2 : sz2 = sz ∨ ys = []) (hq : setq objs k (.ar E sz (xs.length + ys.length)) = some objs') (hd : Nat.blt d n = true) (hb : (xs.length + ys.length) * bytes ≤ 140737488355328) (h63 : xs.length + ys.length ≤ 140737488355328)
    (kk : AWl P cx n ops rest Q ⟨(d, .ts k sz (xs ++ ys)) :: regs, objs'⟩) :
    AWl P cx n ops (⟨some d, .call ⟨.builtin .append, #[s, x], #[T, T]⟩, ty, pos, aft, none⟩ :: rest) Q ⟨regs, objs⟩ :=
  awl_append si ei hs hk hm hx hr hsz h2 hb h63 hd (by rw [← setq_spec hq]; exact kk)

theorem x_call {f : Nat} {l : List Operand} {ts : Array Nat} {avs args : List AV} {sub o2 : Obs} {R : AV → Obs → Prop} (ks : List Nat) (hf : FB P f) (hx : evs ⟨regs, objs⟩ l = some avs) (hsub : selq ks objs = some sub) (ho : othq ks objs = some o2) (con : Con P f args sub R) (hs : Subs avs args) (hd : Nat.blt d n = true)
    (kk : ∀ r objs', R r objs' → newOK ks ⟨regs, objs⟩ cx.objs0 objs' = true ∧ ∃ o3, appq objs' o2 = some o3 ∧ AWl P cx n ops rest Q ⟨(d, r) :: regs, o3⟩) :
    AWl P cx n ops (⟨some d, .call ⟨.value (.func f), l.toArray, ts⟩, ty, pos, aft, none⟩ :: rest) Q ⟨regs, objs⟩ :=
  awl_call ks hf hx hs con (selq_spec hsub).symm hd fun r objs' hR => by
    obtain ⟨h1, o3, h2, h3⟩ := kk r objs' hR
    refine ⟨h1, ?_⟩
    rw [← othq_spec ho, ← appq_spec h2]; exact h3

/-! The values of operators. -/
theorem wrap64_id {x : Int} (h : -9223372036854775808 ≤ x ∧ x ≤ 9223372036854775807) : IntKind.i64.wrap x = x := by
  rw [IntKind.wrap_i64]; omega

variable {w : World} {T : Nat} {x y : Operand} {a b : Int} {k : IntKind}
theorem bin_add : ∀ w, (do eqGuard .add T x y (.int k a) (.int k b); binOp .add T (.int k a) (.int k b) : Sem Value).run P w = .ok (.int k (k.wrap (a + b))) w := fun w => by simp [eqGuard, binOp_add, Op.intArith]
theorem bin_sub : ∀ w, (do eqGuard .sub T x y (.int k a) (.int k b); binOp .sub T (.int k a) (.int k b) : Sem Value).run P w = .ok (.int k (k.wrap (a - b))) w := fun w => by simp [eqGuard, binOp_sub, Op.intArith]
theorem bin_mul : ∀ w, (do eqGuard .mul T x y (.int k a) (.int k b); binOp .mul T (.int k a) (.int k b) : Sem Value).run P w = .ok (.int k (k.wrap (a * b))) w := fun w => by simp [eqGuard, binOp_mul, Op.intArith]
theorem bin_add_i (h : -9223372036854775808 ≤ a + b ∧ a + b ≤ 9223372036854775807) : ∀ w, (do eqGuard .add T x y (.int .i64 a) (.int .i64 b); binOp .add T (.int .i64 a) (.int .i64 b) : Sem Value).run P w = .ok (.int .i64 (a + b)) w := fun w => by rw [bin_add w, wrap64_id h]
theorem bin_sub_i (h : -9223372036854775808 ≤ a - b ∧ a - b ≤ 9223372036854775807) : ∀ w, (do eqGuard .sub T x y (.int .i64 a) (.int .i64 b); binOp .sub T (.int .i64 a) (.int .i64 b) : Sem Value).run P w = .ok (.int .i64 (a - b)) w := fun w => by rw [bin_sub w, wrap64_id h]
theorem bin_mul_i (h : -9223372036854775808 ≤ a * b ∧ a * b ≤ 9223372036854775807) : ∀ w, (do eqGuard .mul T x y (.int .i64 a) (.int .i64 b); binOp .mul T (.int .i64 a) (.int .i64 b) : Sem Value).run P w = .ok (.int .i64 (a * b)) w := fun w => by rw [bin_mul w, wrap64_id h]
theorem bin_eql : ∀ w, (do eqGuard .eql T x y (.int k a) (.int k b); binOp .eql T (.int k a) (.int k b) : Sem Value).run P w = .ok (.bool (decide (a = b))) w := fun w => by
  simp only [eqGuard, binOp_eql]
  have : (a == b) = decide (a = b) := by by_cases h : a = b <;> simp [h]
  simp [this]
theorem bin_neq : ∀ w, (do eqGuard .neq T x y (.int k a) (.int k b); binOp .neq T (.int k a) (.int k b) : Sem Value).run P w = .ok (.bool (decide (a ≠ b))) w := fun w => by
  simp only [eqGuard, binOp_neq]
  have : (a != b) = decide (a ≠ b) := by by_cases h : a = b <;> simp [h]
  rw [this]
  simp
theorem bin_lss : ∀ w, (do eqGuard .lss T x y (.int k a) (.int k b); binOp .lss T (.int k a) (.int k b) : Sem Value).run P w = .ok (.bool (decide (a < b))) w := fun w => by simp [eqGuard, binOp_lss]
theorem bin_leq : ∀ w, (do eqGuard .leq T x y (.int k a) (.int k b); binOp .leq T (.int k a) (.int k b) : Sem Value).run P w = .ok (.bool (decide (a ≤ b))) w := fun w => by simp [eqGuard, binOp_leq]
theorem bin_gtr : ∀ w, (do eqGuard .gtr T x y (.int k a) (.int k b); binOp .gtr T (.int k a) (.int k b) : Sem Value).run P w = .ok (.bool (decide (a > b))) w := fun w => by simp [eqGuard, binOp_gtr]
theorem bin_geq : ∀ w, (do eqGuard .geq T x y (.int k a) (.int k b); binOp .geq T (.int k a) (.int k b) : Sem Value).run P w = .ok (.bool (decide (a ≥ b))) w := fun w => by simp [eqGuard, binOp_geq]
theorem un_not {c : Bool} : ∀ w, (Op.unary .not (.bool c)).run P w = .ok (.bool (!c)) w := fun w => by simp [Op.unary]
theorem un_notd {q : Prop} [Decidable q] : ∀ w, (Op.unary .not (.bool (decide q))).run P w = .ok (.bool (decide (¬ q))) w := fun w => by
  have : (!decide q) = decide (¬ q) := by by_cases h : q <;> simp [h]
  show Sem.run P (pure (Value.bool (!decide q))) w = _
  rw [this]; rfl
theorem un_neg (h : -9223372036854775808 ≤ -a ∧ -a ≤ 9223372036854775807) : ∀ w, (Op.unary .neg (.int .i64 a)).run P w = .ok (.int .i64 (-a)) w := fun w => by
  show Sem.run P (pure (Value.int .i64 (IntKind.i64.wrap (0 - a)))) w = _
  rw [show (0 : Int) - a = -a by omega, wrap64_id h]; rfl
end
end Go.Ab
