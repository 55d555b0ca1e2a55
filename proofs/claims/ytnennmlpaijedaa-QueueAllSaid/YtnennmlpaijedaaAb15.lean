/- Steps of a region whose order is drawn and in which objects turn. -/
import Derived.Test.YtnennmlpaijedaaAb14
set_option linter.unusedVariables false
set_option linter.unusedSectionVars false
set_option linter.unusedSimpArgs false
namespace Go.Ab
open Go Go.RowKit

/-- One state of the objects behind the other. -/
def lch : Obs → List Obs → Nat → Obs
  | o, _, 0 => o
  | o, [], _ + 1 => o
  | _, a :: r, m + 1 => lch a r m

section
variable {P : Program} {cx : Cx} {n : Nat} {ops : Array Oper} {gens exs : List Nat} {ch : Nat → Obs} {E : Regs → Prop} {o : Oper} {rest : List Oper} {regs : Regs} {x : AV} {k : Nat} {objs objs' : Obs}

theorem awd_x {d : Nat} (lo de : Nat) (ho : ops[k]? = some o) (hx : exs.contains k = true) (hd : o.dst = some d) (hlo : Nat.beq (loG .any ops gens k) lo = true) (hhi : Nat.beq (hiG .any ops gens k) lo = true) (hde : Nat.beq (deG gens k) de = true) (h0 : ch lo = objs) (h1 : ch (lo + de) = objs')
    (h : ∃ x, (AWl P cx n ops [o] (fun e s1 => e = .normal ∧ s1 = ⟨(d, x) :: regs, objs'⟩) ⟨regs, objs⟩) ∧
      AWd (YG P cx n .any ops gens exs ch) E (k + 1) rest ((d, x) :: regs)) : AWd (YG P cx n .any ops gens exs ch) E k (o :: rest) regs := by
  obtain ⟨x, h, kk⟩ := h
  have e1 := Nat.eq_of_beq_eq_true hlo
  have e2 := Nat.eq_of_beq_eq_true hhi
  have e3 := Nat.eq_of_beq_eq_true hde
  exact Ab.awd_x0 (x := x) (objs := objs) (objs' := objs') ho hx (by rw [e1, e2]; exact Nat.beq_refl _) (by rw [e1]; exact h0) (by simpa [putd, hd] using h) (by rw [e1, e3]; exact h1) (by simpa [putd, hd] using kk)
theorem awd_x' (lo de : Nat) (ho : ops[k]? = some o) (hx : exs.contains k = true) (hd : o.dst = none) (hlo : Nat.beq (loG .any ops gens k) lo = true) (hhi : Nat.beq (hiG .any ops gens k) lo = true) (hde : Nat.beq (deG gens k) de = true) (h0 : ch lo = objs) (h1 : ch (lo + de) = objs')
    (h : AWl P cx n ops [o] (fun e s1 => e = .normal ∧ s1 = ⟨regs, objs'⟩) ⟨regs, objs⟩)
    (kk : AWd (YG P cx n .any ops gens exs ch) E (k + 1) rest regs) : AWd (YG P cx n .any ops gens exs ch) E k (o :: rest) regs := by
  have e1 := Nat.eq_of_beq_eq_true hlo
  have e2 := Nat.eq_of_beq_eq_true hhi
  have e3 := Nat.eq_of_beq_eq_true hde
  exact Ab.awd_x0 (x := .any) (objs := objs) (objs' := objs') ho hx (by rw [e1, e2]; exact Nat.beq_refl _) (by rw [e1]; exact h0) (by simpa [putd, hd] using h) (by rw [e1, e3]; exact h1) (by simpa [putd, hd] using kk)

theorem awd_g {d : Nat} (lo de : Nat) (lk : Regs) (hl : Look regs lk) (ho : ops[k]? = some o) (hk : looks lk o ops = true) (hd : o.dst = some d) (hlo : Nat.beq (loG .any ops gens k) lo = true) (hhi : Nat.beq (hiG .any ops gens k) lo = true) (hde : Nat.beq (deG gens k) de = true) (h0 : ch lo = objs) (h1 : ch (lo + de) = objs')
    (h : ∃ x, (∀ regs', AWl P cx n ops [o] (fun e s1 => e = .normal ∧ s1 = ⟨(d, x) :: (lk ++ regs'), objs'⟩) ⟨lk ++ regs', objs⟩) ∧
      AWd (YG P cx n .any ops gens exs ch) E (k + 1) rest ((d, x) :: regs)) : AWd (YG P cx n .any ops gens exs ch) E k (o :: rest) regs := by
  obtain ⟨x, h, kk⟩ := h
  have e1 := Nat.eq_of_beq_eq_true hlo
  have e2 := Nat.eq_of_beq_eq_true hhi
  have e3 := Nat.eq_of_beq_eq_true hde
  subst h0 h1
  refine awd_all (x := x) lk hl ho hk 1 (by rw [e1, e2]; exact Nat.beq_refl _) ?_ (by simpa [putd, hd] using kk)
  rw [e1, e3]
  exact ⟨fun r' => by simpa [putd, hd] using h r', trivial⟩

/-- In either of two states of the objects. -/
theorem awd_g2 {d : Nat} {objs2 objs2' : Obs} (lo : Nat) (lk : Regs) (hl : Look regs lk) (ho : ops[k]? = some o) (hk : looks lk o ops = true) (hd : o.dst = some d) (hlo : Nat.beq (loG .any ops gens k) lo = true) (hhi : Nat.beq (hiG .any ops gens k) (lo + 1) = true) (hde : Nat.beq (deG gens k) 0 = true)
    (h0 : ch lo = objs) (h1 : ch (lo + 1) = objs2)
    (h : ∃ x, (∀ regs', AWl P cx n ops [o] (fun e s1 => e = .normal ∧ s1 = ⟨(d, x) :: (lk ++ regs'), objs⟩) ⟨lk ++ regs', objs⟩) ∧
      (∀ regs', AWl P cx n ops [o] (fun e s1 => e = .normal ∧ s1 = ⟨(d, x) :: (lk ++ regs'), objs2⟩) ⟨lk ++ regs', objs2⟩) ∧
      AWd (YG P cx n .any ops gens exs ch) E (k + 1) rest ((d, x) :: regs)) : AWd (YG P cx n .any ops gens exs ch) E k (o :: rest) regs := by
  obtain ⟨x, h, h2, kk⟩ := h
  have e1 := Nat.eq_of_beq_eq_true hlo
  have e2 := Nat.eq_of_beq_eq_true hhi
  have e3 := Nat.eq_of_beq_eq_true hde
  subst h0 h1
  refine awd_all (x := x) lk hl ho hk 2 (by rw [e1, e2]; exact Nat.beq_refl _) ?_ (by simpa [putd, hd] using kk)
  rw [e1, e3]
  exact ⟨fun r' => by simpa [putd, hd] using h r', ⟨fun r' => by simpa [putd, hd] using h2 r', trivial⟩⟩

theorem awp_draw1 {Q : Exit → S → Prop} {id : Nat} {l : List Oper} (gens exs : List Nat) (ch : Nat → Obs) (h0 : ch 0 = objs) (hm : P.follows .mixedOrders = true) (hB : drawB l.toArray gens exs = true) (m : Nat) (hl : Nat.beq gens.length m = true) (h1 : ch m = objs')
    (h : AWd (YG P cx n .any l.toArray gens exs ch) (fun r => Q .normal ⟨r, objs'⟩) 0 l regs) : AWp P cx n (.region id l.toArray true) Q ⟨regs, objs⟩ := by
  refine awp_draw gens exs ch h0 hm hB ?_
  rw [Nat.eq_of_beq_eq_true hl, h1]
  have key : ∀ (l' : List Oper) (k : Nat) (r : Regs), AWd (YG P cx n .any l.toArray gens exs ch) (fun r => Q .normal ⟨r, objs'⟩) k l' r → AWd (YG P cx n .any l.toArray gens exs ch) (fun r => ∃ r0, agr r r0 ∧ Q .normal ⟨r0, objs'⟩) k l' r := by
    intro l'
    induction l' with
    | nil => intro k r h; exact ⟨r, fun _ => rfl, h⟩
    | cons o l' ih => intro k r ⟨x, h1, h2⟩; exact ⟨x, h1, ih _ _ h2⟩
  exact key l 0 regs h

/-! Parts of literals that stand in a region whose order is drawn: a key that nobody names. -/
mutual
def AV.mx : AV → Nat
  | .p _ => 0
  | .any => 0
  | .ptr k _ => k + 1
  | .ts k _ _ => k + 1
  | .ag cs => AV.mxL cs
  | .tp cs => AV.mxL cs
  | .fv _ a b => AV.mxL a + AV.mxL b
  | .tm k _ => k + 1
  | .pe k _ _ => k + 1
  | .ifc _ x => x.mx
def AV.mxL : List AV → Nat
  | [] => 0
  | x :: r => x.mx + AV.mxL r
end
mutual
theorem AV.mx_no : ∀ (x : AV) (k : Nat), x.mx ≤ k → x.no k = true
  | .p _, k, h => rfl
  | .any, k, h => rfl
  | .ptr j _, k, h => by
    simp only [AV.mx] at h; simp only [AV.no, Bool.not_eq_true']
    cases hb : Nat.beq j k with
    | false => rfl
    | true => have := Nat.eq_of_beq_eq_true hb; omega
  | .ts j _ _, k, h => by
    simp only [AV.mx] at h; simp only [AV.no, Bool.not_eq_true']
    cases hb : Nat.beq j k with
    | false => rfl
    | true => have := Nat.eq_of_beq_eq_true hb; omega
  | .ag cs, k, h => AV.mxL_no cs k h
  | .tp cs, k, h => AV.mxL_no cs k h
  | .fv _ a b, k, h => by
    simp only [AV.mx] at h
    simp only [AV.no, AV.mxL_no a k (by omega), AV.mxL_no b k (by omega), Bool.and_self]
  | .tm j _, k, h => by
    simp only [AV.mx] at h; simp only [AV.no, Bool.not_eq_true']
    cases hb : Nat.beq j k with
    | false => rfl
    | true => have := Nat.eq_of_beq_eq_true hb; omega
  | .pe j _ _, k, h => by
    simp only [AV.mx] at h; simp only [AV.no, Bool.not_eq_true']
    cases hb : Nat.beq j k with
    | false => rfl
    | true => have := Nat.eq_of_beq_eq_true hb; omega
  | .ifc _ x, k, h => AV.mx_no x k h
theorem AV.mxL_no : ∀ (l : List AV) (k : Nat), AV.mxL l ≤ k → AV.noL k l = true
  | [], k, h => rfl
  | x :: r, k, h => by
    simp only [AV.mxL] at h
    simp only [AV.noL, AV.mx_no x k (by omega), AV.mxL_no r k (by omega), Bool.and_self]
end

def mxR : Regs → Nat
  | [] => 0
  | (_, x) :: r => x.mx + mxR r
def Ob.mx : Ob → Nat
  | .ce _ cs => AV.mxL cs
  | .ar _ _ _ => 0
  | .mu _ _ _ _ => 0
def mxO : Obs → Nat
  | [] => 0
  | (k, o) :: r => (k + 1) + o.mx + mxO r
theorem mxR_no : ∀ (l : Regs) (k : Nat), mxR l ≤ k → freshR k l = true
  | [], k, h => rfl
  | (t, x) :: r, k, h => by
    simp only [mxR] at h
    simp only [freshR, AV.mx_no x k (by omega), mxR_no r k (by omega), Bool.and_self]
theorem mxO_no : ∀ (l : Obs) (k : Nat), mxO l ≤ k → freshO k l = true
  | [], k, h => rfl
  | (j, o) :: r, k, h => by
    simp only [mxO] at h
    have h1 : Nat.beq j k = false := by
      cases hb : Nat.beq j k with
      | false => rfl
      | true => have := Nat.eq_of_beq_eq_true hb; omega
    have h2 : o.no k = true := by
      cases o with
      | ar => rfl
      | mu => rfl
      | ce T cs => simp only [Ob.mx] at h; exact AV.mxL_no cs k (by omega)
    simp only [freshO, h1, h2, mxO_no r k (by omega), Bool.and_self, Bool.not_false]
theorem mxO_get : ∀ (l : Obs) (k : Nat), mxO l ≤ k → get l k = none
  | [], k, h => rfl
  | (j, o) :: r, k, h => by
    simp only [mxO] at h
    have h1 : Nat.beq j k = false := by
      cases hb : Nat.beq j k with
      | false => rfl
      | true => have := Nat.eq_of_beq_eq_true hb; omega
    simp only [get, h1, cond_false]
    exact mxO_get r k (by omega)
theorem fresh_ex (s : S) (o0 : Obs) : ∃ k, fresh k s = true ∧ get o0 k = none :=
  ⟨mxR s.regs + mxO s.objs + mxO o0, by
    have h1 := mxR_no s.regs (mxR s.regs + mxO s.objs + mxO o0) (by omega)
    have h2 := mxO_no s.objs (mxR s.regs + mxO s.objs + mxO o0) (by omega)
    simp only [fresh, h1, h2, Bool.and_self], mxO_get o0 _ (by omega)⟩

section
variable {P : Program} {cx : Cx} {n : Nat} {Q : Exit → S → Prop} {regs : List (Nat × AV)} {objs : Obs} {ops : Array Oper} {rest : List Oper} {d : Nat} {pos : String} {aft : Array Edge} {ty : Nat}

/-- A slice's literal that nobody writes. -/
theorem x_slice {T E sz bytes len : Nat} {parts : List (Nat × Operand)} {rows : List (List PV)} (si : SI P T E) (ei : EI P E sz bytes) (hr : rowsOf ⟨regs, objs⟩ sz 0 parts = some rows) (hl : Nat.beq parts.length len = true) (hs : (Nat.ble (len * sz) 16777216 && Nat.ble len 16777216) = true)
    (hd : Nat.blt d n = true) (kk : AWl P cx n ops rest Q ⟨(d, .p (.sl sz rows)) :: regs, objs⟩) :
    AWl P cx n ops (⟨some d, .buildSlice T len parts.toArray, ty, pos, aft, none⟩ :: rest) Q ⟨regs, objs⟩ := by
  obtain ⟨k, hf, h0⟩ := fresh_ex ⟨regs, objs⟩ cx.objs0
  refine awl_op rfl (s' := ⟨(d, .p (.sl sz rows)) :: regs, objs⟩) (fun a w own r => ?_) kk
  obtain ⟨v, w', e1, e2, e3⟩ := r.build si ei hr (Nat.eq_of_beq_eq_true hl) (by simp at hs; exact hs.1) (by simp at hs; exact hs.2) hf h0
  refine ⟨v, w', .inl (exec_build e1), upd own k v, ?_⟩
  have r2 := e2.put_same (by simpa using hd : d < n) e3
  have hn := r2.ok.keys
  simp only [S.put, List.map_cons, List.nodup_cons] at hn
  obtain ⟨hok, hle⟩ := r2.ok.part (objs' := objs) (fun x h => List.mem_cons_of_mem _ h) hn.2 cx.M0 (fun b i h => .inl h) (fun j o b hk hb => r2.ok.m0 j o b (List.mem_cons_of_mem _ hk) hb)
  refine { defs := r2.defs, size := r2.size, ok := hok, regs := fun t y hy => ?_, stp := r2.stp.less hle, fix := fun j o hj => (r2.fix j o hj).trans ?_, fr := ⟨r2.fr.keep, fun j o b hk hb => r2.fr.loc j o b (List.mem_cons_of_mem _ hk) hb, r2.fr.size⟩ }
  · simp only [get] at hy
    cases hb : Nat.beq d t with
    | true =>
      obtain rfl : d = t := Nat.eq_of_beq_eq_true hb
      rw [hb] at hy; simp at hy; subst hy
      exact Sub.ts _ _ _ _ _ ((r2.regs d (.ts k sz rows) (by simp [S.put, get, Nat.beq_refl])).part r2.ok (fun x h => List.mem_cons_of_mem _ h) hle)
    | false =>
      rw [hb] at hy
      exact (r2.regs t y (by simp only [S.put, get, hb]; exact hy)).part r2.ok (fun x h => List.mem_cons_of_mem _ h) hle
  · cases h3 : hwOf objs j with
    | none => exact .inr (.inl ⟨h3, .inl rfl⟩)
    | some m =>
      obtain ⟨oo, hm, hwi⟩ := hwOf_some h3
      exact .inl ⟨rfl, by rw [h3]; exact (hwOf_of r2.ok.keys (List.mem_cons_of_mem _ hm) hwi).symm⟩
theorem Sub.agc {l l' : List AV} (h : Subs l l') : Sub (.ag l) (.ag l') := by
  obtain ⟨h1, h2⟩ := h.get
  refine Sub.ag h1 fun j x y hx hy => ?_
  obtain ⟨x', h3, h4⟩ := h2 j y hy
  rw [hx] at h3; cases h3; exact h4

/-- A register as it is told. -/
theorem awl_sub {x y : AV} (hs : Sub x y) (kk : AWl P cx n ops rest Q ⟨(d, y) :: regs, objs⟩) : AWl P cx n ops rest Q ⟨(d, x) :: regs, objs⟩ := fun a w ⟨own, r⟩ => kk a w ⟨own,
  { defs := r.defs, size := r.size, ok := r.ok, stp := r.stp, fix := r.fix, fr := r.fr, regs := fun t z hz => by
      simp only [get] at hz
      cases hb : Nat.beq d t with
      | true =>
        rw [hb] at hz; simp at hz; subst hz
        exact hs _ _ _ _ _ (r.regs t x (by simp [get, hb]))
      | false => exact r.regs t z (by simp only [get, hb]; rw [hb] at hz; exact hz) }⟩
end
end
end Go.Ab
