/- Rules for addresses, stores, new objects, slices. -/
import Derived.Test.YtnennmlpaijedaaAb4
set_option linter.unusedVariables false
set_option linter.unusedSimpArgs false
namespace Go.Ab
open Go Go.RowKit
section
variable {P : Program} {cx : Cx} {n : Nat} {Q : Exit → S → Prop} {regs : List (Nat × AV)} {objs : Obs} {ops : Array Oper} {rest : List Oper} {d : Nat} {pos : String} {aft : Array Edge} {ty : Nat}

/-- A field of a struct type: its place; its type has cells. -/
structure FI (P : Program) (T i off : Nat) : Prop where
  h : ∃ fields f sz, P.underlying T = some (.struct fields) ∧ fields[i]? = some f ∧ f.offset = off ∧ (P.info? f.type).map (·.size) = some (sz + 1)

theorem run_fieldAt {T i off : Nat} (h : FI P T i off) (w : World) (b o : Nat) :
    (Instr.fieldAt T (.pointer (some ⟨b, o, none⟩)) i).run P w = .ok (.pointer (some ⟨b, o + off, none⟩)) w := by
  obtain ⟨fields, f, sz, h1, h2, rfl, h4⟩ := h.h
  cases hq : P.info? f.type with
  | none => simp [hq] at h4
  | some inf =>
    simp [hq] at h4
    have h5 : ¬ inf.size = 0 := by omega
    simp [Instr.fieldAt, run_underlying h1, h2, Instr.sureAddr, fieldPlace, sizeOf, typeInfo, hq, h5, add_at]

theorem run_fieldAt' {T i off : Nat} (h : FI P T i off) (w : World) (ad : Addr) :
    (Instr.fieldAt T (.pointer (some ad)) i).run P w = .ok (.pointer (some (ad.add off))) w := by
  obtain ⟨fields, f, sz, h1, h2, rfl, h4⟩ := h.h
  cases hq : P.info? f.type with
  | none => simp [hq] at h4
  | some inf =>
    simp [hq] at h4
    have h5 : ¬ inf.size = 0 := by omega
    simp [Instr.fieldAt, run_underlying h1, h2, Instr.sureAddr, fieldPlace, sizeOf, typeInfo, hq, h5]

theorem awl_fieldAddr {T i off k o : Nat} {x : Operand} (fi : FI P T i off) (hx : S.ev ⟨regs, objs⟩ x = some (.ptr k o)) (hd : Nat.blt d n = true)
    (kk : AWl P cx n ops rest Q ⟨(d, .ptr k (o + off)) :: regs, objs⟩) : AWl P cx n ops (⟨some d, .fieldAddr T x i, ty, pos, aft, none⟩ :: rest) Q ⟨regs, objs⟩ :=
  awl_val (.ptr k (o + off)) rfl rfl (by simpa using hd) (fun a w own r => by
    obtain ⟨b, hb, hv⟩ := (r.ev hx).ptr_inv
    refine ⟨_, ?_, .ptr hb⟩
    simp only [execOp, hv, Sem.run_bind, run_fieldAt fi w b o, Result.andThen_ok]
    rfl) kk

theorem add_add' (a : Addr) (i j : Nat) : (a.add i).add j = a.add (i + j) := by
  unfold Addr.add
  by_cases h1 : i = 0 <;> by_cases h2 : j = 0 <;> simp [h1, h2, Nat.add_assoc]

theorem Rep.ip_drop {w : World} {M : Nat → Nat → Prop} {cs r : List PV} {a : Addr} {f : Nat → Value} {m : Nat} (h1 : ∀ (j : Nat) (x : PV), cs[j]? = some x → w.cell? (a.add j) = some (f j))
    (h2 : ∀ (j : Nat) (x : PV), cs[j]? = some x → ¬ M a.block (a.off + j)) (h3 : ∀ (j : Nat) (x : PV), cs[j]? = some x → Rep w M x (f j)) (hd : dr m cs = some r) : Rep w M (.ip r) (.pointer (some (a.add m))) := by
  obtain ⟨rfl, _⟩ := dr_spec hd
  refine .ip (a.add m) (fun j => f (m + j)) (fun j x hj => ?_) (fun j x hj => ?_) (fun j x hj => ?_)
  · rw [add_add']; exact h1 (m + j) x (by rwa [List.getElem?_drop] at hj)
  · rw [(add_eq a m).1, (add_eq a m).2, Nat.add_assoc]; exact h2 (m + j) x (by rwa [List.getElem?_drop] at hj)
  · exact h3 (m + j) x (by rwa [List.getElem?_drop] at hj)

theorem awl_fieldAddr_i {T i off : Nat} {x : Operand} {cs r : List PV} (fi : FI P T i off) (hx : S.ev ⟨regs, objs⟩ x = some (.p (.ip cs))) (hr : dr off cs = some r) (hd : Nat.blt d n = true)
    (kk : AWl P cx n ops rest Q ⟨(d, .p (.ip r)) :: regs, objs⟩) : AWl P cx n ops (⟨some d, .fieldAddr T x i, ty, pos, aft, none⟩ :: rest) Q ⟨regs, objs⟩ :=
  awl_val (.p (.ip r)) rfl rfl (by simpa using hd) (fun a w own r => by
    obtain ⟨ad, f, hv, h1, h2, h3⟩ := Rep.ip_inv (r.ev hx)
    refine ⟨_, ?_, .p (Rep.ip_drop h1 h2 h3 hr)⟩
    simp only [execOp, hv, Sem.run_bind, run_fieldAt' fi w ad, Result.andThen_ok]
    rfl) kk

theorem awl_nilCheck {x : Operand} {av : AV} (hx : S.ev ⟨regs, objs⟩ x = some av) (hav : (match av with | .ptr _ _ | .p (.ip _) => true | _ => false) = true) (hd : Nat.blt d n = true)
    (kk : AWl P cx n ops rest Q ⟨(d, av) :: regs, objs⟩) : AWl P cx n ops (⟨some d, .nilCheck x, ty, pos, aft, none⟩ :: rest) Q ⟨regs, objs⟩ :=
  awl_val av rfl rfl (by simpa using hd) (fun a w own r => by
    have h := r.ev hx
    refine ⟨a.eval x, ?_, h⟩
    cases av with
    | ptr k off =>
      obtain ⟨b, hb, hv⟩ := h.ptr_inv
      simp [execOp, hv]
    | p y =>
      cases y with
      | ip cs =>
        obtain ⟨ad, f, hv, _⟩ := Rep.ip_inv h
        simp [execOp, hv]
      | _ => simp at hav
    | _ => simp at hav) kk

theorem awl_extract {x : Operand} {i : Nat} {vs : List AV} {av : AV} (hx : S.ev ⟨regs, objs⟩ x = some (.tp vs)) (hi : rng vs i 1 = some [av]) (hd : Nat.blt d n = true)
    (kk : AWl P cx n ops rest Q ⟨(d, av) :: regs, objs⟩) : AWl P cx n ops (⟨some d, .extract x i, ty, pos, aft, none⟩ :: rest) Q ⟨regs, objs⟩ :=
  awl_val av rfl rfl (by simpa using hd) (fun a w own r => by
    have h := r.ev hx
    generalize hv : a.eval x = v at h
    cases h with
    | tp us hl h1 =>
      obtain ⟨h2, h3, h4⟩ := rng_spec hi
      have hc : vs[i]? = some av := by have := h4 0 (by omega); simpa using this.symm
      have hlt : i < us.length := by have := (List.getElem?_eq_some_iff.1 hc).1; omega
      refine ⟨us.getD i undef, ?_, h1 i av hc⟩
      have h5 : us.toArray[i]? = some us[i] := by simp [hlt]
      simp [execOp, hv, Instr.extract, hlt, List.getD_eq_getElem?_getD]) kk

/-! stores -/
theorem awl_store {T sz k off T0 : Nat} {ag : Bool} {p x : Operand} {av : AV} {cs l cs' : List AV} (ti : TI P T sz ag) (hp : S.ev ⟨regs, objs⟩ p = some (.ptr k off)) (hx : S.ev ⟨regs, objs⟩ x = some av)
    (hk : get objs k = some (.ce T0 cs)) (hl : av.ce = some l) (hsz : Nat.beq l.length sz = true) (hc : allCell l = true) (ho : ovr cs off l = some cs')
    (kk : AWl P cx n ops rest Q ⟨regs, setO objs k (.ce T0 cs')⟩) : AWl P cx n ops (⟨none, .store T p x, ty, pos, aft, none⟩ :: rest) Q ⟨regs, objs⟩ :=
  awl_op rfl (fun a w own r => by
    obtain ⟨b, hb, hv⟩ := (r.ev hp).ptr_inv
    obtain ⟨b', vals, e1, e2, e3, e4⟩ := ob_cells r hk
    rw [hb] at e1
    injection e1 with e1; injection e1 with e1; injection e1 with e1
    subst e1
    obtain ⟨us, hu1, hu2, hu3, hu4⟩ := (r.ev hx).ce hl
    have hs : l.length = sz := Nat.eq_of_beq_eq_true hsz
    have hfit := (ovr_spec ho).2
    have hst := run_storeCells_at P b off T0 us 0 vals.toArray w e2 (by simp; omega) hu3
    have hrun : (execOp a.eval ⟨none, .store T p x, ty, pos, aft, none⟩).run P w = .ok .skip (w.setRow b (vals.take off ++ us ++ vals.drop (off + us.length)).toArray) := by
      simp only [execOp, hv, Instr.storeAt, Instr.sureAddr, storeVar, Sem.run_bind, Sem.run_pure, Result.andThen_ok, ti.run_size w]
      rw [hu1]
      have : ¬ us.toArray.size ≠ sz := by simp; omega
      rw [if_neg this]
      simp only [Nat.add_zero] at hst
      rw [hst]
      rfl
    obtain ⟨g1, g2⟩ := ovr_get (R := fun x v => x.cell = true ∧ RepA w (Mu cx.M0 own objs) own (hwOf objs) x v) ho undef e3 hu2 e4 (fun j y hj => ⟨allCell_get hc j y hj, hu4 j y hj⟩)
    exact ⟨undef, _, .inr ⟨hrun, rfl⟩, own, r.setOb (vals.take off ++ us ++ vals.drop (off + us.length)) hk hb g1 g2⟩) kk

/-! new objects -/
/-- A type's zero value: its cells. -/
structure TZ (P : Program) (T : Nat) (zs : List Value) : Prop where
  h : ∃ z, (P.info? T).bind (·.zero) = some z ∧ z.cells = zs.toArray
  one : zs.all (·.oneCell') = true

theorem TZ.run {T : Nat} {zs : List Value} (h : TZ P T zs) (w : World) : ∃ z, (zeroValue T).run P w = .ok z w ∧ z.cells = zs.toArray := by
  obtain ⟨z, h1, h2⟩ := h.h
  cases hq : P.info? T with
  | none => simp [hq] at h1
  | some i => simp [hq] at h1; exact ⟨z, by simp [zeroValue, typeInfo, hq, h1], h2⟩

theorem awl_alloc {T : Nat} {zs : List Value} (tz : TZ P T zs) (hf : fresh d ⟨regs, objs⟩ = true) (h0 : get cx.objs0 d = none) (hd : Nat.blt d n = true)
    (kk : AWl P cx n ops rest Q ⟨(d, .ptr d 0) :: regs, (d, .ce T (zs.map fun v => .p (.v v))) :: objs⟩) : AWl P cx n ops (⟨some d, .alloc T, ty, pos, aft, none⟩ :: rest) Q ⟨regs, objs⟩ :=
  awl_op rfl (fun a w own r => by
    obtain ⟨z, hz, hc⟩ := tz.run w
    have h1 := List.all_eq_true.1 tz.one
    have hcells : ∀ (j : Nat) (x : AV), (zs.map fun v => AV.p (.v v))[j]? = some x → x.cell = true ∧ RepA w (Mu cx.M0 own objs) own (hwOf objs) x (zs.getD j undef) := fun j x hj => by
      simp only [List.getElem?_map, Option.map_eq_some_iff] at hj
      obtain ⟨v, hv, rfl⟩ := hj
      rw [getD_of hv]
      exact ⟨rfl, .scal (h1 v (List.mem_of_getElem? hv))⟩
    have r' := r.newOb d T (zs.map fun v => .p (.v v)) zs hf h0 (by simp) hcells (fun x hx => by
      obtain ⟨v, _, rfl⟩ := List.mem_map.1 hx
      rfl)
    refine ⟨.pointer (some ⟨w.heap.size, 0, none⟩), _, .inl ?_, _, r'.put_same (by simpa using hd) (.ptr (upd_eq _ _ _))⟩
    simp only [execOp, Instr.alloc, newVar, newRow, Sem.run_bind, hz, Result.andThen_ok, Sem.run_pure, run_newObj, hc]
    rfl) kk

theorem awl_box {T : Nat} {x : Operand} {av : AV} {l : List AV} (hx : S.ev ⟨regs, objs⟩ x = some av) (hl : av.ce = some l) (hc : allCell l = true) (hn : AV.noL d l = true)
    (hf : fresh d ⟨regs, objs⟩ = true) (h0 : get cx.objs0 d = none) (hd : Nat.blt d n = true)
    (kk : AWl P cx n ops rest Q ⟨(d, .ptr d 0) :: regs, (d, .ce T l) :: objs⟩) : AWl P cx n ops (⟨some d, .box T x, ty, pos, aft, none⟩ :: rest) Q ⟨regs, objs⟩ :=
  awl_op rfl (fun a w own r => by
    obtain ⟨us, hu1, hu2, hu3, hu4⟩ := (r.ev hx).ce hl
    have r' := r.newOb d T l us hf h0 hu2 (fun j y hj => ⟨allCell_get hc j y hj, hu4 j y hj⟩) (AV.noL_mem hn)
    refine ⟨.pointer (some ⟨w.heap.size, 0, none⟩), _, .inl ?_, _, r'.put_same (by simpa using hd) (.ptr (upd_eq _ _ _))⟩
    simp only [execOp, Instr.box, newVar, newRow, Sem.run_bind, Result.andThen_ok, Sem.run_pure, run_newObj, hu1]
    rfl) kk

/-! slices that are read -/
/-- The rows of a slice's value. -/
def AV.rows : AV → Option (Nat × List (List PV))
  | .p (.sl sz xs) => some (sz, xs)
  | .ts _ sz xs => some (sz, xs)
  | .p (.v (.slice none 0 0)) => some (0, [])
  | _ => none

theorem RepA.rows {w : World} {M : Nat → Nat → Prop} {own : Nat → Value} {hw : Nat → Option Nat} {av : AV} {v : Value} {sz : Nat} {xs : List (List PV)} (h : RepA w M own hw av v) (hr : av.rows = some (sz, xs)) : Rep w M (.sl sz xs) v := by
  unfold AV.rows at hr
  split at hr
  · cases hr
    cases h with
    | p h => exact h
  · cases hr
    cases h with
    | ts h _ => exact h
  · cases hr
    have := h.val
    subst this
    exact .nil
  · cases hr

theorem Rep.sl_len {w : World} {M : Nat → Nat → Prop} {sz : Nat} {xs : List (List PV)} {v : Value} (h : Rep w M (.sl sz xs) v) : ∃ a cap, v = .slice a xs.length cap ∧ xs.length ≤ cap ∧ cap ≤ 9223372036854775807 := by
  cases h with
  | nil => exact ⟨none, 0, rfl, by simp, by simp⟩
  | sl a cap f h1 h2 => exact ⟨some a, cap, rfl, h1, h2⟩

/-- The element i, as an address. -/
def rowAt (xs : List (List PV)) (i : Int) : List PV := xs.getD i.toNat []

structure SI (P : Program) (T E : Nat) : Prop where
  h : P.underlying T = some (.slice E)

theorem awl_index {T E sz esz : Nat} {ag : Bool} {x y : Operand} {av : AV} {xs : List (List PV)} {kd : IntKind} {i : Int} (si : SI P T E) (ti : TI P E esz ag) (hx : S.ev ⟨regs, objs⟩ x = some av) (hr : av.rows = some (sz, xs)) (he : Nat.beq sz esz = true)
    (hy : S.ev ⟨regs, objs⟩ y = some (.p (.v (.int kd i)))) (h0 : 0 ≤ i) (h1 : i < (xs.length : Int)) (hd : Nat.blt d n = true)
    (kk : AWl P cx n ops rest Q ⟨(d, .p (.ip (rowAt xs i))) :: regs, objs⟩) : AWl P cx n ops (⟨some d, .indexAddr T x y, ty, pos, aft, none⟩ :: rest) Q ⟨regs, objs⟩ :=
  awl_val (.p (.ip (rowAt xs i))) rfl rfl (by simpa using hd) (fun a w own r => by
    have h := (r.ev hx).rows hr
    have hv := (r.ev hy).val
    obtain rfl : sz = esz := Nat.eq_of_beq_eq_true he
    generalize ha : a.eval x = v at h
    have hlt : i.toNat < xs.length := by omega
    cases h with
    | nil => simp at hlt
    | sl ad cap f hcap hmax hrow hcell hM hx' =>
      have hg : xs[i.toNat]? = some (rowAt xs i) := by unfold rowAt; rw [List.getD_eq_getElem?_getD, List.getElem?_eq_getElem hlt]; rfl
      refine ⟨.pointer (some (ad.add (i.toNat * sz))), ?_, .p (.ip _ (f i.toNat) (fun j z hj => ?_) (fun j z hj => ?_) (fun j z hj => hx' _ _ j z hg hj))⟩
      · have hel : P.underlying T = some (.slice (P.elem T)) := by simp [Program.elem, si.h]
        have hel' : P.elem T = E := by simp [Program.elem, si.h]
        simp only [execOp, ha, hv, Sem.run_bind]
        rw [run_indexAt_slice w T ad xs.length cap kd i hel, if_pos ⟨h0, h1⟩, hel', ti.run_size w]
        rfl
      · rw [add_add']; exact hcell _ _ j z hg hj
      · rw [(add_eq ad _).1, (add_eq ad _).2, Nat.add_assoc]; exact hM _ _ j z hg hj) kk

theorem awl_len {T E rty : Nat} {x : Operand} {av : AV} {sz : Nat} {xs : List (List PV)} (si : SI P T E) (hx : S.ev ⟨regs, objs⟩ x = some av) (hr : av.rows = some (sz, xs)) (hd : Nat.blt d n = true)
    (kk : AWl P cx n ops rest Q ⟨(d, .p (I xs.length)) :: regs, objs⟩) :
    AWl P cx n ops (⟨some d, .call ⟨.builtin .len, #[x], #[T]⟩, rty, pos, aft, none⟩ :: rest) Q ⟨regs, objs⟩ :=
  awl_val (.p (I xs.length)) rfl rfl (by simpa using hd) (fun a w own r => by
    obtain ⟨ad, cap, hv, _, _⟩ := ((r.ev hx).rows hr).sl_len
    have hel : P.underlying T = some (.slice (P.elem T)) := by simp [Program.elem, si.h]
    refine ⟨.int .i64 xs.length, ?_, .scal rfl⟩
    simp only [execOp, resolve, invoke, builtin, Sem.run_bind, Sem.run_pure, Result.andThen_ok, List.map_toArray, List.map_cons, List.map_nil, hv]
    rw [run_len_slice w T rty ad xs.length cap hel]
    rfl) kk

theorem awl_len_str {T rty : Nat} {x : Operand} {s : ByteArray} (si : P.underlying T = some .string) (hx : S.ev ⟨regs, objs⟩ x = some (.p (St s))) (hd : Nat.blt d n = true)
    (kk : AWl P cx n ops rest Q ⟨(d, .p (I s.size)) :: regs, objs⟩) :
    AWl P cx n ops (⟨some d, .call ⟨.builtin .len, #[x], #[T]⟩, rty, pos, aft, none⟩ :: rest) Q ⟨regs, objs⟩ :=
  awl_val (.p (I s.size)) rfl rfl (by simpa using hd) (fun a w own r => by
    have hv := (r.ev hx).val
    refine ⟨.int .i64 s.size, ?_, .scal rfl⟩
    simp only [execOp, resolve, invoke, builtin, Sem.run_bind, Sem.run_pure, Result.andThen_ok, List.map_toArray, List.map_cons, List.map_nil, hv]
    simp [Builtin.len_, run_underlying si, goInt]) kk

/-- max and min of whole numbers, two at a time. -/
theorem awl_max {rty : Nat} {x y : Operand} {k : IntKind} {p q : Int} {ts : Array Nat} (hx : S.ev ⟨regs, objs⟩ x = some (.p (.v (.int k p)))) (hy : S.ev ⟨regs, objs⟩ y = some (.p (.v (.int k q)))) (hd : Nat.blt d n = true)
    (kk : AWl P cx n ops rest Q ⟨(d, .p (.v (.int k (max p q)))) :: regs, objs⟩) :
    AWl P cx n ops (⟨some d, .call ⟨.builtin .max, #[x, y], ts⟩, rty, pos, aft, none⟩ :: rest) Q ⟨regs, objs⟩ :=
  awl_val (.p (.v (.int k (max p q)))) rfl rfl (by simpa using hd) (fun a w own r => by
    have h1 := (r.ev hx).val
    have h2 := (r.ev hy).val
    refine ⟨.int k (max p q), ?_, .scal rfl⟩
    have : (if q > p then q else p) = max p q := by split <;> omega
    simp [execOp, resolve, invoke, builtin, h1, h2, Builtin.max_, Builtin.max2, this]) kk

theorem awl_min {rty : Nat} {x y : Operand} {k : IntKind} {p q : Int} {ts : Array Nat} (hx : S.ev ⟨regs, objs⟩ x = some (.p (.v (.int k p)))) (hy : S.ev ⟨regs, objs⟩ y = some (.p (.v (.int k q)))) (hd : Nat.blt d n = true)
    (kk : AWl P cx n ops rest Q ⟨(d, .p (.v (.int k (min p q)))) :: regs, objs⟩) :
    AWl P cx n ops (⟨some d, .call ⟨.builtin .min, #[x, y], ts⟩, rty, pos, aft, none⟩ :: rest) Q ⟨regs, objs⟩ :=
  awl_val (.p (.v (.int k (min p q)))) rfl rfl (by simpa using hd) (fun a w own r => by
    have h1 := (r.ev hx).val
    have h2 := (r.ev hy).val
    refine ⟨.int k (min p q), ?_, .scal rfl⟩
    have : (if q < p then q else p) = min p q := by split <;> omega
    simp [execOp, resolve, invoke, builtin, h1, h2, Builtin.min_, Builtin.min2, this]) kk
end
end Go.Ab
