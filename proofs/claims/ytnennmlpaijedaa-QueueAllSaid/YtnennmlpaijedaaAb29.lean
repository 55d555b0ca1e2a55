/- From nil to a slice whose elements may be written; interfaces; methods. -/
import Derived.Test.YtnennmlpaijedaaAb28
set_option linter.unusedVariables false
set_option linter.unusedSectionVars false
set_option linter.unusedSimpArgs false
namespace Go.Ab
open Go Go.RowKit

theorem Sub.tstm {k sz : Nat} : Sub (.ts k sz []) (.tm k 0) := fun w M own hw v h => by
  cases h with
  | ts h ho => exact .tm h.one fun n hn => ⟨Nat.zero_le _, fun e => (ho n hn).2 (by simpa using e)⟩

/-- An own slice without elements, of which elements may be written from now on. -/
theorem Le.arMu {P : Program} {cx : Cx} {n : Nat} {regs : List (Nat × AV)} {objs objs' : Obs} {k T sz : Nat} (hk : get objs k = some (.ar T sz 0)) (hq : setq objs k (.mu T sz 0 []) = some objs') :
    Le P cx n ⟨regs, objs⟩ ⟨regs, objs'⟩ := fun a w ⟨own, r⟩ => by
  have hmem := get_mem hk
  rw [setq_spec hq]
  have hMu : Mu cx.M0 own (setO objs k (.mu T sz 0 [])) = Mu cx.M0 own objs := by
    funext b i
    apply propext
    constructor
    · rintro (h | ⟨j, o, hj, hm⟩)
      · exact .inl h
      · rcases setO_mem r.ok.keys hj with ⟨rfl, rfl⟩ | ⟨_, h⟩
        · exact .inr ⟨j, _, hmem, hm, by simp⟩
        · exact .inr ⟨j, o, h, hm⟩
    · rintro (h | ⟨j, o, hj, hm⟩)
      · exact .inl h
      · by_cases e : j = k
        · subst e
          have := get_of_mem r.ok.keys hj
          rw [hk] at this
          cases this
          exact .inr ⟨j, _, setO_mem_eq hk, hm.1⟩
        · exact .inr ⟨j, o, setO_mem_ne e hj, hm⟩
  have hhw : hwOf (setO objs k (.mu T sz 0 [])) = hwOf objs := by
    funext j
    unfold hwOf
    rw [get_setO]
    cases hb : Nat.beq k j with
    | true => obtain rfl : k = j := Nat.eq_of_beq_eq_true hb; simp [hk]
    | false => simp
  have hget : ∀ {j o}, (j, o) ∈ setO objs k (.mu T sz 0 []) → ∃ o', (j, o') ∈ objs := fun {j o} hj => by
    rcases setO_mem r.ok.keys hj with ⟨rfl, _⟩ | ⟨_, h⟩
    · exact ⟨_, hmem⟩
    · exact ⟨_, h⟩
  refine ⟨own, { defs := r.defs, size := r.size, ok := ?_, regs := fun t x hx => by rw [hMu, hhw]; exact r.regs t x hx, stp := by rw [hMu]; exact r.stp, fix := fun j o hj => by rw [hhw]; exact r.fix j o hj, fr := r.fr.trans ⟨fun _ _ _ => rfl, fun j o b hj hb => ?_, Nat.le_refl _⟩ }⟩
  · refine { obs := fun j o hj => ?_, keys := by rw [setO_keys]; exact r.ok.keys, inj := fun j o j' o' hj hj' => ?_, m0 := fun j o b hj => ?_, m0old := r.ok.m0old }
    · rw [hMu, hhw]
      rcases setO_mem r.ok.keys hj with ⟨rfl, rfl⟩ | ⟨_, h⟩
      · obtain ⟨cells, hc⟩ := r.ok.obs j _ hmem
        exact ⟨cells, hc, by simp, by simp⟩
      · exact r.ok.obs j o h
    · obtain ⟨q, hq⟩ := hget hj
      obtain ⟨q', hq'⟩ := hget hj'
      exact r.ok.inj j q j' q' hq hq'
    · obtain ⟨q, hq⟩ := hget hj
      exact r.ok.m0 j q b hq
  · obtain ⟨q, hq⟩ := hget hj
    exact .inl ⟨j, q, hq, hb⟩

/-- A cell told as another value. -/
theorem Le.cell {P : Program} {cx : Cx} {n : Nat} {regs : List (Nat × AV)} {objs objs' : Obs} {q T : Nat} {cs cs' : List AV} (hk : get objs q = some (.ce T cs)) (hs : Subs cs cs') (hc : allCell cs' = true) (hq : setq objs q (.ce T cs') = some objs') :
    Le P cx n ⟨regs, objs⟩ ⟨regs, objs'⟩ := fun a w ⟨own, r⟩ => by
  have hmem := get_mem hk
  rw [setq_spec hq]
  have hlen : cs'.length = cs.length := by
    clear hk hc hq hmem
    induction hs with
    | nil => rfl
    | cons _ _ ih => simp [ih]
  have hsub : ∀ (j : Nat) (y : AV), cs'[j]? = some y → ∃ x, cs[j]? = some x ∧ Sub x y := by
    clear hk hc hq hmem hlen
    induction hs with
    | nil => intro j y h; simp at h
    | cons h1 _ ih =>
      intro j y hj
      cases j with
      | zero => simp at hj; subst hj; exact ⟨_, rfl, h1⟩
      | succ j => simpa using ih j y (by simpa using hj)
  have hMu : Mu cx.M0 own (setO objs q (.ce T cs')) = Mu cx.M0 own objs := by
    funext b i
    apply propext
    constructor
    · rintro (h | ⟨j, o, hj, hm⟩)
      · exact .inl h
      · rcases setO_mem r.ok.keys hj with ⟨rfl, rfl⟩ | ⟨_, h⟩
        · exact .inr ⟨j, _, hmem, hm⟩
        · exact .inr ⟨j, o, h, hm⟩
    · rintro (h | ⟨j, o, hj, hm⟩)
      · exact .inl h
      · by_cases e : j = q
        · subst e
          have := get_of_mem r.ok.keys hj
          rw [hk] at this
          cases this
          exact .inr ⟨j, _, setO_mem_eq hk, hm⟩
        · exact .inr ⟨j, o, setO_mem_ne e hj, hm⟩
  have hhw : hwOf (setO objs q (.ce T cs')) = hwOf objs := by funext j; exact hwOf_setO_ce hk j
  have hget : ∀ {j o}, (j, o) ∈ setO objs q (.ce T cs') → ∃ o', (j, o') ∈ objs := fun {j o} hj => by
    rcases setO_mem r.ok.keys hj with ⟨rfl, _⟩ | ⟨_, h⟩
    · exact ⟨_, hmem⟩
    · exact ⟨_, h⟩
  refine ⟨own, { defs := r.defs, size := r.size, ok := ?_, regs := fun t x hx => by rw [hMu, hhw]; exact r.regs t x hx, stp := by rw [hMu]; exact r.stp, fix := fun j o hj => by rw [hhw]; exact r.fix j o hj, fr := r.fr.trans ⟨fun _ _ _ => rfl, fun j o b hj hb => ?_, Nat.le_refl _⟩ }⟩
  · refine { obs := fun j o hj => ?_, keys := by rw [setO_keys]; exact r.ok.keys, inj := fun j o j' o' hj hj' => ?_, m0 := fun j o b hj => ?_, m0old := r.ok.m0old }
    · rw [hMu, hhw]
      rcases setO_mem r.ok.keys hj with ⟨rfl, rfl⟩ | ⟨_, h⟩
      · obtain ⟨b, vals, e1, e2, e3, e4⟩ := r.ok.obs j _ hmem
        refine ⟨b, vals, e1, e2, by rw [e3, hlen], fun i y hi => ⟨allCell_get hc i y hi, ?_⟩⟩
        obtain ⟨x, hx, hxy⟩ := hsub i y hi
        exact hxy _ _ _ _ _ (e4 i x hx).2
      · exact r.ok.obs j o h
    · obtain ⟨p, hp⟩ := hget hj
      obtain ⟨p', hp'⟩ := hget hj'
      exact r.ok.inj j p j' p' hp hp'
    · obtain ⟨p, hp⟩ := hget hj
      exact r.ok.m0 j p b hp
  · obtain ⟨p, hp⟩ := hget hj
    exact .inl ⟨j, p, hp, hb⟩

/-- A method of pointers. -/
structure MI (P : Program) (T : Nat) (name : String) (f : Nat) : Prop where
  h : ∀ (w : World) (b o : Nat) (args : Array Value), (callMethod (.iface T (.pointer (some ⟨b, o, none⟩))) name args).run P w = .ok (.enter f (#[.pointer (some ⟨b, o, none⟩)] ++ args)) w

section
variable {P : Program} {cx : Cx} {n : Nat} {Q : Exit → S → Prop} {regs : List (Nat × AV)} {objs : Obs} {ops : Array Oper} {rest : List Oper} {d : Nat} {pos : String} {aft : Array Edge} {ty : Nat}

theorem awl_mkifc {T : Nat} {x : Operand} {av : AV} (hT : P.concrete T = true) (hx : S.ev ⟨regs, objs⟩ x = some av) (hd : Nat.blt d n = true) (kk : AWl P cx n ops rest Q ⟨(d, .ifc T av) :: regs, objs⟩) :
    AWl P cx n ops (⟨some d, .makeInterface T x, ty, pos, aft, none⟩ :: rest) Q ⟨regs, objs⟩ :=
  awl_val (.ifc T av) rfl rfl (by simpa using hd) (fun a w own r => by
    refine ⟨.iface T (a.eval x), ?_, .ifc (r.ev hx)⟩
    simp only [execOp, Sem.run_bind, run_makeInterface w T _ hT, Result.andThen_ok, Sem.run_pure]) kk

/-- The text of a type assertion that holds. -/
theorem awl_assert {T X : Nat} {x : Operand} {av : AV} (hT : P.concrete T = true) (hx : S.ev ⟨regs, objs⟩ x = some (.ifc T av)) (hd : Nat.blt d n = true) (kk : AWl P cx n ops rest Q ⟨(d, .tp [av, .p (B true)]) :: regs, objs⟩) :
    AWl P cx n ops (⟨some d, .typeAssert x X T true, ty, pos, aft, none⟩ :: rest) Q ⟨regs, objs⟩ :=
  awl_val (.tp [av, .p (B true)]) rfl rfl (by simpa using hd) (fun a w own r => by
    have h := r.ev hx
    generalize hv : a.eval x = v at h
    cases h with
    | ifc h =>
      rename_i u
      refine ⟨.tuple [u, .bool true].toArray, ?_, .tp [u, .bool true] rfl fun j y hj => ?_⟩
      · have hc : (Instr.typeAssert (.iface T u) X T true).run P w = .ok (.tuple #[u, .bool true]) w := by
          unfold Program.concrete at hT
          cases hq : P.underlying T with
          | none => simp [hq] at hT
          | some dd => cases dd <;> first | (simp [hq] at hT; done) | simp [Instr.typeAssert, run_underlying hq]
        simp only [execOp, hv, Sem.run_bind, hc, Result.andThen_ok, Sem.run_pure]
      · match j with
        | 0 => simp at hj; subst hj; exact h
        | 1 => simp at hj; subst hj; exact .scal rfl
        | j + 2 => simp at hj) kk

/-- A method is called through an interface. -/
theorem awl_invoke {T f k off : Nat} {name : String} {rc : Operand} {l : List Operand} {ts : Array Nat} (mi : MI P T name f) (hf : FB P f) (hr : S.ev ⟨regs, objs⟩ rc = some (.ifc T (.ptr k off))) (hd0 : Nat.blt d n = true)
    {avs args : List AV} {sub : Obs} {R : AV → Obs → Prop} (ks : List Nat) (hx : evs ⟨regs, objs⟩ l = some avs) (hs : Subs (.ptr k off :: avs) args) (con : Con P f args sub R) (hsub : sel ks objs = sub)
    (kk : ∀ r objs', R r objs' → newOK ks ⟨regs, objs⟩ cx.objs0 objs' = true ∧ AWl P cx n ops rest Q ⟨(d, r) :: regs, objs' ++ oth ks objs⟩) :
    AWl P cx n ops (⟨some d, .call ⟨.invoke rc name, l.toArray, ts⟩, ty, pos, aft, none⟩ :: rest) Q ⟨regs, objs⟩ := fun a w ⟨own, r⟩ => by
  refine wpList_plain rfl fun K hK => ?_
  unfold Oper.wp
  have hrv : ∃ b, own k = .pointer (some ⟨b, 0, none⟩) ∧ a.eval rc = .iface T (.pointer (some ⟨b, off, none⟩)) := by
    have h := r.ev hr
    generalize a.eval rc = v at h
    cases h with
    | ifc h =>
      obtain ⟨b, hb, hv⟩ := h.ptr_inv
      exact ⟨b, hb, by rw [hv]⟩
  obtain ⟨b, hb, hrv⟩ := hrv
  have hrun : (execOp a.eval ⟨some d, .call ⟨.invoke rc name, l.toArray, ts⟩, ty, pos, aft, none⟩).run P w = .ok (.enter f (.pointer (some ⟨b, off, none⟩) :: l.map a.eval).toArray) w := by
    simp only [execOp, resolve, Sem.run_bind, Sem.run_pure, Result.andThen_ok, invoke, hrv]
    have e1 : (#[Value.iface T (.pointer (some ⟨b, off, none⟩))] ++ l.toArray.map a.eval)[0]? = some (Value.iface T (.pointer (some ⟨b, off, none⟩))) := by simp
    have e2 : (#[Value.iface T (.pointer (some ⟨b, off, none⟩))] ++ l.toArray.map a.eval).extract 1 (#[Value.iface T (.pointer (some ⟨b, off, none⟩))] ++ l.toArray.map a.eval).size = (l.map a.eval).toArray := by
      simp
      exact List.take_of_length_le (by simp)
    simp only [e1, e2]
    rw [mi.h w b off]
    simp
  rw [hrun, Oper.upon_enter]
  subst hsub
  have hMe : Mu (fun b i => cx.M0 b i ∨ ∃ k o, (k, o) ∈ oth ks objs ∧ mutOf o (own k) b i) own (sel ks objs) = Mu cx.M0 own objs := by
    funext b i
    apply propext
    constructor
    · rintro ((h | ⟨k, o, hk, hm⟩) | ⟨k, o, hk, hm⟩)
      · exact .inl h
      · exact .inr ⟨k, o, (oth_mem.1 hk).1, hm⟩
      · exact .inr ⟨k, o, (sel_mem.1 hk).1, hm⟩
    · rintro (h | ⟨k, o, hk, hm⟩)
      · exact .inl (.inl h)
      · by_cases h : k ∈ ks
        · exact .inr ⟨k, o, sel_mem.2 ⟨hk, h⟩, hm⟩
        · exact .inl (.inr ⟨k, o, oth_mem.2 ⟨hk, h⟩, hm⟩)
  have hok := r.ok.part (fun x h => (sel_sub ks objs).subset h) (((sel_sub ks objs).map _).nodup r.ok.keys) (fun b i => cx.M0 b i ∨ ∃ k o, (k, o) ∈ oth ks objs ∧ mutOf o (own k) b i)
    (fun b i h => by
      rcases h with h | ⟨k, o, hk, hm⟩
      · exact .inl h
      · exact .inr ⟨k, o, (oth_mem.1 hk).1, hm⟩)
    (fun k o b hk hb i h => by
      rcases h with h | ⟨k', o', hk', hm⟩
      · exact r.ok.m0 k o b (sel_mem.1 hk).1 hb i h
      · have h1 := sel_mem.1 hk
        have h2 := oth_mem.1 hk'
        exact r.ok.inj k o k' o' h1.1 h2.1 (fun e => h2.2 (e ▸ h1.2)) b hb (mutOf_blk hm))
  have hargs : ArgsOK w (Mu cx.M0 own objs) own (hwOf objs) args (.pointer (some ⟨b, off, none⟩) :: l.map a.eval) := by
    cases hs with
    | cons h1 h2 =>
      have h3 := evs_ok r hx h2
      refine ⟨by simp [h3.1], fun j x hj => ?_⟩
      cases j with
      | zero => simp at hj; subst hj; exact h1 _ _ _ _ _ (.ptr hb)
      | succ j => simpa using h3.2 j x (by simpa using hj)
  have harg' : ArgsOK w (Mu (fun b i => cx.M0 b i ∨ ∃ k o, (k, o) ∈ oth ks objs ∧ mutOf o (own k) b i) own (sel ks objs)) own (hwOf (sel ks objs)) args (.pointer (some ⟨b, off, none⟩) :: l.map a.eval) :=
    ⟨hargs.1, fun j x hj => (hargs.2 j x hj).part r.ok (fun x h => (sel_sub ks objs).subset h) hok.2⟩
  refine (con w _ own _ hok.1 harg').mono ?_
  rintro e w' ⟨x, objs', own', v, rfl, hR, h1, h2, h3, h4, h5, h6⟩
  obtain ⟨hnew, k2⟩ := kk x objs' hR
  rw [hMe] at h3
  obtain ⟨own'', r''⟩ := r.called ks (by simpa using hd0) hnew h1 h2 h3 h4 h5 h6
  exact hK _ _ (k2 _ _ ⟨own'', r''⟩)
end
end Go.Ab
