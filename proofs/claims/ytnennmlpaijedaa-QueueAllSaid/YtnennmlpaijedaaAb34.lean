/- A call that leaves the objects as they were. -/
import Derived.Test.YtnennmlpaijedaaAb33
set_option linter.unusedVariables false
set_option linter.unusedSectionVars false
set_option linter.unusedSimpArgs false
namespace Go.Ab
open Go Go.RowKit

theorem Le.objsN {P : Program} {cx : Cx} {n : Nat} {regs : List (Nat × AV)} {objs objs' : Obs} (hm : ∀ x, x ∈ objs' → x ∈ objs) (hn : (objs'.map (·.1)).Nodup) : Le P cx n ⟨regs, objs⟩ ⟨regs, objs'⟩ := fun a w ⟨own, r⟩ => by
  obtain ⟨hok, hle⟩ := r.ok.part hm hn cx.M0 (fun b i h => .inl h) (fun k o b hk hb => r.ok.m0 k o b (hm _ hk) hb)
  refine ⟨own, { defs := r.defs, size := r.size, ok := hok, regs := fun t y hy => (r.regs t y hy).part r.ok hm hle, stp := r.stp.less hle, fix := fun k o hk => (r.fix k o hk).trans ?_, fr := ⟨r.fr.keep, fun k o b hk hb => r.fr.loc k o b (hm _ hk) hb, r.fr.size⟩ }⟩
  cases h3 : hwOf objs' k with
  | none => exact .inr (.inl ⟨h3, .inl rfl⟩)
  | some m =>
    obtain ⟨oo, hmm, hwi⟩ := hwOf_some h3
    exact .inl ⟨rfl, by rw [h3, hwOf_of r.ok.keys (hm _ hmm) hwi]⟩

theorem newOK_sel {ks : List Nat} {s : S} {objs0 : Obs} : ∀ {l : Obs}, (∀ p ∈ l, p.1 ∈ (sel ks s.objs).map (·.1)) → newOK ks s objs0 l = true
  | [], _ => rfl
  | (k, o) :: r, h => by
    simp only [newOK, Bool.and_eq_true, Bool.or_eq_true]
    exact ⟨.inl (mem_iff.2 (h (k, o) (List.mem_cons_self ..))), newOK_sel fun p hp => h p (List.mem_cons_of_mem _ hp)⟩

section
variable {P : Program} {cx : Cx} {n : Nat} {Q : Exit → S → Prop} {regs : List (Nat × AV)} {objs : Obs} {ops : Array Oper} {rest : List Oper} {d : Nat} {pos : String} {aft : Array Edge} {ty : Nat}

theorem x_rcall {f : Nat} {l : List Operand} {ts : Array Nat} {avs args : List AV} {sub : Obs} {x : AV} (ks : List Nat) (hf : FB P f) (hx : evs ⟨regs, objs⟩ l = some avs) (hsub : selq ks objs = some sub) (con : Con P f args sub (fun r o => r = x ∧ o = sub)) (hs : Subs avs args) (hd : Nat.blt d n = true)
    (kk : AWl P cx n ops rest Q ⟨(d, x) :: regs, objs⟩) :
    AWl P cx n ops (⟨some d, .call ⟨.value (.func f), l.toArray, ts⟩, ty, pos, aft, none⟩ :: rest) Q ⟨regs, objs⟩ := fun a w ⟨own, r⟩ => by
  have hn := r.ok.keys
  have hse := selq_spec hsub
  refine awl_call ks hf hx hs con hse.symm hd ?_ a w ⟨own, r⟩
  rintro r' objs' ⟨rfl, rfl⟩
  refine ⟨newOK_sel fun p hp => ?_, ?_⟩
  · rw [← hse]; exact List.mem_map_of_mem (f := (·.1)) hp
  · refine awl_le (Le.objsN (fun p hp => ?_) hn) kk
    obtain ⟨k, o⟩ := p
    by_cases h : k ∈ ks
    · exact List.mem_append_left _ (by rw [hse]; exact sel_mem.2 ⟨hp, h⟩)
    · exact List.mem_append_right _ (oth_mem.2 ⟨hp, h⟩)
end
end Go.Ab
