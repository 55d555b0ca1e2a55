/- An object that nobody writes any more; a slice of a whole array. -/
import Derived.Test.YtnennmlpaijedaaAb21
set_option linter.unusedVariables false
set_option linter.unusedSectionVars false
set_option linter.unusedSimpArgs false
namespace Go.Ab
open Go Go.RowKit

theorem Le.ice {P : Program} {cx : Cx} {n : Nat} {regs : List (Nat × AV)} {objs : Obs} {k T t : Nat} {cs : List PV} (hk : get objs k = some (.ce T (cs.map .p))) (ht : get regs t = some (.ptr k 0)) :
    Le P cx n ⟨regs, objs⟩ ⟨(t, .p (.ip cs)) :: regs, oth [k] objs⟩ := fun a w ⟨own, r⟩ => by
  have hmem := get_mem hk
  have hn' : ((oth [k] objs).map (·.1)).Nodup := ((oth_sub [k] objs).map _).nodup r.ok.keys
  have hs : ∀ x, x ∈ oth [k] objs → x ∈ objs := fun x hx => (oth_sub [k] objs).mem hx
  have hok := r.ok.part hs hn' cx.M0 (fun b i h => .inl h) (fun k' o b hk' hb => r.ok.m0 k' o b (hs _ hk') hb)
  obtain ⟨b, vals, e1, e2, e3, e4⟩ := r.ok.obs k _ hmem
  have hw : hwOf objs k = none := by simp [hwOf, hk]
  have hkr : ∀ j, Kr own own (hwOf objs) (hwOf (oth [k] objs)) j := fun j => by
    by_cases e : j = k
    · subst e
      exact .inl ⟨rfl, by rw [hw]; exact hwOf_none fun h => by obtain ⟨⟨_, o⟩, ho, rfl⟩ := List.mem_map.1 h; exact (oth_mem.1 ho).2 (by simp)⟩
    · exact .inl ⟨rfl, hwOf_congr hn' r.ok.keys fun o => by rw [oth_mem]; simp [e]⟩
  have htr : ∀ {x : AV} {v : Value}, RepA w (Mu cx.M0 own objs) own (hwOf objs) x v → RepA w (Mu cx.M0 own (oth [k] objs)) own (hwOf (oth [k] objs)) x v := fun h =>
    h.tr ((Stp.refl w _).less hok.2) fun j _ => hkr j
  refine ⟨own, { defs := r.defs, size := r.size, ok := hok.1, regs := fun u x hx => ?_, stp := r.stp.less hok.2, fix := fun j o hj => (r.fix j o hj).trans (hkr j), fr := r.fr.trans ⟨fun _ _ _ => rfl, fun j o c hj hc => .inl ⟨j, o, hs _ hj, hc⟩, Nat.le_refl _⟩ }⟩
  simp only [get] at hx
  cases hb : Nat.beq t u with
  | false => rw [hb] at hx; exact htr (r.regs u x hx)
  | true =>
    obtain rfl : t = u := Nat.eq_of_beq_eq_true hb
    rw [hb] at hx
    simp at hx
    subst hx
    obtain ⟨b', hb', hv⟩ := (r.regs t _ ht).ptr_inv
    obtain rfl : b = b' := by rw [e1] at hb'; injection hb' with q; injection q with q; injection q
    rw [hv]
    have hlen : vals.length = cs.length := by rw [e3, List.length_map]
    refine .p (.ip ⟨b, 0, none⟩ (fun j => vals.getD j undef) (fun j x hj => ?_) (fun j x hj => ?_) (fun j x hj => ?_))
    · rw [add_at, Nat.zero_add]
      have hlt : j < vals.length := by rw [hlen]; exact (List.getElem?_eq_some_iff.1 hj).1
      simp [World.cell?, e2, hlt, List.getD_eq_getElem?_getD]
    · rintro (h | ⟨k', o, hk', hm⟩)
      · exact r.ok.m0 k _ b hmem (by rw [e1]; rfl) _ h
      · have := oth_mem.1 hk'
        exact r.ok.inj k _ k' o hmem this.1 (fun e => this.2 (by simp [e])) b (by rw [e1]; rfl) (mutOf_blk hm)
    · have := (e4 j (.p x) (by simp [hj])).2
      cases htr this with
      | p h => exact h

theorem awp_ice {P : Program} {cx : Cx} {n : Nat} {regs : List (Nat × AV)} {objs objs' : Obs} {c : Code} {Q : Exit → S → Prop} (k t : Nat) {T : Nat} {cs : List PV} (hk : get objs k = some (.ce T (cs.map .p))) (ht : get regs t = some (.ptr k 0)) (ho : oth [k] objs = objs')
    (h : AWp P cx n c Q ⟨(t, .p (.ip cs)) :: regs, objs'⟩) : AWp P cx n c Q ⟨regs, objs⟩ := awp_le (Le.ice hk ht) (ho ▸ h)

section
variable {P : Program} {cx : Cx} {n : Nat} {Q : Exit → S → Prop} {regs : List (Nat × AV)} {objs : Obs} {ops : Array Oper} {rest : List Oper} {d : Nat} {pos : String} {aft : Array Edge} {ty : Nat}

theorem x_whole {T m E : Nat} {x : Operand} {cs : List PV} (ai : AI P T m E) (ti : TI P E 1 false) (hx : S.ev ⟨regs, objs⟩ x = some (.p (.ip cs))) (hl : Nat.beq cs.length m = true) (hm : Nat.ble m 1000000 = true) (hd : Nat.blt d n = true)
    (kk : AWl P cx n ops rest Q ⟨(d, .p (.sl 1 (cs.map fun c => [c]))) :: regs, objs⟩) :
    AWl P cx n ops (⟨some d, .slice T x none none none, ty, pos, aft, none⟩ :: rest) Q ⟨regs, objs⟩ :=
  awl_val (.p (.sl 1 (cs.map fun c => [c]))) rfl rfl (by simpa using hd) (fun a w own r => by
    obtain ⟨ad, f, hv, h1, h2, h3⟩ := Rep.ip_inv (r.ev hx)
    have e1 : P.arrayLen T = m := by simp [Program.arrayLen, ai.h]
    have e2 : P.elem T = E := by simp [Program.elem, ai.h]
    have hu : P.underlying T = some (.array (P.arrayLen T) (P.elem T)) := by rw [e1, e2]; exact ai.h
    have hlen := Nat.eq_of_beq_eq_true hl
    have hm' : m ≤ 1000000 := Nat.le_of_ble_eq_true hm
    refine ⟨.slice (some ad) m m, ?_, .p ?_⟩
    · simp only [execOp, hv, Sem.run_bind, Option.map_none]
      rw [run_sliceAt_array_all w T ad hu, e1, e2, ti.run_size w]
      simp only [Result.andThen_ok, Sem.run_pure, slicedAt, Nat.zero_mul, Nat.sub_zero]
      have : ad.add 0 = ad := by simp [Addr.add]
      simp [this]
    · have hrow : ∀ (i : Nat) (row : List PV), (cs.map fun c => [c])[i]? = some row → ∃ x, cs[i]? = some x ∧ row = [x] := fun i row h => by
        rw [List.getElem?_map] at h
        obtain ⟨x, hx, e⟩ := Option.map_eq_some_iff.1 h
        exact ⟨x, hx, e.symm⟩
      have hj : ∀ {row : List PV} {y z : PV} {j : Nat}, row = [y] → row[j]? = some z → j = 0 ∧ z = y := fun e h => by
        subst e
        rename_i j
        cases j with
        | zero => simp at h; exact ⟨rfl, h.symm⟩
        | succ j => simp at h
      have key : Rep w (Mu cx.M0 own objs) (.sl 1 (cs.map fun c => [c])) (.slice (some ad) (cs.map fun c => [c]).length m) := by
        refine .sl ad m (fun i _ => f i) (by simp [hlen]) (by omega) (fun i row h => ?_) (fun i row j x h hx => ?_) (fun i row j x h hx => ?_) (fun i row j x h hx => ?_)
        · obtain ⟨y, _, e⟩ := hrow i row h; rw [e]; rfl
        · obtain ⟨y, hy, e⟩ := hrow i row h
          obtain ⟨rfl, rfl⟩ := hj e hx
          rw [Nat.mul_one, Nat.add_zero]; exact h1 i _ hy
        · obtain ⟨y, hy, e⟩ := hrow i row h
          obtain ⟨rfl, rfl⟩ := hj e hx
          rw [Nat.mul_one, Nat.add_zero]; exact h2 i _ hy
        · obtain ⟨y, hy, e⟩ := hrow i row h
          obtain ⟨rfl, rfl⟩ := hj e hx
          exact h3 i _ hy
      rw [List.length_map, hlen] at key
      exact key) kk
end
end Go.Ab
