/- Writing over memory of which only its form is known. -/
import Derived.Test.YtnennmlpaijedaaAb25
set_option linter.unusedVariables false
set_option linter.unusedSectionVars false
set_option linter.unusedSimpArgs false
namespace Go.Ab
open Go Go.RowKit

/-- What has turned from w to w', but for what lies between lo and hi. -/
structure Wr (lo hi : Nat) (w : World) (own : Nat → Value) (objs : Obs) (w' : World) (own' : Nat → Value) (objs' : Obs) : Prop where
  os : w'.os = w.os
  tape : w'.tape = w.tape
  output : w'.output = w.output
  size : w.heap.size ≤ w'.heap.size
  keep : ∀ b, b < w.heap.size → b < lo ∨ hi ≤ b → (∀ k o, (k, o) ∈ objs → blk (own k) ≠ some b) → w'.heap[b]? = w.heap[b]?
  loc : ∀ k o b, (k, o) ∈ objs' → blk (own' k) = some b → (∃ k' o', (k', o') ∈ objs ∧ blk (own k') = some b) ∨ w.heap.size ≤ b
  shape : ∀ (b : Nat) (cs : Array Value) (T : Nat), w.heap[b]? = some (Obj.cells cs T (0, 0)) → ∃ cs' : Array Value, w'.heap[b]? = some (Obj.cells cs' T (0, 0))

theorem Wr.trans {lo hi : Nat} {w w1 w2 : World} {own own1 own2 : Nat → Value} {objs objs1 objs2 : Obs} (h : Wr lo hi w own objs w1 own1 objs1) (k : Wr lo hi w1 own1 objs1 w2 own2 objs2) : Wr lo hi w own objs w2 own2 objs2 where
  os := k.os.trans h.os
  tape := k.tape.trans h.tape
  output := k.output.trans h.output
  size := Nat.le_trans h.size k.size
  keep b hb hj hn := by
    rw [k.keep b (Nat.lt_of_lt_of_le hb h.size) hj (fun j o hj' he => ?_), h.keep b hb hj hn]
    rcases h.loc j o b hj' he with ⟨j', o', h1, h2⟩ | h1
    · exact hn j' o' h1 h2
    · omega
  loc j o b hj he := by
    rcases k.loc j o b hj he with ⟨j', o', h1, h2⟩ | h1
    · exact h.loc j' o' b h1 h2
    · exact .inr (Nat.le_trans h.size h1)
  shape b cs T hb := by
    obtain ⟨cs', h'⟩ := h.shape b cs T hb
    exact k.shape b cs' T h'

theorem Wr.of_rl {P : Program} {cx : Cx} {n : Nat} {s : S} {a : Act} {w : World} {own : Nat → Value} (lo hi : Nat) (r : Rl P cx n s a w own) : Wr lo hi cx.w0 cx.own0 cx.objs0 w own s.objs :=
  ⟨r.stp.os, r.stp.tape, r.stp.output, r.stp.size, fun b hb _ hn => r.fr.keep b hb hn, r.fr.loc, r.stp.shape⟩
theorem Wr.of_ws {lo hi : Nat} {I : World → Prop} {w w' : World} (own : Nat → Value) (objs : Obs) (h : WS lo hi I w w') : Wr lo hi w own objs w' own objs :=
  ⟨h.os, h.tape, h.output, h.size, fun b hb hj _ => h.keep b hb hj, fun k o b hk hb => .inl ⟨k, o, hk, hb⟩, h.shape⟩
theorem Wr.ws {lo hi : Nat} {I : World → Prop} {w w' : World} {own own' : Nat → Value} {objs' : Obs} (h : Wr lo hi w own [] w' own' objs') (hi' : I w') : WS lo hi I w w' :=
  ⟨h.os, h.tape, h.output, h.size, fun b hb hj => h.keep b hb hj (fun _ _ hk => by cases hk), h.shape, hi'⟩

/-- The state lives on, where a step has written over that memory. -/
theorem Rl.wiped {P : Program} {cx : Cx} {n : Nat} {regs : List (Nat × AV)} {objs : Obs} {a : Act} {w w' : World} {own : Nat → Value} {lo hi : Nat} {I' : World → Prop} (r : Rl P cx n ⟨regs, objs⟩ a w own) (hM : ∀ b i, lo ≤ b → b < hi → cx.M0 b i) (ws : WS lo hi I' w w') :
    Rl P ⟨w', cx.M0, own, objs⟩ n ⟨regs, objs⟩ a w' own := by
  have hst : Stp w (Mu cx.M0 own objs) w' (Mu cx.M0 own objs) :=
    { os := ws.os, tape := ws.tape, output := ws.output, size := ws.size, shape := ws.shape, mu := fun b i h => .inl h
      cell := fun b i u hm hu => by
        have hlt := World.block_lt_of_cell? w _ hu
        rw [World.cell?_of_block (w := w) (ws.keep b hlt (by
          by_cases h1 : lo ≤ b
          · by_cases h2 : b < hi
            · exact absurd (Or.inl (hM b i h1 h2)) hm
            · exact .inr (by omega)
          · exact .inl (by omega)))]; exact hu }
  have hfar : ∀ k o b, (k, o) ∈ objs → blk (own k) = some b → w'.heap[b]? = w.heap[b]? := fun k o b hk hb =>
    ws.keep b (blk_lt r.ok hk hb) (by
      by_cases h1 : lo ≤ b
      · by_cases h2 : b < hi
        · exact absurd (hM b 0 h1 h2) (r.ok.m0 k o b hk hb 0)
        · exact .inr (by omega)
      · exact .inl (by omega))
  exact Rl.start r.defs r.size (r.ok.later hfar hst (fun k o b hk hb i h => r.ok.m0 k o b hk hb i h) (fun b i h => Nat.lt_of_lt_of_le (r.ok.m0old b i h) ws.size)) fun t x hx => (r.regs t x hx).tr_same hst

section
variable {P : Program} {cx : Cx} {n : Nat} {K : MPost} {regs : List (Nat × AV)} {objs : Obs} {ops : Array Oper} {rest : List Oper} {d : Nat} {pos : String} {aft : Array Edge} {ty f : Nat} {l : List Operand} {ts : Array Nat} {lo hi : Nat}

theorem awlM_callW {x0 : Operand} {k m : Int} {V : Value} {I' : World → World → Prop} (hf : FB P f) (hV : S.ev ⟨regs, objs⟩ x0 = some (.ag [.p (I k), .p (I m), .p (.v V)])) (hM : ∀ b i, lo ≤ b → b < hi → cx.M0 b i) (hd : Nat.blt d n = true)
    (hw : ∀ a w own, Rl P cx n ⟨regs, objs⟩ a w own → Calls P f #[.agg #[.int .i64 k, .int .i64 m, V]] w fun e w' => e = .returned (.tuple #[]) ∧ WS lo hi (I' w) w w')
    (kk : ∀ a w own w', Rl P cx n ⟨regs, objs⟩ a w own → WS lo hi (I' w) w w' → AWlM P ⟨w', cx.M0, own, objs⟩ n ops rest K ⟨(d, .tp []) :: regs, objs⟩) :
    AWlM P cx n ops (⟨some d, .call ⟨.value (.func f), #[x0], ts⟩, ty, pos, aft, none⟩ :: rest) K ⟨regs, objs⟩ := fun a w ⟨own, r⟩ => by
  refine wpList_plain rfl fun KK hK => ?_
  unfold Oper.wp
  rw [show (#[x0] : Array Operand) = [x0].toArray from rfl, run_enter hf, Oper.upon_enter]
  have hv : a.eval x0 = .agg #[.int .i64 k, .int .i64 m, V] := by
    have hv := r.ev hV
    generalize a.eval x0 = v at hv
    cases hv with
    | ag vs hl hone hel =>
      have g0 := (hel 0 _ rfl).val
      have g1 := (hel 1 _ rfl).val
      have g2 := (hel 2 _ rfl).val
      match vs, hl with
      | [p, q, u], _ => simp at g0 g1 g2; subst g0 g1 g2; rfl
  rw [show ([x0].map a.eval).toArray = #[a.eval x0] from rfl, hv]
  refine (hw a w own r).mono ?_
  rintro e w' ⟨rfl, ws⟩
  have r' := r.wiped hM ws
  exact hK _ _ (kk a w own w' r ws _ w' ⟨own, r'.put_same (by simpa using hd) (.tp [] rfl (fun j x hj => by simp at hj))⟩)

theorem awlM_storeJ {T Tb sz b o : Nat} {p x : Operand} {vals : List Value} (ti : TI P T sz true) (hp : S.ev ⟨regs, objs⟩ p = some (.p (.v (.pointer (some ⟨b, o, none⟩))))) (hx : S.ev ⟨regs, objs⟩ x = some (.ag (vals.map fun v => .p (.v v)))) (hsz : vals.length = sz) (hone : ∀ v ∈ vals, v.oneCell' = true)
    (hlo : lo ≤ b) (hhi : b < hi) (hM : ∀ b i, lo ≤ b → b < hi → cx.M0 b i)
    (hb : ∀ a w own, Rl P cx n ⟨regs, objs⟩ a w own → ∃ cs, w.heap[b]? = some (Obj.cells cs Tb (0, 0)) ∧ o + vals.length ≤ cs.size)
    (kk : ∀ a w own cs, Rl P cx n ⟨regs, objs⟩ a w own → w.heap[b]? = some (Obj.cells cs Tb (0, 0)) → o + vals.length ≤ cs.size →
      WS lo hi (fun _ => True) w (w.setRow b (cs.toList.take o ++ vals ++ cs.toList.drop (o + vals.length)).toArray) →
      AWlM P ⟨w.setRow b (cs.toList.take o ++ vals ++ cs.toList.drop (o + vals.length)).toArray, cx.M0, own, objs⟩ n ops rest K ⟨regs, objs⟩) :
    AWlM P cx n ops (⟨none, .store T p x, ty, pos, aft, none⟩ :: rest) K ⟨regs, objs⟩ := fun a w ⟨own, r⟩ => by
  refine wpList_plain rfl fun KK hK => ?_
  obtain ⟨cs, hcs, hfit⟩ := hb a w own r
  have hv := (r.ev hp).val
  have hxv : a.eval x = .agg vals.toArray := by
    have hv := r.ev hx
    generalize a.eval x = v at hv
    cases hv with
    | ag vs hl hone hel =>
      have : vs = vals := by
        refine List.ext_getElem? fun j => ?_
        rcases Nat.lt_or_ge j vals.length with h | h
        · have h2 : j < vs.length := by rw [hl]; simpa using h
          have := (hel j (.p (.v vals[j])) (by simp [h])).val
          rw [List.getD_eq_getElem?_getD, List.getElem?_eq_getElem h2] at this
          simp at this
          rw [List.getElem?_eq_getElem h2, List.getElem?_eq_getElem h, this]
        · rw [List.getElem?_eq_none (by rw [hl]; simpa using h), List.getElem?_eq_none h]
      rw [this]
  have hst := run_storeCells_at P b o Tb vals 0 cs w hcs (by simpa using hfit) hone
  simp only [Nat.add_zero] at hst
  have hrun : (execOp a.eval ⟨none, .store T p x, ty, pos, aft, none⟩).run P w = .ok .skip (w.setRow b (cs.toList.take o ++ vals ++ cs.toList.drop (o + vals.length)).toArray) := by
    simp only [execOp, hv, hxv, Instr.storeAt, Instr.sureAddr, storeVar, Sem.run_bind, Sem.run_pure, Result.andThen_ok, ti.run_size w]
    have hcl : (Value.agg vals.toArray).cells = vals.toArray := rfl
    rw [hcl]
    have : ¬ vals.toArray.size ≠ sz := by simp [hsz]
    rw [if_neg this]
    simp only [List.toList_toArray]
    rw [hst]
    rfl
  have ws : WS lo hi (fun _ => True) w (w.setRow b (cs.toList.take o ++ vals ++ cs.toList.drop (o + vals.length)).toArray) :=
    { os := rfl, tape := rfl, output := rfl, size := by rw [setRow_size]; exact Nat.le_refl _, inv := trivial
      keep := fun c _ hj => setRow_far w b _ (by omega)
      shape := fun c cs' T' h => by
        by_cases e : c = b
        · subst e; exact ⟨_, setRow_heap w c _ _ T' (0, 0) h⟩
        · exact ⟨cs', by rw [setRow_far _ _ _ e]; exact h⟩ }
  unfold Oper.wp
  rw [hrun]
  exact hK _ _ (kk a w own cs r hcs hfit ws _ _ ⟨own, r.wiped hM ws⟩)
end

section
variable {P : Program} {cx : Cx} {n : Nat} {Q : Exit → S → Prop} {regs : List (Nat × AV)} {objs : Obs} {ops : Array Oper} {rest : List Oper} {d : Nat} {pos : String} {aft : Array Edge} {ty : Nat}
theorem awl_len_c {T E rty len cap : Nat} {ad : Option Addr} {x : Operand} (si : SI P T E) (hx : S.ev ⟨regs, objs⟩ x = some (.p (.v (.slice ad len cap)))) (hd : Nat.blt d n = true)
    (kk : AWl P cx n ops rest Q ⟨(d, .p (I len)) :: regs, objs⟩) :
    AWl P cx n ops (⟨some d, .call ⟨.builtin .len, #[x], #[T]⟩, rty, pos, aft, none⟩ :: rest) Q ⟨regs, objs⟩ :=
  awl_val (.p (I len)) rfl rfl (by simpa using hd) (fun a w own r => by
    have hv := (r.ev hx).val
    have hel : P.underlying T = some (.slice (P.elem T)) := by simp [Program.elem, si.h]
    refine ⟨.int .i64 len, ?_, .scal rfl⟩
    simp only [execOp, resolve, invoke, builtin, Sem.run_bind, Sem.run_pure, Result.andThen_ok, List.map_toArray, List.map_cons, List.map_nil, hv]
    rw [run_len_slice w T rty ad len cap hel]
    rfl) kk
theorem awl_index_c {T E esz len cap b o : Nat} {ag : Bool} {x y : Operand} {kd : IntKind} {i : Int} (si : SI P T E) (ti : TI P E esz ag) (hx : S.ev ⟨regs, objs⟩ x = some (.p (.v (.slice (some ⟨b, 0, none⟩) len cap))))
    (hy : S.ev ⟨regs, objs⟩ y = some (.p (.v (.int kd i)))) (h0 : 0 ≤ i) (h1 : i < (len : Int)) (ho : i.toNat * esz = o) (hd : Nat.blt d n = true)
    (kk : AWl P cx n ops rest Q ⟨(d, .p (.v (.pointer (some ⟨b, o, none⟩)))) :: regs, objs⟩) : AWl P cx n ops (⟨some d, .indexAddr T x y, ty, pos, aft, none⟩ :: rest) Q ⟨regs, objs⟩ :=
  awl_val (.p (.v (.pointer (some ⟨b, o, none⟩)))) rfl rfl (by simpa using hd) (fun a w own r => by
    have hv := (r.ev hy).val
    have ha := (r.ev hx).val
    refine ⟨_, ?_, .scal rfl⟩
    have hel : P.underlying T = some (.slice (P.elem T)) := by simp [Program.elem, si.h]
    have hel' : P.elem T = E := by simp [Program.elem, si.h]
    simp only [execOp, ha, hv, Sem.run_bind]
    rw [run_indexAt_slice w T ⟨b, 0, none⟩ len cap kd i hel, if_pos ⟨h0, h1⟩, hel', ti.run_size w]
    subst ho
    simp only [Result.andThen_ok, add_at, Nat.zero_add, Sem.run_pure]) kk
theorem awl_load_c {T sz b o : Nat} {x : Operand} {vals : List Value} (ti : TI P T sz true) (hx : S.ev ⟨regs, objs⟩ x = some (.p (.v (.pointer (some ⟨b, o, none⟩))))) (hl : vals.length = sz) (hone : ∀ v ∈ vals, v.oneCell' = true)
    (hc : ∀ a w own, Rl P cx n ⟨regs, objs⟩ a w own → ∀ j v, vals[j]? = some v → w.cell? ⟨b, o + j, none⟩ = some v) (hd : Nat.blt d n = true)
    (kk : AWl P cx n ops rest Q ⟨(d, .ag (vals.map fun v => .p (.v v))) :: regs, objs⟩) : AWl P cx n ops (⟨some d, .load T x, ty, pos, aft, none⟩ :: rest) Q ⟨regs, objs⟩ :=
  awl_val (.ag (vals.map fun v => .p (.v v))) rfl rfl (by simpa using hd) (fun a w own r => by
    have hv := (r.ev hx).val
    refine ⟨.agg vals.toArray, ?_, .ag vals (by simp) hone fun j y hj => ?_⟩
    · simp only [execOp, hv, Instr.loadAt, Instr.sureAddr, Sem.run_bind, Sem.run_pure, Result.andThen_ok]
      rw [run_load_row ti w _ vals hl (fun j v hj => by rw [add_at]; exact hc a w own r j v hj)]
      rfl
    · rw [List.getElem?_map] at hj
      obtain ⟨v, hv', rfl⟩ := Option.map_eq_some_iff.1 hj
      rw [List.getD_eq_getElem?_getD, hv']
      exact .scal (hone v (List.mem_of_getElem? hv'))) kk
end

section
variable {P : Program} {cx : Cx} {n : Nat} {K : MPost} {s : S}
theorem awlM_blk {ops : Array Oper} {y : Code} {id : Nat} (h : AWpM P cx n y K s) : AWlM P cx n ops [] (Exit.inBlock id (seqK P y K)) s := fun a w r => wpList_nil (h a w r)
theorem awpM_skip {y : Code} (h : AWpM P cx n y K s) : AWpM P cx n .skip (seqK P y K) s := fun a w r => wp_skip (h a w r)
theorem awpM_exit {id : Nat} (h : ∀ a w, Rel P cx n s a w → K (.exit id) a w) : AWpM P cx n (.exit id) K s := fun a w r => wp_exit (h a w r)
theorem awpM_block {id : Nat} {c : Code} (h : AWpM P cx n c (Exit.inBlock id K) s) : AWpM P cx n (.block id c) K s := fun a w r => wp_block (h a w r)
theorem awpM_cond_p {c : Operand} {x y : Code} {q : Prop} [Decidable q] (hc : s.ev c = some (.p (.v (.bool (decide q))))) (ht : q → AWpM P cx n x K s) (hf : ¬ q → AWpM P cx n y K s) :
    AWpM P cx n (.cond c x y) K s := fun a w r => by
  obtain ⟨own, r'⟩ := r
  have hv' : a.eval c = .bool (decide q) := (r'.ev hc).val
  by_cases h : q
  · exact wp_cond_true (by rw [hv', decide_eq_true h]) (ht h a w ⟨own, r'⟩)
  · exact wp_cond_false (by rw [hv', decide_eq_false h]) (hf h a w ⟨own, r'⟩)
end
end Go.Ab
