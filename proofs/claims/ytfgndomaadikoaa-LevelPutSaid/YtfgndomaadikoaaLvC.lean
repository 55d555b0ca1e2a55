/- Levels: their values. -/
import Derived.Test.YtfgndomaadikoaaLvB
set_option linter.unusedVariables false
set_option linter.unusedSimpArgs false
namespace Go.Ab.Ytfgndomaadikoaa
open Go Go.RowKit Go.Ab Go.Proofs

theorem hmo_LvC : Try.prog.follows .mixedOrders = true := by kernel_rfl
theorem fi39_0_LvC : FI Try.prog 39 0 0 := ⟨_, _, 0, Try.underlying39, rfl, rfl, by kernel_rfl⟩
theorem ti3_LvC : TI Try.prog 3 1 false := ⟨by kernel_rfl, by kernel_rfl⟩
theorem fb53_LvC : FB Try.prog 53 := ⟨_, Try.func53, rfl, by kernel_rfl⟩
theorem fi39_2_LvC : FI Try.prog 39 2 2 := ⟨_, _, 0, Try.underlying39, rfl, rfl, by kernel_rfl⟩
theorem ti24_LvC : TI Try.prog 24 1 false := ⟨by kernel_rfl, by kernel_rfl⟩
theorem si24_LvC : SI Try.prog 24 39 := ⟨Try.underlying24⟩
theorem ti39_LvC : TI Try.prog 39 3 true := ⟨by kernel_rfl, by kernel_rfl⟩
theorem fb27_LvC : FB Try.prog 27 := ⟨_, Try.func27, rfl, by kernel_rfl⟩
theorem fi39_1_LvC : FI Try.prog 39 1 1 := ⟨_, _, 0, Try.underlying39, rfl, rfl, by kernel_rfl⟩
theorem si41_LvC : SI Try.prog 41 3 := ⟨Try.underlying41⟩
theorem fb28_LvC : FB Try.prog 28 := ⟨_, Try.func28, rfl, by kernel_rfl⟩

def ints (l : List Int) : List (List PV) := l.map fun n => [I n]
@[simp] theorem ints_len (l : List Int) : (ints l).length = l.length := by simp [ints]
theorem ints_at {l : List Int} {n : Int} (h0 : 0 ≤ n) (h1 : n < l.length) : rowAt (ints l) n = [I (l.getD n.toNat 0)] := by
  have h : n.toNat < l.length := by omega
  simp [rowAt, ints, List.getD_eq_getElem?_getD, h]

def evK (at_ : List Int) (k n : Int) (vs : List Int) : Int :=
  if k = 1 then vs.getD 0 0 + 1 else if k = 2 then max (vs.getD 0 0) (vs.getD 1 0) else if k = 3 then (if vs.getD 1 0 = 0 then 0 else max (vs.getD 0 0) (vs.getD 1 0))
  else if k = 4 then (if 0 ≤ n ∧ n < at_.length then min (max (at_.getD n.toNat 0) 0) 1099511627776 else 0) else 0
mutual
/-- The value of a level. -/
def evalF (at_ : List Int) : Lvl → Int
  | ⟨k, n, l⟩ => evK at_ k n (evalFs at_ l)
def evalFs (at_ : List Int) : List Lvl → List Int
  | [] => []
  | a :: r => evalF at_ a :: evalFs at_ r
end
theorem evalF_eq (at_ : List Int) (t : Lvl) : evalF at_ t = evK at_ t.kind t.n (evalFs at_ t.args) := by cases t; rfl

mutual
theorem evalF_bd (at_ : List Int) : ∀ t : Lvl, 0 ≤ evalF at_ t ∧ evalF at_ t ≤ 1099511627776 + deepL t
  | ⟨k, n, l⟩ => by
    simp only [evalF, deepL]
    have h := evalFs_bd at_ l
    have h0 := h 0
    have h1 := h 1
    have hd := deepLs_pos l
    unfold evK
    split
    · omega
    · split
      · omega
      · split
        · split <;> omega
        · split
          · split <;> omega
          · omega
theorem evalFs_bd (at_ : List Int) : ∀ (l : List Lvl) (i : Nat), 0 ≤ (evalFs at_ l).getD i 0 ∧ (evalFs at_ l).getD i 0 ≤ 1099511627776 + deepLs l
  | [], i => by simp [evalFs, deepLs]
  | a :: r, 0 => by
    simp only [evalFs, deepLs, List.getD_cons_zero]
    have := evalF_bd at_ a
    omega
  | a :: r, i + 1 => by
    simp only [evalFs, deepLs, List.getD_cons_succ]
    have := evalFs_bd at_ r i
    omega
end

theorem wf_here {t : Lvl} {ps : Int} (h : wfL t ps = true) : hereL t.kind t.n t.args.length ps := by
  rw [wfL_eq, Bool.and_eq_true] at h; exact of_decide_eq_true h.1
theorem wfLs_mem {ps : Int} : ∀ {l : List Lvl}, wfLs l ps = true → ∀ a ∈ l, wfL a ps = true
  | [], _, a, h => by cases h
  | b :: r, h, a, hm => by
    simp only [wfLs, Bool.and_eq_true] at h
    rcases List.mem_cons.1 hm with rfl | hm
    · exact h.1
    · exact wfLs_mem h.2 a hm
theorem wf_mem {t : Lvl} {ps : Int} (h : wfL t ps = true) {a : Lvl} (ha : a ∈ t.args) : wfL a ps = true := by
  rw [wfL_eq, Bool.and_eq_true] at h; exact wfLs_mem h.2 a ha
theorem deepLs_mem : ∀ {l : List Lvl} {a : Lvl}, a ∈ l → deepL a ≤ deepLs l
  | b :: r, a, hm => by
    simp only [deepLs]
    rcases List.mem_cons.1 hm with rfl | hm
    · omega
    · have := deepLs_mem hm; omega
theorem deep_mem {t a : Lvl} (ha : a ∈ t.args) : deepL a + 1 ≤ deepL t := by
  have h1 := deepL_eq t
  have := deepLs_mem ha
  omega
theorem ar1 {t : Lvl} {ps : Int} (h : wfL t ps = true) (hk : t.kind = 1) : ∃ a, t.args = [a] := by
  have h1 := (wf_here h).1
  have h2 : t.args.length = 1 := by rw [hk] at h1; simp [argsOf] at h1; omega
  match t.args, h2 with
  | [a], _ => exact ⟨a, rfl⟩
theorem ar2 {t : Lvl} {ps : Int} (h : wfL t ps = true) (hk : t.kind = 2 ∨ t.kind = 3) : ∃ a b, t.args = [a, b] := by
  have h1 := (wf_here h).1
  have h2 : t.args.length = 2 := by rcases hk with hk | hk <;> (rw [hk] at h1; simp [argsOf] at h1; omega)
  match t.args, h2 with
  | [a, b], _ => exact ⟨a, b, rfl⟩
theorem row0 {l r : List Lvl} {a : Lvl} (h : l = a :: r) : rowAt (encLs l) 0 = rowL a := rowL_at (i := 0) (r := r) (by simp [h])
theorem row1 {l r : List Lvl} {a b : Lvl} (h : l = a :: b :: r) : rowAt (encLs l) 1 = rowL b := rowL_at (i := 1) (r := r) (by simp [h])

theorem Eval_con (at_ : List Int) (ps : Int) (t : Lvl) : wfL t ps = true → deepL t ≤ 4611686018427387904 →
    PCon Try.prog 27 [lv t, .p (.sl 1 (ints at_))] (.p (I (evalF at_ t))) := by
  intro hw hdp
  have ih : ∀ a ∈ t.args, wfL a ps = true → deepL a ≤ 4611686018427387904 → PCon Try.prog 27 [lv a, .p (.sl 1 (ints at_))] (.p (I (evalF at_ a))) :=
    fun a ha h0 h1 => Eval_con at_ ps a h0 h1
  have he := evalF_eq at_ t
  have hh := (wf_here hw).1
  have hlen := encLs_len t.args
  refine con_of Try.func27 rfl 76 Try.ntmps27 rfl fun cx hcx => ?_
  refine awp_seq ?_
  refine awp_region ?_
  refine awl_box rfl rfl rfl rfl rfl (by rw [hcx]; rfl) rfl ?_
  refine awl_assign rfl rfl ?_
  refine awl_nil ?_
  change AWp _ _ _ _ _ _
  refine awp_seq ?_
  refine awp_seq ?_
  refine awp_draw0 hmo_LvC (by kernel_rfl) ?_
  refine awd_q [(2, _)] (.cons rfl (.nil)) rfl rfl rfl ?_
  apply Exists.intro
  refine ⟨fun regs' => ?_, ?_⟩
  · skip
    first | refine awl_fieldAddr fi39_0_LvC rfl rfl ?_ | refine awl_fieldAddr_i fi39_0_LvC rfl rfl rfl ?_
    exact awl_done rfl
  refine awd_q [(6, _)] (.cons rfl (.nil)) rfl rfl rfl ?_
  apply Exists.intro
  refine ⟨fun regs' => ?_, ?_⟩
  · skip
    first | refine awl_load_one ti3_LvC rfl rfl rfl rfl ?_ | refine awl_load_ione ti3_LvC rfl rfl rfl ?_
    exact awl_done rfl
  refine awd_q [(7, _)] (.cons rfl (.nil)) rfl rfl rfl ?_
  apply Exists.intro
  refine ⟨fun regs' => ?_, ?_⟩
  · skip
    refine awl_pcall fb53_LvC rfl (args_con t.kind) (.cons (by first | exact Sub.refl _ | exact Sub.ts | exact Sub.nil | exact Sub.agc (by repeat (first | exact .nil | refine .cons (by first | exact Sub.refl _ | exact Sub.nil) ?_))) .nil) rfl ?_
    exact awl_done rfl
  refine awd_q [(2, _)] (.cons rfl (.nil)) rfl rfl rfl ?_
  apply Exists.intro
  refine ⟨fun regs' => ?_, ?_⟩
  · skip
    first | refine awl_fieldAddr fi39_2_LvC rfl rfl ?_ | refine awl_fieldAddr_i fi39_2_LvC rfl rfl rfl ?_
    exact awl_done rfl
  refine awd_q [(9, _)] (.cons rfl (.nil)) rfl rfl rfl ?_
  apply Exists.intro
  refine ⟨fun regs' => ?_, ?_⟩
  · skip
    first | refine awl_load_one ti24_LvC rfl rfl rfl rfl ?_ | refine awl_load_ione ti24_LvC rfl rfl rfl ?_
    exact awl_done rfl
  refine awd_q [(10, _)] (.cons rfl (.nil)) rfl rfl rfl ?_
  apply Exists.intro
  refine ⟨fun regs' => ?_, ?_⟩
  · skip
    refine x_len si24_LvC rfl rfl rfl (fun hlen8 => ?_)
    exact awl_done rfl
  refine awd_q [(8, _), (11, _)] (.cons rfl (.cons rfl (.nil))) rfl rfl rfl ?_
  apply Exists.intro
  refine ⟨fun regs' => ?_, ?_⟩
  · skip
    refine awl_bin rfl rfl rfl rfl bin_gtr ?_
    exact awl_done rfl
  refine awd_nil ?_
  change AWp _ _ _ _ _ _
  first | refine awp_cond_p rfl (fun hg => ?_) (fun hg => ?_) | refine awp_cond rfl (fun hg => ?_) (fun hg => ?_)
  · skip
    exfalso; omega
  · skip
    refine awp_skip ?_
    change AWp _ _ _ _ _ _
    refine awp_seq ?_
    refine awp_seq ?_
    refine awp_region ?_
    first | refine awl_fieldAddr fi39_0_LvC rfl rfl ?_ | refine awl_fieldAddr_i fi39_0_LvC rfl rfl rfl ?_
    first | refine awl_load_one ti3_LvC rfl rfl rfl rfl ?_ | refine awl_load_ione ti3_LvC rfl rfl rfl ?_
    refine awl_nil ?_
    change AWp _ _ _ _ _ _
    refine awp_block ?_
    refine awp_seq ?_
    refine awp_region ?_
    refine awl_bin rfl rfl rfl rfl bin_eql ?_
    refine awl_assign rfl rfl ?_
    refine awl_nil ?_
    change AWp _ _ _ _ _ _
    first | refine awp_cond_p rfl (fun k1 => ?_) (fun k1 => ?_) | refine awp_cond rfl (fun k1 => ?_) (fun k1 => ?_)
    · skip
      obtain ⟨a, ha⟩ := ar1 hw k1
      have hrow0 := row0 ha
      have hda := deep_mem (t := t) (a := a) (by simp [ha])
      have hln : (encLs t.args).length = 1 := by simp [ha]
      have hba := evalF_bd at_ a
      refine awp_seq ?_
      refine awp_region ?_
      first | refine awl_fieldAddr fi39_2_LvC rfl rfl ?_ | refine awl_fieldAddr_i fi39_2_LvC rfl rfl rfl ?_
      first | refine awl_load_one ti24_LvC rfl rfl rfl rfl ?_ | refine awl_load_ione ti24_LvC rfl rfl rfl ?_
      refine x_index si24_LvC ti39_LvC rfl rfl rfl rfl (by omega) (by first | omega | (simp only [List.length_map]; omega) | (simp; omega)) (by assumption) rfl ?_
      first | refine awl_load_row ti39_LvC rfl rfl rfl rfl ?_ | refine x_irow ti39_LvC rfl rfl rfl rfl ?_
      refine awl_move rfl rfl ?_
      refine awl_pcall fb27_LvC rfl (ih a (by simp [ha]) (wf_mem hw (by simp [ha])) (by omega)) (.cons (by first | exact Sub.refl _ | exact Sub.ts | exact Sub.nil | exact Sub.agc (by repeat (first | exact .nil | refine .cons (by first | exact Sub.refl _ | exact Sub.nil) ?_))) (.cons (by first | exact Sub.refl _ | exact Sub.ts | exact Sub.nil | exact Sub.agc (by repeat (first | exact .nil | refine .cons (by first | exact Sub.refl _ | exact Sub.nil) ?_))) .nil)) rfl ?_
      first | refine awl_bin rfl rfl rfl rfl (bin_add_i (by omega)) ?_ | refine awl_bin rfl rfl rfl rfl bin_add ?_
      refine awl_assign rfl rfl ?_
      refine awl_nil ?_
      change AWp _ _ _ _ _ _
      refine awp_ret ?_
      change Ends _ _ _ _ _ _
      refine ends1 [] rfl (.tmp rfl) ?_ rfl
      refine ⟨I_eq ?_, rfl⟩; rw [he, ha]; simp [evK, evalFs, k1]
    · skip
      refine awp_seq ?_
      refine awp_region ?_
      refine awl_bin rfl rfl rfl rfl bin_eql ?_
      refine awl_assign rfl rfl ?_
      refine awl_nil ?_
      change AWp _ _ _ _ _ _
      first | refine awp_cond_p rfl (fun k2 => ?_) (fun k2 => ?_) | refine awp_cond rfl (fun k2 => ?_) (fun k2 => ?_)
      · skip
        obtain ⟨a, b, ha⟩ := ar2 hw (.inl k2)
        have hrow0 := row0 ha
        have hrow1 := row1 ha
        have hda := deep_mem (t := t) (a := a) (by simp [ha])
        have hdb := deep_mem (t := t) (a := b) (by simp [ha])
        have hln : (encLs t.args).length = 2 := by simp [ha]
        refine awp_seq ?_
        refine awp_draw0 hmo_LvC (by kernel_rfl) ?_
        refine awd_q [(2, _)] (.cons rfl (.nil)) rfl rfl rfl ?_
        apply Exists.intro
        refine ⟨fun regs' => ?_, ?_⟩
        · skip
          first | refine awl_fieldAddr fi39_2_LvC rfl rfl ?_ | refine awl_fieldAddr_i fi39_2_LvC rfl rfl rfl ?_
          exact awl_done rfl
        refine awd_q [(26, _)] (.cons rfl (.nil)) rfl rfl rfl ?_
        apply Exists.intro
        refine ⟨fun regs' => ?_, ?_⟩
        · skip
          first | refine awl_load_one ti24_LvC rfl rfl rfl rfl ?_ | refine awl_load_ione ti24_LvC rfl rfl rfl ?_
          exact awl_done rfl
        refine awd_q [(27, _)] (.cons rfl (.nil)) rfl rfl rfl ?_
        apply Exists.intro
        refine ⟨fun regs' => ?_, ?_⟩
        · skip
          refine x_index si24_LvC ti39_LvC rfl rfl rfl rfl (by omega) (by first | omega | (simp only [List.length_map]; omega) | (simp; omega)) (by assumption) rfl ?_
          exact awl_done rfl
        refine awd_q [(28, _)] (.cons rfl (.nil)) rfl rfl rfl ?_
        apply Exists.intro
        refine ⟨fun regs' => ?_, ?_⟩
        · skip
          first | refine awl_load_row ti39_LvC rfl rfl rfl rfl ?_ | refine x_irow ti39_LvC rfl rfl rfl rfl ?_
          exact awl_done rfl
        refine awd_q [(1, _)] (.cons rfl (.nil)) rfl rfl rfl ?_
        apply Exists.intro
        refine ⟨fun regs' => ?_, ?_⟩
        · skip
          refine awl_move rfl rfl ?_
          exact awl_done rfl
        refine awd_q [(29, _), (30, _)] (.cons rfl (.cons rfl (.nil))) rfl rfl rfl ?_
        apply Exists.intro
        refine ⟨fun regs' => ?_, ?_⟩
        · skip
          refine awl_pcall fb27_LvC rfl (ih a (by simp [ha]) (wf_mem hw (by simp [ha])) (by omega)) (.cons (by first | exact Sub.refl _ | exact Sub.ts | exact Sub.nil | exact Sub.agc (by repeat (first | exact .nil | refine .cons (by first | exact Sub.refl _ | exact Sub.nil) ?_))) (.cons (by first | exact Sub.refl _ | exact Sub.ts | exact Sub.nil | exact Sub.agc (by repeat (first | exact .nil | refine .cons (by first | exact Sub.refl _ | exact Sub.nil) ?_))) .nil)) rfl ?_
          exact awl_done rfl
        refine awd_q [(2, _)] (.cons rfl (.nil)) rfl rfl rfl ?_
        apply Exists.intro
        refine ⟨fun regs' => ?_, ?_⟩
        · skip
          first | refine awl_fieldAddr fi39_2_LvC rfl rfl ?_ | refine awl_fieldAddr_i fi39_2_LvC rfl rfl rfl ?_
          exact awl_done rfl
        refine awd_q [(32, _)] (.cons rfl (.nil)) rfl rfl rfl ?_
        apply Exists.intro
        refine ⟨fun regs' => ?_, ?_⟩
        · skip
          first | refine awl_load_one ti24_LvC rfl rfl rfl rfl ?_ | refine awl_load_ione ti24_LvC rfl rfl rfl ?_
          exact awl_done rfl
        refine awd_q [(33, _)] (.cons rfl (.nil)) rfl rfl rfl ?_
        apply Exists.intro
        refine ⟨fun regs' => ?_, ?_⟩
        · skip
          refine x_index si24_LvC ti39_LvC rfl rfl rfl rfl (by omega) (by first | omega | (simp only [List.length_map]; omega) | (simp; omega)) (by assumption) rfl ?_
          exact awl_done rfl
        refine awd_q [(34, _)] (.cons rfl (.nil)) rfl rfl rfl ?_
        apply Exists.intro
        refine ⟨fun regs' => ?_, ?_⟩
        · skip
          first | refine awl_load_row ti39_LvC rfl rfl rfl rfl ?_ | refine x_irow ti39_LvC rfl rfl rfl rfl ?_
          exact awl_done rfl
        refine awd_q [(1, _)] (.cons rfl (.nil)) rfl rfl rfl ?_
        apply Exists.intro
        refine ⟨fun regs' => ?_, ?_⟩
        · skip
          refine awl_move rfl rfl ?_
          exact awl_done rfl
        refine awd_q [(35, _), (36, _)] (.cons rfl (.cons rfl (.nil))) rfl rfl rfl ?_
        apply Exists.intro
        refine ⟨fun regs' => ?_, ?_⟩
        · skip
          refine awl_pcall fb27_LvC rfl (ih b (by simp [ha]) (wf_mem hw (by simp [ha])) (by omega)) (.cons (by first | exact Sub.refl _ | exact Sub.ts | exact Sub.nil | exact Sub.agc (by repeat (first | exact .nil | refine .cons (by first | exact Sub.refl _ | exact Sub.nil) ?_))) (.cons (by first | exact Sub.refl _ | exact Sub.ts | exact Sub.nil | exact Sub.agc (by repeat (first | exact .nil | refine .cons (by first | exact Sub.refl _ | exact Sub.nil) ?_))) .nil)) rfl ?_
          exact awl_done rfl
        refine awd_q [(31, _), (37, _)] (.cons rfl (.cons rfl (.nil))) rfl rfl rfl ?_
        apply Exists.intro
        refine ⟨fun regs' => ?_, ?_⟩
        · skip
          refine awl_max rfl rfl rfl ?_
          exact awl_done rfl
        refine awd_q [(38, _)] (.cons rfl (.nil)) rfl rfl rfl ?_
        apply Exists.intro
        refine ⟨fun regs' => ?_, ?_⟩
        · skip
          refine awl_assign rfl rfl ?_
          exact awl_done rfl
        refine awd_nil ?_
        change AWp _ _ _ _ _ _
        refine awp_ret ?_
        change Ends _ _ _ _ _ _
        refine ends1 [] rfl (.tmp rfl) ?_ rfl
        refine ⟨I_eq ?_, rfl⟩; rw [he, ha]; simp [evK, evalFs, k2]
      · skip
        refine awp_seq ?_
        refine awp_region ?_
        refine awl_bin rfl rfl rfl rfl bin_eql ?_
        refine awl_assign rfl rfl ?_
        refine awl_nil ?_
        change AWp _ _ _ _ _ _
        first | refine awp_cond_p rfl (fun k3 => ?_) (fun k3 => ?_) | refine awp_cond rfl (fun k3 => ?_) (fun k3 => ?_)
        · skip
          obtain ⟨a, b, ha⟩ := ar2 hw (.inr k3)
          have hrow0 := row0 ha
          have hrow1 := row1 ha
          have hda := deep_mem (t := t) (a := a) (by simp [ha])
          have hdb := deep_mem (t := t) (a := b) (by simp [ha])
          have hln : (encLs t.args).length = 2 := by simp [ha]
          refine awp_seq ?_
          refine awp_region ?_
          first | refine awl_fieldAddr fi39_2_LvC rfl rfl ?_ | refine awl_fieldAddr_i fi39_2_LvC rfl rfl rfl ?_
          first | refine awl_load_one ti24_LvC rfl rfl rfl rfl ?_ | refine awl_load_ione ti24_LvC rfl rfl rfl ?_
          refine x_index si24_LvC ti39_LvC rfl rfl rfl rfl (by omega) (by first | omega | (simp only [List.length_map]; omega) | (simp; omega)) (by assumption) rfl ?_
          first | refine awl_load_row ti39_LvC rfl rfl rfl rfl ?_ | refine x_irow ti39_LvC rfl rfl rfl rfl ?_
          refine awl_move rfl rfl ?_
          refine awl_pcall fb27_LvC rfl (ih b (by simp [ha]) (wf_mem hw (by simp [ha])) (by omega)) (.cons (by first | exact Sub.refl _ | exact Sub.ts | exact Sub.nil | exact Sub.agc (by repeat (first | exact .nil | refine .cons (by first | exact Sub.refl _ | exact Sub.nil) ?_))) (.cons (by first | exact Sub.refl _ | exact Sub.ts | exact Sub.nil | exact Sub.agc (by repeat (first | exact .nil | refine .cons (by first | exact Sub.refl _ | exact Sub.nil) ?_))) .nil)) rfl ?_
          refine awl_assign rfl rfl ?_
          refine awl_nil ?_
          change AWp _ _ _ _ _ _
          refine awp_seq ?_
          refine awp_seq ?_
          refine awp_region ?_
          refine awl_move rfl rfl ?_
          refine awl_bin rfl rfl rfl rfl bin_eql ?_
          refine awl_nil ?_
          change AWp _ _ _ _ _ _
          first | refine awp_cond_p rfl (fun hz => ?_) (fun hz => ?_) | refine awp_cond rfl (fun hz => ?_) (fun hz => ?_)
          · skip
            refine awp_seq ?_
            refine awp_region ?_
            refine awl_assign rfl rfl ?_
            refine awl_nil ?_
            change AWp _ _ _ _ _ _
            refine awp_ret ?_
            change Ends _ _ _ _ _ _
            refine ends1 [] rfl (.tmp rfl) ?_ rfl
            refine ⟨I_eq ?_, rfl⟩; rw [he, ha]; simp [evK, evalFs, k3, hz]
          · skip
            refine awp_skip ?_
            change AWp _ _ _ _ _ _
            refine awp_seq ?_
            refine awp_region ?_
            first | refine awl_fieldAddr fi39_2_LvC rfl rfl ?_ | refine awl_fieldAddr_i fi39_2_LvC rfl rfl rfl ?_
            first | refine awl_load_one ti24_LvC rfl rfl rfl rfl ?_ | refine awl_load_ione ti24_LvC rfl rfl rfl ?_
            refine x_index si24_LvC ti39_LvC rfl rfl rfl rfl (by omega) (by first | omega | (simp only [List.length_map]; omega) | (simp; omega)) (by assumption) rfl ?_
            first | refine awl_load_row ti39_LvC rfl rfl rfl rfl ?_ | refine x_irow ti39_LvC rfl rfl rfl rfl ?_
            refine awl_move rfl rfl ?_
            refine awl_pcall fb27_LvC rfl (ih a (by simp [ha]) (wf_mem hw (by simp [ha])) (by omega)) (.cons (by first | exact Sub.refl _ | exact Sub.ts | exact Sub.nil | exact Sub.agc (by repeat (first | exact .nil | refine .cons (by first | exact Sub.refl _ | exact Sub.nil) ?_))) (.cons (by first | exact Sub.refl _ | exact Sub.ts | exact Sub.nil | exact Sub.agc (by repeat (first | exact .nil | refine .cons (by first | exact Sub.refl _ | exact Sub.nil) ?_))) .nil)) rfl ?_
            refine awl_move rfl rfl ?_
            refine awl_max rfl rfl rfl ?_
            refine awl_assign rfl rfl ?_
            refine awl_nil ?_
            change AWp _ _ _ _ _ _
            refine awp_ret ?_
            change Ends _ _ _ _ _ _
            refine ends1 [] rfl (.tmp rfl) ?_ rfl
            refine ⟨I_eq ?_, rfl⟩; rw [he, ha]; simp [evK, evalFs, k3, hz]
        · skip
          refine awp_seq ?_
          refine awp_region ?_
          refine awl_bin rfl rfl rfl rfl bin_eql ?_
          refine awl_assign rfl rfl ?_
          refine awl_nil ?_
          change AWp _ _ _ _ _ _
          first | refine awp_cond_p rfl (fun k4 => ?_) (fun k4 => ?_) | refine awp_cond rfl (fun k4 => ?_) (fun k4 => ?_)
          · skip
            refine awp_seq ?_
            refine awp_region ?_
            first | refine awl_fieldAddr fi39_1_LvC rfl rfl ?_ | refine awl_fieldAddr_i fi39_1_LvC rfl rfl rfl ?_
            first | refine awl_load_one ti3_LvC rfl rfl rfl rfl ?_ | refine awl_load_ione ti3_LvC rfl rfl rfl ?_
            refine awl_bin rfl rfl rfl rfl bin_geq ?_
            refine awl_move rfl rfl ?_
            first | refine awl_split_p 62 rfl (fun h0 => ?_) (fun h0 => ?_) | refine awl_split 62 rfl (fun h0 => ?_) (fun h0 => ?_)
            · skip
              refine awl_guard_yes rfl (by first | exact h0 | exact decide_eq_true h0 | exact decide_eq_false h0) rfl rfl ?_
              first | refine awl_fieldAddr fi39_1_LvC rfl rfl ?_ | refine awl_fieldAddr_i fi39_1_LvC rfl rfl rfl ?_
              refine awl_guard_yes rfl (by first | exact h0 | exact decide_eq_true h0 | exact decide_eq_false h0) rfl rfl ?_
              first | refine awl_load_one ti3_LvC rfl rfl rfl rfl ?_ | refine awl_load_ione ti3_LvC rfl rfl rfl ?_
              refine awl_guard_yes rfl (by first | exact h0 | exact decide_eq_true h0 | exact decide_eq_false h0) rfl rfl ?_
              refine awl_move rfl rfl ?_
              refine awl_guard_yes rfl (by first | exact h0 | exact decide_eq_true h0 | exact decide_eq_false h0) rfl rfl ?_
              refine x_len si41_LvC rfl rfl rfl (fun hlen80 => ?_)
              refine awl_guard_yes rfl (by first | exact h0 | exact decide_eq_true h0 | exact decide_eq_false h0) rfl rfl ?_
              refine awl_bin rfl rfl rfl rfl bin_lss ?_
              refine awl_pick_t (by first | exact h0 | exact decide_eq_true h0 | exact decide_eq_false h0) rfl rfl rfl ?_
              refine awl_nil ?_
              change AWp _ _ _ _ _ _
              first | refine awp_cond_p rfl (fun n1 => ?_) (fun n1 => ?_) | refine awp_cond rfl (fun n1 => ?_) (fun n1 => ?_)
              · skip
                have hrow2 := ints_at h0 (by simpa using n1)
                refine awp_seq ?_
                refine awp_region ?_
                refine awl_move rfl rfl ?_
                first | refine awl_fieldAddr fi39_1_LvC rfl rfl ?_ | refine awl_fieldAddr_i fi39_1_LvC rfl rfl rfl ?_
                first | refine awl_load_one ti3_LvC rfl rfl rfl rfl ?_ | refine awl_load_ione ti3_LvC rfl rfl rfl ?_
                refine x_index si41_LvC ti3_LvC rfl rfl rfl rfl (by omega) (by first | omega | (simp only [List.length_map]; omega) | (simp; omega)) (by assumption) rfl ?_
                first | refine awl_load_one ti3_LvC rfl rfl rfl rfl ?_ | refine awl_load_ione ti3_LvC rfl rfl rfl ?_
                refine awl_max rfl rfl rfl ?_
                refine awl_min rfl rfl rfl ?_
                refine awl_assign rfl rfl ?_
                refine awl_nil ?_
                change AWp _ _ _ _ _ _
                refine awp_ret ?_
                change Ends _ _ _ _ _ _
                refine ends1 [] rfl (.tmp rfl) ?_ rfl
                refine ⟨I_eq ?_, rfl⟩; rw [he]; simp [evK, k4, h0, show t.n < (at_.length : Int) by simpa using n1]
              · skip
                refine awp_skip ?_
                change AWp _ _ _ _ _ _
                refine awp_seq ?_
                refine awp_region ?_
                refine awl_assign rfl rfl ?_
                refine awl_nil ?_
                change AWp _ _ _ _ _ _
                refine awp_ret ?_
                change Ends _ _ _ _ _ _
                refine ends1 [] rfl (.tmp rfl) ?_ rfl
                refine ⟨I_eq ?_, rfl⟩; rw [he]; simp [evK, k4, show ¬ t.n < (at_.length : Int) by simpa using n1]
            · skip
              refine awl_guard_no rfl (by first | exact h0 | exact decide_eq_true h0 | exact decide_eq_false h0) rfl rfl rfl rfl ?_
              refine awl_guard_no rfl (by first | exact h0 | exact decide_eq_true h0 | exact decide_eq_false h0) rfl rfl rfl rfl ?_
              refine awl_guard_no rfl (by first | exact h0 | exact decide_eq_true h0 | exact decide_eq_false h0) rfl rfl rfl rfl ?_
              refine awl_guard_no rfl (by first | exact h0 | exact decide_eq_true h0 | exact decide_eq_false h0) rfl rfl rfl rfl ?_
              refine awl_guard_no rfl (by first | exact h0 | exact decide_eq_true h0 | exact decide_eq_false h0) rfl rfl rfl rfl ?_
              refine awl_pick_f (by first | exact h0 | exact decide_eq_true h0 | exact decide_eq_false h0) rfl rfl rfl ?_
              refine awl_nil ?_
              change AWp _ _ _ _ _ _
              refine awp_cond_f rfl rfl ?_
              refine awp_skip ?_
              change AWp _ _ _ _ _ _
              refine awp_seq ?_
              refine awp_region ?_
              refine awl_assign rfl rfl ?_
              refine awl_nil ?_
              change AWp _ _ _ _ _ _
              refine awp_ret ?_
              change Ends _ _ _ _ _ _
              refine ends1 [] rfl (.tmp rfl) ?_ rfl
              refine ⟨I_eq ?_, rfl⟩; rw [he]; simp [evK, k4, h0]
          · skip
            refine awp_skip ?_
            change AWp _ _ _ _ _ _
            refine awp_seq ?_
            refine awp_region ?_
            refine awl_assign rfl rfl ?_
            refine awl_nil ?_
            change AWp _ _ _ _ _ _
            refine awp_ret ?_
            change Ends _ _ _ _ _ _
            refine ends1 [] rfl (.tmp rfl) ?_ rfl
            refine ⟨I_eq ?_, rfl⟩; rw [he]; simp [evK, k1, k2, k3, k4]
termination_by SizeOf.sizeOf t
decreasing_by exact Lvl.lt ha

theorem rEval_con (at_ : List Int) (ps : Int) (t : Lvl) : wfL t ps = true → deepL t ≤ 4611686018427387904 →
    PCon Try.prog 28 [lv t, .p (.sl 1 (ints at_))] (.p (I (evalF at_ t))) := by
  intro hw hdp
  have ih : ∀ a ∈ t.args, wfL a ps = true → deepL a ≤ 4611686018427387904 → PCon Try.prog 28 [lv a, .p (.sl 1 (ints at_))] (.p (I (evalF at_ a))) :=
    fun a ha h0 h1 => rEval_con at_ ps a h0 h1
  have he := evalF_eq at_ t
  have hh := (wf_here hw).1
  have hlen := encLs_len t.args
  refine con_of Try.func28 rfl 69 Try.ntmps28 rfl fun cx hcx => ?_
  refine awp_seq ?_
  refine awp_region ?_
  refine awl_box rfl rfl rfl rfl rfl (by rw [hcx]; rfl) rfl ?_
  refine awl_assign rfl rfl ?_
  refine awl_nil ?_
  change AWp _ _ _ _ _ _
  refine awp_seq ?_
  refine awp_seq ?_
  refine awp_region ?_
  first | refine awl_fieldAddr fi39_0_LvC rfl rfl ?_ | refine awl_fieldAddr_i fi39_0_LvC rfl rfl rfl ?_
  first | refine awl_load_one ti3_LvC rfl rfl rfl rfl ?_ | refine awl_load_ione ti3_LvC rfl rfl rfl ?_
  refine awl_nil ?_
  change AWp _ _ _ _ _ _
  refine awp_block ?_
  refine awp_seq ?_
  refine awp_region ?_
  refine awl_bin rfl rfl rfl rfl bin_eql ?_
  refine awl_assign rfl rfl ?_
  refine awl_nil ?_
  change AWp _ _ _ _ _ _
  first | refine awp_cond_p rfl (fun k1 => ?_) (fun k1 => ?_) | refine awp_cond rfl (fun k1 => ?_) (fun k1 => ?_)
  · skip
    obtain ⟨a, ha⟩ := ar1 hw k1
    have hrow0 := row0 ha
    have hda := deep_mem (t := t) (a := a) (by simp [ha])
    have hln : (encLs t.args).length = 1 := by simp [ha]
    have hba := evalF_bd at_ a
    refine awp_seq ?_
    refine awp_region ?_
    first | refine awl_fieldAddr fi39_2_LvC rfl rfl ?_ | refine awl_fieldAddr_i fi39_2_LvC rfl rfl rfl ?_
    first | refine awl_load_one ti24_LvC rfl rfl rfl rfl ?_ | refine awl_load_ione ti24_LvC rfl rfl rfl ?_
    refine x_index si24_LvC ti39_LvC rfl rfl rfl rfl (by omega) (by first | omega | (simp only [List.length_map]; omega) | (simp; omega)) (by assumption) rfl ?_
    first | refine awl_load_row ti39_LvC rfl rfl rfl rfl ?_ | refine x_irow ti39_LvC rfl rfl rfl rfl ?_
    refine awl_move rfl rfl ?_
    refine awl_pcall fb28_LvC rfl (ih a (by simp [ha]) (wf_mem hw (by simp [ha])) (by omega)) (.cons (by first | exact Sub.refl _ | exact Sub.ts | exact Sub.nil | exact Sub.agc (by repeat (first | exact .nil | refine .cons (by first | exact Sub.refl _ | exact Sub.nil) ?_))) (.cons (by first | exact Sub.refl _ | exact Sub.ts | exact Sub.nil | exact Sub.agc (by repeat (first | exact .nil | refine .cons (by first | exact Sub.refl _ | exact Sub.nil) ?_))) .nil)) rfl ?_
    first | refine awl_bin rfl rfl rfl rfl (bin_add_i (by omega)) ?_ | refine awl_bin rfl rfl rfl rfl bin_add ?_
    refine awl_assign rfl rfl ?_
    refine awl_nil ?_
    change AWp _ _ _ _ _ _
    refine awp_ret ?_
    change Ends _ _ _ _ _ _
    refine ends1 [] rfl (.tmp rfl) ?_ rfl
    refine ⟨I_eq ?_, rfl⟩; rw [he, ha]; simp [evK, evalFs, k1]
  · skip
    refine awp_seq ?_
    refine awp_region ?_
    refine awl_bin rfl rfl rfl rfl bin_eql ?_
    refine awl_assign rfl rfl ?_
    refine awl_nil ?_
    change AWp _ _ _ _ _ _
    first | refine awp_cond_p rfl (fun k2 => ?_) (fun k2 => ?_) | refine awp_cond rfl (fun k2 => ?_) (fun k2 => ?_)
    · skip
      obtain ⟨a, b, ha⟩ := ar2 hw (.inl k2)
      have hrow0 := row0 ha
      have hrow1 := row1 ha
      have hda := deep_mem (t := t) (a := a) (by simp [ha])
      have hdb := deep_mem (t := t) (a := b) (by simp [ha])
      have hln : (encLs t.args).length = 2 := by simp [ha]
      refine awp_seq ?_
      refine awp_draw0 hmo_LvC (by kernel_rfl) ?_
      refine awd_q [(2, _)] (.cons rfl (.nil)) rfl rfl rfl ?_
      apply Exists.intro
      refine ⟨fun regs' => ?_, ?_⟩
      · skip
        first | refine awl_fieldAddr fi39_2_LvC rfl rfl ?_ | refine awl_fieldAddr_i fi39_2_LvC rfl rfl rfl ?_
        exact awl_done rfl
      refine awd_q [(19, _)] (.cons rfl (.nil)) rfl rfl rfl ?_
      apply Exists.intro
      refine ⟨fun regs' => ?_, ?_⟩
      · skip
        first | refine awl_load_one ti24_LvC rfl rfl rfl rfl ?_ | refine awl_load_ione ti24_LvC rfl rfl rfl ?_
        exact awl_done rfl
      refine awd_q [(20, _)] (.cons rfl (.nil)) rfl rfl rfl ?_
      apply Exists.intro
      refine ⟨fun regs' => ?_, ?_⟩
      · skip
        refine x_index si24_LvC ti39_LvC rfl rfl rfl rfl (by omega) (by first | omega | (simp only [List.length_map]; omega) | (simp; omega)) (by assumption) rfl ?_
        exact awl_done rfl
      refine awd_q [(21, _)] (.cons rfl (.nil)) rfl rfl rfl ?_
      apply Exists.intro
      refine ⟨fun regs' => ?_, ?_⟩
      · skip
        first | refine awl_load_row ti39_LvC rfl rfl rfl rfl ?_ | refine x_irow ti39_LvC rfl rfl rfl rfl ?_
        exact awl_done rfl
      refine awd_q [(1, _)] (.cons rfl (.nil)) rfl rfl rfl ?_
      apply Exists.intro
      refine ⟨fun regs' => ?_, ?_⟩
      · skip
        refine awl_move rfl rfl ?_
        exact awl_done rfl
      refine awd_q [(22, _), (23, _)] (.cons rfl (.cons rfl (.nil))) rfl rfl rfl ?_
      apply Exists.intro
      refine ⟨fun regs' => ?_, ?_⟩
      · skip
        refine awl_pcall fb28_LvC rfl (ih a (by simp [ha]) (wf_mem hw (by simp [ha])) (by omega)) (.cons (by first | exact Sub.refl _ | exact Sub.ts | exact Sub.nil | exact Sub.agc (by repeat (first | exact .nil | refine .cons (by first | exact Sub.refl _ | exact Sub.nil) ?_))) (.cons (by first | exact Sub.refl _ | exact Sub.ts | exact Sub.nil | exact Sub.agc (by repeat (first | exact .nil | refine .cons (by first | exact Sub.refl _ | exact Sub.nil) ?_))) .nil)) rfl ?_
        exact awl_done rfl
      refine awd_q [(2, _)] (.cons rfl (.nil)) rfl rfl rfl ?_
      apply Exists.intro
      refine ⟨fun regs' => ?_, ?_⟩
      · skip
        first | refine awl_fieldAddr fi39_2_LvC rfl rfl ?_ | refine awl_fieldAddr_i fi39_2_LvC rfl rfl rfl ?_
        exact awl_done rfl
      refine awd_q [(25, _)] (.cons rfl (.nil)) rfl rfl rfl ?_
      apply Exists.intro
      refine ⟨fun regs' => ?_, ?_⟩
      · skip
        first | refine awl_load_one ti24_LvC rfl rfl rfl rfl ?_ | refine awl_load_ione ti24_LvC rfl rfl rfl ?_
        exact awl_done rfl
      refine awd_q [(26, _)] (.cons rfl (.nil)) rfl rfl rfl ?_
      apply Exists.intro
      refine ⟨fun regs' => ?_, ?_⟩
      · skip
        refine x_index si24_LvC ti39_LvC rfl rfl rfl rfl (by omega) (by first | omega | (simp only [List.length_map]; omega) | (simp; omega)) (by assumption) rfl ?_
        exact awl_done rfl
      refine awd_q [(27, _)] (.cons rfl (.nil)) rfl rfl rfl ?_
      apply Exists.intro
      refine ⟨fun regs' => ?_, ?_⟩
      · skip
        first | refine awl_load_row ti39_LvC rfl rfl rfl rfl ?_ | refine x_irow ti39_LvC rfl rfl rfl rfl ?_
        exact awl_done rfl
      refine awd_q [(1, _)] (.cons rfl (.nil)) rfl rfl rfl ?_
      apply Exists.intro
      refine ⟨fun regs' => ?_, ?_⟩
      · skip
        refine awl_move rfl rfl ?_
        exact awl_done rfl
      refine awd_q [(28, _), (29, _)] (.cons rfl (.cons rfl (.nil))) rfl rfl rfl ?_
      apply Exists.intro
      refine ⟨fun regs' => ?_, ?_⟩
      · skip
        refine awl_pcall fb28_LvC rfl (ih b (by simp [ha]) (wf_mem hw (by simp [ha])) (by omega)) (.cons (by first | exact Sub.refl _ | exact Sub.ts | exact Sub.nil | exact Sub.agc (by repeat (first | exact .nil | refine .cons (by first | exact Sub.refl _ | exact Sub.nil) ?_))) (.cons (by first | exact Sub.refl _ | exact Sub.ts | exact Sub.nil | exact Sub.agc (by repeat (first | exact .nil | refine .cons (by first | exact Sub.refl _ | exact Sub.nil) ?_))) .nil)) rfl ?_
        exact awl_done rfl
      refine awd_q [(24, _), (30, _)] (.cons rfl (.cons rfl (.nil))) rfl rfl rfl ?_
      apply Exists.intro
      refine ⟨fun regs' => ?_, ?_⟩
      · skip
        refine awl_max rfl rfl rfl ?_
        exact awl_done rfl
      refine awd_q [(31, _)] (.cons rfl (.nil)) rfl rfl rfl ?_
      apply Exists.intro
      refine ⟨fun regs' => ?_, ?_⟩
      · skip
        refine awl_assign rfl rfl ?_
        exact awl_done rfl
      refine awd_nil ?_
      change AWp _ _ _ _ _ _
      refine awp_ret ?_
      change Ends _ _ _ _ _ _
      refine ends1 [] rfl (.tmp rfl) ?_ rfl
      refine ⟨I_eq ?_, rfl⟩; rw [he, ha]; simp [evK, evalFs, k2]
    · skip
      refine awp_seq ?_
      refine awp_region ?_
      refine awl_bin rfl rfl rfl rfl bin_eql ?_
      refine awl_assign rfl rfl ?_
      refine awl_nil ?_
      change AWp _ _ _ _ _ _
      first | refine awp_cond_p rfl (fun k3 => ?_) (fun k3 => ?_) | refine awp_cond rfl (fun k3 => ?_) (fun k3 => ?_)
      · skip
        obtain ⟨a, b, ha⟩ := ar2 hw (.inr k3)
        have hrow0 := row0 ha
        have hrow1 := row1 ha
        have hda := deep_mem (t := t) (a := a) (by simp [ha])
        have hdb := deep_mem (t := t) (a := b) (by simp [ha])
        have hln : (encLs t.args).length = 2 := by simp [ha]
        refine awp_seq ?_
        refine awp_region ?_
        first | refine awl_fieldAddr fi39_2_LvC rfl rfl ?_ | refine awl_fieldAddr_i fi39_2_LvC rfl rfl rfl ?_
        first | refine awl_load_one ti24_LvC rfl rfl rfl rfl ?_ | refine awl_load_ione ti24_LvC rfl rfl rfl ?_
        refine x_index si24_LvC ti39_LvC rfl rfl rfl rfl (by omega) (by first | omega | (simp only [List.length_map]; omega) | (simp; omega)) (by assumption) rfl ?_
        first | refine awl_load_row ti39_LvC rfl rfl rfl rfl ?_ | refine x_irow ti39_LvC rfl rfl rfl rfl ?_
        refine awl_move rfl rfl ?_
        refine awl_pcall fb28_LvC rfl (ih b (by simp [ha]) (wf_mem hw (by simp [ha])) (by omega)) (.cons (by first | exact Sub.refl _ | exact Sub.ts | exact Sub.nil | exact Sub.agc (by repeat (first | exact .nil | refine .cons (by first | exact Sub.refl _ | exact Sub.nil) ?_))) (.cons (by first | exact Sub.refl _ | exact Sub.ts | exact Sub.nil | exact Sub.agc (by repeat (first | exact .nil | refine .cons (by first | exact Sub.refl _ | exact Sub.nil) ?_))) .nil)) rfl ?_
        refine awl_assign rfl rfl ?_
        refine awl_nil ?_
        change AWp _ _ _ _ _ _
        refine awp_seq ?_
        refine awp_seq ?_
        refine awp_region ?_
        refine awl_move rfl rfl ?_
        refine awl_bin rfl rfl rfl rfl bin_eql ?_
        refine awl_nil ?_
        change AWp _ _ _ _ _ _
        first | refine awp_cond_p rfl (fun hz => ?_) (fun hz => ?_) | refine awp_cond rfl (fun hz => ?_) (fun hz => ?_)
        · skip
          refine awp_seq ?_
          refine awp_region ?_
          refine awl_assign rfl rfl ?_
          refine awl_nil ?_
          change AWp _ _ _ _ _ _
          refine awp_ret ?_
          change Ends _ _ _ _ _ _
          refine ends1 [] rfl (.tmp rfl) ?_ rfl
          refine ⟨I_eq ?_, rfl⟩; rw [he, ha]; simp [evK, evalFs, k3, hz]
        · skip
          refine awp_skip ?_
          change AWp _ _ _ _ _ _
          refine awp_seq ?_
          refine awp_region ?_
          first | refine awl_fieldAddr fi39_2_LvC rfl rfl ?_ | refine awl_fieldAddr_i fi39_2_LvC rfl rfl rfl ?_
          first | refine awl_load_one ti24_LvC rfl rfl rfl rfl ?_ | refine awl_load_ione ti24_LvC rfl rfl rfl ?_
          refine x_index si24_LvC ti39_LvC rfl rfl rfl rfl (by omega) (by first | omega | (simp only [List.length_map]; omega) | (simp; omega)) (by assumption) rfl ?_
          first | refine awl_load_row ti39_LvC rfl rfl rfl rfl ?_ | refine x_irow ti39_LvC rfl rfl rfl rfl ?_
          refine awl_move rfl rfl ?_
          refine awl_pcall fb28_LvC rfl (ih a (by simp [ha]) (wf_mem hw (by simp [ha])) (by omega)) (.cons (by first | exact Sub.refl _ | exact Sub.ts | exact Sub.nil | exact Sub.agc (by repeat (first | exact .nil | refine .cons (by first | exact Sub.refl _ | exact Sub.nil) ?_))) (.cons (by first | exact Sub.refl _ | exact Sub.ts | exact Sub.nil | exact Sub.agc (by repeat (first | exact .nil | refine .cons (by first | exact Sub.refl _ | exact Sub.nil) ?_))) .nil)) rfl ?_
          refine awl_move rfl rfl ?_
          refine awl_max rfl rfl rfl ?_
          refine awl_assign rfl rfl ?_
          refine awl_nil ?_
          change AWp _ _ _ _ _ _
          refine awp_ret ?_
          change Ends _ _ _ _ _ _
          refine ends1 [] rfl (.tmp rfl) ?_ rfl
          refine ⟨I_eq ?_, rfl⟩; rw [he, ha]; simp [evK, evalFs, k3, hz]
      · skip
        refine awp_seq ?_
        refine awp_region ?_
        refine awl_bin rfl rfl rfl rfl bin_eql ?_
        refine awl_assign rfl rfl ?_
        refine awl_nil ?_
        change AWp _ _ _ _ _ _
        first | refine awp_cond_p rfl (fun k4 => ?_) (fun k4 => ?_) | refine awp_cond rfl (fun k4 => ?_) (fun k4 => ?_)
        · skip
          refine awp_seq ?_
          refine awp_region ?_
          first | refine awl_fieldAddr fi39_1_LvC rfl rfl ?_ | refine awl_fieldAddr_i fi39_1_LvC rfl rfl rfl ?_
          first | refine awl_load_one ti3_LvC rfl rfl rfl rfl ?_ | refine awl_load_ione ti3_LvC rfl rfl rfl ?_
          refine awl_bin rfl rfl rfl rfl bin_geq ?_
          refine awl_move rfl rfl ?_
          first | refine awl_split_p 55 rfl (fun h0 => ?_) (fun h0 => ?_) | refine awl_split 55 rfl (fun h0 => ?_) (fun h0 => ?_)
          · skip
            refine awl_guard_yes rfl (by first | exact h0 | exact decide_eq_true h0 | exact decide_eq_false h0) rfl rfl ?_
            first | refine awl_fieldAddr fi39_1_LvC rfl rfl ?_ | refine awl_fieldAddr_i fi39_1_LvC rfl rfl rfl ?_
            refine awl_guard_yes rfl (by first | exact h0 | exact decide_eq_true h0 | exact decide_eq_false h0) rfl rfl ?_
            first | refine awl_load_one ti3_LvC rfl rfl rfl rfl ?_ | refine awl_load_ione ti3_LvC rfl rfl rfl ?_
            refine awl_guard_yes rfl (by first | exact h0 | exact decide_eq_true h0 | exact decide_eq_false h0) rfl rfl ?_
            refine awl_move rfl rfl ?_
            refine awl_guard_yes rfl (by first | exact h0 | exact decide_eq_true h0 | exact decide_eq_false h0) rfl rfl ?_
            refine x_len si41_LvC rfl rfl rfl (fun hlen71 => ?_)
            refine awl_guard_yes rfl (by first | exact h0 | exact decide_eq_true h0 | exact decide_eq_false h0) rfl rfl ?_
            refine awl_bin rfl rfl rfl rfl bin_lss ?_
            refine awl_pick_t (by first | exact h0 | exact decide_eq_true h0 | exact decide_eq_false h0) rfl rfl rfl ?_
            refine awl_nil ?_
            change AWp _ _ _ _ _ _
            first | refine awp_cond_p rfl (fun n1 => ?_) (fun n1 => ?_) | refine awp_cond rfl (fun n1 => ?_) (fun n1 => ?_)
            · skip
              have hrow2 := ints_at h0 (by simpa using n1)
              refine awp_seq ?_
              refine awp_region ?_
              refine awl_move rfl rfl ?_
              first | refine awl_fieldAddr fi39_1_LvC rfl rfl ?_ | refine awl_fieldAddr_i fi39_1_LvC rfl rfl rfl ?_
              first | refine awl_load_one ti3_LvC rfl rfl rfl rfl ?_ | refine awl_load_ione ti3_LvC rfl rfl rfl ?_
              refine x_index si41_LvC ti3_LvC rfl rfl rfl rfl (by omega) (by first | omega | (simp only [List.length_map]; omega) | (simp; omega)) (by assumption) rfl ?_
              first | refine awl_load_one ti3_LvC rfl rfl rfl rfl ?_ | refine awl_load_ione ti3_LvC rfl rfl rfl ?_
              refine awl_max rfl rfl rfl ?_
              refine awl_min rfl rfl rfl ?_
              refine awl_assign rfl rfl ?_
              refine awl_nil ?_
              change AWp _ _ _ _ _ _
              refine awp_ret ?_
              change Ends _ _ _ _ _ _
              refine ends1 [] rfl (.tmp rfl) ?_ rfl
              refine ⟨I_eq ?_, rfl⟩; rw [he]; simp [evK, k4, h0, show t.n < (at_.length : Int) by simpa using n1]
            · skip
              refine awp_skip ?_
              change AWp _ _ _ _ _ _
              refine awp_seq ?_
              refine awp_region ?_
              refine awl_assign rfl rfl ?_
              refine awl_nil ?_
              change AWp _ _ _ _ _ _
              refine awp_ret ?_
              change Ends _ _ _ _ _ _
              refine ends1 [] rfl (.tmp rfl) ?_ rfl
              refine ⟨I_eq ?_, rfl⟩; rw [he]; simp [evK, k4, show ¬ t.n < (at_.length : Int) by simpa using n1]
          · skip
            refine awl_guard_no rfl (by first | exact h0 | exact decide_eq_true h0 | exact decide_eq_false h0) rfl rfl rfl rfl ?_
            refine awl_guard_no rfl (by first | exact h0 | exact decide_eq_true h0 | exact decide_eq_false h0) rfl rfl rfl rfl ?_
            refine awl_guard_no rfl (by first | exact h0 | exact decide_eq_true h0 | exact decide_eq_false h0) rfl rfl rfl rfl ?_
            refine awl_guard_no rfl (by first | exact h0 | exact decide_eq_true h0 | exact decide_eq_false h0) rfl rfl rfl rfl ?_
            refine awl_guard_no rfl (by first | exact h0 | exact decide_eq_true h0 | exact decide_eq_false h0) rfl rfl rfl rfl ?_
            refine awl_pick_f (by first | exact h0 | exact decide_eq_true h0 | exact decide_eq_false h0) rfl rfl rfl ?_
            refine awl_nil ?_
            change AWp _ _ _ _ _ _
            refine awp_cond_f rfl rfl ?_
            refine awp_skip ?_
            change AWp _ _ _ _ _ _
            refine awp_seq ?_
            refine awp_region ?_
            refine awl_assign rfl rfl ?_
            refine awl_nil ?_
            change AWp _ _ _ _ _ _
            refine awp_ret ?_
            change Ends _ _ _ _ _ _
            refine ends1 [] rfl (.tmp rfl) ?_ rfl
            refine ⟨I_eq ?_, rfl⟩; rw [he]; simp [evK, k4, h0]
        · skip
          refine awp_skip ?_
          change AWp _ _ _ _ _ _
          refine awp_seq ?_
          refine awp_region ?_
          refine awl_assign rfl rfl ?_
          refine awl_nil ?_
          change AWp _ _ _ _ _ _
          refine awp_ret ?_
          change Ends _ _ _ _ _ _
          refine ends1 [] rfl (.tmp rfl) ?_ rfl
          refine ⟨I_eq ?_, rfl⟩; rw [he]; simp [evK, k1, k2, k3, k4]
termination_by SizeOf.sizeOf t
decreasing_by exact Lvl.lt ha

end Go.Ab.Ytfgndomaadikoaa
